/- Parts of a proof, merged by program: F54 F25 F6 F28 F7 F34 F80 F81 F82 F83 F58 F84 F59 F60 F61 F29 F85 F62. The walks (each function once) and the plain laws; no condition of their own. -/
import Derived.Test.YtfjppgobidjndaaGreatDoorMrg3
set_option linter.unusedVariables false
set_option linter.unusedSimpArgs false
set_option maxRecDepth 20000
set_option maxHeartbeats 4000000
namespace Go.Proofs.YtfjppgobidjndaaGreatDoor
open Go.RowKit Go.M
def oO.f (k:Nat) (a0:aQ) (a1:aZ) (a2:aQ) (a3:aZ):Option (Bool):=if ((((a1.aA !=a3.aA)||(!(strEq a1.aF a3.aF)))||(!((a1.aY.aU==a3.aY.aU)&&((a1.aY.aJ==a3.aY.aJ)&&true))))||(a1.vN !=a3.vN))=true then (some false) else ((nV.f).bind fun v1=>((if (true&&(((bM ieq v1 a1.aA).getD aI).mD==true))=true then fB.f k a0 a1.bY else some ByteArray.empty).bind fun v2=>((if (true&&(((bM ieq v1 a1.aA).getD aI).mD==true))=true then fB.f k a2 a3.bY else some ByteArray.empty).bind fun v3=>(if (((bM ieq v1 a1.aA).getD aI).mD&&(!(strEq v2 v3)))=true then (some false) else ((aV.f k a1.ak a3.ak (fun z0 z1=>nG.f k z0 z1 a1 a0 a2)).bind fun v4=>(some v4))))))
theorem oO.calls (k:Nat) (a0:aQ) (a1:aZ) (a2:aQ) (a3:aZ) (bQ:Option Addr) (bT:Nat) (rG:Option Addr) (rH:Nat) (lV:Option Addr) (mG:Nat) (Ia:Option Addr) (Ib:Nat) {h0:View} {w0:World} (hv:lS h0 w0) (ht:Tab w0) (fK:Rd bI h0 bQ a0.au) (iF:a0.au.length≤bT) (AU:Rd dw h0 rG a1.ak) (Du:a1.ak.length≤rH) (pY:Rd bI h0 lV a2.au) (vY:a2.au.length≤mG) (TJ:Rd dw h0 Ia a3.ak) (U9:a3.ak.length≤Ib) {r:Bool} (H:oO.f k a0 a1 a2 a3=some r):Calls Tryz.prog 54 #[Value.agg #[vL bQ a0.au.length bT],Value.agg #[vI a1.aA,vS a1.aF,vI a1.aY.aU,vB a1.aY.aJ,vI a1.bY,vI a1.vN,vL rG a1.ak.length rH],Value.agg #[vL lV a2.au.length mG],Value.agg #[vI a3.aA,vS a3.aF,vI a3.aY.aU,vB a3.aY.aJ,vI a3.bY,vI a3.vN,vL Ia a3.ak.length Ib]] w0 (fun e w1=>e= .returned (vB r)∧Ext w0 w1):=by
 unfold oO.f at H
 have HS:St [] h0 w0 h0 [] w0:=St.init hv
 go_enter Tryz.func54,Tryz.ntmps54
 refine Al<|Ao<|dF X X (eF (cs:=#[vL bQ a0.au.length bT]) X X) ?_
 rintro w1 _ hE1 ⟨b1,rfl,ge1,hb1⟩
 have HS1:=HS.new hE1 ge1 hb1
 refine dF X X (eF (cs:=#[vI a1.aA,vS a1.aF,vI a1.aY.aU,vB a1.aY.aJ,vI a1.bY,vI a1.vN,vL rG a1.ak.length rH]) X X) ?_
 rintro w2 _ hE2 ⟨b2,rfl,ge2,hb2⟩
 have HS2:=HS1.new hE2 ge2 hb2
 refine dF X X (eF (cs:=#[vL lV a2.au.length mG]) X X) ?_
 rintro w3 _ hE3 ⟨b3,rfl,ge3,hb3⟩
 have HS3:=HS2.new hE3 ge3 hb3
 refine dF X X (eF (cs:=#[vI a3.aA,vS a3.aF,vI a3.aY.aU,vB a3.aY.aJ,vI a3.bY,vI a3.vN,vL Ia a3.ak.length Ib]) X X) ?_
 rintro w4 _ hE4 ⟨b4,rfl,ge4,hb4⟩
 have HS4:=HS3.new hE4 ge4 hb4
 refine aK (by simp only [sc0,sc1];rfl) ?_
 refine rs (vB false) (aG X) ?_
 try simp only [sc0,sc1]
 refine aB<|ay<|Al<|Al<|Ao<|rs (vP b2 0) (aH (n:=1) (o':=0) X An X As (by decide) X)<|rs (vI a1.aA) (aN X AC (HS4.look 2 X) X)<|rs (vP b4 0) (aH (n:=1) (o':=0) X An X As (by decide) X)<|rs (vI a3.aA) (aN X AC (HS4.look 0 X) X)<|aK (by simp only [sc0,sc1];rfl) ?_
 refine rs (vB (a1.aA !=a3.aA)) (bW X X X)<|rs (vB (a1.aA !=a3.aA)) (aO X)<|rgs (a1.aA !=a3.aA) true (vP b2 1) X X X X (fun hg=>(aH (n:=1) (o':=1) X An X AW (by decide) X))<|rgs (a1.aA !=a3.aA) true (vS a1.aF) X X X X (fun hg=>(aN (gvt (vP b2 1) hg X) Be (HS4.look 2 X) X))<|aK (by simp only [sc0,sc1];rfl) ?_
 refine rgs (a1.aA !=a3.aA) true (vP b4 1) X X X X (fun hg=>(aH (n:=1) (o':=1) X An X AW (by decide) X))<|rgs (a1.aA !=a3.aA) true (vS a3.aF) X X X X (fun hg=>(aN (gvt (vP b4 1) hg X) Be (HS4.look 0 X) X))<|rgs (a1.aA !=a3.aA) true (vB (!(strEq a1.aF a3.aF))) X X X X (fun hg=>(ql (gvt (vS a1.aF) hg X) (gvt (vS a3.aF) hg X)))<|rs (vB ((a1.aA !=a3.aA)||(!(strEq a1.aF a3.aF)))) (dQ X X (fun hp=>(gvt (vB (!(strEq a1.aF a3.aF))) (gQ X hp) X)))<|aK (by simp only [sc0,sc1];rfl) ?_
 refine rs (vB ((a1.aA !=a3.aA)||(!(strEq a1.aF a3.aF)))) (aO X)<|rgs ((a1.aA !=a3.aA)||(!(strEq a1.aF a3.aF))) true (vP b2 2) X X X X (fun hg=>(aH (n:=2) (o':=2) X An X Bk (by decide) X))<|rgs ((a1.aA !=a3.aA)||(!(strEq a1.aF a3.aF))) true (Value.agg #[vI a1.aY.aU,vB a1.aY.aJ]) X X X X (fun hg=>(aT (n:=2) (vs:=[vI a1.aY.aU,vB a1.aY.aJ]) (gvt (vP b2 2) hg X) Ca (HS4.look 2 X) Bk X X))<|rgs ((a1.aA !=a3.aA)||(!(strEq a1.aF a3.aF))) true (vP b4 2) X X X X (fun hg=>(aH (n:=2) (o':=2) X An X Bk (by decide) X))<|aK (by simp only [sc0,sc1];rfl) ?_
 refine rgs ((a1.aA !=a3.aA)||(!(strEq a1.aF a3.aF))) true (Value.agg #[vI a3.aY.aU,vB a3.aY.aJ]) X X X X (fun hg=>(aT (n:=2) (vs:=[vI a3.aY.aU,vB a3.aY.aJ]) (gvt (vP b4 2) hg X) Ca (HS4.look 0 X) Bk X X))<|rgs ((a1.aA !=a3.aA)||(!(strEq a1.aF a3.aF))) true (vB (!((a1.aY.aU==a3.aY.aU)&&((a1.aY.aJ==a3.aY.aJ)&&true)))) X X X X (fun hg=>(BO (gvt (Value.agg #[vI a1.aY.aU,vB a1.aY.aJ]) hg X) (gvt (Value.agg #[vI a3.aY.aU,vB a3.aY.aJ]) hg X) Tryz.eqGuardType55 (Az Tryz.stoodInHeld55 Ch (pJ (by decide) (jR AC X) (jR AC X) (zf B9) (pJ (by decide) (jR By X) (jR By X) (zH Cg) Aw)))))<|rs (vB (((a1.aA !=a3.aA)||(!(strEq a1.aF a3.aF)))||(!((a1.aY.aU==a3.aY.aU)&&((a1.aY.aJ==a3.aY.aJ)&&true))))) (dQ X X (fun hp=>(gvt (vB (!((a1.aY.aU==a3.aY.aU)&&((a1.aY.aJ==a3.aY.aJ)&&true)))) (gQ X hp) X)))<|rs (vB (((a1.aA !=a3.aA)||(!(strEq a1.aF a3.aF)))||(!((a1.aY.aU==a3.aY.aU)&&((a1.aY.aJ==a3.aY.aJ)&&true))))) (aO X)<|aK (by simp only [sc0,sc1];rfl) ?_
 refine rgs (((a1.aA !=a3.aA)||(!(strEq a1.aF a3.aF)))||(!((a1.aY.aU==a3.aY.aU)&&((a1.aY.aJ==a3.aY.aJ)&&true)))) true (vP b2 5) X X X X (fun hg=>(aH (n:=1) (o':=5) X An X As (by decide) X))<|rgs (((a1.aA !=a3.aA)||(!(strEq a1.aF a3.aF)))||(!((a1.aY.aU==a3.aY.aU)&&((a1.aY.aJ==a3.aY.aJ)&&true)))) true (vI a1.vN) X X X X (fun hg=>(aN (gvt (vP b2 5) hg X) AC (HS4.look 2 X) X))<|rgs (((a1.aA !=a3.aA)||(!(strEq a1.aF a3.aF)))||(!((a1.aY.aU==a3.aY.aU)&&((a1.aY.aJ==a3.aY.aJ)&&true)))) true (vP b4 5) X X X X (fun hg=>(aH (n:=1) (o':=5) X An X As (by decide) X))<|rgs (((a1.aA !=a3.aA)||(!(strEq a1.aF a3.aF)))||(!((a1.aY.aU==a3.aY.aU)&&((a1.aY.aJ==a3.aY.aJ)&&true)))) true (vI a3.vN) X X X X (fun hg=>(aN (gvt (vP b4 5) hg X) AC (HS4.look 0 X) X))<|aK (by simp only [sc0,sc1];rfl) ?_
 refine rgs (((a1.aA !=a3.aA)||(!(strEq a1.aF a3.aF)))||(!((a1.aY.aU==a3.aY.aU)&&((a1.aY.aJ==a3.aY.aJ)&&true)))) true (vB (a1.vN !=a3.vN)) X X X X (fun hg=>(bW (gvt (vI a1.vN) hg X) (gvt (vI a3.vN) hg X) X))<|rs (vB ((((a1.aA !=a3.aA)||(!(strEq a1.aF a3.aF)))||(!((a1.aY.aU==a3.aY.aU)&&((a1.aY.aJ==a3.aY.aJ)&&true))))||(a1.vN !=a3.vN))) (dQ X X (fun hp=>(gvt (vB (a1.vN !=a3.vN)) (gQ X hp) X))) ?_
 try simp only [sc0,sc1]
 refine aB<|ay<|Av (t:=((((a1.aA !=a3.aA)||(!(strEq a1.aF a3.aF)))||(!((a1.aY.aU==a3.aY.aU)&&((a1.aY.aJ==a3.aY.aJ)&&true))))||(a1.vN !=a3.vN))) X (fun c1=>?_) (fun c1=>?_)
 ·replace H:=bU H c1
  refine Al<|Ao<|rs (vB false) (aG X) ?_
  try simp only [sc0,sc1]
  refine aB<|ay<|AT<|bP ?_
  obtain rfl:=Ab H
  exact Ay (bD X (bK X)) X<|⟨X,HS4.toE⟩
 ·replace H:=cO H (nt c1)
  refine AN<|ay<|Al<|Al ?_
  obtain ⟨v1,H1,H⟩:=bn H
  obtain ⟨v2,H2,H⟩:=bn H
  obtain ⟨v3,H3,H⟩:=bn H
  refine drawn [.ex (xB w4 (vI) kP v1), .eq (vP b2 0), .eq (vI a1.aA), .eq (Value.agg #[vB (((bM ieq v1 a1.aA).getD aI).ny),vB (((bM ieq v1 a1.aA).getD aI).um),vB (((bM ieq v1 a1.aA).getD aI).mD),vB (((bM ieq v1 a1.aA).getD aI).vn),vB (((bM ieq v1 a1.aA).getD aI).kN)]), .eq (vB (((bM ieq v1 a1.aA).getD aI).mD)), .eq (vB (((bM ieq v1 a1.aA).getD aI).mD)), .eq (gv (true&&(((bM ieq v1 a1.aA).getD aI).mD==true)) (Value.agg #[vL bQ a0.au.length bT])), .eq (gv (true&&(((bM ieq v1 a1.aA).getD aI).mD==true)) (vP b2 4)), .eq (gv (true&&(((bM ieq v1 a1.aA).getD aI).mD==true)) (vI a1.bY)), .eq (gv (true&&(((bM ieq v1 a1.aA).getD aI).mD==true)) (vS v2)), .eq (gv (true&&(((bM ieq v1 a1.aA).getD aI).mD==true)) (Value.agg #[vL lV a2.au.length mG])), .eq (gv (true&&(((bM ieq v1 a1.aA).getD aI).mD==true)) (vP b4 4)), .eq (gv (true&&(((bM ieq v1 a1.aA).getD aI).mD==true)) (vI a3.bY)), .eq (gv (true&&(((bM ieq v1 a1.aA).getD aI).mD==true)) (vS v3)), .eq (gv (true&&(((bM ieq v1 a1.aA).getD aI).mD==true)) (vB (!(strEq v2 v3)))), .eq (vB (((bM ieq v1 a1.aA).getD aI).mD&&(!(strEq v2 v3))))] [35,36,37,38,39,40,41,42,43,44,45,46,47,48,49,50] rM (by kernel_rfl) X (vV xB.stable (aP (aP (aP (aP (aP (aP (aP (aP (aP (aP (aP (aP (aP (aP (aP iJ)))))))))))))))) ⟨aX X (fun a' w' hE hk=>by exact iQ CM X (Ej hE (nV.calls (HS4.step hE).sees H1)) X),aX X (fun a' w' hE hk=>by exact aW (aH (n:=1) (o':=0) (show _=vP b2 0 from hk 5 X) An X As (by decide) X)),aX X (fun a' w' hE hk=>by exact aW (aN (show _=vP b2 0 from hk 36 X) AC ((HS4.step hE).look 2 X) X)),aX X (fun a' w' hE hk=>by obtain ⟨_,_,_,e35,_,XP,XQ⟩:=hk 35 X;have HSd:=HS4.step hE;exact aW (yU (og Bn) (k:=a1.aA) (m:=v1) (ev:=kP) aI e35 (show _=vI a1.aA from hk 37 X) BW B1 XP XQ)),aX X (fun a' w' hE hk=>by exact aW (Ih (show _=Value.agg #[vB (((bM ieq v1 a1.aA).getD aI).ny),vB (((bM ieq v1 a1.aA).getD aI).um),vB (((bM ieq v1 a1.aA).getD aI).mD),vB (((bM ieq v1 a1.aA).getD aI).vn),vB (((bM ieq v1 a1.aA).getD aI).kN)] from hk 38 X) Bt X By X)),aX X (fun a' w' hE hk=>by exact aW (aO (show _=vB (((bM ieq v1 a1.aA).getD aI).mD) from hk 39 X))),dA (b:=((bM ieq v1 a1.aA).getD aI).mD) (c:=true) X X (by decide) (fun w' u hu=>hu) (fun a' w' hE hk hg=>by exact aW (aT (n:=1) (vs:=[vL bQ a0.au.length bT]) (show _=vP b1 0 from hk 4 X) AI ((HS4.step hE).look 3 X) AD X X)),dA (b:=((bM ieq v1 a1.aA).getD aI).mD) (c:=true) X X (by decide) (fun w' u hu=>hu) (fun a' w' hE hk hg=>by exact aW (aH (n:=1) (o':=4) (show _=vP b2 0 from hk 5 X) An X As (by decide) X)),dA (b:=((bM ieq v1 a1.aA).getD aI).mD) (c:=true) X X (by decide) (fun w' u hu=>hu) (fun a' w' hE hk hg=>by exact aW (aN ((show _=gv (true&&(((bM ieq v1 a1.aA).getD aI).mD==true)) (vP b2 4) from (show _=gv (true&&(((bM ieq v1 a1.aA).getD aI).mD==true)) (vP b2 4) from hk 42 X)).trans (lW hg)) AC ((HS4.step hE).look 2 X) X)),dA (b:=((bM ieq v1 a1.aA).getD aI).mD) (c:=true) X X (by decide) (fun w' u hu=>hu) (fun a' w' hE hk hg=>by have HSd:=HS4.step hE;exact (bC Cd X (wF ((show _=gv (true&&(((bM ieq v1 a1.aA).getD aI).mD==true)) (Value.agg #[vL bQ a0.au.length bT]) from (show _=gv (true&&(((bM ieq v1 a1.aA).getD aI).mD==true)) (Value.agg #[vL bQ a0.au.length bT]) from hk 41 X)).trans (lW hg)) ((show _=gv (true&&(((bM ieq v1 a1.aA).getD aI).mD==true)) (vI a1.bY) from (show _=gv (true&&(((bM ieq v1 a1.aA).getD aI).mD==true)) (vI a1.bY) from hk 43 X)).trans (lW hg))) (fB.calls k a0 a1.bY bQ bT HSd.sees (ht.s HSd) fK iF (bU H2 hg)))),dA (b:=((bM ieq v1 a1.aA).getD aI).mD) (c:=true) X X (by decide) (fun w' u hu=>hu) (fun a' w' hE hk hg=>by exact aW (aT (n:=1) (vs:=[vL lV a2.au.length mG]) (show _=vP b3 0 from hk 6 X) AI ((HS4.step hE).look 1 X) AD X X)),dA (b:=((bM ieq v1 a1.aA).getD aI).mD) (c:=true) X X (by decide) (fun w' u hu=>hu) (fun a' w' hE hk hg=>by exact aW (aH (n:=1) (o':=4) (show _=vP b4 0 from hk 7 X) An X As (by decide) X)),dA (b:=((bM ieq v1 a1.aA).getD aI).mD) (c:=true) X X (by decide) (fun w' u hu=>hu) (fun a' w' hE hk hg=>by exact aW (aN ((show _=gv (true&&(((bM ieq v1 a1.aA).getD aI).mD==true)) (vP b4 4) from (show _=gv (true&&(((bM ieq v1 a1.aA).getD aI).mD==true)) (vP b4 4) from hk 46 X)).trans (lW hg)) AC ((HS4.step hE).look 0 X) X)),dA (b:=((bM ieq v1 a1.aA).getD aI).mD) (c:=true) X X (by decide) (fun w' u hu=>hu) (fun a' w' hE hk hg=>by have HSd:=HS4.step hE;exact (bC Cd X (wF ((show _=gv (true&&(((bM ieq v1 a1.aA).getD aI).mD==true)) (Value.agg #[vL lV a2.au.length mG]) from (show _=gv (true&&(((bM ieq v1 a1.aA).getD aI).mD==true)) (Value.agg #[vL lV a2.au.length mG]) from hk 45 X)).trans (lW hg)) ((show _=gv (true&&(((bM ieq v1 a1.aA).getD aI).mD==true)) (vI a3.bY) from (show _=gv (true&&(((bM ieq v1 a1.aA).getD aI).mD==true)) (vI a3.bY) from hk 47 X)).trans (lW hg))) (fB.calls k a2 a3.bY lV mG HSd.sees (ht.s HSd) pY vY (bU H3 hg)))),dA (b:=((bM ieq v1 a1.aA).getD aI).mD) (c:=true) X X (by decide) (fun w' u hu=>hu) (fun a' w' hE hk hg=>by exact aW (ql ((show _=gv (true&&(((bM ieq v1 a1.aA).getD aI).mD==true)) (vS v2) from (show _=gv (true&&(((bM ieq v1 a1.aA).getD aI).mD==true)) (vS v2) from hk 44 X)).trans (lW hg)) ((show _=gv (true&&(((bM ieq v1 a1.aA).getD aI).mD==true)) (vS v3) from (show _=gv (true&&(((bM ieq v1 a1.aA).getD aI).mD==true)) (vS v3) from hk 48 X)).trans (lW hg)))),aX X (fun a' w' hE hk=>by exact aW (dL (show _=vB (((bM ieq v1 a1.aA).getD aI).mD) from hk 40 X) (fun hp=>((show _=gv (true&&(((bM ieq v1 a1.aA).getD aI).mD==true)) (vB (!(strEq v2 v3))) from (show _=gv (true&&(((bM ieq v1 a1.aA).getD aI).mD==true)) (vB (!(strEq v2 v3))) from hk 49 X)).trans (lW (gQ X hp)))) X)),trivial⟩ ?_
  intro w5 hE5
  simp only [List.zip_cons_cons,List.zip_nil_left,List.zip_nil_right,vO,sc0,sc1,List.length_cons,List.length_nil,List.drop_succ_cons,List.drop_zero,Nat.zero_add,Nat.reduceAdd]
  rintro _ ⟨b5,es1,cl1,rfl,ge5,hb5,ho1⟩
  have HS5:=HS4.new hE5 ge5 hb5
  refine aB<|ay<|Av (t:=(((bM ieq v1 a1.aA).getD aI).mD&&(!(strEq v2 v3)))) X (fun c2=>?_) (fun c2=>?_)
  ·replace H:=bU H c2
   refine Al<|Ao<|rs (vB false) (aG X) ?_
   try simp only [sc0,sc1]
   refine aB<|ay<|AT<|bP ?_
   obtain rfl:=Ab H
   exact Ay (bD X (bK X)) X<|⟨X,HS5.toE⟩
  ·replace H:=cO H (nt c2)
   refine AN<|ay<|Al<|Ao<|rs (vP b2 6) (aH (n:=1) (o':=6) X An X A4 (by decide) X)<|rs (vL rG a1.ak.length rH) (aN X Bs (HS5.look 3 X) X)<|rs (vP b4 6) (aH (n:=1) (o':=6) X An X A4 (by decide) X)<|rs (vL Ia a3.ak.length Ib) (aN X Bs (HS5.look 1 X) X)<|aK (by simp only [sc0,sc1];rfl) ?_
   refine rs (Value.func (.func 79) #[] #[vP b2 0,vP b1 0,vP b3 0]) (qC (vs:=[vP b2 0,vP b1 0,vP b3 0]) X) ?_
   obtain ⟨v4,H4,H⟩:=bn H
   refine run_eq (v:=vB v4) X X (bC Tryz.call78 X X (aV.calls k a1.ak a3.ak (fun z0 z1=>nG.f k z0 z1 a1 a0 a2) rG rH Ia Ib 79 [vP b2 0,vP b1 0,vP b3 0] HS5.sees AU Du TJ U9 Tryz.call79 (fun z0 z1 h w hE hs hv r H=>nG.calls k z0 z1 a1 a0 a2 b2 rG rH b1 bQ bT b3 lV mG hv ((ht.s HS5).e hE) (AU.ext hs) Du (kD (HS5.look 3 X) hE) (fK.ext hs) iF (kD (HS5.look 4 X) hE) (pY.ext hs) vY (kD (HS5.look 2 X) hE) H) H4)) ?_
   intro w6 hE6
   have HS6:=HS5.step hE6
   refine rs (vB v4) (aG X) ?_
   try simp only [sc0,sc1]
   refine aB<|ay<|AT ?_
   obtain rfl:=Ab H
   exact Ay (bD X (bK X)) X<|⟨X,HS6.toE⟩
def jU.l0 (k:Nat) (a0:aQ) (a2:aQ) (ou:Int) (Xj:Bool):Option ((Bool)⊕Unit):=if 0≤ou∧ou<a0.au.length then ((jH.f (rd ah a0.au ou)).bind fun v4=>(if v4=true then ((mP.f k a2 ((rd ah a0.au ou).aF)).bind fun v5=>(if (true&&((decide (v5<0))==false))=true→(0≤v5∧v5<a2.au.length) then ((if (true&&((decide (v5<0))==false))=true then oO.f k a0 (rd ah a0.au ou) a2 (rd ah a2.au v5) else some false).bind fun v6=>(if ((decide (v5<0))||(!v6))=true then (some (.inl false)) else (some (.inr ())))) else none)) else (some (.inr ())))) else none
def jU.f (k:Nat) (a0:aQ) (a1:Int) (a2:aQ) (a3:Int):Option (Bool):=(fB.f k a0 a1).bind fun v1=>((fB.f k a2 a3).bind fun v2=>(if (!(strEq v1 v2))=true then (some false) else ((jf.f k a0 ([a1]:List Int)).bind fun v3=>((KA (jU.l0 k a0 a2) v3).bind fun xx1=>(match xx1 with| .inl r=>some r| .inr s1=>some true)))))
theorem jU.calls (k:Nat) (a0:aQ) (a1:Int) (a2:aQ) (a3:Int) (bQ:Option Addr) (bT:Nat) (lV:Option Addr) (mG:Nat) {h0:View} {w0:World} (hv:lS h0 w0) (ht:Tab w0) (fK:Rd bI h0 bQ a0.au) (iF:a0.au.length≤bT) (pY:Rd bI h0 lV a2.au) (vY:a2.au.length≤mG) {r:Bool} (H:jU.f k a0 a1 a2 a3=some r):Calls Tryz.prog 25 #[Value.agg #[vL bQ a0.au.length bT],vI a1,Value.agg #[vL lV a2.au.length mG],vI a3] w0 (fun e w1=>e= .returned (vB r)∧Ext w0 w1):=by
 unfold jU.f at H
 have HS:St [] h0 w0 h0 [] w0:=St.init hv
 go_enter Tryz.func25,Tryz.ntmps25
 refine Al<|Ao<|dF X X (eF (cs:=#[vL bQ a0.au.length bT]) X X) ?_
 rintro w1 _ hE1 ⟨b1,rfl,ge1,hb1⟩
 have HS1:=HS.new hE1 ge1 hb1
 refine dF X X (eF (cs:=#[vL lV a2.au.length mG]) X X) ?_
 rintro w2 _ hE2 ⟨b2,rfl,ge2,hb2⟩
 have HS2:=HS1.new hE2 ge2 hb2
 refine rs (vB false) (aG X) ?_
 try simp only [sc0,sc1]
 refine aB<|ay<|Al<|Al ?_
 obtain ⟨v1,H1,H⟩:=bn H
 obtain ⟨v2,H2,H⟩:=bn H
 refine drawn [.eq (Value.agg #[vL bQ a0.au.length bT]), .eq (vI a1), .eq (vS v1), .eq (Value.agg #[vL lV a2.au.length mG]), .eq (vI a3), .eq (vS v2), .eq (vB (!(strEq v1 v2)))] [12,13,14,15,16,17,18] rM (by kernel_rfl) X (aP (aP (aP (aP (aP (aP (aP iJ))))))) ⟨aX X (fun a' w' hE hk=>by exact aW (aT (n:=1) (vs:=[vL bQ a0.au.length bT]) (show _=vP b1 0 from hk 4 X) AI ((HS2.step hE).look 1 X) AD X X)),aX X (fun a' w' hE hk=>by exact aW (aO (show _=vI a1 from hk 1 X))),aX X (fun a' w' hE hk=>by have HSd:=HS2.step hE;exact (bC Cd X (wF (show _=Value.agg #[vL bQ a0.au.length bT] from hk 12 X) (show _=vI a1 from hk 13 X)) (fB.calls k a0 a1 bQ bT HSd.sees (ht.s HSd) fK iF H1))),aX X (fun a' w' hE hk=>by exact aW (aT (n:=1) (vs:=[vL lV a2.au.length mG]) (show _=vP b2 0 from hk 6 X) AI ((HS2.step hE).look 0 X) AD X X)),aX X (fun a' w' hE hk=>by exact aW (aO (show _=vI a3 from hk 3 X))),aX X (fun a' w' hE hk=>by have HSd:=HS2.step hE;exact (bC Cd X (wF (show _=Value.agg #[vL lV a2.au.length mG] from hk 15 X) (show _=vI a3 from hk 16 X)) (fB.calls k a2 a3 lV mG HSd.sees (ht.s HSd) pY vY H2))),aX X (fun a' w' hE hk=>by exact aW (ql (show _=vS v1 from hk 14 X) (show _=vS v2 from hk 17 X))),trivial⟩ ?_
 intro w3 hE3
 simp only [List.zip_cons_cons,List.zip_nil_left,List.zip_nil_right,vO,sc0,sc1,List.length_cons,List.length_nil,List.drop_succ_cons,List.drop_zero,Nat.zero_add,Nat.reduceAdd]
 have HS3:=HS2.step hE3
 refine aB<|ay<|Av (t:=(!(strEq v1 v2))) X (fun c1=>?_) (fun c1=>?_)
 ·replace H:=bU H c1
  refine Al<|Ao<|rs (vB false) (aG X) ?_
  try simp only [sc0,sc1]
  refine aB<|ay<|AT<|bP ?_
  obtain rfl:=Ab H
  exact Ay (bD X (bK X)) X<|⟨X,HS3.toE⟩
 ·replace H:=cO H (nt c1)
  refine AN<|ay<|Al<|Al<|Ao<|rs (Value.agg #[vL bQ a0.au.length bT]) (aT (n:=1) (vs:=[vL bQ a0.au.length bT]) X AI (HS3.look 1 X) AD X X)<|rs (vI a1) (aO X)<|ng (Kd.int .i64) (xs:=([a1]:List Int)) (n:=1) (cs:=[vI a1]) AG Br Bb X X (by decide) (by decide) (by decide) [vI a1] (jd.trans X) X X X X (fH (qs:=[vI a1]) X (jc (cs:=[]))) HS3 ?_
  intro w4 b3 HS4 ho1
  obtain ⟨v3,H3,H⟩:=bn H
  obtain ⟨hl1,hs1,se1,Qe⟩:=zI HS4 (i:=0) rfl ho1
  refine dF X X (iQ Tryz.call26 (wF X (show _=vL (rowA (some b3)) ([a1]:List Int).length 1 from by rw [ho1.len];exact X)) (Ej (wz:=w4) (ek:=(vI)) (ev:=vB) (m:=v3) (Ext.rfl' _) (jf.calls k a0 ([a1]:List Int) bQ bT (rowA (some b3)) 1 se1 (fK.ext hs1) iF Qe ho1.cap H3)) X) ?_
  rintro w5 _ hE4 ⟨b4,es1,cl1,rfl,ge3,hb3,ho2⟩
  have HS5:=HS4.new hE4 ge3 hb3
  refine aK (by simp only [sc0,sc1];rfl) ?_
  refine MO (i:=0) X Tryz.underlying72 HS5 X ?_
  intro w6 b5 HS6
  try simp only [sc0,sc1]
  refine aB<|ay ?_
  obtain ⟨xx1,H,G1⟩:=bn H
  refine jB [8,9,10,11,24,25,26,27,28,29,30,31,32,33,34,35,36,37,38,39,40,41,42,43,44,45,46,47,48,49,50,51,52] (fun m us w'=>∃(Pq:Array Nat) (VQ:Nat),Fit us (fun uy1=>[(uy1 0),(uy1 1),(uy1 2),(uy1 3),(uy1 4),(uy1 5),(uy1 6),(uy1 7),(uy1 8),(uy1 9),(uy1 10),(uy1 11),(uy1 12),(uy1 13),(uy1 14),(uy1 15),(uy1 16),(uy1 17),(uy1 18),(uy1 19),(uy1 20),(uy1 21),(uy1 22),(uy1 23),(uy1 24),(uy1 25),(uy1 26),(uy1 27),(uy1 28),(uy1 29),(uy1 30),(uy1 31),(uy1 32)])∧(leftOf es1 Pq).size<m∧cl1≤VQ∧Gone (jU.l0 k a0 a2) v3 es1 Pq∧St [] h0 w0 h0 [(some b5, .mapIter (some b4) cl1 Pq VQ),(some b4, .map es1 cl1),((some b3), .cells ([vI a1]).toArray 3 (0,0)),(some b2, .cells #[vL lV a2.au.length mG] 24 (0,0)),(some b1, .cells #[vL bQ a0.au.length bT] 24 (0,0))] w') (fun us w'=>∃(s1:Unit),xx1= .inr s1∧∃(Xk:Array Nat) (Xl:Nat),Fit us (fun uo1=>[(uo1 0),(uo1 1),(uo1 2),(uo1 3),(uo1 4),(uo1 5),(uo1 6),(uo1 7),(uo1 8),(uo1 9),(uo1 10),(uo1 11),(uo1 12),(uo1 13),(uo1 14),(uo1 15),(uo1 16),(uo1 17),(uo1 18),(uo1 19),(uo1 20),(uo1 21),(uo1 22),(uo1 23),(uo1 24),(uo1 25),(uo1 26),(uo1 27),(uo1 28),(uo1 29),(uo1 30),(uo1 31),(uo1 32)])∧St [] h0 w0 h0 [(some b5, .mapIter (some b4) cl1 Xk Xl),(some b4, .map es1 cl1),((some b3), .cells ([vI a1]).toArray 3 (0,0)),(some b2, .cells #[vL lV a2.au.length mG] 24 (0,0)),(some b1, .cells #[vL bQ a0.au.length bT] 24 (0,0))] w') ((leftOf es1 #[]).size+1) ⟨#[],cl1,(fit X),Nat.lt_succ_self _,Nat.le_refl _,V9,HS6⟩ ?_ ?_
  ·rintro m us w7 ⟨Pq,VQ,nO,Xm,XR,WB,HS7⟩
   obtain ⟨uy1,rfl⟩:=unj nO
   try simp only [patch,sc0,sc1]
   refine Al<|Ao<|Qa (i:=0) (j:=1) X HS7 X X XR ho2 ?_ ?_
   ·intro hle
    replace H:=P7 ho2 H WB hle
    refine rs (vB false) (gV X X) ?_
    try simp only [sc0,sc1]
    refine aB<|ay<|Al<|wp_cond_false X<|Bx<|eU ?_
    obtain rfl:=Ab H
    refine iK X ⟨_,X,Pq,VQ,(fit X),HS7⟩
   ·intro e1 ou Xj he1 hm1 hk1 hv1 w8 HS8
    obtain ⟨zz1,H,G2⟩:=P8 (fun r=>some r) H hm1 (fun a ea=>by subst ea;exact G1)
    have Hz1:=H
    rw [jU.l0] at H
    refine rs (vB true) (gV X X) ?_
    try simp only [sc0,sc1]
    refine aB<|ay<|Al<|wp_cond_true X<|AN<|ay<|wp_block<|Al<|Ao<|rs (Value.tuple #[vI ou,vB Xj]) (SA X HS8 (i:=0) (j:=1) X X ho2 hm1 hk1 hv1)<|rs (vI ou) (gV X X) ?_
    refine rs (vI ou) (aG X) ?_
    try simp only [sc0,sc1]
    refine aB<|ay<|Al<|Ao<|rs (vP b1 0) (aH (n:=1) (o':=0) X AE X AM (by decide) X)<|rs (vL bQ a0.au.length bT) (aN X AR (HS8.look 4 X) X)<|rs (vI ou) (aO X) ?_
    obtain ⟨hi1,H⟩:=dN H
    obtain ⟨ad1,dU,dY,e2,mJ,jS,iY⟩:=gK fK hi1.1 hi1.2
    refine rs (Value.pointer (some (Addr.add ad1 (ou.toNat*7)))) (dP (sz:=7) X e2 X hi1.1 hi1.2 AF AH)<|aK (by simp only [sc0,sc1];rfl) ?_
    refine rs (Value.agg #[vI ((rd ah a0.au ou).aA),vS ((rd ah a0.au ou).aF),vI ((rd ah a0.au ou).aY.aU),vB ((rd ah a0.au ou).aY.aJ),vI ((rd ah a0.au ou).bY),vI ((rd ah a0.au ou).vN),vL dU ((rd ah a0.au ou).ak).length dY]) (gG X A7 (mJ.sees HS8.sees) AH)<|dF X X (dO (cs:=#[vI 0,vS ByteArray.empty,vI 0,vB false,vI 0,vI 0,vL none 0 0]) A9 X) ?_
    rintro w9 _ hE5 ⟨b6,rfl,ge4,hb4⟩
    have HS9:=HS8.new hE5 ge4 hb4
    refine gJ (i:=0) (cs:=[vI 0,vS ByteArray.empty,vI 0,vB false,vI 0,vI 0,vL none 0 0]) (cs':=[vI ((rd ah a0.au ou).aA),vS ((rd ah a0.au ou).aF),vI ((rd ah a0.au ou).aY.aU),vB ((rd ah a0.au ou).aY.aJ),vI ((rd ah a0.au ou).bY),vI ((rd ah a0.au ou).vN),vL dU ((rd ah a0.au ou).ak).length dY]) (vs:=[vI ((rd ah a0.au ou).aA),vS ((rd ah a0.au ou).aF),vI ((rd ah a0.au ou).aY.aU),vB ((rd ah a0.au ou).aY.aJ),vI ((rd ah a0.au ou).bY),vI ((rd ah a0.au ou).vN),vL dU ((rd ah a0.au ou).ak).length dY]) (bs':=[(some b6, .cells #[vI ((rd ah a0.au ou).aA),vS ((rd ah a0.au ou).aF),vI ((rd ah a0.au ou).aY.aU),vB ((rd ah a0.au ou).aY.aJ),vI ((rd ah a0.au ou).bY),vI ((rd ah a0.au ou).vN),vL dU ((rd ah a0.au ou).ak).length dY] 58 (0,0)),(some b5, .mapIter (some b4) cl1 (Pq.push e1.born) cl1),(some b4, .map es1 cl1),((some b3), .cells ([vI a1]).toArray 3 (0,0)),(some b2, .cells #[vL lV a2.au.length mG] 24 (0,0)),(some b1, .cells #[vL bQ a0.au.length bT] 24 (0,0))]) X X AH X X (by decide) X HS9 X (Ax X) X X ?_
    intro w10 kF
    try simp only [sc0,sc1]
    refine aB<|ay<|Al<|Ao<|rs (Value.agg #[vI ((rd ah a0.au ou).aA),vS ((rd ah a0.au ou).aF),vI ((rd ah a0.au ou).aY.aU),vB ((rd ah a0.au ou).aY.aJ),vI ((rd ah a0.au ou).bY),vI ((rd ah a0.au ou).vN),vL dU ((rd ah a0.au ou).ak).length dY]) (aT (n:=7) (vs:=[vI ((rd ah a0.au ou).aA),vS ((rd ah a0.au ou).aF),vI ((rd ah a0.au ou).aY.aU),vB ((rd ah a0.au ou).aY.aJ),vI ((rd ah a0.au ou).bY),vI ((rd ah a0.au ou).vN),vL dU ((rd ah a0.au ou).ak).length dY]) X A7 (kF.look 0 X) AH X X) ?_
    obtain ⟨v4,H4,H⟩:=bn H
    refine run_eq (v:=vB v4) X X (bC CA X X (jH.calls (rd ah a0.au ou) dU dY kF.sees iY jS H4)) ?_
    intro w11 hE6
    have oC:=kF.step hE6
    try simp only [sc0,sc1]
    refine aB<|ay<|Av (t:=v4) X (fun c2=>?_) (fun c2=>?_)
    ·replace H:=bU H c2
     refine Al<|Ao<|rs (Value.agg #[vL lV a2.au.length mG]) (aT (n:=1) (vs:=[vL lV a2.au.length mG]) X AI (oC.look 4 X) AD X X)<|rs (vP b6 1) (aH (n:=1) (o':=1) X An X AW (by decide) X)<|rs (vS ((rd ah a0.au ou).aF)) (aN X Be (oC.look 0 X) X) ?_
     obtain ⟨v5,H5,H⟩:=bn H
     refine run_eq (v:=vI v5) X X (bC De X X (mP.calls k a2 ((rd ah a0.au ou).aF) lV mG oC.sees pY vY H5)) ?_
     intro w12 hE7
     have mW:=oC.step hE7
     refine aK (by simp only [sc0,sc1];rfl) ?_
     refine rs (vI v5) (aG X) ?_
     try simp only [sc0,sc1]
     refine aB<|ay<|Al ?_
     obtain ⟨hi2,H⟩:=dN H
     obtain ⟨ad2,mO,mX,hq1⟩:=gx3 (fun hC:(true&&((decide (v5<0))==false))=true=>gK pY (hi2 hC).1 (hi2 hC).2)
     obtain ⟨v6,H6,H⟩:=bn H
     refine drawn [.eq (vI v5), .eq (vB (decide (v5<0))), .eq (vB (decide (v5<0))), .eq (gv (true&&((decide (v5<0))==false)) (Value.agg #[vL bQ a0.au.length bT])), .eq (gv (true&&((decide (v5<0))==false)) (Value.agg #[vI ((rd ah a0.au ou).aA),vS ((rd ah a0.au ou).aF),vI ((rd ah a0.au ou).aY.aU),vB ((rd ah a0.au ou).aY.aJ),vI ((rd ah a0.au ou).bY),vI ((rd ah a0.au ou).vN),vL dU ((rd ah a0.au ou).ak).length dY])), .eq (gv (true&&((decide (v5<0))==false)) (Value.agg #[vL lV a2.au.length mG])), .eq (gv (true&&((decide (v5<0))==false)) (vP b2 0)), .eq (gv (true&&((decide (v5<0))==false)) (vL lV a2.au.length mG)), .eq (gv (true&&((decide (v5<0))==false)) (vI v5)), .eq (gv (true&&((decide (v5<0))==false)) (Value.pointer (some (Addr.add ad2 (v5.toNat*7))))), .eq (gv (true&&((decide (v5<0))==false)) (Value.agg #[vI ((rd ah a2.au v5).aA),vS ((rd ah a2.au v5).aF),vI ((rd ah a2.au v5).aY.aU),vB ((rd ah a2.au v5).aY.aJ),vI ((rd ah a2.au v5).bY),vI ((rd ah a2.au v5).vN),vL mO ((rd ah a2.au v5).ak).length mX])), .eq (gv (true&&((decide (v5<0))==false)) (vB v6)), .eq (gv (true&&((decide (v5<0))==false)) (vB (!v6))), .eq (vB ((decide (v5<0))||(!v6)))] [39,40,41,42,43,44,45,46,47,48,49,50,51,52] rM (by kernel_rfl) X (aP (aP (aP (aP (aP (aP (aP (aP (aP (aP (aP (aP (aP (aP iJ)))))))))))))) ⟨aX X (fun a' w' hE hk=>by exact aW (aO (show _=vI v5 from hk 11 X))),aX X (fun a' w' hE hk=>by exact aW (bW (show _=vI v5 from hk 39 X) X X)),aX X (fun a' w' hE hk=>by exact aW (aO (show _=vB (decide (v5<0)) from hk 40 X))),dA (b:=(decide (v5<0))) (c:=true) X X (by decide) (fun w' u hu=>hu) (fun a' w' hE hk hg=>by exact aW (aT (n:=1) (vs:=[vL bQ a0.au.length bT]) (show _=vP b1 0 from hk 4 X) AI ((mW.step hE).look 5 X) AD X X)),dA (b:=(decide (v5<0))) (c:=true) X X (by decide) (fun w' u hu=>hu) (fun a' w' hE hk hg=>by exact aW (aT (n:=7) (vs:=[vI ((rd ah a0.au ou).aA),vS ((rd ah a0.au ou).aF),vI ((rd ah a0.au ou).aY.aU),vB ((rd ah a0.au ou).aY.aJ),vI ((rd ah a0.au ou).bY),vI ((rd ah a0.au ou).vN),vL dU ((rd ah a0.au ou).ak).length dY]) (show _=vP b6 0 from hk 10 X) A7 ((mW.step hE).look 0 X) AH X X)),dA (b:=(decide (v5<0))) (c:=true) X X (by decide) (fun w' u hu=>hu) (fun a' w' hE hk hg=>by exact aW (aT (n:=1) (vs:=[vL lV a2.au.length mG]) (show _=vP b2 0 from hk 6 X) AI ((mW.step hE).look 4 X) AD X X)),dA (b:=(decide (v5<0))) (c:=true) X X (by decide) (fun w' u hu=>hu) (fun a' w' hE hk hg=>by exact aW (aH (n:=1) (o':=0) (show _=vP b2 0 from hk 6 X) AE X AM (by decide) X)),dA (b:=(decide (v5<0))) (c:=true) X X (by decide) (fun w' u hu=>hu) (fun a' w' hE hk hg=>by exact aW (aN ((show _=gv (true&&((decide (v5<0))==false)) (vP b2 0) from (show _=gv (true&&((decide (v5<0))==false)) (vP b2 0) from hk 45 X)).trans (lW hg)) AR ((mW.step hE).look 4 X) X)),dA (b:=(decide (v5<0))) (c:=true) X X (by decide) (fun w' u hu=>hu) (fun a' w' hE hk hg=>by exact aW (aO (show _=vI v5 from hk 11 X))),dA (b:=(decide (v5<0))) (c:=true) X X (by decide) (fun w' u hu=>hu) (fun a' w' hE hk hg=>by exact aW (dP (sz:=7) ((show _=gv (true&&((decide (v5<0))==false)) (vL lV a2.au.length mG) from (show _=gv (true&&((decide (v5<0))==false)) (vL lV a2.au.length mG) from hk 46 X)).trans (lW hg)) (hq1 hg).1 ((show _=gv (true&&((decide (v5<0))==false)) (vI v5) from (show _=gv (true&&((decide (v5<0))==false)) (vI v5) from hk 47 X)).trans (lW hg)) (hi2 hg).1 (hi2 hg).2 AF AH)),dA (b:=(decide (v5<0))) (c:=true) X X (by decide) (fun w' u hu=>hu) (fun a' w' hE hk hg=>by exact aW (gG ((show _=gv (true&&((decide (v5<0))==false)) (Value.pointer (some (Addr.add ad2 (v5.toNat*7)))) from (show _=gv (true&&((decide (v5<0))==false)) (Value.pointer (some (Addr.add ad2 (v5.toNat*7)))) from hk 48 X)).trans (lW hg)) A7 (((hq1 hg).2.1).sees (mW.step hE).sees) AH)),dA (b:=(decide (v5<0))) (c:=true) X X (by decide) (fun w' u hu=>hu) (fun a' w' hE hk hg=>by have HSd:=mW.step hE;exact (bC Tryz.call54 X (VL ((show _=gv (true&&((decide (v5<0))==false)) (Value.agg #[vL bQ a0.au.length bT]) from (show _=gv (true&&((decide (v5<0))==false)) (Value.agg #[vL bQ a0.au.length bT]) from hk 42 X)).trans (lW hg)) ((show _=gv (true&&((decide (v5<0))==false)) (Value.agg #[vI ((rd ah a0.au ou).aA),vS ((rd ah a0.au ou).aF),vI ((rd ah a0.au ou).aY.aU),vB ((rd ah a0.au ou).aY.aJ),vI ((rd ah a0.au ou).bY),vI ((rd ah a0.au ou).vN),vL dU ((rd ah a0.au ou).ak).length dY]) from (show _=gv (true&&((decide (v5<0))==false)) (Value.agg #[vI ((rd ah a0.au ou).aA),vS ((rd ah a0.au ou).aF),vI ((rd ah a0.au ou).aY.aU),vB ((rd ah a0.au ou).aY.aJ),vI ((rd ah a0.au ou).bY),vI ((rd ah a0.au ou).vN),vL dU ((rd ah a0.au ou).ak).length dY]) from hk 43 X)).trans (lW hg)) ((show _=gv (true&&((decide (v5<0))==false)) (Value.agg #[vL lV a2.au.length mG]) from (show _=gv (true&&((decide (v5<0))==false)) (Value.agg #[vL lV a2.au.length mG]) from hk 44 X)).trans (lW hg)) ((show _=gv (true&&((decide (v5<0))==false)) (Value.agg #[vI ((rd ah a2.au v5).aA),vS ((rd ah a2.au v5).aF),vI ((rd ah a2.au v5).aY.aU),vB ((rd ah a2.au v5).aY.aJ),vI ((rd ah a2.au v5).bY),vI ((rd ah a2.au v5).vN),vL mO ((rd ah a2.au v5).ak).length mX]) from (show _=gv (true&&((decide (v5<0))==false)) (Value.agg #[vI ((rd ah a2.au v5).aA),vS ((rd ah a2.au v5).aF),vI ((rd ah a2.au v5).aY.aU),vB ((rd ah a2.au v5).aY.aJ),vI ((rd ah a2.au v5).bY),vI ((rd ah a2.au v5).vN),vL mO ((rd ah a2.au v5).ak).length mX]) from hk 49 X)).trans (lW hg))) (oO.calls k a0 (rd ah a0.au ou) a2 (rd ah a2.au v5) bQ bT dU dY lV mG mO mX HSd.sees (ht.s HSd) fK iF iY jS pY vY ((hq1 hg).2.2.2) ((hq1 hg).2.2.1) (bU H6 hg)))),dA (b:=(decide (v5<0))) (c:=true) X X (by decide) (fun w' u hu=>hu) (fun a' w' hE hk hg=>by exact aW (mZ ((show _=gv (true&&((decide (v5<0))==false)) (vB v6) from (show _=gv (true&&((decide (v5<0))==false)) (vB v6) from hk 50 X)).trans (lW hg)))),aX X (fun a' w' hE hk=>by exact aW (dQ (show _=vB (decide (v5<0)) from hk 41 X) X (fun hp=>((show _=gv (true&&((decide (v5<0))==false)) (vB (!v6)) from (show _=gv (true&&((decide (v5<0))==false)) (vB (!v6)) from hk 51 X)).trans (lW (gQ X hp)))))),trivial⟩ ?_
     intro w13 hE8
     simp only [List.zip_cons_cons,List.zip_nil_left,List.zip_nil_right,vO,sc0,sc1,List.length_cons,List.length_nil,List.drop_succ_cons,List.drop_zero,Nat.zero_add,Nat.reduceAdd]
     have qx:=mW.step hE8
     refine aB<|ay<|Av (t:=((decide (v5<0))||(!v6))) X (fun c3=>?_) (fun c3=>?_)
     ·replace H:=bU H c3
      refine Al<|Ao<|rs (vB false) (aG X) ?_
      try simp only [sc0,sc1]
      refine aB<|ay<|AT<|fA<|jm<|bP ?_
      obtain rfl:=Ab H
      obtain rfl:=Ab G2
      exact Ay (bD X (bK X)) X<|⟨X,qx.toE⟩
     ·replace H:=cO H (nt c3)
      refine AN<|dD ?_
      obtain rfl:=Ab H
      refine gI (leftOf es1 Pq).size Xm X ⟨Pq.push e1.born,cl1,(fit X),Gl he1,Nat.le_refl _,Gj ho2.nodup WB hm1 Hz1,qx.tail⟩
    ·replace H:=cO H (nt c2)
     refine AN<|dD ?_
     obtain rfl:=Ab H
     refine gI (leftOf es1 Pq).size Xm X ⟨Pq.push e1.born,cl1,(fit X),Gl he1,Nat.le_refl _,Gj ho2.nodup WB hm1 Hz1,oC.tail⟩
  ·rintro us w14 ⟨s1,rfl,Xk,Xl,nP,ru⟩
   obtain ⟨uo1,rfl⟩:=unj nP
   replace H:=G1
   clear G1
   try simp only [patch,sc0,sc1]
   refine ay<|Al<|Ao<|rs (vB true) (aG X) ?_
   try simp only [sc0,sc1]
   refine aB<|ay<|AT ?_
   obtain rfl:=Ab H
   exact Ay (bD X (bK X)) X<|⟨X,ru.toE⟩
def jg.l0 (k:Nat) (a0:aQ) (a1:aQ):Nat→Int→Option ((aQ×(List Int)×(List Int)×Int)⊕(Unit))
 |0,_=>none
 |m+1,aC=>if (decide (aC<(a0.au.length:Int)))=true then (if 0≤aC∧aC<a0.au.length then ((jH.f (rd ah a0.au aC)).bind fun v3=>(if (!v3)=true then (jg.l0 k a0 a1 m (IntKind.wrap .i64 (aC+1))) else ((mP.f k a1 ((rd ah a0.au aC).aF)).bind fun v4=>((if (true&&((decide (v4≥0))==true))=true then jU.f k a0 aC a1 v4 else some false).bind fun v5=>(if ((decide (v4≥0))&&(!v5))=true then (some (.inl ((⟨[]⟩:aQ),([]:List Int),([]:List Int),82))) else (jg.l0 k a0 a1 m (IntKind.wrap .i64 (aC+1)))))))) else none) else (some (.inr ()))
def jg.f (k:Nat) (a0:aQ) (a1:aQ):Option (aQ×(List Int)×(List Int)×Int):=(dH.f k a0).bind fun v1=>((if (true&&((!v1)==false))=true then dH.f k a1 else some false).bind fun v2=>(if ((!v1)||(!v2))=true then (some ((⟨[]⟩:aQ),([]:List Int),([]:List Int),80)) else ((jg.l0 k a0 a1 k 0).bind fun xx1=>(match xx1 with| .inl r=>some r| .inr s1=>(fG.f k ([]:List (ByteArray×Int)) ([]:List dR) a0).bind fun v6=>((fG.f k v6.2.1 v6.2.2 a1).bind fun v7=>(if (decide (((v7.2.2.length:Nat):Int)>200))=true then (some ((⟨[]⟩:aQ),([]:List Int),([]:List Int),2)) else ((gZ.f k v7.2.1 v7.2.2).bind fun v8=>(some (v8,v6.1,v7.1,0)))))))))
theorem jg.calls (k:Nat) (a0:aQ) (a1:aQ) (bQ:Option Addr) (bT:Nat) (iM:Option Addr) (iO:Nat) {h0:View} {w0:World} (hv:lS h0 w0) (ht:Tab w0) (fK:Rd bI h0 bQ a0.au) (iF:a0.au.length≤bT) (kX:Rd bI h0 iM a1.au) (pK:a1.au.length≤iO) {r:aQ×(List Int)×(List Int)×Int} (H:jg.f k a0 a1=some r):Calls Tryz.prog 6 #[Value.agg #[vL bQ a0.au.length bT],Value.agg #[vL iM a1.au.length iO]] w0 (fun e w1=>∃(h1:View) (bQ:Option Addr) (bT:Nat) (iM:Option Addr) (iO:Nat) (lV:Option Addr) (mG:Nat),e= .returned (Value.tuple #[Value.agg #[vL bQ r.1.au.length bT],vL iM r.2.1.length iO,vL lV r.2.2.1.length mG,vI r.2.2.2])∧r.1.au.length≤bT∧Rd bI h1 bQ r.1.au∧r.2.1.length≤iO∧Rd (Kd.int .i64) h1 iM r.2.1∧r.2.2.1.length≤mG∧Rd (Kd.int .i64) h1 lV r.2.2.1∧Gr w0.heap.size h0 h1∧lS h1 w1∧Ext w0 w1):=by
 unfold jg.f at H
 have HS:St [] h0 w0 h0 [] w0:=St.init hv
 go_enter Tryz.func6,Tryz.ntmps6
 refine Al<|Ao<|dF X X (eF (cs:=#[vL bQ a0.au.length bT]) X X) ?_
 rintro w1 _ hE1 ⟨b1,rfl,ge1,hb1⟩
 have HS1:=HS.new hE1 ge1 hb1
 refine dF X X (eF (cs:=#[vL iM a1.au.length iO]) X X) ?_
 rintro w2 _ hE2 ⟨b2,rfl,ge2,hb2⟩
 have HS2:=HS1.new hE2 ge2 hb2
 refine dF X X (dO (cs:=#[vL none 0 0]) Bp X) ?_
 rintro w3 _ hE3 ⟨b3,rfl,ge3,hb3⟩
 have HS3:=HS2.new hE3 ge3 hb3
 refine rs (vL none 0 0) (aG X)<|aK (by simp only [sc0,sc1];rfl) ?_
 refine rs (vL none 0 0) (aG X)<|rs (vI 0) (aG X) ?_
 try simp only [sc0,sc1]
 refine aB<|ay<|Al<|Al<|Ao<|rs (Value.agg #[vL bQ a0.au.length bT]) (aT (n:=1) (vs:=[vL bQ a0.au.length bT]) X AI (HS3.look 2 X) AD X X) ?_
 obtain ⟨v1,H1,H⟩:=bn H
 refine run_eq (v:=vB v1) X X (bC Cu X X (dH.calls k a0 bQ bT HS3.sees fK iF H1)) ?_
 intro w4 hE4
 have HS4:=HS3.step hE4
 refine rs (vB (!v1)) (mZ X)<|rs (vB (!v1)) (aO X)<|aK (by simp only [sc0,sc1];rfl) ?_
 refine rgs (!v1) true (Value.agg #[vL iM a1.au.length iO]) X X X X (fun hg=>(aT (n:=1) (vs:=[vL iM a1.au.length iO]) X AI (HS4.look 1 X) AD X X)) ?_
 obtain ⟨v2,H2,H⟩:=bn H
 refine sJ (b:=(!v1)) (c:=true) (v:=vB v2) X X X X (fun hg=>(bC Cu X (Jk (gvt (Value.agg #[vL iM a1.au.length iO]) hg X)) (dH.calls k a1 iM iO HS4.sees kX pK (bU H2 hg)))) ?_
 intro w5 hE5
 have HS5:=HS4.step hE5
 refine rgs (!v1) true (vB (!v2)) X X X X (fun hg=>(mZ (gvt (vB v2) hg X)))<|rs (vB ((!v1)||(!v2))) (dQ X X (fun hp=>(gvt (vB (!v2)) (gQ X hp) X))) ?_
 try simp only [sc0,sc1]
 refine aB<|ay<|Av (t:=((!v1)||(!v2))) X (fun c1=>?_) (fun c1=>?_)
 ·replace H:=bU H c1
  refine Al<|Ao<|rs (Value.agg #[vL none 0 0]) (qj (cs:=[vL none 0 0]) Bp AE (pl:=#[(0,1)]) (fun w=>by simp [Tryz.sizeOf22]) X) ?_
  refine gJ (i:=0) (cs:=[vL none 0 0]) (cs':=[vL none 0 0]) (vs:=[vL none 0 0]) (bs':=[(some b3, .cells #[vL none 0 0] 24 (0,0)),(some b2, .cells #[vL iM a1.au.length iO] 24 (0,0)),(some b1, .cells #[vL bQ a0.au.length bT] 24 (0,0))]) X X AD X X (by decide) X HS5 X (Ax X) X X ?_
  intro w6 HS6
  refine rs (vL none 0 0) (aG X)<|rs (vL none 0 0) (aG X)<|aK (by simp only [sc0,sc1];rfl) ?_
  refine rs (vI 80) (aG X) ?_
  try simp only [sc0,sc1]
  refine aB<|ay<|AT<|bP ?_
  obtain rfl:=Ab H
  exact Ay (zG X (kY X AI (HS6.look 0 X) AD X) (bK X) (bK X) (bK X)) X<|⟨h0,none,0,none,0,none,0,X,(Nat.le_refl 0),(Rd.nil _ _ _),(Nat.le_refl 0),(Rd.nil _ _ _),(Nat.le_refl 0),(Rd.nil _ _ _),HS6.gr,HS6.sees,HS6.toE⟩
 ·replace H:=cO H (nt c1)
  refine AN<|ay<|Al<|Al<|Ao<|rs (vP b1 0) (aH (n:=1) (o':=0) X AE X AM (by decide) X)<|rs (vL bQ a0.au.length bT) (aN X AR (HS5.look 2 X) X)<|rs (vI (a0.au.length:Int)) (jD X AF)<|rs (vI 0) (aO X) ?_
  try simp only [sc0,sc1]
  refine aB<|ay ?_
  obtain ⟨xx1,H,G1⟩:=bn H
  refine jB [5,6,7,8,9,10,26,27,28,29,30,31,32,33,34,35,36,37,38,39,40,41,42,43,44,45,46,47,48,49] (fun m us w'=>∃(aC:Int),Fit us (fun uy1=>[(uy1 0),(uy1 1),(uy1 2),(uy1 3),(uy1 4),(uy1 5),vI aC,(uy1 7),(uy1 8),(uy1 9),(uy1 10),(uy1 11),(uy1 12),(uy1 13),(uy1 14),(uy1 15),(uy1 16),(uy1 17),(uy1 18),(uy1 19),(uy1 20),(uy1 21),(uy1 22),(uy1 23),(uy1 24),(uy1 25),(uy1 26),(uy1 27),(uy1 28),(uy1 29)])∧jg.l0 k a0 a1 m aC=some xx1∧St [] h0 w0 h0 [(some b3, .cells #[vL none 0 0] 24 (0,0)),(some b2, .cells #[vL iM a1.au.length iO] 24 (0,0)),(some b1, .cells #[vL bQ a0.au.length bT] 24 (0,0))] w') (fun us w'=>∃(s1:Unit),xx1= .inr s1∧Fit us (fun uo1=>[(uo1 0),(uo1 1),(uo1 2),(uo1 3),(uo1 4),(uo1 5),(uo1 6),(uo1 7),(uo1 8),(uo1 9),(uo1 10),(uo1 11),(uo1 12),(uo1 13),(uo1 14),(uo1 15),(uo1 16),(uo1 17),(uo1 18),(uo1 19),(uo1 20),(uo1 21),(uo1 22),(uo1 23),(uo1 24),(uo1 25),(uo1 26),(uo1 27),(uo1 28),(uo1 29)])∧St [] h0 w0 h0 [(some b3, .cells #[vL none 0 0] 24 (0,0)),(some b2, .cells #[vL iM a1.au.length iO] 24 (0,0)),(some b1, .cells #[vL bQ a0.au.length bT] 24 (0,0))] w') k ⟨0,(fit X),H,HS5⟩ ?_ ?_
  ·rintro m us w7 ⟨aC,nO,H,HS7⟩
   obtain ⟨uy1,rfl⟩:=unj nO
   cases m with
   |zero=>exact absurd H (by simp [jg.l0])
   |succ m=>
    rw [jg.l0] at H
    try simp only [patch,sc0,sc1]
    refine Al<|Ao<|rs (vB (decide (aC<(a0.au.length:Int)))) (bW X X X) ?_
    try simp only [sc0,sc1]
    refine aB<|ay<|Al<|Av (t:=(decide (aC<(a0.au.length:Int)))) X (fun c2=>?_) (fun c2=>?_)
    ·replace H:=bU H c2
     refine AN<|ay<|Al<|wp_block<|Al<|Ao<|rs (vI aC) (aO X) ?_
     obtain ⟨hi1,H⟩:=dN H
     obtain ⟨ad1,dU,dY,e1,mJ,jS,iY⟩:=gK fK hi1.1 hi1.2
     refine rs (Value.pointer (some (Addr.add ad1 (aC.toNat*7)))) (dP (sz:=7) X e1 X hi1.1 hi1.2 AF AH)<|rs (Value.agg #[vI ((rd ah a0.au aC).aA),vS ((rd ah a0.au aC).aF),vI ((rd ah a0.au aC).aY.aU),vB ((rd ah a0.au aC).aY.aJ),vI ((rd ah a0.au aC).bY),vI ((rd ah a0.au aC).vN),vL dU ((rd ah a0.au aC).ak).length dY]) (gG X A7 (mJ.sees HS7.sees) AH)<|dF X X (dO (cs:=#[vI 0,vS ByteArray.empty,vI 0,vB false,vI 0,vI 0,vL none 0 0]) A9 X) ?_
     rintro w8 _ hE6 ⟨b4,rfl,ge4,hb4⟩
     have HS8:=HS7.new hE6 ge4 hb4
     refine aK (by simp only [sc0,sc1];rfl) ?_
     refine rs (vI aC) (aG X)<|gJ (i:=0) (cs:=[vI 0,vS ByteArray.empty,vI 0,vB false,vI 0,vI 0,vL none 0 0]) (cs':=[vI ((rd ah a0.au aC).aA),vS ((rd ah a0.au aC).aF),vI ((rd ah a0.au aC).aY.aU),vB ((rd ah a0.au aC).aY.aJ),vI ((rd ah a0.au aC).bY),vI ((rd ah a0.au aC).vN),vL dU ((rd ah a0.au aC).ak).length dY]) (vs:=[vI ((rd ah a0.au aC).aA),vS ((rd ah a0.au aC).aF),vI ((rd ah a0.au aC).aY.aU),vB ((rd ah a0.au aC).aY.aJ),vI ((rd ah a0.au aC).bY),vI ((rd ah a0.au aC).vN),vL dU ((rd ah a0.au aC).ak).length dY]) (bs':=[(some b4, .cells #[vI ((rd ah a0.au aC).aA),vS ((rd ah a0.au aC).aF),vI ((rd ah a0.au aC).aY.aU),vB ((rd ah a0.au aC).aY.aJ),vI ((rd ah a0.au aC).bY),vI ((rd ah a0.au aC).vN),vL dU ((rd ah a0.au aC).ak).length dY] 58 (0,0)),(some b3, .cells #[vL none 0 0] 24 (0,0)),(some b2, .cells #[vL iM a1.au.length iO] 24 (0,0)),(some b1, .cells #[vL bQ a0.au.length bT] 24 (0,0))]) X X AH X X (by decide) X HS8 X (Ax X) X X ?_
     intro w9 HS9
     try simp only [sc0,sc1]
     refine aB<|ay<|Al<|Al<|Ao<|rs (Value.agg #[vI ((rd ah a0.au aC).aA),vS ((rd ah a0.au aC).aF),vI ((rd ah a0.au aC).aY.aU),vB ((rd ah a0.au aC).aY.aJ),vI ((rd ah a0.au aC).bY),vI ((rd ah a0.au aC).vN),vL dU ((rd ah a0.au aC).ak).length dY]) (aT (n:=7) (vs:=[vI ((rd ah a0.au aC).aA),vS ((rd ah a0.au aC).aF),vI ((rd ah a0.au aC).aY.aU),vB ((rd ah a0.au aC).aY.aJ),vI ((rd ah a0.au aC).bY),vI ((rd ah a0.au aC).vN),vL dU ((rd ah a0.au aC).ak).length dY]) X A7 (HS9.look 0 X) AH X X) ?_
     obtain ⟨v3,H3,H⟩:=bn H
     refine run_eq (v:=vB v3) X X (bC CA X X (jH.calls (rd ah a0.au aC) dU dY HS9.sees iY jS H3)) ?_
     intro w10 hE7
     have kF:=HS9.step hE7
     refine rs (vB (!v3)) (mZ X) ?_
     try simp only [sc0,sc1]
     refine aB<|ay<|Av (t:=(!v3)) X (fun c3=>?_) (fun c3=>?_)
     ·replace H:=bU H c3
      refine Bx<|eU<|yH<|ay<|Ao<|rs (vI (w64 (aC+1))) (bW X X X)<|rs (vI (w64 (aC+1))) (aO X) ?_
      try simp only [sc0,sc1]
      refine aB<|gI m (Nat.lt_succ_self m) X ⟨(w64 (aC+1)),(fit X),H,kF.tail⟩
     ·replace H:=cO H (nt c3)
      refine AN<|ay<|Al<|Ao<|rs (Value.agg #[vL iM a1.au.length iO]) (aT (n:=1) (vs:=[vL iM a1.au.length iO]) X AI (kF.look 2 X) AD X X)<|rs (vP b4 1) (aH (n:=1) (o':=1) X An X AW (by decide) X)<|rs (vS ((rd ah a0.au aC).aF)) (aN X Be (kF.look 0 X) X) ?_
      obtain ⟨v4,H4,H⟩:=bn H
      refine run_eq (v:=vI v4) X X (bC De X X (mP.calls k a1 ((rd ah a0.au aC).aF) iM iO kF.sees kX pK H4)) ?_
      intro w11 hE8
      have oC:=kF.step hE8
      refine aK (by simp only [sc0,sc1];rfl) ?_
      refine rs (vI v4) (aG X) ?_
      try simp only [sc0,sc1]
      refine aB<|ay<|Al<|Ao<|rs (vI v4) (aO X)<|rs (vB (decide (v4≥0))) (bW X X X)<|rs (vB (decide (v4≥0))) (aO X)<|rgs (decide (v4≥0)) true (Value.agg #[vL bQ a0.au.length bT]) X X X X (fun hg=>(aT (n:=1) (vs:=[vL bQ a0.au.length bT]) X AI (oC.look 3 X) AD X X))<|aK (by simp only [sc0,sc1];rfl) ?_
      refine rgs (decide (v4≥0)) true (vI aC) X X X X (fun hg=>(aO X))<|rgs (decide (v4≥0)) true (Value.agg #[vL iM a1.au.length iO]) X X X X (fun hg=>(aT (n:=1) (vs:=[vL iM a1.au.length iO]) X AI (oC.look 2 X) AD X X))<|rgs (decide (v4≥0)) true (vI v4) X X X X (fun hg=>(aO X)) ?_
      obtain ⟨v5,H5,H⟩:=bn H
      refine sJ (b:=(decide (v4≥0))) (c:=true) (v:=vB v5) X X X X (fun hg=>(bC Tryz.call25 X (VL (gvt (Value.agg #[vL bQ a0.au.length bT]) hg X) (gvt (vI aC) hg X) (gvt (Value.agg #[vL iM a1.au.length iO]) hg X) (gvt (vI v4) hg X)) (jU.calls k a0 aC a1 v4 bQ bT iM iO oC.sees (ht.s oC) fK iF kX pK (bU H5 hg)))) ?_
      intro w12 hE9
      have mW:=oC.step hE9
      refine aK (by simp only [sc0,sc1];rfl) ?_
      refine rgs (decide (v4≥0)) true (vB (!v5)) X X X X (fun hg=>(mZ (gvt (vB v5) hg X)))<|rs (vB ((decide (v4≥0))&&(!v5))) (dL X (fun hp=>(gvt (vB (!v5)) (gQ X hp) X)) X) ?_
      try simp only [sc0,sc1]
      refine aB<|ay<|Av (t:=((decide (v4≥0))&&(!v5))) X (fun c4=>?_) (fun c4=>?_)
      ·replace H:=bU H c4
       refine Al<|Ao<|rs (Value.agg #[vL none 0 0]) (qj (cs:=[vL none 0 0]) Bp AE (pl:=#[(0,1)]) (fun w=>by simp [Tryz.sizeOf22]) X) ?_
       refine gJ (i:=1) (cs:=[vL none 0 0]) (cs':=[vL none 0 0]) (vs:=[vL none 0 0]) (bs':=[(some b4, .cells #[vI ((rd ah a0.au aC).aA),vS ((rd ah a0.au aC).aF),vI ((rd ah a0.au aC).aY.aU),vB ((rd ah a0.au aC).aY.aJ),vI ((rd ah a0.au aC).bY),vI ((rd ah a0.au aC).vN),vL dU ((rd ah a0.au aC).ak).length dY] 58 (0,0)),(some b3, .cells #[vL none 0 0] 24 (0,0)),(some b2, .cells #[vL iM a1.au.length iO] 24 (0,0)),(some b1, .cells #[vL bQ a0.au.length bT] 24 (0,0))]) X X AD X X (by decide) X mW X (Ax X) X X ?_
       intro w13 qx
       refine rs (vL none 0 0) (aG X)<|rs (vL none 0 0) (aG X)<|aK (by simp only [sc0,sc1];rfl) ?_
       refine rs (vI 82) (aG X) ?_
       try simp only [sc0,sc1]
       refine aB<|ay<|AT<|fA<|bP<|jm<|bP ?_
       obtain rfl:=Ab H
       obtain rfl:=Ab G1
       exact Ay (zG X (kY X AI (qx.look 1 X) AD X) (bK X) (bK X) (bK X)) X<|⟨h0,none,0,none,0,none,0,X,(Nat.le_refl 0),(Rd.nil _ _ _),(Nat.le_refl 0),(Rd.nil _ _ _),(Nat.le_refl 0),(Rd.nil _ _ _),qx.gr,qx.sees,qx.toE⟩
      ·replace H:=cO H (nt c4)
       refine AN<|dD<|ay<|Ao<|rs (vI (w64 (aC+1))) (bW X X X)<|rs (vI (w64 (aC+1))) (aO X) ?_
       try simp only [sc0,sc1]
       refine aB<|gI m (Nat.lt_succ_self m) X ⟨(w64 (aC+1)),(fit X),H,mW.tail⟩
    ·replace H:=cO H (nt c2)
     refine Bx<|eU ?_
     obtain rfl:=Ab H
     refine iK X ⟨_,X,(fit X),HS7⟩
  ·rintro us w14 ⟨s1,rfl,nP,ru⟩
   obtain ⟨uo1,rfl⟩:=unj nP
   replace H:=G1
   clear G1
   try simp only [patch,sc0,sc1]
   refine ay<|Al<|Ao<|uj ru ?_
   intro w15 b5 sW
   refine rs (Value.agg #[Value.map (some b5),vL none 0 0]) (jy (cs:=[Value.map (some b5),vL none 0 0]) (ps:=[(0,Value.map (some b5))]) C_ BV (pl:=#[(0,1),(1,1)]) (fun w=>by simp [Tryz.sizeOf64,Tryz.sizeOf65]) (pq (show _=Value.map (some b5) from X)) X) ?_
   refine dF X X (eF (cs:=#[Value.map (some b5),vL none 0 0]) X X) ?_
   rintro w16 _ NI ⟨b6,rfl,ge5,hb5⟩
   have sH:=sW.new NI ge5 hb5
   refine rs (vP b6 0) (aG X) ?_
   try simp only [sc0,sc1]
   refine aB<|ay<|Al<|mg [([53,54,56,57],[0,1,3,4]),([],[3,4]),([12,13],[6,7])] [2,5] [[],[],[0,1],[],[],[0,1,2,3,4],[0,1,2,3,4,5],[0,1,2,3,4,5,6]] rM (by kernel_rfl) ?_
   intro w17 Qg
   have uQ:=sH.step Qg
   refine iR [vP b6 0,Value.agg #[vL bQ a0.au.length bT],vP b6 0,Value.agg #[vL iM a1.au.length iO]] ?_ X X ?_
   ·try simp only [patch,sc0,sc1]
    exact bF (bG (v:=vP b6 0) X X X X (aO X)) (bF (bG (v:=Value.agg #[vL bQ a0.au.length bT]) X X X X (aT (n:=1) (vs:=[vL bQ a0.au.length bT]) X AI (uQ.look 4 X) AD X X)) (bF (bG (v:=vP b6 0) X X X X (aO X)) (bF (bG (v:=Value.agg #[vL iM a1.au.length iO]) X X X X (aT (n:=1) (vs:=[vL iM a1.au.length iO]) X AI (uQ.look 3 X) AD X X)) (iH))))
   try simp only [patch,sc0,sc1]
   obtain ⟨v6,H6,H⟩:=bn H
   have xU:=uQ.nothing (.cells ([]:List Value).toArray 96 (0,0))
   have zM:=xU.f2
   have zl:=zM.f2
   refine jJ (vs:=[vP b6 0,Value.agg #[vL bQ a0.au.length bT]]) (caps:=[]) Db X X (fG.calls k ([]:List (ByteArray×Int)) ([]:List dR) a0 b6 b5 (#[]) 0 none 0 ([]:List Value) bQ bT zl ht (oG.nil) (gU.none' lq _) fK iF H6) ?_
   rintro _ w18 ⟨yu,GK,NJ,NK,NM,NP,Qh,NQ,rfl,Fq,NR,NS,zN⟩
   refine ⟨_,X,?_⟩
   have Bf:=zN.f6
   have zO:=Bf.f6
   have BX:=zO.f6
   have BI:=BX.f5
   have AL:=BI.f5
   have yX:=AL.f6
   have Bh:=yX.f6
   refine lY ?_
   try simp only [sc0,sc1]
   refine iR [] ?_ X X ?_
   ·try simp only [patch,sc0,sc1]
    exact bF (bG (v:=vP b6 0) X X X X (aO X)) (bF (bG (v:=Value.agg #[vL iM a1.au.length iO]) X X X X (aT (n:=1) (vs:=[vL iM a1.au.length iO]) X AI (Bh.look 5 X) AD X X)) (iH))
   try simp only [patch,sc0,sc1]
   obtain ⟨v7,H7,H⟩:=bn H
   have IB:=Bh.f1
   have Ea:=IB.f3
   have LU:=Ea.f3
   refine jJ (vs:=[vP b6 0,Value.agg #[vL iM a1.au.length iO]]) (caps:=[]) Db X X (fG.calls k v6.2.1 v6.2.2 a1 b6 b5 NK NM NP Qh NQ iM iO LU ht NR NS kX pK H7) ?_
   rintro _ w19 ⟨zn,GL,NT,Dv,Dw,wE,Cb,Dx,rfl,AV,NU,uy,LV⟩
   refine ⟨_,X,?_⟩
   have KE:=LV.f7
   have MX:=KE.f7
   have LW:=MX.f7
   have MZ:=LW.f5
   have WC:=MZ.f5
   have WE:=WC.f6
   have Va:=WE.f7
   have Vb:=Va.f7
   refine lY ?_
   try simp only [sc0,sc1]
   refine nU [vL (rowA yu) v6.1.length GK,vL (rowA zn) v7.1.length GL] ?_ ?_
   ·try simp only [patch,sc0,sc1]
    exact bF (bG (v:=vL (rowA yu) v6.1.length GK) X X X X (aG X)) (bF (bG (v:=vL (rowA zn) v7.1.length GL) X X X X (aG X)) (iH))
   try simp only [patch,sc0,sc1]
   refine ay<|Al<|Al<|Ao<|rs (vP b6 0) (aO X)<|rs (vP b6 0) (pI X)<|rs (vP b6 1) (aH (n:=1) (o':=1) X BV X Cf (by decide) X)<|rs (vL (rowA wE) v7.2.2.length Cb) (aN X CE (Vb.look 3 X) X)<|aK (by simp only [sc0,sc1];rfl) ?_
   refine rs (vI ((v7.2.2.length:Nat):Int)) (BP X B7)<|rs (vB (decide (((v7.2.2.length:Nat):Int)>200))) (bW X X X) ?_
   try simp only [sc0,sc1]
   refine aB<|ay<|Av (t:=(decide (((v7.2.2.length:Nat):Int)>200))) X (fun c5=>?_) (fun c5=>?_)
   ·replace H:=bU H c5
    refine Al<|Ao<|rs (Value.agg #[vL none 0 0]) (qj (cs:=[vL none 0 0]) Bp AE (pl:=#[(0,1)]) (fun w=>by simp [Tryz.sizeOf22]) X) ?_
    refine gJ (i:=5) (cs:=[vL none 0 0]) (cs':=[vL none 0 0]) (vs:=[vL none 0 0]) (bs':=[(zn, .cells (NT).toArray 3 (0,0)),(yu, .cells (NJ).toArray 3 (0,0)),(wE, .cells (Dx).toArray 96 (0,0)),(some b6, .cells #[Value.map (some b5),vL (rowA wE) v7.2.2.length Cb] 67 (0,0)),(some b5, .map Dv Dw),(some b3, .cells #[vL none 0 0] 24 (0,0)),(some b2, .cells #[vL iM a1.au.length iO] 24 (0,0)),(some b1, .cells #[vL bQ a0.au.length bT] 24 (0,0))]) X X AD X X (by decide) X Vb X (Ax X) X X ?_
    intro w20 TK
    refine rs (vL none 0 0) (aG X)<|rs (vL none 0 0) (aG X)<|aK (by simp only [sc0,sc1];rfl) ?_
    refine rs (vI 2) (aG X) ?_
    try simp only [sc0,sc1]
    refine aB<|ay<|AT<|bP ?_
    obtain rfl:=Ab H
    exact Ay (zG X (kY X AI (TK.look 5 X) AD X) (bK X) (bK X) (bK X)) X<|⟨h0,none,0,none,0,none,0,X,(Nat.le_refl 0),(Rd.nil _ _ _),(Nat.le_refl 0),(Rd.nil _ _ _),(Nat.le_refl 0),(Rd.nil _ _ _),TK.gr,TK.sees,TK.toE⟩
   ·replace H:=cO H (nt c5)
    refine AN<|ay<|Al<|Ao<|rs (vP b6 0) (aO X) ?_
    obtain ⟨v8,H8,H⟩:=bn H
    have Vd:=Vb.f2
    have XT:=Vd.f4
    have XU:=XT.f4
    refine jJ (vs:=[vP b6 0]) (caps:=[]) Tryz.call22 X X (gZ.calls k v7.2.1 v7.2.2 b6 b5 Dv Dw wE Cb Dx XU ht NU uy H8) ?_
    rintro _ w21 ⟨h1,yL,Cc,rfl,NV,yw,hs3,XV⟩
    refine ⟨_,X,?_⟩
    replace uy:=uy.view hs3
    replace AV:=AV.view hs3
    replace Fq:=Fq.view hs3
    have XW:=XV.f7
    have XY:=XW.f7
    have XZ:=XY.f7
    have X0:=XZ.f4
    have X3:=X0.f4
    have X4:=X3.f5
    have X5:=X4.f7
    have X6:=X5.f7
    refine rs (vL (rowA yu) v6.1.length GK) (aO X)<|rs (vL (rowA zn) v7.1.length GL) (aO X)<|aK (by simp only [sc0,sc1];rfl) ?_
    refine gJ (i:=5) (cs:=[vL none 0 0]) (cs':=[vL yL v8.au.length Cc]) (vs:=[vL yL v8.au.length Cc]) (bs':=[(zn, .cells (NT).toArray 3 (0,0)),(yu, .cells (NJ).toArray 3 (0,0)),(wE, .cells (Dx).toArray 96 (0,0)),(some b6, .cells #[Value.map (some b5),vL (rowA wE) v7.2.2.length Cb] 67 (0,0)),(some b5, .map Dv Dw),(some b3, .cells #[vL yL v8.au.length Cc] 24 (0,0)),(some b2, .cells #[vL iM a1.au.length iO] 24 (0,0)),(some b1, .cells #[vL bQ a0.au.length bT] 24 (0,0))]) X X AD X X (by decide) X X6 X (Ax X) X X ?_
    intro w22 Xn
    refine rs (vL (rowA yu) v6.1.length GK) (aG X)<|rs (vL (rowA zn) v7.1.length GL) (aG X)<|rs (vI 0) (aG X) ?_
    try simp only [sc0,sc1]
    refine aB<|ay<|AT ?_
    obtain rfl:=Ab H
    refine Ay (zG X (kY X AI (Xn.look 5 X) AD X) (bK X) (bK X) (bK X)) X ?_
    obtain ⟨h2,X7,hs4,oV⟩:=lC Xn (i:=1) rfl Fq
    replace AV:=AV.view hs4
    replace uy:=uy.view hs4
    replace yw:Rd bI h2 yL v8.au:=yw.ext hs4
    obtain ⟨h3,WG,hs5,D8⟩:=lC X7 (i:=0) rfl AV
    replace uy:=uy.view hs5
    replace yw:Rd bI h3 yL v8.au:=yw.ext hs5
    replace oV:Rd (Kd.int .i64) h3 (rowA yu) v6.1:=oV.ext hs5
    exact ⟨h3,yL,Cc,(rowA yu),GK,(rowA zn),GL,X,NV,yw,Fq.cap,oV,AV.cap,D8,WG.gr,WG.sees,WG.toE⟩
def qF.f (a0:Int) (x0:List Int):Option (Int):=if 0≤a0∧a0<x0.length then (some (rd 0 x0 a0)) else none
theorem qF.calls (a0:Int) (x0:List Int) (bx0:Nat) (zQ:Option Addr) (zS:Nat) {h0:View} {w0:World} (hv:lS h0 w0) (Gn:Rd (Kd.int .i64) h0 zQ x0) (Nh:x0.length≤zS) (hx0:w0.heap[bx0]?=some (.cells #[vL zQ x0.length zS] 27 (0,0))) {r:Int} (H:qF.f a0 x0=some r):Calls Tryz.prog 28 #[vI a0,vP bx0 0] w0 (fun e w1=>e= .returned (vI r)∧Ext w0 w1):=by
 unfold qF.f at H
 have HS:St [] h0 w0 h0 [] w0:=St.init hv
 go_enter Tryz.func28,Tryz.ntmps28
 refine Al<|Ao<|rs (vI 0) (aG X) ?_
 try simp only [sc0,sc1]
 refine aB<|ay<|Al<|Ao<|rs (vL zQ x0.length zS) (aN X B3 (kD hx0 HS.toE) X)<|rs (vI a0) (aO X) ?_
 obtain ⟨hi1,H⟩:=dN H
 obtain ⟨ad1,e1,mJ⟩:=qY Gn hi1.1 hi1.2
 refine rs (Value.pointer (some (Addr.add ad1 (a0.toNat*1)))) (dP (sz:=1) X e1 X hi1.1 hi1.2 AG As)<|rs (vI (rd 0 x0 a0)) (kE X AC (mJ.cell0 HS.sees X))<|aK (by simp only [sc0,sc1];rfl) ?_
 refine rs (vI (rd 0 x0 a0)) (aG X) ?_
 try simp only [sc0,sc1]
 refine aB<|ay<|AT ?_
 obtain rfl:=Ab H
 exact Ay (bD X (bK X)) X<|⟨X,HS.toE⟩
def fV.l0 (k:Nat) (a0:aQ) (a1:List ByteArray):Nat→Int→(List Int)→Option ((aQ×(List Int)×Int)⊕((List Int)))
 |0,_,_=>none
 |m+1,aC,dG=>if (decide (aC<(a1.length:Int)))=true then (if 0≤aC∧aC<a1.length then ((mP.f k a0 (rd ByteArray.empty a1 aC)).bind fun v2=>(if (decide (v2<0))=true then (some (.inl ((⟨[]⟩:aQ),([]:List Int),3))) else (if dG.length+1≤4294967296 then (fV.l0 k a0 a1 m (IntKind.wrap .i64 (aC+1)) (dG++([v2]:List Int))) else none))) else none) else (some (.inr dG))
def fV.l1 (a0:aQ) (v3:(List (Int×Bool))):Nat→Int→Int→(List Int)→Option ((List Int))
 |0,_,_,_=>none
 |m+1,jQ,lJ,qG=>if (decide (lJ<(a0.au.length:Int)))=true then (if ((bM ieq v3 lJ).getD false)=true then (if qG.length+1≤4294967296 then (fV.l1 a0 v3 m (IntKind.wrap .i64 (jQ+1)) (IntKind.wrap .i64 (lJ+1)) (qG++([jQ]:List Int))) else none) else (if qG.length+1≤4294967296 then (fV.l1 a0 v3 m jQ (IntKind.wrap .i64 (lJ+1)) (qG++([(-1)]:List Int))) else none)) else (some qG)
def fV.l2 (k:Nat) (a0:aQ) (v3:(List (Int×Bool))) (xx2:(List Int)):Nat→Int→(List aZ)→Option ((List aZ))
 |0,_,_=>none
 |m+1,gX,vg=>if (decide (gX<(a0.au.length:Int)))=true then (if 0≤gX∧gX<a0.au.length then (if ((bM ieq v3 gX).getD false)=true then ((jI.f k (rd ah a0.au gX) (fun z0=>qF.f z0 xx2)).bind fun v4=>(if vg.length+1≤4294967296 then (fV.l2 k a0 v3 xx2 m (IntKind.wrap .i64 (gX+1)) (vg++([v4]:List aZ))) else none)) else (fV.l2 k a0 v3 xx2 m (IntKind.wrap .i64 (gX+1)) vg)) else none) else (some vg)
def fV.f (k:Nat) (a0:aQ) (a1:List ByteArray):Option (aQ×(List Int)×Int):=(dH.f k a0).bind fun v1=>(if (!v1)=true then (some ((⟨[]⟩:aQ),([]:List Int),80)) else (if (decide ((a1.length:Int)>200))=true then (some ((⟨[]⟩:aQ),([]:List Int),2)) else ((fV.l0 k a0 a1 k 0 ([]:List Int)).bind fun xx1=>(match xx1 with| .inl r=>some r| .inr s1=>(jf.f k a0 s1).bind fun v3=>((fV.l1 a0 v3 k 0 0 ([]:List Int)).bind fun xx2=>((fV.l2 k a0 v3 xx2 k 0 ([]:List aZ)).bind fun xx3=>(some ((⟨xx3⟩:aQ),xx2,0))))))))
theorem fV.calls (k:Nat) (a0:aQ) (a1:List ByteArray) (bQ:Option Addr) (bT:Nat) (iM:Option Addr) (iO:Nat) {h0:View} {w0:World} (hv:lS h0 w0) (fK:Rd bI h0 bQ a0.au) (iF:a0.au.length≤bT) (kX:Rd Kd.str h0 iM a1) (pK:a1.length≤iO) {r:aQ×(List Int)×Int} (H:fV.f k a0 a1=some r):Calls Tryz.prog 7 #[Value.agg #[vL bQ a0.au.length bT],vL iM a1.length iO] w0 (fun e w1=>∃(h1:View) (bQ:Option Addr) (bT:Nat) (iM:Option Addr) (iO:Nat),e= .returned (Value.tuple #[Value.agg #[vL bQ r.1.au.length bT],vL iM r.2.1.length iO,vI r.2.2])∧r.1.au.length≤bT∧Rd bI h1 bQ r.1.au∧r.2.1.length≤iO∧Rd (Kd.int .i64) h1 iM r.2.1∧Gr w0.heap.size h0 h1∧lS h1 w1∧Ext w0 w1):=by
 unfold fV.f at H
 have HS:St [] h0 w0 h0 [] w0:=St.init hv
 go_enter Tryz.func7,Tryz.ntmps7
 refine Al<|Ao<|dF X X (eF (cs:=#[vL bQ a0.au.length bT]) X X) ?_
 rintro w1 _ hE1 ⟨b1,rfl,ge1,hb1⟩
 have HS1:=HS.new hE1 ge1 hb1
 refine dF X X (dO (cs:=#[vL none 0 0]) Bp X) ?_
 rintro w2 _ hE2 ⟨b2,rfl,ge2,hb2⟩
 have HS2:=HS1.new hE2 ge2 hb2
 refine rs (vL none 0 0) (aG X)<|rs (vI 0) (aG X) ?_
 try simp only [sc0,sc1]
 refine aB<|ay<|Al<|Al<|Ao<|rs (Value.agg #[vL bQ a0.au.length bT]) (aT (n:=1) (vs:=[vL bQ a0.au.length bT]) X AI (HS2.look 1 X) AD X X) ?_
 obtain ⟨v1,H1,H⟩:=bn H
 refine run_eq (v:=vB v1) X X (bC Cu X X (dH.calls k a0 bQ bT HS2.sees fK iF H1)) ?_
 intro w3 hE3
 have HS3:=HS2.step hE3
 refine rs (vB (!v1)) (mZ X) ?_
 try simp only [sc0,sc1]
 refine aB<|ay<|Av (t:=(!v1)) X (fun c1=>?_) (fun c1=>?_)
 ·replace H:=bU H c1
  refine Al<|Ao<|rs (Value.agg #[vL none 0 0]) (qj (cs:=[vL none 0 0]) Bp AE (pl:=#[(0,1)]) (fun w=>by simp [Tryz.sizeOf22]) X) ?_
  refine gJ (i:=0) (cs:=[vL none 0 0]) (cs':=[vL none 0 0]) (vs:=[vL none 0 0]) (bs':=[(some b2, .cells #[vL none 0 0] 24 (0,0)),(some b1, .cells #[vL bQ a0.au.length bT] 24 (0,0))]) X X AD X X (by decide) X HS3 X (Ax X) X X ?_
  intro w4 HS4
  refine rs (vL none 0 0) (aG X)<|rs (vI 80) (aG X) ?_
  try simp only [sc0,sc1]
  refine aB<|ay<|AT<|bP ?_
  obtain rfl:=Ab H
  exact Ay (qg X (kY X AI (HS4.look 0 X) AD X) (bK X) (bK X)) X<|⟨h0,none,0,none,0,X,(Nat.le_refl 0),(Rd.nil _ _ _),(Nat.le_refl 0),(Rd.nil _ _ _),HS4.gr,HS4.sees,HS4.toE⟩
 ·replace H:=cO H (nt c1)
  refine AN<|ay<|Al<|Al<|Ao<|rs (vL iM a1.length iO) (aO X)<|rs (vI (a1.length:Int)) (jD X A5)<|rs (vB (decide ((a1.length:Int)>200))) (bW X X X) ?_
  try simp only [sc0,sc1]
  refine aB<|ay<|Av (t:=(decide ((a1.length:Int)>200))) X (fun c2=>?_) (fun c2=>?_)
  ·replace H:=bU H c2
   refine Al<|Ao<|rs (Value.agg #[vL none 0 0]) (qj (cs:=[vL none 0 0]) Bp AE (pl:=#[(0,1)]) (fun w=>by simp [Tryz.sizeOf22]) X) ?_
   refine gJ (i:=0) (cs:=[vL none 0 0]) (cs':=[vL none 0 0]) (vs:=[vL none 0 0]) (bs':=[(some b2, .cells #[vL none 0 0] 24 (0,0)),(some b1, .cells #[vL bQ a0.au.length bT] 24 (0,0))]) X X AD X X (by decide) X HS3 X (Ax X) X X ?_
   intro w5 HS5
   refine rs (vL none 0 0) (aG X)<|rs (vI 2) (aG X) ?_
   try simp only [sc0,sc1]
   refine aB<|ay<|AT<|bP ?_
   obtain rfl:=Ab H
   exact Ay (qg X (kY X AI (HS5.look 0 X) AD X) (bK X) (bK X)) X<|⟨h0,none,0,none,0,X,(Nat.le_refl 0),(Rd.nil _ _ _),(Nat.le_refl 0),(Rd.nil _ _ _),HS5.gr,HS5.sees,HS5.toE⟩
  ·replace H:=cO H (nt c2)
   refine AN<|ay<|Al<|Ao<|rs (vL none 0 0) (aG X) ?_
   try simp only [sc0,sc1]
   refine aB<|ay<|Al<|Al<|Ao<|rs (vL iM a1.length iO) (aO X)<|rs (vI (a1.length:Int)) (jD X A5)<|rs (vI 0) (aO X) ?_
   try simp only [sc0,sc1]
   refine aB<|ay ?_
   have HS6:=HS3.nothing (.cells ([]:List Value).toArray 3 (0,0))
   obtain ⟨xx1,H,G1⟩:=bn H
   refine jB [5,6,7,9,10,28,29,30,31,32,33,34,35,36,37,38,39,40,41,42] (fun m us w'=>∃aC:Int,∃dG:List Int,∃(fC:Option Nat) (jv:Nat),∃(eH:List Value),Fit us (fun uy1=>[(uy1 0),(uy1 1),vL (rowA fC) dG.length jv,(uy1 3),(uy1 4),vI aC,(uy1 6),(uy1 7),(uy1 8),(uy1 9),(uy1 10),(uy1 11),(uy1 12),(uy1 13),(uy1 14),(uy1 15),(uy1 16),(uy1 17),(uy1 18),(uy1 19)])∧fV.l0 k a0 a1 m aC dG=some xx1∧gU (Kd.int .i64) h0 dG fC dG.length jv eH∧St [] h0 w0 h0 [(fC, .cells (eH).toArray 3 (0,0)),(some b2, .cells #[vL none 0 0] 24 (0,0)),(some b1, .cells #[vL bQ a0.au.length bT] 24 (0,0))] w') (fun us w'=>∃(s1:(List Int)),xx1= .inr s1∧∃(eP:Option Nat) (jo:Nat),∃(iw:List Value),Fit us (fun uo1=>[(uo1 0),(uo1 1),vL (rowA eP) s1.length jo,(uo1 3),(uo1 4),(uo1 5),(uo1 6),(uo1 7),(uo1 8),(uo1 9),(uo1 10),(uo1 11),(uo1 12),(uo1 13),(uo1 14),(uo1 15),(uo1 16),(uo1 17),(uo1 18),(uo1 19)])∧gU (Kd.int .i64) h0 s1 eP s1.length jo iw∧St [] h0 w0 h0 [(eP, .cells (iw).toArray 3 (0,0)),(some b2, .cells #[vL none 0 0] 24 (0,0)),(some b1, .cells #[vL bQ a0.au.length bT] 24 (0,0))] w') k ⟨0,([]:List Int),none,0,([]:List Value),(fit X),H,(gU.none' (Kd.int .i64) _).norm,HS6⟩ ?_ ?_
   ·rintro m us w6 ⟨aC,dG,fC,jv,eH,nO,H,iE,HS7⟩
    obtain ⟨uy1,rfl⟩:=unj nO
    cases m with
    |zero=>exact absurd H (by simp [fV.l0])
    |succ m=>
     rw [fV.l0] at H
     try simp only [patch,sc0,sc1]
     refine Al<|Ao<|rs (vB (decide (aC<(a1.length:Int)))) (bW X X X) ?_
     try simp only [sc0,sc1]
     refine aB<|ay<|Al<|Av (t:=(decide (aC<(a1.length:Int)))) X (fun c3=>?_) (fun c3=>?_)
     ·replace H:=bU H c3
      refine AN<|ay<|Al<|wp_block<|Al<|Ao ?_
      obtain ⟨hi1,H⟩:=dN H
      obtain ⟨ad1,e1,mJ⟩:=CQ kX hi1.1 hi1.2
      refine rs (Value.pointer (some (Addr.add ad1 (aC.toNat*1)))) (dP (sz:=1) X e1 X hi1.1 hi1.2 A5 AW)<|rs (vS (rd ByteArray.empty a1 aC)) (kE X Be (mJ.cell0 HS7.sees X))<|rs (vS (rd ByteArray.empty a1 aC)) (aG X) ?_
      try simp only [sc0,sc1]
      refine aB<|ay<|Al<|Ao<|rs (Value.agg #[vL bQ a0.au.length bT]) (aT (n:=1) (vs:=[vL bQ a0.au.length bT]) X AI (HS7.look 2 X) AD X X)<|rs (vS (rd ByteArray.empty a1 aC)) (aO X) ?_
      obtain ⟨v2,H2,H⟩:=bn H
      refine run_eq (v:=vI v2) X X (bC De X X (mP.calls k a0 (rd ByteArray.empty a1 aC) bQ bT HS7.sees fK iF H2)) ?_
      intro w7 hE4
      have HS8:=HS7.step hE4
      refine rs (vI v2) (aG X) ?_
      try simp only [sc0,sc1]
      refine aB<|ay<|Al<|Al<|Ao<|rs (vI v2) (aO X)<|rs (vB (decide (v2<0))) (bW X X X) ?_
      try simp only [sc0,sc1]
      refine aB<|ay<|Av (t:=(decide (v2<0))) X (fun c4=>?_) (fun c4=>?_)
      ·replace H:=bU H c4
       refine Al<|Ao<|rs (Value.agg #[vL none 0 0]) (qj (cs:=[vL none 0 0]) Bp AE (pl:=#[(0,1)]) (fun w=>by simp [Tryz.sizeOf22]) X) ?_
       refine gJ (i:=1) (cs:=[vL none 0 0]) (cs':=[vL none 0 0]) (vs:=[vL none 0 0]) (bs':=[(fC, .cells (eH).toArray 3 (0,0)),(some b2, .cells #[vL none 0 0] 24 (0,0)),(some b1, .cells #[vL bQ a0.au.length bT] 24 (0,0))]) X X AD X X (by decide) X HS8 X (Ax X) X X ?_
       intro w8 HS9
       refine rs (vL none 0 0) (aG X)<|rs (vI 3) (aG X) ?_
       try simp only [sc0,sc1]
       refine aB<|ay<|AT<|bP<|fA<|bP<|jm<|bP ?_
       obtain rfl:=Ab H
       obtain rfl:=Ab G1
       exact Ay (qg X (kY X AI (HS9.look 1 X) AD X) (bK X) (bK X)) X<|⟨h0,none,0,none,0,X,(Nat.le_refl 0),(Rd.nil _ _ _),(Nat.le_refl 0),(Rd.nil _ _ _),HS9.gr,HS9.sees,HS9.toE⟩
      ·replace H:=cO H (nt c4)
       refine AN<|ay<|Ao<|rs (vL (rowA fC) dG.length jv) (aO X)<|rs (vI v2) (aO X)<|ng (Kd.int .i64) (xs:=([v2]:List Int)) (n:=1) (cs:=[vI v2]) AG Br Bb X X (by decide) (by decide) (by decide) [vI v2] (jd.trans X) X X X X (fH (qs:=[vI v2]) X (jc (cs:=[]))) HS8 ?_
       intro w9 b3 kF ho1
       obtain ⟨hl1,H⟩:=dN H
       refine oD (Kd.int .i64) (q:=1) (cs:=eH) X X AG Br Bb X (by decide) X (ni AG kF (i:=0) X ho1 X) ho1.len (iC ho1) hl1 kF X iE ?_
       intro w10 ob1 c5 cs1 oC ho2
       refine aK (by simp only [sc0,sc1];rfl) ?_
       refine rs (vL (rowA ob1) (dG.length+1) c5) (aG X) ?_
       try simp only [sc0,sc1]
       refine aB<|dD<|ay<|Ao<|rs (vI (w64 (aC+1))) (bW X X X)<|rs (vI (w64 (aC+1))) (aO X) ?_
       try simp only [sc0,sc1]
       refine aB<|gI m (Nat.lt_succ_self m) X ⟨(w64 (aC+1)),(dG++([v2]:List Int)),ob1,c5,cs1,(fit (by first|rfl|(rw [ho2.len];done)|(rw [ho2.len];rfl))),H,ho2.norm,oC.tail⟩
     ·replace H:=cO H (nt c3)
      refine Bx<|eU ?_
      obtain rfl:=Ab H
      refine iK X ⟨_,X,fC,jv,eH,(fit X),iE.norm,HS7⟩
   ·rintro us w11 ⟨s1,rfl,eP,jo,iw,nP,jr,mW⟩
    obtain ⟨uo1,rfl⟩:=unj nP
    replace H:=G1
    clear G1
    try simp only [patch,sc0,sc1]
    refine ay<|Al<|Ao<|rs (Value.agg #[vL bQ a0.au.length bT]) (aT (n:=1) (vs:=[vL bQ a0.au.length bT]) X AI (mW.look 2 X) AD X X)<|rs (vL (rowA eP) s1.length jo) (aO X) ?_
    obtain ⟨v3,H3,H⟩:=bn H
    obtain ⟨hl2,hs1,se1,Qe⟩:=zI mW (i:=0) rfl jr
    refine dF X X (iQ Tryz.call26 X (Ej (wz:=w11) (ek:=(vI)) (ev:=vB) (m:=v3) (Ext.rfl' _) (jf.calls k a0 s1 bQ bT (rowA eP) jo se1 (fK.ext hs1) iF Qe jr.cap H3)) X) ?_
    rintro w12 _ hE5 ⟨b4,es1,cl1,rfl,ge3,hb3,ho3⟩
    have qx:=mW.new hE5 ge3 hb3
    refine rs (Value.map (some b4)) (aG X) ?_
    try simp only [sc0,sc1]
    refine aB<|ay<|Al<|Ao<|dF X X (dO (cs:=#[vL none 0 0]) CK X) ?_
    rintro w13 _ hE6 ⟨b5,rfl,ge4,hb4⟩
    have ru:=qx.new hE6 ge4 hb4
    try simp only [sc0,sc1]
    refine aB<|ay<|Al<|Ao<|rs (vI 0) (aG X) ?_
    try simp only [sc0,sc1]
    refine aB<|ay<|Al<|Al<|Ao<|rs (vP b1 0) (aH (n:=1) (o':=0) X AE X AM (by decide) X)<|rs (vL bQ a0.au.length bT) (aN X AR (ru.look 4 X) X)<|rs (vI (a0.au.length:Int)) (jD X AF)<|rs (vI 0) (aO X) ?_
    try simp only [sc0,sc1]
    refine aB<|ay ?_
    have sW:=ru.nothing (.cells ([]:List Value).toArray 3 (0,0))
    obtain ⟨xx2,H,G2⟩:=bn H
    refine jB [13,14,49,50,51,52,53,54,55,56,57,58,59,60,61,62,63,64] (fun m us w'=>∃jQ lJ:Int,∃qG:List Int,∃(sS:Option Nat) (zo:Nat),∃(pF:List Value),Fit us (fun uy2=>[vI jQ,(uy2 1),vI lJ,(uy2 3),(uy2 4),(uy2 5),(uy2 6),(uy2 7),(uy2 8),(uy2 9),(uy2 10),(uy2 11),(uy2 12),(uy2 13),(uy2 14),(uy2 15),(uy2 16),(uy2 17)])∧fV.l1 a0 v3 m jQ lJ qG=some xx2∧gU (Kd.int .i64) h0 qG sS qG.length zo pF∧St [] h0 w0 h0 [(sS, .cells (pF).toArray 3 (0,0)),(some b5, .cells #[vL (rowA sS) qG.length zo] 27 (0,0)),(some b4, .map es1 cl1),(eP, .cells (iw).toArray 3 (0,0)),(some b2, .cells #[vL none 0 0] 24 (0,0)),(some b1, .cells #[vL bQ a0.au.length bT] 24 (0,0))] w') (fun us w'=>∃(jZ:Option Nat) (pO:Nat),∃(uz:List Value),Fit us (fun uo2=>[(uo2 0),(uo2 1),(uo2 2),(uo2 3),(uo2 4),(uo2 5),(uo2 6),(uo2 7),(uo2 8),(uo2 9),(uo2 10),(uo2 11),(uo2 12),(uo2 13),(uo2 14),(uo2 15),(uo2 16),(uo2 17)])∧gU (Kd.int .i64) h0 xx2 jZ xx2.length pO uz∧St [] h0 w0 h0 [(jZ, .cells (uz).toArray 3 (0,0)),(some b5, .cells #[vL (rowA jZ) xx2.length pO] 27 (0,0)),(some b4, .map es1 cl1),(eP, .cells (iw).toArray 3 (0,0)),(some b2, .cells #[vL none 0 0] 24 (0,0)),(some b1, .cells #[vL bQ a0.au.length bT] 24 (0,0))] w') k ⟨0,0,([]:List Int),none,0,([]:List Value),(fit X),H,(gU.none' (Kd.int .i64) _).norm,sW⟩ ?_ ?_
    ·rintro m us w14 ⟨jQ,lJ,qG,sS,zo,pF,NW,H,rJ,sH⟩
     obtain ⟨uy2,rfl⟩:=unj NW
     cases m with
     |zero=>exact absurd H (by simp [fV.l1])
     |succ m=>
      rw [fV.l1] at H
      try simp only [patch,sc0,sc1]
      refine Al<|Ao<|rs (vB (decide (lJ<(a0.au.length:Int)))) (bW X X X) ?_
      try simp only [sc0,sc1]
      refine aB<|ay<|Al<|Av (t:=(decide (lJ<(a0.au.length:Int)))) X (fun c6=>?_) (fun c6=>?_)
      ·replace H:=bU H c6
       refine AN<|ay<|Al<|wp_block<|Al<|Ao<|rs (vI lJ) (aO X)<|rs (vI lJ) (aG X) ?_
       try simp only [sc0,sc1]
       refine aB<|ay<|Al<|Ao<|rs (Value.map (some b4)) (aO X)<|rs (vI lJ) (aO X)<|rs (vB ((bM ieq v3 lJ).getD false)) (yU (og Bn) (k:=lJ) (m:=v3) (ev:=vB) false X X Cr B_ (sH.look 2 X) ho3) ?_
       try simp only [sc0,sc1]
       refine aB<|ay<|Av (t:=((bM ieq v3 lJ).getD false)) X (fun c7=>?_) (fun c7=>?_)
       ·replace H:=bU H c7
        refine Al<|Ao<|rs (vL (rowA sS) qG.length zo) (aN X B3 (sH.look 1 X) X)<|rs (vI jQ) (aO X)<|ng (Kd.int .i64) (xs:=([jQ]:List Int)) (n:=1) (cs:=[vI jQ]) AG Br Bb X X (by decide) (by decide) (by decide) [vI jQ] (jd.trans X) X X X X (fH (qs:=[vI jQ]) X (jc (cs:=[]))) sH ?_
        intro w15 b6 uQ ho4
        obtain ⟨hl3,H⟩:=dN H
        refine oD (Kd.int .i64) (q:=1) (cs:=pF) X X AG Br Bb X (by decide) X (ni AG uQ (i:=0) X ho4 X) ho4.len (iC ho4) hl3 uQ X rJ ?_
        intro w16 ob2 c8 cs2 xU ho5
        refine aK (by simp only [sc0,sc1];rfl) ?_
        refine gJ (i:=2) (cs:=[vL (rowA sS) qG.length zo]) (cs':=[vL (rowA ob2) (qG.length+1) c8]) (vs:=[vL (rowA ob2) (qG.length+1) c8]) (bs':=[((some b6), .cells ([vI jQ]).toArray 3 (0,0)),(ob2, .cells (cs2).toArray 3 (0,0)),(some b5, .cells #[vL (rowA ob2) (qG.length+1) c8] 27 (0,0)),(some b4, .map es1 cl1),(eP, .cells (iw).toArray 3 (0,0)),(some b2, .cells #[vL none 0 0] 24 (0,0)),(some b1, .cells #[vL bQ a0.au.length bT] 24 (0,0))]) X X BY X X (by decide) X xU X (Ax X) X X ?_
        intro w17 zM
        try simp only [sc0,sc1]
        refine aB<|ay<|Ao<|rs (vI jQ) (aO X)<|rs (vI (w64 (jQ+1))) (bW X X X)<|rs (vI (w64 (jQ+1))) (aG X) ?_
        try simp only [sc0,sc1]
        refine aB<|dD<|ay<|Ao<|rs (vI (w64 (lJ+1))) (bW X X X)<|rs (vI (w64 (lJ+1))) (aO X) ?_
        try simp only [sc0,sc1]
        refine aB ?_
        have zl:St [] h0 w0 h0 [((some b6), .cells ([vI jQ]).toArray 3 (0,0)),(ob2, .cells (cs2).toArray 3 (0,0)),(some b5, .cells #[vL (rowA ob2) ((qG++([jQ]:List Int)).length) c8] 27 (0,0)),(some b4, .map es1 cl1),(eP, .cells (iw).toArray 3 (0,0)),(some b2, .cells #[vL none 0 0] 24 (0,0)),(some b1, .cells #[vL bQ a0.au.length bT] 24 (0,0))] w17:=zM.cast (by first|rfl|(rw [ho5.len];done)|(rw [ho5.len];rfl))
        have ho6:=ho5.norm
        refine gI m (Nat.lt_succ_self m) X ⟨(w64 (jQ+1)),(w64 (lJ+1)),(qG++([jQ]:List Int)),ob2,c8,cs2,(fit (by first|rfl|(rw [ho5.len];done)|(rw [ho5.len];rfl))),H,ho6.norm,zl.tail⟩
       ·replace H:=cO H (nt c7)
        refine Ao<|rs (vL (rowA sS) qG.length zo) (aN X B3 (sH.look 1 X) X)<|ng (Kd.int .i64) (xs:=([(-1)]:List Int)) (n:=1) (cs:=[vI (-1)]) AG Br Bb X X (by decide) (by decide) (by decide) [vI (-1)] (jd.trans X) X X X X (fH (qs:=[vI (-1)]) X (jc (cs:=[]))) sH ?_
        intro w18 b7 zN ho7
        obtain ⟨hl4,H⟩:=dN H
        refine oD (Kd.int .i64) (q:=1) (cs:=pF) X X AG Br Bb X (by decide) X (ni AG zN (i:=0) X ho7 X) ho7.len (iC ho7) hl4 zN X rJ ?_
        intro w19 ob3 c9 cs3 Bf ho8
        refine gJ (i:=2) (cs:=[vL (rowA sS) qG.length zo]) (cs':=[vL (rowA ob3) (qG.length+1) c9]) (vs:=[vL (rowA ob3) (qG.length+1) c9]) (bs':=[((some b7), .cells ([vI (-1)]).toArray 3 (0,0)),(ob3, .cells (cs3).toArray 3 (0,0)),(some b5, .cells #[vL (rowA ob3) (qG.length+1) c9] 27 (0,0)),(some b4, .map es1 cl1),(eP, .cells (iw).toArray 3 (0,0)),(some b2, .cells #[vL none 0 0] 24 (0,0)),(some b1, .cells #[vL bQ a0.au.length bT] 24 (0,0))]) X X BY X X (by decide) X Bf X (Ax X) X X ?_
        intro w20 zO
        try simp only [sc0,sc1]
        refine aB<|dD<|ay<|Ao<|rs (vI (w64 (lJ+1))) (bW X X X)<|rs (vI (w64 (lJ+1))) (aO X) ?_
        try simp only [sc0,sc1]
        refine aB ?_
        have BX:St [] h0 w0 h0 [((some b7), .cells ([vI (-1)]).toArray 3 (0,0)),(ob3, .cells (cs3).toArray 3 (0,0)),(some b5, .cells #[vL (rowA ob3) ((qG++([(-1)]:List Int)).length) c9] 27 (0,0)),(some b4, .map es1 cl1),(eP, .cells (iw).toArray 3 (0,0)),(some b2, .cells #[vL none 0 0] 24 (0,0)),(some b1, .cells #[vL bQ a0.au.length bT] 24 (0,0))] w20:=zO.cast (by first|rfl|(rw [ho8.len];done)|(rw [ho8.len];rfl))
        have ho9:=ho8.norm
        refine gI m (Nat.lt_succ_self m) X ⟨jQ,(w64 (lJ+1)),(qG++([(-1)]:List Int)),ob3,c9,cs3,(fit (by first|rfl|(rw [ho8.len];done)|(rw [ho8.len];rfl))),H,ho9.norm,BX.tail⟩
      ·replace H:=cO H (nt c6)
       refine Bx<|eU ?_
       obtain rfl:=Ab H
       refine iK X ⟨sS,zo,pF,(fit X),rJ.norm,sH⟩
    ·rintro us w21 ⟨jZ,pO,uz,NY,uD,BI⟩
     obtain ⟨uo2,rfl⟩:=unj NY
     replace H:=G2
     clear G2
     try simp only [patch,sc0,sc1]
     refine ay<|Al<|Ao<|dF X X (dO (cs:=#[vL none 0 0]) Bp X) ?_
     rintro w22 _ hE7 ⟨b8,rfl,ge5,hb5⟩
     have AL:=BI.new hE7 ge5 hb5
     try simp only [sc0,sc1]
     refine aB<|ay<|Al<|Al<|Ao<|rs (vP b1 0) (aH (n:=1) (o':=0) X AE X AM (by decide) X)<|rs (vL bQ a0.au.length bT) (aN X AR (AL.look 6 X) X)<|rs (vI (a0.au.length:Int)) (jD X AF)<|rs (vI 0) (aO X) ?_
     try simp only [sc0,sc1]
     refine aB<|ay ?_
     obtain ⟨h1,yX,hs2,oV⟩:=lC AL (i:=1) rfl uD
     have Bh:St [] h0 w0 h1 [(some b8, .cells #[vL none 0 0] 24 (0,0)),(some b5, .cells #[vL (rowA jZ) xx2.length pO] 27 (0,0)),(some b4, .map es1 cl1),(eP, .cells (iw).toArray 3 (0,0)),(some b2, .cells #[vL none 0 0] 24 (0,0)),(some b1, .cells #[vL bQ a0.au.length bT] 24 (0,0))] w22:=yX
     replace jr:=jr.view hs2
     have IB:=Bh.nothing (.cells ([]:List Value).toArray 58 (0,0))
     obtain ⟨xx3,H,G3⟩:=bn H
     refine jB [16,17,68,69,70,71,72,73,74,75,76,77,78,79,80,81,82,83,84] (fun m us w'=>∃gX:Int,∃vg:List aZ,∃h2:View,∃(oP:Option Nat) (uS:Nat),∃(vk:List Value),Fit us (fun uy3=>[(uy3 0),(uy3 1),vI gX,(uy3 3),(uy3 4),(uy3 5),(uy3 6),(uy3 7),(uy3 8),(uy3 9),(uy3 10),(uy3 11),(uy3 12),(uy3 13),(uy3 14),(uy3 15),(uy3 16),(uy3 17),(uy3 18)])∧fV.l2 k a0 v3 xx2 m gX vg=some xx3∧gU bI h2 vg oP vg.length uS vk∧Rd (Kd.int .i64) h2 (rowA jZ) xx2∧gU (Kd.int .i64) h2 s1 eP s1.length jo iw∧St [] h0 w0 h2 [(oP, .cells (vk).toArray 58 (0,0)),(some b8, .cells #[vL (rowA oP) vg.length uS] 24 (0,0)),(some b5, .cells #[vL (rowA jZ) xx2.length pO] 27 (0,0)),(some b4, .map es1 cl1),(eP, .cells (iw).toArray 3 (0,0)),(some b2, .cells #[vL none 0 0] 24 (0,0)),(some b1, .cells #[vL bQ a0.au.length bT] 24 (0,0))] w') (fun us w'=>∃(h4:View),∃(nZ:Option Nat) (tq:Nat),∃(zY:List Value),Fit us (fun uo3=>[(uo3 0),(uo3 1),(uo3 2),(uo3 3),(uo3 4),(uo3 5),(uo3 6),(uo3 7),(uo3 8),(uo3 9),(uo3 10),(uo3 11),(uo3 12),(uo3 13),(uo3 14),(uo3 15),(uo3 16),(uo3 17),(uo3 18)])∧gU bI h4 xx3 nZ xx3.length tq zY∧Rd (Kd.int .i64) h4 (rowA jZ) xx2∧gU (Kd.int .i64) h4 s1 eP s1.length jo iw∧St [] h0 w0 h4 [(nZ, .cells (zY).toArray 58 (0,0)),(some b8, .cells #[vL (rowA nZ) xx3.length tq] 24 (0,0)),(some b5, .cells #[vL (rowA jZ) xx2.length pO] 27 (0,0)),(some b4, .map es1 cl1),(eP, .cells (iw).toArray 3 (0,0)),(some b2, .cells #[vL none 0 0] 24 (0,0)),(some b1, .cells #[vL bQ a0.au.length bT] 24 (0,0))] w') k ⟨0,([]:List aZ),h1,none,0,([]:List Value),(fit X),H,(gU.none' bI _).norm,oV,jr,IB⟩ ?_ ?_
     ·rintro m us w23 ⟨gX,vg,h2,oP,uS,vk,Ve,H,yx,oV,jr,Ea⟩
      obtain ⟨uy3,rfl⟩:=unj Ve
      cases m with
      |zero=>exact absurd H (by simp [fV.l2])
      |succ m=>
       rw [fV.l2] at H
       try simp only [patch,sc0,sc1]
       refine Al<|Ao<|rs (vB (decide (gX<(a0.au.length:Int)))) (bW X X X) ?_
       try simp only [sc0,sc1]
       refine aB<|ay<|Al<|Av (t:=(decide (gX<(a0.au.length:Int)))) X (fun c10=>?_) (fun c10=>?_)
       ·replace H:=bU H c10
        refine AN<|ay<|Al<|wp_block<|Al<|Ao<|rs (vI gX) (aO X) ?_
        obtain ⟨hi2,H⟩:=dN H
        obtain ⟨ad2,mO,mX,e2,tN,xY,vJ⟩:=gK (fK.ext Ea.sub) hi2.1 hi2.2
        refine rs (Value.pointer (some (Addr.add ad2 (gX.toNat*7)))) (dP (sz:=7) X e2 X hi2.1 hi2.2 AF AH)<|rs (Value.agg #[vI ((rd ah a0.au gX).aA),vS ((rd ah a0.au gX).aF),vI ((rd ah a0.au gX).aY.aU),vB ((rd ah a0.au gX).aY.aJ),vI ((rd ah a0.au gX).bY),vI ((rd ah a0.au gX).vN),vL mO ((rd ah a0.au gX).ak).length mX]) (gG X A7 (tN.sees Ea.sees) AH)<|dF X X (dO (cs:=#[vI 0,vS ByteArray.empty,vI 0,vB false,vI 0,vI 0,vL none 0 0]) A9 X) ?_
        rintro w24 _ hE8 ⟨b9,rfl,ge6,hb6⟩
        have LU:=Ea.new hE8 ge6 hb6
        refine aK (by simp only [sc0,sc1];rfl) ?_
        refine rs (vI gX) (aG X)<|gJ (i:=0) (cs:=[vI 0,vS ByteArray.empty,vI 0,vB false,vI 0,vI 0,vL none 0 0]) (cs':=[vI ((rd ah a0.au gX).aA),vS ((rd ah a0.au gX).aF),vI ((rd ah a0.au gX).aY.aU),vB ((rd ah a0.au gX).aY.aJ),vI ((rd ah a0.au gX).bY),vI ((rd ah a0.au gX).vN),vL mO ((rd ah a0.au gX).ak).length mX]) (vs:=[vI ((rd ah a0.au gX).aA),vS ((rd ah a0.au gX).aF),vI ((rd ah a0.au gX).aY.aU),vB ((rd ah a0.au gX).aY.aJ),vI ((rd ah a0.au gX).bY),vI ((rd ah a0.au gX).vN),vL mO ((rd ah a0.au gX).ak).length mX]) (bs':=[(some b9, .cells #[vI ((rd ah a0.au gX).aA),vS ((rd ah a0.au gX).aF),vI ((rd ah a0.au gX).aY.aU),vB ((rd ah a0.au gX).aY.aJ),vI ((rd ah a0.au gX).bY),vI ((rd ah a0.au gX).vN),vL mO ((rd ah a0.au gX).ak).length mX] 58 (0,0)),(oP, .cells (vk).toArray 58 (0,0)),(some b8, .cells #[vL (rowA oP) vg.length uS] 24 (0,0)),(some b5, .cells #[vL (rowA jZ) xx2.length pO] 27 (0,0)),(some b4, .map es1 cl1),(eP, .cells (iw).toArray 3 (0,0)),(some b2, .cells #[vL none 0 0] 24 (0,0)),(some b1, .cells #[vL bQ a0.au.length bT] 24 (0,0))]) X X AH X X (by decide) X LU X (Ax X) X X ?_
        intro w25 LV
        try simp only [sc0,sc1]
        refine aB<|ay<|Al<|Ao<|rs (Value.map (some b4)) (aO X)<|rs (vI gX) (aO X)<|rs (vB ((bM ieq v3 gX).getD false)) (yU (og Bn) (k:=gX) (m:=v3) (ev:=vB) false X X Cr B_ (LV.look 4 X) ho3) ?_
        try simp only [sc0,sc1]
        refine aB<|ay<|Av (t:=((bM ieq v3 gX).getD false)) X (fun c11=>?_) (fun c11=>?_)
        ·replace H:=bU H c11
         refine mg [([76,77,78,79],[0,1,2,3]),([],[0,1]),([],[0,1]),([83],[7]),([],[])] [4,5,6,8] [[],[0],[],[],[2,3],[2,3,4],[0,1,2,3,4,5],[0,1,2,3,4,5,6],[0,1,2,3,4,5,6,7]] rM (by kernel_rfl) ?_
         intro w26 hE9
         have KE:=LV.step hE9
         refine iR [vP b8 0,vL (rowA oP) vg.length uS,Value.agg #[vI ((rd ah a0.au gX).aA),vS ((rd ah a0.au gX).aF),vI ((rd ah a0.au gX).aY.aU),vB ((rd ah a0.au gX).aY.aJ),vI ((rd ah a0.au gX).bY),vI ((rd ah a0.au gX).vN),vL mO ((rd ah a0.au gX).ak).length mX],Value.func (.func 28) #[] #[vP b5 0]] ?_ X X ?_
         ·try simp only [patch,sc0,sc1]
          exact bF (bG (v:=vP b8 0) X X X X (aH (n:=1) (o':=0) X AE X AM (by decide) X)) (bF (bG (v:=vL (rowA oP) vg.length uS) X X X X (aN X AR (KE.look 2 X) X)) (bF (bG (v:=Value.agg #[vI ((rd ah a0.au gX).aA),vS ((rd ah a0.au gX).aF),vI ((rd ah a0.au gX).aY.aU),vB ((rd ah a0.au gX).aY.aJ),vI ((rd ah a0.au gX).bY),vI ((rd ah a0.au gX).vN),vL mO ((rd ah a0.au gX).ak).length mX]) X X X X (aT (n:=7) (vs:=[vI ((rd ah a0.au gX).aA),vS ((rd ah a0.au gX).aF),vI ((rd ah a0.au gX).aY.aU),vB ((rd ah a0.au gX).aY.aJ),vI ((rd ah a0.au gX).bY),vI ((rd ah a0.au gX).vN),vL mO ((rd ah a0.au gX).ak).length mX]) X A7 (KE.look 0 X) AH X X)) (bF (bG (v:=Value.func (.func 28) #[] #[vP b5 0]) X X X X (qC (vs:=[vP b5 0]) X)) (iH))))
         try simp only [patch,sc0,sc1]
         obtain ⟨v4,H4,H⟩:=bn H
         refine dF X X (iQ Tryz.call27 X (jX (h:=h2) (R:=(fun hx u=>∃(ku:Option Addr) (kC:Nat),u=Value.agg #[vI v4.aA,vS v4.aF,vI v4.aY.aU,vB v4.aY.aJ,vI v4.bY,vI v4.vN,vL ku v4.ak.length kC]∧v4.ak.length≤kC∧Rd dw hx ku v4.ak)) (Ext.rfl' w26) ((jI.calls k (rd ah a0.au gX) (fun z0=>qF.f z0 xx2) mO mX 28 [vP b5 0] KE.sees vJ xY Tryz.call28 (fun z0 h w hE hs hv r H=>qF.calls z0 xx2 b5 (rowA jZ) pO hv (oV.ext hs) uD.cap (kD (KE.look 3 X) hE) H) H4).mono ?_)) X) ?_
         ·rintro _ _ ⟨h1,ku,kC,rfl,wW,wX,g,ss,x⟩
          exact ⟨h1,_,X,⟨ku,kC,X,wW,wX⟩,g,ss,x⟩
         rintro w27 _ NI ⟨h3,⟨ku,kC,rfl,wW,wX⟩,gr1,se2⟩
         have MX:=KE.view NI gr1 se2
         replace oV:Rd (Kd.int .i64) h3 (rowA jZ) xx2:=oV.ext gr1.1
         replace tN:mM h3 (Addr.add ad2 (gX.toNat*7)) [vI ((rd ah a0.au gX).aA),vS ((rd ah a0.au gX).aF),vI ((rd ah a0.au gX).aY.aU),vB ((rd ah a0.au gX).aY.aJ),vI ((rd ah a0.au gX).bY),vI ((rd ah a0.au gX).vN),vL mO ((rd ah a0.au gX).ak).length mX]:=tN.sub gr1.1
         replace vJ:Rd dw h3 mO ((rd ah a0.au gX).ak):=vJ.ext gr1.1
         replace yx:=yx.view gr1.1
         replace jr:=jr.view gr1.1
         refine lY ?_
         try simp only [sc0,sc1]
         refine iR [] ?_ X X ?_
         ·try simp only [patch,sc0,sc1]
          exact bF (bG (v:=vP b8 0) X X X X (aH (n:=1) (o':=0) X AE X AM (by decide) X)) (bF (bG (v:=vL (rowA oP) vg.length uS) X X X X (aN X AR (MX.look 2 X) X)) (iH))
         try simp only [patch,sc0,sc1]
         refine ng bI (xs:=([v4]:List aZ)) (n:=1) (cs:=[vI v4.aA,vS v4.aF,vI v4.aY.aU,vB v4.aY.aJ,vI v4.bY,vI v4.vN,vL ku v4.ak.length kC]) AF B0 A9 X X (by decide) (by decide) (by decide) [Value.agg #[vI v4.aA,vS v4.aF,vI v4.aY.aU,vB v4.aY.aJ,vI v4.bY,vI v4.vN,vL ku v4.ak.length kC]] (jd.trans X) X X X X (fH (qs:=[vI v4.aA,vS v4.aF,vI v4.aY.aU,vB v4.aY.aJ,vI v4.bY,vI v4.vN,vL ku v4.ak.length kC]) ⟨[vI v4.aA],[vS v4.aF,vI v4.aY.aU,vB v4.aY.aJ,vI v4.bY,vI v4.vN,vL ku v4.ak.length kC],X,X,⟨[vS v4.aF],[vI v4.aY.aU,vB v4.aY.aJ,vI v4.bY,vI v4.vN,vL ku v4.ak.length kC],X,X,⟨[vI v4.aY.aU,vB v4.aY.aJ],[vI v4.bY,vI v4.vN,vL ku v4.ak.length kC],X,⟨[vI v4.aY.aU],[vB v4.aY.aJ],X,X,X⟩,⟨[vI v4.bY],[vI v4.vN,vL ku v4.ak.length kC],X,X,⟨[vI v4.vN],[vL ku v4.ak.length kC],X,X,⟨ku,kC,X,wW,wX⟩⟩⟩⟩⟩⟩ (jc (cs:=[]))) MX ?_
         intro w28 b10 LW SK
         refine lY ?_
         try simp only [sc0,sc1]
         refine iR [] ?_ X X ?_
         ·try simp only [patch,sc0,sc1]
          exact bF (bG (v:=vP b8 0) X X X X (aH (n:=1) (o':=0) X AE X AM (by decide) X)) (bF (bG (v:=vL (rowA oP) vg.length uS) X X X X (aN X AR (LW.look 3 X) X)) (iH))
         try simp only [patch,sc0,sc1]
         obtain ⟨hl5,H⟩:=dN H
         refine oD bI (q:=2) (cs:=vk) X X AF B0 A9 X (by decide) X (ni AF LW (i:=0) X SK X) SK.len (iC SK) hl5 LW X yx ?_
         intro w29 ob4 c12 cs4 MZ SX
         refine lY ?_
         try simp only [sc0,sc1]
         refine iR [vP b8 0] ?_ X X ?_
         ·try simp only [patch,sc0,sc1]
          exact bF (bG (v:=vP b8 0) X X X X (aH (n:=1) (o':=0) X AE X AM (by decide) X)) (iH)
         try simp only [patch,sc0,sc1]
         refine gJ (i:=3) (cs:=[vL (rowA oP) vg.length uS]) (cs':=[vL (rowA ob4) (vg.length+1) c12]) (vs:=[vL (rowA ob4) (vg.length+1) c12]) (bs':=[((some b10), .cells ([vI v4.aA,vS v4.aF,vI v4.aY.aU,vB v4.aY.aJ,vI v4.bY,vI v4.vN,vL ku v4.ak.length kC]).toArray 58 (0,0)),(some b9, .cells #[vI ((rd ah a0.au gX).aA),vS ((rd ah a0.au gX).aF),vI ((rd ah a0.au gX).aY.aU),vB ((rd ah a0.au gX).aY.aJ),vI ((rd ah a0.au gX).bY),vI ((rd ah a0.au gX).vN),vL mO ((rd ah a0.au gX).ak).length mX] 58 (0,0)),(ob4, .cells (cs4).toArray 58 (0,0)),(some b8, .cells #[vL (rowA ob4) (vg.length+1) c12] 24 (0,0)),(some b5, .cells #[vL (rowA jZ) xx2.length pO] 27 (0,0)),(some b4, .map es1 cl1),(eP, .cells (iw).toArray 3 (0,0)),(some b2, .cells #[vL none 0 0] 24 (0,0)),(some b1, .cells #[vL bQ a0.au.length bT] 24 (0,0))]) X X AM X X (by decide) X MZ X (Ax X) X X ?_
         intro w30 WC
         refine lY ?_
         try simp only [sc0,sc1]
         refine nU [] ?_ ?_
         ·try simp only [patch,sc0,sc1]
          exact iH
         try simp only [patch,sc0,sc1]
         refine dD<|ay<|Ao<|rs (vI (w64 (gX+1))) (bW X X X)<|rs (vI (w64 (gX+1))) (aO X) ?_
         try simp only [sc0,sc1]
         refine aB ?_
         have WE:St [] h0 w0 h3 [((some b10), .cells ([vI v4.aA,vS v4.aF,vI v4.aY.aU,vB v4.aY.aJ,vI v4.bY,vI v4.vN,vL ku v4.ak.length kC]).toArray 58 (0,0)),(some b9, .cells #[vI ((rd ah a0.au gX).aA),vS ((rd ah a0.au gX).aF),vI ((rd ah a0.au gX).aY.aU),vB ((rd ah a0.au gX).aY.aJ),vI ((rd ah a0.au gX).bY),vI ((rd ah a0.au gX).vN),vL mO ((rd ah a0.au gX).ak).length mX] 58 (0,0)),(ob4, .cells (cs4).toArray 58 (0,0)),(some b8, .cells #[vL (rowA ob4) ((vg++([v4]:List aZ)).length) c12] 24 (0,0)),(some b5, .cells #[vL (rowA jZ) xx2.length pO] 27 (0,0)),(some b4, .map es1 cl1),(eP, .cells (iw).toArray 3 (0,0)),(some b2, .cells #[vL none 0 0] 24 (0,0)),(some b1, .cells #[vL bQ a0.au.length bT] 24 (0,0))] w30:=WC.cast (by first|rfl|(rw [SX.len];done)|(rw [SX.len];rfl))
         have X8:=SX.norm
         refine gI m (Nat.lt_succ_self m) X ⟨(w64 (gX+1)),(vg++([v4]:List aZ)),h3,ob4,c12,cs4,(fit (by first|rfl|(rw [SX.len];done)|(rw [SX.len];rfl))),H,X8.norm,oV,jr,WE.tail.tail⟩
        ·replace H:=cO H (nt c11)
         refine AN<|dD<|ay<|Ao<|rs (vI (w64 (gX+1))) (bW X X X)<|rs (vI (w64 (gX+1))) (aO X) ?_
         try simp only [sc0,sc1]
         refine aB<|gI m (Nat.lt_succ_self m) X ⟨(w64 (gX+1)),vg,h2,oP,uS,vk,(fit X),H,yx.norm,oV,jr,LV.tail⟩
       ·replace H:=cO H (nt c10)
        refine Bx<|eU ?_
        obtain rfl:=Ab H
        refine iK X ⟨h2,oP,uS,vk,(fit X),yx.norm,oV,jr,Ea⟩
     ·rintro us w31 ⟨h4,nZ,tq,zY,Vf,GN,oV,jr,Va⟩
      obtain ⟨uo3,rfl⟩:=unj Vf
      replace H:=G3
      clear G3
      try simp only [patch,sc0,sc1]
      refine ay<|Al<|Em [.eq (Value.agg #[vL (rowA nZ) xx3.length tq]), .eq (vL (rowA jZ) xx2.length pO)] [85,86] 1 86 (vL (rowA jZ) xx2.length pO) _ _ rM (by kernel_rfl) X X X X X (aP (aP iJ)) ⟨aX X (fun a' w' hE hk=>by exact aW (aT (n:=1) (vs:=[vL (rowA nZ) xx3.length tq]) (show _=vP b8 0 from hk 15 X) AI ((Va.step hE).look 1 X) AD X X)),aX X (fun a' w' hE hk=>by exact aW (aN (show _=vP b5 0 from hk 12 X) B3 ((Va.step hE).look 2 X) X)),trivial⟩ ?_
      intro w32 Qg
      simp only [List.zip_cons_cons,List.zip_nil_left,List.zip_nil_right,vO,sc0,sc1,List.length_cons,List.length_nil,List.drop_succ_cons,List.drop_zero,Nat.zero_add,Nat.reduceAdd]
      have Vb:=Va.step Qg
      refine Me (i:=5) (cs:=[vL none 0 0]) (cs':=[vL (rowA nZ) xx3.length tq]) (vs:=[vL (rowA nZ) xx3.length tq]) (bs':=[(nZ, .cells (zY).toArray 58 (0,0)),(some b8, .cells #[vL (rowA nZ) xx3.length tq] 24 (0,0)),(some b5, .cells #[vL (rowA jZ) xx2.length pO] 27 (0,0)),(some b4, .map es1 cl1),(eP, .cells (iw).toArray 3 (0,0)),(some b2, .cells #[vL (rowA nZ) xx3.length tq] 24 (0,0)),(some b1, .cells #[vL bQ a0.au.length bT] 24 (0,0))]) (fun _=>rfl) (fun _=>rfl) AD X X (by decide) X Vb X (Ax X) X X X (Ax X) (fun w2 HSl u=>(aN X B3 (HSl.look 2 X) X)) X ?_
      intro w33 TK
      refine rs (vL (rowA jZ) xx2.length pO) (aG X)<|rs (vI 0) (aG X) ?_
      try simp only [sc0,sc1]
      refine aB<|ay<|AT ?_
      obtain rfl:=Ab H
      refine Ay (qg X (kY X AI (TK.look 5 X) AD X) (bK X) (bK X)) X ?_
      obtain ⟨h5,Vd,hs3,D8⟩:=lC TK (i:=0) rfl GN
      replace jr:=jr.view hs3
      replace oV:Rd (Kd.int .i64) h5 (rowA jZ) xx2:=oV.ext hs3
      exact ⟨h5,(rowA nZ),tq,(rowA jZ),pO,X,GN.cap,D8,uD.cap,oV,Vd.gr,Vd.sees,Vd.toE⟩
def dZ.f (a0:aZ):Option (Bool):=some ((a0.aA !=2)&&(a0.aA !=3))
theorem dZ.calls (a0:aZ) (kG:Option Addr) (kH:Nat) {h0:View} {w0:World} (hv:lS h0 w0) (sV:Rd dw h0 kG a0.ak) (wL:a0.ak.length≤kH) {r:Bool} (H:dZ.f a0=some r):Calls Tryz.prog 34 #[Value.agg #[vI a0.aA,vS a0.aF,vI a0.aY.aU,vB a0.aY.aJ,vI a0.bY,vI a0.vN,vL kG a0.ak.length kH]] w0 (fun e w1=>e= .returned (vB r)∧Ext w0 w1):=by
 unfold dZ.f at H
 have HS:St [] h0 w0 h0 [] w0:=St.init hv
 go_enter Tryz.func34,Tryz.ntmps34
 refine Al<|Ao<|dF X X (eF (cs:=#[vI a0.aA,vS a0.aF,vI a0.aY.aU,vB a0.aY.aJ,vI a0.bY,vI a0.vN,vL kG a0.ak.length kH]) X X) ?_
 rintro w1 _ hE1 ⟨b1,rfl,ge1,hb1⟩
 have HS1:=HS.new hE1 ge1 hb1
 refine rs (vB false) (aG X) ?_
 try simp only [sc0,sc1]
 refine aB<|ay<|Al<|Ao<|rs (vP b1 0) (aH (n:=1) (o':=0) X An X As (by decide) X)<|rs (vI a0.aA) (aN X AC (HS1.look 0 X) X)<|rs (vB (a0.aA !=2)) (bW X X X)<|rs (vB (a0.aA !=2)) (aO X)<|aK (by simp only [sc0,sc1];rfl) ?_
 refine rgs (a0.aA !=2) true (vP b1 0) X X X X (fun hg=>(aH (n:=1) (o':=0) X An X As (by decide) X))<|rgs (a0.aA !=2) true (vI a0.aA) X X X X (fun hg=>(aN (gvt (vP b1 0) hg X) AC (HS1.look 0 X) X))<|rgs (a0.aA !=2) true (vB (a0.aA !=3)) X X X X (fun hg=>(bW (gvt (vI a0.aA) hg X) X X))<|rs (vB ((a0.aA !=2)&&(a0.aA !=3))) (dL X (fun hp=>(gvt (vB (a0.aA !=3)) (gQ X hp) X)) X)<|aK (by simp only [sc0,sc1];rfl) ?_
 refine rs (vB ((a0.aA !=2)&&(a0.aA !=3))) (aG X) ?_
 try simp only [sc0,sc1]
 refine aB<|ay<|AT ?_
 obtain rfl:=Ab H
 exact Ay (bD X (bK X)) X<|⟨X,HS1.toE⟩
def lM.f (a0:aZ):Option (Bool):=(dZ.f a0).bind fun v1=>(if (v1 !=(!(strEq a0.aF ByteArray.empty)))=true then (some false) else (if ((a0.aA !=1)&&((a0.aY.aU !=0)||a0.aY.aJ))=true then (some false) else (if ((((a0.aA !=2)&&(a0.aA !=3))&&(a0.aA !=6))&&(a0.bY !=0))=true then (some false) else (if (((a0.aA !=3)&&(a0.aA !=4))&&(a0.vN !=0))=true then (some false) else (some (((a0.aA==4)||(a0.aA==5))||((a0.ak.length:Int)==0)))))))
theorem lM.calls (a0:aZ) (kG:Option Addr) (kH:Nat) {h0:View} {w0:World} (hv:lS h0 w0) (sV:Rd dw h0 kG a0.ak) (wL:a0.ak.length≤kH) {r:Bool} (H:lM.f a0=some r):Calls Tryz.prog 80 #[Value.agg #[vI a0.aA,vS a0.aF,vI a0.aY.aU,vB a0.aY.aJ,vI a0.bY,vI a0.vN,vL kG a0.ak.length kH]] w0 (fun e w1=>e= .returned (vB r)∧Ext w0 w1):=by
 unfold lM.f at H
 have HS:St [] h0 w0 h0 [] w0:=St.init hv
 go_enter Tryz.func80,Tryz.ntmps80
 refine Al<|Ao<|dF X X (eF (cs:=#[vI a0.aA,vS a0.aF,vI a0.aY.aU,vB a0.aY.aJ,vI a0.bY,vI a0.vN,vL kG a0.ak.length kH]) X X) ?_
 rintro w1 _ hE1 ⟨b1,rfl,ge1,hb1⟩
 have HS1:=HS.new hE1 ge1 hb1
 refine rs (vB false) (aG X) ?_
 try simp only [sc0,sc1]
 refine aB<|ay<|Al<|Al ?_
 obtain ⟨v1,H1,H⟩:=bn H
 refine drawn [.eq (Value.agg #[vI a0.aA,vS a0.aF,vI a0.aY.aU,vB a0.aY.aJ,vI a0.bY,vI a0.vN,vL kG a0.ak.length kH]), .eq (vB v1), .eq (vP b1 1), .eq (vS a0.aF), .eq (vB (!(strEq a0.aF ByteArray.empty))), .eq (vB (v1 !=(!(strEq a0.aF ByteArray.empty))))] [3,4,5,6,7,8] rM (by kernel_rfl) X (aP (aP (aP (aP (aP (aP iJ)))))) ⟨aX X (fun a' w' hE hk=>by exact aW (aT (n:=7) (vs:=[vI a0.aA,vS a0.aF,vI a0.aY.aU,vB a0.aY.aJ,vI a0.bY,vI a0.vN,vL kG a0.ak.length kH]) (show _=vP b1 0 from hk 1 X) A7 ((HS1.step hE).look 0 X) AH X X)),aX X (fun a' w' hE hk=>by exact (bC Cv X (Jk (show _=Value.agg #[vI a0.aA,vS a0.aF,vI a0.aY.aU,vB a0.aY.aJ,vI a0.bY,vI a0.vN,vL kG a0.ak.length kH] from hk 3 X)) (dZ.calls a0 kG kH (HS1.step hE).sees sV wL H1))),aX X (fun a' w' hE hk=>by exact aW (aH (n:=1) (o':=1) (show _=vP b1 0 from hk 1 X) An X AW (by decide) X)),aX X (fun a' w' hE hk=>by exact aW (aN (show _=vP b1 1 from hk 5 X) Be ((HS1.step hE).look 0 X) X)),aX X (fun a' w' hE hk=>by exact aW (ql (show _=vS a0.aF from hk 6 X) X)),aX X (fun a' w' hE hk=>by exact aW (F7 (show _=vB v1 from hk 4 X) (show _=vB (!(strEq a0.aF ByteArray.empty)) from hk 7 X) CD)),trivial⟩ ?_
 intro w2 hE2
 simp only [List.zip_cons_cons,List.zip_nil_left,List.zip_nil_right,vO,sc0,sc1,List.length_cons,List.length_nil,List.drop_succ_cons,List.drop_zero,Nat.zero_add,Nat.reduceAdd]
 have HS2:=HS1.step hE2
 refine aB<|ay<|Av (t:=(v1 !=(!(strEq a0.aF ByteArray.empty)))) X (fun c1=>?_) (fun c1=>?_)
 ·replace H:=bU H c1
  refine Al<|Ao<|rs (vB false) (aG X) ?_
  try simp only [sc0,sc1]
  refine aB<|ay<|AT<|bP ?_
  obtain rfl:=Ab H
  exact Ay (bD X (bK X)) X<|⟨X,HS2.toE⟩
 ·replace H:=cO H (nt c1)
  refine AN<|ay<|Al<|Al<|Ao<|rs (vP b1 0) (aH (n:=1) (o':=0) X An X As (by decide) X)<|rs (vI a0.aA) (aN X AC (HS2.look 0 X) X)<|rs (vB (a0.aA !=1)) (bW X X X)<|rs (vB (a0.aA !=1)) (aO X)<|aK (by simp only [sc0,sc1];rfl) ?_
  refine rgs (a0.aA !=1) true (vP b1 2) X X X X (fun hg=>(aH (n:=2) (o':=2) X An X Bk (by decide) X))<|rgs (a0.aA !=1) true (vP b1 2) X X X X (fun hg=>(aH (n:=1) (o':=2) (gvt (vP b1 2) hg X) A_ X As (by decide) X))<|rgs (a0.aA !=1) true (vI a0.aY.aU) X X X X (fun hg=>(aN (gvt (vP b1 2) hg X) AC (HS2.look 0 X) X))<|rgs (a0.aA !=1) true (vB (a0.aY.aU !=0)) X X X X (fun hg=>(bW (gvt (vI a0.aY.aU) hg X) X X))<|aK (by simp only [sc0,sc1];rfl) ?_
  refine rgs (a0.aA !=1) true (vB (a0.aY.aU !=0)) X X X X (fun hg=>(aO (gvt (vB (a0.aY.aU !=0)) hg X)))<|rgs (a0.aY.aU !=0) (true&&((a0.aA !=1)==true)) (vP b1 2) X X X X (fun hg=>(aH (n:=2) (o':=2) X An X Bk (by decide) X))<|rgs (a0.aY.aU !=0) (true&&((a0.aA !=1)==true)) (vP b1 3) X X X X (fun hg=>(aH (n:=1) (o':=3) (gvt (vP b1 2) hg X) A_ X Bi (by decide) X))<|rgs (a0.aY.aU !=0) (true&&((a0.aA !=1)==true)) (vB a0.aY.aJ) X X X X (fun hg=>(aN (gvt (vP b1 3) hg X) By (HS2.look 0 X) X))<|aK (by simp only [sc0,sc1];rfl) ?_
  refine rgs (a0.aA !=1) true (vB ((a0.aY.aU !=0)||a0.aY.aJ)) X X X X (fun hg=>(dQ (gvt (vB (a0.aY.aU !=0)) hg X) X (fun hp=>(gvt (vB a0.aY.aJ) (gQ hg hp) X))))<|rs (vB ((a0.aA !=1)&&((a0.aY.aU !=0)||a0.aY.aJ))) (dL X (fun hp=>(gvt (vB ((a0.aY.aU !=0)||a0.aY.aJ)) (gQ X hp) X)) X) ?_
  try simp only [sc0,sc1]
  refine aB<|ay<|Av (t:=((a0.aA !=1)&&((a0.aY.aU !=0)||a0.aY.aJ))) X (fun c2=>?_) (fun c2=>?_)
  ·replace H:=bU H c2
   refine Al<|Ao<|rs (vB false) (aG X) ?_
   try simp only [sc0,sc1]
   refine aB<|ay<|AT<|bP ?_
   obtain rfl:=Ab H
   exact Ay (bD X (bK X)) X<|⟨X,HS2.toE⟩
  ·replace H:=cO H (nt c2)
   refine AN<|ay<|Al<|Al<|Ao<|rs (vP b1 0) (aH (n:=1) (o':=0) X An X As (by decide) X)<|rs (vI a0.aA) (aN X AC (HS2.look 0 X) X)<|rs (vB (a0.aA !=2)) (bW X X X)<|rs (vB (a0.aA !=2)) (aO X)<|aK (by simp only [sc0,sc1];rfl) ?_
   refine rgs (a0.aA !=2) true (vP b1 0) X X X X (fun hg=>(aH (n:=1) (o':=0) X An X As (by decide) X))<|rgs (a0.aA !=2) true (vI a0.aA) X X X X (fun hg=>(aN (gvt (vP b1 0) hg X) AC (HS2.look 0 X) X))<|rgs (a0.aA !=2) true (vB (a0.aA !=3)) X X X X (fun hg=>(bW (gvt (vI a0.aA) hg X) X X))<|rs (vB ((a0.aA !=2)&&(a0.aA !=3))) (dL X (fun hp=>(gvt (vB (a0.aA !=3)) (gQ X hp) X)) X)<|aK (by simp only [sc0,sc1];rfl) ?_
   refine rs (vB ((a0.aA !=2)&&(a0.aA !=3))) (aO X)<|rgs ((a0.aA !=2)&&(a0.aA !=3)) true (vP b1 0) X X X X (fun hg=>(aH (n:=1) (o':=0) X An X As (by decide) X))<|rgs ((a0.aA !=2)&&(a0.aA !=3)) true (vI a0.aA) X X X X (fun hg=>(aN (gvt (vP b1 0) hg X) AC (HS2.look 0 X) X))<|rgs ((a0.aA !=2)&&(a0.aA !=3)) true (vB (a0.aA !=6)) X X X X (fun hg=>(bW (gvt (vI a0.aA) hg X) X X))<|aK (by simp only [sc0,sc1];rfl) ?_
   refine rs (vB (((a0.aA !=2)&&(a0.aA !=3))&&(a0.aA !=6))) (dL X (fun hp=>(gvt (vB (a0.aA !=6)) (gQ X hp) X)) X)<|rs (vB (((a0.aA !=2)&&(a0.aA !=3))&&(a0.aA !=6))) (aO X)<|rgs (((a0.aA !=2)&&(a0.aA !=3))&&(a0.aA !=6)) true (vP b1 4) X X X X (fun hg=>(aH (n:=1) (o':=4) X An X As (by decide) X))<|rgs (((a0.aA !=2)&&(a0.aA !=3))&&(a0.aA !=6)) true (vI a0.bY) X X X X (fun hg=>(aN (gvt (vP b1 4) hg X) AC (HS2.look 0 X) X))<|aK (by simp only [sc0,sc1];rfl) ?_
   refine rgs (((a0.aA !=2)&&(a0.aA !=3))&&(a0.aA !=6)) true (vB (a0.bY !=0)) X X X X (fun hg=>(bW (gvt (vI a0.bY) hg X) X X))<|rs (vB ((((a0.aA !=2)&&(a0.aA !=3))&&(a0.aA !=6))&&(a0.bY !=0))) (dL X (fun hp=>(gvt (vB (a0.bY !=0)) (gQ X hp) X)) X) ?_
   try simp only [sc0,sc1]
   refine aB<|ay<|Av (t:=((((a0.aA !=2)&&(a0.aA !=3))&&(a0.aA !=6))&&(a0.bY !=0))) X (fun c3=>?_) (fun c3=>?_)
   ·replace H:=bU H c3
    refine Al<|Ao<|rs (vB false) (aG X) ?_
    try simp only [sc0,sc1]
    refine aB<|ay<|AT<|bP ?_
    obtain rfl:=Ab H
    exact Ay (bD X (bK X)) X<|⟨X,HS2.toE⟩
   ·replace H:=cO H (nt c3)
    refine AN<|ay<|Al<|Al<|Ao<|rs (vP b1 0) (aH (n:=1) (o':=0) X An X As (by decide) X)<|rs (vI a0.aA) (aN X AC (HS2.look 0 X) X)<|rs (vB (a0.aA !=3)) (bW X X X)<|rs (vB (a0.aA !=3)) (aO X)<|aK (by simp only [sc0,sc1];rfl) ?_
    refine rgs (a0.aA !=3) true (vP b1 0) X X X X (fun hg=>(aH (n:=1) (o':=0) X An X As (by decide) X))<|rgs (a0.aA !=3) true (vI a0.aA) X X X X (fun hg=>(aN (gvt (vP b1 0) hg X) AC (HS2.look 0 X) X))<|rgs (a0.aA !=3) true (vB (a0.aA !=4)) X X X X (fun hg=>(bW (gvt (vI a0.aA) hg X) X X))<|rs (vB ((a0.aA !=3)&&(a0.aA !=4))) (dL X (fun hp=>(gvt (vB (a0.aA !=4)) (gQ X hp) X)) X)<|aK (by simp only [sc0,sc1];rfl) ?_
    refine rs (vB ((a0.aA !=3)&&(a0.aA !=4))) (aO X)<|rgs ((a0.aA !=3)&&(a0.aA !=4)) true (vP b1 5) X X X X (fun hg=>(aH (n:=1) (o':=5) X An X As (by decide) X))<|rgs ((a0.aA !=3)&&(a0.aA !=4)) true (vI a0.vN) X X X X (fun hg=>(aN (gvt (vP b1 5) hg X) AC (HS2.look 0 X) X))<|rgs ((a0.aA !=3)&&(a0.aA !=4)) true (vB (a0.vN !=0)) X X X X (fun hg=>(bW (gvt (vI a0.vN) hg X) X X))<|aK (by simp only [sc0,sc1];rfl) ?_
    refine rs (vB (((a0.aA !=3)&&(a0.aA !=4))&&(a0.vN !=0))) (dL X (fun hp=>(gvt (vB (a0.vN !=0)) (gQ X hp) X)) X) ?_
    try simp only [sc0,sc1]
    refine aB<|ay<|Av (t:=(((a0.aA !=3)&&(a0.aA !=4))&&(a0.vN !=0))) X (fun c4=>?_) (fun c4=>?_)
    ·replace H:=bU H c4
     refine Al<|Ao<|rs (vB false) (aG X) ?_
     try simp only [sc0,sc1]
     refine aB<|ay<|AT<|bP ?_
     obtain rfl:=Ab H
     exact Ay (bD X (bK X)) X<|⟨X,HS2.toE⟩
    ·replace H:=cO H (nt c4)
     refine AN<|ay<|Al<|Ao<|rs (vP b1 0) (aH (n:=1) (o':=0) X An X As (by decide) X)<|rs (vI a0.aA) (aN X AC (HS2.look 0 X) X)<|rs (vB (a0.aA==4)) (bW X X X)<|rs (vB (a0.aA==4)) (aO X)<|aK (by simp only [sc0,sc1];rfl) ?_
     refine rgs (a0.aA==4) true (vP b1 0) X X X X (fun hg=>(aH (n:=1) (o':=0) X An X As (by decide) X))<|rgs (a0.aA==4) true (vI a0.aA) X X X X (fun hg=>(aN (gvt (vP b1 0) hg X) AC (HS2.look 0 X) X))<|rgs (a0.aA==4) true (vB (a0.aA==5)) X X X X (fun hg=>(bW (gvt (vI a0.aA) hg X) X X))<|rs (vB ((a0.aA==4)||(a0.aA==5))) (dQ X X (fun hp=>(gvt (vB (a0.aA==5)) (gQ X hp) X)))<|aK (by simp only [sc0,sc1];rfl) ?_
     refine rs (vB ((a0.aA==4)||(a0.aA==5))) (aO X)<|rgs ((a0.aA==4)||(a0.aA==5)) true (vP b1 6) X X X X (fun hg=>(aH (n:=1) (o':=6) X An X A4 (by decide) X))<|rgs ((a0.aA==4)||(a0.aA==5)) true (vL kG a0.ak.length kH) X X X X (fun hg=>(aN (gvt (vP b1 6) hg X) Bs (HS2.look 0 X) X))<|rgs ((a0.aA==4)||(a0.aA==5)) true (vI (a0.ak.length:Int)) X X X X (fun hg=>(jD (gvt (vL kG a0.ak.length kH) hg X) AK))<|aK (by simp only [sc0,sc1];rfl) ?_
     refine rgs ((a0.aA==4)||(a0.aA==5)) true (vB ((a0.ak.length:Int)==0)) X X X X (fun hg=>(bW (gvt (vI (a0.ak.length:Int)) hg X) X X))<|rs (vB (((a0.aA==4)||(a0.aA==5))||((a0.ak.length:Int)==0))) (dQ X X (fun hp=>(gvt (vB ((a0.ak.length:Int)==0)) (gQ X hp) X)))<|rs (vB (((a0.aA==4)||(a0.aA==5))||((a0.ak.length:Int)==0))) (aG X) ?_
     try simp only [sc0,sc1]
     refine aB<|ay<|AT ?_
     obtain rfl:=Ab H
     exact Ay (bD X (bK X)) X<|⟨X,HS2.toE⟩
def gB.l0 (a0:ByteArray):Nat→Int→Option ((Bool)⊕(Unit))
 |0,_=>none
 |m+1,aC=>if (decide (aC<(a0.size:Int)))=true then (if 0≤aC∧aC<(a0.size:Int) then (if ((!((((decide ((byteAt a0 aC)≥97))&&(decide ((byteAt a0 aC)≤122)))||((decide ((byteAt a0 aC)≥65))&&(decide ((byteAt a0 aC)≤90))))||((byteAt a0 aC)==95)))&&(((aC==0)||(decide ((byteAt a0 aC)<48)))||(decide ((byteAt a0 aC)>57))))=true then (some (.inl false)) else (gB.l0 a0 m (IntKind.wrap .i64 (aC+1)))) else none) else (some (.inr ()))
def gB.f (k:Nat) (a0:ByteArray):Option (Bool):=if (((a0.size:Int)==0)||(decide ((a0.size:Int)>31)))=true then (some false) else ((gB.l0 a0 k 0).bind fun xx1=>(match xx1 with| .inl r=>some r| .inr s1=>some true))
theorem gB.calls (k:Nat) (a0:ByteArray) {h0:View} {w0:World} (hv:lS h0 w0) {r:Bool} (H:gB.f k a0=some r):Calls Tryz.prog 81 #[vS a0] w0 (fun e w1=>e= .returned (vB r)∧Ext w0 w1):=by
 unfold gB.f at H
 have HS:St [] h0 w0 h0 [] w0:=St.init hv
 go_enter Tryz.func81,Tryz.ntmps81
 refine Al<|Ao<|rs (vB false) (aG X) ?_
 try simp only [sc0,sc1]
 refine aB<|ay<|Al<|Al<|Ao<|rs (vS a0) (aO X)<|rs (vI (a0.size:Int)) (zD X BB)<|rs (vB ((a0.size:Int)==0)) (bW X X X)<|rs (vB ((a0.size:Int)==0)) (aO X)<|aK (by simp only [sc0,sc1];rfl) ?_
 refine rgs ((a0.size:Int)==0) true (vS a0) X X X X (fun hg=>(aO X))<|rgs ((a0.size:Int)==0) true (vI (a0.size:Int)) X X X X (fun hg=>(zD (gvt (vS a0) hg X) BB))<|rgs ((a0.size:Int)==0) true (vB (decide ((a0.size:Int)>31))) X X X X (fun hg=>(bW (gvt (vI (a0.size:Int)) hg X) X X))<|rs (vB (((a0.size:Int)==0)||(decide ((a0.size:Int)>31)))) (dQ X X (fun hp=>(gvt (vB (decide ((a0.size:Int)>31))) (gQ X hp) X))) ?_
 try simp only [sc0,sc1]
 refine aB<|ay<|Av (t:=(((a0.size:Int)==0)||(decide ((a0.size:Int)>31)))) X (fun c1=>?_) (fun c1=>?_)
 ·replace H:=bU H c1
  refine Al<|Ao<|rs (vB false) (aG X) ?_
  try simp only [sc0,sc1]
  refine aB<|ay<|AT<|bP ?_
  obtain rfl:=Ab H
  exact Ay (bD X (bK X)) X<|⟨X,HS.toE⟩
 ·replace H:=cO H (nt c1)
  refine AN<|ay<|Al<|Al<|Ao<|rs (vI 0) (aG X) ?_
  try simp only [sc0,sc1]
  refine aB<|ay ?_
  obtain ⟨xx1,H,G1⟩:=bn H
  refine jB [2,3,4,5,14,15,16,17,18,19,20,21,22,23,24,25,26,27,28,29,30,31,32,33,34,35,36,37,38,39,40,41,42,43,44,45,46,47,48,49,50,51,52,53,54] (fun m us w'=>∃(aC:Int),Fit us (fun uy1=>[(uy1 0),vI aC,(uy1 2),(uy1 3),(uy1 4),(uy1 5),(uy1 6),(uy1 7),(uy1 8),(uy1 9),(uy1 10),(uy1 11),(uy1 12),(uy1 13),(uy1 14),(uy1 15),(uy1 16),(uy1 17),(uy1 18),(uy1 19),(uy1 20),(uy1 21),(uy1 22),(uy1 23),(uy1 24),(uy1 25),(uy1 26),(uy1 27),(uy1 28),(uy1 29),(uy1 30),(uy1 31),(uy1 32),(uy1 33),(uy1 34),(uy1 35),(uy1 36),(uy1 37),(uy1 38),(uy1 39),(uy1 40),(uy1 41),(uy1 42),(uy1 43),(uy1 44)])∧gB.l0 a0 m aC=some xx1∧St [] h0 w0 h0 [] w') (fun us w'=>∃(s1:Unit),xx1= .inr s1∧Fit us (fun uo1=>[(uo1 0),(uo1 1),(uo1 2),(uo1 3),(uo1 4),(uo1 5),(uo1 6),(uo1 7),(uo1 8),(uo1 9),(uo1 10),(uo1 11),(uo1 12),(uo1 13),(uo1 14),(uo1 15),(uo1 16),(uo1 17),(uo1 18),(uo1 19),(uo1 20),(uo1 21),(uo1 22),(uo1 23),(uo1 24),(uo1 25),(uo1 26),(uo1 27),(uo1 28),(uo1 29),(uo1 30),(uo1 31),(uo1 32),(uo1 33),(uo1 34),(uo1 35),(uo1 36),(uo1 37),(uo1 38),(uo1 39),(uo1 40),(uo1 41),(uo1 42),(uo1 43),(uo1 44)])∧St [] h0 w0 h0 [] w') k ⟨0,(fit X),H,HS⟩ ?_ ?_
  ·rintro m us w1 ⟨aC,nO,H,HS1⟩
   obtain ⟨uy1,rfl⟩:=unj nO
   cases m with
   |zero=>exact absurd H (by simp [gB.l0])
   |succ m=>
    rw [gB.l0] at H
    try simp only [patch,sc0,sc1]
    refine Al<|Al<|Ao<|rs (vI aC) (aO X)<|rs (vS a0) (aO X)<|rs (vI (a0.size:Int)) (zD X BB)<|rs (vB (decide (aC<(a0.size:Int)))) (bW X X X) ?_
    try simp only [sc0,sc1]
    refine aB<|ay<|Av (t:=(decide (aC<(a0.size:Int)))) X (fun c2=>?_) (fun c2=>?_)
    ·replace H:=bU H c2
     refine AN<|ay<|Al<|wp_block<|Al<|Ao<|rs (vS a0) (aO X)<|rs (vI aC) (aO X) ?_
     obtain ⟨hi1,H⟩:=dN H
     refine rs (Value.int .u8 (byteAt a0 aC)) (Ky X X hi1 BB)<|rs (Value.int .u8 (byteAt a0 aC)) (aG X) ?_
     try simp only [sc0,sc1]
     refine aB<|ay<|Al<|Ao<|rs (Value.int .u8 (byteAt a0 aC)) (aO X)<|rs (vB (decide ((byteAt a0 aC)≥97))) (bW X X X)<|rs (vB (decide ((byteAt a0 aC)≥97))) (aO X)<|rgs (decide ((byteAt a0 aC)≥97)) true (Value.int .u8 (byteAt a0 aC)) X X X X (fun hg=>(aO X))<|aK (by simp only [sc0,sc1];rfl) ?_
     refine rgs (decide ((byteAt a0 aC)≥97)) true (vB (decide ((byteAt a0 aC)≤122))) X X X X (fun hg=>(bW (gvt (Value.int .u8 (byteAt a0 aC)) hg X) X X))<|rs (vB ((decide ((byteAt a0 aC)≥97))&&(decide ((byteAt a0 aC)≤122)))) (dL X (fun hp=>(gvt (vB (decide ((byteAt a0 aC)≤122))) (gQ X hp) X)) X)<|rs (vB ((decide ((byteAt a0 aC)≥97))&&(decide ((byteAt a0 aC)≤122)))) (aO X)<|rgs ((decide ((byteAt a0 aC)≥97))&&(decide ((byteAt a0 aC)≤122))) true (Value.int .u8 (byteAt a0 aC)) X X X X (fun hg=>(aO X))<|aK (by simp only [sc0,sc1];rfl) ?_
     refine rgs ((decide ((byteAt a0 aC)≥97))&&(decide ((byteAt a0 aC)≤122))) true (vB (decide ((byteAt a0 aC)≥65))) X X X X (fun hg=>(bW (gvt (Value.int .u8 (byteAt a0 aC)) hg X) X X))<|rgs ((decide ((byteAt a0 aC)≥97))&&(decide ((byteAt a0 aC)≤122))) true (vB (decide ((byteAt a0 aC)≥65))) X X X X (fun hg=>(aO (gvt (vB (decide ((byteAt a0 aC)≥65))) hg X)))<|rgs (decide ((byteAt a0 aC)≥65)) (true&&(((decide ((byteAt a0 aC)≥97))&&(decide ((byteAt a0 aC)≤122)))==false)) (Value.int .u8 (byteAt a0 aC)) X X X X (fun hg=>(aO X))<|rgs (decide ((byteAt a0 aC)≥65)) (true&&(((decide ((byteAt a0 aC)≥97))&&(decide ((byteAt a0 aC)≤122)))==false)) (vB (decide ((byteAt a0 aC)≤90))) X X X X (fun hg=>(bW (gvt (Value.int .u8 (byteAt a0 aC)) hg X) X X))<|aK (by simp only [sc0,sc1];rfl) ?_
     refine rgs ((decide ((byteAt a0 aC)≥97))&&(decide ((byteAt a0 aC)≤122))) true (vB ((decide ((byteAt a0 aC)≥65))&&(decide ((byteAt a0 aC)≤90)))) X X X X (fun hg=>(dL (gvt (vB (decide ((byteAt a0 aC)≥65))) hg X) (fun hp=>(gvt (vB (decide ((byteAt a0 aC)≤90))) (gQ hg hp) X)) X))<|rs (vB (((decide ((byteAt a0 aC)≥97))&&(decide ((byteAt a0 aC)≤122)))||((decide ((byteAt a0 aC)≥65))&&(decide ((byteAt a0 aC)≤90))))) (dQ X X (fun hp=>(gvt (vB ((decide ((byteAt a0 aC)≥65))&&(decide ((byteAt a0 aC)≤90)))) (gQ X hp) X)))<|rs (vB (((decide ((byteAt a0 aC)≥97))&&(decide ((byteAt a0 aC)≤122)))||((decide ((byteAt a0 aC)≥65))&&(decide ((byteAt a0 aC)≤90))))) (aO X)<|rgs (((decide ((byteAt a0 aC)≥97))&&(decide ((byteAt a0 aC)≤122)))||((decide ((byteAt a0 aC)≥65))&&(decide ((byteAt a0 aC)≤90)))) true (Value.int .u8 (byteAt a0 aC)) X X X X (fun hg=>(aO X))<|aK (by simp only [sc0,sc1];rfl) ?_
     refine rgs (((decide ((byteAt a0 aC)≥97))&&(decide ((byteAt a0 aC)≤122)))||((decide ((byteAt a0 aC)≥65))&&(decide ((byteAt a0 aC)≤90)))) true (vB ((byteAt a0 aC)==95)) X X X X (fun hg=>(bW (gvt (Value.int .u8 (byteAt a0 aC)) hg X) X X))<|rs (vB ((((decide ((byteAt a0 aC)≥97))&&(decide ((byteAt a0 aC)≤122)))||((decide ((byteAt a0 aC)≥65))&&(decide ((byteAt a0 aC)≤90))))||((byteAt a0 aC)==95))) (dQ X X (fun hp=>(gvt (vB ((byteAt a0 aC)==95)) (gQ X hp) X)))<|rs (vB ((((decide ((byteAt a0 aC)≥97))&&(decide ((byteAt a0 aC)≤122)))||((decide ((byteAt a0 aC)≥65))&&(decide ((byteAt a0 aC)≤90))))||((byteAt a0 aC)==95))) (aG X) ?_
     try simp only [sc0,sc1]
     refine aB<|ay<|Al<|Ao<|rs (vB ((((decide ((byteAt a0 aC)≥97))&&(decide ((byteAt a0 aC)≤122)))||((decide ((byteAt a0 aC)≥65))&&(decide ((byteAt a0 aC)≤90))))||((byteAt a0 aC)==95))) (aO X)<|rs (vB (!((((decide ((byteAt a0 aC)≥97))&&(decide ((byteAt a0 aC)≤122)))||((decide ((byteAt a0 aC)≥65))&&(decide ((byteAt a0 aC)≤90))))||((byteAt a0 aC)==95)))) (mZ X)<|rs (vB (!((((decide ((byteAt a0 aC)≥97))&&(decide ((byteAt a0 aC)≤122)))||((decide ((byteAt a0 aC)≥65))&&(decide ((byteAt a0 aC)≤90))))||((byteAt a0 aC)==95)))) (aO X)<|rgs (!((((decide ((byteAt a0 aC)≥97))&&(decide ((byteAt a0 aC)≤122)))||((decide ((byteAt a0 aC)≥65))&&(decide ((byteAt a0 aC)≤90))))||((byteAt a0 aC)==95))) true (vI aC) X X X X (fun hg=>(aO X))<|aK (by simp only [sc0,sc1];rfl) ?_
     refine rgs (!((((decide ((byteAt a0 aC)≥97))&&(decide ((byteAt a0 aC)≤122)))||((decide ((byteAt a0 aC)≥65))&&(decide ((byteAt a0 aC)≤90))))||((byteAt a0 aC)==95))) true (vB (aC==0)) X X X X (fun hg=>(bW (gvt (vI aC) hg X) X X))<|rgs (!((((decide ((byteAt a0 aC)≥97))&&(decide ((byteAt a0 aC)≤122)))||((decide ((byteAt a0 aC)≥65))&&(decide ((byteAt a0 aC)≤90))))||((byteAt a0 aC)==95))) true (vB (aC==0)) X X X X (fun hg=>(aO (gvt (vB (aC==0)) hg X)))<|rgs (aC==0) (true&&((!((((decide ((byteAt a0 aC)≥97))&&(decide ((byteAt a0 aC)≤122)))||((decide ((byteAt a0 aC)≥65))&&(decide ((byteAt a0 aC)≤90))))||((byteAt a0 aC)==95)))==true)) (Value.int .u8 (byteAt a0 aC)) X X X X (fun hg=>(aO X))<|rgs (aC==0) (true&&((!((((decide ((byteAt a0 aC)≥97))&&(decide ((byteAt a0 aC)≤122)))||((decide ((byteAt a0 aC)≥65))&&(decide ((byteAt a0 aC)≤90))))||((byteAt a0 aC)==95)))==true)) (vB (decide ((byteAt a0 aC)<48))) X X X X (fun hg=>(bW (gvt (Value.int .u8 (byteAt a0 aC)) hg X) X X))<|aK (by simp only [sc0,sc1];rfl) ?_
     refine rgs (!((((decide ((byteAt a0 aC)≥97))&&(decide ((byteAt a0 aC)≤122)))||((decide ((byteAt a0 aC)≥65))&&(decide ((byteAt a0 aC)≤90))))||((byteAt a0 aC)==95))) true (vB ((aC==0)||(decide ((byteAt a0 aC)<48)))) X X X X (fun hg=>(dQ (gvt (vB (aC==0)) hg X) X (fun hp=>(gvt (vB (decide ((byteAt a0 aC)<48))) (gQ hg hp) X))))<|rgs (!((((decide ((byteAt a0 aC)≥97))&&(decide ((byteAt a0 aC)≤122)))||((decide ((byteAt a0 aC)≥65))&&(decide ((byteAt a0 aC)≤90))))||((byteAt a0 aC)==95))) true (vB ((aC==0)||(decide ((byteAt a0 aC)<48)))) X X X X (fun hg=>(aO (gvt (vB ((aC==0)||(decide ((byteAt a0 aC)<48)))) hg X)))<|rgs ((aC==0)||(decide ((byteAt a0 aC)<48))) (true&&((!((((decide ((byteAt a0 aC)≥97))&&(decide ((byteAt a0 aC)≤122)))||((decide ((byteAt a0 aC)≥65))&&(decide ((byteAt a0 aC)≤90))))||((byteAt a0 aC)==95)))==true)) (Value.int .u8 (byteAt a0 aC)) X X X X (fun hg=>(aO X))<|rgs ((aC==0)||(decide ((byteAt a0 aC)<48))) (true&&((!((((decide ((byteAt a0 aC)≥97))&&(decide ((byteAt a0 aC)≤122)))||((decide ((byteAt a0 aC)≥65))&&(decide ((byteAt a0 aC)≤90))))||((byteAt a0 aC)==95)))==true)) (vB (decide ((byteAt a0 aC)>57))) X X X X (fun hg=>(bW (gvt (Value.int .u8 (byteAt a0 aC)) hg X) X X))<|aK (by simp only [sc0,sc1];rfl) ?_
     refine rgs (!((((decide ((byteAt a0 aC)≥97))&&(decide ((byteAt a0 aC)≤122)))||((decide ((byteAt a0 aC)≥65))&&(decide ((byteAt a0 aC)≤90))))||((byteAt a0 aC)==95))) true (vB (((aC==0)||(decide ((byteAt a0 aC)<48)))||(decide ((byteAt a0 aC)>57)))) X X X X (fun hg=>(dQ (gvt (vB ((aC==0)||(decide ((byteAt a0 aC)<48)))) hg X) X (fun hp=>(gvt (vB (decide ((byteAt a0 aC)>57))) (gQ hg hp) X))))<|rs (vB ((!((((decide ((byteAt a0 aC)≥97))&&(decide ((byteAt a0 aC)≤122)))||((decide ((byteAt a0 aC)≥65))&&(decide ((byteAt a0 aC)≤90))))||((byteAt a0 aC)==95)))&&(((aC==0)||(decide ((byteAt a0 aC)<48)))||(decide ((byteAt a0 aC)>57))))) (dL X (fun hp=>(gvt (vB (((aC==0)||(decide ((byteAt a0 aC)<48)))||(decide ((byteAt a0 aC)>57)))) (gQ X hp) X)) X) ?_
     try simp only [sc0,sc1]
     refine aB<|ay<|Av (t:=((!((((decide ((byteAt a0 aC)≥97))&&(decide ((byteAt a0 aC)≤122)))||((decide ((byteAt a0 aC)≥65))&&(decide ((byteAt a0 aC)≤90))))||((byteAt a0 aC)==95)))&&(((aC==0)||(decide ((byteAt a0 aC)<48)))||(decide ((byteAt a0 aC)>57))))) X (fun c3=>?_) (fun c3=>?_)
     ·replace H:=bU H c3
      refine Al<|Ao<|rs (vB false) (aG X) ?_
      try simp only [sc0,sc1]
      refine aB<|ay<|AT<|fA<|bP<|jm<|bP ?_
      obtain rfl:=Ab H
      obtain rfl:=Ab G1
      exact Ay (bD X (bK X)) X<|⟨X,HS1.toE⟩
     ·replace H:=cO H (nt c3)
      refine AN<|dD<|ay<|Ao<|rs (vI aC) (aO X)<|rs (vI (w64 (aC+1))) (bW X X X)<|rs (vI (w64 (aC+1))) (aG X) ?_
      try simp only [sc0,sc1]
      refine aB<|gI m (Nat.lt_succ_self m) X ⟨(w64 (aC+1)),(fit X),H,HS1⟩
    ·replace H:=cO H (nt c2)
     refine Bx<|eU ?_
     obtain rfl:=Ab H
     refine iK X ⟨_,X,(fit X),HS1⟩
  ·rintro us w2 ⟨s1,rfl,nP,HS2⟩
   obtain ⟨uo1,rfl⟩:=unj nP
   replace H:=G1
   clear G1
   try simp only [patch,sc0,sc1]
   refine ay<|Al<|Ao<|rs (vB true) (aG X) ?_
   try simp only [sc0,sc1]
   refine aB<|ay<|AT ?_
   obtain rfl:=Ab H
   exact Ay (bD X (bK X)) X<|⟨X,HS2.toE⟩
def iL.f (a0:aQ) (a1:Int):Option (Bool):=some ((decide (a1≥0))&&(decide (a1<(a0.au.length:Int))))
theorem iL.calls (a0:aQ) (a1:Int) (bQ:Option Addr) (bT:Nat) {h0:View} {w0:World} (hv:lS h0 w0) (fK:Rd bI h0 bQ a0.au) (iF:a0.au.length≤bT) {r:Bool} (H:iL.f a0 a1=some r):Calls Tryz.prog 82 #[Value.agg #[vL bQ a0.au.length bT],vI a1] w0 (fun e w1=>e= .returned (vB r)∧Ext w0 w1):=by
 unfold iL.f at H
 have HS:St [] h0 w0 h0 [] w0:=St.init hv
 go_enter Tryz.func82,Tryz.ntmps82
 refine Al<|Ao<|dF X X (eF (cs:=#[vL bQ a0.au.length bT]) X X) ?_
 rintro w1 _ hE1 ⟨b1,rfl,ge1,hb1⟩
 have HS1:=HS.new hE1 ge1 hb1
 refine rs (vB false) (aG X) ?_
 try simp only [sc0,sc1]
 refine aB<|ay<|Al<|Ao<|rs (vI a1) (aO X)<|rs (vB (decide (a1≥0))) (bW X X X)<|rs (vB (decide (a1≥0))) (aO X)<|rgs (decide (a1≥0)) true (vI a1) X X X X (fun hg=>(aO X))<|aK (by simp only [sc0,sc1];rfl) ?_
 refine rgs (decide (a1≥0)) true (vP b1 0) X X X X (fun hg=>(aH (n:=1) (o':=0) X AE X AM (by decide) X))<|rgs (decide (a1≥0)) true (vL bQ a0.au.length bT) X X X X (fun hg=>(aN (gvt (vP b1 0) hg X) AR (HS1.look 0 X) X))<|rgs (decide (a1≥0)) true (vI (a0.au.length:Int)) X X X X (fun hg=>(jD (gvt (vL bQ a0.au.length bT) hg X) AF))<|rgs (decide (a1≥0)) true (vB (decide (a1<(a0.au.length:Int)))) X X X X (fun hg=>(bW (gvt (vI a1) hg X) (gvt (vI (a0.au.length:Int)) hg X) X))<|aK (by simp only [sc0,sc1];rfl) ?_
 refine rs (vB ((decide (a1≥0))&&(decide (a1<(a0.au.length:Int))))) (dL X (fun hp=>(gvt (vB (decide (a1<(a0.au.length:Int)))) (gQ X hp) X)) X)<|rs (vB ((decide (a1≥0))&&(decide (a1<(a0.au.length:Int))))) (aG X) ?_
 try simp only [sc0,sc1]
 refine aB<|ay<|AT ?_
 obtain rfl:=Ab H
 exact Ay (bD X (bK X)) X<|⟨X,HS1.toE⟩
def dB.l1 (a0:List bf) (aC:Int):Nat→Int→Option ((Bool)⊕(Unit))
 |0,_=>none
 |m+1,jQ=>if (decide (jQ<aC))=true then (if 0≤jQ∧jQ<a0.length then (if 0≤aC∧aC<a0.length then (if (strEq ((rd aj a0 jQ).aF) ((rd aj a0 aC).aF))=true then (some (.inl false)) else (dB.l1 a0 aC m (IntKind.wrap .i64 (jQ+1)))) else none) else none) else (some (.inr ()))
def dB.l0 (k:Nat) (a0:List bf):Nat→Int→Option ((Bool)⊕(Unit))
 |0,_=>none
 |m+1,aC=>if (decide (aC<(a0.length:Int)))=true then (if 0≤aC∧aC<a0.length then ((gB.f k ((rd aj a0 aC).aF)).bind fun v1=>(if (!v1)=true then (some (.inl false)) else ((dB.l1 a0 aC k 0).bind fun xx2=>(match xx2 with| .inl r=>some (.inl r)| .inr s1=>dB.l0 k a0 m (IntKind.wrap .i64 (aC+1)))))) else none) else (some (.inr ()))
def dB.f (k:Nat) (a0:List bf):Option (Bool):=if (((a0.length:Int)==0)||(decide ((a0.length:Int)>32)))=true then (some false) else ((dB.l0 k a0 k 0).bind fun xx1=>(match xx1 with| .inl r=>some r| .inr s2=>some true))
theorem dB.calls (k:Nat) (a0:List bf) (bQ:Option Addr) (bT:Nat) {h0:View} {w0:World} (hv:lS h0 w0) (fK:Rd dw h0 bQ a0) (iF:a0.length≤bT) {r:Bool} (H:dB.f k a0=some r):Calls Tryz.prog 83 #[vL bQ a0.length bT] w0 (fun e w1=>e= .returned (vB r)∧Ext w0 w1):=by
 unfold dB.f at H
 have HS:St [] h0 w0 h0 [] w0:=St.init hv
 go_enter Tryz.func83,Tryz.ntmps83
 refine Al<|Ao<|rs (vB false) (aG X) ?_
 try simp only [sc0,sc1]
 refine aB<|ay<|Al<|Al<|Ao<|rs (vL bQ a0.length bT) (aO X)<|rs (vI (a0.length:Int)) (jD X AK)<|rs (vB ((a0.length:Int)==0)) (bW X X X)<|rs (vB ((a0.length:Int)==0)) (aO X)<|aK (by simp only [sc0,sc1];rfl) ?_
 refine rgs ((a0.length:Int)==0) true (vL bQ a0.length bT) X X X X (fun hg=>(aO X))<|rgs ((a0.length:Int)==0) true (vI (a0.length:Int)) X X X X (fun hg=>(jD (gvt (vL bQ a0.length bT) hg X) AK))<|rgs ((a0.length:Int)==0) true (vB (decide ((a0.length:Int)>32))) X X X X (fun hg=>(bW (gvt (vI (a0.length:Int)) hg X) X X))<|rs (vB (((a0.length:Int)==0)||(decide ((a0.length:Int)>32)))) (dQ X X (fun hp=>(gvt (vB (decide ((a0.length:Int)>32))) (gQ X hp) X))) ?_
 try simp only [sc0,sc1]
 refine aB<|ay<|Av (t:=(((a0.length:Int)==0)||(decide ((a0.length:Int)>32)))) X (fun c1=>?_) (fun c1=>?_)
 ·replace H:=bU H c1
  refine Al<|Ao<|rs (vB false) (aG X) ?_
  try simp only [sc0,sc1]
  refine aB<|ay<|AT<|bP ?_
  obtain rfl:=Ab H
  exact Ay (bD X (bK X)) X<|⟨X,HS.toE⟩
 ·replace H:=cO H (nt c1)
  refine AN<|ay<|Al<|Al<|Ao<|rs (vI 0) (aG X) ?_
  try simp only [sc0,sc1]
  refine aB<|ay ?_
  obtain ⟨xx1,H,G1⟩:=bn H
  refine jB [2,3,4,13,14,15,16,17,18,19,20,21,22,23,24,25,26,27,28,29,30,31,32,33,34,35,36,37,38,39,40,41] (fun m us w'=>∃(aC:Int),Fit us (fun uy1=>[(uy1 0),vI aC,(uy1 2),(uy1 3),(uy1 4),(uy1 5),(uy1 6),(uy1 7),(uy1 8),(uy1 9),(uy1 10),(uy1 11),(uy1 12),(uy1 13),(uy1 14),(uy1 15),(uy1 16),(uy1 17),(uy1 18),(uy1 19),(uy1 20),(uy1 21),(uy1 22),(uy1 23),(uy1 24),(uy1 25),(uy1 26),(uy1 27),(uy1 28),(uy1 29),(uy1 30),(uy1 31)])∧dB.l0 k a0 m aC=some xx1∧St [] h0 w0 h0 [] w') (fun us w'=>∃(s2:Unit),xx1= .inr s2∧Fit us (fun uo2=>[(uo2 0),(uo2 1),(uo2 2),(uo2 3),(uo2 4),(uo2 5),(uo2 6),(uo2 7),(uo2 8),(uo2 9),(uo2 10),(uo2 11),(uo2 12),(uo2 13),(uo2 14),(uo2 15),(uo2 16),(uo2 17),(uo2 18),(uo2 19),(uo2 20),(uo2 21),(uo2 22),(uo2 23),(uo2 24),(uo2 25),(uo2 26),(uo2 27),(uo2 28),(uo2 29),(uo2 30),(uo2 31)])∧St [] h0 w0 h0 [] w') k ⟨0,(fit X),H,HS⟩ ?_ ?_
  ·rintro m us w1 ⟨aC,nO,H,HS1⟩
   obtain ⟨uy1,rfl⟩:=unj nO
   cases m with
   |zero=>exact absurd H (by simp [dB.l0])
   |succ m=>
    rw [dB.l0] at H
    try simp only [patch,sc0,sc1]
    refine Al<|Al<|Ao<|rs (vI aC) (aO X)<|rs (vL bQ a0.length bT) (aO X)<|rs (vI (a0.length:Int)) (jD X AK)<|rs (vB (decide (aC<(a0.length:Int)))) (bW X X X) ?_
    try simp only [sc0,sc1]
    refine aB<|ay<|Av (t:=(decide (aC<(a0.length:Int)))) X (fun c2=>?_) (fun c2=>?_)
    ·replace H:=bU H c2
     refine AN<|ay<|Al<|wp_block<|Al<|Al<|Ao<|rs (vL bQ a0.length bT) (aO X)<|rs (vI aC) (aO X) ?_
     obtain ⟨hi1,H⟩:=dN H
     obtain ⟨ad1,e1,mJ⟩:=ji fK hi1.1 hi1.2
     refine rs (Value.pointer (some (Addr.add ad1 (aC.toNat*3)))) (dP (sz:=3) X e1 X hi1.1 hi1.2 AK AS)<|rs (Value.pointer (some (Addr.add (Addr.add ad1 (aC.toNat*3)) 0))) (nX (n:=1) (o':=0) X AJ X AW (by decide) X)<|aK (by simp only [sc0,sc1];rfl) ?_
     refine rs (vS ((rd aj a0 aC).aF)) (kE X Be (mJ.cell HS1.sees 0 X)) ?_
     obtain ⟨v1,H1,H⟩:=bn H
     refine run_eq (v:=vB v1) X X (bC Tryz.call81 X X (gB.calls k ((rd aj a0 aC).aF) HS1.sees H1)) ?_
     intro w2 hE1
     have HS2:=HS1.step hE1
     refine rs (vB (!v1)) (mZ X) ?_
     try simp only [sc0,sc1]
     refine aB<|ay<|Av (t:=(!v1)) X (fun c3=>?_) (fun c3=>?_)
     ·replace H:=bU H c3
      refine Al<|Ao<|rs (vB false) (aG X) ?_
      try simp only [sc0,sc1]
      refine aB<|ay<|AT<|bP<|fA<|bP<|jm<|bP ?_
      obtain rfl:=Ab H
      obtain rfl:=Ab G1
      exact Ay (bD X (bK X)) X<|⟨X,HS2.toE⟩
     ·replace H:=cO H (nt c3)
      refine AN<|ay<|Al<|Ao<|rs (vI 0) (aG X) ?_
      try simp only [sc0,sc1]
      refine aB<|ay ?_
      obtain ⟨xx2,H,G2⟩:=bn H
      refine jB [2,4,26,27,28,29,30,31,32,33,34,35,36,37,38,39,40,41] (fun m us w'=>∃(jQ:Int),Fit us (fun uy2=>[(uy2 0),vI jQ,(uy2 2),(uy2 3),(uy2 4),(uy2 5),(uy2 6),(uy2 7),(uy2 8),(uy2 9),(uy2 10),(uy2 11),(uy2 12),(uy2 13),(uy2 14),(uy2 15),(uy2 16),(uy2 17)])∧dB.l1 a0 aC m jQ=some xx2∧St [] h0 w0 h0 [] w') (fun us w'=>∃(s1:Unit),xx2= .inr s1∧Fit us (fun uo1=>[(uo1 0),(uo1 1),(uo1 2),(uo1 3),(uo1 4),(uo1 5),(uo1 6),(uo1 7),(uo1 8),(uo1 9),(uo1 10),(uo1 11),(uo1 12),(uo1 13),(uo1 14),(uo1 15),(uo1 16),(uo1 17)])∧St [] h0 w0 h0 [] w') k ⟨0,(fit X),H,HS2⟩ ?_ ?_
      ·rintro m us w3 ⟨jQ,NW,H,HS3⟩
       obtain ⟨uy2,rfl⟩:=unj NW
       cases m with
       |zero=>exact absurd H (by simp [dB.l1])
       |succ m=>
        rw [dB.l1] at H
        try simp only [patch,sc0,sc1]
        refine Al<|Al<|Ao<|rs (vI jQ) (aO X)<|rs (vI aC) (aO X)<|rs (vB (decide (jQ<aC))) (bW X X X) ?_
        try simp only [sc0,sc1]
        refine aB<|ay<|Av (t:=(decide (jQ<aC))) X (fun c4=>?_) (fun c4=>?_)
        ·replace H:=bU H c4
         refine AN<|ay<|Al<|wp_block<|Al ?_
         obtain ⟨hi2,H⟩:=dN H
         obtain ⟨ad2,e2,tN⟩:=ji fK hi2.1 hi2.2
         obtain ⟨hi3,H⟩:=dN H
         obtain ⟨ad3,e3,IW⟩:=ji fK hi3.1 hi3.2
         refine drawn [.eq (vL bQ a0.length bT), .eq (vI jQ), .eq (Value.pointer (some (Addr.add ad2 (jQ.toNat*3)))), .eq (Value.pointer (some (Addr.add (Addr.add ad2 (jQ.toNat*3)) 0))), .eq (vS ((rd aj a0 jQ).aF)), .eq (vL bQ a0.length bT), .eq (vI aC), .eq (Value.pointer (some (Addr.add ad3 (aC.toNat*3)))), .eq (Value.pointer (some (Addr.add (Addr.add ad3 (aC.toNat*3)) 0))), .eq (vS ((rd aj a0 aC).aF)), .eq (vB (strEq ((rd aj a0 jQ).aF) ((rd aj a0 aC).aF)))] [31,32,33,34,35,36,37,38,39,40,41] rM (by kernel_rfl) X (aP (aP (aP (aP (aP (aP (aP (aP (aP (aP (aP iJ))))))))))) ⟨aX X (fun a' w' hE hk=>by exact aW (aO (show _=vL bQ a0.length bT from hk 0 X))),aX X (fun a' w' hE hk=>by exact aW (aO (show _=vI jQ from hk 4 X))),aX X (fun a' w' hE hk=>by exact aW (dP (sz:=3) (show _=vL bQ a0.length bT from hk 31 X) e2 (show _=vI jQ from hk 32 X) hi2.1 hi2.2 AK AS)),aX X (fun a' w' hE hk=>by exact aW (nX (n:=1) (o':=0) (show _=Value.pointer (some (Addr.add ad2 (jQ.toNat*3))) from hk 33 X) AJ X AW (by decide) X)),aX X (fun a' w' hE hk=>by exact aW (kE (show _=Value.pointer (some (Addr.add (Addr.add ad2 (jQ.toNat*3)) 0)) from hk 34 X) Be (tN.cell (HS3.step hE).sees 0 X))),aX X (fun a' w' hE hk=>by exact aW (aO (show _=vL bQ a0.length bT from hk 0 X))),aX X (fun a' w' hE hk=>by exact aW (aO (show _=vI aC from hk 3 X))),aX X (fun a' w' hE hk=>by exact aW (dP (sz:=3) (show _=vL bQ a0.length bT from hk 36 X) e3 (show _=vI aC from hk 37 X) hi3.1 hi3.2 AK AS)),aX X (fun a' w' hE hk=>by exact aW (nX (n:=1) (o':=0) (show _=Value.pointer (some (Addr.add ad3 (aC.toNat*3))) from hk 38 X) AJ X AW (by decide) X)),aX X (fun a' w' hE hk=>by exact aW (kE (show _=Value.pointer (some (Addr.add (Addr.add ad3 (aC.toNat*3)) 0)) from hk 39 X) Be (IW.cell (HS3.step hE).sees 0 X))),aX X (fun a' w' hE hk=>by exact aW (sG (show _=vS ((rd aj a0 jQ).aF) from hk 35 X) (show _=vS ((rd aj a0 aC).aF) from hk 40 X))),trivial⟩ ?_
         intro w4 hE2
         simp only [List.zip_cons_cons,List.zip_nil_left,List.zip_nil_right,vO,sc0,sc1,List.length_cons,List.length_nil,List.drop_succ_cons,List.drop_zero,Nat.zero_add,Nat.reduceAdd]
         have HS4:=HS3.step hE2
         refine aB<|ay<|Av (t:=(strEq ((rd aj a0 jQ).aF) ((rd aj a0 aC).aF))) X (fun c5=>?_) (fun c5=>?_)
         ·replace H:=bU H c5
          refine Al<|Ao<|rs (vB false) (aG X) ?_
          try simp only [sc0,sc1]
          refine aB<|ay<|AT<|fA<|bP<|jm<|fA<|bP<|jm<|bP ?_
          obtain rfl:=Ab H
          obtain rfl:=Ab G2
          obtain rfl:=Ab G1
          exact Ay (bD X (bK X)) X<|⟨X,HS4.toE⟩
         ·replace H:=cO H (nt c5)
          refine AN<|dD<|ay<|Ao<|rs (vI jQ) (aO X)<|rs (vI (w64 (jQ+1))) (bW X X X)<|rs (vI (w64 (jQ+1))) (aG X) ?_
          try simp only [sc0,sc1]
          refine aB<|gI m (Nat.lt_succ_self m) X ⟨(w64 (jQ+1)),(fit X),H,HS4⟩
        ·replace H:=cO H (nt c4)
         refine Bx<|eU ?_
         obtain rfl:=Ab H
         refine iK X ⟨_,X,(fit X),HS3⟩
      ·rintro us w5 ⟨s1,rfl,nP,HS5⟩
       obtain ⟨uo1,rfl⟩:=unj nP
       replace H:=G2
       clear G2
       try simp only [patch,sc0,sc1]
       refine dD<|ay<|Ao<|rs (vI aC) (aO X)<|rs (vI (w64 (aC+1))) (bW X X X)<|rs (vI (w64 (aC+1))) (aG X) ?_
       try simp only [sc0,sc1]
       refine aB<|gI m (Nat.lt_succ_self m) X ⟨(w64 (aC+1)),(fit X),H,HS5⟩
    ·replace H:=cO H (nt c2)
     refine Bx<|eU ?_
     obtain rfl:=Ab H
     refine iK X ⟨_,X,(fit X),HS1⟩
  ·rintro us w6 ⟨s2,rfl,NY,HS6⟩
   obtain ⟨uo2,rfl⟩:=unj NY
   replace H:=G1
   clear G1
   try simp only [patch,sc0,sc1]
   refine ay<|Al<|Ao<|rs (vB true) (aG X) ?_
   try simp only [sc0,sc1]
   refine aB<|ay<|AT ?_
   obtain rfl:=Ab H
   exact Ay (bD X (bK X)) X<|⟨X,HS6.toE⟩
def fZ.l0 (a0:aQ) (a1:aZ):Nat→Int→Option ((Bool)⊕(Unit))
 |0,_=>none
 |m+1,aC=>if (decide (aC<(a1.ak.length:Int)))=true then (if 0≤aC∧aC<a1.ak.length then ((if (true&&((a1.aA==4)==true))=true then iL.f a0 ((rd aj a1.ak aC).vType) else some false).bind fun v7=>(if ((a1.aA==4)&&(!v7))=true then (some (.inl false)) else (if ((a1.aA==5)&&((((rd aj a1.ak aC).vType !=0)||(decide ((rd aj a1.ak aC).vAt<(-2147483648))))||(decide ((rd aj a1.ak aC).vAt>2147483647))))=true then (some (.inl false)) else (fZ.l0 a0 a1 m (IntKind.wrap .i64 (aC+1)))))) else none) else (some (.inr ()))
def fZ.f (k:Nat) (a0:aQ) (a1:aZ):Option (Bool):=(if (true&&(((decide (a1.aA<1))||(decide (a1.aA>6)))==false))=true then lM.f a1 else some false).bind fun v1=>((if (true&&((((decide (a1.aA<1))||(decide (a1.aA>6)))||(!v1))==false))=true then dZ.f a1 else some false).bind fun v2=>((if ((true&&((((decide (a1.aA<1))||(decide (a1.aA>6)))||(!v1))==false))&&(v2==true))=true then gB.f k a1.aF else some false).bind fun v3=>(if ((((decide (a1.aA<1))||(decide (a1.aA>6)))||(!v1))||(v2&&(!v3)))=true then (some false) else (if (a1.aA==1)=true then (some ((((a1.aY.aU==1)||(a1.aY.aU==2))||(a1.aY.aU==4))||(a1.aY.aU==8))) else (((if (a1.aA==2)=true then (some (a1.aA==2)) else (some (a1.aA==6))):Option (Bool)).bind fun xx1=>(if xx1=true then ((iL.f a0 a1.bY).bind fun v4=>(some v4)) else (if (a1.aA==3)=true then ((iL.f a0 a1.bY).bind fun v5=>(some ((v5&&(decide (a1.vN≥1)))&&(decide (a1.vN≤512))))) else ((dB.f k a1.ak).bind fun v6=>(if (!v6)=true then (some false) else ((fZ.l0 a0 a1 k 0).bind fun xx2=>(match xx2 with| .inl r=>some r| .inr s1=>some ((a1.aA==5)||((decide (a1.vN≥1))&&(decide (a1.vN≤512)))))))))))))))
theorem fZ.calls (k:Nat) (a0:aQ) (a1:aZ) (bQ:Option Addr) (bT:Nat) (rG:Option Addr) (rH:Nat) {h0:View} {w0:World} (hv:lS h0 w0) (fK:Rd bI h0 bQ a0.au) (iF:a0.au.length≤bT) (AU:Rd dw h0 rG a1.ak) (Du:a1.ak.length≤rH) {r:Bool} (H:fZ.f k a0 a1=some r):Calls Tryz.prog 58 #[Value.agg #[vL bQ a0.au.length bT],Value.agg #[vI a1.aA,vS a1.aF,vI a1.aY.aU,vB a1.aY.aJ,vI a1.bY,vI a1.vN,vL rG a1.ak.length rH]] w0 (fun e w1=>e= .returned (vB r)∧Ext w0 w1):=by
 unfold fZ.f at H
 have HS:St [] h0 w0 h0 [] w0:=St.init hv
 go_enter Tryz.func58,Tryz.ntmps58
 refine Al<|Ao<|dF X X (eF (cs:=#[vL bQ a0.au.length bT]) X X) ?_
 rintro w1 _ hE1 ⟨b1,rfl,ge1,hb1⟩
 have HS1:=HS.new hE1 ge1 hb1
 refine dF X X (eF (cs:=#[vI a1.aA,vS a1.aF,vI a1.aY.aU,vB a1.aY.aJ,vI a1.bY,vI a1.vN,vL rG a1.ak.length rH]) X X) ?_
 rintro w2 _ hE2 ⟨b2,rfl,ge2,hb2⟩
 have HS2:=HS1.new hE2 ge2 hb2
 refine rs (vB false) (aG X) ?_
 try simp only [sc0,sc1]
 refine aB<|ay<|Al<|Al<|Ao<|rs (vP b2 0) (aH (n:=1) (o':=0) X An X As (by decide) X)<|rs (vI a1.aA) (aN X AC (HS2.look 0 X) X)<|rs (vB (decide (a1.aA<1))) (bW X X X)<|rs (vB (decide (a1.aA<1))) (aO X)<|aK (by simp only [sc0,sc1];rfl) ?_
 refine rgs (decide (a1.aA<1)) true (vP b2 0) X X X X (fun hg=>(aH (n:=1) (o':=0) X An X As (by decide) X))<|rgs (decide (a1.aA<1)) true (vI a1.aA) X X X X (fun hg=>(aN (gvt (vP b2 0) hg X) AC (HS2.look 0 X) X))<|rgs (decide (a1.aA<1)) true (vB (decide (a1.aA>6))) X X X X (fun hg=>(bW (gvt (vI a1.aA) hg X) X X))<|rs (vB ((decide (a1.aA<1))||(decide (a1.aA>6)))) (dQ X X (fun hp=>(gvt (vB (decide (a1.aA>6))) (gQ X hp) X)))<|aK (by simp only [sc0,sc1];rfl) ?_
 refine rs (vB ((decide (a1.aA<1))||(decide (a1.aA>6)))) (aO X)<|rgs ((decide (a1.aA<1))||(decide (a1.aA>6))) true (Value.agg #[vI a1.aA,vS a1.aF,vI a1.aY.aU,vB a1.aY.aJ,vI a1.bY,vI a1.vN,vL rG a1.ak.length rH]) X X X X (fun hg=>(aT (n:=7) (vs:=[vI a1.aA,vS a1.aF,vI a1.aY.aU,vB a1.aY.aJ,vI a1.bY,vI a1.vN,vL rG a1.ak.length rH]) X A7 (HS2.look 0 X) AH X X)) ?_
 obtain ⟨v1,H1,H⟩:=bn H
 refine sJ (b:=((decide (a1.aA<1))||(decide (a1.aA>6)))) (c:=true) (v:=vB v1) X X X X (fun hg=>(bC Tryz.call80 X (Jk (gvt (Value.agg #[vI a1.aA,vS a1.aF,vI a1.aY.aU,vB a1.aY.aJ,vI a1.bY,vI a1.vN,vL rG a1.ak.length rH]) hg X)) (lM.calls a1 rG rH HS2.sees AU Du (bU H1 hg)))) ?_
 intro w3 hE3
 have HS3:=HS2.step hE3
 refine rgs ((decide (a1.aA<1))||(decide (a1.aA>6))) true (vB (!v1)) X X X X (fun hg=>(mZ (gvt (vB v1) hg X)))<|aK (by simp only [sc0,sc1];rfl) ?_
 refine rs (vB (((decide (a1.aA<1))||(decide (a1.aA>6)))||(!v1))) (dQ X X (fun hp=>(gvt (vB (!v1)) (gQ X hp) X)))<|rs (vB (((decide (a1.aA<1))||(decide (a1.aA>6)))||(!v1))) (aO X)<|rgs (((decide (a1.aA<1))||(decide (a1.aA>6)))||(!v1)) true (Value.agg #[vI a1.aA,vS a1.aF,vI a1.aY.aU,vB a1.aY.aJ,vI a1.bY,vI a1.vN,vL rG a1.ak.length rH]) X X X X (fun hg=>(aT (n:=7) (vs:=[vI a1.aA,vS a1.aF,vI a1.aY.aU,vB a1.aY.aJ,vI a1.bY,vI a1.vN,vL rG a1.ak.length rH]) X A7 (HS3.look 0 X) AH X X)) ?_
 obtain ⟨v2,H2,H⟩:=bn H
 refine sJ (b:=(((decide (a1.aA<1))||(decide (a1.aA>6)))||(!v1))) (c:=true) (v:=vB v2) X X X X (fun hg=>(bC Cv X (Jk (gvt (Value.agg #[vI a1.aA,vS a1.aF,vI a1.aY.aU,vB a1.aY.aJ,vI a1.bY,vI a1.vN,vL rG a1.ak.length rH]) hg X)) (dZ.calls a1 rG rH HS3.sees AU Du (bU H2 hg)))) ?_
 intro w4 hE4
 have HS4:=HS3.step hE4
 refine aK (by simp only [sc0,sc1];rfl) ?_
 refine rgs (((decide (a1.aA<1))||(decide (a1.aA>6)))||(!v1)) true (vB v2) X X X X (fun hg=>(aO (gvt (vB v2) hg X)))<|rgs v2 (true&&((((decide (a1.aA<1))||(decide (a1.aA>6)))||(!v1))==false)) (vP b2 1) X X X X (fun hg=>(aH (n:=1) (o':=1) X An X AW (by decide) X))<|rgs v2 (true&&((((decide (a1.aA<1))||(decide (a1.aA>6)))||(!v1))==false)) (vS a1.aF) X X X X (fun hg=>(aN (gvt (vP b2 1) hg X) Be (HS4.look 0 X) X)) ?_
 obtain ⟨v3,H3,H⟩:=bn H
 refine sJ (b:=v2) (c:=(true&&((((decide (a1.aA<1))||(decide (a1.aA>6)))||(!v1))==false))) (v:=vB v3) X X X X (fun hg=>(bC Tryz.call81 X (Jk (gvt (vS a1.aF) hg X)) (gB.calls k a1.aF HS4.sees (bU H3 hg)))) ?_
 intro w5 hE5
 have HS5:=HS4.step hE5
 refine aK (by simp only [sc0,sc1];rfl) ?_
 refine rgs v2 (true&&((((decide (a1.aA<1))||(decide (a1.aA>6)))||(!v1))==false)) (vB (!v3)) X X X X (fun hg=>(mZ (gvt (vB v3) hg X)))<|rgs (((decide (a1.aA<1))||(decide (a1.aA>6)))||(!v1)) true (vB (v2&&(!v3))) X X X X (fun hg=>(dL (gvt (vB v2) hg X) (fun hp=>(gvt (vB (!v3)) (gQ hg hp) X)) X))<|rs (vB ((((decide (a1.aA<1))||(decide (a1.aA>6)))||(!v1))||(v2&&(!v3)))) (dQ X X (fun hp=>(gvt (vB (v2&&(!v3))) (gQ X hp) X))) ?_
 try simp only [sc0,sc1]
 refine aB<|ay<|Av (t:=((((decide (a1.aA<1))||(decide (a1.aA>6)))||(!v1))||(v2&&(!v3)))) X (fun c1=>?_) (fun c1=>?_)
 ·replace H:=bU H c1
  refine Al<|Ao<|rs (vB false) (aG X) ?_
  try simp only [sc0,sc1]
  refine aB<|ay<|AT<|bP ?_
  obtain rfl:=Ab H
  exact Ay (bD X (bK X)) X<|⟨X,HS5.toE⟩
 ·replace H:=cO H (nt c1)
  refine AN<|ay<|Al<|Al<|Ao<|rs (vP b2 0) (aH (n:=1) (o':=0) X An X As (by decide) X)<|rs (vI a1.aA) (aN X AC (HS5.look 0 X) X) ?_
  try simp only [sc0,sc1]
  refine aB<|ay<|wp_block<|Al<|Ao<|rs (vB (a1.aA==1)) (bW X X X)<|rs (vB (a1.aA==1)) (aG X) ?_
  try simp only [sc0,sc1]
  refine aB<|ay<|Av (t:=(a1.aA==1)) X (fun c2=>?_) (fun c2=>?_)
  ·replace H:=bU H c2
   refine Al<|Ao<|rs (vP b2 2) (aH (n:=2) (o':=2) X An X Bk (by decide) X)<|rs (vP b2 2) (aH (n:=1) (o':=2) X A_ X As (by decide) X)<|rs (vI a1.aY.aU) (aN X AC (HS5.look 0 X) X)<|rs (vB (a1.aY.aU==1)) (bW X X X)<|aK (by simp only [sc0,sc1];rfl) ?_
   refine rs (vB (a1.aY.aU==1)) (aO X)<|rgs (a1.aY.aU==1) true (vP b2 2) X X X X (fun hg=>(aH (n:=2) (o':=2) X An X Bk (by decide) X))<|rgs (a1.aY.aU==1) true (vP b2 2) X X X X (fun hg=>(aH (n:=1) (o':=2) (gvt (vP b2 2) hg X) A_ X As (by decide) X))<|rgs (a1.aY.aU==1) true (vI a1.aY.aU) X X X X (fun hg=>(aN (gvt (vP b2 2) hg X) AC (HS5.look 0 X) X))<|aK (by simp only [sc0,sc1];rfl) ?_
   refine rgs (a1.aY.aU==1) true (vB (a1.aY.aU==2)) X X X X (fun hg=>(bW (gvt (vI a1.aY.aU) hg X) X X))<|rs (vB ((a1.aY.aU==1)||(a1.aY.aU==2))) (dQ X X (fun hp=>(gvt (vB (a1.aY.aU==2)) (gQ X hp) X)))<|rs (vB ((a1.aY.aU==1)||(a1.aY.aU==2))) (aO X)<|rgs ((a1.aY.aU==1)||(a1.aY.aU==2)) true (vP b2 2) X X X X (fun hg=>(aH (n:=2) (o':=2) X An X Bk (by decide) X))<|aK (by simp only [sc0,sc1];rfl) ?_
   refine rgs ((a1.aY.aU==1)||(a1.aY.aU==2)) true (vP b2 2) X X X X (fun hg=>(aH (n:=1) (o':=2) (gvt (vP b2 2) hg X) A_ X As (by decide) X))<|rgs ((a1.aY.aU==1)||(a1.aY.aU==2)) true (vI a1.aY.aU) X X X X (fun hg=>(aN (gvt (vP b2 2) hg X) AC (HS5.look 0 X) X))<|rgs ((a1.aY.aU==1)||(a1.aY.aU==2)) true (vB (a1.aY.aU==4)) X X X X (fun hg=>(bW (gvt (vI a1.aY.aU) hg X) X X))<|rs (vB (((a1.aY.aU==1)||(a1.aY.aU==2))||(a1.aY.aU==4))) (dQ X X (fun hp=>(gvt (vB (a1.aY.aU==4)) (gQ X hp) X)))<|aK (by simp only [sc0,sc1];rfl) ?_
   refine rs (vB (((a1.aY.aU==1)||(a1.aY.aU==2))||(a1.aY.aU==4))) (aO X)<|rgs (((a1.aY.aU==1)||(a1.aY.aU==2))||(a1.aY.aU==4)) true (vP b2 2) X X X X (fun hg=>(aH (n:=2) (o':=2) X An X Bk (by decide) X))<|rgs (((a1.aY.aU==1)||(a1.aY.aU==2))||(a1.aY.aU==4)) true (vP b2 2) X X X X (fun hg=>(aH (n:=1) (o':=2) (gvt (vP b2 2) hg X) A_ X As (by decide) X))<|rgs (((a1.aY.aU==1)||(a1.aY.aU==2))||(a1.aY.aU==4)) true (vI a1.aY.aU) X X X X (fun hg=>(aN (gvt (vP b2 2) hg X) AC (HS5.look 0 X) X))<|aK (by simp only [sc0,sc1];rfl) ?_
   refine rgs (((a1.aY.aU==1)||(a1.aY.aU==2))||(a1.aY.aU==4)) true (vB (a1.aY.aU==8)) X X X X (fun hg=>(bW (gvt (vI a1.aY.aU) hg X) X X))<|rs (vB ((((a1.aY.aU==1)||(a1.aY.aU==2))||(a1.aY.aU==4))||(a1.aY.aU==8))) (dQ X X (fun hp=>(gvt (vB (a1.aY.aU==8)) (gQ X hp) X)))<|rs (vB ((((a1.aY.aU==1)||(a1.aY.aU==2))||(a1.aY.aU==4))||(a1.aY.aU==8))) (aG X) ?_
   try simp only [sc0,sc1]
   refine aB<|ay<|AT<|fA<|bP ?_
   obtain rfl:=Ab H
   exact Ay (bD X (bK X)) X<|⟨X,HS5.toE⟩
  ·replace H:=cO H (nt c2)
   refine Al<|Al<|Ao<|rs (vB (a1.aA==2)) (bW X X X)<|rs (vB (a1.aA==2)) (aG X) ?_
   try simp only [sc0,sc1]
   refine aB<|ay ?_
   obtain ⟨xx1,H,G1⟩:=bn H
   refine kT [56,58] (fun us w'=>Fit us (fun uj1=>[vB xx1,(uj1 1)])∧St [] h0 w0 h0 [(some b2, .cells #[vI a1.aA,vS a1.aF,vI a1.aY.aU,vB a1.aY.aJ,vI a1.bY,vI a1.vN,vL rG a1.ak.length rH] 58 (0,0)),(some b1, .cells #[vL bQ a0.au.length bT] 24 (0,0))] w') ?_ ?_
   ·refine Av (t:=(a1.aA==2)) X (fun c3=>?_) (fun c3=>?_)
    ·replace H:=bU H c3
     refine AN ?_
     obtain rfl:=Ab H
     refine oH X ⟨(fit X),HS5⟩
    ·replace H:=cO H (nt c3)
     refine Ao<|rs (vB (a1.aA==6)) (bW X X X)<|rs (vB (a1.aA==6)) (aG X) ?_
     try simp only [sc0,sc1]
     refine aB ?_
     obtain rfl:=Ab H
     refine oH X ⟨(fit X),HS5⟩
   ·rintro us w6 ⟨AB,HS6⟩
    obtain ⟨uj1,rfl⟩:=unj AB
    replace H:=G1
    clear G1
    try simp only [patch,sc0,sc1]
    refine Av (t:=xx1) X (fun c4=>?_) (fun c4=>?_)
    ·replace H:=bU H c4
     refine Al<|Ao<|rs (Value.agg #[vL bQ a0.au.length bT]) (aT (n:=1) (vs:=[vL bQ a0.au.length bT]) X AI (HS6.look 1 X) AD X X)<|rs (vP b2 4) (aH (n:=1) (o':=4) X An X As (by decide) X)<|rs (vI a1.bY) (aN X AC (HS6.look 0 X) X) ?_
     obtain ⟨v4,H4,H⟩:=bn H
     refine run_eq (v:=vB v4) X X (bC CT X X (iL.calls a0 a1.bY bQ bT HS6.sees fK iF H4)) ?_
     intro w7 hE6
     have HS7:=HS6.step hE6
     refine aK (by simp only [sc0,sc1];rfl) ?_
     refine rs (vB v4) (aG X) ?_
     try simp only [sc0,sc1]
     refine aB<|ay<|AT<|fA<|bP ?_
     obtain rfl:=Ab H
     exact Ay (bD X (bK X)) X<|⟨X,HS7.toE⟩
    ·replace H:=cO H (nt c4)
     refine Al<|Ao<|rs (vB (a1.aA==3)) (bW X X X)<|rs (vB (a1.aA==3)) (aG X) ?_
     try simp only [sc0,sc1]
     refine aB<|ay<|Av (t:=(a1.aA==3)) X (fun c5=>?_) (fun c5=>?_)
     ·replace H:=bU H c5
      refine Al<|Ao<|rs (Value.agg #[vL bQ a0.au.length bT]) (aT (n:=1) (vs:=[vL bQ a0.au.length bT]) X AI (HS6.look 1 X) AD X X)<|rs (vP b2 4) (aH (n:=1) (o':=4) X An X As (by decide) X)<|rs (vI a1.bY) (aN X AC (HS6.look 0 X) X) ?_
      obtain ⟨v5,H5,H⟩:=bn H
      refine run_eq (v:=vB v5) X X (bC CT X X (iL.calls a0 a1.bY bQ bT HS6.sees fK iF H5)) ?_
      intro w8 hE7
      have HS8:=HS6.step hE7
      refine aK (by simp only [sc0,sc1];rfl) ?_
      refine rs (vB v5) (aO X)<|rgs v5 true (vP b2 5) X X X X (fun hg=>(aH (n:=1) (o':=5) X An X As (by decide) X))<|rgs v5 true (vI a1.vN) X X X X (fun hg=>(aN (gvt (vP b2 5) hg X) AC (HS8.look 0 X) X))<|rgs v5 true (vB (decide (a1.vN≥1))) X X X X (fun hg=>(bW (gvt (vI a1.vN) hg X) X X))<|aK (by simp only [sc0,sc1];rfl) ?_
      refine rs (vB (v5&&(decide (a1.vN≥1)))) (dL X (fun hp=>(gvt (vB (decide (a1.vN≥1))) (gQ X hp) X)) X)<|rs (vB (v5&&(decide (a1.vN≥1)))) (aO X)<|rgs (v5&&(decide (a1.vN≥1))) true (vP b2 5) X X X X (fun hg=>(aH (n:=1) (o':=5) X An X As (by decide) X))<|rgs (v5&&(decide (a1.vN≥1))) true (vI a1.vN) X X X X (fun hg=>(aN (gvt (vP b2 5) hg X) AC (HS8.look 0 X) X))<|aK (by simp only [sc0,sc1];rfl) ?_
      refine rgs (v5&&(decide (a1.vN≥1))) true (vB (decide (a1.vN≤512))) X X X X (fun hg=>(bW (gvt (vI a1.vN) hg X) X X))<|rs (vB ((v5&&(decide (a1.vN≥1)))&&(decide (a1.vN≤512)))) (dL X (fun hp=>(gvt (vB (decide (a1.vN≤512))) (gQ X hp) X)) X)<|rs (vB ((v5&&(decide (a1.vN≥1)))&&(decide (a1.vN≤512)))) (aG X) ?_
      try simp only [sc0,sc1]
      refine aB<|ay<|AT<|fA<|bP ?_
      obtain rfl:=Ab H
      exact Ay (bD X (bK X)) X<|⟨X,HS8.toE⟩
     ·replace H:=cO H (nt c5)
      refine AN<|dD<|ay<|Al<|Al<|Ao<|rs (vP b2 6) (aH (n:=1) (o':=6) X An X A4 (by decide) X)<|rs (vL rG a1.ak.length rH) (aN X Bs (HS6.look 0 X) X) ?_
      obtain ⟨v6,H6,H⟩:=bn H
      refine run_eq (v:=vB v6) X X (bC Tryz.call83 X X (dB.calls k a1.ak rG rH HS6.sees AU Du H6)) ?_
      intro w9 hE8
      have HS9:=HS6.step hE8
      refine rs (vB (!v6)) (mZ X) ?_
      try simp only [sc0,sc1]
      refine aB<|ay<|Av (t:=(!v6)) X (fun c6=>?_) (fun c6=>?_)
      ·replace H:=bU H c6
       refine Al<|Ao<|rs (vB false) (aG X) ?_
       try simp only [sc0,sc1]
       refine aB<|ay<|AT<|bP ?_
       obtain rfl:=Ab H
       exact Ay (bD X (bK X)) X<|⟨X,HS9.toE⟩
      ·replace H:=cO H (nt c6)
       refine AN<|ay<|Al<|Al<|Ao<|rs (vI 0) (aG X) ?_
       try simp only [sc0,sc1]
       refine aB<|ay ?_
       obtain ⟨xx2,H,G2⟩:=bn H
       refine jB [4,5,6,83,84,85,86,87,88,89,90,91,92,93,94,95,96,97,98,99,100,101,102,103,104,105,106,107,108,109,110,111,112,113,114,115,116,117,118,119,120,121,122] (fun m us w'=>∃(aC:Int),Fit us (fun uy1=>[(uy1 0),vI aC,(uy1 2),(uy1 3),(uy1 4),(uy1 5),(uy1 6),(uy1 7),(uy1 8),(uy1 9),(uy1 10),(uy1 11),(uy1 12),(uy1 13),(uy1 14),(uy1 15),(uy1 16),(uy1 17),(uy1 18),(uy1 19),(uy1 20),(uy1 21),(uy1 22),(uy1 23),(uy1 24),(uy1 25),(uy1 26),(uy1 27),(uy1 28),(uy1 29),(uy1 30),(uy1 31),(uy1 32),(uy1 33),(uy1 34),(uy1 35),(uy1 36),(uy1 37),(uy1 38),(uy1 39),(uy1 40),(uy1 41),(uy1 42)])∧fZ.l0 a0 a1 m aC=some xx2∧St [] h0 w0 h0 [(some b2, .cells #[vI a1.aA,vS a1.aF,vI a1.aY.aU,vB a1.aY.aJ,vI a1.bY,vI a1.vN,vL rG a1.ak.length rH] 58 (0,0)),(some b1, .cells #[vL bQ a0.au.length bT] 24 (0,0))] w') (fun us w'=>∃(s1:Unit),xx2= .inr s1∧Fit us (fun uo1=>[(uo1 0),(uo1 1),(uo1 2),(uo1 3),(uo1 4),(uo1 5),(uo1 6),(uo1 7),(uo1 8),(uo1 9),(uo1 10),(uo1 11),(uo1 12),(uo1 13),(uo1 14),(uo1 15),(uo1 16),(uo1 17),(uo1 18),(uo1 19),(uo1 20),(uo1 21),(uo1 22),(uo1 23),(uo1 24),(uo1 25),(uo1 26),(uo1 27),(uo1 28),(uo1 29),(uo1 30),(uo1 31),(uo1 32),(uo1 33),(uo1 34),(uo1 35),(uo1 36),(uo1 37),(uo1 38),(uo1 39),(uo1 40),(uo1 41),(uo1 42)])∧St [] h0 w0 h0 [(some b2, .cells #[vI a1.aA,vS a1.aF,vI a1.aY.aU,vB a1.aY.aJ,vI a1.bY,vI a1.vN,vL rG a1.ak.length rH] 58 (0,0)),(some b1, .cells #[vL bQ a0.au.length bT] 24 (0,0))] w') k ⟨0,(fit X),H,HS9⟩ ?_ ?_
       ·rintro m us w10 ⟨aC,nO,H,kF⟩
        obtain ⟨uy1,rfl⟩:=unj nO
        cases m with
        |zero=>exact absurd H (by simp [fZ.l0])
        |succ m=>
         rw [fZ.l0] at H
         try simp only [patch,sc0,sc1]
         refine Al<|Al<|Ao<|rs (vI aC) (aO X)<|rs (vP b2 6) (aH (n:=1) (o':=6) X An X A4 (by decide) X)<|rs (vL rG a1.ak.length rH) (aN X Bs (kF.look 0 X) X)<|rs (vI (a1.ak.length:Int)) (jD X AK)<|aK (by simp only [sc0,sc1];rfl) ?_
         refine rs (vB (decide (aC<(a1.ak.length:Int)))) (bW X X X) ?_
         try simp only [sc0,sc1]
         refine aB<|ay<|Av (t:=(decide (aC<(a1.ak.length:Int)))) X (fun c7=>?_) (fun c7=>?_)
         ·replace H:=bU H c7
          refine AN<|ay<|Al<|wp_block<|Al<|Ao<|rs (vP b2 6) (aH (n:=1) (o':=6) X An X A4 (by decide) X)<|rs (vL rG a1.ak.length rH) (aN X Bs (kF.look 0 X) X)<|rs (vI aC) (aO X) ?_
          obtain ⟨hi1,H⟩:=dN H
          obtain ⟨ad1,e1,mJ⟩:=ji AU hi1.1 hi1.2
          refine rs (Value.pointer (some (Addr.add ad1 (aC.toNat*3)))) (dP (sz:=3) X e1 X hi1.1 hi1.2 AK AS)<|aK (by simp only [sc0,sc1];rfl) ?_
          refine rs (Value.agg #[vS ((rd aj a1.ak aC).aF),vI ((rd aj a1.ak aC).vType),vI ((rd aj a1.ak aC).vAt)]) (gG X BC (mJ.sees kF.sees) AS)<|dF X X (dO (cs:=#[vS ByteArray.empty,vI 0,vI 0]) Bm X) ?_
          rintro w11 _ hE9 ⟨b3,rfl,ge3,hb3⟩
          have oC:=kF.new hE9 ge3 hb3
          refine gJ (i:=0) (cs:=[vS ByteArray.empty,vI 0,vI 0]) (cs':=[vS ((rd aj a1.ak aC).aF),vI ((rd aj a1.ak aC).vType),vI ((rd aj a1.ak aC).vAt)]) (vs:=[vS ((rd aj a1.ak aC).aF),vI ((rd aj a1.ak aC).vType),vI ((rd aj a1.ak aC).vAt)]) (bs':=[(some b3, .cells #[vS ((rd aj a1.ak aC).aF),vI ((rd aj a1.ak aC).vType),vI ((rd aj a1.ak aC).vAt)] 48 (0,0)),(some b2, .cells #[vI a1.aA,vS a1.aF,vI a1.aY.aU,vB a1.aY.aJ,vI a1.bY,vI a1.vN,vL rG a1.ak.length rH] 58 (0,0)),(some b1, .cells #[vL bQ a0.au.length bT] 24 (0,0))]) X X AS X X (by decide) X oC X (Ax X) X X ?_
          intro w12 mW
          try simp only [sc0,sc1]
          refine aB<|ay<|Al<|Al<|Ao<|rs (vP b2 0) (aH (n:=1) (o':=0) X An X As (by decide) X)<|rs (vI a1.aA) (aN X AC (mW.look 1 X) X)<|rs (vB (a1.aA==4)) (bW X X X)<|rs (vB (a1.aA==4)) (aO X)<|aK (by simp only [sc0,sc1];rfl) ?_
          refine rgs (a1.aA==4) true (Value.agg #[vL bQ a0.au.length bT]) X X X X (fun hg=>(aT (n:=1) (vs:=[vL bQ a0.au.length bT]) X AI (mW.look 2 X) AD X X))<|rgs (a1.aA==4) true (vP b3 1) X X X X (fun hg=>(aH (n:=1) (o':=1) X AJ X As (by decide) X))<|rgs (a1.aA==4) true (vI ((rd aj a1.ak aC).vType)) X X X X (fun hg=>(aN (gvt (vP b3 1) hg X) AC (mW.look 0 X) X)) ?_
          obtain ⟨v7,H7,H⟩:=bn H
          refine sJ (b:=(a1.aA==4)) (c:=true) (v:=vB v7) X X X X (fun hg=>(bC CT X (wF (gvt (Value.agg #[vL bQ a0.au.length bT]) hg X) (gvt (vI ((rd aj a1.ak aC).vType)) hg X)) (iL.calls a0 ((rd aj a1.ak aC).vType) bQ bT mW.sees fK iF (bU H7 hg)))) ?_
          intro w13 NI
          have qx:=mW.step NI
          refine aK (by simp only [sc0,sc1];rfl) ?_
          refine rgs (a1.aA==4) true (vB (!v7)) X X X X (fun hg=>(mZ (gvt (vB v7) hg X)))<|rs (vB ((a1.aA==4)&&(!v7))) (dL X (fun hp=>(gvt (vB (!v7)) (gQ X hp) X)) X) ?_
          try simp only [sc0,sc1]
          refine aB<|ay<|Av (t:=((a1.aA==4)&&(!v7))) X (fun c8=>?_) (fun c8=>?_)
          ·replace H:=bU H c8
           refine Al<|Ao<|rs (vB false) (aG X) ?_
           try simp only [sc0,sc1]
           refine aB<|ay<|AT<|bP<|fA<|bP<|jm<|bP ?_
           obtain rfl:=Ab H
           obtain rfl:=Ab G2
           exact Ay (bD X (bK X)) X<|⟨X,qx.toE⟩
          ·replace H:=cO H (nt c8)
           refine AN<|ay<|Al<|Ao<|rs (vP b2 0) (aH (n:=1) (o':=0) X An X As (by decide) X)<|rs (vI a1.aA) (aN X AC (qx.look 1 X) X)<|rs (vB (a1.aA==5)) (bW X X X)<|rs (vB (a1.aA==5)) (aO X)<|aK (by simp only [sc0,sc1];rfl) ?_
           refine rgs (a1.aA==5) true (vP b3 1) X X X X (fun hg=>(aH (n:=1) (o':=1) X AJ X As (by decide) X))<|rgs (a1.aA==5) true (vI ((rd aj a1.ak aC).vType)) X X X X (fun hg=>(aN (gvt (vP b3 1) hg X) AC (qx.look 0 X) X))<|rgs (a1.aA==5) true (vB ((rd aj a1.ak aC).vType !=0)) X X X X (fun hg=>(bW (gvt (vI ((rd aj a1.ak aC).vType)) hg X) X X))<|rgs (a1.aA==5) true (vB ((rd aj a1.ak aC).vType !=0)) X X X X (fun hg=>(aO (gvt (vB ((rd aj a1.ak aC).vType !=0)) hg X)))<|aK (by simp only [sc0,sc1];rfl) ?_
           refine rgs ((rd aj a1.ak aC).vType !=0) (true&&((a1.aA==5)==true)) (vP b3 2) X X X X (fun hg=>(aH (n:=1) (o':=2) X AJ X As (by decide) X))<|rgs ((rd aj a1.ak aC).vType !=0) (true&&((a1.aA==5)==true)) (vI ((rd aj a1.ak aC).vAt)) X X X X (fun hg=>(aN (gvt (vP b3 2) hg X) AC (qx.look 0 X) X))<|rgs ((rd aj a1.ak aC).vType !=0) (true&&((a1.aA==5)==true)) (vB (decide ((rd aj a1.ak aC).vAt<(-2147483648)))) X X X X (fun hg=>(bW (gvt (vI ((rd aj a1.ak aC).vAt)) hg X) X X))<|rgs (a1.aA==5) true (vB (((rd aj a1.ak aC).vType !=0)||(decide ((rd aj a1.ak aC).vAt<(-2147483648))))) X X X X (fun hg=>(dQ (gvt (vB ((rd aj a1.ak aC).vType !=0)) hg X) X (fun hp=>(gvt (vB (decide ((rd aj a1.ak aC).vAt<(-2147483648)))) (gQ hg hp) X))))<|aK (by simp only [sc0,sc1];rfl) ?_
           refine rgs (a1.aA==5) true (vB (((rd aj a1.ak aC).vType !=0)||(decide ((rd aj a1.ak aC).vAt<(-2147483648))))) X X X X (fun hg=>(aO (gvt (vB (((rd aj a1.ak aC).vType !=0)||(decide ((rd aj a1.ak aC).vAt<(-2147483648))))) hg X)))<|rgs (((rd aj a1.ak aC).vType !=0)||(decide ((rd aj a1.ak aC).vAt<(-2147483648)))) (true&&((a1.aA==5)==true)) (vP b3 2) X X X X (fun hg=>(aH (n:=1) (o':=2) X AJ X As (by decide) X))<|rgs (((rd aj a1.ak aC).vType !=0)||(decide ((rd aj a1.ak aC).vAt<(-2147483648)))) (true&&((a1.aA==5)==true)) (vI ((rd aj a1.ak aC).vAt)) X X X X (fun hg=>(aN (gvt (vP b3 2) hg X) AC (qx.look 0 X) X))<|rgs (((rd aj a1.ak aC).vType !=0)||(decide ((rd aj a1.ak aC).vAt<(-2147483648)))) (true&&((a1.aA==5)==true)) (vB (decide ((rd aj a1.ak aC).vAt>2147483647))) X X X X (fun hg=>(bW (gvt (vI ((rd aj a1.ak aC).vAt)) hg X) X X))<|aK (by simp only [sc0,sc1];rfl) ?_
           refine rgs (a1.aA==5) true (vB ((((rd aj a1.ak aC).vType !=0)||(decide ((rd aj a1.ak aC).vAt<(-2147483648))))||(decide ((rd aj a1.ak aC).vAt>2147483647)))) X X X X (fun hg=>(dQ (gvt (vB (((rd aj a1.ak aC).vType !=0)||(decide ((rd aj a1.ak aC).vAt<(-2147483648))))) hg X) X (fun hp=>(gvt (vB (decide ((rd aj a1.ak aC).vAt>2147483647))) (gQ hg hp) X))))<|rs (vB ((a1.aA==5)&&((((rd aj a1.ak aC).vType !=0)||(decide ((rd aj a1.ak aC).vAt<(-2147483648))))||(decide ((rd aj a1.ak aC).vAt>2147483647))))) (dL X (fun hp=>(gvt (vB ((((rd aj a1.ak aC).vType !=0)||(decide ((rd aj a1.ak aC).vAt<(-2147483648))))||(decide ((rd aj a1.ak aC).vAt>2147483647)))) (gQ X hp) X)) X) ?_
           try simp only [sc0,sc1]
           refine aB<|ay<|Av (t:=((a1.aA==5)&&((((rd aj a1.ak aC).vType !=0)||(decide ((rd aj a1.ak aC).vAt<(-2147483648))))||(decide ((rd aj a1.ak aC).vAt>2147483647))))) X (fun c9=>?_) (fun c9=>?_)
           ·replace H:=bU H c9
            refine Al<|Ao<|rs (vB false) (aG X) ?_
            try simp only [sc0,sc1]
            refine aB<|ay<|AT<|fA<|bP<|jm<|bP ?_
            obtain rfl:=Ab H
            obtain rfl:=Ab G2
            exact Ay (bD X (bK X)) X<|⟨X,qx.toE⟩
           ·replace H:=cO H (nt c9)
            refine AN<|dD<|ay<|Ao<|rs (vI aC) (aO X)<|rs (vI (w64 (aC+1))) (bW X X X)<|rs (vI (w64 (aC+1))) (aG X) ?_
            try simp only [sc0,sc1]
            refine aB<|gI m (Nat.lt_succ_self m) X ⟨(w64 (aC+1)),(fit X),H,qx.tail⟩
         ·replace H:=cO H (nt c7)
          refine Bx<|eU ?_
          obtain rfl:=Ab H
          refine iK X ⟨_,X,(fit X),kF⟩
       ·rintro us w14 ⟨s1,rfl,nP,ru⟩
        obtain ⟨uo1,rfl⟩:=unj nP
        replace H:=G2
        clear G2
        try simp only [patch,sc0,sc1]
        refine ay<|Al<|Ao<|rs (vP b2 0) (aH (n:=1) (o':=0) X An X As (by decide) X)<|rs (vI a1.aA) (aN X AC (ru.look 0 X) X)<|rs (vB (a1.aA==5)) (bW X X X)<|rs (vB (a1.aA==5)) (aO X)<|aK (by simp only [sc0,sc1];rfl) ?_
        refine rgs (a1.aA==5) true (vP b2 5) X X X X (fun hg=>(aH (n:=1) (o':=5) X An X As (by decide) X))<|rgs (a1.aA==5) true (vI a1.vN) X X X X (fun hg=>(aN (gvt (vP b2 5) hg X) AC (ru.look 0 X) X))<|rgs (a1.aA==5) true (vB (decide (a1.vN≥1))) X X X X (fun hg=>(bW (gvt (vI a1.vN) hg X) X X))<|rgs (a1.aA==5) true (vB (decide (a1.vN≥1))) X X X X (fun hg=>(aO (gvt (vB (decide (a1.vN≥1))) hg X)))<|aK (by simp only [sc0,sc1];rfl) ?_
        refine rgs (decide (a1.vN≥1)) (true&&((a1.aA==5)==false)) (vP b2 5) X X X X (fun hg=>(aH (n:=1) (o':=5) X An X As (by decide) X))<|rgs (decide (a1.vN≥1)) (true&&((a1.aA==5)==false)) (vI a1.vN) X X X X (fun hg=>(aN (gvt (vP b2 5) hg X) AC (ru.look 0 X) X))<|rgs (decide (a1.vN≥1)) (true&&((a1.aA==5)==false)) (vB (decide (a1.vN≤512))) X X X X (fun hg=>(bW (gvt (vI a1.vN) hg X) X X))<|rgs (a1.aA==5) true (vB ((decide (a1.vN≥1))&&(decide (a1.vN≤512)))) X X X X (fun hg=>(dL (gvt (vB (decide (a1.vN≥1))) hg X) (fun hp=>(gvt (vB (decide (a1.vN≤512))) (gQ hg hp) X)) X))<|aK (by simp only [sc0,sc1];rfl) ?_
        refine rs (vB ((a1.aA==5)||((decide (a1.vN≥1))&&(decide (a1.vN≤512))))) (dQ X X (fun hp=>(gvt (vB ((decide (a1.vN≥1))&&(decide (a1.vN≤512)))) (gQ X hp) X)))<|rs (vB ((a1.aA==5)||((decide (a1.vN≥1))&&(decide (a1.vN≤512))))) (aG X) ?_
        try simp only [sc0,sc1]
        refine aB<|ay<|AT ?_
        obtain rfl:=Ab H
        exact Ay (bD X (bK X)) X<|⟨X,ru.toE⟩
def gW.l0 (a0:aZ) (a1:List Int):Nat→Int→Option ((Int)⊕(Unit))
 |0,_=>none
 |m+1,aC=>if (decide (aC<(a0.ak.length:Int)))=true then (if 0≤aC∧aC<a0.ak.length then (if 0≤(rd aj a0.ak aC).vType∧(rd aj a0.ak aC).vType<a1.length then (if ((rd 0 a1 ((rd aj a0.ak aC).vType))==0)=true then (some (.inl 0)) else (gW.l0 a0 a1 m (IntKind.wrap .i64 (aC+1)))) else none) else none) else (some (.inr ()))
def gW.f (k:Nat) (a0:aZ) (a1:List Int):Option (Int):=if (a0.aA==1)=true then (some a0.aY.aU) else (if (a0.aA==2)=true then (some 8) else (if (a0.aA==3)=true then (if 0≤a0.bY∧a0.bY<a1.length then (some (IntKind.wrap .i64 (a0.vN*(rd 0 a1 a0.bY)))) else none) else (if (a0.aA==5)=true then (some 4) else (if (a0.aA==6)=true then (if 0≤a0.bY∧a0.bY<a1.length then (some (rd 0 a1 a0.bY)) else none) else ((gW.l0 a0 a1 k 0).bind fun xx1=>(match xx1 with| .inl r=>some r| .inr s1=>some a0.vN))))))
theorem gW.calls (k:Nat) (a0:aZ) (a1:List Int) (kG:Option Addr) (kH:Nat) (iM:Option Addr) (iO:Nat) {h0:View} {w0:World} (hv:lS h0 w0) (sV:Rd dw h0 kG a0.ak) (wL:a0.ak.length≤kH) (kX:Rd (Kd.int .i64) h0 iM a1) (pK:a1.length≤iO) {r:Int} (H:gW.f k a0 a1=some r):Calls Tryz.prog 84 #[Value.agg #[vI a0.aA,vS a0.aF,vI a0.aY.aU,vB a0.aY.aJ,vI a0.bY,vI a0.vN,vL kG a0.ak.length kH],vL iM a1.length iO] w0 (fun e w1=>e= .returned (vI r)∧Ext w0 w1):=by
 unfold gW.f at H
 have HS:St [] h0 w0 h0 [] w0:=St.init hv
 go_enter Tryz.func84,Tryz.ntmps84
 refine Al<|Ao<|dF X X (eF (cs:=#[vI a0.aA,vS a0.aF,vI a0.aY.aU,vB a0.aY.aJ,vI a0.bY,vI a0.vN,vL kG a0.ak.length kH]) X X) ?_
 rintro w1 _ hE1 ⟨b1,rfl,ge1,hb1⟩
 have HS1:=HS.new hE1 ge1 hb1
 refine rs (vI 0) (aG X) ?_
 try simp only [sc0,sc1]
 refine aB<|ay<|Al<|Al<|Ao<|rs (vP b1 0) (aH (n:=1) (o':=0) X An X As (by decide) X)<|rs (vI a0.aA) (aN X AC (HS1.look 0 X) X) ?_
 try simp only [sc0,sc1]
 refine aB<|ay<|wp_block<|Al<|Ao<|rs (vB (a0.aA==1)) (bW X X X)<|rs (vB (a0.aA==1)) (aG X) ?_
 try simp only [sc0,sc1]
 refine aB<|ay<|Av (t:=(a0.aA==1)) X (fun c1=>?_) (fun c1=>?_)
 ·replace H:=bU H c1
  refine Al<|Ao<|rs (vP b1 2) (aH (n:=2) (o':=2) X An X Bk (by decide) X)<|rs (vP b1 2) (aH (n:=1) (o':=2) X A_ X As (by decide) X)<|rs (vI a0.aY.aU) (aN X AC (HS1.look 0 X) X)<|rs (vI a0.aY.aU) (aG X) ?_
  try simp only [sc0,sc1]
  refine aB<|ay<|AT<|fA<|bP ?_
  obtain rfl:=Ab H
  exact Ay (bD X (bK X)) X<|⟨X,HS1.toE⟩
 ·replace H:=cO H (nt c1)
  refine Al<|Ao<|rs (vB (a0.aA==2)) (bW X X X)<|rs (vB (a0.aA==2)) (aG X) ?_
  try simp only [sc0,sc1]
  refine aB<|ay<|Av (t:=(a0.aA==2)) X (fun c2=>?_) (fun c2=>?_)
  ·replace H:=bU H c2
   refine Al<|Ao<|rs (vI 8) (aG X) ?_
   try simp only [sc0,sc1]
   refine aB<|ay<|AT<|fA<|bP ?_
   obtain rfl:=Ab H
   exact Ay (bD X (bK X)) X<|⟨X,HS1.toE⟩
  ·replace H:=cO H (nt c2)
   refine Al<|Ao<|rs (vB (a0.aA==3)) (bW X X X)<|rs (vB (a0.aA==3)) (aG X) ?_
   try simp only [sc0,sc1]
   refine aB<|ay<|Av (t:=(a0.aA==3)) X (fun c3=>?_) (fun c3=>?_)
   ·replace H:=bU H c3
    refine Al ?_
    obtain ⟨hi1,H⟩:=dN H
    obtain ⟨ad1,e1,mJ⟩:=qY kX hi1.1 hi1.2
    refine drawn [.eq (vP b1 5), .eq (vI a0.vN), .eq (vL iM a1.length iO), .eq (vP b1 4), .eq (vI a0.bY), .eq (Value.pointer (some (Addr.add ad1 (a0.bY.toNat*1)))), .eq (vI (rd 0 a1 a0.bY)), .eq (vI (w64 (a0.vN*(rd 0 a1 a0.bY))))] [17,18,19,20,21,22,23,24] rM (by kernel_rfl) X (aP (aP (aP (aP (aP (aP (aP (aP iJ)))))))) ⟨aX X (fun a' w' hE hk=>by exact aW (aH (n:=1) (o':=5) (show _=vP b1 0 from hk 2 X) An X As (by decide) X)),aX X (fun a' w' hE hk=>by exact aW (aN (show _=vP b1 5 from hk 17 X) AC ((HS1.step hE).look 0 X) X)),aX X (fun a' w' hE hk=>by exact aW (aO (show _=vL iM a1.length iO from hk 1 X))),aX X (fun a' w' hE hk=>by exact aW (aH (n:=1) (o':=4) (show _=vP b1 0 from hk 2 X) An X As (by decide) X)),aX X (fun a' w' hE hk=>by exact aW (aN (show _=vP b1 4 from hk 20 X) AC ((HS1.step hE).look 0 X) X)),aX X (fun a' w' hE hk=>by exact aW (dP (sz:=1) (show _=vL iM a1.length iO from hk 19 X) e1 (show _=vI a0.bY from hk 21 X) hi1.1 hi1.2 AG As)),aX X (fun a' w' hE hk=>by exact aW (kE (show _=Value.pointer (some (Addr.add ad1 (a0.bY.toNat*1))) from hk 22 X) AC (mJ.cell0 (HS1.step hE).sees X))),aX X (fun a' w' hE hk=>by exact aW (bW (show _=vI a0.vN from hk 18 X) (show _=vI (rd 0 a1 a0.bY) from hk 23 X) X)),trivial⟩ ?_
    intro w2 hE2
    simp only [List.zip_cons_cons,List.zip_nil_left,List.zip_nil_right,vO,sc0,sc1,List.length_cons,List.length_nil,List.drop_succ_cons,List.drop_zero,Nat.zero_add,Nat.reduceAdd]
    have HS2:=HS1.step hE2
    refine rs (vI (w64 (a0.vN*(rd 0 a1 a0.bY)))) (aG X) ?_
    try simp only [sc0,sc1]
    refine aB<|ay<|AT<|fA<|bP ?_
    obtain rfl:=Ab H
    exact Ay (bD X (bK X)) X<|⟨X,HS2.toE⟩
   ·replace H:=cO H (nt c3)
    refine Al<|Ao<|rs (vB (a0.aA==5)) (bW X X X)<|rs (vB (a0.aA==5)) (aG X) ?_
    try simp only [sc0,sc1]
    refine aB<|ay<|Av (t:=(a0.aA==5)) X (fun c4=>?_) (fun c4=>?_)
    ·replace H:=bU H c4
     refine Al<|Ao<|rs (vI 4) (aG X) ?_
     try simp only [sc0,sc1]
     refine aB<|ay<|AT<|fA<|bP ?_
     obtain rfl:=Ab H
     exact Ay (bD X (bK X)) X<|⟨X,HS1.toE⟩
    ·replace H:=cO H (nt c4)
     refine Al<|Ao<|rs (vB (a0.aA==6)) (bW X X X)<|rs (vB (a0.aA==6)) (aG X) ?_
     try simp only [sc0,sc1]
     refine aB<|ay<|Av (t:=(a0.aA==6)) X (fun c5=>?_) (fun c5=>?_)
     ·replace H:=bU H c5
      refine Al<|Ao<|rs (vL iM a1.length iO) (aO X)<|rs (vP b1 4) (aH (n:=1) (o':=4) X An X As (by decide) X)<|rs (vI a0.bY) (aN X AC (HS1.look 0 X) X) ?_
      obtain ⟨hi2,H⟩:=dN H
      obtain ⟨ad2,e2,tN⟩:=qY kX hi2.1 hi2.2
      refine rs (Value.pointer (some (Addr.add ad2 (a0.bY.toNat*1)))) (dP (sz:=1) X e2 X hi2.1 hi2.2 AG As)<|aK (by simp only [sc0,sc1];rfl) ?_
      refine rs (vI (rd 0 a1 a0.bY)) (kE X AC (tN.cell0 HS1.sees X))<|rs (vI (rd 0 a1 a0.bY)) (aG X) ?_
      try simp only [sc0,sc1]
      refine aB<|ay<|AT<|fA<|bP ?_
      obtain rfl:=Ab H
      exact Ay (bD X (bK X)) X<|⟨X,HS1.toE⟩
     ·replace H:=cO H (nt c5)
      refine AN<|dD<|ay<|Al<|Al<|Ao<|rs (vI 0) (aG X) ?_
      try simp only [sc0,sc1]
      refine aB<|ay ?_
      obtain ⟨xx1,H,G1⟩:=bn H
      refine jB [4,5,34,35,36,37,38,39,40,41,42,43,44,45,46,47,48,49,50] (fun m us w'=>∃(aC:Int),Fit us (fun uy1=>[(uy1 0),vI aC,(uy1 2),(uy1 3),(uy1 4),(uy1 5),(uy1 6),(uy1 7),(uy1 8),(uy1 9),(uy1 10),(uy1 11),(uy1 12),(uy1 13),(uy1 14),(uy1 15),(uy1 16),(uy1 17),(uy1 18)])∧gW.l0 a0 a1 m aC=some xx1∧St [] h0 w0 h0 [(some b1, .cells #[vI a0.aA,vS a0.aF,vI a0.aY.aU,vB a0.aY.aJ,vI a0.bY,vI a0.vN,vL kG a0.ak.length kH] 58 (0,0))] w') (fun us w'=>∃(s1:Unit),xx1= .inr s1∧Fit us (fun uo1=>[(uo1 0),(uo1 1),(uo1 2),(uo1 3),(uo1 4),(uo1 5),(uo1 6),(uo1 7),(uo1 8),(uo1 9),(uo1 10),(uo1 11),(uo1 12),(uo1 13),(uo1 14),(uo1 15),(uo1 16),(uo1 17),(uo1 18)])∧St [] h0 w0 h0 [(some b1, .cells #[vI a0.aA,vS a0.aF,vI a0.aY.aU,vB a0.aY.aJ,vI a0.bY,vI a0.vN,vL kG a0.ak.length kH] 58 (0,0))] w') k ⟨0,(fit X),H,HS1⟩ ?_ ?_
      ·rintro m us w3 ⟨aC,nO,H,HS3⟩
       obtain ⟨uy1,rfl⟩:=unj nO
       cases m with
       |zero=>exact absurd H (by simp [gW.l0])
       |succ m=>
        rw [gW.l0] at H
        try simp only [patch,sc0,sc1]
        refine Al<|Al<|Ao<|rs (vI aC) (aO X)<|rs (vP b1 6) (aH (n:=1) (o':=6) X An X A4 (by decide) X)<|rs (vL kG a0.ak.length kH) (aN X Bs (HS3.look 0 X) X)<|rs (vI (a0.ak.length:Int)) (jD X AK)<|aK (by simp only [sc0,sc1];rfl) ?_
        refine rs (vB (decide (aC<(a0.ak.length:Int)))) (bW X X X) ?_
        try simp only [sc0,sc1]
        refine aB<|ay<|Av (t:=(decide (aC<(a0.ak.length:Int)))) X (fun c6=>?_) (fun c6=>?_)
        ·replace H:=bU H c6
         refine AN<|ay<|Al<|wp_block<|Al<|Ao<|rs (vL iM a1.length iO) (aO X)<|rs (vP b1 6) (aH (n:=1) (o':=6) X An X A4 (by decide) X)<|rs (vL kG a0.ak.length kH) (aN X Bs (HS3.look 0 X) X)<|rs (vI aC) (aO X)<|aK (by simp only [sc0,sc1];rfl) ?_
         obtain ⟨hi3,H⟩:=dN H
         obtain ⟨ad3,e3,IW⟩:=ji sV hi3.1 hi3.2
         refine rs (Value.pointer (some (Addr.add ad3 (aC.toNat*3)))) (dP (sz:=3) X e3 X hi3.1 hi3.2 AK AS)<|rs (Value.pointer (some (Addr.add (Addr.add ad3 (aC.toNat*3)) 1))) (nX (n:=1) (o':=1) X AJ X As (by decide) X)<|rs (vI ((rd aj a0.ak aC).vType)) (kE X AC (IW.cell HS3.sees 1 X)) ?_
         obtain ⟨hi4,H⟩:=dN H
         obtain ⟨ad4,e4,Vg⟩:=qY kX hi4.1 hi4.2
         refine rs (Value.pointer (some (Addr.add ad4 (((rd aj a0.ak aC).vType).toNat*1)))) (dP (sz:=1) X e4 X hi4.1 hi4.2 AG As)<|aK (by simp only [sc0,sc1];rfl) ?_
         refine rs (vI (rd 0 a1 ((rd aj a0.ak aC).vType))) (kE X AC (Vg.cell0 HS3.sees X))<|rs (vB ((rd 0 a1 ((rd aj a0.ak aC).vType))==0)) (bW X X X) ?_
         try simp only [sc0,sc1]
         refine aB<|ay<|Av (t:=((rd 0 a1 ((rd aj a0.ak aC).vType))==0)) X (fun c7=>?_) (fun c7=>?_)
         ·replace H:=bU H c7
          refine Al<|Ao<|rs (vI 0) (aG X) ?_
          try simp only [sc0,sc1]
          refine aB<|ay<|AT<|fA<|bP<|jm<|bP ?_
          obtain rfl:=Ab H
          obtain rfl:=Ab G1
          exact Ay (bD X (bK X)) X<|⟨X,HS3.toE⟩
         ·replace H:=cO H (nt c7)
          refine AN<|dD<|ay<|Ao<|rs (vI aC) (aO X)<|rs (vI (w64 (aC+1))) (bW X X X)<|rs (vI (w64 (aC+1))) (aG X) ?_
          try simp only [sc0,sc1]
          refine aB<|gI m (Nat.lt_succ_self m) X ⟨(w64 (aC+1)),(fit X),H,HS3⟩
        ·replace H:=cO H (nt c6)
         refine Bx<|eU ?_
         obtain rfl:=Ab H
         refine iK X ⟨_,X,(fit X),HS3⟩
      ·rintro us w4 ⟨s1,rfl,nP,HS4⟩
       obtain ⟨uo1,rfl⟩:=unj nP
       replace H:=G1
       clear G1
       try simp only [patch,sc0,sc1]
       refine ay<|Al<|Ao<|rs (vP b1 5) (aH (n:=1) (o':=5) X An X As (by decide) X)<|rs (vI a0.vN) (aN X AC (HS4.look 0 X) X)<|rs (vI a0.vN) (aG X) ?_
       try simp only [sc0,sc1]
       refine aB<|ay<|AT ?_
       obtain rfl:=Ab H
       exact Ay (bD X (bK X)) X<|⟨X,HS4.toE⟩
def bV.l1 (k:Nat) (a0:aQ):Nat→Bool→Int→(List Int)→Option (Bool×(List Int))
 |0,_,_,_=>none
 |m+1,jQ,lJ,qG=>if (decide (lJ<(a0.au.length:Int)))=true then (if 0≤lJ∧lJ<(((a0.au.length:Int).toNat:Nat):Int) then (if ((rd 0 qG lJ) !=0)=true then (bV.l1 k a0 m jQ (IntKind.wrap .i64 (lJ+1)) qG) else (if 0≤lJ∧lJ<a0.au.length then ((gW.f k (rd ah a0.au lJ) qG).bind fun v1=>(if (decide (v1>0))=true then (if 0≤lJ∧lJ<(((a0.au.length:Int).toNat:Nat):Int) then (bV.l1 k a0 m true (IntKind.wrap .i64 (lJ+1)) (List.set qG lJ.toNat (D7 v1 513))) else none) else (bV.l1 k a0 m jQ (IntKind.wrap .i64 (lJ+1)) qG))) else none)) else none) else (some (jQ,qG))
def bV.l0 (k:Nat) (a0:aQ):Nat→Bool→(List Int)→Option ((List Int))
 |0,_,_=>none
 |m+1,aC,dG=>if aC=true then ((bV.l1 k a0 k false 0 dG).bind fun xx2=>(bV.l0 k a0 m xx2.1 xx2.2)) else (some dG)
def bV.f (k:Nat) (a0:aQ):Option ((List Int)):=if 0≤(a0.au.length:Int)∧(a0.au.length:Int)≤4294967296 then ((bV.l0 k a0 k true (List.replicate (a0.au.length:Int).toNat (0:Int))).bind fun xx1=>(some xx1)) else none
theorem bV.calls (k:Nat) (a0:aQ) (bQ:Option Addr) (bT:Nat) {h0:View} {w0:World} (hv:lS h0 w0) (fK:Rd bI h0 bQ a0.au) (iF:a0.au.length≤bT) {r:(List Int)} (H:bV.f k a0=some r):Calls Tryz.prog 59 #[Value.agg #[vL bQ a0.au.length bT]] w0 (fun e w1=>∃(h1:View) (bQ:Option Addr) (bT:Nat),e= .returned (vL bQ r.length bT)∧r.length≤bT∧Rd (Kd.int .i64) h1 bQ r∧Gr w0.heap.size h0 h1∧lS h1 w1∧Ext w0 w1):=by
 unfold bV.f at H
 have HS:St [] h0 w0 h0 [] w0:=St.init hv
 go_enter Tryz.func59,Tryz.ntmps59
 refine Al<|Ao<|dF X X (eF (cs:=#[vL bQ a0.au.length bT]) X X) ?_
 rintro w1 _ hE1 ⟨b1,rfl,ge1,hb1⟩
 have HS1:=HS.new hE1 ge1 hb1
 refine rs (vL none 0 0) (aG X) ?_
 try simp only [sc0,sc1]
 refine aB<|ay<|Al<|Ao<|rs (vP b1 0) (aH (n:=1) (o':=0) X AE X AM (by decide) X)<|rs (vL bQ a0.au.length bT) (aN X AR (HS1.look 0 X) X)<|rs (vI (a0.au.length:Int)) (jD X AF) ?_
 obtain ⟨hk1,H⟩:=dN H
 refine run_mk (Kd.int .i64) 0 (zs:=[vI 0]) X X hk1 AG Br (by decide) X Bb X X HS1 ?_
 intro w2 b2 cs1 HS2 ho1
 refine aK (by simp only [sc0,sc1];rfl) ?_
 refine rs (vL (rowA (some b2)) ((a0.au.length:Int).toNat) ((a0.au.length:Int).toNat)) (aG X) ?_
 try simp only [sc0,sc1]
 refine aB<|ay<|Al<|Al<|Ao<|rs (vB true) (aG X) ?_
 try simp only [sc0,sc1]
 refine aB<|ay ?_
 obtain ⟨xx1,H,G1⟩:=bn H
 refine jB [4,5,6,11,12,13,14,15,16,17,18,19,20,21,22,23,24,25,26,27,28,29,30,31,32,33,34,35,36,37] (fun m us w'=>∃aC:Bool,∃dG:List Int,∃eH:List Value,Fit us (fun uy1=>[vB aC,(uy1 1),(uy1 2),(uy1 3),(uy1 4),(uy1 5),(uy1 6),(uy1 7),(uy1 8),(uy1 9),(uy1 10),(uy1 11),(uy1 12),(uy1 13),(uy1 14),(uy1 15),(uy1 16),(uy1 17),(uy1 18),(uy1 19),(uy1 20),(uy1 21),(uy1 22),(uy1 23),(uy1 24),(uy1 25),(uy1 26),(uy1 27),(uy1 28),(uy1 29)])∧bV.l0 k a0 m aC dG=some xx1∧gU (Kd.int .i64) h0 dG (some b2) ((a0.au.length:Int).toNat) ((a0.au.length:Int).toNat) eH∧St [] h0 w0 h0 [((some b2), .cells (eH).toArray 3 (0,0)),(some b1, .cells #[vL bQ a0.au.length bT] 24 (0,0))] w') (fun us w'=>∃(uz:List Value),Fit us (fun uo2=>[(uo2 0),(uo2 1),(uo2 2),(uo2 3),(uo2 4),(uo2 5),(uo2 6),(uo2 7),(uo2 8),(uo2 9),(uo2 10),(uo2 11),(uo2 12),(uo2 13),(uo2 14),(uo2 15),(uo2 16),(uo2 17),(uo2 18),(uo2 19),(uo2 20),(uo2 21),(uo2 22),(uo2 23),(uo2 24),(uo2 25),(uo2 26),(uo2 27),(uo2 28),(uo2 29)])∧gU (Kd.int .i64) h0 xx1 (some b2) ((a0.au.length:Int).toNat) ((a0.au.length:Int).toNat) uz∧St [] h0 w0 h0 [((some b2), .cells (uz).toArray 3 (0,0)),(some b1, .cells #[vL bQ a0.au.length bT] 24 (0,0))] w') k ⟨true,(List.replicate (a0.au.length:Int).toNat (0:Int)),cs1,(fit X),H,ho1,HS2⟩ ?_ ?_
 ·rintro m us w3 ⟨aC,dG,eH,nO,H,iE,HS3⟩
  obtain ⟨uy1,rfl⟩:=unj nO
  cases m with
  |zero=>exact absurd H (by simp [bV.l0])
  |succ m=>
   rw [bV.l0] at H
   try simp only [patch,sc0,sc1]
   refine Al<|Al<|Ao<|rs (vB aC) (aO X) ?_
   try simp only [sc0,sc1]
   refine aB<|ay<|Av (t:=aC) X (fun c1=>?_) (fun c1=>?_)
   ·replace H:=bU H c1
    refine AN<|ay<|wp_block<|Al<|Ao<|rs (vB false) (aG X) ?_
    try simp only [sc0,sc1]
    refine aB<|ay<|Al<|Ao<|rs (vI 0) (aG X) ?_
    try simp only [sc0,sc1]
    refine aB<|ay ?_
    obtain ⟨xx2,H,G2⟩:=bn H
    refine jB [4,5,6,12,13,14,15,16,17,18,19,20,21,22,23,24,25,26,27,28,29,30,31,32,33,34,35,36,37] (fun m us w'=>∃jQ:Bool,∃lJ:Int,∃qG:List Int,∃pF:List Value,Fit us (fun uy2=>[vB jQ,vI lJ,(uy2 2),(uy2 3),(uy2 4),(uy2 5),(uy2 6),(uy2 7),(uy2 8),(uy2 9),(uy2 10),(uy2 11),(uy2 12),(uy2 13),(uy2 14),(uy2 15),(uy2 16),(uy2 17),(uy2 18),(uy2 19),(uy2 20),(uy2 21),(uy2 22),(uy2 23),(uy2 24),(uy2 25),(uy2 26),(uy2 27),(uy2 28)])∧bV.l1 k a0 m jQ lJ qG=some xx2∧gU (Kd.int .i64) h0 qG (some b2) ((a0.au.length:Int).toNat) ((a0.au.length:Int).toNat) pF∧St [] h0 w0 h0 [((some b2), .cells (pF).toArray 3 (0,0)),(some b1, .cells #[vL bQ a0.au.length bT] 24 (0,0))] w') (fun us w'=>∃(qJ:List Value),Fit us (fun uo1=>[vB xx2.1,(uo1 1),(uo1 2),(uo1 3),(uo1 4),(uo1 5),(uo1 6),(uo1 7),(uo1 8),(uo1 9),(uo1 10),(uo1 11),(uo1 12),(uo1 13),(uo1 14),(uo1 15),(uo1 16),(uo1 17),(uo1 18),(uo1 19),(uo1 20),(uo1 21),(uo1 22),(uo1 23),(uo1 24),(uo1 25),(uo1 26),(uo1 27),(uo1 28)])∧gU (Kd.int .i64) h0 xx2.2 (some b2) ((a0.au.length:Int).toNat) ((a0.au.length:Int).toNat) qJ∧St [] h0 w0 h0 [((some b2), .cells (qJ).toArray 3 (0,0)),(some b1, .cells #[vL bQ a0.au.length bT] 24 (0,0))] w') k ⟨false,0,dG,eH,(fit X),H,iE,HS3⟩ ?_ ?_
    ·rintro m us w4 ⟨jQ,lJ,qG,pF,NW,H,rJ,HS4⟩
     obtain ⟨uy2,rfl⟩:=unj NW
     cases m with
     |zero=>exact absurd H (by simp [bV.l1])
     |succ m=>
      rw [bV.l1] at H
      try simp only [patch,sc0,sc1]
      refine Al<|Al<|Ao<|rs (vI lJ) (aO X)<|rs (vP b1 0) (aH (n:=1) (o':=0) X AE X AM (by decide) X)<|rs (vL bQ a0.au.length bT) (aN X AR (HS4.look 1 X) X)<|rs (vI (a0.au.length:Int)) (jD X AF)<|aK (by simp only [sc0,sc1];rfl) ?_
      refine rs (vB (decide (lJ<(a0.au.length:Int)))) (bW X X X) ?_
      try simp only [sc0,sc1]
      refine aB<|ay<|Av (t:=(decide (lJ<(a0.au.length:Int)))) X (fun c2=>?_) (fun c2=>?_)
      ·replace H:=bU H c2
       refine AN<|ay<|Al<|wp_block<|Al<|Al<|Ao<|rs (vL (rowA (some b2)) ((a0.au.length:Int).toNat) ((a0.au.length:Int).toNat)) (aO X)<|rs (vI lJ) (aO X) ?_
       obtain ⟨hi1,H⟩:=dN H
       obtain ⟨rb1,_,Hz,rfl,hp1⟩:=rJ.at 0 hi1.1 hi1.2
       refine rs (Value.pointer (some ⟨rb1,lJ.toNat*1+0,none⟩)) (lX (sz:=1) X Hz X hi1.1 hi1.2 AG As)<|rs (vI (rd 0 qG lJ)) (aN (cs:=pF) X AC (HS4.ES 0 X Hz) (hp1 0 _ X))<|aK (by simp only [sc0,sc1];rfl) ?_
       refine rs (vB ((rd 0 qG lJ) !=0)) (bW X X X) ?_
       try simp only [sc0,sc1]
       refine aB<|ay<|Av (t:=((rd 0 qG lJ) !=0)) X (fun c3=>?_) (fun c3=>?_)
       ·replace H:=bU H c3
        refine Bx<|eU<|yH<|ay<|Ao<|rs (vI lJ) (aO X)<|rs (vI (w64 (lJ+1))) (bW X X X)<|rs (vI (w64 (lJ+1))) (aG X) ?_
        try simp only [sc0,sc1]
        refine aB<|gI m (Nat.lt_succ_self m) X ⟨jQ,(w64 (lJ+1)),qG,pF,(fit X),H,rJ,HS4⟩
       ·replace H:=cO H (nt c3)
        refine AN<|ay<|Al<|Ao<|rs (vP b1 0) (aH (n:=1) (o':=0) X AE X AM (by decide) X)<|rs (vL bQ a0.au.length bT) (aN X AR (HS4.look 1 X) X)<|rs (vI lJ) (aO X) ?_
        obtain ⟨hi2,H⟩:=dN H
        obtain ⟨ad1,dU,dY,e1,mJ,jS,iY⟩:=gK fK hi2.1 hi2.2
        refine rs (Value.pointer (some (Addr.add ad1 (lJ.toNat*7)))) (dP (sz:=7) X e1 X hi2.1 hi2.2 AF AH)<|aK (by simp only [sc0,sc1];rfl) ?_
        refine rs (Value.agg #[vI ((rd ah a0.au lJ).aA),vS ((rd ah a0.au lJ).aF),vI ((rd ah a0.au lJ).aY.aU),vB ((rd ah a0.au lJ).aY.aJ),vI ((rd ah a0.au lJ).bY),vI ((rd ah a0.au lJ).vN),vL dU ((rd ah a0.au lJ).ak).length dY]) (gG X A7 (mJ.sees HS4.sees) AH)<|rs (vL (rowA (some b2)) ((a0.au.length:Int).toNat) ((a0.au.length:Int).toNat)) (aO X) ?_
        obtain ⟨v1,H1,H⟩:=bn H
        obtain ⟨hl1,hs1,se1,Qe⟩:=zI HS4 (i:=0) rfl rJ
        refine run_eq (v:=vI v1) X X (bC Tryz.call84 X (wF X (show _=vL (rowA (some b2)) qG.length ((a0.au.length:Int).toNat) from by rw [rJ.len];exact X)) (gW.calls k (rd ah a0.au lJ) qG dU dY (rowA (some b2)) ((a0.au.length:Int).toNat) se1 (iY.ext hs1) jS Qe rJ.cap H1)) ?_
        intro w5 hE2
        have HS5:=HS4.step hE2
        refine rs (vI v1) (aG X) ?_
        try simp only [sc0,sc1]
        refine aB<|ay<|Al<|Ao<|rs (vI v1) (aO X)<|rs (vB (decide (v1>0))) (bW X X X) ?_
        try simp only [sc0,sc1]
        refine aB<|ay<|Av (t:=(decide (v1>0))) X (fun c4=>?_) (fun c4=>?_)
        ·replace H:=bU H c4
         refine Al<|Ao<|rs (vL (rowA (some b2)) ((a0.au.length:Int).toNat) ((a0.au.length:Int).toNat)) (aO X)<|rs (vI lJ) (aO X)<|rs (vI v1) (aO X)<|rs (vI (D7 v1 513)) (V3 X X)<|aK (by simp only [sc0,sc1];rfl) ?_
         obtain ⟨hi3,H⟩:=dN H
         obtain ⟨rb2,_,Jr,rfl,hp2⟩:=rJ.at 0 hi3.1 hi3.2
         refine rs (Value.pointer (some ⟨rb2,lJ.toNat*1+0,none⟩)) (lX (sz:=1) X Jr X hi3.1 hi3.2 AG As)<|CV (i:=0) (cs:=pF) (v:=vI (D7 v1 513)) Jr X X As X X HS5 X (rJ.inb hi3.1 hi3.2 (m:=1) (by decide)) ?_
         intro w6 HS6
         have ho2:=rJ.set (o:=0) (v:=vI (D7 v1 513)) (x':=(D7 v1 513)) hi3.1 hi3.2 hp2 X (Ax X)
         try simp only [sc0,sc1]
         refine aB<|ay<|Ao<|rs (vB true) (aG X) ?_
         try simp only [sc0,sc1]
         refine aB<|dD<|ay<|Ao<|rs (vI lJ) (aO X)<|rs (vI (w64 (lJ+1))) (bW X X X)<|rs (vI (w64 (lJ+1))) (aG X) ?_
         try simp only [sc0,sc1]
         refine aB<|gI m (Nat.lt_succ_self m) X ⟨true,(w64 (lJ+1)),(List.set qG lJ.toNat (D7 v1 513)),(List.set pF (lJ.toNat*1+0) (vI (D7 v1 513))),(fit X),H,ho2,HS6⟩
        ·replace H:=cO H (nt c4)
         refine AN<|dD<|ay<|Ao<|rs (vI lJ) (aO X)<|rs (vI (w64 (lJ+1))) (bW X X X)<|rs (vI (w64 (lJ+1))) (aG X) ?_
         try simp only [sc0,sc1]
         refine aB<|gI m (Nat.lt_succ_self m) X ⟨jQ,(w64 (lJ+1)),qG,pF,(fit X),H,rJ,HS5⟩
      ·replace H:=cO H (nt c2)
       refine Bx<|eU ?_
       obtain rfl:=Ab H
       refine iK X ⟨pF,(fit X),rJ,HS4⟩
    ·rintro us w7 ⟨qJ,nP,Bj,HS7⟩
     obtain ⟨uo1,rfl⟩:=unj nP
     replace H:=G2
     clear G2
     try simp only [patch,sc0,sc1]
     refine dD<|gI m (Nat.lt_succ_self m) X ⟨xx2.1,xx2.2,qJ,(fit X),H,Bj,HS7⟩
   ·replace H:=cO H (nt c1)
    refine Bx<|eU ?_
    obtain rfl:=Ab H
    refine iK X ⟨eH,(fit X),iE,HS3⟩
 ·rintro us w8 ⟨uz,NY,uD,HS8⟩
  obtain ⟨uo2,rfl⟩:=unj NY
  replace H:=G1
  clear G1
  try simp only [patch,sc0,sc1]
  refine ay<|Al<|Ao<|rs (vL (rowA (some b2)) ((a0.au.length:Int).toNat) ((a0.au.length:Int).toNat)) (aO X)<|rs (vL (rowA (some b2)) ((a0.au.length:Int).toNat) ((a0.au.length:Int).toNat)) (aG X) ?_
  try simp only [sc0,sc1]
  refine aB<|ay<|AT ?_
  obtain rfl:=Ab H
  refine Ay (bD X (bK X)) X ?_
  obtain ⟨h1,HS9,hs2,oV⟩:=lC HS8 (i:=0) rfl uD
  exact ⟨h1,(rowA (some b2)),(a0.au.length:Int).toNat,(by first|rfl|(rw [uD.len];done)|(rw [uD.len];rfl)),uD.cap,oV,HS9.gr,HS9.sees,HS9.toE⟩
def fJ.l0 (a0:aQ):Nat→Int→Int→Option ((Bool)⊕(Unit))
 |0,_,_=>none
 |m+1,aC,dG=>if (decide (dG≤(a0.au.length:Int)))=true then (if 0≤aC∧aC<a0.au.length then ((dZ.f (rd ah a0.au aC)).bind fun v1=>(if v1=true then (some (.inl true)) else (if 0≤aC∧aC<a0.au.length then (fJ.l0 a0 m ((rd ah a0.au aC).bY) (IntKind.wrap .i64 (dG+1))) else none))) else none) else (some (.inr ()))
def fJ.f (k:Nat) (a0:aQ) (a1:Int):Option (Bool):=(fJ.l0 a0 k a1 0).bind fun xx1=>(match xx1 with| .inl r=>some r| .inr s1=>some false)
theorem fJ.calls (k:Nat) (a0:aQ) (a1:Int) (bQ:Option Addr) (bT:Nat) {h0:View} {w0:World} (hv:lS h0 w0) (fK:Rd bI h0 bQ a0.au) (iF:a0.au.length≤bT) {r:Bool} (H:fJ.f k a0 a1=some r):Calls Tryz.prog 60 #[Value.agg #[vL bQ a0.au.length bT],vI a1] w0 (fun e w1=>e= .returned (vB r)∧Ext w0 w1):=by
 unfold fJ.f at H
 have HS:St [] h0 w0 h0 [] w0:=St.init hv
 go_enter Tryz.func60,Tryz.ntmps60
 refine Al<|Ao<|dF X X (eF (cs:=#[vL bQ a0.au.length bT]) X X) ?_
 rintro w1 _ hE1 ⟨b1,rfl,ge1,hb1⟩
 have HS1:=HS.new hE1 ge1 hb1
 refine rs (vB false) (aG X) ?_
 try simp only [sc0,sc1]
 refine aB<|ay<|Al<|Al<|Ao<|rs (vI 0) (aG X) ?_
 try simp only [sc0,sc1]
 refine aB<|ay ?_
 obtain ⟨xx1,H,G1⟩:=bn H
 refine jB [1,4,5,6,7,8,9,10,11,12,13,14,15,16,17,18,19,20,21,22,23,24] (fun m us w'=>∃aC dG:Int,Fit us (fun uy1=>[vI aC,(uy1 1),vI dG,(uy1 3),(uy1 4),(uy1 5),(uy1 6),(uy1 7),(uy1 8),(uy1 9),(uy1 10),(uy1 11),(uy1 12),(uy1 13),(uy1 14),(uy1 15),(uy1 16),(uy1 17),(uy1 18),(uy1 19),(uy1 20),(uy1 21)])∧fJ.l0 a0 m aC dG=some xx1∧St [] h0 w0 h0 [(some b1, .cells #[vL bQ a0.au.length bT] 24 (0,0))] w') (fun us w'=>∃(s1:Unit),xx1= .inr s1∧Fit us (fun uo1=>[(uo1 0),(uo1 1),(uo1 2),(uo1 3),(uo1 4),(uo1 5),(uo1 6),(uo1 7),(uo1 8),(uo1 9),(uo1 10),(uo1 11),(uo1 12),(uo1 13),(uo1 14),(uo1 15),(uo1 16),(uo1 17),(uo1 18),(uo1 19),(uo1 20),(uo1 21)])∧St [] h0 w0 h0 [(some b1, .cells #[vL bQ a0.au.length bT] 24 (0,0))] w') k ⟨a1,0,(fit X),H,HS1⟩ ?_ ?_
 ·rintro m us w2 ⟨aC,dG,nO,H,HS2⟩
  obtain ⟨uy1,rfl⟩:=unj nO
  cases m with
  |zero=>exact absurd H (by simp [fJ.l0])
  |succ m=>
   rw [fJ.l0] at H
   try simp only [patch,sc0,sc1]
   refine Al<|Al<|Ao<|rs (vI dG) (aO X)<|rs (vP b1 0) (aH (n:=1) (o':=0) X AE X AM (by decide) X)<|rs (vL bQ a0.au.length bT) (aN X AR (HS2.look 0 X) X)<|rs (vI (a0.au.length:Int)) (jD X AF)<|aK (by simp only [sc0,sc1];rfl) ?_
   refine rs (vB (decide (dG≤(a0.au.length:Int)))) (bW X X X) ?_
   try simp only [sc0,sc1]
   refine aB<|ay<|Av (t:=(decide (dG≤(a0.au.length:Int)))) X (fun c1=>?_) (fun c1=>?_)
   ·replace H:=bU H c1
    refine AN<|ay<|Al<|wp_block<|Al<|Al<|Ao<|rs (vP b1 0) (aH (n:=1) (o':=0) X AE X AM (by decide) X)<|rs (vL bQ a0.au.length bT) (aN X AR (HS2.look 0 X) X)<|rs (vI aC) (aO X) ?_
    obtain ⟨hi1,H⟩:=dN H
    obtain ⟨ad1,dU,dY,e1,mJ,jS,iY⟩:=gK fK hi1.1 hi1.2
    refine rs (Value.pointer (some (Addr.add ad1 (aC.toNat*7)))) (dP (sz:=7) X e1 X hi1.1 hi1.2 AF AH)<|aK (by simp only [sc0,sc1];rfl) ?_
    refine rs (Value.agg #[vI ((rd ah a0.au aC).aA),vS ((rd ah a0.au aC).aF),vI ((rd ah a0.au aC).aY.aU),vB ((rd ah a0.au aC).aY.aJ),vI ((rd ah a0.au aC).bY),vI ((rd ah a0.au aC).vN),vL dU ((rd ah a0.au aC).ak).length dY]) (gG X A7 (mJ.sees HS2.sees) AH) ?_
    obtain ⟨v1,H1,H⟩:=bn H
    refine run_eq (v:=vB v1) X X (bC Cv X X (dZ.calls (rd ah a0.au aC) dU dY HS2.sees iY jS H1)) ?_
    intro w3 hE2
    have HS3:=HS2.step hE2
    try simp only [sc0,sc1]
    refine aB<|ay<|Av (t:=v1) X (fun c2=>?_) (fun c2=>?_)
    ·replace H:=bU H c2
     refine Al<|Ao<|rs (vB true) (aG X) ?_
     try simp only [sc0,sc1]
     refine aB<|ay<|AT<|bP<|fA<|bP<|jm<|bP ?_
     obtain rfl:=Ab H
     obtain rfl:=Ab G1
     exact Ay (bD X (bK X)) X<|⟨X,HS3.toE⟩
    ·replace H:=cO H (nt c2)
     refine AN<|ay<|Ao<|rs (vP b1 0) (aH (n:=1) (o':=0) X AE X AM (by decide) X)<|rs (vL bQ a0.au.length bT) (aN X AR (HS3.look 0 X) X)<|rs (vI aC) (aO X) ?_
     obtain ⟨hi2,H⟩:=dN H
     obtain ⟨ad2,mO,mX,e2,tN,xY,vJ⟩:=gK fK hi2.1 hi2.2
     refine rs (Value.pointer (some (Addr.add ad2 (aC.toNat*7)))) (dP (sz:=7) X e2 X hi2.1 hi2.2 AF AH)<|aK (by simp only [sc0,sc1];rfl) ?_
     refine rs (Value.pointer (some (Addr.add (Addr.add ad2 (aC.toNat*7)) 4))) (nX (n:=1) (o':=4) X An X As (by decide) X)<|rs (vI ((rd ah a0.au aC).bY)) (kE X AC (tN.cell HS3.sees 4 X))<|rs (vI ((rd ah a0.au aC).bY)) (aG X) ?_
     try simp only [sc0,sc1]
     refine aB<|dD<|ay<|Ao<|rs (vI dG) (aO X)<|rs (vI (w64 (dG+1))) (bW X X X)<|rs (vI (w64 (dG+1))) (aG X) ?_
     try simp only [sc0,sc1]
     refine aB<|gI m (Nat.lt_succ_self m) X ⟨(rd ah a0.au aC).bY,(w64 (dG+1)),(fit X),H,HS3⟩
   ·replace H:=cO H (nt c1)
    refine Bx<|eU ?_
    obtain rfl:=Ab H
    refine iK X ⟨_,X,(fit X),HS2⟩
 ·rintro us w4 ⟨s1,rfl,nP,HS4⟩
  obtain ⟨uo1,rfl⟩:=unj nP
  replace H:=G1
  clear G1
  try simp only [patch,sc0,sc1]
  refine ay<|Al<|Ao<|rs (vB false) (aG X) ?_
  try simp only [sc0,sc1]
  refine aB<|ay<|AT ?_
  obtain rfl:=Ab H
  exact Ay (bD X (bK X)) X<|⟨X,HS4.toE⟩
def fD.l0 (a0:aZ) (a1:List Int):Nat→Int→Int→Option ((Bool)⊕(Int))
 |0,_,_=>none
 |m+1,aC,dG=>if (decide (dG<(a0.ak.length:Int)))=true then (if 0≤dG∧dG<a0.ak.length then (if ((decide ((rd aj a0.ak dG).vAt<aC))||(decide ((rd aj a0.ak dG).vAt>a0.vN)))=true then (some (.inl false)) else (if 0≤(rd aj a0.ak dG).vType∧(rd aj a0.ak dG).vType<a1.length then (fD.l0 a0 a1 m (IntKind.wrap .i64 ((rd aj a0.ak dG).vAt+(rd 0 a1 ((rd aj a0.ak dG).vType)))) (IntKind.wrap .i64 (dG+1))) else none)) else none) else (some (.inr aC))
def fD.f (k:Nat) (a0:aZ) (a1:List Int):Option (Bool):=(fD.l0 a0 a1 k 0 0).bind fun xx1=>(match xx1 with| .inl r=>some r| .inr s1=>some (decide (s1≤a0.vN)))
theorem fD.calls (k:Nat) (a0:aZ) (a1:List Int) (kG:Option Addr) (kH:Nat) (iM:Option Addr) (iO:Nat) {h0:View} {w0:World} (hv:lS h0 w0) (sV:Rd dw h0 kG a0.ak) (wL:a0.ak.length≤kH) (kX:Rd (Kd.int .i64) h0 iM a1) (pK:a1.length≤iO) {r:Bool} (H:fD.f k a0 a1=some r):Calls Tryz.prog 61 #[Value.agg #[vI a0.aA,vS a0.aF,vI a0.aY.aU,vB a0.aY.aJ,vI a0.bY,vI a0.vN,vL kG a0.ak.length kH],vL iM a1.length iO] w0 (fun e w1=>e= .returned (vB r)∧Ext w0 w1):=by
 unfold fD.f at H
 have HS:St [] h0 w0 h0 [] w0:=St.init hv
 go_enter Tryz.func61,Tryz.ntmps61
 refine Al<|Ao<|dF X X (eF (cs:=#[vI a0.aA,vS a0.aF,vI a0.aY.aU,vB a0.aY.aJ,vI a0.bY,vI a0.vN,vL kG a0.ak.length kH]) X X) ?_
 rintro w1 _ hE1 ⟨b1,rfl,ge1,hb1⟩
 have HS1:=HS.new hE1 ge1 hb1
 refine rs (vB false) (aG X) ?_
 try simp only [sc0,sc1]
 refine aB<|ay<|Al<|Ao<|rs (vI 0) (aG X) ?_
 try simp only [sc0,sc1]
 refine aB<|ay<|Al<|Al<|Ao<|rs (vI 0) (aG X) ?_
 try simp only [sc0,sc1]
 refine aB<|ay ?_
 obtain ⟨xx1,H,G1⟩:=bn H
 refine jB [4,5,6,7,8,9,10,11,12,13,14,15,16,17,18,19,20,21,22,23,24,25,26,27,28,29,30,31,32,33,34,35,36,37,38] (fun m us w'=>∃aC dG:Int,Fit us (fun uy1=>[(uy1 0),vI aC,vI dG,(uy1 3),(uy1 4),(uy1 5),(uy1 6),(uy1 7),(uy1 8),(uy1 9),(uy1 10),(uy1 11),(uy1 12),(uy1 13),(uy1 14),(uy1 15),(uy1 16),(uy1 17),(uy1 18),(uy1 19),(uy1 20),(uy1 21),(uy1 22),(uy1 23),(uy1 24),(uy1 25),(uy1 26),(uy1 27),(uy1 28),(uy1 29),(uy1 30),(uy1 31),(uy1 32),(uy1 33),(uy1 34)])∧fD.l0 a0 a1 m aC dG=some xx1∧St [] h0 w0 h0 [(some b1, .cells #[vI a0.aA,vS a0.aF,vI a0.aY.aU,vB a0.aY.aJ,vI a0.bY,vI a0.vN,vL kG a0.ak.length kH] 58 (0,0))] w') (fun us w'=>∃(s1:Int),xx1= .inr s1∧Fit us (fun uo1=>[(uo1 0),vI s1,(uo1 2),(uo1 3),(uo1 4),(uo1 5),(uo1 6),(uo1 7),(uo1 8),(uo1 9),(uo1 10),(uo1 11),(uo1 12),(uo1 13),(uo1 14),(uo1 15),(uo1 16),(uo1 17),(uo1 18),(uo1 19),(uo1 20),(uo1 21),(uo1 22),(uo1 23),(uo1 24),(uo1 25),(uo1 26),(uo1 27),(uo1 28),(uo1 29),(uo1 30),(uo1 31),(uo1 32),(uo1 33),(uo1 34)])∧St [] h0 w0 h0 [(some b1, .cells #[vI a0.aA,vS a0.aF,vI a0.aY.aU,vB a0.aY.aJ,vI a0.bY,vI a0.vN,vL kG a0.ak.length kH] 58 (0,0))] w') k ⟨0,0,(fit X),H,HS1⟩ ?_ ?_
 ·rintro m us w2 ⟨aC,dG,nO,H,HS2⟩
  obtain ⟨uy1,rfl⟩:=unj nO
  cases m with
  |zero=>exact absurd H (by simp [fD.l0])
  |succ m=>
   rw [fD.l0] at H
   try simp only [patch,sc0,sc1]
   refine Al<|Al<|Ao<|rs (vI dG) (aO X)<|rs (vP b1 6) (aH (n:=1) (o':=6) X An X A4 (by decide) X)<|rs (vL kG a0.ak.length kH) (aN X Bs (HS2.look 0 X) X)<|rs (vI (a0.ak.length:Int)) (jD X AK)<|aK (by simp only [sc0,sc1];rfl) ?_
   refine rs (vB (decide (dG<(a0.ak.length:Int)))) (bW X X X) ?_
   try simp only [sc0,sc1]
   refine aB<|ay<|Av (t:=(decide (dG<(a0.ak.length:Int)))) X (fun c1=>?_) (fun c1=>?_)
   ·replace H:=bU H c1
    refine AN<|ay<|Al<|wp_block<|Al<|Ao<|rs (vP b1 6) (aH (n:=1) (o':=6) X An X A4 (by decide) X)<|rs (vL kG a0.ak.length kH) (aN X Bs (HS2.look 0 X) X)<|rs (vI dG) (aO X) ?_
    obtain ⟨hi1,H⟩:=dN H
    obtain ⟨ad1,e1,mJ⟩:=ji sV hi1.1 hi1.2
    refine rs (Value.pointer (some (Addr.add ad1 (dG.toNat*3)))) (dP (sz:=3) X e1 X hi1.1 hi1.2 AK AS)<|aK (by simp only [sc0,sc1];rfl) ?_
    refine rs (Value.agg #[vS ((rd aj a0.ak dG).aF),vI ((rd aj a0.ak dG).vType),vI ((rd aj a0.ak dG).vAt)]) (gG X BC (mJ.sees HS2.sees) AS)<|dF X X (dO (cs:=#[vS ByteArray.empty,vI 0,vI 0]) Bm X) ?_
    rintro w3 _ hE2 ⟨b2,rfl,ge2,hb2⟩
    have HS3:=HS2.new hE2 ge2 hb2
    refine gJ (i:=0) (cs:=[vS ByteArray.empty,vI 0,vI 0]) (cs':=[vS ((rd aj a0.ak dG).aF),vI ((rd aj a0.ak dG).vType),vI ((rd aj a0.ak dG).vAt)]) (vs:=[vS ((rd aj a0.ak dG).aF),vI ((rd aj a0.ak dG).vType),vI ((rd aj a0.ak dG).vAt)]) (bs':=[(some b2, .cells #[vS ((rd aj a0.ak dG).aF),vI ((rd aj a0.ak dG).vType),vI ((rd aj a0.ak dG).vAt)] 48 (0,0)),(some b1, .cells #[vI a0.aA,vS a0.aF,vI a0.aY.aU,vB a0.aY.aJ,vI a0.bY,vI a0.vN,vL kG a0.ak.length kH] 58 (0,0))]) X X AS X X (by decide) X HS3 X (Ax X) X X ?_
    intro w4 HS4
    try simp only [sc0,sc1]
    refine aB<|ay<|Al<|Al<|Ao<|rs (vP b2 2) (aH (n:=1) (o':=2) X AJ X As (by decide) X)<|rs (vI ((rd aj a0.ak dG).vAt)) (aN X AC (HS4.look 0 X) X)<|rs (vI aC) (aO X)<|rs (vB (decide ((rd aj a0.ak dG).vAt<aC))) (bW X X X)<|aK (by simp only [sc0,sc1];rfl) ?_
    refine rs (vB (decide ((rd aj a0.ak dG).vAt<aC))) (aO X)<|rgs (decide ((rd aj a0.ak dG).vAt<aC)) true (vP b2 2) X X X X (fun hg=>(aH (n:=1) (o':=2) X AJ X As (by decide) X))<|rgs (decide ((rd aj a0.ak dG).vAt<aC)) true (vI ((rd aj a0.ak dG).vAt)) X X X X (fun hg=>(aN (gvt (vP b2 2) hg X) AC (HS4.look 0 X) X))<|rgs (decide ((rd aj a0.ak dG).vAt<aC)) true (vP b1 5) X X X X (fun hg=>(aH (n:=1) (o':=5) X An X As (by decide) X))<|aK (by simp only [sc0,sc1];rfl) ?_
    refine rgs (decide ((rd aj a0.ak dG).vAt<aC)) true (vI a0.vN) X X X X (fun hg=>(aN (gvt (vP b1 5) hg X) AC (HS4.look 1 X) X))<|rgs (decide ((rd aj a0.ak dG).vAt<aC)) true (vB (decide ((rd aj a0.ak dG).vAt>a0.vN))) X X X X (fun hg=>(bW (gvt (vI ((rd aj a0.ak dG).vAt)) hg X) (gvt (vI a0.vN) hg X) X))<|rs (vB ((decide ((rd aj a0.ak dG).vAt<aC))||(decide ((rd aj a0.ak dG).vAt>a0.vN)))) (dQ X X (fun hp=>(gvt (vB (decide ((rd aj a0.ak dG).vAt>a0.vN))) (gQ X hp) X))) ?_
    try simp only [sc0,sc1]
    refine aB<|ay<|Av (t:=((decide ((rd aj a0.ak dG).vAt<aC))||(decide ((rd aj a0.ak dG).vAt>a0.vN)))) X (fun c2=>?_) (fun c2=>?_)
    ·replace H:=bU H c2
     refine Al<|Ao<|rs (vB false) (aG X) ?_
     try simp only [sc0,sc1]
     refine aB<|ay<|AT<|bP<|fA<|bP<|jm<|bP ?_
     obtain rfl:=Ab H
     obtain rfl:=Ab G1
     exact Ay (bD X (bK X)) X<|⟨X,HS4.toE⟩
    ·replace H:=cO H (nt c2)
     refine AN<|ay ?_
     obtain ⟨hi2,H⟩:=dN H
     obtain ⟨ad2,e2,tN⟩:=qY kX hi2.1 hi2.2
     refine drawn [.eq (vP b2 2), .eq (vI ((rd aj a0.ak dG).vAt)), .eq (vL iM a1.length iO), .eq (vP b2 1), .eq (vI ((rd aj a0.ak dG).vType)), .eq (Value.pointer (some (Addr.add ad2 (((rd aj a0.ak dG).vType).toNat*1)))), .eq (vI (rd 0 a1 ((rd aj a0.ak dG).vType))), .eq (vI (w64 ((rd aj a0.ak dG).vAt+(rd 0 a1 ((rd aj a0.ak dG).vType)))))] [31,32,33,34,35,36,37,38] rM (by kernel_rfl) X (aP (aP (aP (aP (aP (aP (aP (aP iJ)))))))) ⟨aX X (fun a' w' hE hk=>by exact aW (aH (n:=1) (o':=2) (show _=vP b2 0 from hk 7 X) AJ X As (by decide) X)),aX X (fun a' w' hE hk=>by exact aW (aN (show _=vP b2 2 from hk 31 X) AC ((HS4.step hE).look 0 X) X)),aX X (fun a' w' hE hk=>by exact aW (aO (show _=vL iM a1.length iO from hk 1 X))),aX X (fun a' w' hE hk=>by exact aW (aH (n:=1) (o':=1) (show _=vP b2 0 from hk 7 X) AJ X As (by decide) X)),aX X (fun a' w' hE hk=>by exact aW (aN (show _=vP b2 1 from hk 34 X) AC ((HS4.step hE).look 0 X) X)),aX X (fun a' w' hE hk=>by exact aW (dP (sz:=1) (show _=vL iM a1.length iO from hk 33 X) e2 (show _=vI ((rd aj a0.ak dG).vType) from hk 35 X) hi2.1 hi2.2 AG As)),aX X (fun a' w' hE hk=>by exact aW (kE (show _=Value.pointer (some (Addr.add ad2 (((rd aj a0.ak dG).vType).toNat*1))) from hk 36 X) AC (tN.cell0 (HS4.step hE).sees X))),aX X (fun a' w' hE hk=>by exact aW (bW (show _=vI ((rd aj a0.ak dG).vAt) from hk 32 X) (show _=vI (rd 0 a1 ((rd aj a0.ak dG).vType)) from hk 37 X) X)),trivial⟩ ?_
     intro w5 hE3
     simp only [List.zip_cons_cons,List.zip_nil_left,List.zip_nil_right,vO,sc0,sc1,List.length_cons,List.length_nil,List.drop_succ_cons,List.drop_zero,Nat.zero_add,Nat.reduceAdd]
     have HS5:=HS4.step hE3
     refine rs (vI (w64 ((rd aj a0.ak dG).vAt+(rd 0 a1 ((rd aj a0.ak dG).vType))))) (aG X) ?_
     try simp only [sc0,sc1]
     refine aB<|dD<|ay<|Ao<|rs (vI dG) (aO X)<|rs (vI (w64 (dG+1))) (bW X X X)<|rs (vI (w64 (dG+1))) (aG X) ?_
     try simp only [sc0,sc1]
     refine aB<|gI m (Nat.lt_succ_self m) X ⟨(w64 ((rd aj a0.ak dG).vAt+(rd 0 a1 ((rd aj a0.ak dG).vType)))),(w64 (dG+1)),(fit X),H,HS5.tail⟩
   ·replace H:=cO H (nt c1)
    refine Bx<|eU ?_
    obtain rfl:=Ab H
    refine iK X ⟨_,X,(fit X),HS2⟩
 ·rintro us w6 ⟨s1,rfl,nP,HS6⟩
  obtain ⟨uo1,rfl⟩:=unj nP
  replace H:=G1
  clear G1
  try simp only [patch,sc0,sc1]
  refine ay<|Al<|Ao<|rs (vI s1) (aO X)<|rs (vP b1 5) (aH (n:=1) (o':=5) X An X As (by decide) X)<|rs (vI a0.vN) (aN X AC (HS6.look 0 X) X)<|rs (vB (decide (s1≤a0.vN))) (bW X X X)<|aK (by simp only [sc0,sc1];rfl) ?_
  refine rs (vB (decide (s1≤a0.vN))) (aG X) ?_
  try simp only [sc0,sc1]
  refine aB<|ay<|AT ?_
  obtain rfl:=Ab H
  exact Ay (bD X (bK X)) X<|⟨X,HS6.toE⟩
def aS.l1 (a0:aQ) (aC:Int):Nat→Int→Option ((Int)⊕(Unit))
 |0,_=>none
 |m+1,jQ=>if (decide (jQ<aC))=true then (if 0≤aC∧aC<a0.au.length then ((dZ.f (rd ah a0.au aC)).bind fun v2=>(if (true&&(v2==true))=true→(0≤jQ∧jQ<a0.au.length) then (if (true&&(v2==true))=true→(0≤aC∧aC<a0.au.length) then (if (v2&&(strEq ((rd ah a0.au jQ).aF) ((rd ah a0.au aC).aF)))=true then (some (.inl 80)) else (aS.l1 a0 aC m (IntKind.wrap .i64 (jQ+1)))) else none) else none)) else none) else (some (.inr ()))
def aS.l0 (k:Nat) (a0:aQ):Nat→Int→Option ((Int)⊕(Unit))
 |0,_=>none
 |m+1,aC=>if (decide (aC<(a0.au.length:Int)))=true then (if 0≤aC∧aC<a0.au.length then ((fZ.f k a0 (rd ah a0.au aC)).bind fun v1=>(if (!v1)=true then (some (.inl 80)) else ((aS.l1 a0 aC k 0).bind fun xx2=>(match xx2 with| .inl r=>some (.inl r)| .inr s1=>aS.l0 k a0 m (IntKind.wrap .i64 (aC+1)))))) else none) else (some (.inr ()))
def aS.l2 (k:Nat) (a0:aQ) (v3:(List Int)):Nat→Int→Option ((Int)⊕(Unit))
 |0,_=>none
 |m+1,gX=>if (decide (gX<(a0.au.length:Int)))=true then (if 0≤gX∧gX<v3.length then (if (true&&(((rd 0 v3 gX)==0)==false))=true→(0≤gX∧gX<v3.length) then ((if (true&&((((rd 0 v3 gX)==0)||(decide ((rd 0 v3 gX)>512)))==false))=true then fJ.f k a0 gX else some false).bind fun v4=>(if ((((rd 0 v3 gX)==0)||(decide ((rd 0 v3 gX)>512)))||(!v4))=true then (some (.inl 80)) else (if 0≤gX∧gX<a0.au.length then (if (true&&(((rd ah a0.au gX).aA==4)==true))=true→(0≤gX∧gX<a0.au.length) then ((if (true&&(((rd ah a0.au gX).aA==4)==true))=true then fD.f k (rd ah a0.au gX) v3 else some false).bind fun v5=>(if (((rd ah a0.au gX).aA==4)&&(!v5))=true then (some (.inl 80)) else (aS.l2 k a0 v3 m (IntKind.wrap .i64 (gX+1))))) else none) else none))) else none) else none) else (some (.inr ()))
def aS.f (k:Nat) (a0:aQ):Option (Int):=if (decide ((a0.au.length:Int)>200))=true then (some 80) else ((aS.l0 k a0 k 0).bind fun xx1=>(match xx1 with| .inl r=>some r| .inr s2=>(bV.f k a0).bind fun v3=>((aS.l2 k a0 v3 k 0).bind fun xx3=>(match xx3 with| .inl r=>some r| .inr s3=>some 0))))
theorem aS.calls (k:Nat) (a0:aQ) (bQ:Option Addr) (bT:Nat) {h0:View} {w0:World} (hv:lS h0 w0) (fK:Rd bI h0 bQ a0.au) (iF:a0.au.length≤bT) {r:Int} (H:aS.f k a0=some r):Calls Tryz.prog 29 #[Value.agg #[vL bQ a0.au.length bT]] w0 (fun e w1=>e= .returned (vI r)∧Ext w0 w1):=by
 unfold aS.f at H
 have HS:St [] h0 w0 h0 [] w0:=St.init hv
 go_enter Tryz.func29,Tryz.ntmps29
 refine Al<|Ao<|dF X X (eF (cs:=#[vL bQ a0.au.length bT]) X X) ?_
 rintro w1 _ hE1 ⟨b1,rfl,ge1,hb1⟩
 have HS1:=HS.new hE1 ge1 hb1
 refine rs (vI 0) (aG X) ?_
 try simp only [sc0,sc1]
 refine aB<|ay<|Al<|Al<|Ao<|rs (vP b1 0) (aH (n:=1) (o':=0) X AE X AM (by decide) X)<|rs (vL bQ a0.au.length bT) (aN X AR (HS1.look 0 X) X)<|rs (vI (a0.au.length:Int)) (jD X AF)<|rs (vB (decide ((a0.au.length:Int)>200))) (bW X X X) ?_
 try simp only [sc0,sc1]
 refine aB<|ay<|Av (t:=(decide ((a0.au.length:Int)>200))) X (fun c1=>?_) (fun c1=>?_)
 ·replace H:=bU H c1
  refine Al<|Ao<|rs (vI 80) (aG X) ?_
  try simp only [sc0,sc1]
  refine aB<|ay<|AT<|bP ?_
  obtain rfl:=Ab H
  exact Ay (bD X (bK X)) X<|⟨X,HS1.toE⟩
 ·replace H:=cO H (nt c1)
  refine AN<|ay<|Al<|Al<|Ao<|rs (vI 0) (aG X) ?_
  try simp only [sc0,sc1]
  refine aB<|ay ?_
  obtain ⟨xx1,H,G1⟩:=bn H
  refine jB [2,3,4,11,12,13,14,15,16,17,18,19,20,21,22,23,24,25,26,27,28,29,30,31,32,33,34,35,36,37,38,39,40,41,42,43,44,45,46,47,48,49,50,51] (fun m us w'=>∃(aC:Int),Fit us (fun uy1=>[(uy1 0),vI aC,(uy1 2),(uy1 3),(uy1 4),(uy1 5),(uy1 6),(uy1 7),(uy1 8),(uy1 9),(uy1 10),(uy1 11),(uy1 12),(uy1 13),(uy1 14),(uy1 15),(uy1 16),(uy1 17),(uy1 18),(uy1 19),(uy1 20),(uy1 21),(uy1 22),(uy1 23),(uy1 24),(uy1 25),(uy1 26),(uy1 27),(uy1 28),(uy1 29),(uy1 30),(uy1 31),(uy1 32),(uy1 33),(uy1 34),(uy1 35),(uy1 36),(uy1 37),(uy1 38),(uy1 39),(uy1 40),(uy1 41),(uy1 42),(uy1 43)])∧aS.l0 k a0 m aC=some xx1∧St [] h0 w0 h0 [(some b1, .cells #[vL bQ a0.au.length bT] 24 (0,0))] w') (fun us w'=>∃(s2:Unit),xx1= .inr s2∧Fit us (fun uo2=>[(uo2 0),(uo2 1),(uo2 2),(uo2 3),(uo2 4),(uo2 5),(uo2 6),(uo2 7),(uo2 8),(uo2 9),(uo2 10),(uo2 11),(uo2 12),(uo2 13),(uo2 14),(uo2 15),(uo2 16),(uo2 17),(uo2 18),(uo2 19),(uo2 20),(uo2 21),(uo2 22),(uo2 23),(uo2 24),(uo2 25),(uo2 26),(uo2 27),(uo2 28),(uo2 29),(uo2 30),(uo2 31),(uo2 32),(uo2 33),(uo2 34),(uo2 35),(uo2 36),(uo2 37),(uo2 38),(uo2 39),(uo2 40),(uo2 41),(uo2 42),(uo2 43)])∧St [] h0 w0 h0 [(some b1, .cells #[vL bQ a0.au.length bT] 24 (0,0))] w') k ⟨0,(fit X),H,HS1⟩ ?_ ?_
  ·rintro m us w2 ⟨aC,nO,H,HS2⟩
   obtain ⟨uy1,rfl⟩:=unj nO
   cases m with
   |zero=>exact absurd H (by simp [aS.l0])
   |succ m=>
    rw [aS.l0] at H
    try simp only [patch,sc0,sc1]
    refine Al<|Al<|Ao<|rs (vI aC) (aO X)<|rs (vP b1 0) (aH (n:=1) (o':=0) X AE X AM (by decide) X)<|rs (vL bQ a0.au.length bT) (aN X AR (HS2.look 0 X) X)<|rs (vI (a0.au.length:Int)) (jD X AF)<|aK (by simp only [sc0,sc1];rfl) ?_
    refine rs (vB (decide (aC<(a0.au.length:Int)))) (bW X X X) ?_
    try simp only [sc0,sc1]
    refine aB<|ay<|Av (t:=(decide (aC<(a0.au.length:Int)))) X (fun c2=>?_) (fun c2=>?_)
    ·replace H:=bU H c2
     refine AN<|ay<|Al<|wp_block<|Al<|Al ?_
     obtain ⟨hi1,H⟩:=dN H
     obtain ⟨ad1,dU,dY,e1,mJ,jS,iY⟩:=gK fK hi1.1 hi1.2
     obtain ⟨v1,H1,H⟩:=bn H
     refine drawn [.eq (Value.agg #[vL bQ a0.au.length bT]), .eq (vP b1 0), .eq (vL bQ a0.au.length bT), .eq (vI aC), .eq (Value.pointer (some (Addr.add ad1 (aC.toNat*7)))), .eq (Value.agg #[vI ((rd ah a0.au aC).aA),vS ((rd ah a0.au aC).aF),vI ((rd ah a0.au aC).aY.aU),vB ((rd ah a0.au aC).aY.aJ),vI ((rd ah a0.au aC).bY),vI ((rd ah a0.au aC).vN),vL dU ((rd ah a0.au aC).ak).length dY]), .eq (vB v1), .eq (vB (!v1))] [18,19,20,21,22,23,24,25] rM (by kernel_rfl) X (aP (aP (aP (aP (aP (aP (aP (aP iJ)))))))) ⟨aX X (fun a' w' hE hk=>by exact aW (aT (n:=1) (vs:=[vL bQ a0.au.length bT]) (show _=vP b1 0 from hk 1 X) AI ((HS2.step hE).look 0 X) AD X X)),aX X (fun a' w' hE hk=>by exact aW (aH (n:=1) (o':=0) (show _=vP b1 0 from hk 1 X) AE X AM (by decide) X)),aX X (fun a' w' hE hk=>by exact aW (aN (show _=vP b1 0 from hk 19 X) AR ((HS2.step hE).look 0 X) X)),aX X (fun a' w' hE hk=>by exact aW (aO (show _=vI aC from hk 3 X))),aX X (fun a' w' hE hk=>by exact aW (dP (sz:=7) (show _=vL bQ a0.au.length bT from hk 20 X) e1 (show _=vI aC from hk 21 X) hi1.1 hi1.2 AF AH)),aX X (fun a' w' hE hk=>by exact aW (gG (show _=Value.pointer (some (Addr.add ad1 (aC.toNat*7))) from hk 22 X) A7 (mJ.sees (HS2.step hE).sees) AH)),aX X (fun a' w' hE hk=>by exact (bC Tryz.call58 X (wF (show _=Value.agg #[vL bQ a0.au.length bT] from hk 18 X) (show _=Value.agg #[vI ((rd ah a0.au aC).aA),vS ((rd ah a0.au aC).aF),vI ((rd ah a0.au aC).aY.aU),vB ((rd ah a0.au aC).aY.aJ),vI ((rd ah a0.au aC).bY),vI ((rd ah a0.au aC).vN),vL dU ((rd ah a0.au aC).ak).length dY] from hk 23 X)) (fZ.calls k a0 (rd ah a0.au aC) bQ bT dU dY (HS2.step hE).sees fK iF iY jS H1))),aX X (fun a' w' hE hk=>by exact aW (mZ (show _=vB v1 from hk 24 X))),trivial⟩ ?_
     intro w3 hE2
     simp only [List.zip_cons_cons,List.zip_nil_left,List.zip_nil_right,vO,sc0,sc1,List.length_cons,List.length_nil,List.drop_succ_cons,List.drop_zero,Nat.zero_add,Nat.reduceAdd]
     have HS3:=HS2.step hE2
     refine aB<|ay<|Av (t:=(!v1)) X (fun c3=>?_) (fun c3=>?_)
     ·replace H:=bU H c3
      refine Al<|Ao<|rs (vI 80) (aG X) ?_
      try simp only [sc0,sc1]
      refine aB<|ay<|AT<|bP<|fA<|bP<|jm<|bP ?_
      obtain rfl:=Ab H
      obtain rfl:=Ab G1
      exact Ay (bD X (bK X)) X<|⟨X,HS3.toE⟩
     ·replace H:=cO H (nt c3)
      refine AN<|ay<|Al<|Ao<|rs (vI 0) (aG X) ?_
      try simp only [sc0,sc1]
      refine aB<|ay ?_
      obtain ⟨xx2,H,G2⟩:=bn H
      refine jB [2,4,26,27,28,29,30,31,32,33,34,35,36,37,38,39,40,41,42,43,44,45,46,47,48,49,50,51] (fun m us w'=>∃(jQ:Int),Fit us (fun uy2=>[(uy2 0),vI jQ,(uy2 2),(uy2 3),(uy2 4),(uy2 5),(uy2 6),(uy2 7),(uy2 8),(uy2 9),(uy2 10),(uy2 11),(uy2 12),(uy2 13),(uy2 14),(uy2 15),(uy2 16),(uy2 17),(uy2 18),(uy2 19),(uy2 20),(uy2 21),(uy2 22),(uy2 23),(uy2 24),(uy2 25),(uy2 26),(uy2 27)])∧aS.l1 a0 aC m jQ=some xx2∧St [] h0 w0 h0 [(some b1, .cells #[vL bQ a0.au.length bT] 24 (0,0))] w') (fun us w'=>∃(s1:Unit),xx2= .inr s1∧Fit us (fun uo1=>[(uo1 0),(uo1 1),(uo1 2),(uo1 3),(uo1 4),(uo1 5),(uo1 6),(uo1 7),(uo1 8),(uo1 9),(uo1 10),(uo1 11),(uo1 12),(uo1 13),(uo1 14),(uo1 15),(uo1 16),(uo1 17),(uo1 18),(uo1 19),(uo1 20),(uo1 21),(uo1 22),(uo1 23),(uo1 24),(uo1 25),(uo1 26),(uo1 27)])∧St [] h0 w0 h0 [(some b1, .cells #[vL bQ a0.au.length bT] 24 (0,0))] w') k ⟨0,(fit X),H,HS3⟩ ?_ ?_
      ·rintro m us w4 ⟨jQ,NW,H,HS4⟩
       obtain ⟨uy2,rfl⟩:=unj NW
       cases m with
       |zero=>exact absurd H (by simp [aS.l1])
       |succ m=>
        rw [aS.l1] at H
        try simp only [patch,sc0,sc1]
        refine Al<|Al<|Ao<|rs (vI jQ) (aO X)<|rs (vI aC) (aO X)<|rs (vB (decide (jQ<aC))) (bW X X X) ?_
        try simp only [sc0,sc1]
        refine aB<|ay<|Av (t:=(decide (jQ<aC))) X (fun c4=>?_) (fun c4=>?_)
        ·replace H:=bU H c4
         refine AN<|ay<|Al<|wp_block<|Al ?_
         obtain ⟨hi2,H⟩:=dN H
         obtain ⟨ad2,mO,mX,e2,tN,xY,vJ⟩:=gK fK hi2.1 hi2.2
         obtain ⟨v2,H2,H⟩:=bn H
         obtain ⟨hi3,H⟩:=dN H
         obtain ⟨ad3,Dy,Ew,hq1⟩:=gx3 (fun hC:(true&&(v2==true))=true=>gK fK (hi3 hC).1 (hi3 hC).2)
         obtain ⟨hi4,H⟩:=dN H
         obtain ⟨ad4,yA,y5,hq2⟩:=gx3 (fun hC:(true&&(v2==true))=true=>gK fK (hi4 hC).1 (hi4 hC).2)
         refine drawn [.eq (vP b1 0), .eq (vL bQ a0.au.length bT), .eq (vI aC), .eq (Value.pointer (some (Addr.add ad2 (aC.toNat*7)))), .eq (Value.agg #[vI ((rd ah a0.au aC).aA),vS ((rd ah a0.au aC).aF),vI ((rd ah a0.au aC).aY.aU),vB ((rd ah a0.au aC).aY.aJ),vI ((rd ah a0.au aC).bY),vI ((rd ah a0.au aC).vN),vL mO ((rd ah a0.au aC).ak).length mX]), .eq (vB v2), .eq (vB v2), .eq (gv (true&&(v2==true)) (vP b1 0)), .eq (gv (true&&(v2==true)) (vL bQ a0.au.length bT)), .eq (gv (true&&(v2==true)) (vI jQ)), .eq (gv (true&&(v2==true)) (Value.pointer (some (Addr.add ad3 (jQ.toNat*7))))), .eq (gv (true&&(v2==true)) (Value.pointer (some (Addr.add (Addr.add ad3 (jQ.toNat*7)) 1)))), .eq (gv (true&&(v2==true)) (vS ((rd ah a0.au jQ).aF))), .eq (gv (true&&(v2==true)) (vP b1 0)), .eq (gv (true&&(v2==true)) (vL bQ a0.au.length bT)), .eq (gv (true&&(v2==true)) (vI aC)), .eq (gv (true&&(v2==true)) (Value.pointer (some (Addr.add ad4 (aC.toNat*7))))), .eq (gv (true&&(v2==true)) (Value.pointer (some (Addr.add (Addr.add ad4 (aC.toNat*7)) 1)))), .eq (gv (true&&(v2==true)) (vS ((rd ah a0.au aC).aF))), .eq (gv (true&&(v2==true)) (vB (strEq ((rd ah a0.au jQ).aF) ((rd ah a0.au aC).aF)))), .eq (vB (v2&&(strEq ((rd ah a0.au jQ).aF) ((rd ah a0.au aC).aF))))] [31,32,33,34,35,36,37,38,39,40,41,42,43,44,45,46,47,48,49,50,51] rM (by kernel_rfl) X (aP (aP (aP (aP (aP (aP (aP (aP (aP (aP (aP (aP (aP (aP (aP (aP (aP (aP (aP (aP (aP iJ))))))))))))))))))))) ⟨aX X (fun a' w' hE hk=>by exact aW (aH (n:=1) (o':=0) (show _=vP b1 0 from hk 1 X) AE X AM (by decide) X)),aX X (fun a' w' hE hk=>by exact aW (aN (show _=vP b1 0 from hk 31 X) AR ((HS4.step hE).look 0 X) X)),aX X (fun a' w' hE hk=>by exact aW (aO (show _=vI aC from hk 3 X))),aX X (fun a' w' hE hk=>by exact aW (dP (sz:=7) (show _=vL bQ a0.au.length bT from hk 32 X) e2 (show _=vI aC from hk 33 X) hi2.1 hi2.2 AF AH)),aX X (fun a' w' hE hk=>by exact aW (gG (show _=Value.pointer (some (Addr.add ad2 (aC.toNat*7))) from hk 34 X) A7 (tN.sees (HS4.step hE).sees) AH)),aX X (fun a' w' hE hk=>by exact (bC Cv X (Jk (show _=Value.agg #[vI ((rd ah a0.au aC).aA),vS ((rd ah a0.au aC).aF),vI ((rd ah a0.au aC).aY.aU),vB ((rd ah a0.au aC).aY.aJ),vI ((rd ah a0.au aC).bY),vI ((rd ah a0.au aC).vN),vL mO ((rd ah a0.au aC).ak).length mX] from hk 35 X)) (dZ.calls (rd ah a0.au aC) mO mX (HS4.step hE).sees vJ xY H2))),aX X (fun a' w' hE hk=>by exact aW (aO (show _=vB v2 from hk 36 X))),dA (b:=v2) (c:=true) X X (by decide) (fun w' u hu=>hu) (fun a' w' hE hk hg=>by exact aW (aH (n:=1) (o':=0) (show _=vP b1 0 from hk 1 X) AE X AM (by decide) X)),dA (b:=v2) (c:=true) X X (by decide) (fun w' u hu=>hu) (fun a' w' hE hk hg=>by exact aW (aN ((show _=gv (true&&(v2==true)) (vP b1 0) from (show _=gv (true&&(v2==true)) (vP b1 0) from hk 38 X)).trans (lW hg)) AR ((HS4.step hE).look 0 X) X)),dA (b:=v2) (c:=true) X X (by decide) (fun w' u hu=>hu) (fun a' w' hE hk hg=>by exact aW (aO (show _=vI jQ from hk 4 X))),dA (b:=v2) (c:=true) X X (by decide) (fun w' u hu=>hu) (fun a' w' hE hk hg=>by exact aW (dP (sz:=7) ((show _=gv (true&&(v2==true)) (vL bQ a0.au.length bT) from (show _=gv (true&&(v2==true)) (vL bQ a0.au.length bT) from hk 39 X)).trans (lW hg)) (hq1 hg).1 ((show _=gv (true&&(v2==true)) (vI jQ) from (show _=gv (true&&(v2==true)) (vI jQ) from hk 40 X)).trans (lW hg)) (hi3 hg).1 (hi3 hg).2 AF AH)),dA (b:=v2) (c:=true) X X (by decide) (fun w' u hu=>hu) (fun a' w' hE hk hg=>by exact aW (nX (n:=1) (o':=1) ((show _=gv (true&&(v2==true)) (Value.pointer (some (Addr.add ad3 (jQ.toNat*7)))) from (show _=gv (true&&(v2==true)) (Value.pointer (some (Addr.add ad3 (jQ.toNat*7)))) from hk 41 X)).trans (lW hg)) An X AW (by decide) X)),dA (b:=v2) (c:=true) X X (by decide) (fun w' u hu=>hu) (fun a' w' hE hk hg=>by exact aW (kE ((show _=gv (true&&(v2==true)) (Value.pointer (some (Addr.add (Addr.add ad3 (jQ.toNat*7)) 1))) from (show _=gv (true&&(v2==true)) (Value.pointer (some (Addr.add (Addr.add ad3 (jQ.toNat*7)) 1))) from hk 42 X)).trans (lW hg)) Be (((hq1 hg).2.1).cell (HS4.step hE).sees 1 X))),dA (b:=v2) (c:=true) X X (by decide) (fun w' u hu=>hu) (fun a' w' hE hk hg=>by exact aW (aH (n:=1) (o':=0) (show _=vP b1 0 from hk 1 X) AE X AM (by decide) X)),dA (b:=v2) (c:=true) X X (by decide) (fun w' u hu=>hu) (fun a' w' hE hk hg=>by exact aW (aN ((show _=gv (true&&(v2==true)) (vP b1 0) from (show _=gv (true&&(v2==true)) (vP b1 0) from hk 44 X)).trans (lW hg)) AR ((HS4.step hE).look 0 X) X)),dA (b:=v2) (c:=true) X X (by decide) (fun w' u hu=>hu) (fun a' w' hE hk hg=>by exact aW (aO (show _=vI aC from hk 3 X))),dA (b:=v2) (c:=true) X X (by decide) (fun w' u hu=>hu) (fun a' w' hE hk hg=>by exact aW (dP (sz:=7) ((show _=gv (true&&(v2==true)) (vL bQ a0.au.length bT) from (show _=gv (true&&(v2==true)) (vL bQ a0.au.length bT) from hk 45 X)).trans (lW hg)) (hq2 hg).1 ((show _=gv (true&&(v2==true)) (vI aC) from (show _=gv (true&&(v2==true)) (vI aC) from hk 46 X)).trans (lW hg)) (hi4 hg).1 (hi4 hg).2 AF AH)),dA (b:=v2) (c:=true) X X (by decide) (fun w' u hu=>hu) (fun a' w' hE hk hg=>by exact aW (nX (n:=1) (o':=1) ((show _=gv (true&&(v2==true)) (Value.pointer (some (Addr.add ad4 (aC.toNat*7)))) from (show _=gv (true&&(v2==true)) (Value.pointer (some (Addr.add ad4 (aC.toNat*7)))) from hk 47 X)).trans (lW hg)) An X AW (by decide) X)),dA (b:=v2) (c:=true) X X (by decide) (fun w' u hu=>hu) (fun a' w' hE hk hg=>by exact aW (kE ((show _=gv (true&&(v2==true)) (Value.pointer (some (Addr.add (Addr.add ad4 (aC.toNat*7)) 1))) from (show _=gv (true&&(v2==true)) (Value.pointer (some (Addr.add (Addr.add ad4 (aC.toNat*7)) 1))) from hk 48 X)).trans (lW hg)) Be (((hq2 hg).2.1).cell (HS4.step hE).sees 1 X))),dA (b:=v2) (c:=true) X X (by decide) (fun w' u hu=>hu) (fun a' w' hE hk hg=>by exact aW (sG ((show _=gv (true&&(v2==true)) (vS ((rd ah a0.au jQ).aF)) from (show _=gv (true&&(v2==true)) (vS ((rd ah a0.au jQ).aF)) from hk 43 X)).trans (lW hg)) ((show _=gv (true&&(v2==true)) (vS ((rd ah a0.au aC).aF)) from (show _=gv (true&&(v2==true)) (vS ((rd ah a0.au aC).aF)) from hk 49 X)).trans (lW hg)))),aX X (fun a' w' hE hk=>by exact aW (dL (show _=vB v2 from hk 37 X) (fun hp=>((show _=gv (true&&(v2==true)) (vB (strEq ((rd ah a0.au jQ).aF) ((rd ah a0.au aC).aF))) from (show _=gv (true&&(v2==true)) (vB (strEq ((rd ah a0.au jQ).aF) ((rd ah a0.au aC).aF))) from hk 50 X)).trans (lW (gQ X hp)))) X)),trivial⟩ ?_
         intro w5 hE3
         simp only [List.zip_cons_cons,List.zip_nil_left,List.zip_nil_right,vO,sc0,sc1,List.length_cons,List.length_nil,List.drop_succ_cons,List.drop_zero,Nat.zero_add,Nat.reduceAdd]
         have HS5:=HS4.step hE3
         refine aB<|ay<|Av (t:=(v2&&(strEq ((rd ah a0.au jQ).aF) ((rd ah a0.au aC).aF)))) X (fun c5=>?_) (fun c5=>?_)
         ·replace H:=bU H c5
          refine Al<|Ao<|rs (vI 80) (aG X) ?_
          try simp only [sc0,sc1]
          refine aB<|ay<|AT<|fA<|bP<|jm<|fA<|bP<|jm<|bP ?_
          obtain rfl:=Ab H
          obtain rfl:=Ab G2
          obtain rfl:=Ab G1
          exact Ay (bD X (bK X)) X<|⟨X,HS5.toE⟩
         ·replace H:=cO H (nt c5)
          refine AN<|dD<|ay<|Ao<|rs (vI jQ) (aO X)<|rs (vI (w64 (jQ+1))) (bW X X X)<|rs (vI (w64 (jQ+1))) (aG X) ?_
          try simp only [sc0,sc1]
          refine aB<|gI m (Nat.lt_succ_self m) X ⟨(w64 (jQ+1)),(fit X),H,HS5⟩
        ·replace H:=cO H (nt c4)
         refine Bx<|eU ?_
         obtain rfl:=Ab H
         refine iK X ⟨_,X,(fit X),HS4⟩
      ·rintro us w6 ⟨s1,rfl,nP,HS6⟩
       obtain ⟨uo1,rfl⟩:=unj nP
       replace H:=G2
       clear G2
       try simp only [patch,sc0,sc1]
       refine dD<|ay<|Ao<|rs (vI aC) (aO X)<|rs (vI (w64 (aC+1))) (bW X X X)<|rs (vI (w64 (aC+1))) (aG X) ?_
       try simp only [sc0,sc1]
       refine aB<|gI m (Nat.lt_succ_self m) X ⟨(w64 (aC+1)),(fit X),H,HS6⟩
    ·replace H:=cO H (nt c2)
     refine Bx<|eU ?_
     obtain rfl:=Ab H
     refine iK X ⟨_,X,(fit X),HS2⟩
  ·rintro us w7 ⟨s2,rfl,NY,HS7⟩
   obtain ⟨uo2,rfl⟩:=unj NY
   replace H:=G1
   clear G1
   try simp only [patch,sc0,sc1]
   refine ay<|Al<|Ao<|rs (Value.agg #[vL bQ a0.au.length bT]) (aT (n:=1) (vs:=[vL bQ a0.au.length bT]) X AI (HS7.look 0 X) AD X X) ?_
   obtain ⟨v3,H3,H⟩:=bn H
   refine dF X X (iQ Tryz.call59 X (jX (h:=h0) (R:=(fun hx u=>∃(fQ:Option Addr) (gY:Nat),u=vL fQ v3.length gY∧v3.length≤gY∧Rd (Kd.int .i64) hx fQ v3)) (Ext.rfl' w7) ((bV.calls k a0 bQ bT HS7.sees fK iF H3).mono ?_)) X) ?_
   ·rintro _ _ ⟨h1,fQ,gY,rfl,nJ,iy,g,ss,x⟩
    exact ⟨h1,_,X,⟨fQ,gY,X,nJ,iy⟩,g,ss,x⟩
   rintro w8 _ hE4 ⟨h1,⟨fQ,gY,rfl,nJ,iy⟩,gr1,se1⟩
   have HS8:=HS7.view hE4 gr1 se1
   refine rs (vL fQ v3.length gY) (aG X) ?_
   try simp only [sc0,sc1]
   refine aB<|ay<|Al<|Al<|Ao<|rs (vI 0) (aG X) ?_
   try simp only [sc0,sc1]
   refine aB<|ay ?_
   obtain ⟨xx3,H,G3⟩:=bn H
   refine jB [2,6,54,55,56,57,58,59,60,61,62,63,64,65,66,67,68,69,70,71,72,73,74,75,76,77,78,79,80,81,82,83,84,85,86,87,88,89,90,91,92,93,94,95] (fun m us w'=>∃(gX:Int),Fit us (fun uy3=>[(uy3 0),vI gX,(uy3 2),(uy3 3),(uy3 4),(uy3 5),(uy3 6),(uy3 7),(uy3 8),(uy3 9),(uy3 10),(uy3 11),(uy3 12),(uy3 13),(uy3 14),(uy3 15),(uy3 16),(uy3 17),(uy3 18),(uy3 19),(uy3 20),(uy3 21),(uy3 22),(uy3 23),(uy3 24),(uy3 25),(uy3 26),(uy3 27),(uy3 28),(uy3 29),(uy3 30),(uy3 31),(uy3 32),(uy3 33),(uy3 34),(uy3 35),(uy3 36),(uy3 37),(uy3 38),(uy3 39),(uy3 40),(uy3 41),(uy3 42),(uy3 43)])∧aS.l2 k a0 v3 m gX=some xx3∧St [] h0 w0 h1 [(some b1, .cells #[vL bQ a0.au.length bT] 24 (0,0))] w') (fun us w'=>∃(s3:Unit),xx3= .inr s3∧Fit us (fun uo3=>[(uo3 0),(uo3 1),(uo3 2),(uo3 3),(uo3 4),(uo3 5),(uo3 6),(uo3 7),(uo3 8),(uo3 9),(uo3 10),(uo3 11),(uo3 12),(uo3 13),(uo3 14),(uo3 15),(uo3 16),(uo3 17),(uo3 18),(uo3 19),(uo3 20),(uo3 21),(uo3 22),(uo3 23),(uo3 24),(uo3 25),(uo3 26),(uo3 27),(uo3 28),(uo3 29),(uo3 30),(uo3 31),(uo3 32),(uo3 33),(uo3 34),(uo3 35),(uo3 36),(uo3 37),(uo3 38),(uo3 39),(uo3 40),(uo3 41),(uo3 42),(uo3 43)])∧St [] h0 w0 h1 [(some b1, .cells #[vL bQ a0.au.length bT] 24 (0,0))] w') k ⟨0,(fit X),H,HS8⟩ ?_ ?_
   ·rintro m us w9 ⟨gX,Ve,H,HS9⟩
    obtain ⟨uy3,rfl⟩:=unj Ve
    cases m with
    |zero=>exact absurd H (by simp [aS.l2])
    |succ m=>
     rw [aS.l2] at H
     try simp only [patch,sc0,sc1]
     refine Al<|Al<|Ao<|rs (vI gX) (aO X)<|rs (vP b1 0) (aH (n:=1) (o':=0) X AE X AM (by decide) X)<|rs (vL bQ a0.au.length bT) (aN X AR (HS9.look 0 X) X)<|rs (vI (a0.au.length:Int)) (jD X AF)<|aK (by simp only [sc0,sc1];rfl) ?_
     refine rs (vB (decide (gX<(a0.au.length:Int)))) (bW X X X) ?_
     try simp only [sc0,sc1]
     refine aB<|ay<|Av (t:=(decide (gX<(a0.au.length:Int)))) X (fun c6=>?_) (fun c6=>?_)
     ·replace H:=bU H c6
      refine AN<|ay<|Al<|wp_block<|Al<|Al<|Ao<|rs (vL fQ v3.length gY) (aO X)<|rs (vI gX) (aO X) ?_
      obtain ⟨hi5,H⟩:=dN H
      obtain ⟨ad5,e5,X9⟩:=qY iy hi5.1 hi5.2
      refine rs (Value.pointer (some (Addr.add ad5 (gX.toNat*1)))) (dP (sz:=1) X e5 X hi5.1 hi5.2 AG As)<|rs (vI (rd 0 v3 gX)) (kE X AC (X9.cell0 HS9.sees X))<|aK (by simp only [sc0,sc1];rfl) ?_
      refine rs (vB ((rd 0 v3 gX)==0)) (bW X X X)<|rs (vB ((rd 0 v3 gX)==0)) (aO X)<|rgs ((rd 0 v3 gX)==0) true (vL fQ v3.length gY) X X X X (fun hg=>(aO X))<|rgs ((rd 0 v3 gX)==0) true (vI gX) X X X X (fun hg=>(aO X))<|aK (by simp only [sc0,sc1];rfl) ?_
      obtain ⟨hi6,H⟩:=dN H
      obtain ⟨ad6,hq3⟩:=gx1 (fun hC:(true&&(((rd 0 v3 gX)==0)==false))=true=>qY iy (hi6 hC).1 (hi6 hC).2)
      refine rgs ((rd 0 v3 gX)==0) true (Value.pointer (some (Addr.add ad6 (gX.toNat*1)))) X X X X (fun hg=>(dP (sz:=1) (gvt (vL fQ v3.length gY) hg X) (hq3 hg).1 (gvt (vI gX) hg X) (hi6 hg).1 (hi6 hg).2 AG As))<|rgs ((rd 0 v3 gX)==0) true (vI (rd 0 v3 gX)) X X X X (fun hg=>(kE (gvt (Value.pointer (some (Addr.add ad6 (gX.toNat*1)))) hg X) AC (((hq3 hg).2).cell0 HS9.sees X)))<|rgs ((rd 0 v3 gX)==0) true (vB (decide ((rd 0 v3 gX)>512))) X X X X (fun hg=>(bW (gvt (vI (rd 0 v3 gX)) hg X) X X))<|rs (vB (((rd 0 v3 gX)==0)||(decide ((rd 0 v3 gX)>512)))) (dQ X X (fun hp=>(gvt (vB (decide ((rd 0 v3 gX)>512))) (gQ X hp) X)))<|aK (by simp only [sc0,sc1];rfl) ?_
      refine rs (vB (((rd 0 v3 gX)==0)||(decide ((rd 0 v3 gX)>512)))) (aO X)<|rgs (((rd 0 v3 gX)==0)||(decide ((rd 0 v3 gX)>512))) true (Value.agg #[vL bQ a0.au.length bT]) X X X X (fun hg=>(aT (n:=1) (vs:=[vL bQ a0.au.length bT]) X AI (HS9.look 0 X) AD X X))<|rgs (((rd 0 v3 gX)==0)||(decide ((rd 0 v3 gX)>512))) true (vI gX) X X X X (fun hg=>(aO X)) ?_
      obtain ⟨v4,H4,H⟩:=bn H
      refine sJ (b:=(((rd 0 v3 gX)==0)||(decide ((rd 0 v3 gX)>512)))) (c:=true) (v:=vB v4) X X X X (fun hg=>(bC Tryz.call60 X (wF (gvt (Value.agg #[vL bQ a0.au.length bT]) hg X) (gvt (vI gX) hg X)) (fJ.calls k a0 gX bQ bT HS9.sees (fK.ext HS9.sub) iF (bU H4 hg)))) ?_
      intro w10 hE5
      have kF:=HS9.step hE5
      refine aK (by simp only [sc0,sc1];rfl) ?_
      refine rgs (((rd 0 v3 gX)==0)||(decide ((rd 0 v3 gX)>512))) true (vB (!v4)) X X X X (fun hg=>(mZ (gvt (vB v4) hg X)))<|rs (vB ((((rd 0 v3 gX)==0)||(decide ((rd 0 v3 gX)>512)))||(!v4))) (dQ X X (fun hp=>(gvt (vB (!v4)) (gQ X hp) X))) ?_
      try simp only [sc0,sc1]
      refine aB<|ay<|Av (t:=((((rd 0 v3 gX)==0)||(decide ((rd 0 v3 gX)>512)))||(!v4))) X (fun c7=>?_) (fun c7=>?_)
      ·replace H:=bU H c7
       refine Al<|Ao<|rs (vI 80) (aG X) ?_
       try simp only [sc0,sc1]
       refine aB<|ay<|AT<|bP<|fA<|bP<|jm<|bP ?_
       obtain rfl:=Ab H
       obtain rfl:=Ab G3
       exact Ay (bD X (bK X)) X<|⟨X,kF.toE⟩
      ·replace H:=cO H (nt c7)
       refine AN<|ay<|Al<|Ao<|rs (vP b1 0) (aH (n:=1) (o':=0) X AE X AM (by decide) X)<|rs (vL bQ a0.au.length bT) (aN X AR (kF.look 0 X) X)<|rs (vI gX) (aO X) ?_
       obtain ⟨hi7,H⟩:=dN H
       obtain ⟨ad7,Xo,Xp,e7,Ya,WH,WI⟩:=gK (fK.ext kF.sub) hi7.1 hi7.2
       refine rs (Value.pointer (some (Addr.add ad7 (gX.toNat*7)))) (dP (sz:=7) X e7 X hi7.1 hi7.2 AF AH)<|aK (by simp only [sc0,sc1];rfl) ?_
       refine rs (Value.pointer (some (Addr.add (Addr.add ad7 (gX.toNat*7)) 0))) (nX (n:=1) (o':=0) X An X As (by decide) X)<|rs (vI ((rd ah a0.au gX).aA)) (kE X AC (Ya.cell kF.sees 0 X))<|rs (vB ((rd ah a0.au gX).aA==4)) (bW X X X)<|rs (vB ((rd ah a0.au gX).aA==4)) (aO X)<|aK (by simp only [sc0,sc1];rfl) ?_
       refine rgs ((rd ah a0.au gX).aA==4) true (vP b1 0) X X X X (fun hg=>(aH (n:=1) (o':=0) X AE X AM (by decide) X))<|rgs ((rd ah a0.au gX).aA==4) true (vL bQ a0.au.length bT) X X X X (fun hg=>(aN (gvt (vP b1 0) hg X) AR (kF.look 0 X) X))<|rgs ((rd ah a0.au gX).aA==4) true (vI gX) X X X X (fun hg=>(aO X)) ?_
       obtain ⟨hi8,H⟩:=dN H
       obtain ⟨ad8,NZ,N7,hq4⟩:=gx3 (fun hC:(true&&(((rd ah a0.au gX).aA==4)==true))=true=>gK (fK.ext kF.sub) (hi8 hC).1 (hi8 hC).2)
       refine rgs ((rd ah a0.au gX).aA==4) true (Value.pointer (some (Addr.add ad8 (gX.toNat*7)))) X X X X (fun hg=>(dP (sz:=7) (gvt (vL bQ a0.au.length bT) hg X) (hq4 hg).1 (gvt (vI gX) hg X) (hi8 hg).1 (hi8 hg).2 AF AH))<|aK (by simp only [sc0,sc1];rfl) ?_
       refine rgs ((rd ah a0.au gX).aA==4) true (Value.agg #[vI ((rd ah a0.au gX).aA),vS ((rd ah a0.au gX).aF),vI ((rd ah a0.au gX).aY.aU),vB ((rd ah a0.au gX).aY.aJ),vI ((rd ah a0.au gX).bY),vI ((rd ah a0.au gX).vN),vL NZ ((rd ah a0.au gX).ak).length N7]) X X X X (fun hg=>(gG (gvt (Value.pointer (some (Addr.add ad8 (gX.toNat*7)))) hg X) A7 (((hq4 hg).2.1).sees kF.sees) AH))<|rgs ((rd ah a0.au gX).aA==4) true (vL fQ v3.length gY) X X X X (fun hg=>(aO X)) ?_
       obtain ⟨v5,H5,H⟩:=bn H
       refine sJ (b:=((rd ah a0.au gX).aA==4)) (c:=true) (v:=vB v5) X X X X (fun hg=>(bC Tryz.call61 X (wF (gvt (Value.agg #[vI ((rd ah a0.au gX).aA),vS ((rd ah a0.au gX).aF),vI ((rd ah a0.au gX).aY.aU),vB ((rd ah a0.au gX).aY.aJ),vI ((rd ah a0.au gX).bY),vI ((rd ah a0.au gX).vN),vL NZ ((rd ah a0.au gX).ak).length N7]) hg X) (gvt (vL fQ v3.length gY) hg X)) (fD.calls k (rd ah a0.au gX) v3 NZ N7 fQ gY kF.sees ((hq4 hg).2.2.2) ((hq4 hg).2.2.1) iy nJ (bU H5 hg)))) ?_
       intro w11 hE6
       have oC:=kF.step hE6
       refine rgs ((rd ah a0.au gX).aA==4) true (vB (!v5)) X X X X (fun hg=>(mZ (gvt (vB v5) hg X)))<|aK (by simp only [sc0,sc1];rfl) ?_
       refine rs (vB (((rd ah a0.au gX).aA==4)&&(!v5))) (dL X (fun hp=>(gvt (vB (!v5)) (gQ X hp) X)) X) ?_
       try simp only [sc0,sc1]
       refine aB<|ay<|Av (t:=(((rd ah a0.au gX).aA==4)&&(!v5))) X (fun c8=>?_) (fun c8=>?_)
       ·replace H:=bU H c8
        refine Al<|Ao<|rs (vI 80) (aG X) ?_
        try simp only [sc0,sc1]
        refine aB<|ay<|AT<|fA<|bP<|jm<|bP ?_
        obtain rfl:=Ab H
        obtain rfl:=Ab G3
        exact Ay (bD X (bK X)) X<|⟨X,oC.toE⟩
       ·replace H:=cO H (nt c8)
        refine AN<|dD<|ay<|Ao<|rs (vI gX) (aO X)<|rs (vI (w64 (gX+1))) (bW X X X)<|rs (vI (w64 (gX+1))) (aG X) ?_
        try simp only [sc0,sc1]
        refine aB<|gI m (Nat.lt_succ_self m) X ⟨(w64 (gX+1)),(fit X),H,oC⟩
     ·replace H:=cO H (nt c6)
      refine Bx<|eU ?_
      obtain rfl:=Ab H
      refine iK X ⟨_,X,(fit X),HS9⟩
   ·rintro us w12 ⟨s3,rfl,Vf,mW⟩
    obtain ⟨uo3,rfl⟩:=unj Vf
    replace H:=G3
    clear G3
    try simp only [patch,sc0,sc1]
    refine ay<|Al<|Ao<|rs (vI 0) (aG X) ?_
    try simp only [sc0,sc1]
    refine aB<|ay<|AT ?_
    obtain rfl:=Ab H
    exact Ay (bD X (bK X)) X<|⟨X,mW.toE⟩
def iq.f:Nat→Int→Option (ByteArray)
 |0,_=>none
 |k+1,a0=>if (decide (a0<10))=true then (if 0≤a0∧a0≤(IntKind.wrap .i64 (a0+1))∧(IntKind.wrap .i64 (a0+1))≤((⟨#[48,49,50,51,52,53,54,55,56,57]⟩:ByteArray).size:Int) then (some (F8 (⟨#[48,49,50,51,52,53,54,55,56,57]⟩:ByteArray) a0 (IntKind.wrap .i64 (a0+1)))) else none) else ((iq.f k (Ur .i64 a0 10)).bind fun v1=>((iq.f k (Us a0 10)).bind fun v2=>(if v1.size+v2.size≤9223372036854775807 then (some (v1++v2)) else none)))
theorem iq.calls:∀(k:Nat) (a0:Int) {h0:View} {w0:World} (hv:lS h0 w0) {r:ByteArray} (H:iq.f k a0=some r),Calls Tryz.prog 85 #[vI a0] w0 (fun e w1=>e= .returned (vS r)∧Ext w0 w1):=by
 intro k
 induction k with
 |zero=>
  intros
  rename_i H
  exact absurd H (by simp [iq.f])
 |succ k ih=>
  intro a0 h0 w0 hv r H
  rw [iq.f] at H
  have HS:St [] h0 w0 h0 [] w0:=St.init hv
  go_enter Tryz.func85,Tryz.ntmps85
  refine Al<|Ao<|rs (vS ByteArray.empty) (aG X) ?_
  try simp only [sc0,sc1]
  refine aB<|ay<|Al<|Al<|Ao<|rs (vI a0) (aO X)<|rs (vB (decide (a0<10))) (bW X X X) ?_
  try simp only [sc0,sc1]
  refine aB<|ay<|Av (t:=(decide (a0<10))) X (fun c1=>?_) (fun c1=>?_)
  ·replace H:=bU H c1
   refine Al<|Ao<|rs (vI a0) (aO X)<|rs (vI a0) (aO X)<|rs (vI (w64 (a0+1))) (bW X X X) ?_
   obtain ⟨hk1,H⟩:=dN H
   refine rs (vS (F8 (⟨#[48,49,50,51,52,53,54,55,56,57]⟩:ByteArray) a0 (w64 (a0+1)))) (PL X BB X X hk1)<|aK (by simp only [sc0,sc1];rfl) ?_
   refine rs (vS (F8 (⟨#[48,49,50,51,52,53,54,55,56,57]⟩:ByteArray) a0 (w64 (a0+1)))) (aG X) ?_
   try simp only [sc0,sc1]
   refine aB<|ay<|AT<|bP ?_
   obtain rfl:=Ab H
   exact Ay (bD X (bK X)) X<|⟨X,HS.toE⟩
  ·replace H:=cO H (nt c1)
   refine AN<|ay<|Al<|Ao<|rs (vI a0) (aO X)<|rs (vI (Ur .i64 a0 10)) (VX X X (by decide)) ?_
   obtain ⟨v1,H1,H⟩:=bn H
   refine run_eq (v:=vS v1) X X (bC Dg X X (ih (Ur .i64 a0 10) HS.sees H1)) ?_
   intro w1 hE1
   have HS1:=HS.step hE1
   refine rs (vI a0) (aO X)<|aK (by simp only [sc0,sc1];rfl) ?_
   refine rs (vI (Us a0 10)) (VY X X (by decide)) ?_
   obtain ⟨v2,H2,H⟩:=bn H
   refine run_eq (v:=vS v2) X X (bC Dg X X (ih (Us a0 10) HS1.sees H2)) ?_
   intro w2 hE2
   have HS2:=HS1.step hE2
   obtain ⟨hb3,H⟩:=dN H
   refine rs (vS (v1++v2)) (tY X X hb3)<|rs (vS (v1++v2)) (aG X) ?_
   try simp only [sc0,sc1]
   refine aB<|ay<|AT ?_
   obtain rfl:=Ab H
   exact Ay (bD X (bK X)) X<|⟨X,HS2.toE⟩
def dn.f:Nat→aQ→Int→Option (ByteArray)
 |0,_,_=>none
 |k+1,a0,a1=>if 0≤a1∧a1<a0.au.length then (if ((rd ah a0.au a1).aA==2)=true then ((dn.f k a0 ((rd ah a0.au a1).bY)).bind fun v1=>(if v1.size+(⟨#[32,42]⟩:ByteArray).size≤9223372036854775807 then (some (v1++(⟨#[32,42]⟩:ByteArray))) else none)) else (if ((rd ah a0.au a1).aA==3)=true then ((dn.f k a0 ((rd ah a0.au a1).bY)).bind fun v2=>(if v2.size+(⟨#[32,91]⟩:ByteArray).size≤9223372036854775807 then ((iq.f k ((rd ah a0.au a1).vN)).bind fun v3=>(if (v2++(⟨#[32,91]⟩:ByteArray)).size+v3.size≤9223372036854775807 then (if ((v2++(⟨#[32,91]⟩:ByteArray))++v3).size+(⟨#[93]⟩:ByteArray).size≤9223372036854775807 then (some (((v2++(⟨#[32,91]⟩:ByteArray))++v3)++(⟨#[93]⟩:ByteArray))) else none) else none)) else none)) else (some ((rd ah a0.au a1).aF)))) else none
theorem dn.calls:∀(k:Nat) (a0:aQ) (a1:Int) (bQ:Option Addr) (bT:Nat) {h0:View} {w0:World} (hv:lS h0 w0) (fK:Rd bI h0 bQ a0.au) (iF:a0.au.length≤bT) {r:ByteArray} (H:dn.f k a0 a1=some r),Calls Tryz.prog 62 #[Value.agg #[vL bQ a0.au.length bT],vI a1] w0 (fun e w1=>e= .returned (vS r)∧Ext w0 w1):=by
 intro k
 induction k with
 |zero=>
  intros
  rename_i H
  exact absurd H (by simp [dn.f])
 |succ k ih=>
  intro a0 a1 bQ bT h0 w0 hv fK iF r H
  rw [dn.f] at H
  have HS:St [] h0 w0 h0 [] w0:=St.init hv
  go_enter Tryz.func62,Tryz.ntmps62
  refine Al<|Ao<|dF X X (eF (cs:=#[vL bQ a0.au.length bT]) X X) ?_
  rintro w1 _ hE1 ⟨b1,rfl,ge1,hb1⟩
  have HS1:=HS.new hE1 ge1 hb1
  refine rs (vS ByteArray.empty) (aG X) ?_
  try simp only [sc0,sc1]
  refine aB<|ay<|Al<|Ao<|rs (vP b1 0) (aH (n:=1) (o':=0) X AE X AM (by decide) X)<|rs (vL bQ a0.au.length bT) (aN X AR (HS1.look 0 X) X)<|rs (vI a1) (aO X) ?_
  obtain ⟨hi1,H⟩:=dN H
  obtain ⟨ad1,dU,dY,e1,mJ,jS,iY⟩:=gK fK hi1.1 hi1.2
  refine rs (Value.pointer (some (Addr.add ad1 (a1.toNat*7)))) (dP (sz:=7) X e1 X hi1.1 hi1.2 AF AH)<|aK (by simp only [sc0,sc1];rfl) ?_
  refine rs (Value.agg #[vI ((rd ah a0.au a1).aA),vS ((rd ah a0.au a1).aF),vI ((rd ah a0.au a1).aY.aU),vB ((rd ah a0.au a1).aY.aJ),vI ((rd ah a0.au a1).bY),vI ((rd ah a0.au a1).vN),vL dU ((rd ah a0.au a1).ak).length dY]) (gG X A7 (mJ.sees HS1.sees) AH)<|dF X X (dO (cs:=#[vI 0,vS ByteArray.empty,vI 0,vB false,vI 0,vI 0,vL none 0 0]) A9 X) ?_
  rintro w2 _ hE2 ⟨b2,rfl,ge2,hb2⟩
  have HS2:=HS1.new hE2 ge2 hb2
  refine gJ (i:=0) (cs:=[vI 0,vS ByteArray.empty,vI 0,vB false,vI 0,vI 0,vL none 0 0]) (cs':=[vI ((rd ah a0.au a1).aA),vS ((rd ah a0.au a1).aF),vI ((rd ah a0.au a1).aY.aU),vB ((rd ah a0.au a1).aY.aJ),vI ((rd ah a0.au a1).bY),vI ((rd ah a0.au a1).vN),vL dU ((rd ah a0.au a1).ak).length dY]) (vs:=[vI ((rd ah a0.au a1).aA),vS ((rd ah a0.au a1).aF),vI ((rd ah a0.au a1).aY.aU),vB ((rd ah a0.au a1).aY.aJ),vI ((rd ah a0.au a1).bY),vI ((rd ah a0.au a1).vN),vL dU ((rd ah a0.au a1).ak).length dY]) (bs':=[(some b2, .cells #[vI ((rd ah a0.au a1).aA),vS ((rd ah a0.au a1).aF),vI ((rd ah a0.au a1).aY.aU),vB ((rd ah a0.au a1).aY.aJ),vI ((rd ah a0.au a1).bY),vI ((rd ah a0.au a1).vN),vL dU ((rd ah a0.au a1).ak).length dY] 58 (0,0)),(some b1, .cells #[vL bQ a0.au.length bT] 24 (0,0))]) X X AH X X (by decide) X HS2 X (Ax X) X X ?_
  intro w3 HS3
  try simp only [sc0,sc1]
  refine aB<|ay<|Al<|Al<|Ao<|rs (vP b2 0) (aH (n:=1) (o':=0) X An X As (by decide) X)<|rs (vI ((rd ah a0.au a1).aA)) (aN X AC (HS3.look 0 X) X) ?_
  try simp only [sc0,sc1]
  refine aB<|ay<|wp_block<|Al<|Ao<|rs (vB ((rd ah a0.au a1).aA==2)) (bW X X X)<|rs (vB ((rd ah a0.au a1).aA==2)) (aG X) ?_
  try simp only [sc0,sc1]
  refine aB<|ay<|Av (t:=((rd ah a0.au a1).aA==2)) X (fun c1=>?_) (fun c1=>?_)
  ·replace H:=bU H c1
   refine Al<|Ao<|rs (Value.agg #[vL bQ a0.au.length bT]) (aT (n:=1) (vs:=[vL bQ a0.au.length bT]) X AI (HS3.look 1 X) AD X X)<|rs (vP b2 4) (aH (n:=1) (o':=4) X An X As (by decide) X)<|rs (vI ((rd ah a0.au a1).bY)) (aN X AC (HS3.look 0 X) X) ?_
   obtain ⟨v1,H1,H⟩:=bn H
   refine run_eq (v:=vS v1) X X (bC Co X X (ih a0 ((rd ah a0.au a1).bY) bQ bT HS3.sees fK iF H1)) ?_
   intro w4 hE3
   have HS4:=HS3.step hE3
   refine aK (by simp only [sc0,sc1];rfl) ?_
   obtain ⟨hb3,H⟩:=dN H
   refine rs (vS (v1++(⟨#[32,42]⟩:ByteArray))) (tY X X hb3)<|rs (vS (v1++(⟨#[32,42]⟩:ByteArray))) (aG X) ?_
   try simp only [sc0,sc1]
   refine aB<|ay<|AT<|fA<|bP ?_
   obtain rfl:=Ab H
   exact Ay (bD X (bK X)) X<|⟨X,HS4.toE⟩
  ·replace H:=cO H (nt c1)
   refine Al<|Ao<|rs (vB ((rd ah a0.au a1).aA==3)) (bW X X X)<|rs (vB ((rd ah a0.au a1).aA==3)) (aG X) ?_
   try simp only [sc0,sc1]
   refine aB<|ay<|Av (t:=((rd ah a0.au a1).aA==3)) X (fun c2=>?_) (fun c2=>?_)
   ·replace H:=bU H c2
    refine Al ?_
    obtain ⟨v2,H2,H⟩:=bn H
    obtain ⟨hb4,H⟩:=dN H
    obtain ⟨v3,H3,H⟩:=bn H
    obtain ⟨hb5,H⟩:=dN H
    obtain ⟨hb6,H⟩:=dN H
    refine drawn [.eq (Value.agg #[vL bQ a0.au.length bT]), .eq (vP b2 4), .eq (vI ((rd ah a0.au a1).bY)), .eq (vS v2), .eq (vS (v2++(⟨#[32,91]⟩:ByteArray))), .eq (vP b2 5), .eq (vI ((rd ah a0.au a1).vN)), .eq (vS v3), .eq (vS ((v2++(⟨#[32,91]⟩:ByteArray))++v3)), .eq (vS (((v2++(⟨#[32,91]⟩:ByteArray))++v3)++(⟨#[93]⟩:ByteArray)))] [22,23,24,25,26,27,28,29,30,31] rM (by kernel_rfl) X (aP (aP (aP (aP (aP (aP (aP (aP (aP (aP iJ)))))))))) ⟨aX X (fun a' w' hE hk=>by exact aW (aT (n:=1) (vs:=[vL bQ a0.au.length bT]) (show _=vP b1 0 from hk 2 X) AI ((HS3.step hE).look 1 X) AD X X)),aX X (fun a' w' hE hk=>by exact aW (aH (n:=1) (o':=4) (show _=vP b2 0 from hk 5 X) An X As (by decide) X)),aX X (fun a' w' hE hk=>by exact aW (aN (show _=vP b2 4 from hk 23 X) AC ((HS3.step hE).look 0 X) X)),aX X (fun a' w' hE hk=>by exact (bC Co X (wF (show _=Value.agg #[vL bQ a0.au.length bT] from hk 22 X) (show _=vI ((rd ah a0.au a1).bY) from hk 24 X)) (ih a0 ((rd ah a0.au a1).bY) bQ bT (HS3.step hE).sees fK iF H2))),aX X (fun a' w' hE hk=>by exact aW (tY (show _=vS v2 from hk 25 X) X hb4)),aX X (fun a' w' hE hk=>by exact aW (aH (n:=1) (o':=5) (show _=vP b2 0 from hk 5 X) An X As (by decide) X)),aX X (fun a' w' hE hk=>by exact aW (aN (show _=vP b2 5 from hk 27 X) AC ((HS3.step hE).look 0 X) X)),aX X (fun a' w' hE hk=>by exact (bC Dg X (Jk (show _=vI ((rd ah a0.au a1).vN) from hk 28 X)) (iq.calls k ((rd ah a0.au a1).vN) (HS3.step hE).sees H3))),aX X (fun a' w' hE hk=>by exact aW (tY (show _=vS (v2++(⟨#[32,91]⟩:ByteArray)) from hk 26 X) (show _=vS v3 from hk 29 X) hb5)),aX X (fun a' w' hE hk=>by exact aW (tY (show _=vS ((v2++(⟨#[32,91]⟩:ByteArray))++v3) from hk 30 X) X hb6)),trivial⟩ ?_
    intro w5 hE4
    simp only [List.zip_cons_cons,List.zip_nil_left,List.zip_nil_right,vO,sc0,sc1,List.length_cons,List.length_nil,List.drop_succ_cons,List.drop_zero,Nat.zero_add,Nat.reduceAdd]
    have HS5:=HS3.step hE4
    refine rs (vS (((v2++(⟨#[32,91]⟩:ByteArray))++v3)++(⟨#[93]⟩:ByteArray))) (aG X) ?_
    try simp only [sc0,sc1]
    refine aB<|ay<|AT<|fA<|bP ?_
    obtain rfl:=Ab H
    exact Ay (bD X (bK X)) X<|⟨X,HS5.toE⟩
   ·replace H:=cO H (nt c2)
    refine AN<|dD<|ay<|Al<|Ao<|rs (vP b2 1) (aH (n:=1) (o':=1) X An X AW (by decide) X)<|rs (vS ((rd ah a0.au a1).aF)) (aN X Be (HS3.look 0 X) X)<|rs (vS ((rd ah a0.au a1).aF)) (aG X) ?_
    try simp only [sc0,sc1]
    refine aB<|ay<|AT ?_
    obtain rfl:=Ab H
    exact Ay (bD X (bK X)) X<|⟨X,HS3.toE⟩
end Go.Proofs.YtfjppgobidjndaaGreatDoor
