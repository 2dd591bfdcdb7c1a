/- Parts of a proof, merged by program: F83 F40 F44 F64 F87 F45 F14 F4 GA P1 P2 P3 P4 P5 P8 PN1 P10 P11 P12 P13 L1 L2 C2. The walks (each function once) and the plain laws; no condition of their own. -/
import Derived.Test.YtecpbadkdpbkpaaGreatDoorLay5
set_option linter.unusedVariables false
set_option linter.unusedSimpArgs false
namespace Go.Proofs.YtecpbadkdpbkpaaGreatDoor
open Go.RowKit Go.M
def dH.l0 (a0:aU) (a2:ByteArray) (v2:Int):Nat→Int→Option ((fH)⊕(Unit))
 |0,_=>none
 |m+1,aG=>if (decide (aG<(((rd ah a0.ay v2).au).length:Int)))=true then (if 0≤aG∧aG<((rd ah a0.ay v2).au).length then (if (strEq ((rd aj ((rd ah a0.ay v2).au) aG).aQ) a2)=true then (if 0≤aG∧aG<((rd ah a0.ay v2).au).length then (some (.inl (⟨(⟨(rd aj ((rd ah a0.ay v2).au) aG).aQ,(rd aj ((rd ah a0.ay v2).au) aG).vType,(rd aj ((rd ah a0.ay v2).au) aG).vAt⟩:dw),0⟩:fH))) else none) else (dH.l0 a0 a2 v2 m (IntKind.wrap .i64 (aG+1)))) else none) else (some (.inr ()))
def dH.f (k:Nat) (a0:aU) (a1:Int) (a2:ByteArray):Option (fH):=(bQ.f k a0 a1).bind fun v1=>(if (v1 !=0)=true then (some (⟨(⟨ByteArray.empty,0,0⟩:dw),v1⟩:fH)) else ((cZ.f k a0 a1).bind fun v2=>(if 0≤v2∧v2<a0.ay.length then (if ((rd ah a0.ay v2).aC !=4)=true then (some (⟨(⟨ByteArray.empty,0,0⟩:dw),5⟩:fH)) else ((dH.l0 a0 a2 v2 k 0).bind fun xx1=>(match xx1 with| .inl r=>some r| .inr s1=>some (⟨(⟨ByteArray.empty,0,0⟩:dw),3⟩:fH)))) else none)))
set_option maxRecDepth 20000 in
set_option maxHeartbeats 4000000 in
theorem dH.calls (k:Nat) (a0:aU) (a1:Int) (a2:ByteArray) (bU:Option Addr) (bV:Nat) {h0:View} {w0:World} (hv:jL h0 w0) (fK:Rd dV h0 bU a0.ay) (iw:a0.ay.length≤bV) {r:fH} (H:dH.f k a0 a1 a2=some r):Calls Tryz.prog 83 #[Value.agg #[vL bU a0.ay.length bV],vI a1,vS a2] w0 (fun e w1=>e= .returned (Value.agg #[vS r.vF.aQ,vI r.vF.vType,vI r.vF.vAt,vI r.vE])∧Ext w0 w1):=by
 unfold dH.f at H
 have HS:St [] h0 w0 h0 [] w0:=St.init hv
 go_enter Tryz.func83,Tryz.ntmps83
 refine wp_seq<|region<|dU rfl rfl (dY (cs:=#[vL bU a0.ay.length bV]) rfl rfl) ?_
 rintro w1 _ hE1 ⟨b1,rfl,ge1,hb1⟩
 have HS1:=HS.new hE1 ge1 hb1
 refine dU rfl rfl (fA (cs:=#[vS ByteArray.empty,vI 0,vI 0,vI 0]) Tryz.zeroValue171 rfl) ?_
 rintro w2 _ hE2 ⟨b2,rfl,ge2,hb2⟩
 have HS2:=HS1.new hE2 ge2 hb2
 try simp only [sc0,sc1]
 refine aA<|ak<|wp_seq<|region<|rs (Value.agg #[vL bU a0.ay.length bV]) (aZ (n:=1) (vs:=[vL bU a0.ay.length bV]) rfl Tryz.isAgg24 (HS2.look 1 rfl) Tryz.sizeOf24 rfl rfl)<|rs (vI a1) (aJ rfl) ?_
 obtain ⟨v1,H1,H⟩:=bJ H
 refine run_eq (v:=vI v1) rfl rfl (bf Tryz.call82 rfl rfl (bQ.calls k a0 a1 bU bV HS2.sees fK iw H1)) ?_
 intro w3 hE3
 have HS3:=HS2.step hE3
 refine rs (vI v1) (aB rfl) ?_
 try simp only [sc0,sc1]
 refine aA<|ak<|wp_seq<|wp_seq<|region<|rs (vI v1) (aJ rfl)<|rs (vB (v1 !=0)) (bK rfl rfl rfl) ?_
 try simp only [sc0,sc1]
 refine aA<|ak<|wp_cond_split (t:=(v1 !=0)) rfl (fun c1=>?_) (fun c1=>?_)
 ·replace H:=bM H c1
  refine wp_seq<|region<|rs (vI v1) (aJ rfl)<|rs (Value.agg #[vS ByteArray.empty,vI 0,vI 0,vI v1]) (iy (cs:=[vS ByteArray.empty,vI 0,vI 0,vI v1]) (ps:=[(1,vI v1)]) Tryz.zeroValue171 Tryz.runUnderlying171 (pl:=#[(0,3),(3,1)]) (fun w=>by simp [Tryz.sizeOf129,Tryz.sizeOf34]) (jM (show _=vI v1 from rfl)) rfl) ?_
  refine fV (i:=0) (cs:=[vS ByteArray.empty,vI 0,vI 0,vI 0]) (cs':=[vS ByteArray.empty,vI 0,vI 0,vI v1]) (vs:=[vS ByteArray.empty,vI 0,vI 0,vI v1]) (bs':=[(some b2, .cells #[vS ByteArray.empty,vI 0,vI 0,vI v1] 171 (0,0)),(some b1, .cells #[vL bU a0.ay.length bV] 24 (0,0))]) rfl rfl Tryz.sizeOf171 rfl rfl (by decide) rfl HS3 rfl (Nat.le_of_ble_eq_true rfl) rfl rfl ?_
  intro w4 HS4
  try simp only [sc0,sc1]
  refine aA<|ak<|wp_ret<|aW ?_
  obtain rfl:=Option.some.inj H
  exact bodyPost_ret (aV rfl (iU rfl Tryz.isAgg171 (HS4.look 0 rfl) Tryz.sizeOf171 rfl)) rfl<|⟨rfl,HS4.toE⟩
 ·replace H:=bW H (nt c1)
  refine wp_skip<|ak<|wp_seq ?_
  obtain ⟨v2,H2,H⟩:=bJ H
  obtain ⟨hi1,H⟩:=eG H
  obtain ⟨ad1,dG,dJ,e1,lu,jQ,iH⟩:=gy fK hi1.1 hi1.2
  refine drawn [.eq (vP b1 0), .eq (vL bU a0.ay.length bV), .eq (Value.agg #[vL bU a0.ay.length bV]), .eq (vI a1), .eq (vI v2), .eq (Value.pointer (some (Addr.add ad1 (v2.toNat*7)))), .eq (Value.agg #[vI ((rd ah a0.ay v2).aC),vS ((rd ah a0.ay v2).aQ),vI ((rd ah a0.ay v2).bG.aP),vB ((rd ah a0.ay v2).bG.aN),vI ((rd ah a0.ay v2).dM),vI ((rd ah a0.ay v2).vN),vL dG ((rd ah a0.ay v2).au).length dJ]), .ex (nD w3 #[vI 0,vS ByteArray.empty,vI 0,vB false,vI 0,vI 0,vL none 0 0] 56)] [17,18,19,20,21,22,23,8] lW (by kernel_rfl) rfl (aS (aS (aS (aS (aS (aS (aS (oC nD.stable iP)))))))) ⟨aY rfl (fun a' w' hE hk=>by have HSd:=HS3.step hE;exact bI (aH (n:=1) (o':=0) (show _=vP b1 0 from hk 3 rfl) Tryz.runUnderlying24 rfl Tryz.sizeOf22 (by decide) rfl)),aY rfl (fun a' w' hE hk=>by have HSd:=HS3.step hE;exact bI (aK (show _=vP b1 0 from hk 17 rfl) Tryz.isAgg22 (HSd.look 1 rfl) rfl)),aY rfl (fun a' w' hE hk=>by have HSd:=HS3.step hE;exact bI (aZ (n:=1) (vs:=[vL bU a0.ay.length bV]) (show _=vP b1 0 from hk 3 rfl) Tryz.isAgg24 (HSd.look 1 rfl) Tryz.sizeOf24 rfl rfl)),aY rfl (fun a' w' hE hk=>by have HSd:=HS3.step hE;exact bI (aJ (show _=vI a1 from hk 1 rfl))),aY rfl (fun a' w' hE hk=>by have HSd:=HS3.step hE;exact (bf Tryz.call55 rfl (OA (show _=Value.agg #[vL bU a0.ay.length bV] from hk 19 rfl) (show _=vI a1 from hk 20 rfl)) (cZ.calls k a0 a1 bU bV HSd.sees fK iw H2))),aY rfl (fun a' w' hE hk=>by have HSd:=HS3.step hE;exact bI (dP (sz:=7) (show _=vL bU a0.ay.length bV from hk 18 rfl) e1 (show _=vI v2 from hk 21 rfl) hi1.1 hi1.2 Tryz.runUnderlying22 Tryz.sizeOf56)),aY rfl (fun a' w' hE hk=>by have HSd:=HS3.step hE;exact bI (ig (show _=Value.pointer (some (Addr.add ad1 (v2.toNat*7))) from hk 22 rfl) Tryz.isAgg56 (lu.sees HSd.sees) Tryz.sizeOf56)),aY rfl (fun a' w' hE hk=>(tC hE (cs:=#[vI 0,vS ByteArray.empty,vI 0,vB false,vI 0,vI 0,vL none 0 0]) Tryz.zeroValue56 rfl)),trivial⟩ ?_
  intro w5 hE4
  simp only [List.zip_cons_cons,List.zip_nil_left,List.zip_nil_right,yg,sc0,sc1,List.length_cons,List.length_nil,List.drop_succ_cons,List.drop_zero,Nat.zero_add,Nat.reduceAdd]
  rintro _ ⟨b3,rfl,ge3,hb3⟩
  have HS5:=HS3.new hE4 ge3 hb3
  refine fV (i:=0) (cs:=[vI 0,vS ByteArray.empty,vI 0,vB false,vI 0,vI 0,vL none 0 0]) (cs':=[vI ((rd ah a0.ay v2).aC),vS ((rd ah a0.ay v2).aQ),vI ((rd ah a0.ay v2).bG.aP),vB ((rd ah a0.ay v2).bG.aN),vI ((rd ah a0.ay v2).dM),vI ((rd ah a0.ay v2).vN),vL dG ((rd ah a0.ay v2).au).length dJ]) (vs:=[vI ((rd ah a0.ay v2).aC),vS ((rd ah a0.ay v2).aQ),vI ((rd ah a0.ay v2).bG.aP),vB ((rd ah a0.ay v2).bG.aN),vI ((rd ah a0.ay v2).dM),vI ((rd ah a0.ay v2).vN),vL dG ((rd ah a0.ay v2).au).length dJ]) (bs':=[(some b3, .cells #[vI ((rd ah a0.ay v2).aC),vS ((rd ah a0.ay v2).aQ),vI ((rd ah a0.ay v2).bG.aP),vB ((rd ah a0.ay v2).bG.aN),vI ((rd ah a0.ay v2).dM),vI ((rd ah a0.ay v2).vN),vL dG ((rd ah a0.ay v2).au).length dJ] 56 (0,0)),(some b2, .cells #[vS ByteArray.empty,vI 0,vI 0,vI 0] 171 (0,0)),(some b1, .cells #[vL bU a0.ay.length bV] 24 (0,0))]) rfl rfl Tryz.sizeOf56 rfl rfl (by decide) rfl HS5 rfl (Nat.le_of_ble_eq_true rfl) rfl rfl ?_
  intro w6 HS6
  try simp only [sc0,sc1]
  refine aA<|ak<|wp_seq<|wp_seq<|region<|rs (vP b3 0) (aH (n:=1) (o':=0) rfl Tryz.runUnderlying56 rfl Tryz.sizeOf3 (by decide) rfl)<|rs (vI ((rd ah a0.ay v2).aC)) (aK rfl Tryz.isAgg3 (HS6.look 0 rfl) rfl)<|rs (vB ((rd ah a0.ay v2).aC !=4)) (bK rfl rfl rfl) ?_
  try simp only [sc0,sc1]
  refine aA<|ak<|wp_cond_split (t:=((rd ah a0.ay v2).aC !=4)) rfl (fun c2=>?_) (fun c2=>?_)
  ·replace H:=bM H c2
   refine wp_seq<|region<|rs (Value.agg #[vS ByteArray.empty,vI 0,vI 0,vI 5]) (iy (cs:=[vS ByteArray.empty,vI 0,vI 0,vI 5]) (ps:=[(1,vI 5)]) Tryz.zeroValue171 Tryz.runUnderlying171 (pl:=#[(0,3),(3,1)]) (fun w=>by simp [Tryz.sizeOf129,Tryz.sizeOf34]) (jM (show _=vI 5 from rfl)) rfl) ?_
   refine fV (i:=1) (cs:=[vS ByteArray.empty,vI 0,vI 0,vI 0]) (cs':=[vS ByteArray.empty,vI 0,vI 0,vI 5]) (vs:=[vS ByteArray.empty,vI 0,vI 0,vI 5]) (bs':=[(some b3, .cells #[vI ((rd ah a0.ay v2).aC),vS ((rd ah a0.ay v2).aQ),vI ((rd ah a0.ay v2).bG.aP),vB ((rd ah a0.ay v2).bG.aN),vI ((rd ah a0.ay v2).dM),vI ((rd ah a0.ay v2).vN),vL dG ((rd ah a0.ay v2).au).length dJ] 56 (0,0)),(some b2, .cells #[vS ByteArray.empty,vI 0,vI 0,vI 5] 171 (0,0)),(some b1, .cells #[vL bU a0.ay.length bV] 24 (0,0))]) rfl rfl Tryz.sizeOf171 rfl rfl (by decide) rfl HS6 rfl (Nat.le_of_ble_eq_true rfl) rfl rfl ?_
   intro w7 HS7
   try simp only [sc0,sc1]
   refine aA<|ak<|wp_ret<|aW ?_
   obtain rfl:=Option.some.inj H
   exact bodyPost_ret (aV rfl (iU rfl Tryz.isAgg171 (HS7.look 1 rfl) Tryz.sizeOf171 rfl)) rfl<|⟨rfl,HS7.toE⟩
  ·replace H:=bW H (nt c2)
   refine wp_skip<|ak<|wp_seq<|wp_seq<|region<|rs (vI 0) (aB rfl) ?_
   try simp only [sc0,sc1]
   refine aA<|ak ?_
   obtain ⟨xx1,H,G1⟩:=bJ H
   refine jm [9,28,29,30,31,32,33,34,35,36,37,38,39,40,41,42,43,44,45,46,47,48] (fun m us w'=>∃(aG:Int),Fit us (fun uy1=>[vI aG,(uy1 1),(uy1 2),(uy1 3),(uy1 4),(uy1 5),(uy1 6),(uy1 7),(uy1 8),(uy1 9),(uy1 10),(uy1 11),(uy1 12),(uy1 13),(uy1 14),(uy1 15),(uy1 16),(uy1 17),(uy1 18),(uy1 19),(uy1 20),(uy1 21)])∧dH.l0 a0 a2 v2 m aG=some xx1∧St [] h0 w0 h0 [(some b3, .cells #[vI ((rd ah a0.ay v2).aC),vS ((rd ah a0.ay v2).aQ),vI ((rd ah a0.ay v2).bG.aP),vB ((rd ah a0.ay v2).bG.aN),vI ((rd ah a0.ay v2).dM),vI ((rd ah a0.ay v2).vN),vL dG ((rd ah a0.ay v2).au).length dJ] 56 (0,0)),(some b2, .cells #[vS ByteArray.empty,vI 0,vI 0,vI 0] 171 (0,0)),(some b1, .cells #[vL bU a0.ay.length bV] 24 (0,0))] w') (fun us w'=>∃(s1:Unit),xx1= .inr s1∧Fit us (fun uo1=>[(uo1 0),(uo1 1),(uo1 2),(uo1 3),(uo1 4),(uo1 5),(uo1 6),(uo1 7),(uo1 8),(uo1 9),(uo1 10),(uo1 11),(uo1 12),(uo1 13),(uo1 14),(uo1 15),(uo1 16),(uo1 17),(uo1 18),(uo1 19),(uo1 20),(uo1 21)])∧St [] h0 w0 h0 [(some b3, .cells #[vI ((rd ah a0.ay v2).aC),vS ((rd ah a0.ay v2).aQ),vI ((rd ah a0.ay v2).bG.aP),vB ((rd ah a0.ay v2).bG.aN),vI ((rd ah a0.ay v2).dM),vI ((rd ah a0.ay v2).vN),vL dG ((rd ah a0.ay v2).au).length dJ] 56 (0,0)),(some b2, .cells #[vS ByteArray.empty,vI 0,vI 0,vI 0] 171 (0,0)),(some b1, .cells #[vL bU a0.ay.length bV] 24 (0,0))] w') k ⟨0,(fit rfl),H,HS6⟩ ?_ ?_
   ·rintro m us w8 ⟨aG,ng,H,HS8⟩
    obtain ⟨uy1,rfl⟩:=unj ng
    cases m with
    |zero=>exact absurd H (by simp [dH.l0])
    |succ m=>
     rw [dH.l0] at H
     try simp only [patch,sc0,sc1]
     refine wp_seq<|wp_seq<|region<|rs (vI aG) (aJ rfl)<|rs (vP b3 6) (aH (n:=1) (o':=6) rfl Tryz.runUnderlying56 rfl Tryz.sizeOf54 (by decide) rfl)<|rs (vL dG ((rd ah a0.ay v2).au).length dJ) (aK rfl Tryz.isAgg54 (HS8.look 0 rfl) rfl)<|rs (vI (((rd ah a0.ay v2).au).length:Int)) (jJ rfl Tryz.runUnderlying54)<|aI (by simp only [sc0,sc1];rfl) ?_
     refine rs (vB (decide (aG<(((rd ah a0.ay v2).au).length:Int)))) (bK rfl rfl rfl) ?_
     try simp only [sc0,sc1]
     refine aA<|ak<|wp_cond_split (t:=(decide (aG<(((rd ah a0.ay v2).au).length:Int)))) rfl (fun c3=>?_) (fun c3=>?_)
     ·replace H:=bM H c3
      refine wp_skip<|ak<|wp_seq<|wp_block<|wp_seq<|region<|rs (vP b3 6) (aH (n:=1) (o':=6) rfl Tryz.runUnderlying56 rfl Tryz.sizeOf54 (by decide) rfl)<|rs (vL dG ((rd ah a0.ay v2).au).length dJ) (aK rfl Tryz.isAgg54 (HS8.look 0 rfl) rfl)<|rs (vI aG) (aJ rfl) ?_
      obtain ⟨hi2,H⟩:=eG H
      obtain ⟨ad2,e2,xw⟩:=iM iH hi2.1 hi2.2
      refine rs (Value.pointer (some (Addr.add ad2 (aG.toNat*3)))) (dP (sz:=3) rfl e2 rfl hi2.1 hi2.2 Tryz.runUnderlying54 Tryz.sizeOf129)<|aI (by simp only [sc0,sc1];rfl) ?_
      refine rs (Value.pointer (some (Addr.add (Addr.add ad2 (aG.toNat*3)) 0))) (jr (n:=1) (o':=0) rfl Tryz.runUnderlying129 rfl Tryz.sizeOf9 (by decide) rfl)<|rs (vS ((rd aj ((rd ah a0.ay v2).au) aG).aQ)) (jC rfl Tryz.isAgg9 (xw.cell HS8.sees 0 rfl))<|rs (vS a2) (aJ rfl)<|rs (vB (strEq ((rd aj ((rd ah a0.ay v2).au) aG).aQ) a2)) (uT rfl rfl) ?_
      try simp only [sc0,sc1]
      refine aA<|ak<|wp_cond_split (t:=(strEq ((rd aj ((rd ah a0.ay v2).au) aG).aQ) a2)) rfl (fun c4=>?_) (fun c4=>?_)
      ·replace H:=bM H c4
       refine wp_seq<|region<|rs (vP b3 6) (aH (n:=1) (o':=6) rfl Tryz.runUnderlying56 rfl Tryz.sizeOf54 (by decide) rfl)<|rs (vL dG ((rd ah a0.ay v2).au).length dJ) (aK rfl Tryz.isAgg54 (HS8.look 0 rfl) rfl)<|rs (vI aG) (aJ rfl) ?_
       obtain ⟨hi3,H⟩:=eG H
       obtain ⟨ad3,e3,WX⟩:=iM iH hi3.1 hi3.2
       refine rs (Value.pointer (some (Addr.add ad3 (aG.toNat*3)))) (dP (sz:=3) rfl e3 rfl hi3.1 hi3.2 Tryz.runUnderlying54 Tryz.sizeOf129)<|aI (by simp only [sc0,sc1];rfl) ?_
       refine rs (Value.agg #[vS ((rd aj ((rd ah a0.ay v2).au) aG).aQ),vI ((rd aj ((rd ah a0.ay v2).au) aG).vType),vI ((rd aj ((rd ah a0.ay v2).au) aG).vAt)]) (ig rfl Tryz.isAgg129 (WX.sees HS8.sees) Tryz.sizeOf129)<|rs (Value.agg #[vS ((rd aj ((rd ah a0.ay v2).au) aG).aQ),vI ((rd aj ((rd ah a0.ay v2).au) aG).vType),vI ((rd aj ((rd ah a0.ay v2).au) aG).vAt),vI 0]) (iy (cs:=[vS ((rd aj ((rd ah a0.ay v2).au) aG).aQ),vI ((rd aj ((rd ah a0.ay v2).au) aG).vType),vI ((rd aj ((rd ah a0.ay v2).au) aG).vAt),vI 0]) (ps:=[(0,Value.agg #[vS ((rd aj ((rd ah a0.ay v2).au) aG).aQ),vI ((rd aj ((rd ah a0.ay v2).au) aG).vType),vI ((rd aj ((rd ah a0.ay v2).au) aG).vAt)])]) Tryz.zeroValue171 Tryz.runUnderlying171 (pl:=#[(0,3),(3,1)]) (fun w=>by simp [Tryz.sizeOf129,Tryz.sizeOf34]) (jM (show _=Value.agg #[vS ((rd aj ((rd ah a0.ay v2).au) aG).aQ),vI ((rd aj ((rd ah a0.ay v2).au) aG).vType),vI ((rd aj ((rd ah a0.ay v2).au) aG).vAt)] from rfl)) rfl) ?_
       refine fV (i:=1) (cs:=[vS ByteArray.empty,vI 0,vI 0,vI 0]) (cs':=[vS ((rd aj ((rd ah a0.ay v2).au) aG).aQ),vI ((rd aj ((rd ah a0.ay v2).au) aG).vType),vI ((rd aj ((rd ah a0.ay v2).au) aG).vAt),vI 0]) (vs:=[vS ((rd aj ((rd ah a0.ay v2).au) aG).aQ),vI ((rd aj ((rd ah a0.ay v2).au) aG).vType),vI ((rd aj ((rd ah a0.ay v2).au) aG).vAt),vI 0]) (bs':=[(some b3, .cells #[vI ((rd ah a0.ay v2).aC),vS ((rd ah a0.ay v2).aQ),vI ((rd ah a0.ay v2).bG.aP),vB ((rd ah a0.ay v2).bG.aN),vI ((rd ah a0.ay v2).dM),vI ((rd ah a0.ay v2).vN),vL dG ((rd ah a0.ay v2).au).length dJ] 56 (0,0)),(some b2, .cells #[vS ((rd aj ((rd ah a0.ay v2).au) aG).aQ),vI ((rd aj ((rd ah a0.ay v2).au) aG).vType),vI ((rd aj ((rd ah a0.ay v2).au) aG).vAt),vI 0] 171 (0,0)),(some b1, .cells #[vL bU a0.ay.length bV] 24 (0,0))]) rfl rfl Tryz.sizeOf171 rfl rfl (by decide) rfl HS8 rfl (Nat.le_of_ble_eq_true rfl) rfl rfl ?_
       intro w9 HS9
       try simp only [sc0,sc1]
       refine aA<|ak<|wp_ret<|dn<|aW<|gJ<|aW ?_
       obtain rfl:=Option.some.inj H
       obtain rfl:=Option.some.inj G1
       exact bodyPost_ret (aV rfl (iU rfl Tryz.isAgg171 (HS9.look 1 rfl) Tryz.sizeOf171 rfl)) rfl<|⟨rfl,HS9.toE⟩
      ·replace H:=bW H (nt c4)
       refine wp_skip<|dI<|ak<|region<|rs (vI aG) (aJ rfl)<|rs (vI (w64 (aG+1))) (bK rfl rfl rfl)<|rs (vI (w64 (aG+1))) (aB rfl) ?_
       try simp only [sc0,sc1]
       refine aA<|gZ m (Nat.lt_succ_self m) rfl ⟨(w64 (aG+1)),(fit rfl),H,HS8⟩
     ·replace H:=bW H (nt c3)
      refine wp_exit<|eY ?_
      obtain rfl:=Option.some.inj H
      refine iG rfl ⟨_,rfl,(fit rfl),HS8⟩
   ·rintro us w10 ⟨s1,rfl,ni,ru⟩
    obtain ⟨uo1,rfl⟩:=unj ni
    replace H:=G1
    clear G1
    try simp only [patch,sc0,sc1]
    refine ak<|wp_seq<|region<|rs (Value.agg #[vS ByteArray.empty,vI 0,vI 0,vI 3]) (iy (cs:=[vS ByteArray.empty,vI 0,vI 0,vI 3]) (ps:=[(1,vI 3)]) Tryz.zeroValue171 Tryz.runUnderlying171 (pl:=#[(0,3),(3,1)]) (fun w=>by simp [Tryz.sizeOf129,Tryz.sizeOf34]) (jM (show _=vI 3 from rfl)) rfl) ?_
    refine fV (i:=1) (cs:=[vS ByteArray.empty,vI 0,vI 0,vI 0]) (cs':=[vS ByteArray.empty,vI 0,vI 0,vI 3]) (vs:=[vS ByteArray.empty,vI 0,vI 0,vI 3]) (bs':=[(some b3, .cells #[vI ((rd ah a0.ay v2).aC),vS ((rd ah a0.ay v2).aQ),vI ((rd ah a0.ay v2).bG.aP),vB ((rd ah a0.ay v2).bG.aN),vI ((rd ah a0.ay v2).dM),vI ((rd ah a0.ay v2).vN),vL dG ((rd ah a0.ay v2).au).length dJ] 56 (0,0)),(some b2, .cells #[vS ByteArray.empty,vI 0,vI 0,vI 3] 171 (0,0)),(some b1, .cells #[vL bU a0.ay.length bV] 24 (0,0))]) rfl rfl Tryz.sizeOf171 rfl rfl (by decide) rfl ru rfl (Nat.le_of_ble_eq_true rfl) rfl rfl ?_
    intro w11 qw
    try simp only [sc0,sc1]
    refine aA<|ak<|wp_ret ?_
    obtain rfl:=Option.some.inj H
    exact bodyPost_ret (aV rfl (iU rfl Tryz.isAgg171 (qw.look 1 rfl) Tryz.sizeOf171 rfl)) rfl<|⟨rfl,qw.toE⟩

end Go.Proofs.YtecpbadkdpbkpaaGreatDoor
namespace Go.Proofs.YtecpbadkdpbkpaaGreatDoor
open Go.RowKit Go.M
def bP.l0 (k:Nat) (a0:aU) (a2:List ByteArray):Nat→Int→Int→Int→Option ((eF)⊕(Int×Int))
 |0,_,_,_=>none
 |m+1,aG,dB,jl=>if (decide (jl<(a2.length:Int)))=true then (if 0≤jl∧jl<a2.length then ((dH.f k a0 aG (rd ByteArray.empty a2 jl)).bind fun v2=>(if (v2.vE !=0)=true then (some (.inl (⟨0,0,v2.vE⟩:eF))) else (bP.l0 k a0 a2 m v2.vF.vType (IntKind.wrap .i64 (dB+v2.vF.vAt)) (IntKind.wrap .i64 (jl+1))))) else none) else (some (.inr (aG,dB)))
def bP.f (k:Nat) (a0:aU) (a1:Int) (a2:List ByteArray):Option (eF):=(bQ.f k a0 a1).bind fun v1=>(((if ((v1==0)&&(decide ((a2.length:Int)>16)))=true then (some 2) else (some v1)):Option (Int)).bind fun xx1=>(if (xx1 !=0)=true then (some (⟨0,0,xx1⟩:eF)) else ((bP.l0 k a0 a2 k a1 0 0).bind fun xx2=>(match xx2 with| .inl r=>some r| .inr s1=>some (⟨s1.1,s1.2,0⟩:eF)))))
set_option maxRecDepth 20000 in
set_option maxHeartbeats 4000000 in
theorem bP.calls (k:Nat) (a0:aU) (a1:Int) (a2:List ByteArray) (bU:Option Addr) (bV:Nat) (sV:Option Addr) (sW:Nat) {h0:View} {w0:World} (hv:jL h0 w0) (fK:Rd dV h0 bU a0.ay) (iw:a0.ay.length≤bV) (zG:Rd Kd.str h0 sV a2) (JA:a2.length≤sW) {r:eF} (H:bP.f k a0 a1 a2=some r):Calls Tryz.prog 40 #[Value.agg #[vL bU a0.ay.length bV],vI a1,vL sV a2.length sW] w0 (fun e w1=>e= .returned (Value.agg #[vI r.vType,vI r.vAt,vI r.vE])∧Ext w0 w1):=by
 unfold bP.f at H
 have HS:St [] h0 w0 h0 [] w0:=St.init hv
 go_enter Tryz.func40,Tryz.ntmps40
 refine wp_seq<|region<|dU rfl rfl (dY (cs:=#[vL bU a0.ay.length bV]) rfl rfl) ?_
 rintro w1 _ hE1 ⟨b1,rfl,ge1,hb1⟩
 have HS1:=HS.new hE1 ge1 hb1
 refine dU rfl rfl (fA (cs:=#[vI 0,vI 0,vI 0]) Tryz.zeroValue115 rfl) ?_
 rintro w2 _ hE2 ⟨b2,rfl,ge2,hb2⟩
 have HS2:=HS1.new hE2 ge2 hb2
 try simp only [sc0,sc1]
 refine aA<|ak<|wp_seq<|region<|rs (Value.agg #[vL bU a0.ay.length bV]) (aZ (n:=1) (vs:=[vL bU a0.ay.length bV]) rfl Tryz.isAgg24 (HS2.look 1 rfl) Tryz.sizeOf24 rfl rfl)<|rs (vI a1) (aJ rfl) ?_
 obtain ⟨v1,H1,H⟩:=bJ H
 refine run_eq (v:=vI v1) rfl rfl (bf Tryz.call82 rfl rfl (bQ.calls k a0 a1 bU bV HS2.sees fK iw H1)) ?_
 intro w3 hE3
 have HS3:=HS2.step hE3
 refine rs (vI v1) (aB rfl) ?_
 try simp only [sc0,sc1]
 refine aA<|ak<|wp_seq<|wp_seq<|region<|rs (vI v1) (aJ rfl)<|rs (vB (v1==0)) (bK rfl rfl rfl)<|rs (vB (v1==0)) (aJ rfl)<|rgs (v1==0) true (vL sV a2.length sW) rfl rfl rfl rfl (fun hg=>(aJ rfl))<|aI (by simp only [sc0,sc1];rfl) ?_
 refine rgs (v1==0) true (vI (a2.length:Int)) rfl rfl rfl rfl (fun hg=>(jJ (gvt (vL sV a2.length sW) hg rfl) Tryz.runUnderlying30))<|rgs (v1==0) true (vB (decide ((a2.length:Int)>16))) rfl rfl rfl rfl (fun hg=>(bK (gvt (vI (a2.length:Int)) hg rfl) rfl rfl))<|rs (vB ((v1==0)&&(decide ((a2.length:Int)>16)))) (dA rfl (fun hp=>(gvt (vB (decide ((a2.length:Int)>16))) (gu rfl hp) rfl)) rfl) ?_
 try simp only [sc0,sc1]
 refine aA<|ak ?_
 obtain ⟨xx1,H,G1⟩:=bJ H
 refine lX [7] (fun us w'=>Fit us (fun uj1=>[vI xx1])∧St [] h0 w0 h0 [(some b2, .cells #[vI 0,vI 0,vI 0] 115 (0,0)),(some b1, .cells #[vL bU a0.ay.length bV] 24 (0,0))] w') ?_ ?_
 ·refine wp_cond_split (t:=((v1==0)&&(decide ((a2.length:Int)>16)))) rfl (fun c1=>?_) (fun c1=>?_)
  ·replace H:=bM H c1
   refine region<|rs (vI 2) (aB rfl) ?_
   try simp only [sc0,sc1]
   refine aA ?_
   obtain rfl:=Option.some.inj H
   refine qM rfl ⟨(fit rfl),HS3⟩
  ·replace H:=bW H (nt c1)
   refine wp_skip ?_
   obtain rfl:=Option.some.inj H
   refine qM rfl ⟨(fit rfl),HS3⟩
 ·rintro us w4 ⟨Qe,HS4⟩
  obtain ⟨uj1,rfl⟩:=unj Qe
  replace H:=G1
  clear G1
  try simp only [patch,sc0,sc1]
  refine wp_seq<|wp_seq<|region<|rs (vI xx1) (aJ rfl)<|rs (vB (xx1 !=0)) (bK rfl rfl rfl) ?_
  try simp only [sc0,sc1]
  refine aA<|ak<|wp_cond_split (t:=(xx1 !=0)) rfl (fun c2=>?_) (fun c2=>?_)
  ·replace H:=bM H c2
   refine wp_seq<|region<|rs (vI xx1) (aJ rfl)<|rs (Value.agg #[vI 0,vI 0,vI xx1]) (iy (cs:=[vI 0,vI 0,vI xx1]) (ps:=[(2,vI xx1)]) Tryz.zeroValue115 Tryz.runUnderlying115 (pl:=#[(0,1),(1,1),(2,1)]) (fun w=>by simp [Tryz.sizeOf3,Tryz.sizeOf34]) (jM (show _=vI xx1 from rfl)) rfl) ?_
   refine fV (i:=0) (cs:=[vI 0,vI 0,vI 0]) (cs':=[vI 0,vI 0,vI xx1]) (vs:=[vI 0,vI 0,vI xx1]) (bs':=[(some b2, .cells #[vI 0,vI 0,vI xx1] 115 (0,0)),(some b1, .cells #[vL bU a0.ay.length bV] 24 (0,0))]) rfl rfl Tryz.sizeOf115 rfl rfl (by decide) rfl HS4 rfl (Nat.le_of_ble_eq_true rfl) rfl rfl ?_
   intro w5 HS5
   try simp only [sc0,sc1]
   refine aA<|ak<|wp_ret<|aW ?_
   obtain rfl:=Option.some.inj H
   exact bodyPost_ret (aV rfl (iU rfl Tryz.isAgg115 (HS5.look 0 rfl) Tryz.sizeOf115 rfl)) rfl<|⟨rfl,HS5.toE⟩
  ·replace H:=bW H (nt c2)
   refine wp_skip<|ak<|wp_seq<|region<|rs (vI 0) (aB rfl) ?_
   try simp only [sc0,sc1]
   refine aA<|ak<|wp_seq<|wp_seq<|region<|rs (vI 0) (aB rfl) ?_
   try simp only [sc0,sc1]
   refine aA<|ak ?_
   obtain ⟨xx2,H,G2⟩:=bJ H
   refine jm [1,8,9,10,25,26,27,28,29,30,31,32,33,34,35,36,37,38,39,40,41,42,43,44,45,46,47,48,49,50,51] (fun m us w'=>∃aG dB jl:Int,Fit us (fun uy1=>[vI aG,vI dB,vI jl,(uy1 3),(uy1 4),(uy1 5),(uy1 6),(uy1 7),(uy1 8),(uy1 9),(uy1 10),(uy1 11),(uy1 12),(uy1 13),(uy1 14),(uy1 15),(uy1 16),(uy1 17),(uy1 18),(uy1 19),(uy1 20),(uy1 21),(uy1 22),(uy1 23),(uy1 24),(uy1 25),(uy1 26),(uy1 27),(uy1 28),(uy1 29),(uy1 30)])∧bP.l0 k a0 a2 m aG dB jl=some xx2∧St [] h0 w0 h0 [(some b2, .cells #[vI 0,vI 0,vI 0] 115 (0,0)),(some b1, .cells #[vL bU a0.ay.length bV] 24 (0,0))] w') (fun us w'=>∃(s1:Int×Int),xx2= .inr s1∧Fit us (fun uo1=>[vI s1.1,vI s1.2,(uo1 2),(uo1 3),(uo1 4),(uo1 5),(uo1 6),(uo1 7),(uo1 8),(uo1 9),(uo1 10),(uo1 11),(uo1 12),(uo1 13),(uo1 14),(uo1 15),(uo1 16),(uo1 17),(uo1 18),(uo1 19),(uo1 20),(uo1 21),(uo1 22),(uo1 23),(uo1 24),(uo1 25),(uo1 26),(uo1 27),(uo1 28),(uo1 29),(uo1 30)])∧St [] h0 w0 h0 [(some b2, .cells #[vI 0,vI 0,vI 0] 115 (0,0)),(some b1, .cells #[vL bU a0.ay.length bV] 24 (0,0))] w') k ⟨a1,0,0,(fit rfl),H,HS4⟩ ?_ ?_
   ·rintro m us w6 ⟨aG,dB,jl,ng,H,HS6⟩
    obtain ⟨uy1,rfl⟩:=unj ng
    cases m with
    |zero=>exact absurd H (by simp [bP.l0])
    |succ m=>
     rw [bP.l0] at H
     try simp only [patch,sc0,sc1]
     refine wp_seq<|wp_seq<|region<|rs (vI jl) (aJ rfl)<|rs (vL sV a2.length sW) (aJ rfl)<|rs (vI (a2.length:Int)) (jJ rfl Tryz.runUnderlying30)<|rs (vB (decide (jl<(a2.length:Int)))) (bK rfl rfl rfl) ?_
     try simp only [sc0,sc1]
     refine aA<|ak<|wp_cond_split (t:=(decide (jl<(a2.length:Int)))) rfl (fun c3=>?_) (fun c3=>?_)
     ·replace H:=bM H c3
      refine wp_skip<|ak<|wp_seq<|wp_block<|wp_seq ?_
      obtain ⟨hi1,H⟩:=eG H
      obtain ⟨ad1,e1,lu⟩:=Qz zG hi1.1 hi1.2
      obtain ⟨v2,H2,H⟩:=bJ H
      refine drawn [.eq (Value.agg #[vL bU a0.ay.length bV]), .eq (vI aG), .eq (vL sV a2.length sW), .eq (vI jl), .eq (Value.pointer (some (Addr.add ad1 (jl.toNat*1)))), .eq (vS (rd ByteArray.empty a2 jl)), .eq (Value.agg #[vS v2.vF.aQ,vI v2.vF.vType,vI v2.vF.vAt,vI v2.vE]), .ex (nD w6 #[vS ByteArray.empty,vI 0,vI 0,vI 0] 171)] [31,32,33,34,35,36,37,10] lW (by kernel_rfl) rfl (aS (aS (aS (aS (aS (aS (aS (oC nD.stable iP)))))))) ⟨aY rfl (fun a' w' hE hk=>by have HSd:=HS6.step hE;exact bI (aZ (n:=1) (vs:=[vL bU a0.ay.length bV]) (show _=vP b1 0 from hk 3 rfl) Tryz.isAgg24 (HSd.look 1 rfl) Tryz.sizeOf24 rfl rfl)),aY rfl (fun a' w' hE hk=>by have HSd:=HS6.step hE;exact bI (aJ (show _=vI aG from hk 1 rfl))),aY rfl (fun a' w' hE hk=>by have HSd:=HS6.step hE;exact bI (aJ (show _=vL sV a2.length sW from hk 2 rfl))),aY rfl (fun a' w' hE hk=>by have HSd:=HS6.step hE;exact bI (aJ (show _=vI jl from hk 9 rfl))),aY rfl (fun a' w' hE hk=>by have HSd:=HS6.step hE;exact bI (dP (sz:=1) (show _=vL sV a2.length sW from hk 33 rfl) e1 (show _=vI jl from hk 34 rfl) hi1.1 hi1.2 Tryz.runUnderlying30 Tryz.sizeOf9)),aY rfl (fun a' w' hE hk=>by have HSd:=HS6.step hE;exact bI (jC (show _=Value.pointer (some (Addr.add ad1 (jl.toNat*1))) from hk 35 rfl) Tryz.isAgg9 (lu.cell0 HSd.sees rfl))),aY rfl (fun a' w' hE hk=>by have HSd:=HS6.step hE;exact (bf Tryz.call83 rfl (YO (show _=Value.agg #[vL bU a0.ay.length bV] from hk 31 rfl) (show _=vI aG from hk 32 rfl) (show _=vS (rd ByteArray.empty a2 jl) from hk 36 rfl)) (dH.calls k a0 aG (rd ByteArray.empty a2 jl) bU bV HSd.sees fK iw H2))),aY rfl (fun a' w' hE hk=>(tC hE (cs:=#[vS ByteArray.empty,vI 0,vI 0,vI 0]) Tryz.zeroValue171 rfl)),trivial⟩ ?_
      intro w7 hE4
      simp only [List.zip_cons_cons,List.zip_nil_left,List.zip_nil_right,yg,sc0,sc1,List.length_cons,List.length_nil,List.drop_succ_cons,List.drop_zero,Nat.zero_add,Nat.reduceAdd]
      rintro _ ⟨b3,rfl,ge3,hb3⟩
      have HS7:=HS6.new hE4 ge3 hb3
      refine fV (i:=0) (cs:=[vS ByteArray.empty,vI 0,vI 0,vI 0]) (cs':=[vS v2.vF.aQ,vI v2.vF.vType,vI v2.vF.vAt,vI v2.vE]) (vs:=[vS v2.vF.aQ,vI v2.vF.vType,vI v2.vF.vAt,vI v2.vE]) (bs':=[(some b3, .cells #[vS v2.vF.aQ,vI v2.vF.vType,vI v2.vF.vAt,vI v2.vE] 171 (0,0)),(some b2, .cells #[vI 0,vI 0,vI 0] 115 (0,0)),(some b1, .cells #[vL bU a0.ay.length bV] 24 (0,0))]) rfl rfl Tryz.sizeOf171 rfl rfl (by decide) rfl HS7 rfl (Nat.le_of_ble_eq_true rfl) rfl rfl ?_
      intro w8 HS8
      try simp only [sc0,sc1]
      refine aA<|ak<|wp_seq<|wp_seq<|region<|rs (vP b3 3) (aH (n:=1) (o':=3) rfl Tryz.runUnderlying171 rfl Tryz.sizeOf34 (by decide) rfl)<|rs (vI v2.vE) (aK rfl Tryz.isAgg34 (HS8.look 0 rfl) rfl)<|rs (vB (v2.vE !=0)) (bK rfl rfl rfl) ?_
      try simp only [sc0,sc1]
      refine aA<|ak<|wp_cond_split (t:=(v2.vE !=0)) rfl (fun c4=>?_) (fun c4=>?_)
      ·replace H:=bM H c4
       refine wp_seq<|region<|rs (vP b3 3) (aH (n:=1) (o':=3) rfl Tryz.runUnderlying171 rfl Tryz.sizeOf34 (by decide) rfl)<|rs (vI v2.vE) (aK rfl Tryz.isAgg34 (HS8.look 0 rfl) rfl)<|rs (Value.agg #[vI 0,vI 0,vI v2.vE]) (iy (cs:=[vI 0,vI 0,vI v2.vE]) (ps:=[(2,vI v2.vE)]) Tryz.zeroValue115 Tryz.runUnderlying115 (pl:=#[(0,1),(1,1),(2,1)]) (fun w=>by simp [Tryz.sizeOf3,Tryz.sizeOf34]) (jM (show _=vI v2.vE from rfl)) rfl) ?_
       refine fV (i:=1) (cs:=[vI 0,vI 0,vI 0]) (cs':=[vI 0,vI 0,vI v2.vE]) (vs:=[vI 0,vI 0,vI v2.vE]) (bs':=[(some b3, .cells #[vS v2.vF.aQ,vI v2.vF.vType,vI v2.vF.vAt,vI v2.vE] 171 (0,0)),(some b2, .cells #[vI 0,vI 0,vI v2.vE] 115 (0,0)),(some b1, .cells #[vL bU a0.ay.length bV] 24 (0,0))]) rfl rfl Tryz.sizeOf115 rfl rfl (by decide) rfl HS8 rfl (Nat.le_of_ble_eq_true rfl) rfl rfl ?_
       intro w9 HS9
       try simp only [sc0,sc1]
       refine aA<|ak<|wp_ret<|aW<|dn<|aW<|gJ<|aW ?_
       obtain rfl:=Option.some.inj H
       obtain rfl:=Option.some.inj G2
       exact bodyPost_ret (aV rfl (iU rfl Tryz.isAgg115 (HS9.look 1 rfl) Tryz.sizeOf115 rfl)) rfl<|⟨rfl,HS9.toE⟩
      ·replace H:=bW H (nt c4)
       refine wp_skip<|ak<|wp_seq<|region<|rs (vP b3 0) (aH (n:=3) (o':=0) rfl Tryz.runUnderlying171 rfl Tryz.sizeOf129 (by decide) rfl)<|rs (vP b3 1) (aH (n:=1) (o':=1) rfl Tryz.runUnderlying129 rfl Tryz.sizeOf3 (by decide) rfl)<|rs (vI v2.vF.vType) (aK rfl Tryz.isAgg3 (HS8.look 0 rfl) rfl)<|rs (vI v2.vF.vType) (aB rfl) ?_
       try simp only [sc0,sc1]
       refine aA<|ak<|region<|rs (vI dB) (aJ rfl)<|rs (vP b3 0) (aH (n:=3) (o':=0) rfl Tryz.runUnderlying171 rfl Tryz.sizeOf129 (by decide) rfl)<|rs (vP b3 2) (aH (n:=1) (o':=2) rfl Tryz.runUnderlying129 rfl Tryz.sizeOf3 (by decide) rfl)<|rs (vI v2.vF.vAt) (aK rfl Tryz.isAgg3 (HS8.look 0 rfl) rfl)<|aI (by simp only [sc0,sc1];rfl) ?_
       refine rs (vI (w64 (dB+v2.vF.vAt))) (bK rfl rfl rfl)<|rs (vI (w64 (dB+v2.vF.vAt))) (aB rfl) ?_
       try simp only [sc0,sc1]
       refine aA<|dI<|ak<|region<|rs (vI jl) (aJ rfl)<|rs (vI (w64 (jl+1))) (bK rfl rfl rfl)<|rs (vI (w64 (jl+1))) (aB rfl) ?_
       try simp only [sc0,sc1]
       refine aA<|gZ m (Nat.lt_succ_self m) rfl ⟨v2.vF.vType,(w64 (dB+v2.vF.vAt)),(w64 (jl+1)),(fit rfl),H,HS8.tail⟩
     ·replace H:=bW H (nt c3)
      refine wp_exit<|eY ?_
      obtain rfl:=Option.some.inj H
      refine iG rfl ⟨_,rfl,(fit rfl),HS6⟩
   ·rintro us w10 ⟨s1,rfl,ni,ru⟩
    obtain ⟨uo1,rfl⟩:=unj ni
    replace H:=G2
    clear G2
    try simp only [patch,sc0,sc1]
    refine ak<|wp_seq<|region<|rs (vI s1.1) (aJ rfl)<|rs (vI s1.2) (aJ rfl)<|rs (Value.agg #[vI s1.1,vI s1.2,vI 0]) (iy (cs:=[vI s1.1,vI s1.2,vI 0]) (ps:=[(0,vI s1.1),(1,vI s1.2)]) Tryz.zeroValue115 Tryz.runUnderlying115 (pl:=#[(0,1),(1,1),(2,1)]) (fun w=>by simp [Tryz.sizeOf3,Tryz.sizeOf34]) (oD (show _=vI s1.1 from rfl) (show _=vI s1.2 from rfl)) rfl) ?_
    refine fV (i:=0) (cs:=[vI 0,vI 0,vI 0]) (cs':=[vI s1.1,vI s1.2,vI 0]) (vs:=[vI s1.1,vI s1.2,vI 0]) (bs':=[(some b2, .cells #[vI s1.1,vI s1.2,vI 0] 115 (0,0)),(some b1, .cells #[vL bU a0.ay.length bV] 24 (0,0))]) rfl rfl Tryz.sizeOf115 rfl rfl (by decide) rfl ru rfl (Nat.le_of_ble_eq_true rfl) rfl rfl ?_
    intro w11 qw
    try simp only [sc0,sc1]
    refine aA<|ak<|wp_ret ?_
    obtain rfl:=Option.some.inj H
    exact bodyPost_ret (aV rfl (iU rfl Tryz.isAgg115 (qw.look 0 rfl) Tryz.sizeOf115 rfl)) rfl<|⟨rfl,qw.toE⟩

end Go.Proofs.YtecpbadkdpbkpaaGreatDoor
namespace Go.Proofs.YtecpbadkdpbkpaaGreatDoor
open Go.RowKit Go.M
def eX.f (k:Nat) (a0:aU) (a1:Int):Option (gV):=(bQ.f k a0 a1).bind fun v1=>(if (v1 !=0)=true then (some (⟨0,v1⟩:gV)) else ((aT.f k a0).bind fun v2=>(if 0≤a1∧a1<v2.length then (some (⟨(rd 0 v2 a1),0⟩:gV)) else none)))
set_option maxRecDepth 20000 in
set_option maxHeartbeats 4000000 in
theorem eX.calls (k:Nat) (a0:aU) (a1:Int) (bU:Option Addr) (bV:Nat) {h0:View} {w0:World} (hv:jL h0 w0) (fK:Rd dV h0 bU a0.ay) (iw:a0.ay.length≤bV) {r:gV} (H:eX.f k a0 a1=some r):Calls Tryz.prog 44 #[Value.agg #[vL bU a0.ay.length bV],vI a1] w0 (fun e w1=>e= .returned (Value.agg #[vI r.vN,vI r.vE])∧Ext w0 w1):=by
 unfold eX.f at H
 have HS:St [] h0 w0 h0 [] w0:=St.init hv
 go_enter Tryz.func44,Tryz.ntmps44
 refine wp_seq<|region<|dU rfl rfl (dY (cs:=#[vL bU a0.ay.length bV]) rfl rfl) ?_
 rintro w1 _ hE1 ⟨b1,rfl,ge1,hb1⟩
 have HS1:=HS.new hE1 ge1 hb1
 refine dU rfl rfl (fA (cs:=#[vI 0,vI 0]) Tryz.zeroValue120 rfl) ?_
 rintro w2 _ hE2 ⟨b2,rfl,ge2,hb2⟩
 have HS2:=HS1.new hE2 ge2 hb2
 try simp only [sc0,sc1]
 refine aA<|ak<|wp_seq<|region<|rs (Value.agg #[vL bU a0.ay.length bV]) (aZ (n:=1) (vs:=[vL bU a0.ay.length bV]) rfl Tryz.isAgg24 (HS2.look 1 rfl) Tryz.sizeOf24 rfl rfl)<|rs (vI a1) (aJ rfl) ?_
 obtain ⟨v1,H1,H⟩:=bJ H
 refine run_eq (v:=vI v1) rfl rfl (bf Tryz.call82 rfl rfl (bQ.calls k a0 a1 bU bV HS2.sees fK iw H1)) ?_
 intro w3 hE3
 have HS3:=HS2.step hE3
 refine rs (vI v1) (aB rfl) ?_
 try simp only [sc0,sc1]
 refine aA<|ak<|wp_seq<|wp_seq<|region<|rs (vI v1) (aJ rfl)<|rs (vB (v1 !=0)) (bK rfl rfl rfl) ?_
 try simp only [sc0,sc1]
 refine aA<|ak<|wp_cond_split (t:=(v1 !=0)) rfl (fun c1=>?_) (fun c1=>?_)
 ·replace H:=bM H c1
  refine wp_seq<|region<|rs (vI v1) (aJ rfl)<|rs (Value.agg #[vI 0,vI v1]) (iy (cs:=[vI 0,vI v1]) (ps:=[(1,vI v1)]) Tryz.zeroValue120 Tryz.runUnderlying120 (pl:=#[(0,1),(1,1)]) (fun w=>by simp [Tryz.sizeOf3,Tryz.sizeOf34]) (jM (show _=vI v1 from rfl)) rfl) ?_
  refine fV (i:=0) (cs:=[vI 0,vI 0]) (cs':=[vI 0,vI v1]) (vs:=[vI 0,vI v1]) (bs':=[(some b2, .cells #[vI 0,vI v1] 120 (0,0)),(some b1, .cells #[vL bU a0.ay.length bV] 24 (0,0))]) rfl rfl Tryz.sizeOf120 rfl rfl (by decide) rfl HS3 rfl (Nat.le_of_ble_eq_true rfl) rfl rfl ?_
  intro w4 HS4
  try simp only [sc0,sc1]
  refine aA<|ak<|wp_ret<|aW ?_
  obtain rfl:=Option.some.inj H
  exact bodyPost_ret (aV rfl (iU rfl Tryz.isAgg120 (HS4.look 0 rfl) Tryz.sizeOf120 rfl)) rfl<|⟨rfl,HS4.toE⟩
 ·replace H:=bW H (nt c1)
  refine wp_skip<|ak<|wp_seq<|region<|rs (Value.agg #[vL bU a0.ay.length bV]) (aZ (n:=1) (vs:=[vL bU a0.ay.length bV]) rfl Tryz.isAgg24 (HS3.look 1 rfl) Tryz.sizeOf24 rfl rfl) ?_
  obtain ⟨v2,H2,H⟩:=bJ H
  refine dU rfl rfl (kP Tryz.call79 rfl (nT (h:=h0) (R:=(fun hx u=>∃(gG:Option Addr) (gI:Nat),u=vL gG v2.length gI∧v2.length≤gI∧Rd (Kd.int .i64) hx gG v2)) (Ext.rfl' w3) ((aT.calls k a0 bU bV HS3.sees fK iw H2).mono ?_)) rfl) ?_
  ·rintro _ _ ⟨h1,gG,gI,rfl,mQ,jH,g,ss,x⟩
   exact ⟨h1,_,rfl,⟨gG,gI,rfl,mQ,jH⟩,g,ss,x⟩
  rintro w5 _ hE4 ⟨h1,⟨gG,gI,rfl,mQ,jH⟩,gr1,se1⟩
  have HS5:=HS3.view hE4 gr1 se1
  refine rs (vI a1) (aJ rfl) ?_
  obtain ⟨hi1,H⟩:=eG H
  obtain ⟨ad1,e1,lu⟩:=rF jH hi1.1 hi1.2
  refine rs (Value.pointer (some (Addr.add ad1 (a1.toNat*1)))) (dP (sz:=1) rfl e1 rfl hi1.1 hi1.2 Tryz.runUnderlying81 Tryz.sizeOf3)<|aI (by simp only [sc0,sc1];rfl) ?_
  refine rs (vI (rd 0 v2 a1)) (jC rfl Tryz.isAgg3 (lu.cell0 HS5.sees rfl))<|rs (Value.agg #[vI (rd 0 v2 a1),vI 0]) (iy (cs:=[vI (rd 0 v2 a1),vI 0]) (ps:=[(0,vI (rd 0 v2 a1))]) Tryz.zeroValue120 Tryz.runUnderlying120 (pl:=#[(0,1),(1,1)]) (fun w=>by simp [Tryz.sizeOf3,Tryz.sizeOf34]) (jM (show _=vI (rd 0 v2 a1) from rfl)) rfl) ?_
  refine fV (i:=0) (cs:=[vI 0,vI 0]) (cs':=[vI (rd 0 v2 a1),vI 0]) (vs:=[vI (rd 0 v2 a1),vI 0]) (bs':=[(some b2, .cells #[vI (rd 0 v2 a1),vI 0] 120 (0,0)),(some b1, .cells #[vL bU a0.ay.length bV] 24 (0,0))]) rfl rfl Tryz.sizeOf120 rfl rfl (by decide) rfl HS5 rfl (Nat.le_of_ble_eq_true rfl) rfl rfl ?_
  intro w6 HS6
  try simp only [sc0,sc1]
  refine aA<|ak<|wp_ret ?_
  obtain rfl:=Option.some.inj H
  exact bodyPost_ret (aV rfl (iU rfl Tryz.isAgg120 (HS6.look 0 rfl) Tryz.sizeOf120 rfl)) rfl<|⟨rfl,HS6.toE⟩

end Go.Proofs.YtecpbadkdpbkpaaGreatDoor
namespace Go.Proofs.YtecpbadkdpbkpaaGreatDoor
open Go.RowKit Go.M
def iZ.f (a0:dL):Option (Int):=if ((((a0.aP !=1)&&(a0.aP !=2))&&(a0.aP !=4))&&(a0.aP !=8))=true then (some 10) else (some 0)
set_option maxRecDepth 20000 in
set_option maxHeartbeats 4000000 in
theorem iZ.calls (a0:dL) {h0:View} {w0:World} (hv:jL h0 w0) {r:Int} (H:iZ.f a0=some r):Calls Tryz.prog 64 #[Value.agg #[vI a0.aP,vB a0.aN]] w0 (fun e w1=>e= .returned (vI r)∧Ext w0 w1):=by
 unfold iZ.f at H
 have HS:St [] h0 w0 h0 [] w0:=St.init hv
 go_enter Tryz.func64,Tryz.ntmps64
 refine wp_seq<|region<|dU rfl rfl (dY (cs:=#[vI a0.aP,vB a0.aN]) rfl rfl) ?_
 rintro w1 _ hE1 ⟨b1,rfl,ge1,hb1⟩
 have HS1:=HS.new hE1 ge1 hb1
 refine rs (vI 0) (aB rfl) ?_
 try simp only [sc0,sc1]
 refine aA<|ak<|wp_seq<|wp_seq<|region<|rs (vP b1 0) (aH (n:=1) (o':=0) rfl Tryz.runUnderlying29 rfl Tryz.sizeOf3 (by decide) rfl)<|rs (vI a0.aP) (aK rfl Tryz.isAgg3 (HS1.look 0 rfl) rfl)<|rs (vB (a0.aP !=1)) (bK rfl rfl rfl)<|rs (vB (a0.aP !=1)) (aJ rfl)<|aI (by simp only [sc0,sc1];rfl) ?_
 refine rgs (a0.aP !=1) true (vP b1 0) rfl rfl rfl rfl (fun hg=>(aH (n:=1) (o':=0) rfl Tryz.runUnderlying29 rfl Tryz.sizeOf3 (by decide) rfl))<|rgs (a0.aP !=1) true (vI a0.aP) rfl rfl rfl rfl (fun hg=>(aK (gvt (vP b1 0) hg rfl) Tryz.isAgg3 (HS1.look 0 rfl) rfl))<|rgs (a0.aP !=1) true (vB (a0.aP !=2)) rfl rfl rfl rfl (fun hg=>(bK (gvt (vI a0.aP) hg rfl) rfl rfl))<|rs (vB ((a0.aP !=1)&&(a0.aP !=2))) (dA rfl (fun hp=>(gvt (vB (a0.aP !=2)) (gu rfl hp) rfl)) rfl)<|aI (by simp only [sc0,sc1];rfl) ?_
 refine rs (vB ((a0.aP !=1)&&(a0.aP !=2))) (aJ rfl)<|rgs ((a0.aP !=1)&&(a0.aP !=2)) true (vP b1 0) rfl rfl rfl rfl (fun hg=>(aH (n:=1) (o':=0) rfl Tryz.runUnderlying29 rfl Tryz.sizeOf3 (by decide) rfl))<|rgs ((a0.aP !=1)&&(a0.aP !=2)) true (vI a0.aP) rfl rfl rfl rfl (fun hg=>(aK (gvt (vP b1 0) hg rfl) Tryz.isAgg3 (HS1.look 0 rfl) rfl))<|rgs ((a0.aP !=1)&&(a0.aP !=2)) true (vB (a0.aP !=4)) rfl rfl rfl rfl (fun hg=>(bK (gvt (vI a0.aP) hg rfl) rfl rfl))<|aI (by simp only [sc0,sc1];rfl) ?_
 refine rs (vB (((a0.aP !=1)&&(a0.aP !=2))&&(a0.aP !=4))) (dA rfl (fun hp=>(gvt (vB (a0.aP !=4)) (gu rfl hp) rfl)) rfl)<|rs (vB (((a0.aP !=1)&&(a0.aP !=2))&&(a0.aP !=4))) (aJ rfl)<|rgs (((a0.aP !=1)&&(a0.aP !=2))&&(a0.aP !=4)) true (vP b1 0) rfl rfl rfl rfl (fun hg=>(aH (n:=1) (o':=0) rfl Tryz.runUnderlying29 rfl Tryz.sizeOf3 (by decide) rfl))<|rgs (((a0.aP !=1)&&(a0.aP !=2))&&(a0.aP !=4)) true (vI a0.aP) rfl rfl rfl rfl (fun hg=>(aK (gvt (vP b1 0) hg rfl) Tryz.isAgg3 (HS1.look 0 rfl) rfl))<|aI (by simp only [sc0,sc1];rfl) ?_
 refine rgs (((a0.aP !=1)&&(a0.aP !=2))&&(a0.aP !=4)) true (vB (a0.aP !=8)) rfl rfl rfl rfl (fun hg=>(bK (gvt (vI a0.aP) hg rfl) rfl rfl))<|rs (vB ((((a0.aP !=1)&&(a0.aP !=2))&&(a0.aP !=4))&&(a0.aP !=8))) (dA rfl (fun hp=>(gvt (vB (a0.aP !=8)) (gu rfl hp) rfl)) rfl) ?_
 try simp only [sc0,sc1]
 refine aA<|ak<|wp_cond_split (t:=((((a0.aP !=1)&&(a0.aP !=2))&&(a0.aP !=4))&&(a0.aP !=8))) rfl (fun c1=>?_) (fun c1=>?_)
 ·replace H:=bM H c1
  refine wp_seq<|region<|rs (vI 10) (aB rfl) ?_
  try simp only [sc0,sc1]
  refine aA<|ak<|wp_ret<|aW ?_
  obtain rfl:=Option.some.inj H
  exact bodyPost_ret (aV rfl (aX rfl)) rfl<|⟨rfl,HS1.toE⟩
 ·replace H:=bW H (nt c1)
  refine wp_skip<|ak<|wp_seq<|region<|rs (vI 0) (aB rfl) ?_
  try simp only [sc0,sc1]
  refine aA<|ak<|wp_ret ?_
  obtain rfl:=Option.some.inj H
  exact bodyPost_ret (aV rfl (aX rfl)) rfl<|⟨rfl,HS1.toE⟩

end Go.Proofs.YtecpbadkdpbkpaaGreatDoor
namespace Go.Proofs.YtecpbadkdpbkpaaGreatDoor
open Go.RowKit Go.M
def dQ.l0 (a0:dL):Nat→Int→Int→(List Int)→Option ((List Int))
 |0,_,_,_=>none
 |m+1,aG,dB,jl=>if (decide (dB<a0.aP))=true then (if jl.length+1≤4294967296 then (dQ.l0 a0 m (QB .i64 (IntKind.wrap .i64 (aG-(DF .i64 aG 255))) 256) (IntKind.wrap .i64 (dB+1)) (jl++([(IntKind.wrap .u8 (DF .i64 aG 255))]:List Int))) else none) else (some jl)
def dQ.f (k:Nat) (a0:dL) (a1:Int):Option ((List Int)×Int):=(iZ.f a0).bind fun v1=>(if (v1 !=0)=true then (some (([]:List Int),v1)) else ((dQ.l0 a0 k a1 0 ([]:List Int)).bind fun xx1=>(some (xx1,0))))
set_option maxRecDepth 20000 in
set_option maxHeartbeats 4000000 in
theorem dQ.calls (k:Nat) (a0:dL) (a1:Int) {h0:View} {w0:World} (hv:jL h0 w0) {r:(List Int)×Int} (H:dQ.f k a0 a1=some r):Calls Tryz.prog 87 #[Value.agg #[vI a0.aP,vB a0.aN],vI a1] w0 (fun e w1=>∃(h1:View) (bU:Option Addr) (bV:Nat),e= .returned (Value.tuple #[vL bU r.1.length bV,vI r.2])∧r.1.length≤bV∧Rd (Kd.int .u8) h1 bU r.1∧Gr w0.heap.size h0 h1∧jL h1 w1∧Ext w0 w1):=by
 unfold dQ.f at H
 have HS:St [] h0 w0 h0 [] w0:=St.init hv
 go_enter Tryz.func87,Tryz.ntmps87
 refine wp_seq<|region<|dU rfl rfl (dY (cs:=#[vI a0.aP,vB a0.aN]) rfl rfl) ?_
 rintro w1 _ hE1 ⟨b1,rfl,ge1,hb1⟩
 have HS1:=HS.new hE1 ge1 hb1
 refine rs (vL none 0 0) (aB rfl)<|rs (vI 0) (aB rfl) ?_
 try simp only [sc0,sc1]
 refine aA<|ak<|wp_seq<|wp_seq<|region<|rs (Value.agg #[vI a0.aP,vB a0.aN]) (aZ (n:=2) (vs:=[vI a0.aP,vB a0.aN]) rfl Tryz.isAgg29 (HS1.look 0 rfl) Tryz.sizeOf29 rfl rfl) ?_
 obtain ⟨v1,H1,H⟩:=bJ H
 refine run_eq (v:=vI v1) rfl rfl (bf Tryz.call64 rfl rfl (iZ.calls a0 HS1.sees H1)) ?_
 intro w2 hE2
 have HS2:=HS1.step hE2
 refine rs (vI v1) (aB rfl) ?_
 try simp only [sc0,sc1]
 refine aA<|ak<|wp_seq<|region<|rs (vI v1) (aJ rfl)<|rs (vB (v1 !=0)) (bK rfl rfl rfl) ?_
 try simp only [sc0,sc1]
 refine aA<|ak<|wp_cond_split (t:=(v1 !=0)) rfl (fun c1=>?_) (fun c1=>?_)
 ·replace H:=bM H c1
  refine wp_seq<|region<|rs (vI v1) (aJ rfl)<|rs (vL none 0 0) (aB rfl)<|rs (vI v1) (aB rfl) ?_
  try simp only [sc0,sc1]
  refine aA<|ak<|wp_ret<|aW ?_
  obtain rfl:=Option.some.inj H
  exact bodyPost_ret (fM rfl (aX rfl) (aX rfl)) rfl<|⟨h0,none,0,rfl,(Nat.le_refl 0),(Rd.nil _ _ _),HS2.gr,HS2.sees,HS2.toE⟩
 ·replace H:=bW H (nt c1)
  refine wp_skip<|ak<|wp_seq<|region<|rs (vL none 0 0) (aB rfl) ?_
  try simp only [sc0,sc1]
  refine aA<|ak<|wp_seq<|wp_seq<|region<|rs (vI 0) (aB rfl) ?_
  try simp only [sc0,sc1]
  refine aA<|ak ?_
  have HS3:=HS2.nothing (.cells ([]:List Value).toArray 5 (0,0))
  obtain ⟨xx1,H,G1⟩:=bJ H
  refine jm [1,7,8,14,15,16,17,18,19,20,21,22,23,24,25,26,27,28,29,30] (fun m us w'=>∃aG dB:Int,∃jl:List Int,∃(lU:Option Nat) (sQ:Nat),∃(nO:List Value),Fit us (fun uy1=>[vI aG,vL (rowA lU) jl.length sQ,vI dB,(uy1 3),(uy1 4),(uy1 5),(uy1 6),(uy1 7),(uy1 8),(uy1 9),(uy1 10),(uy1 11),(uy1 12),(uy1 13),(uy1 14),(uy1 15),(uy1 16),(uy1 17),(uy1 18),(uy1 19)])∧dQ.l0 a0 m aG dB jl=some xx1∧gY (Kd.int .u8) h0 jl lU jl.length sQ nO∧St [] h0 w0 h0 [(lU, .cells (nO).toArray 5 (0,0)),(some b1, .cells #[vI a0.aP,vB a0.aN] 29 (0,0))] w') (fun us w'=>∃(kT:Option Nat) (qp:Nat),∃(kD:List Value),Fit us (fun uo1=>[(uo1 0),vL (rowA kT) xx1.length qp,(uo1 2),(uo1 3),(uo1 4),(uo1 5),(uo1 6),(uo1 7),(uo1 8),(uo1 9),(uo1 10),(uo1 11),(uo1 12),(uo1 13),(uo1 14),(uo1 15),(uo1 16),(uo1 17),(uo1 18),(uo1 19)])∧gY (Kd.int .u8) h0 xx1 kT xx1.length qp kD∧St [] h0 w0 h0 [(kT, .cells (kD).toArray 5 (0,0)),(some b1, .cells #[vI a0.aP,vB a0.aN] 29 (0,0))] w') k ⟨a1,0,([]:List Int),none,0,([]:List Value),(fit rfl),H,(gY.none' (Kd.int .u8) _).norm,HS3⟩ ?_ ?_
  ·rintro m us w3 ⟨aG,dB,jl,lU,sQ,nO,ng,H,xP,HS4⟩
   obtain ⟨uy1,rfl⟩:=unj ng
   cases m with
   |zero=>exact absurd H (by simp [dQ.l0])
   |succ m=>
    rw [dQ.l0] at H
    try simp only [patch,sc0,sc1]
    refine wp_seq<|wp_seq<|region<|rs (vI dB) (aJ rfl)<|rs (vP b1 0) (aH (n:=1) (o':=0) rfl Tryz.runUnderlying29 rfl Tryz.sizeOf3 (by decide) rfl)<|rs (vI a0.aP) (aK rfl Tryz.isAgg3 (HS4.look 1 rfl) rfl)<|rs (vB (decide (dB<a0.aP))) (bK rfl rfl rfl) ?_
    try simp only [sc0,sc1]
    refine aA<|ak<|wp_cond_split (t:=(decide (dB<a0.aP))) rfl (fun c2=>?_) (fun c2=>?_)
    ·replace H:=bM H c2
     refine wp_skip<|ak<|wp_seq<|wp_block<|wp_seq<|region<|rs (vL (rowA lU) jl.length sQ) (aJ rfl)<|rs (vI aG) (aJ rfl)<|rs (vI (DF .i64 aG 255)) (U2 rfl rfl)<|rs (Value.int .u8 (IntKind.wrap .u8 (DF .i64 aG 255))) (nR rfl Tryz.runUnderlying2 Tryz.runUnderlying5)<|aI (by simp only [sc0,sc1];rfl) ?_
     refine DY (Kd.int .u8) (xs:=([(IntKind.wrap .u8 (DF .i64 aG 255))]:List Int)) (n:=1) (cs:=[Value.int .u8 (IntKind.wrap .u8 (DF .i64 aG 255))]) Tryz.runUnderlying42 Tryz.typeInfo5 Tryz.zeroValue5 rfl rfl (by decide) (by decide) (by decide) [Value.int .u8 (IntKind.wrap .u8 (DF .i64 aG 255))] (uX.trans rfl) rfl rfl rfl rfl (tJ (qs:=[Value.int .u8 (IntKind.wrap .u8 (DF .i64 aG 255))]) rfl (uV (cs:=[]))) HS4 ?_
     intro w4 b2 HS5 ho1
     obtain ⟨hl1,H⟩:=eG H
     refine Fq (Kd.int .u8) (q:=1) (cs:=nO) rfl rfl Tryz.runUnderlying42 Tryz.typeInfo5 Tryz.zeroValue5 rfl (by decide) rfl (Fv Tryz.runUnderlying42 HS5 (i:=0) rfl ho1 rfl) ho1.len (qG ho1) hl1 HS5 rfl xP ?_
     intro w5 ob1 c3 cs1 HS6 ho2
     refine rs (vL (rowA ob1) (jl.length+1) c3) (aB rfl) ?_
     try simp only [sc0,sc1]
     refine aA<|ak<|region<|rs (vI aG) (aJ rfl)<|rs (vI aG) (aJ rfl)<|rs (vI (DF .i64 aG 255)) (U2 rfl rfl)<|rs (vI (w64 (aG-(DF .i64 aG 255)))) (bK rfl rfl rfl)<|aI (by simp only [sc0,sc1];rfl) ?_
     refine rs (vI (QB .i64 (w64 (aG-(DF .i64 aG 255))) 256)) (XI rfl rfl (by decide))<|rs (vI (QB .i64 (w64 (aG-(DF .i64 aG 255))) 256)) (aB rfl) ?_
     try simp only [sc0,sc1]
     refine aA<|dI<|ak<|region<|rs (vI dB) (aJ rfl)<|rs (vI (w64 (dB+1))) (bK rfl rfl rfl)<|rs (vI (w64 (dB+1))) (aB rfl) ?_
     try simp only [sc0,sc1]
     refine aA<|gZ m (Nat.lt_succ_self m) rfl ⟨(QB .i64 (w64 (aG-(DF .i64 aG 255))) 256),(w64 (dB+1)),(jl++([(IntKind.wrap .u8 (DF .i64 aG 255))]:List Int)),ob1,c3,cs1,(fit (by first|rfl|(rw [ho2.len];done)|(rw [ho2.len];rfl))),H,ho2.norm,HS6.tail⟩
    ·replace H:=bW H (nt c2)
     refine wp_exit<|eY ?_
     obtain rfl:=Option.some.inj H
     refine iG rfl ⟨lU,sQ,nO,(fit rfl),xP.norm,HS4⟩
  ·rintro us w6 ⟨kT,qp,kD,ni,lC,HS7⟩
   obtain ⟨uo1,rfl⟩:=unj ni
   replace H:=G1
   clear G1
   try simp only [patch,sc0,sc1]
   refine ak<|wp_seq<|region<|rs (vL (rowA kT) xx1.length qp) (aJ rfl)<|rs (vL (rowA kT) xx1.length qp) (aB rfl)<|rs (vI 0) (aB rfl) ?_
   try simp only [sc0,sc1]
   refine aA<|ak<|wp_ret ?_
   obtain rfl:=Option.some.inj H
   refine bodyPost_ret (fM rfl (aX rfl) (aX rfl)) rfl ?_
   obtain ⟨h1,HS8,hs1,Ju⟩:=qC HS7 (i:=0) rfl lC
   exact ⟨h1,(rowA kT),qp,rfl,lC.cap,Ju,HS8.gr,HS8.sees,HS8.toE⟩

end Go.Proofs.YtecpbadkdpbkpaaGreatDoor
namespace Go.Proofs.YtecpbadkdpbkpaaGreatDoor
open Go.RowKit Go.M
def dX.l0 (a1:Int) (a0:List Int) (v1:(List Int)×Int):Nat→Int→(List Int)→Option ((List Int))
 |0,_,_=>none
 |m+1,aG,dB=>if (decide (aG<(v1.1.length:Int)))=true then (if 0≤aG∧aG<v1.1.length then (if 0≤(IntKind.wrap .i64 (a1+aG))∧(IntKind.wrap .i64 (a1+aG))<((a0.length:Nat):Int) then (dX.l0 a1 a0 v1 m (IntKind.wrap .i64 (aG+1)) (List.set dB (IntKind.wrap .i64 (a1+aG)).toNat (rd 0 v1.1 aG))) else none) else none) else (some dB)
def dX.f (k:Nat) (a0:List Int) (a1:Int) (a2:dL) (a3:Int):Option ((List Int)):=(dQ.f k a2 a3).bind fun v1=>((dX.l0 a1 a0 v1 k 0 a0).bind fun xx1=>(some xx1))
set_option maxRecDepth 20000 in
set_option maxHeartbeats 4000000 in
theorem dX.calls (k:Nat) (a0:List Int) (a1:Int) (a2:dL) (a3:Int) (DT:Option Nat) (ca0:Nat) (Un:List Value) {h0:View} {w0:World} {h:View} {w:World} {rest:List Res} (HS:St [] h0 w0 h ((DT, .cells (Un).toArray 5 (0,0))::rest) w) (Uo:gY (Kd.int .u8) h a0 DT a0.length ca0 Un) {r:(List Int)} (H:dX.f k a0 a1 a2 a3=some r):Calls Tryz.prog 45 #[vL (rowA DT) a0.length ca0,vI a1,Value.agg #[vI a2.aP,vB a2.aN],vI a3] w (fun e w1=>∃h1:View,∃EX:List Value,e= .returned (Value.tuple #[])∧gY (Kd.int .u8) h1 r DT a0.length ca0 EX∧Sub h h1∧St [] h0 w0 h1 ((DT, .cells (EX).toArray 5 (0,0))::rest) w1):=by
 unfold dX.f at H
 have hsub:Sub h h:=Sub.rfl' h
 go_enter Tryz.func45,Tryz.ntmps45
 refine wp_seq<|region<|dU rfl rfl (dY (cs:=#[vI a2.aP,vB a2.aN]) rfl rfl) ?_
 rintro w1 _ hE1 ⟨b1,rfl,ge1,hb1⟩
 have HS1:=HS.new hE1 ge1 hb1
 try simp only [sc0,sc1]
 refine aA<|ak<|wp_seq<|region<|rs (Value.agg #[vI a2.aP,vB a2.aN]) (aZ (n:=2) (vs:=[vI a2.aP,vB a2.aN]) rfl Tryz.isAgg29 (HS1.look 0 rfl) Tryz.sizeOf29 rfl rfl)<|rs (vI a3) (aJ rfl) ?_
 obtain ⟨v1,H1,H⟩:=bJ H
 refine dU rfl rfl (kP Tryz.call87 rfl (nT (h:=h) (R:=(fun hx u=>∃(jW:Option Addr) (lG:Nat),u=Value.tuple #[vL jW v1.1.length lG,vI v1.2]∧v1.1.length≤lG∧Rd (Kd.int .u8) hx jW v1.1)) (Ext.rfl' w1) ((dQ.calls k a2 a3 HS1.sees H1).mono ?_)) rfl) ?_
 ·rintro _ _ ⟨h1,jW,lG,rfl,vZ,kH,g,ss,x⟩
  exact ⟨h1,_,rfl,⟨jW,lG,rfl,vZ,kH⟩,g,ss,x⟩
 rintro w2 _ hE2 ⟨h1,⟨jW,lG,rfl,vZ,kH⟩,gr1,se1⟩
 have HS2:=HS1.view hE2 gr1 se1
 replace hsub:Sub h h1:=hsub.then gr1.1
 replace Uo:=Uo.view gr1.1
 refine rs (Value.tuple #[vL jW v1.1.length lG,vI v1.2]) (aJ rfl)<|aI (by simp only [sc0,sc1];rfl) ?_
 refine rs (vL jW v1.1.length lG) (fF rfl rfl)<|rs (vI v1.2) (fF rfl rfl)<|rs (vL jW v1.1.length lG) (aB rfl)<|rs (vI v1.2) (aB rfl) ?_
 try simp only [sc0,sc1]
 refine aA<|ak<|wp_seq<|region<|rs (vI 0) (aB rfl) ?_
 try simp only [sc0,sc1]
 refine aA<|ak ?_
 obtain ⟨xx1,H,G1⟩:=bJ H
 refine jm [10,17,18,19,20,21,22,23,24,25,26,27,28,29,30,31] (fun m us w'=>∃aG:Int,∃dB:List Int,∃iO:List Value,Fit us (fun uy1=>[vI aG,(uy1 1),(uy1 2),(uy1 3),(uy1 4),(uy1 5),(uy1 6),(uy1 7),(uy1 8),(uy1 9),(uy1 10),(uy1 11),(uy1 12),(uy1 13),(uy1 14),(uy1 15)])∧dX.l0 a1 a0 v1 m aG dB=some xx1∧gY (Kd.int .u8) h1 dB DT a0.length ca0 iO∧St [] h0 w0 h1 ((some b1, .cells #[vI a2.aP,vB a2.aN] 29 (0,0))::(DT, .cells (iO).toArray 5 (0,0))::rest) w') (fun us w'=>∃(kD:List Value),Fit us (fun uo1=>[(uo1 0),(uo1 1),(uo1 2),(uo1 3),(uo1 4),(uo1 5),(uo1 6),(uo1 7),(uo1 8),(uo1 9),(uo1 10),(uo1 11),(uo1 12),(uo1 13),(uo1 14),(uo1 15)])∧gY (Kd.int .u8) h1 xx1 DT a0.length ca0 kD∧St [] h0 w0 h1 ((some b1, .cells #[vI a2.aP,vB a2.aN] 29 (0,0))::(DT, .cells (kD).toArray 5 (0,0))::rest) w') k ⟨0,a0,Un,(fit rfl),H,Uo,HS2⟩ ?_ ?_
 ·rintro m us w3 ⟨aG,dB,iO,ng,H,jD,HS3⟩
  obtain ⟨uy1,rfl⟩:=unj ng
  cases m with
  |zero=>exact absurd H (by simp [dX.l0])
  |succ m=>
   rw [dX.l0] at H
   try simp only [patch,sc0,sc1]
   refine wp_seq<|wp_seq<|region<|rs (vI aG) (aJ rfl)<|rs (vL jW v1.1.length lG) (aJ rfl)<|rs (vI (v1.1.length:Int)) (jJ rfl Tryz.runUnderlying42)<|rs (vB (decide (aG<(v1.1.length:Int)))) (bK rfl rfl rfl) ?_
   try simp only [sc0,sc1]
   refine aA<|ak<|wp_cond_split (t:=(decide (aG<(v1.1.length:Int)))) rfl (fun c1=>?_) (fun c1=>?_)
   ·replace H:=bM H c1
    refine wp_skip<|ak<|wp_seq<|wp_block<|region<|rs (vL (rowA DT) a0.length ca0) (aJ rfl)<|rs (vI a1) (aJ rfl)<|rs (vI aG) (aJ rfl)<|rs (vI (w64 (a1+aG))) (bK rfl rfl rfl)<|aI (by simp only [sc0,sc1];rfl) ?_
    refine rs (vL jW v1.1.length lG) (aJ rfl)<|rs (vI aG) (aJ rfl) ?_
    obtain ⟨hi1,H⟩:=eG H
    obtain ⟨ad1,e1,lu⟩:=rF kH hi1.1 hi1.2
    refine rs (Value.pointer (some (Addr.add ad1 (aG.toNat*1)))) (dP (sz:=1) rfl e1 rfl hi1.1 hi1.2 Tryz.runUnderlying42 Tryz.sizeOf5)<|rs (Value.int .u8 (rd 0 v1.1 aG)) (jC rfl Tryz.isAgg5 (lu.cell0 HS3.sees rfl))<|aI (by simp only [sc0,sc1];rfl) ?_
    obtain ⟨hi2,H⟩:=eG H
    obtain ⟨rb1,_,Rw,rfl,hp1⟩:=jD.at 0 hi2.1 hi2.2
    refine rs (Value.pointer (some ⟨rb1,(w64 (a1+aG)).toNat*1+0,none⟩)) (lQ (sz:=1) rfl Rw rfl hi2.1 hi2.2 Tryz.runUnderlying42 Tryz.sizeOf5)<|Cb (i:=1) (cs:=iO) (v:=Value.int .u8 (rd 0 v1.1 aG)) Rw rfl rfl Tryz.sizeOf5 rfl rfl HS3 rfl (jD.inb hi2.1 hi2.2 (m:=1) (by decide)) ?_
    intro w4 HS4
    have ho1:=jD.set (o:=0) (v:=Value.int .u8 (rd 0 v1.1 aG)) (x':=(rd 0 v1.1 aG)) hi2.1 hi2.2 hp1 rfl (Nat.le_of_ble_eq_true rfl)
    try simp only [sc0,sc1]
    refine aA<|dI<|ak<|region<|rs (vI aG) (aJ rfl)<|rs (vI (w64 (aG+1))) (bK rfl rfl rfl)<|rs (vI (w64 (aG+1))) (aB rfl) ?_
    try simp only [sc0,sc1]
    refine aA<|gZ m (Nat.lt_succ_self m) rfl ⟨(w64 (aG+1)),(List.set dB (w64 (a1+aG)).toNat (rd 0 v1.1 aG)),(List.set iO ((w64 (a1+aG)).toNat*1+0) (Value.int .u8 (rd 0 v1.1 aG))),(fit rfl),H,ho1,HS4⟩
   ·replace H:=bW H (nt c1)
    refine wp_exit<|eY ?_
    obtain rfl:=Option.some.inj H
    refine iG rfl ⟨iO,(fit rfl),jD,HS3⟩
 ·rintro us w5 ⟨kD,ni,lC,HS5⟩
  obtain ⟨uo1,rfl⟩:=unj ni
  replace H:=G1
  clear G1
  try simp only [patch,sc0,sc1]
  obtain rfl:=Option.some.inj H
  refine bodyPost_end (results_none rfl _ _ _) rfl ?_
  have HS6:=HS5.d0
  exact ⟨h1,kD,rfl,lC,hsub,HS6⟩

end Go.Proofs.YtecpbadkdpbkpaaGreatDoor
namespace Go.Proofs.YtecpbadkdpbkpaaGreatDoor
open Go.RowKit Go.M
def bT.l0 (k:Nat) (a0:aU) (a1:Int) (a2:List kR):Nat→Int→(List Int)→Option ((fJ)⊕((List Int)))
 |0,_,_=>none
 |m+1,aG,dB=>if (decide (aG<(a2.length:Int)))=true then (if 0≤aG∧aG<a2.length then ((bP.f k a0 a1 ((rd dD a2 aG).lV)).bind fun v2=>(if (v2.vE !=0)=true then (some (.inl (⟨[],v2.vE⟩:fJ))) else ((fP.f k a0 v2.vType).bind fun v3=>(if (!v3.2)=true then (some (.inl (⟨[],5⟩:fJ))) else (if 0≤aG∧aG<a2.length then ((dX.f k dB v2.vAt v3.1 ((rd dD a2 aG).vV)).bind fun v4=>(bT.l0 k a0 a1 a2 m (IntKind.wrap .i64 (aG+1)) v4)) else none))))) else none) else (some (.inr dB))
def bT.f (k:Nat) (a0:aU) (a1:Int) (a2:List kR):Option (fJ):=(eX.f k a0 a1).bind fun v1=>(if (v1.vE !=0)=true then (some (⟨[],v1.vE⟩:fJ)) else (if (decide ((a2.length:Int)>100))=true then (some (⟨[],2⟩:fJ)) else (if 0≤v1.vN∧v1.vN≤4294967296 then ((bT.l0 k a0 a1 a2 k 0 (List.replicate v1.vN.toNat (0:Int))).bind fun xx1=>(match xx1 with| .inl r=>some r| .inr s1=>some (⟨s1,0⟩:fJ))) else none)))
set_option maxRecDepth 20000 in
set_option maxHeartbeats 4000000 in
theorem bT.calls (k:Nat) (a0:aU) (a1:Int) (a2:List kR) (bU:Option Addr) (bV:Nat) (sV:Option Addr) (sW:Nat) {h0:View} {w0:World} (hv:jL h0 w0) (fK:Rd dV h0 bU a0.ay) (iw:a0.ay.length≤bV) (zG:Rd nK h0 sV a2) (JA:a2.length≤sW) {r:fJ} (H:bT.f k a0 a1 a2=some r):Calls Tryz.prog 14 #[Value.agg #[vL bU a0.ay.length bV],vI a1,vL sV a2.length sW] w0 (fun e w1=>∃(h1:View) (bU:Option Addr) (bV:Nat),e= .returned (Value.agg #[vL bU r.vB.length bV,vI r.vE])∧r.vB.length≤bV∧Rd (Kd.int .u8) h1 bU r.vB∧Gr w0.heap.size h0 h1∧jL h1 w1∧Ext w0 w1):=by
 unfold bT.f at H
 have HS:St [] h0 w0 h0 [] w0:=St.init hv
 go_enter Tryz.func14,Tryz.ntmps14
 refine wp_seq<|region<|dU rfl rfl (dY (cs:=#[vL bU a0.ay.length bV]) rfl rfl) ?_
 rintro w1 _ hE1 ⟨b1,rfl,ge1,hb1⟩
 have HS1:=HS.new hE1 ge1 hb1
 refine dU rfl rfl (fA (cs:=#[vL none 0 0,vI 0]) Tryz.zeroValue46 rfl) ?_
 rintro w2 _ hE2 ⟨b2,rfl,ge2,hb2⟩
 have HS2:=HS1.new hE2 ge2 hb2
 try simp only [sc0,sc1]
 refine aA<|ak<|wp_seq<|region<|rs (Value.agg #[vL bU a0.ay.length bV]) (aZ (n:=1) (vs:=[vL bU a0.ay.length bV]) rfl Tryz.isAgg24 (HS2.look 1 rfl) Tryz.sizeOf24 rfl rfl)<|rs (vI a1) (aJ rfl) ?_
 obtain ⟨v1,H1,H⟩:=bJ H
 refine run_eq (v:=Value.agg #[vI v1.vN,vI v1.vE]) rfl rfl (bf Tryz.call44 rfl rfl (eX.calls k a0 a1 bU bV HS2.sees fK iw H1)) ?_
 intro w3 hE3
 have HS3:=HS2.step hE3
 refine dU rfl rfl (fA (cs:=#[vI 0,vI 0]) Tryz.zeroValue120 rfl) ?_
 rintro w4 _ hE4 ⟨b3,rfl,ge3,hb3⟩
 have HS4:=HS3.new hE4 ge3 hb3
 refine aI (by simp only [sc0,sc1];rfl) ?_
 refine fV (i:=0) (cs:=[vI 0,vI 0]) (cs':=[vI v1.vN,vI v1.vE]) (vs:=[vI v1.vN,vI v1.vE]) (bs':=[(some b3, .cells #[vI v1.vN,vI v1.vE] 120 (0,0)),(some b2, .cells #[vL none 0 0,vI 0] 46 (0,0)),(some b1, .cells #[vL bU a0.ay.length bV] 24 (0,0))]) rfl rfl Tryz.sizeOf120 rfl rfl (by decide) rfl HS4 rfl (Nat.le_of_ble_eq_true rfl) rfl rfl ?_
 intro w5 HS5
 try simp only [sc0,sc1]
 refine aA<|ak<|wp_seq<|wp_seq<|region<|rs (vP b3 1) (aH (n:=1) (o':=1) rfl Tryz.runUnderlying120 rfl Tryz.sizeOf34 (by decide) rfl)<|rs (vI v1.vE) (aK rfl Tryz.isAgg34 (HS5.look 0 rfl) rfl)<|rs (vB (v1.vE !=0)) (bK rfl rfl rfl) ?_
 try simp only [sc0,sc1]
 refine aA<|ak<|wp_cond_split (t:=(v1.vE !=0)) rfl (fun c1=>?_) (fun c1=>?_)
 ·replace H:=bM H c1
  refine wp_seq<|region<|rs (vP b3 1) (aH (n:=1) (o':=1) rfl Tryz.runUnderlying120 rfl Tryz.sizeOf34 (by decide) rfl)<|rs (vI v1.vE) (aK rfl Tryz.isAgg34 (HS5.look 0 rfl) rfl)<|rs (Value.agg #[vL none 0 0,vI v1.vE]) (iy (cs:=[vL none 0 0,vI v1.vE]) (ps:=[(1,vI v1.vE)]) Tryz.zeroValue46 Tryz.runUnderlying46 (pl:=#[(0,1),(1,1)]) (fun w=>by simp [Tryz.sizeOf34,Tryz.sizeOf42]) (jM (show _=vI v1.vE from rfl)) rfl) ?_
  refine fV (i:=1) (cs:=[vL none 0 0,vI 0]) (cs':=[vL none 0 0,vI v1.vE]) (vs:=[vL none 0 0,vI v1.vE]) (bs':=[(some b3, .cells #[vI v1.vN,vI v1.vE] 120 (0,0)),(some b2, .cells #[vL none 0 0,vI v1.vE] 46 (0,0)),(some b1, .cells #[vL bU a0.ay.length bV] 24 (0,0))]) rfl rfl Tryz.sizeOf46 rfl rfl (by decide) rfl HS5 rfl (Nat.le_of_ble_eq_true rfl) rfl rfl ?_
  intro w6 HS6
  try simp only [sc0,sc1]
  refine aA<|ak<|wp_ret<|aW ?_
  obtain rfl:=Option.some.inj H
  exact bodyPost_ret (aV rfl (iU rfl Tryz.isAgg46 (HS6.look 1 rfl) Tryz.sizeOf46 rfl)) rfl<|⟨h0,none,0,rfl,(Nat.le_refl 0),(Rd.nil _ _ _),HS6.gr,HS6.sees,HS6.toE⟩
 ·replace H:=bW H (nt c1)
  refine wp_skip<|ak<|wp_seq<|wp_seq<|region<|rs (vL sV a2.length sW) (aJ rfl)<|rs (vI (a2.length:Int)) (jJ rfl Tryz.runUnderlying41)<|rs (vB (decide ((a2.length:Int)>100))) (bK rfl rfl rfl) ?_
  try simp only [sc0,sc1]
  refine aA<|ak<|wp_cond_split (t:=(decide ((a2.length:Int)>100))) rfl (fun c2=>?_) (fun c2=>?_)
  ·replace H:=bM H c2
   refine wp_seq<|region<|rs (Value.agg #[vL none 0 0,vI 2]) (iy (cs:=[vL none 0 0,vI 2]) (ps:=[(1,vI 2)]) Tryz.zeroValue46 Tryz.runUnderlying46 (pl:=#[(0,1),(1,1)]) (fun w=>by simp [Tryz.sizeOf34,Tryz.sizeOf42]) (jM (show _=vI 2 from rfl)) rfl) ?_
   refine fV (i:=1) (cs:=[vL none 0 0,vI 0]) (cs':=[vL none 0 0,vI 2]) (vs:=[vL none 0 0,vI 2]) (bs':=[(some b3, .cells #[vI v1.vN,vI v1.vE] 120 (0,0)),(some b2, .cells #[vL none 0 0,vI 2] 46 (0,0)),(some b1, .cells #[vL bU a0.ay.length bV] 24 (0,0))]) rfl rfl Tryz.sizeOf46 rfl rfl (by decide) rfl HS5 rfl (Nat.le_of_ble_eq_true rfl) rfl rfl ?_
   intro w7 HS7
   try simp only [sc0,sc1]
   refine aA<|ak<|wp_ret<|aW ?_
   obtain rfl:=Option.some.inj H
   exact bodyPost_ret (aV rfl (iU rfl Tryz.isAgg46 (HS7.look 1 rfl) Tryz.sizeOf46 rfl)) rfl<|⟨h0,none,0,rfl,(Nat.le_refl 0),(Rd.nil _ _ _),HS7.gr,HS7.sees,HS7.toE⟩
  ·replace H:=bW H (nt c2)
   refine wp_skip<|ak<|wp_seq<|region<|rs (vP b3 0) (aH (n:=1) (o':=0) rfl Tryz.runUnderlying120 rfl Tryz.sizeOf3 (by decide) rfl)<|rs (vI v1.vN) (aK rfl Tryz.isAgg3 (HS5.look 0 rfl) rfl) ?_
   obtain ⟨hk1,H⟩:=eG H
   refine run_mk (Kd.int .u8) 0 (zs:=[Value.int .u8 0]) rfl rfl hk1 Tryz.runUnderlying42 Tryz.typeInfo5 (by decide) rfl Tryz.zeroValue5 rfl rfl HS5 ?_
   intro w8 b4 cs1 HS8 ho1
   refine rs (vL (rowA (some b4)) v1.vN.toNat v1.vN.toNat) (aB rfl) ?_
   try simp only [sc0,sc1]
   refine aA<|ak<|wp_seq<|wp_seq<|region<|rs (vI 0) (aB rfl) ?_
   try simp only [sc0,sc1]
   refine aA<|ak ?_
   obtain ⟨xx1,H,G1⟩:=bJ H
   refine jm [9,10,11,12,29,30,31,32,33,34,35,36,37,38,39,40,41,42,43,44,45,46,47,48,49,50,51,52,53,54,55,56,57,58,59,60,61,62,63,64,65,66,67,68] (fun m us w'=>∃aG:Int,∃dB:List Int,∃h1:View,∃iO:List Value,Fit us (fun uy1=>[vI aG,(uy1 1),(uy1 2),(uy1 3),(uy1 4),(uy1 5),(uy1 6),(uy1 7),(uy1 8),(uy1 9),(uy1 10),(uy1 11),(uy1 12),(uy1 13),(uy1 14),(uy1 15),(uy1 16),(uy1 17),(uy1 18),(uy1 19),(uy1 20),(uy1 21),(uy1 22),(uy1 23),(uy1 24),(uy1 25),(uy1 26),(uy1 27),(uy1 28),(uy1 29),(uy1 30),(uy1 31),(uy1 32),(uy1 33),(uy1 34),(uy1 35),(uy1 36),(uy1 37),(uy1 38),(uy1 39),(uy1 40),(uy1 41),(uy1 42),(uy1 43)])∧bT.l0 k a0 a1 a2 m aG dB=some xx1∧gY (Kd.int .u8) h1 dB (some b4) v1.vN.toNat v1.vN.toNat iO∧St [] h0 w0 h1 [((some b4), .cells (iO).toArray 5 (0,0)),(some b3, .cells #[vI v1.vN,vI v1.vE] 120 (0,0)),(some b2, .cells #[vL none 0 0,vI 0] 46 (0,0)),(some b1, .cells #[vL bU a0.ay.length bV] 24 (0,0))] w') (fun us w'=>∃(s1:(List Int)),xx1= .inr s1∧∃h3:View,∃kD:List Value,Fit us (fun uo1=>[(uo1 0),(uo1 1),(uo1 2),(uo1 3),(uo1 4),(uo1 5),(uo1 6),(uo1 7),(uo1 8),(uo1 9),(uo1 10),(uo1 11),(uo1 12),(uo1 13),(uo1 14),(uo1 15),(uo1 16),(uo1 17),(uo1 18),(uo1 19),(uo1 20),(uo1 21),(uo1 22),(uo1 23),(uo1 24),(uo1 25),(uo1 26),(uo1 27),(uo1 28),(uo1 29),(uo1 30),(uo1 31),(uo1 32),(uo1 33),(uo1 34),(uo1 35),(uo1 36),(uo1 37),(uo1 38),(uo1 39),(uo1 40),(uo1 41),(uo1 42),(uo1 43)])∧gY (Kd.int .u8) h3 s1 (some b4) v1.vN.toNat v1.vN.toNat kD∧St [] h0 w0 h3 [((some b4), .cells (kD).toArray 5 (0,0)),(some b3, .cells #[vI v1.vN,vI v1.vE] 120 (0,0)),(some b2, .cells #[vL none 0 0,vI 0] 46 (0,0)),(some b1, .cells #[vL bU a0.ay.length bV] 24 (0,0))] w') k ⟨0,(List.replicate v1.vN.toNat (0:Int)),h0,cs1,(fit rfl),H,ho1,HS8⟩ ?_ ?_
   ·rintro m us w9 ⟨aG,dB,h1,iO,ng,H,jD,HS9⟩
    obtain ⟨uy1,rfl⟩:=unj ng
    cases m with
    |zero=>exact absurd H (by simp [bT.l0])
    |succ m=>
     rw [bT.l0] at H
     try simp only [patch,sc0,sc1]
     refine wp_seq<|wp_seq<|region<|rs (vI aG) (aJ rfl)<|rs (vL sV a2.length sW) (aJ rfl)<|rs (vI (a2.length:Int)) (jJ rfl Tryz.runUnderlying41)<|rs (vB (decide (aG<(a2.length:Int)))) (bK rfl rfl rfl) ?_
     try simp only [sc0,sc1]
     refine aA<|ak<|wp_cond_split (t:=(decide (aG<(a2.length:Int)))) rfl (fun c3=>?_) (fun c3=>?_)
     ·replace H:=bM H c3
      refine wp_skip<|ak<|wp_seq<|wp_block<|wp_seq ?_
      obtain ⟨hi1,H⟩:=eG H
      obtain ⟨ad1,oN,qA,e1,lu,Gw,uI⟩:=xu (zG.ext HS9.sub) hi1.1 hi1.2
      obtain ⟨v2,H2,H⟩:=bJ H
      refine drawn [.eq (Value.agg #[vL bU a0.ay.length bV]), .eq (vI a1), .eq (vL sV a2.length sW), .eq (vI aG), .eq (Value.pointer (some (Addr.add ad1 (aG.toNat*2)))), .eq (Value.pointer (some (Addr.add (Addr.add ad1 (aG.toNat*2)) 0))), .eq (vL oN ((rd dD a2 aG).lV).length qA), .eq (Value.agg #[vI v2.vType,vI v2.vAt,vI v2.vE]), .ex (nD w9 #[vI 0,vI 0,vI 0] 115)] [35,36,37,38,39,40,41,42,10] lW (by kernel_rfl) rfl (aS (aS (aS (aS (aS (aS (aS (aS (oC nD.stable iP))))))))) ⟨aY rfl (fun a' w' hE hk=>by have HSd:=HS9.step hE;exact bI (aZ (n:=1) (vs:=[vL bU a0.ay.length bV]) (show _=vP b1 0 from hk 3 rfl) Tryz.isAgg24 (HSd.look 3 rfl) Tryz.sizeOf24 rfl rfl)),aY rfl (fun a' w' hE hk=>by have HSd:=HS9.step hE;exact bI (aJ (show _=vI a1 from hk 1 rfl))),aY rfl (fun a' w' hE hk=>by have HSd:=HS9.step hE;exact bI (aJ (show _=vL sV a2.length sW from hk 2 rfl))),aY rfl (fun a' w' hE hk=>by have HSd:=HS9.step hE;exact bI (aJ (show _=vI aG from hk 9 rfl))),aY rfl (fun a' w' hE hk=>by have HSd:=HS9.step hE;exact bI (dP (sz:=2) (show _=vL sV a2.length sW from hk 37 rfl) e1 (show _=vI aG from hk 38 rfl) hi1.1 hi1.2 Tryz.runUnderlying41 Tryz.sizeOf62)),aY rfl (fun a' w' hE hk=>by have HSd:=HS9.step hE;exact bI (jr (n:=1) (o':=0) (show _=Value.pointer (some (Addr.add ad1 (aG.toNat*2))) from hk 39 rfl) Tryz.runUnderlying62 rfl Tryz.sizeOf30 (by decide) rfl)),aY rfl (fun a' w' hE hk=>by have HSd:=HS9.step hE;exact bI (jC (show _=Value.pointer (some (Addr.add (Addr.add ad1 (aG.toNat*2)) 0)) from hk 40 rfl) Tryz.isAgg30 (lu.cell HSd.sees 0 rfl))),aY rfl (fun a' w' hE hk=>by have HSd:=HS9.step hE;exact (bf Tryz.call40 rfl (YO (show _=Value.agg #[vL bU a0.ay.length bV] from hk 35 rfl) (show _=vI a1 from hk 36 rfl) (show _=vL oN ((rd dD a2 aG).lV).length qA from hk 41 rfl)) (bP.calls k a0 a1 ((rd dD a2 aG).lV) bU bV oN qA HSd.sees (fK.ext HS9.sub) iw uI Gw H2))),aY rfl (fun a' w' hE hk=>(tC hE (cs:=#[vI 0,vI 0,vI 0]) Tryz.zeroValue115 rfl)),trivial⟩ ?_
      intro w10 hE5
      simp only [List.zip_cons_cons,List.zip_nil_left,List.zip_nil_right,yg,sc0,sc1,List.length_cons,List.length_nil,List.drop_succ_cons,List.drop_zero,Nat.zero_add,Nat.reduceAdd]
      rintro _ ⟨b5,rfl,ge4,hb4⟩
      have ru:=HS9.new hE5 ge4 hb4
      refine fV (i:=0) (cs:=[vI 0,vI 0,vI 0]) (cs':=[vI v2.vType,vI v2.vAt,vI v2.vE]) (vs:=[vI v2.vType,vI v2.vAt,vI v2.vE]) (bs':=[(some b5, .cells #[vI v2.vType,vI v2.vAt,vI v2.vE] 115 (0,0)),((some b4), .cells (iO).toArray 5 (0,0)),(some b3, .cells #[vI v1.vN,vI v1.vE] 120 (0,0)),(some b2, .cells #[vL none 0 0,vI 0] 46 (0,0)),(some b1, .cells #[vL bU a0.ay.length bV] 24 (0,0))]) rfl rfl Tryz.sizeOf115 rfl rfl (by decide) rfl ru rfl (Nat.le_of_ble_eq_true rfl) rfl rfl ?_
      intro w11 qw
      try simp only [sc0,sc1]
      refine aA<|ak<|wp_seq<|wp_seq<|region<|rs (vP b5 2) (aH (n:=1) (o':=2) rfl Tryz.runUnderlying115 rfl Tryz.sizeOf34 (by decide) rfl)<|rs (vI v2.vE) (aK rfl Tryz.isAgg34 (qw.look 0 rfl) rfl)<|rs (vB (v2.vE !=0)) (bK rfl rfl rfl) ?_
      try simp only [sc0,sc1]
      refine aA<|ak<|wp_cond_split (t:=(v2.vE !=0)) rfl (fun c4=>?_) (fun c4=>?_)
      ·replace H:=bM H c4
       refine wp_seq<|region<|rs (vP b5 2) (aH (n:=1) (o':=2) rfl Tryz.runUnderlying115 rfl Tryz.sizeOf34 (by decide) rfl)<|rs (vI v2.vE) (aK rfl Tryz.isAgg34 (qw.look 0 rfl) rfl)<|rs (Value.agg #[vL none 0 0,vI v2.vE]) (iy (cs:=[vL none 0 0,vI v2.vE]) (ps:=[(1,vI v2.vE)]) Tryz.zeroValue46 Tryz.runUnderlying46 (pl:=#[(0,1),(1,1)]) (fun w=>by simp [Tryz.sizeOf34,Tryz.sizeOf42]) (jM (show _=vI v2.vE from rfl)) rfl) ?_
       refine fV (i:=3) (cs:=[vL none 0 0,vI 0]) (cs':=[vL none 0 0,vI v2.vE]) (vs:=[vL none 0 0,vI v2.vE]) (bs':=[(some b5, .cells #[vI v2.vType,vI v2.vAt,vI v2.vE] 115 (0,0)),((some b4), .cells (iO).toArray 5 (0,0)),(some b3, .cells #[vI v1.vN,vI v1.vE] 120 (0,0)),(some b2, .cells #[vL none 0 0,vI v2.vE] 46 (0,0)),(some b1, .cells #[vL bU a0.ay.length bV] 24 (0,0))]) rfl rfl Tryz.sizeOf46 rfl rfl (by decide) rfl qw rfl (Nat.le_of_ble_eq_true rfl) rfl rfl ?_
       intro w12 uf
       try simp only [sc0,sc1]
       refine aA<|ak<|wp_ret<|aW<|dn<|aW<|gJ<|aW ?_
       obtain rfl:=Option.some.inj H
       obtain rfl:=Option.some.inj G1
       exact bodyPost_ret (aV rfl (iU rfl Tryz.isAgg46 (uf.look 3 rfl) Tryz.sizeOf46 rfl)) rfl<|⟨h1,none,0,rfl,(Nat.le_refl 0),(Rd.nil _ _ _),uf.gr,uf.sees,uf.toE⟩
      ·replace H:=bW H (nt c4)
       refine wp_skip<|ak<|wp_seq<|region<|rs (Value.agg #[vL bU a0.ay.length bV]) (aZ (n:=1) (vs:=[vL bU a0.ay.length bV]) rfl Tryz.isAgg24 (qw.look 4 rfl) Tryz.sizeOf24 rfl rfl)<|rs (vP b5 0) (aH (n:=1) (o':=0) rfl Tryz.runUnderlying115 rfl Tryz.sizeOf3 (by decide) rfl)<|rs (vI v2.vType) (aK rfl Tryz.isAgg3 (qw.look 0 rfl) rfl) ?_
       obtain ⟨v3,H3,H⟩:=bJ H
       refine run_eq (v:=Value.tuple #[Value.agg #[vI v3.1.aP,vB v3.1.aN],vB v3.2]) rfl rfl (bf Tryz.call20 rfl rfl (fP.calls k a0 v2.vType bU bV qw.sees (fK.ext qw.sub) iw H3)) ?_
       intro w13 hE6
       have yC:=qw.step hE6
       refine aI (by simp only [sc0,sc1];rfl) ?_
       refine rs (Value.tuple #[Value.agg #[vI v3.1.aP,vB v3.1.aN],vB v3.2]) (aJ rfl)<|rs (Value.agg #[vI v3.1.aP,vB v3.1.aN]) (fF rfl rfl)<|rs (vB v3.2) (fF rfl rfl)<|dU rfl rfl (fA (cs:=#[vI 0,vB false]) Tryz.zeroValue29 rfl) ?_
       rintro w14 _ hE7 ⟨b6,rfl,ge5,hb5⟩
       have DN:=yC.new hE7 ge5 hb5
       refine aI (by simp only [sc0,sc1];rfl) ?_
       refine fV (i:=0) (cs:=[vI 0,vB false]) (cs':=[vI v3.1.aP,vB v3.1.aN]) (vs:=[vI v3.1.aP,vB v3.1.aN]) (bs':=[(some b6, .cells #[vI v3.1.aP,vB v3.1.aN] 29 (0,0)),(some b5, .cells #[vI v2.vType,vI v2.vAt,vI v2.vE] 115 (0,0)),((some b4), .cells (iO).toArray 5 (0,0)),(some b3, .cells #[vI v1.vN,vI v1.vE] 120 (0,0)),(some b2, .cells #[vL none 0 0,vI 0] 46 (0,0)),(some b1, .cells #[vL bU a0.ay.length bV] 24 (0,0))]) rfl rfl Tryz.sizeOf29 rfl rfl (by decide) rfl DN rfl (Nat.le_of_ble_eq_true rfl) rfl rfl ?_
       intro w15 Iy
       refine rs (vB v3.2) (aB rfl) ?_
       try simp only [sc0,sc1]
       refine aA<|ak<|wp_seq<|wp_seq<|region<|rs (vB v3.2) (aJ rfl)<|rs (vB (!v3.2)) (lK rfl) ?_
       try simp only [sc0,sc1]
       refine aA<|ak<|wp_cond_split (t:=(!v3.2)) rfl (fun c5=>?_) (fun c5=>?_)
       ·replace H:=bM H c5
        refine wp_seq<|region<|rs (Value.agg #[vL none 0 0,vI 5]) (iy (cs:=[vL none 0 0,vI 5]) (ps:=[(1,vI 5)]) Tryz.zeroValue46 Tryz.runUnderlying46 (pl:=#[(0,1),(1,1)]) (fun w=>by simp [Tryz.sizeOf34,Tryz.sizeOf42]) (jM (show _=vI 5 from rfl)) rfl) ?_
        refine fV (i:=4) (cs:=[vL none 0 0,vI 0]) (cs':=[vL none 0 0,vI 5]) (vs:=[vL none 0 0,vI 5]) (bs':=[(some b6, .cells #[vI v3.1.aP,vB v3.1.aN] 29 (0,0)),(some b5, .cells #[vI v2.vType,vI v2.vAt,vI v2.vE] 115 (0,0)),((some b4), .cells (iO).toArray 5 (0,0)),(some b3, .cells #[vI v1.vN,vI v1.vE] 120 (0,0)),(some b2, .cells #[vL none 0 0,vI 5] 46 (0,0)),(some b1, .cells #[vL bU a0.ay.length bV] 24 (0,0))]) rfl rfl Tryz.sizeOf46 rfl rfl (by decide) rfl Iy rfl (Nat.le_of_ble_eq_true rfl) rfl rfl ?_
        intro w16 Bz
        try simp only [sc0,sc1]
        refine aA<|ak<|wp_ret<|aW<|dn<|aW<|gJ<|aW ?_
        obtain rfl:=Option.some.inj H
        obtain rfl:=Option.some.inj G1
        exact bodyPost_ret (aV rfl (iU rfl Tryz.isAgg46 (Bz.look 4 rfl) Tryz.sizeOf46 rfl)) rfl<|⟨h1,none,0,rfl,(Nat.le_refl 0),(Rd.nil _ _ _),Bz.gr,Bz.sees,Bz.toE⟩
       ·replace H:=bW H (nt c5)
        refine wp_skip<|ak<|uq [([59,60,61,62,63,64,65,66,67],[0,1,2,3,4,5,6,7,8]),([],[])] [9] [[],[],[1],[],[],[],[4,5],[4,5,6],[4,5,6,7],[0,1,2,3,4,5,6,7,8]] lW (by kernel_rfl) ?_
        intro w17 hE8
        have Jw:=Iy.step hE8
        obtain ⟨hi2,H⟩:=eG H
        obtain ⟨ad2,RI,WZ,e2,xw,YA,NR⟩:=xu (zG.ext Jw.sub) hi2.1 hi2.2
        refine vC [vL (rowA (some b4)) v1.vN.toNat v1.vN.toNat,vP b5 1,vI v2.vAt,Value.agg #[vI v3.1.aP,vB v3.1.aN],vL sV a2.length sW,vI aG,Value.pointer (some (Addr.add ad2 (aG.toNat*2))),Value.pointer (some (Addr.add (Addr.add ad2 (aG.toNat*2)) 1)),vI ((rd dD a2 aG).vV)] ?_ rfl rfl ?_
        ·try simp only [patch,sc0,sc1]
         exact gK (gQ (v:=vL (rowA (some b4)) v1.vN.toNat v1.vN.toNat) rfl rfl rfl rfl (aJ rfl)) (gK (gQ (v:=vP b5 1) rfl rfl rfl rfl (aH (n:=1) (o':=1) rfl Tryz.runUnderlying115 rfl Tryz.sizeOf3 (by decide) rfl)) (gK (gQ (v:=vI v2.vAt) rfl rfl rfl rfl (aK rfl Tryz.isAgg3 (Jw.look 1 rfl) rfl)) (gK (gQ (v:=Value.agg #[vI v3.1.aP,vB v3.1.aN]) rfl rfl rfl rfl (aZ (n:=2) (vs:=[vI v3.1.aP,vB v3.1.aN]) rfl Tryz.isAgg29 (Jw.look 0 rfl) Tryz.sizeOf29 rfl rfl)) (gK (gQ (v:=vL sV a2.length sW) rfl rfl rfl rfl (aJ rfl)) (gK (gQ (v:=vI aG) rfl rfl rfl rfl (aJ rfl)) (gK (gQ (v:=Value.pointer (some (Addr.add ad2 (aG.toNat*2)))) rfl rfl rfl rfl (dP (sz:=2) rfl e2 rfl hi2.1 hi2.2 Tryz.runUnderlying41 Tryz.sizeOf62)) (gK (gQ (v:=Value.pointer (some (Addr.add (Addr.add ad2 (aG.toNat*2)) 1))) rfl rfl rfl rfl (jr (n:=1) (o':=1) rfl Tryz.runUnderlying62 rfl Tryz.sizeOf2 (by decide) rfl)) (gK (gQ (v:=vI ((rd dD a2 aG).vV)) rfl rfl rfl rfl (jC rfl Tryz.isAgg2 (xw.cell Jw.sees 1 rfl))) (qJ)))))))))
        try simp only [patch,sc0,sc1]
        obtain ⟨v4,H4,H⟩:=bJ H
        have ho2:=jD.norm
        have Ry:=Jw.f2
        refine qI (vs:=[vL (rowA (some b4)) dB.length v1.vN.toNat,vI v2.vAt,Value.agg #[vI v3.1.aP,vB v3.1.aN],vI ((rd dD a2 aG).vV)]) (caps:=[]) Tryz.call45 rfl (YP (show _=vL (rowA (some b4)) dB.length v1.vN.toNat from by first|rfl|(rw [jD.len];done)|(rw [jD.len];rfl)) rfl rfl rfl) (dX.calls k dB v2.vAt v3.1 ((rd dD a2 aG).vV) (some b4) v1.vN.toNat iO Ry ho2 H4) ?_
        rintro _ w18 ⟨h2,Ut,rfl,NS,hs1,Qg⟩
        refine ⟨_,rfl,?_⟩
        rw [jD.len] at NS
        replace lu:iF h2 (Addr.add ad1 (aG.toNat*2)) [vL oN ((rd dD a2 aG).lV).length qA,vI ((rd dD a2 aG).vV)]:=lu.sub hs1
        replace uI:Rd Kd.str h2 oN ((rd dD a2 aG).lV):=uI.ext hs1
        replace xw:iF h2 (Addr.add ad2 (aG.toNat*2)) [vL RI ((rd dD a2 aG).lV).length WZ,vI ((rd dD a2 aG).vV)]:=xw.sub hs1
        replace NR:Rd Kd.str h2 RI ((rd dD a2 aG).lV):=NR.ext hs1
        have WG:=Qg.f5
        have WH:=WG.f5
        have WI:=WH.f5
        have WL:=WI.f3
        have WB:=WL.f5
        have UQ:=WB.f5
        refine Hg ?_
        try simp only [sc0,sc1]
        refine wH [] ?_ ?_
        ·try simp only [patch,sc0,sc1]
         exact qJ
        try simp only [patch,sc0,sc1]
        refine dI<|ak<|region<|rs (vI aG) (aJ rfl)<|rs (vI (w64 (aG+1))) (bK rfl rfl rfl)<|rs (vI (w64 (aG+1))) (aB rfl) ?_
        try simp only [sc0,sc1]
        refine aA<|gZ m (Nat.lt_succ_self m) rfl ⟨(w64 (aG+1)),v4,h2,Ut,(fit rfl),H,NS,UQ.tail.tail⟩
     ·replace H:=bW H (nt c3)
      refine wp_exit<|eY ?_
      obtain rfl:=Option.some.inj H
      refine iG rfl ⟨_,rfl,h1,iO,(fit rfl),jD,HS9⟩
   ·rintro us w19 ⟨s1,rfl,h3,kD,ni,lC,WM⟩
    obtain ⟨uo1,rfl⟩:=unj ni
    replace H:=G1
    clear G1
    try simp only [patch,sc0,sc1]
    refine ak<|wp_seq<|region<|rs (vL (rowA (some b4)) v1.vN.toNat v1.vN.toNat) (aJ rfl)<|rs (Value.agg #[vL (rowA (some b4)) v1.vN.toNat v1.vN.toNat,vI 0]) (iy (cs:=[vL (rowA (some b4)) v1.vN.toNat v1.vN.toNat,vI 0]) (ps:=[(0,vL (rowA (some b4)) v1.vN.toNat v1.vN.toNat)]) Tryz.zeroValue46 Tryz.runUnderlying46 (pl:=#[(0,1),(1,1)]) (fun w=>by simp [Tryz.sizeOf34,Tryz.sizeOf42]) (jM (show _=vL (rowA (some b4)) v1.vN.toNat v1.vN.toNat from rfl)) rfl) ?_
    refine fV (i:=2) (cs:=[vL none 0 0,vI 0]) (cs':=[vL (rowA (some b4)) v1.vN.toNat v1.vN.toNat,vI 0]) (vs:=[vL (rowA (some b4)) v1.vN.toNat v1.vN.toNat,vI 0]) (bs':=[((some b4), .cells (kD).toArray 5 (0,0)),(some b3, .cells #[vI v1.vN,vI v1.vE] 120 (0,0)),(some b2, .cells #[vL (rowA (some b4)) v1.vN.toNat v1.vN.toNat,vI 0] 46 (0,0)),(some b1, .cells #[vL bU a0.ay.length bV] 24 (0,0))]) rfl rfl Tryz.sizeOf46 rfl rfl (by decide) rfl WM rfl (Nat.le_of_ble_eq_true rfl) rfl rfl ?_
    intro w20 OD
    try simp only [sc0,sc1]
    refine aA<|ak<|wp_ret ?_
    obtain rfl:=Option.some.inj H
    refine bodyPost_ret (aV rfl (iU rfl Tryz.isAgg46 (OD.look 2 rfl) Tryz.sizeOf46 rfl)) rfl ?_
    obtain ⟨h4,Rz,hs2,Ju⟩:=qC OD (i:=0) rfl lC
    exact ⟨h4,(rowA (some b4)),v1.vN.toNat,(by first|rfl|(rw [lC.len];done)|(rw [lC.len];rfl)),lC.cap,Ju,Rz.gr,Rz.sees,Rz.toE⟩

end Go.Proofs.YtecpbadkdpbkpaaGreatDoor
namespace Go.Proofs.YtecpbadkdpbkpaaGreatDoor
open Go.RowKit Go.M
def iE.f (k:Nat) (a0:aU) (a1:Int) (a2:List kR):Option (Bool):=(jP.f).bind fun v1=>((fG.f k a0 a1 a2).bind fun v2=>((bT.f k a0 a1 a2).bind fun v3=>(some ((v1&&(v2.2==v3.vE))&&(strEq (strOf v2.1) (strOf v3.vB))))))
set_option maxRecDepth 20000 in
set_option maxHeartbeats 4000000 in
theorem iE.calls (k:Nat) (a0:aU) (a1:Int) (a2:List kR) (bU:Option Addr) (bV:Nat) (sV:Option Addr) (sW:Nat) {h0:View} {w0:World} (hv:jL h0 w0) (ht:Tab w0) (fK:Rd dV h0 bU a0.ay) (iw:a0.ay.length≤bV) (zG:Rd nK h0 sV a2) (JA:a2.length≤sW) {r:Bool} (H:iE.f k a0 a1 a2=some r):Calls Tryz.prog 4 #[Value.agg #[vL bU a0.ay.length bV],vI a1,vL sV a2.length sW] w0 (fun e w1=>e= .returned (vB r)∧Ext w0 w1):=by
 unfold iE.f at H
 have HS:St [] h0 w0 h0 [] w0:=St.init hv
 go_enter Tryz.func4,Tryz.ntmps4
 refine wp_seq<|region<|dU rfl rfl (dY (cs:=#[vL bU a0.ay.length bV]) rfl rfl) ?_
 rintro w1 _ hE1 ⟨b1,rfl,ge1,hb1⟩
 have HS1:=HS.new hE1 ge1 hb1
 refine rs (vB false) (aB rfl) ?_
 try simp only [sc0,sc1]
 refine aA<|ak<|wp_seq<|region ?_
 obtain ⟨v1,H1,H⟩:=bJ H
 refine run_eq (v:=vB v1) rfl rfl (bf Tryz.call10 rfl rfl (jP.calls HS1.sees (ht.s HS1) H1)) ?_
 intro w2 hE2
 have HS2:=HS1.step hE2
 refine rs (vB v1) (aB rfl) ?_
 try simp only [sc0,sc1]
 refine aA<|ak<|wp_seq<|region<|rs (Value.agg #[vL bU a0.ay.length bV]) (aZ (n:=1) (vs:=[vL bU a0.ay.length bV]) rfl Tryz.isAgg24 (HS2.look 0 rfl) Tryz.sizeOf24 rfl rfl)<|rs (vI a1) (aJ rfl)<|rs (vL sV a2.length sW) (aJ rfl) ?_
 obtain ⟨v2,H2,H⟩:=bJ H
 refine dU rfl rfl (kP Tryz.call13 rfl (nT (h:=h0) (R:=(fun hx u=>∃(gG:Option Addr) (gI:Nat),u=Value.tuple #[vL gG v2.1.length gI,vI v2.2]∧v2.1.length≤gI∧Rd (Kd.int .u8) hx gG v2.1)) (Ext.rfl' w2) ((fG.calls k a0 a1 a2 bU bV sV sW HS2.sees fK iw zG JA H2).mono ?_)) rfl) ?_
 ·rintro _ _ ⟨h1,gG,gI,rfl,mQ,jH,g,ss,x⟩
  exact ⟨h1,_,rfl,⟨gG,gI,rfl,mQ,jH⟩,g,ss,x⟩
 rintro w3 _ hE3 ⟨h1,⟨gG,gI,rfl,mQ,jH⟩,gr1,se1⟩
 have HS3:=HS2.view hE3 gr1 se1
 refine aI (by simp only [sc0,sc1];rfl) ?_
 refine rs (Value.tuple #[vL gG v2.1.length gI,vI v2.2]) (aJ rfl)<|rs (vL gG v2.1.length gI) (fF rfl rfl)<|rs (vI v2.2) (fF rfl rfl)<|rs (vL gG v2.1.length gI) (aB rfl)<|aI (by simp only [sc0,sc1];rfl) ?_
 refine rs (vI v2.2) (aB rfl) ?_
 try simp only [sc0,sc1]
 refine aA<|ak<|wp_seq<|region<|rs (Value.agg #[vL bU a0.ay.length bV]) (aZ (n:=1) (vs:=[vL bU a0.ay.length bV]) rfl Tryz.isAgg24 (HS3.look 0 rfl) Tryz.sizeOf24 rfl rfl)<|rs (vI a1) (aJ rfl)<|rs (vL sV a2.length sW) (aJ rfl) ?_
 obtain ⟨v3,H3,H⟩:=bJ H
 refine dU rfl rfl (kP Tryz.call14 rfl (nT (h:=h1) (R:=(fun hx u=>∃(gW:Option Addr) (gX:Nat),u=Value.agg #[vL gW v3.vB.length gX,vI v3.vE]∧v3.vB.length≤gX∧Rd (Kd.int .u8) hx gW v3.vB)) (Ext.rfl' w3) ((bT.calls k a0 a1 a2 bU bV sV sW HS3.sees (fK.ext HS3.sub) iw (zG.ext HS3.sub) JA H3).mono ?_)) rfl) ?_
 ·rintro _ _ ⟨h1,gW,gX,rfl,nC,kZ,g,ss,x⟩
  exact ⟨h1,_,rfl,⟨gW,gX,rfl,nC,kZ⟩,g,ss,x⟩
 rintro w4 _ hE4 ⟨h2,⟨gW,gX,rfl,nC,kZ⟩,gr2,se2⟩
 have HS4:=HS3.view hE4 gr2 se2
 replace jH:Rd (Kd.int .u8) h2 gG v2.1:=jH.ext gr2.1
 refine aI (by simp only [sc0,sc1];rfl) ?_
 refine dU rfl rfl (fA (cs:=#[vL none 0 0,vI 0]) Tryz.zeroValue46 rfl) ?_
 rintro w5 _ hE5 ⟨b2,rfl,ge2,hb2⟩
 have HS5:=HS4.new hE5 ge2 hb2
 refine fV (i:=0) (cs:=[vL none 0 0,vI 0]) (cs':=[vL gW v3.vB.length gX,vI v3.vE]) (vs:=[vL gW v3.vB.length gX,vI v3.vE]) (bs':=[(some b2, .cells #[vL gW v3.vB.length gX,vI v3.vE] 46 (0,0)),(some b1, .cells #[vL bU a0.ay.length bV] 24 (0,0))]) rfl rfl Tryz.sizeOf46 rfl rfl (by decide) rfl HS5 rfl (Nat.le_of_ble_eq_true rfl) rfl rfl ?_
 intro w6 HS6
 try simp only [sc0,sc1]
 refine aA<|ak<|wp_seq<|region<|rs (vB v1) (aJ rfl)<|rs (vB v1) (aJ rfl)<|rgs v1 true (vI v2.2) rfl rfl rfl rfl (fun hg=>(aJ rfl))<|rgs v1 true (vP b2 1) rfl rfl rfl rfl (fun hg=>(aH (n:=1) (o':=1) rfl Tryz.runUnderlying46 rfl Tryz.sizeOf34 (by decide) rfl))<|aI (by simp only [sc0,sc1];rfl) ?_
 refine rgs v1 true (vI v3.vE) rfl rfl rfl rfl (fun hg=>(aK (gvt (vP b2 1) hg rfl) Tryz.isAgg34 (HS6.look 0 rfl) rfl))<|rgs v1 true (vB (v2.2==v3.vE)) rfl rfl rfl rfl (fun hg=>(bK (gvt (vI v2.2) hg rfl) (gvt (vI v3.vE) hg rfl) rfl))<|rs (vB (v1&&(v2.2==v3.vE))) (dA rfl (fun hp=>(gvt (vB (v2.2==v3.vE)) (gu rfl hp) rfl)) rfl)<|rs (vB (v1&&(v2.2==v3.vE))) (aJ rfl)<|aI (by simp only [sc0,sc1];rfl) ?_
 refine rgs (v1&&(v2.2==v3.vE)) true (vL gG v2.1.length gI) rfl rfl rfl rfl (fun hg=>(aJ rfl))<|rgs (v1&&(v2.2==v3.vE)) true (vS (strOf v2.1)) rfl rfl rfl rfl (fun hg=>(Vd (gvt (vL gG v2.1.length gI) hg rfl) Tryz.runUnderlying42 Tryz.runUnderlying9 Tryz.runUnderlying5 HS6.sees jH))<|rgs (v1&&(v2.2==v3.vE)) true (vP b2 0) rfl rfl rfl rfl (fun hg=>(aH (n:=1) (o':=0) rfl Tryz.runUnderlying46 rfl Tryz.sizeOf42 (by decide) rfl))<|rgs (v1&&(v2.2==v3.vE)) true (vL gW v3.vB.length gX) rfl rfl rfl rfl (fun hg=>(aK (gvt (vP b2 0) hg rfl) Tryz.isAgg42 (HS6.look 0 rfl) rfl))<|aI (by simp only [sc0,sc1];rfl) ?_
 refine rgs (v1&&(v2.2==v3.vE)) true (vS (strOf v3.vB)) rfl rfl rfl rfl (fun hg=>(Vd (gvt (vL gW v3.vB.length gX) hg rfl) Tryz.runUnderlying42 Tryz.runUnderlying9 Tryz.runUnderlying5 HS6.sees kZ))<|rgs (v1&&(v2.2==v3.vE)) true (vB (strEq (strOf v2.1) (strOf v3.vB))) rfl rfl rfl rfl (fun hg=>(uT (gvt (vS (strOf v2.1)) hg rfl) (gvt (vS (strOf v3.vB)) hg rfl)))<|rs (vB ((v1&&(v2.2==v3.vE))&&(strEq (strOf v2.1) (strOf v3.vB)))) (dA rfl (fun hp=>(gvt (vB (strEq (strOf v2.1) (strOf v3.vB))) (gu rfl hp) rfl)) rfl)<|rs (vB ((v1&&(v2.2==v3.vE))&&(strEq (strOf v2.1) (strOf v3.vB)))) (aB rfl) ?_
 try simp only [sc0,sc1]
 refine aA<|ak<|wp_ret ?_
 obtain rfl:=Option.some.inj H
 exact bodyPost_ret (aV rfl (aX rfl)) rfl<|⟨rfl,HS6.toE⟩

end Go.Proofs.YtecpbadkdpbkpaaGreatDoor
namespace Go.Proofs.YtecpbadkdpbkpaaGreatDoor
open Go.RowKit Go.M
theorem JB {l:List bF} {p:bF→Option Bool} {q:bF→Bool} (hp:∀z∈l,p z=some (q z)) (hl:l.length≤9223372036854775807):
    ∀(d j m:Nat),j+d=l.length→d<m→bH.l0 l p m (j:Int)=some (if ((l.drop j).any q)=true then .inl (((j+(l.drop j).findIdx q:Nat)):Int) else .inr ()):=by
  intro d
  induction d with
  | zero =>
    intro j m hj hm
    obtain ⟨m,rfl⟩:∃q,m=q+1:=⟨m-1,by omega⟩
    rw [bH.l0,if_neg (by simp;omega)]
    have:l.drop j=[]:=List.drop_eq_nil_of_le (by omega)
    rw [this]
    rfl
  | succ d ih =>
    intro j m hj hm
    obtain ⟨m,rfl⟩:∃q,m=q+1:=⟨m-1,by omega⟩
    have hlt:j<l.length:=by omega
    rw [bH.l0,if_pos (by simp;omega),if_pos (by omega),fU,hp _ (getD_mem hlt)]
    have hd:l.drop j=l.getD j ah::l.drop (j+1):=by
      rw [List.drop_eq_getElem_cons hlt,List.getD_eq_getElem?_getD,List.getElem?_eq_getElem hlt];rfl
    simp only [Option.bind_some]
    cases hb:q (l.getD j ah) with
    | true =>
      rw [if_pos rfl,hd]
      simp only [List.any_cons,hb,Bool.true_or,if_true,List.findIdx_cons,cond_true,Nat.add_zero]
    | false =>
      rw [if_neg (by simp),fO hlt hl,ih (j+1) m (by omega) (by omega),hd]
      simp only [List.any_cons,hb,Bool.false_or,List.findIdx_cons,cond_false]
      split
      · congr 2;omega
      · rfl
theorem uJ {l:List bF} {p:Nat→bF→Option Bool} {q:bF→Bool} (hp:∀z∈l,Ev (fun k=>p k z) (q z)) (hl:l.length≤9223372036854775807):
    Ev (fun k=>bY.f k l (p k)) (l.any q):=by
  obtain ⟨K,hK⟩:=Ev.all (f:=fun z k=>p k z) l hp
  refine ⟨max K (l.length+1),fun k hk=>?_⟩
  unfold bY.f bH.f
  have:=JB (l:=l) (p:=p k) (q:=q) (fun z hz=>hK k (by omega) z hz) hl l.length 0 k (by omega) (by omega)
  rw [show ((0:Nat):Int)=0 from rfl] at this
  simp only []
  rw [this,List.drop_zero]
  cases h:l.any q with
  |true=>simp
  |false=>simp
end Go.Proofs.YtecpbadkdpbkpaaGreatDoor
namespace Go.Proofs.YtecpbadkdpbkpaaGreatDoor
open Go.RowKit Go.M
theorem jg {α:Type} {l:List α} {j:Nat} (z:α) (h:j<l.length):l.drop j=l.getD j z::l.drop (j+1):=by
  rw [List.drop_eq_getElem_cons h,List.getD_eq_getElem?_getD,List.getElem?_eq_getElem h];rfl
def IE (i:Nat) (c:Int):Bool:=((decide (c≥97)&&decide (c≤122))||(decide (c≥65)&&decide (c≤90))||(c==95))||(!(i==0)&&decide (c≥48)&&decide (c≤57))
def xU:Nat→List Int→Bool
  |_,[]=>true
  |i,c::r=>IE i c&&xU (i+1) r
def rJ (s:ByteArray):Bool:=xU 0 (bytesOf s)&& !(strEq s ByteArray.empty)&&decide ((s.size:Int)≤31)
theorem zH {s:ByteArray} (hl:(bytesOf s).length≤9223372036854775807):∀(d j m:Nat),j+d=(bytesOf s).length→d<m→
    fZ.l0 s m (j:Int)=some (if xU j ((bytesOf s).drop j)=true then .inr () else .inl false):=by
  intro d
  induction d with
  | zero =>
    intro j m hj hm
    obtain ⟨m,rfl⟩:∃q,m=q+1:=⟨m-1,by omega⟩
    rw [fZ.l0,if_neg (by simp;omega),List.drop_eq_nil_of_le (by omega)]
    rfl
  | succ d ih =>
    intro j m hj hm
    obtain ⟨m,rfl⟩:∃q,m=q+1:=⟨m-1,by omega⟩
    have hlt:j<(bytesOf s).length:=by omega
    rw [fZ.l0,if_pos (by simp;omega),if_pos (by omega),fU,jg 0 hlt,fO hlt hl,ih (j+1) m (by omega) (by omega)]
    have hb:∀c:Int,((!((((decide (c≥97))&&(decide (c≤122)))||((decide (c≥65))&&(decide (c≤90))))||(c==95)))&&(((((j:Nat):Int)==0)||(decide (c<48)))||(decide (c>57))))= !(IE j c):=by
      intro c
      unfold IE
      have h1:(((j:Nat):Int)==0)=(j==0):=by cases j<;>simp;omega
      have h2:decide (c<48)= !(decide (c≥48)):=by by_cases h:c<48<;>simp [h]<;>omega
      have h3:decide (c>57)= !(decide (c≤57)):=by by_cases h:c>57<;>simp [h]<;>omega
      rw [h1,h2,h3]
      cases decide (c≥97)<;>cases decide (c≤122)<;>cases decide (c≥65)<;>cases decide (c≤90)<;>cases (c==95)<;>cases (j==0)<;>cases decide (c≥48)<;>cases decide (c≤57)<;>rfl
    rw [hb]
    by_cases h9:IE j ((bytesOf s).getD j 0)=true
    · simp only [xU,h9,Bool.not_true,Bool.false_eq_true,if_false,Bool.true_and]
    · rw [Bool.not_eq_true] at h9
      simp only [xU,h9,Bool.not_false,if_true,Bool.false_and,Bool.false_eq_true,if_false]
theorem NT {s:ByteArray} (hs:s.size≤9223372036854775807):Ev (fun k=>fZ.f k s) (rJ s):=by
  have hl:=bytesOf_length s
  refine ⟨s.size+1,fun k hk=>?_⟩
  show fZ.f k s=_
  unfold fZ.f
  rw [if_pos hs,show (0:Int)=((0:Nat):Int) from rfl,zH (by omega) (bytesOf s).length 0 k (by omega) (by omega),List.drop_zero]
  unfold rJ
  cases xU 0 (bytesOf s)<;>simp

def cont (d:bF):List Int:=if d.aC==3||d.aC==6 then [d.dM] else if d.aC==4 then d.au.map (·.vType) else []
theorem zV {d:bF} (hl:d.au.length≤4294967295):∀(e j m:Nat),j+e=d.au.length→e<m→
    fB.l0 d m (j:Int) ((d.au.take j).map (·.vType))=some (d.au.map (·.vType)):=by
  intro e
  induction e with
  | zero =>
    intro j m hj hm
    obtain ⟨m,rfl⟩:∃q,m=q+1:=⟨m-1,by omega⟩
    rw [fB.l0,if_neg (by simp;omega),List.take_of_length_le (by omega)]
  | succ e ih =>
    intro j m hj hm
    obtain ⟨m,rfl⟩:∃q,m=q+1:=⟨m-1,by omega⟩
    have hlt:j<d.au.length:=by omega
    rw [fB.l0,if_pos (by simp;omega),if_pos (by omega),if_pos (by simp;omega),fU,fO hlt (by omega)]
    have:(d.au.take j).map (·.vType)++[(d.au.getD j aj).vType]=(d.au.take (j+1)).map (·.vType):=by
      rw [List.take_add_one,List.map_append,List.getD_eq_getElem?_getD,List.getElem?_eq_getElem hlt];rfl
    rw [this]
    exact ih (j+1) m (by omega) (by omega)
theorem xW {d:bF} (hl:d.au.length≤4294967295):Ev (fun k=>fB.f k d) (cont d):=by
  refine ⟨d.au.length+1,fun k hk=>?_⟩
  show fB.f k d=_
  unfold fB.f cont
  have:=zV hl d.au.length 0 k (by omega) (by omega)
  simp only [List.take_zero,List.map_nil] at this
  rw [show ((0:Nat):Int)=0 from rfl] at this
  rw [this]
  by_cases h3:d.aC=3
  · simp [h3]
  · by_cases h6 : d.aC = 6
    · simp [h6]
    · by_cases h4 : d.aC = 4
      · simp [h4]
      · simp [h3,h6,h4]

def shp (k:Int):Option dR:=
  if k=1 then some ⟨true,true,false,false,false⟩ else if k=2 then some ⟨false,false,true,false,false⟩ else if k=3 then some ⟨false,false,true,true,false⟩
  else if k=4 then some ⟨true,false,false,true,true⟩ else if k=5 then some ⟨true,false,false,false,true⟩ else if k=6 then some ⟨true,false,true,false,false⟩ else none
theorem Gx (k:Int):∃m,oh.f=some m∧bn ieq m k=shp k:=by
  refine ⟨_,rfl,?_⟩
  simp only [eU,ieq,Int.reduceBEq,Bool.false_eq_true,if_false,bn,beq_iff_eq,shp]
def um (m:List (ByteArray×Bool)) (ns:List ByteArray):Prop:=∀s,(bn strEq m s).getD false=ns.any (strEq s)
theorem um.nil:um [] []:=fun s=>rfl
theorem xA (a b:ByteArray):strEq a b=strEq b a:=by
  cases h:strEq a b with
  |true=>rw [kC] at h;subst h;exact (kC.2 rfl).symm
  | false =>
    cases h2:strEq b a with
    |false=>rfl
    |true=>rw [kC] at h2;subst h2;rw [kC.2 rfl] at h;cases h
theorem JC (m : List (ByteArray × Bool)) (k s : ByteArray) (v : Bool) : bn strEq (eU strEq m k v) s = if strEq s k = true then some v else bn strEq m s := by
  induction m with
  |nil=>simp [eU,bn]
  | cons p m ih =>
    simp only [eU]
    by_cases hk:strEq k p.1=true
    · rw [if_pos hk]
      have:=kC.1 hk
      simp only [bn]
      by_cases hs:strEq s k=true
      · rw [if_pos hs,if_pos hs]
      · rw [if_neg hs,if_neg hs,if_neg (by rw [←this];exact hs)]
    · rw [if_neg hk]
      simp only [bn]
      by_cases hs:strEq s p.1=true
      · rw [if_pos hs]
        have h1:=kC.1 hs
        subst h1
        rw [if_neg (by rw [xA];exact hk),if_pos (kC.2 rfl)]
      · rw [if_neg hs, ih]
        by_cases hsk:strEq s k=true
        · rw [if_pos hsk,if_pos hsk]
        · rw [if_neg hsk,if_neg hsk,if_neg hs]
theorem um.put {m:List (ByteArray×Bool)} {ns:List ByteArray} (h:um m ns) (k:ByteArray):um (eU strEq m k true) (k::ns):=fun s=>by
  rw [JC,List.any_cons]
  by_cases hs:strEq s k=true
  · rw [if_pos hs,hs];rfl
  · rw [if_neg hs, h s]
    have:strEq s k=false:=by simpa using hs
    rw [this];rfl
def kU (d:bF) (n:Int) (f:dw):Bool:=
  !(((d.aC==5)&&(((f.vType !=0)||decide (f.vAt<(-2147483648)))||decide (f.vAt>2147483647)))||((d.aC==4)&&(decide (f.vType<0)||decide (f.vType≥n))))
def rD (d:bF) (n:Int):List ByteArray→List dw→Bool
  |_,[]=>true
  |ns,f::r=>rJ f.aQ&& !(ns.any (strEq f.aQ))&&kU d n f&&rD d n (f.aQ::ns) r
theorem Gy {d : bF} {n : Int} (hl : d.au.length ≤ 9223372036854775807) (hz : ∀ f ∈ d.au, f.aQ.size ≤ 9223372036854775807) : ∀ (e j : Nat) (m : List (ByteArray × Bool)) (ns : List ByteArray), j + e = d.au.length → um m ns →
    ∃v,Ev2 (fun k q=>fE.l0 k d n q (j:Int) m) v∧(match v with| .inl b=>b=false∧rD d n ns (d.au.drop j)=false| .inr _=>rD d n ns (d.au.drop j)=true):=by
  intro e
  induction e with
  | zero =>
    intro j m ns hj hm
    refine ⟨.inr m,Ev2.pure (fun k q=>?_),?_⟩
    · rw [fE.l0,if_neg (by simp;omega)]
    · rw [List.drop_eq_nil_of_le (by omega)];rfl
  | succ e ih =>
    intro j m ns hj hm
    have hlt:j<d.au.length:=by omega
    have hmem:=getD_mem (z:=aj) hlt
    obtain ⟨v,hv,hp⟩:=ih (j+1) (eU strEq m (d.au.getD j aj).aQ true) ((d.au.getD j aj).aQ::ns) (by omega) (hm.put _)
    have hn:=NT (hz _ hmem)
    rw [jg aj hlt]
    have hstep:∀k q,fE.l0 k d n (q+1) (j:Int) m=(fZ.f k (d.au.getD j aj).aQ).bind fun v4=>if ((!v4)||ns.any (strEq (d.au.getD j aj).aQ))=true then some (.inl false) else
        if kU d n (d.au.getD j aj)=false then some (.inl false) else fE.l0 k d n q ((j+1:Nat):Int) (eU strEq m (d.au.getD j aj).aQ true):=by
      intro k q
      rw [fE.l0,if_pos (by simp;omega),if_pos (by omega),fU,fO hlt hl,hm]
      unfold kU
      simp only [Bool.not_eq_false']
    simp only [rD]
    generalize hf:d.au.getD j aj=f at*
    cases h1:rJ f.aQ with
    | false => exact ⟨.inl false, Ev2.step hn (r := fun k q b => if ((!b) || ns.any (strEq f.aQ)) = true then some (.inl false) else
        if kU d n f = false then some (.inl false) else fE.l0 k d n q ((j + 1 : Nat) : Int) (eU strEq m f.aQ true)) ⟨0, fun _ _ _ _ => by simp [h1]⟩ hstep, rfl, by simp⟩
    | true =>
      cases h2:ns.any (strEq f.aQ) with
      | true => exact ⟨.inl false, Ev2.step hn (r := fun k q b => if ((!b) || ns.any (strEq f.aQ)) = true then some (.inl false) else
        if kU d n f = false then some (.inl false) else fE.l0 k d n q ((j + 1 : Nat) : Int) (eU strEq m f.aQ true)) ⟨0, fun _ _ _ _ => by simp [h2]⟩ hstep, rfl, by simp⟩
      | false =>
        cases h3:kU d n f with
        | false => exact ⟨.inl false, Ev2.step hn (r := fun k q b => if ((!b) || ns.any (strEq f.aQ)) = true then some (.inl false) else
        if kU d n f = false then some (.inl false) else fE.l0 k d n q ((j + 1 : Nat) : Int) (eU strEq m f.aQ true)) ⟨0, fun _ _ _ _ => by simp [h1, h2, h3]⟩ hstep, rfl, by simp⟩
        | true =>
          refine ⟨v, Ev2.step hn (r := fun k q b => if ((!b) || ns.any (strEq f.aQ)) = true then some (.inl false) else
            if kU d n f = false then some (.inl false) else fE.l0 k d n q ((j + 1 : Nat) : Int) (eU strEq m f.aQ true)) ?_ hstep, ?_⟩
          · obtain ⟨K, hK⟩ := hv
            exact ⟨K,fun k q hk hq=>by simp only [h1,h2,h3];simpa using hK k q hk hq⟩
          · cases v with
            |inl b=>simpa using hp
            |inr b=>simpa using hp
def oO (d:bF) (n:Int):Bool:=
  match shp d.aC with
  |none=>false
  |some s=>(if s.jK=true then rJ d.aQ else strEq d.aQ ByteArray.empty)&&(if s.pK=true then okI d.bG else ((d.bG.aP==0)&&(d.bG.aN==false)))&&
      (if s.oV=true then (decide (0≤d.dM)&&decide (d.dM<n)) else (d.dM==0))&&(if s.vn=true then (decide (1≤d.vN)&&decide (d.vN≤512)) else (d.vN==0))&&
      (s.iQ==decide (0<d.au.length))&&decide (d.au.length≤32)&&rD d n [] d.au
theorem NU {d : bF} {n : Int} (hl : d.au.length ≤ 9223372036854775807) (hz : ∀ f ∈ d.au, f.aQ.size ≤ 9223372036854775807) (hz0 : d.aQ.size ≤ 9223372036854775807) :
    Ev (fun k=>fE.f k d n) (oO d n):=by
  obtain ⟨m,hm,hf⟩:=Gx d.aC
  obtain ⟨Kn,hKn⟩:=NT hz0
  obtain ⟨v,hv,hp⟩:=Gy (n:=n) hl hz d.au.length 0 [] [] (by omega) um.nil
  obtain ⟨Kl,hKl⟩:=hv.diag
  refine ⟨max Kn Kl,fun k hk=>?_⟩
  show fE.f k d n=_
  have h1:=hKn k (by omega)
  have h2:fE.l0 k d n k 0 []=some v:=hKl k (by omega)
  rw [List.drop_zero] at hp
  clear hKl hv
  rcases v with b|b
  · obtain ⟨rfl, hp⟩ := hp
    have h1:fZ.f k d.aQ=some (rJ d.aQ):=h1
    unfold fE.f
    simp only [hm,Option.bind_some,hf,h1,h2,jq.f]
    unfold oO
    cases hs:shp d.aC with
    |none=>simp
    | some s =>
      simp only [Option.isSome_some,Option.getD_some]
      obtain ⟨b1,b2,b3,b4,b5⟩:=s
      have e1:decide (d.dM<0)= !(decide (0≤d.dM)):=by by_cases h:d.dM<0<;>simp [h]<;>omega
      have e2:decide (d.dM≥n)= !(decide (d.dM<n)):=by by_cases h:d.dM<n<;>simp [h]<;>omega
      have e3:decide (d.vN<1)= !(decide (1≤d.vN)):=by by_cases h:d.vN<1<;>simp [h]<;>omega
      have e4:decide (d.vN>512)= !(decide (d.vN≤512)):=by by_cases h:d.vN>512<;>simp [h]<;>omega
      have e5:decide ((d.au.length:Int)>0)=decide (0<d.au.length):=by by_cases h:0<d.au.length<;>simp [h]
      have e6:decide ((d.au.length:Int)>32)= !(decide (d.au.length≤32)):=by by_cases h:d.au.length≤32<;>simp [h]<;>omega
      have e7:(d.dM !=0)= !(d.dM==0):=rfl
      have e8:(d.vN !=0)= !(d.vN==0):=rfl
      have e9:∀x:Bool,((if x=true then 0 else 10:Int) !=0)= !x:=fun x=>by cases x<;>rfl
      simp only [e1,e2,e3,e4,e5,e6,e7,e8]
      rw [hp]
      generalize rJ d.aQ=c1
      generalize strEq d.aQ ByteArray.empty=c2
      generalize okI d.bG=c3
      generalize (d.bG.aP==0)=c4
      generalize (d.bG.aN==false)=c5
      generalize decide (0≤d.dM)=c6
      generalize decide (d.dM<n)=c7
      generalize (d.dM==0)=c8
      generalize decide (1≤d.vN)=c9
      generalize decide (d.vN≤512)=c10
      generalize (d.vN==0)=c11
      generalize decide (0<d.au.length)=c12
      generalize decide (d.au.length≤32)=c13
      have f1:∀(b c1 c2:Bool) (K:Option Bool),((if (!true)=true then some (!true) else ((if (true&&(b==true))=true then some c1 else some false).bind fun v2=>if (b&& !v2)=true then some (b&& !v2) else some (!b&& !c2)):Option Bool).bind fun xx1=>if xx1=true then some false else K)=if (if b=true then c1 else c2)=true then K else some false:=by
        intro b c1 c2 K;cases b<;>cases c1<;>cases c2<;>rfl
      have f2:∀(b:Bool) (x:Int) (hx:(x !=0)= !c3) (K:Option Bool),((if (true&&(b==true))=true then some x else some 0).bind fun v3=>(((if (b&&(v3 !=0))=true then some (b&&(v3 !=0)) else some (!b&& !(c4&&(c5&&true)))):Option Bool).bind fun xx2=>if xx2=true then some false else K))=if (if b=true then c3 else (c4&&c5))=true then K else some false:=by
        intro b x hx K;cases b
        · cases c4<;>cases c5<;>rfl
        · simp only [Bool.true_and, beq_self_eq_true, if_true, Option.bind_some, hx]
          cases c3<;>rfl
      have f3:∀(b x y z:Bool) (K:Option Bool),(((if (b&&(!x|| !y))=true then some (b&&(!x|| !y)) else some (!b&& !z)):Option Bool).bind fun xx=>if xx=true then some false else K)=if (if b=true then (x&&y) else z)=true then K else some false:=by
        intro b x y z K;cases b<;>cases x<;>cases y<;>cases z<;>rfl
      have f5:∀(b x y:Bool) (K:Option Bool),(((if (b !=x)=true then some (b !=x) else some (!y)):Option Bool).bind fun xx=>if xx=true then some false else K)=if (b==x&&y)=true then K else some false:=by
        intro b x y K;cases b<;>cases x<;>cases y<;>rfl
      rw [f1,f2 _ _ (e9 c3),f3,f3,f5]
      generalize (if b1=true then c1 else c2)=t1
      generalize (if b2=true then c3 else (c4&&c5))=t2
      generalize (if b3=true then (c6&&c7) else c8)=t3
      generalize (if b4=true then (c9&&c10) else c11)=t4
      generalize (b5==c12)=t5
      cases t1<;>cases t2<;>cases t3<;>cases t4<;>cases t5<;>cases c13<;>rfl
  · simp only at hp
    have h1:fZ.f k d.aQ=some (rJ d.aQ):=h1
    unfold fE.f
    simp only [hm,Option.bind_some,hf,h1,h2,jq.f]
    unfold oO
    cases hs:shp d.aC with
    |none=>simp
    | some s =>
      simp only [Option.isSome_some,Option.getD_some]
      obtain ⟨b1,b2,b3,b4,b5⟩:=s
      have e1:decide (d.dM<0)= !(decide (0≤d.dM)):=by by_cases h:d.dM<0<;>simp [h]<;>omega
      have e2:decide (d.dM≥n)= !(decide (d.dM<n)):=by by_cases h:d.dM<n<;>simp [h]<;>omega
      have e3:decide (d.vN<1)= !(decide (1≤d.vN)):=by by_cases h:d.vN<1<;>simp [h]<;>omega
      have e4:decide (d.vN>512)= !(decide (d.vN≤512)):=by by_cases h:d.vN>512<;>simp [h]<;>omega
      have e5:decide ((d.au.length:Int)>0)=decide (0<d.au.length):=by by_cases h:0<d.au.length<;>simp [h]
      have e6:decide ((d.au.length:Int)>32)= !(decide (d.au.length≤32)):=by by_cases h:d.au.length≤32<;>simp [h]<;>omega
      have e7:(d.dM !=0)= !(d.dM==0):=rfl
      have e8:(d.vN !=0)= !(d.vN==0):=rfl
      have e9:∀x:Bool,((if x=true then 0 else 10:Int) !=0)= !x:=fun x=>by cases x<;>rfl
      simp only [e1,e2,e3,e4,e5,e6,e7,e8]
      rw [hp]
      generalize rJ d.aQ=c1
      generalize strEq d.aQ ByteArray.empty=c2
      generalize okI d.bG=c3
      generalize (d.bG.aP==0)=c4
      generalize (d.bG.aN==false)=c5
      generalize decide (0≤d.dM)=c6
      generalize decide (d.dM<n)=c7
      generalize (d.dM==0)=c8
      generalize decide (1≤d.vN)=c9
      generalize decide (d.vN≤512)=c10
      generalize (d.vN==0)=c11
      generalize decide (0<d.au.length)=c12
      generalize decide (d.au.length≤32)=c13
      have f1:∀(b c1 c2:Bool) (K:Option Bool),((if (!true)=true then some (!true) else ((if (true&&(b==true))=true then some c1 else some false).bind fun v2=>if (b&& !v2)=true then some (b&& !v2) else some (!b&& !c2)):Option Bool).bind fun xx1=>if xx1=true then some false else K)=if (if b=true then c1 else c2)=true then K else some false:=by
        intro b c1 c2 K;cases b<;>cases c1<;>cases c2<;>rfl
      have f2:∀(b:Bool) (x:Int) (hx:(x !=0)= !c3) (K:Option Bool),((if (true&&(b==true))=true then some x else some 0).bind fun v3=>(((if (b&&(v3 !=0))=true then some (b&&(v3 !=0)) else some (!b&& !(c4&&(c5&&true)))):Option Bool).bind fun xx2=>if xx2=true then some false else K))=if (if b=true then c3 else (c4&&c5))=true then K else some false:=by
        intro b x hx K;cases b
        · cases c4<;>cases c5<;>rfl
        · simp only [Bool.true_and, beq_self_eq_true, if_true, Option.bind_some, hx]
          cases c3<;>rfl
      have f3:∀(b x y z:Bool) (K:Option Bool),(((if (b&&(!x|| !y))=true then some (b&&(!x|| !y)) else some (!b&& !z)):Option Bool).bind fun xx=>if xx=true then some false else K)=if (if b=true then (x&&y) else z)=true then K else some false:=by
        intro b x y z K;cases b<;>cases x<;>cases y<;>cases z<;>rfl
      have f5:∀(b x y:Bool) (K:Option Bool),(((if (b !=x)=true then some (b !=x) else some (!y)):Option Bool).bind fun xx=>if xx=true then some false else K)=if (b==x&&y)=true then K else some false:=by
        intro b x y K;cases b<;>cases x<;>cases y<;>rfl
      rw [f1,f2 _ _ (e9 c3),f3,f3,f5]
      generalize (if b1=true then c1 else c2)=t1
      generalize (if b2=true then c3 else (c4&&c5))=t2
      generalize (if b3=true then (c6&&c7) else c8)=t3
      generalize (if b4=true then (c9&&c10) else c11)=t4
      generalize (b5==c12)=t5
      cases t1<;>cases t2<;>cases t3<;>cases t4<;>cases t5<;>cases c13<;>rfl
end Go.Proofs.YtecpbadkdpbkpaaGreatDoor
namespace Go.Proofs.YtecpbadkdpbkpaaGreatDoor
open Go.RowKit Go.M
def nval (d:bF) (inner:Int):Int:=
  if d.aC=1 then d.bG.aP else if d.aC=2 then 8 else if d.aC=3 then IntKind.wrap .i64 (d.vN*inner) else if d.aC=4 then d.vN else if d.aC=5 then 4 else if d.aC=6 then inner else 0
theorem NV (d:bF) (inner:Int):((bn ieq (eU ieq (eU ieq (eU ieq (eU ieq (eU ieq (eU ieq ([]:List (Int×Int)) 1 d.bG.aP) 2 8) 3 (IntKind.wrap .i64 (d.vN*inner))) 4 d.vN) 5 4) 6 inner) d.aC).getD 0)=nval d inner:=by
  simp only [eU,ieq,Int.reduceBEq,Bool.false_eq_true,if_false,bn,beq_iff_eq,nval]
  repeat' split
  all_goals rfl
structure ShD (d:bF) (n:Nat):Prop where
  kind:1≤d.aC∧d.aC≤6
  ref:d.aC=2∨d.aC=3∨d.aC=6→0≤d.dM∧d.dM<n
  num:d.aC=3∨d.aC=4→1≤d.vN∧d.vN≤512
  int:d.aC=1→d.bG.aP=1∨d.bG.aP=2∨d.bG.aP=4∨d.bG.aP=8
  few:d.au.length≤32
  typ:d.aC=4→∀f∈d.au,0≤f.vType∧f.vType<n
  names:(d.au.map (·.aQ)).Nodup
theorem fields_of {d : bF} {n : Int} : ∀ (ns : List ByteArray) (l : List dw), rD d n ns l = true → (∀ f ∈ l, rJ f.aQ = true ∧ kU d n f = true ∧ f.aQ ∉ ns) ∧ (l.map (·.aQ)).Nodup
  |_,[],_=>⟨by simp,by simp⟩
  | ns, f :: r, h => by
    simp only [rD,Bool.and_eq_true,Bool.not_eq_true'] at h
    obtain ⟨⟨⟨h1,h2⟩,h3⟩,h4⟩:=h
    obtain ⟨h5,h6⟩:=fields_of _ r h4
    have hn:f.aQ∉ns:=fun hm=>by
      have:=List.any_eq_false.1 h2 f.aQ hm
      exact this (kC.2 rfl)
    refine ⟨fun g hg=>?_,?_⟩
    · rcases List.mem_cons.1 hg with rfl | hg
      · exact ⟨h1,h3,hn⟩
      · obtain ⟨a, b, c⟩ := h5 g hg
        exact ⟨a,b,fun hm=>c (List.mem_cons_of_mem _ hm)⟩
    · rw [List.map_cons, List.nodup_cons]
      refine ⟨fun hm=>?_,h6⟩
      obtain ⟨g,hg,e⟩:=List.mem_map.1 hm
      exact (h5 g hg).2.2 (by rw [e];exact List.mem_cons_self)
theorem NW {d:bF} {n:Nat} (h:oO d (n:Int)=true):ShD d n:=by
  unfold oO at h
  cases hs:shp d.aC with
  |none=>rw [hs] at h;cases h
  | some s =>
    rw [hs] at h
    simp only [Bool.and_eq_true,decide_eq_true_eq] at h
    obtain ⟨⟨⟨⟨⟨⟨h1,h2⟩,h3⟩,h4⟩,h5⟩,h6⟩,h7⟩:=h
    obtain ⟨h8,h9⟩:=fields_of _ _ h7
    unfold shp at hs
    refine ⟨?_,?_,?_,?_,h6,?_,h9⟩
    · repeat' split at hs
      all_goals first|(cases hs;done)|omega
    · intro hk
      repeat' split at hs
      all_goals first|(cases hs;done)|(injection hs with hs;subst hs;simp at h3;omega)|omega
    · intro hk
      repeat' split at hs
      all_goals first|(cases hs;done)|(injection hs with hs;subst hs;simp at h4;omega)|omega
    · intro hk
      rw [if_pos hk] at hs
      injection hs with hs
      subst hs
      simp only [if_true] at h2
      simp only [okI,Bool.or_eq_true,beq_iff_eq] at h2
      omega
    · intro hk f hf
      have:=(h8 f hf).2.1
      simp only [kU,hk] at this
      simp at this
      omega
theorem ou {d:bF} {n:Nat} (h:ShD d n):∀c∈cont d,0≤c∧c<n:=by
  intro c hc
  unfold cont at hc
  split at hc
  · rename_i hk
    simp only [Bool.or_eq_true,beq_iff_eq] at hk
    obtain rfl:=List.mem_singleton.1 hc
    exact h.ref (by omega)
  · split at hc
    · rename_i hk
      simp only [beq_iff_eq] at hk
      obtain ⟨f,hf,rfl⟩:=List.mem_map.1 hc
      exact h.typ hk f hf
    · cases hc

def cnt (l:List Bool):Nat:=(l.filter fun b=> !b).length
theorem cnt_le:∀(a b:List Bool),a.length=b.length→(∀j,a.getD j false=true→b.getD j false=true)→cnt b≤cnt a
  |[],[],_,_=>Nat.le_refl _
  |[],_::_,h,_=>by simp at h
  |_::_,[],h,_=>by simp at h
  | x :: a, y :: b, h, hj => by
    have h1:=cnt_le a b (by simpa using h) (fun j hh=>by simpa using hj (j+1) (by simpa using hh))
    have h2:=hj 0
    simp only [List.getD_cons_zero] at h2
    unfold cnt at*
    cases x<;>cases y<;>simp_all<;>omega
theorem NY:∀(a:List Bool) (i:Nat),i<a.length→a.getD i false=false→cnt (a.set i true)+1=cnt a
  |[],i,h,_=>by simp at h
  | x :: a, 0, h, hi => by
    simp only [List.getD_cons_zero] at hi
    subst hi
    simp [cnt]
  | x :: a, i + 1, h, hi => by
    have:=NY a i (by simpa using h) (by simpa using hi)
    unfold cnt at*
    cases x<;>simp_all<;>omega
theorem mV {α:Type} {z v:α} {l:List α} {i j:Nat} (hi:i<l.length):(l.set i v).getD j z=if i=j then v else l.getD j z:=by
  by_cases h:i=j
  · subst h;simp [List.getD_eq_getElem?_getD,hi]
  · simp [List.getD_eq_getElem?_getD,List.getElem?_set_ne h,h]

section
variable (defs:List bF)
def inner (out:List Int) (d:bF):Int:=(cont d).foldl (fun _ c=>out.getD c.toNat 0) 0
def Jn (out:List Int):Prop:=∃(rk:Nat→Nat) (B:Nat),∀j,j<defs.length→0<out.getD j 0→
  rk j<B∧out.getD j 0≤512∧(∀c∈cont (defs.getD j ah),0<out.getD c.toNat 0∧rk c.toNat<rk j)∧out.getD j 0=nval (defs.getD j ah) (inner out (defs.getD j ah))
structure Post (out:List Int) (ok:Bool) (bg:List Bool) (out':List Int) (ok':Bool) (bg':List Bool):Prop where
  lo:out'.length=defs.length
  lb:bg'.length=defs.length
  bgm:∀j,bg.getD j false=true→bg'.getD j false=true
  okm:ok'=true→ok=true
  keep:ok'=true→∀j,0<out.getD j 0→out'.getD j 0=out.getD j 0
  stack:ok'=true→∀j,bg.getD j false=true→out.getD j 0≤0→out'.getD j 0≤0
  jn:ok'=true→Jn defs out→Jn defs out'
variable {defs}
theorem Post.rfl' {out:List Int} {ok:Bool} {bg:List Bool} (h1:out.length=defs.length) (h2:bg.length=defs.length):Post defs out ok bg out ok bg:=
  ⟨h1,h2,fun _ h=>h,fun h=>h,fun _ _ _=>rfl,fun _ _ _ h=>h,fun _ h=>h⟩
theorem Post.trans {o1 o2 o3:List Int} {k1 k2 k3:Bool} {b1 b2 b3:List Bool} (h:Post defs o1 k1 b1 o2 k2 b2) (g:Post defs o2 k2 b2 o3 k3 b3):Post defs o1 k1 b1 o3 k3 b3:=by
  refine ⟨g.lo,g.lb,fun j hj=>g.bgm j (h.bgm j hj),fun hk=>h.okm (g.okm hk),fun hk j hj=>?_,fun hk j hb ho=>?_,fun hk hJ=>g.jn hk (h.jn (g.okm hk) hJ)⟩
  · have := h.keep (g.okm hk) j hj
    rw [g.keep hk j (by rw [this];exact hj),this]
  · exact g.stack hk j (h.bgm j hb) (h.stack (g.okm hk) j hb ho)
def kG (i:Nat) (out:List Int) (ok:Bool) (bg:List Bool):Prop:=∃r out' ok' bg',Ev (fun k=>cu.f k (i:Int) out ok bg defs) (r,out',ok',bg')∧Post defs out ok bg out' ok' bg'∧(ok'=true→Jn defs out→0<r∧r=out'.getD i 0)
theorem JD {c0 : Nat} (v1 : List Int) (hv : ∀ c ∈ v1, 0 ≤ c ∧ c < (defs.length : Int)) (hvl : v1.length ≤ 9223372036854775807)
    (hc:∀i out ok bg,i<defs.length→out.length=defs.length→bg.length=defs.length→cnt bg<c0→kG (defs:=defs) i out ok bg):
    ∀(e j:Nat) (inn:Int) (out:List Int) (ok:Bool) (bg:List Bool),j+e=v1.length→out.length=defs.length→bg.length=defs.length→cnt bg<c0→
    ∃ XA out' ok' bg', (∃ K, ∀ k m, K ≤ k → K ≤ m → cu.l0 (cu.f k) defs v1 m inn (j : Int) ok out bg = some (XA, ok', out', bg')) ∧ Post defs out ok bg out' ok' bg' ∧
      (ok'=true→Jn defs out→(∀c∈v1.drop j,0<out'.getD c.toNat 0)∧XA=(v1.drop j).foldl (fun _ c=>out'.getD c.toNat 0) inn):=by
  intro e
  induction e with
  | zero =>
    intro j inn out ok bg hj h1 h2 h3
    refine ⟨inn,out,ok,bg,⟨1,fun k m _ hm=>?_⟩,Post.rfl' h1 h2,fun _ _=>?_⟩
    · obtain ⟨m, rfl⟩ : ∃ q, m = q + 1 := ⟨m - 1, by omega⟩
      rw [cu.l0,if_neg (by simp;omega)]
    · rw [List.drop_eq_nil_of_le (by omega)];simp
  | succ e ih =>
    intro j inn out ok bg hj h1 h2 h3
    have hlt:j<v1.length:=by omega
    have hm:=hv _ (getD_mem (z:=0) hlt)
    obtain ⟨i,hi⟩:∃i:Nat,v1.getD j 0=(i:Int):=⟨(v1.getD j 0).toNat,by omega⟩
    obtain ⟨r,o1,k1,b1,⟨K1,hK1⟩,hP1,hr1⟩:=hc i out ok bg (by omega) h1 h2 h3
    have hcl:=cnt_le bg b1 (by rw [h2,hP1.lb]) hP1.bgm
    obtain ⟨XA,o2,k2,b2,⟨K2,hK2⟩,hP2,hr2⟩:=ih (j+1) r o1 k1 b1 (by omega) hP1.lo hP1.lb (by omega)
    refine ⟨XA,o2,k2,b2,⟨max K1 K2+1,fun k m hk hm'=>?_⟩,hP1.trans hP2,fun hok hJ=>?_⟩
    · obtain ⟨m, rfl⟩ : ∃ q, m = q + 1 := ⟨m - 1, by omega⟩
      rw [cu.l0,if_pos (by simp;omega),if_pos (by omega),fU,hi,show cu.f k _ _ _ _ _=_ from hK1 k (by omega)]
      simp only [Option.bind_some]
      rw [fO hlt hvl]
      exact hK2 k m (by omega) (by omega)
    · obtain ⟨h5, h6⟩ := hr2 hok (hP1.jn (hP2.okm hok) hJ)
      obtain ⟨h7,h8⟩:=hr1 (hP2.okm hok) hJ
      have h9:=hP2.keep hok i (by rw [←h8];exact h7)
      rw [jg 0 hlt,hi]
      refine ⟨fun c hc'=>?_,?_⟩
      · rcases List.mem_cons.1 hc' with rfl | hc'
        · simp only [Int.toNat_natCast]
          rw [h9,←h8];exact h7
        · exact h5 c hc'
      · rw [List.foldl_cons, h6]
        simp only [Int.toNat_natCast]
        rw [h9,←h8]
theorem JE (hS : ∀ d ∈ defs, ShD d defs.length) : ∀ (c : Nat) (i : Nat) (out : List Int) (ok : Bool) (bg : List Bool), i < defs.length → out.length = defs.length → bg.length = defs.length → cnt bg = c → kG (defs := defs) i out ok bg := by
  intro c
  induction c using Nat.strongRecOn with
  | _ c ihc =>
    intro i out ok bg hi h1 h2 hcnt
    by_cases hA:0<out.getD i 0∨ok=false
    · refine ⟨out.getD i 0, out, ok, bg, ⟨1, fun k hk => ?_⟩, Post.rfl' h1 h2, fun hk _ => ?_⟩
      · obtain ⟨k, rfl⟩ : ∃ q, k = q + 1 := ⟨k - 1, by omega⟩
        show cu.f (k+1) _ _ _ _ _=_
        rw [cu.f, if_pos (by omega), fU, if_pos (by
          rcases hA with h|h
          · simp only [Bool.or_eq_true,decide_eq_true_eq];exact .inl h
          · simp [h]), if_pos (by omega)]
      · rcases hA with h | h
        · exact ⟨h,rfl⟩
        · rw [h] at hk;cases hk
    · have hA1 : ¬ 0 < out.getD i 0 := fun h => hA (.inl h)
      have hok:ok=true:=by cases ok with
        |true=>rfl
        |false=>exact absurd (.inr rfl) hA
      subst hok
      cases hb:bg.getD i false with
      | true =>
        refine ⟨0,out,false,bg,⟨1,fun k hk=>?_⟩,⟨h1,h2,fun _ h=>h,(fun h=>by cases h),(fun h=>by cases h),(fun h=>by cases h),(fun h=>by cases h)⟩,(fun h _=>by cases h)⟩
        obtain ⟨k,rfl⟩:∃q,k=q+1:=⟨k-1,by omega⟩
        show cu.f (k+1) _ _ _ _ _=_
        rw [cu.f,if_pos (by omega),fU,if_neg (by simp only [Bool.not_true,Bool.or_false,decide_eq_true_eq];exact hA1),if_pos (by omega),fU,if_pos hb]
      | false =>
        have hd:=hS _ (getD_mem (z:=ah) hi)
        have hcr:=ou hd
        have hcs:=NY bg i (by omega) hb
        have YB:(cont (defs.getD i ah)).length≤9223372036854775807:=by
          have:=hd.few
          unfold cont
          split
          · simp
          · split
            · rw [List.length_map];omega
            · simp
        obtain ⟨Kc,hKc⟩:=xW (d:=defs.getD i ah) (by have:=hd.few;omega)
        obtain ⟨inn,o1,k1,b1,⟨K1,hK1⟩,hP,hr⟩:=JD (defs:=defs) (c0:=c) (cont (defs.getD i ah)) hcr YB (fun i' out' ok' bg' a b c' d=>ihc (cnt bg') d i' out' ok' bg' a b c' rfl)
          (cont (defs.getD i ah)).length 0 0 out true (bg.set i true) (by omega) h1 (by simpa using h2) (by omega)
        rw [List.drop_zero] at hr
        have hb1:(bg.set i true).getD i false=true:=by rw [mV (by omega),if_pos rfl]
        have hbm:∀j,bg.getD j false=true→(bg.set i true).getD j false=true:=fun j hj=>by
          rw [mV (by omega)]
          split
          · rfl
          · exact hj
        have fin : Jn defs out → (k1 && decide (nval (defs.getD i ah) inn ≤ 512)) = true → 0 < nval (defs.getD i ah) inn ∧ Jn defs (o1.set i (nval (defs.getD i ah) inn)) := by
          intro hJ hk
          simp only [Bool.and_eq_true,decide_eq_true_eq] at hk
          obtain ⟨hk1,YC⟩:=hk
          obtain ⟨hr1,hr2⟩:=hr hk1 hJ
          have hi0:=hP.stack hk1 i hb1 (by omega)
          have hJ1:=hP.jn hk1 hJ
          have Zr:inn=inner o1 (defs.getD i ah):=hr2
          have YD:0<nval (defs.getD i ah) inn:=by
            obtain ⟨rk,B,hB⟩:=hJ1
            have href:(defs.getD i ah).aC=3∨(defs.getD i ah).aC=6→0<inn∧inn≤512:=by
              intro hk
              have hcd:cont (defs.getD i ah)=[(defs.getD i ah).dM]:=by
                unfold cont
                rw [if_pos (by simp only [Bool.or_eq_true,beq_iff_eq];exact hk)]
              rw [hcd] at hr1 hcr
              have h5:=hr1 _ (List.mem_singleton.2 rfl)
              have h6:=hcr _ (List.mem_singleton.2 rfl)
              have h7:=hB (defs.getD i ah).dM.toNat (by omega) h5
              rw [Zr]
              unfold inner
              rw [hcd]
              simp only [List.foldl_cons,List.foldl_nil]
              exact ⟨h5,h7.2.1⟩
            have hkd:=hd.kind
            have hnum:=hd.num
            have hint:=hd.int
            unfold nval
            by_cases e1:(defs.getD i ah).aC=1
            · rw [if_pos e1];have:=hint e1;omega
            · rw [if_neg e1]
              by_cases e2:(defs.getD i ah).aC=2
              · rw [if_pos e2];decide
              · rw [if_neg e2]
                by_cases e3:(defs.getD i ah).aC=3
                · rw [if_pos e3]
                  obtain ⟨h5,h6⟩:=href (.inl e3)
                  obtain ⟨h7,h8⟩:=hnum (.inl e3)
                  have h9:(defs.getD i ah).vN*inn≤512*512:=Int.mul_le_mul h8 h6 (by omega) (by omega)
                  have h10:0<(defs.getD i ah).vN*inn:=Int.mul_pos (by omega) h5
                  rw [lF (by omega) (by omega)]
                  exact h10
                · rw [if_neg e3]
                  by_cases e4:(defs.getD i ah).aC=4
                  · rw [if_pos e4];have:=hnum (.inr e4);omega
                  · rw [if_neg e4]
                    by_cases e5:(defs.getD i ah).aC=5
                    · rw [if_pos e5];decide
                    · rw [if_neg e5, if_pos (by omega)]
                      exact (href (.inr (by omega))).1
          refine ⟨YD,?_⟩
          obtain ⟨rk,B,hB⟩:=hJ1
          have hne:∀c:Int,0<o1.getD c.toNat 0→¬i=c.toNat:=fun c hc e=>by rw [←e] at hc;omega
          have hset:∀j,¬i=j→(o1.set i (nval (defs.getD i ah) inn)).getD j 0=o1.getD j 0:=fun j hj=>by rw [mV (by rw [hP.lo];exact hi),if_neg hj]
          have hin:∀d:bF,(∀c∈cont d,0<o1.getD c.toNat 0)→inner (o1.set i (nval (defs.getD i ah) inn)) d=inner o1 d:=by
            intro d hcd
            have key:∀(l:List Int) (z0:Int),(∀c∈l,0<o1.getD c.toNat 0)→l.foldl (fun _ c=>(o1.set i (nval (defs.getD i ah) inn)).getD c.toNat 0) z0=l.foldl (fun _ c=>o1.getD c.toNat 0) z0:=by
              intro l
              induction l with
              |nil=>intro _ _;rfl
              | cons c l ihl =>
                intro z0 hcd
                rw [List.foldl_cons,List.foldl_cons,hset _ (hne c (hcd c List.mem_cons_self))]
                exact ihl _ (fun c hc=>hcd c (List.mem_cons_of_mem _ hc))
            exact key _ _ hcd
          refine ⟨fun j=>if i=j then B else rk j,B+1,fun j hj hpos=>?_⟩
          show (if i=j then B else rk j)<B+1∧_∧(∀c:Int,c∈cont (defs.getD j ah)→_∧(if i=c.toNat then B else rk c.toNat)<(if i=j then B else rk j))∧_
          by_cases hij:i=j
          · subst hij
            rw [mV (by rw [hP.lo];exact hi),if_pos rfl,if_pos rfl]
            refine ⟨by omega,YC,fun c hc=>?_,?_⟩
            · have h5 := hr1 c hc
              have h6:=hcr c hc
              rw [hset _ (hne c h5),if_neg (hne c h5)]
              exact ⟨h5,(hB c.toNat (by omega) h5).1⟩
            · rw [hin _ hr1,←Zr]
          · rw [hset j hij] at hpos ⊢
            obtain ⟨h5,h6,h7,h8⟩:=hB j hj hpos
            rw [if_neg hij]
            refine ⟨by omega,h6,fun c hc=>?_,?_⟩
            · obtain ⟨h9, h10⟩ := h7 c hc
              rw [hset _ (hne c h9),if_neg (hne c h9)]
              exact ⟨h9,h10⟩
            · rw [hin _ (fun c hc=>(h7 c hc).1)];exact h8
        refine ⟨nval (defs.getD i ah) inn,o1.set i (nval (defs.getD i ah) inn),k1&&decide (nval (defs.getD i ah) inn≤512),b1,⟨max Kc K1+1,fun k hk=>?_⟩,?_,?_⟩
        · obtain ⟨k, rfl⟩ : ∃ q, k = q + 1 := ⟨k - 1, by omega⟩
          show cu.f (k+1) _ _ _ _ _=_
          rw [cu.f,if_pos (by omega),fU,if_neg (by simp only [Bool.not_true,Bool.or_false,decide_eq_true_eq];exact hA1),if_pos (by omega),fU,if_neg (by rw [hb];simp),if_pos (by omega),if_pos (by omega),fU,show fB.f k _=_ from hKc k (by omega)]
          simp only [Option.bind_some,Int.toNat_natCast]
          rw [show cu.l0 (cu.f k) defs _ k 0 0 true out _=_ from hK1 k k (by omega) (by omega)]
          simp only [Option.bind_some]
          rw [if_pos (by rw [hP.lo];omega)]
          simp only [NV]
        · refine ⟨by simp [hP.lo], hP.lb, fun j hj => hP.bgm j (hbm j hj), fun _ => rfl, fun hk j hj => ?_, fun hk j hj ho => ?_, fun hk hJ => ?_⟩
          · have hk1 : k1 = true := by simp only [Bool.and_eq_true] at hk; exact hk.1
            rw [mV (by rw [hP.lo];exact hi),if_neg (fun e=>hA1 (by subst e;exact hj))]
            exact hP.keep hk1 j hj
          · have hk1 : k1 = true := by simp only [Bool.and_eq_true] at hk; exact hk.1
            rw [mV (by rw [hP.lo];exact hi),if_neg (fun e=>by subst e;rw [hb] at hj;cases hj)]
            exact hP.stack hk1 j (hbm j hj) ho
          · exact (fin hJ hk).2
        · intro hk hJ
          refine ⟨(fin hJ hk).1,?_⟩
          rw [mV (by rw [hP.lo];exact hi),if_pos rfl]
end
theorem Jn.zero {defs : List bF} {n : Nat} : Jn defs (List.replicate n 0) := ⟨fun _ => 0, 0, fun j hj h => by
  exfalso
  rw [List.getD_eq_getElem?_getD,List.getElem?_replicate] at h
  split at h <;> simp at h⟩
theorem Qj {t : aU} (hS : ∀ d ∈ t.ay, ShD d t.ay.length) (hn : t.ay.length ≤ 9223372036854775807) : ∀ (e j : Nat) (ok : Bool) (bg : List Bool) (out : List Int), j + e = t.ay.length → out.length = t.ay.length → bg.length = t.ay.length →
    ∃ok' bg' out',Ev2 (fun k m=>eP.l0 k t m (j:Int) ok bg out) (ok',bg',out')∧Post t.ay out ok bg out' ok' bg'∧(ok'=true→Jn t.ay out→∀q,j≤q→q<t.ay.length→0<out'.getD q 0):=by
  intro e
  induction e with
  | zero =>
    intro j ok bg out hj h1 h2
    refine ⟨ok,bg,out,Ev2.pure (fun k m=>?_),Post.rfl' h1 h2,fun _ _ q hq hq2=>by omega⟩
    rw [eP.l0,if_neg (by simp;omega)]
  | succ e ih =>
    intro j ok bg out hj h1 h2
    have hlt:j<t.ay.length:=by omega
    obtain ⟨r,o1,k1,b1,hE,hP1,hr1⟩:=JE hS (cnt bg) j out ok bg hlt h1 h2 rfl
    obtain ⟨ok',bg',out',hE2,hP2,hr2⟩:=ih (j+1) k1 b1 o1 (by omega) hP1.lo hP1.lb
    refine ⟨ok',bg',out',Ev2.step hE (r:=fun k m (v1:Int×List Int×Bool×List Bool)=>eP.l0 k t m (IntKind.wrap .i64 ((j:Int)+1)) v1.2.2.1 v1.2.2.2 v1.2.1) ?_ (fun k m=>?_),hP1.trans hP2,fun hok hJ q hq hq2=>?_⟩
    · simp only
      rw [fO hlt hn]
      exact hE2
    · rw [eP.l0,if_pos (by simp;omega)]
    · by_cases hqj : q = j
      · subst hqj
        obtain ⟨h3,h4⟩:=hr1 (hP2.okm hok) hJ
        rw [hP2.keep hok q (by rw [←h4];exact h3),←h4]
        exact h3
      · exact hr2 hok (hP1.jn (hP2.okm hok) hJ) q (by omega) hq2
theorem Qk {t:aU} (hS:∀d∈t.ay,ShD d t.ay.length) (hn:t.ay.length≤200):∃out ok,Ev (fun k=>eP.f k t) (out,ok)∧out.length=t.ay.length∧(ok=true→Jn t.ay out∧∀q,q<t.ay.length→0<out.getD q 0):=by
  obtain ⟨ok,bg,out,hE,hP,hr⟩:=Qj hS (by omega) t.ay.length 0 true (List.replicate t.ay.length false) (List.replicate t.ay.length 0) (by omega) (by simp) (by simp)
  obtain ⟨K,hK⟩:=hE.diag
  refine ⟨out,ok,⟨K,fun k hk=>?_⟩,hP.lo,fun hok=>⟨hP.jn hok Jn.zero,fun q hq=>hr hok Jn.zero q (by omega) hq⟩⟩
  show eP.f k t=_
  unfold eP.f
  rw [if_pos (by omega),if_pos (by omega)]
  simp only [Int.toNat_natCast]
  rw [show eP.l0 k t k 0 true _ _=_ from hK k hk]
  rfl
end Go.Proofs.YtecpbadkdpbkpaaGreatDoor
namespace Go.Proofs.YtecpbadkdpbkpaaGreatDoor
open Go.RowKit Go.M
def lq (l:List Int):Int→List dw→Option Int
  |at_,[]=>some at_
  |at_,f::r=>if ((decide (f.vAt<at_))||(decide (f.vAt>512)))=true then none else lq l (IntKind.wrap .i64 (f.vAt+rd 0 l f.vType)) r
def sZ (d:bF) (l:List Int):Bool:=match lq l 0 d.au with|none=>false|some e=>decide (e≤d.vN)
theorem Gz {d:bF} {l:List Int} (hl:d.au.length≤9223372036854775807) (ht:∀f∈d.au,0≤f.vType∧f.vType<l.length):∀(e j m:Nat) (at_:Int),j+e=d.au.length→e<m→
    iD.l0 d l m at_ (j:Int)=some (match lq l at_ (d.au.drop j) with|none=> .inl false|some a=> .inr a):=by
  intro e
  induction e with
  | zero =>
    intro j m at_ hj hm
    obtain ⟨m,rfl⟩:∃q,m=q+1:=⟨m-1,by omega⟩
    rw [iD.l0,if_neg (by simp;omega),List.drop_eq_nil_of_le (by omega)]
    rfl
  | succ e ih =>
    intro j m at_ hj hm
    obtain ⟨m,rfl⟩:∃q,m=q+1:=⟨m-1,by omega⟩
    have hlt:j<d.au.length:=by omega
    have hf:=ht _ (getD_mem (z:=aj) hlt)
    rw [iD.l0,if_pos (by simp;omega),if_pos (by omega),fU,jg aj hlt]
    simp only [lq]
    by_cases hc:((decide ((d.au.getD j aj).vAt<at_))||(decide ((d.au.getD j aj).vAt>512)))=true
    · rw [if_pos hc,if_pos hc]
    · rw [if_neg hc,if_neg hc,if_pos hf,fO hlt hl,ih (j+1) m _ (by omega) (by omega)]
theorem EY {d:bF} {l:List Int} (hl:d.au.length≤9223372036854775807) (ht:∀f∈d.au,0≤f.vType∧f.vType<l.length):Ev (fun k=>iD.f k d l) (sZ d l):=by
  refine ⟨d.au.length+1,fun k hk=>?_⟩
  show iD.f k d l=_
  unfold iD.f sZ
  rw [show iD.l0 d l k 0 0=_ from Gz hl ht d.au.length 0 k 0 (by omega) (by omega),List.drop_zero]
  cases lq l 0 d.au<;>rfl
def mW (d:bF):Bool:=(d.aC !=2)&&(d.aC !=3)
def uK (defs:List bF):Nat→bF→Bool
  |0,d=> !mW d
  |m+1,d=>if mW d=true then false else uK defs m (rd ah defs d.dM)
theorem NZ {t : aU} (hS : ∀ d ∈ t.ay, ShD d t.ay.length) (hn : t.ay.length ≤ 9223372036854775807) : ∀ (e j m : Nat) (d : bF), d ∈ t.ay → j + e = t.ay.length → e < m →
    ((iC.l0 t m (j:Int) d.aC d.aQ d.bG.aP d.bG.aN d.dM d.vN d.au).bind fun xx1=>(match xx1 with| .inl r=>some r| .inr s1=>(jR.f (⟨s1.1,s1.2.1,(⟨s1.2.2.1,s1.2.2.2.1⟩:dL),s1.2.2.2.2.1,s1.2.2.2.2.2.1,s1.2.2.2.2.2.2⟩:bF)).bind fun v2=>(some (!v2))))=some (uK t.ay e d):=by
  intro e
  induction e with
  | zero =>
    intro j m d hd hj hm
    obtain ⟨m,rfl⟩:∃q,m=q+1:=⟨m-1,by omega⟩
    rw [iC.l0,if_neg (by simp;omega)]
    rfl
  | succ e ih =>
    intro j m d hd hj hm
    obtain ⟨m,rfl⟩:∃q,m=q+1:=⟨m-1,by omega⟩
    rw [iC.l0,if_pos (by simp;omega)]
    simp only [jR.f,Option.bind_some,uK]
    show (Option.bind (if mW d=true then _ else _) _)=_
    by_cases hnm:mW d=true
    · rw [if_pos hnm,if_pos hnm];rfl
    · rw [if_neg hnm, if_neg hnm]
      have hk:d.aC=2∨d.aC=3:=by
        unfold mW at hnm
        by_cases h2:d.aC=2
        · exact .inl h2
        · by_cases h3 : d.aC = 3
          · exact .inr h3
          · exact absurd (by simp [h2,h3]) hnm
      have hr:=(hS d hd).ref (by omega)
      rw [if_pos hr,fO (show j<t.ay.length by omega) hn]
      have:=ih (j+1) m (rd ah t.ay d.dM) (Ro hr.1 hr.2) (by omega) (by omega)
      simp only [jR.f,Option.bind_some] at this
      exact this
theorem N7 {t:aU} (hS:∀d∈t.ay,ShD d t.ay.length) (hn:t.ay.length≤200):Ev (fun k=>nZ.f k t) (!(t.ay.any (uK t.ay t.ay.length))):=by
  have h := uJ (l := t.ay) (p := fun k z0 => iC.f k z0 t) (q := uK t.ay t.ay.length) (fun z hz => ⟨t.ay.length + 1, fun k hk => by
    show iC.f k z t=_
    unfold iC.f
    exact NZ hS (by omega) t.ay.length 0 k z hz (by omega) (by omega)⟩) (by omega)
  exact (h.bind (g:=fun k v1=>some (!v1)) (Ev.pure fun _=>rfl)).congr fun k=>rfl
def zI (n:Nat):List ByteArray→List bF→Bool
  |_,[]=>true
  |ns,d::r=>oO d (n:Int)&& !(mW d&&ns.any (strEq d.aQ))&&zI n (d.aQ::ns) r
structure DV (d:bF):Prop where
  name:d.aQ.size≤9223372036854775807
  len:d.au.length≤9223372036854775807
  names:∀f∈d.au,f.aQ.size≤9223372036854775807
theorem BG {t : aU} (hF : ∀ d ∈ t.ay, DV d) (hn : t.ay.length ≤ 9223372036854775807) : ∀ (e j : Nat) (m : List (ByteArray × Bool)) (ns : List ByteArray), j + e = t.ay.length → um m ns →
    ∃v,Ev2 (fun k q=>cO.l0 k t q (j:Int) m) v∧(match v with| .inl b=>b=false∧zI t.ay.length ns (t.ay.drop j)=false| .inr _=>zI t.ay.length ns (t.ay.drop j)=true):=by
  intro e
  induction e with
  | zero =>
    intro j m ns hj hm
    refine ⟨.inr m,Ev2.pure (fun k q=>?_),?_⟩
    · rw [cO.l0,if_neg (by simp;omega)]
    · rw [List.drop_eq_nil_of_le (by omega)];rfl
  | succ e ih =>
    intro j m ns hj hm
    have hlt:j<t.ay.length:=by omega
    have hmem:=getD_mem (z:=ah) hlt
    have hFd:=hF _ hmem
    obtain ⟨v,hv,hp⟩:=ih (j+1) (eU strEq m (t.ay.getD j ah).aQ true) ((t.ay.getD j ah).aQ::ns) (by omega) (hm.put _)
    have hs:=NU (n:=(t.ay.length:Int)) hFd.len hFd.names hFd.name
    rw [jg ah hlt]
    have hstep:∀k q,cO.l0 k t (q+1) (j:Int) m=(fE.f k (t.ay.getD j ah) (t.ay.length:Int)).bind fun v1=>
        if ((!v1)||(mW (t.ay.getD j ah)&&ns.any (strEq (t.ay.getD j ah).aQ)))=true then some (.inl false) else cO.l0 k t q ((j+1:Nat):Int) (eU strEq m (t.ay.getD j ah).aQ true):=by
      intro k q
      rw [cO.l0,if_pos (by simp;omega),if_pos (by omega),fU,fO hlt hn,hm]
      congr 1
      funext v1
      simp only [jR.f]
      cases v1 with
      |false=>simp
      |true=>rfl
    simp only [zI]
    generalize hf:t.ay.getD j ah=d at*
    by_cases hc:(oO d (t.ay.length:Int)&& !(mW d&&ns.any (strEq d.aQ)))=true
    · refine ⟨v, Ev2.step hs (r := fun k q v1 => if ((!v1) || (mW d && ns.any (strEq d.aQ))) = true then some (.inl false) else cO.l0 k t q ((j + 1 : Nat) : Int) (eU strEq m d.aQ true)) ?_ hstep, ?_⟩
      · obtain ⟨K, hK⟩ := hv
        refine ⟨K,fun k q hk hq=>?_⟩
        simp only [Bool.and_eq_true,Bool.not_eq_true'] at hc
        show (if _ then _ else _)=_
        rw [hc.1,hc.2]
        simpa using hK k q hk hq
      · rw [hc]
        cases v with
        |inl b=>simpa using hp
        |inr b=>simpa using hp
    · rw [Bool.not_eq_true] at hc
      refine ⟨.inl false,Ev2.step hs (r:=fun k q v1=>if ((!v1)||(mW d&&ns.any (strEq d.aQ)))=true then some (.inl false) else cO.l0 k t q ((j+1:Nat):Int) (eU strEq m d.aQ true)) ⟨0,fun k q _ _=>?_⟩ hstep,rfl,by rw [hc];rfl⟩
      show (if _ then _ else _)=_
      rw [if_pos]
      cases h1:oO d (t.ay.length:Int) with
      |false=>rfl
      |true=>rw [h1] at hc;simpa using hc
theorem Dz {n:Nat}:∀(ns:List ByteArray) (l:List bF),zI n ns l=true→∀d∈l,ShD d n
  |_,[],_=>by simp
  | ns, d :: r, h => by
    simp only [zI,Bool.and_eq_true] at h
    intro x hx
    rcases List.mem_cons.1 hx with rfl|hx
    · exact NW h.1.1
    · exact Dz _ r h.2 x hx
structure zW (t:aU) (l:List Int):Prop where
  few:t.ay.length≤200
  sh:∀d∈t.ay,ShD d t.ay.length
  sizes:Ev (fun k=>eP.f k t) (l,true)
  len:l.length=t.ay.length
  jn:Jn t.ay l
  pos:∀q,q<t.ay.length→0<l.getD q 0
  ends:∀d∈t.ay,uK t.ay t.ay.length d=false
  placed:∀d∈t.ay,d.aC=4→sZ d l=true
  defs:zI t.ay.length [] t.ay=true
theorem Ql {t : aU} (hF : ∀ d ∈ t.ay, DV d) : ∃ b, Ev (fun k => cO.f k t) b ∧ (b = true → ∃ l, zW t l) := by
  by_cases hn:(t.ay.length:Int)>200
  · refine ⟨false, Ev.pure (fun k => ?_), fun h => by cases h⟩
    unfold cO.f
    rw [if_pos (by simpa using hn)]
  · have hn : t.ay.length ≤ 200 := by omega
    have hcond:¬decide ((t.ay.length:Int)>200)=true:=by simp;omega
    obtain ⟨v,hv,hp⟩:=BG hF (by omega) t.ay.length 0 [] [] (by omega) um.nil
    rw [List.drop_zero] at hp
    cases v with
    | inl b =>
      simp only at hp
      obtain ⟨rfl,hp⟩:=hp
      obtain ⟨K,hK⟩:=hv.diag
      refine ⟨false,⟨K,fun k hk=>?_⟩,fun h=>by cases h⟩
      show cO.f k t=_
      unfold cO.f
      rw [if_neg hcond,show cO.l0 k t k 0 []=_ from hK k hk]
      rfl
    | inr m =>
      simp only at hp
      have hS:=Dz _ _ hp
      obtain ⟨out,ok,hsz,hlen,hok⟩:=Qk hS hn
      obtain ⟨K,hK⟩:=hv.diag
      obtain ⟨K2,hK2⟩:=hsz
      cases ok with
      | false =>
        refine ⟨false,⟨max K K2,fun k hk=>?_⟩,fun h=>by cases h⟩
        show cO.f k t=_
        unfold cO.f
        rw [if_neg hcond,show cO.l0 k t k 0 []=_ from hK k (by omega)]
        simp only [Option.bind_some]
        rw [show eP.f k t=_ from hK2 k (by omega)]
        simp
      | true =>
        obtain ⟨hJ,hpos⟩:=hok rfl
        obtain ⟨K3,hK3⟩:=N7 hS hn
        obtain ⟨K4, hK4⟩ := uJ (l := t.ay) (p := fun k z0 => jd.f k z0 out) (q := fun d => (d.aC == 4) && !(sZ d out)) (fun d hd => by
          by_cases h4:d.aC=4
          · have := EY (d := d) (l := out) (hF d hd).len (fun f hf => by have := (hS d hd).typ h4 f hf; rw [hlen]; exact this)
            exact (this.bind (g:=fun k v1=>some ((d.aC==4)&&(!v1))) (Ev.pure fun _=>rfl)).congr fun k=>by
              unfold jd.f
              rw [if_pos (by simp [h4])]
          · refine Ev.pure fun k => ?_
            unfold jd.f
            rw [if_neg (by simp [h4])]
            simp [h4]) (by omega)
        cases he:t.ay.any (uK t.ay t.ay.length) with
        | true =>
          refine ⟨false,⟨max (max K K2) K3,fun k hk=>?_⟩,fun h=>by cases h⟩
          show cO.f k t=_
          unfold cO.f
          rw [if_neg hcond,show cO.l0 k t k 0 []=_ from hK k (by omega)]
          simp only [Option.bind_some]
          rw [show eP.f k t=_ from hK2 k (by omega)]
          simp only [Option.bind_some]
          rw [show nZ.f k t=_ from hK3 k (by omega),he]
          simp
        | false =>
          refine ⟨!(t.ay.any fun d=>(d.aC==4)&& !(sZ d out)),⟨max (max K K2) (max K3 K4),fun k hk=>?_⟩,fun h=>⟨out,hn,hS,⟨K2,hK2⟩,hlen,hJ,hpos,fun d hd=>?_,fun d hd h4=>?_,hp⟩⟩
          · show cO.f k t = _
            unfold cO.f
            rw [if_neg hcond,show cO.l0 k t k 0 []=_ from hK k (by omega)]
            simp only [Option.bind_some]
            rw [show eP.f k t=_ from hK2 k (by omega)]
            simp only [Option.bind_some]
            rw [show nZ.f k t=_ from hK3 k (by omega),he]
            simp only [Bool.not_true,Bool.not_false,beq_self_eq_true,Bool.and_self,if_true,Option.bind_some,Bool.or_self,Bool.false_eq_true,if_false]
            rw [show bY.f k t.ay _=_ from hK4 k (by omega)]
            rfl
          · have := List.any_eq_false.1 he d hd
            simpa using this
          · simp only [Bool.not_eq_true'] at h
            have:=List.any_eq_false.1 h d hd
            simpa [h4] using this
end Go.Proofs.YtecpbadkdpbkpaaGreatDoor
namespace Go.Proofs.YtecpbadkdpbkpaaGreatDoor
open Go.RowKit Go.M
theorem aav {x y:Int} (h:x=y):(x==y)=true:=beq_iff_eq.2 h
theorem aaw {x y:Int} (h:x≠y):¬(x==y)=true:=fun e=>h (beq_iff_eq.1 e)
theorem YE {x y:Int} (h:x≠y):(x !=y)=true:=by simpa using h
theorem YF {x y:Int} (h:x=y):¬(x !=y)=true:=by simp [h]
theorem aax {p:Prop} [Decidable p] (h:p):decide p=true:=decide_eq_true h
theorem aay {p:Prop} [Decidable p] (h:¬p):¬decide p=true:=fun e=>h (of_decide_eq_true e)
section
variable {t:aU} {l:List Int}
theorem BH {d:bF} (h:d.aC=6):cont d=[d.dM]:=by
  unfold cont
  rw [if_pos (by simp [h])]
theorem uM (G : zW t l) : ∀ i, i < t.ay.length → ∃ r, r < t.ay.length ∧ Ev (fun k => dO.f k t (i : Int)) (r : Int) ∧ (t.ay.getD r ah).aC ≠ 6 ∧ l.getD r 0 = l.getD i 0 := by
  obtain ⟨rk,B,hB⟩:=G.jn
  suffices h:∀(c i:Nat),rk i=c→i<t.ay.length→∃r,r<t.ay.length∧(∃K,∀m,K≤m→dO.l0 t m (i:Int)=some (r:Int))∧(t.ay.getD r ah).aC≠6∧l.getD r 0=l.getD i 0 by
    intro i hi
    obtain ⟨r,h1,⟨K,hK⟩,h3,h4⟩:=h _ i rfl hi
    refine ⟨r,h1,⟨K,fun k hk=>?_⟩,h3,h4⟩
    show dO.f k t (i:Int)=_
    unfold dO.f
    rw [hK k hk]
    rfl
  intro c
  induction c using Nat.strongRecOn with
  | _ c ih =>
    intro i hc hi
    by_cases h6:(t.ay.getD i ah).aC=6
    · have hd := G.sh _ (getD_mem (z := ah) hi)
      obtain ⟨h7,h8,h9,h10⟩:=hB i hi (G.pos i hi)
      rw [BH h6] at h9
      have hr:=hd.ref (.inr (.inr h6))
      obtain ⟨h11,h12⟩:=h9 _ (List.mem_singleton.2 rfl)
      obtain ⟨r,h1,⟨K,hK⟩,h3,h4⟩:=ih _ (by rw [←hc];exact h12) (t.ay.getD i ah).dM.toNat rfl (by omega)
      refine ⟨r,h1,⟨K+1,fun m hm=>?_⟩,h3,?_⟩
      · obtain ⟨m, rfl⟩ : ∃ q, m = q + 1 := ⟨m - 1, by omega⟩
        rw [dO.l0,if_pos (by omega),fU,if_pos (aav h6)]
        rw [if_pos (by omega)]
        have:=hK m (by omega)
        rwa [show (((t.ay.getD i ah).dM.toNat:Nat):Int)=(t.ay.getD i ah).dM by omega] at this
      · rw [h4, h10]
        unfold nval inner
        rw [BH h6,if_neg (by omega),if_neg (by omega),if_neg (by omega),if_neg (by omega),if_neg (by omega),if_pos h6]
        rfl
    · refine ⟨i, hi, ⟨1, fun m hm => ?_⟩, h6, rfl⟩
      obtain ⟨m,rfl⟩:∃q,m=q+1:=⟨m-1,by omega⟩
      rw [dO.l0,if_pos (by omega),fU,if_neg (aaw h6)]
def XB (d:bF) (name:ByteArray):dw×Int:=
  if d.aC≠4 then (⟨ByteArray.empty,0,0⟩,5) else match d.au.find? fun f=>strEq f.aQ name with|some f=>(f,0)|none=>(⟨ByteArray.empty,0,0⟩,3)
theorem GH {name:ByteArray} {r:Nat} (hl:(t.ay.getD r ah).au.length≤9223372036854775807):∀(e j m:Nat),j+e=(t.ay.getD r ah).au.length→e<m→
    fD.l0 t name (r:Int) m (j:Int)=some (match ((t.ay.getD r ah).au.drop j).find? fun f=>strEq f.aQ name with|some f=> .inl (f,0)|none=> .inr ()):=by
  intro e
  induction e with
  | zero =>
    intro j m hj hm
    obtain ⟨m,rfl⟩:∃q,m=q+1:=⟨m-1,by omega⟩
    rw [fD.l0,fU,if_neg (aay (by omega)),List.drop_eq_nil_of_le (by omega)]
    rfl
  | succ e ih =>
    intro j m hj hm
    obtain ⟨m,rfl⟩:∃q,m=q+1:=⟨m-1,by omega⟩
    have hlt:j<(t.ay.getD r ah).au.length:=by omega
    rw [fD.l0,fU,if_pos (aax (by omega)),if_pos (by omega),fU,jg aj hlt,List.find?_cons]
    cases hb:strEq ((t.ay.getD r ah).au.getD j aj).aQ name with
    |true=>rw [if_pos rfl]
    |false=>rw [if_neg (by simp),fO hlt hl];exact ih (j+1) m (by omega) (by omega)
theorem EZ {i r:Nat} {name:ByteArray} (G:zW t l) (hr:r<t.ay.length) (he:Ev (fun k=>dO.f k t (i:Int)) (r:Int)):Ev (fun k=>fD.f k t (i:Int) name) (XB (t.ay.getD r ah) name):=by
  have hd:=G.sh _ (getD_mem (z:=ah) hr)
  obtain ⟨K,hK⟩:=he
  refine ⟨max K ((t.ay.getD r ah).au.length+1),fun k hk=>?_⟩
  show fD.f k t (i:Int) name=_
  unfold fD.f XB
  rw [show dO.f k t (i:Int)=_ from hK k (by omega)]
  simp only [Option.bind_some]
  rw [if_pos (by omega),fU]
  by_cases h4:(t.ay.getD r ah).aC=4
  · rw [if_neg (YF h4), if_neg (fun h => h h4), show fD.l0 t name (r : Int) k 0 = _ from GH (by have := hd.few; omega) _ 0 k (Nat.zero_add _) (by omega), List.drop_zero]
    cases (t.ay.getD r ah).au.find? fun f=>strEq f.aQ name<;>rfl
  · rw [if_pos (YE h4),if_pos h4]
theorem BI (hv:Ev (fun k=>cO.f k t) true) (i:Int):Ev (fun k=>fQ.f k t i) (if 0≤i∧i<t.ay.length then 0 else 3):=by
  obtain ⟨K,hK⟩:=hv
  refine ⟨K,fun k hk=>?_⟩
  show fQ.f k t i=_
  unfold fQ.f
  rw [show cO.f k t=_ from hK k hk]
  simp only [Option.bind_some,Bool.not_true,Bool.false_eq_true,if_false]
  by_cases h:0≤i∧i<t.ay.length
  · rw [if_pos h,if_neg (by simp;omega)]
  · rw [if_neg h,if_pos (by simp;omega)]
theorem E5 (hv:Ev (fun k=>cO.f k t) false) (i:Int):Ev (fun k=>fQ.f k t i) 80:=by
  obtain ⟨K,hK⟩:=hv
  refine ⟨K,fun k hk=>?_⟩
  show fQ.f k t i=_
  unfold fQ.f
  rw [show cO.f k t=_ from hK k hk]
  rfl
theorem DC {i e:Int} (h:Ev (fun k=>fQ.f k t i) e) (he:e≠0):Ev (fun k=>jX.f k t i) (0,e):=by
  obtain ⟨K,hK⟩:=h
  refine ⟨K,fun k hk=>?_⟩
  show jX.f k t i=_
  unfold jX.f
  rw [show fQ.f k t i=_ from hK k hk]
  simp [he]
theorem Uu {i e:Int} (h:Ev (fun k=>fQ.f k t i) e) (he:e≠0):Ev (fun k=>je.f k t i) (0,e):=by
  obtain ⟨K,hK⟩:=h
  refine ⟨K,fun k hk=>?_⟩
  show je.f k t i=_
  unfold je.f
  rw [show fQ.f k t i=_ from hK k hk]
  simp [he]
theorem wB (hv:Ev (fun k=>cO.f k t) true) {i:Nat} (hi:i<t.ay.length):Ev (fun k=>fQ.f k t (i:Int)) 0:=by
  have:=BI hv (i:Int)
  rwa [if_pos (by omega)] at this
theorem N8 (G:zW t l) (hv:Ev (fun k=>cO.f k t) true) {i:Nat} (hi:i<t.ay.length):Ev (fun k=>jX.f k t (i:Int)) (l.getD i 0,0):=by
  obtain ⟨K,hK⟩:=wB hv hi
  obtain ⟨K2,hK2⟩:=G.sizes
  refine ⟨max K K2,fun k hk=>?_⟩
  show jX.f k t _=_
  unfold jX.f
  rw [show fQ.f k t (i:Int)=_ from hK k (by omega)]
  simp only [Option.bind_some]
  rw [if_neg (by simp),show eP.f k t=_ from hK2 k (by omega)]
  simp only [Option.bind_some]
  rw [if_pos (by rw [G.len];omega),fU]
theorem JF {r:Nat} (hv:Ev (fun k=>cO.f k t) true) {i:Nat} (hi:i<t.ay.length) (hr:Ev (fun k=>dO.f k t (i:Int)) (r:Int)):Ev (fun k=>je.f k t (i:Int)) ((r:Int),0):=by
  obtain ⟨K,hK⟩:=wB hv hi
  obtain ⟨K2,hK2⟩:=hr
  refine ⟨max K K2,fun k hk=>?_⟩
  show je.f k t _=_
  unfold je.f
  rw [show fQ.f k t (i:Int)=_ from hK k (by omega)]
  simp only [Option.bind_some]
  rw [if_neg (by simp),show dO.f k t _=_ from hK2 k (by omega)]
  rfl
def jI (mem:Nat→ByteArray→dw×Int):List ByteArray→Nat→Int→Int×Int×Int
  |[],i,a=>((i:Int),a,0)
  |n::r,i,a=>if (mem i n).2≠0 then (0,0,(mem i n).2) else jI mem r (mem i n).1.vType.toNat (IntKind.wrap .i64 (a+(mem i n).1.vAt))
structure JG (t:aU) (mem:Nat→ByteArray→dw×Int):Prop where
  ev:∀i name,i<t.ay.length→Ev (fun k=>fD.f k t (i:Int) name) (mem i name)
  typ:∀i name,i<t.ay.length→(mem i name).2=0→0≤(mem i name).1.vType∧(mem i name).1.vType<t.ay.length
theorem RJ (G : zW t l) : ∃ mem, JG t mem := by
  have key:∀(i:Nat) (name:ByteArray),∃v:dw×Int,i<t.ay.length→Ev (fun k=>fD.f k t (i:Int) name) v∧(v.2=0→0≤v.1.vType∧v.1.vType<t.ay.length):=by
    intro i name
    by_cases hi:i<t.ay.length
    · obtain ⟨r, h1, h2, h3, h4⟩ := uM G i hi
      refine ⟨_,fun _=>⟨EZ G h1 h2,?_⟩⟩
      unfold XB
      by_cases hk:(t.ay.getD r ah).aC=4
      · rw [if_neg (fun h => h hk)]
        cases hf:(t.ay.getD r ah).au.find? fun f=>strEq f.aQ name with
        |none=>intro h;cases h
        |some f=>intro _;exact (G.sh _ (getD_mem h1)).typ hk f (List.mem_of_find?_eq_some hf)
      · rw [if_pos hk];intro h;cases h
    · exact ⟨(⟨ByteArray.empty,0,0⟩,0),fun h=>absurd h hi⟩
  refine ⟨fun i name=>Classical.choose (key i name),fun i name hi=>(Classical.choose_spec (key i name) hi).1,fun i name hi=>(Classical.choose_spec (key i name) hi).2⟩
theorem N9 {mem:Nat→ByteArray→dw×Int} (hm:JG t mem) {p:List ByteArray} (hp:p.length≤9223372036854775807):∀(e j i:Nat) (a:Int),j+e=p.length→i<t.ay.length→
    Ev2 (fun k m=>gq.l0 k t p m (i:Int) a (j:Int)) (if (jI mem (p.drop j) i a).2.2≠0 then .inl (jI mem (p.drop j) i a) else .inr ((jI mem (p.drop j) i a).1,(jI mem (p.drop j) i a).2.1))∧
      ((jI mem (p.drop j) i a).2.2=0→0≤(jI mem (p.drop j) i a).1∧(jI mem (p.drop j) i a).1<t.ay.length):=by
  intro e
  induction e with
  | zero =>
    intro j i a hj hi
    rw [List.drop_eq_nil_of_le (by omega)]
    refine ⟨Ev2.pure fun k m=>?_,fun _=>?_⟩
    · rw [gq.l0, if_neg (by simp; omega)]
      simp [jI]
    · simp only [jI];omega
  | succ e ih =>
    intro j i a hj hi
    have hlt:j<p.length:=by omega
    rw [jg ByteArray.empty hlt]
    have hev:=hm.ev i (p.getD j ByteArray.empty) hi
    have hty:=hm.typ i (p.getD j ByteArray.empty) hi
    have hstep:∀k m,gq.l0 k t p (m+1) (i:Int) a (j:Int)=(fD.f k t (i:Int) (p.getD j ByteArray.empty)).bind fun v2=>if (v2.2 !=0)=true then some (.inl (0,0,v2.2)) else gq.l0 k t p m v2.1.vType (IntKind.wrap .i64 (a+v2.1.vAt)) (((j+1:Nat)):Int):=by
      intro k m
      rw [gq.l0,if_pos (by simp;omega),if_pos (by omega),fU,fO hlt hp]
    have hpv:jI mem (p.getD j ByteArray.empty::p.drop (j+1)) i a=if (mem i (p.getD j ByteArray.empty)).2≠0 then (0,0,(mem i (p.getD j ByteArray.empty)).2) else jI mem (p.drop (j+1)) (mem i (p.getD j ByteArray.empty)).1.vType.toNat (IntKind.wrap .i64 (a+(mem i (p.getD j ByteArray.empty)).1.vAt)):=rfl
    by_cases h0:(mem i (p.getD j ByteArray.empty)).2=0
    · obtain ⟨h1, h2⟩ := hty h0
      obtain ⟨h3,h4⟩:=ih (j+1) (mem i (p.getD j ByteArray.empty)).1.vType.toNat (IntKind.wrap .i64 (a+(mem i (p.getD j ByteArray.empty)).1.vAt)) (by omega) (by omega)
      rw [if_neg (fun h=>h h0)] at hpv
      rw [hpv]
      refine ⟨Ev2.step hev ?_ hstep,h4⟩
      obtain ⟨K,hK⟩:=h3
      refine ⟨K,fun k m hk hm=>?_⟩
      show (if _ then _ else _)=_
      rw [if_neg (YF h0)]
      have:=hK k m hk hm
      rwa [show (((mem i (p.getD j ByteArray.empty)).1.vType.toNat:Nat):Int)=(mem i (p.getD j ByteArray.empty)).1.vType by omega] at this
    · rw [if_pos h0] at hpv
      rw [hpv]
      refine ⟨Ev2.step hev ⟨0,fun k m _ _=>?_⟩ hstep,fun h=>absurd h h0⟩
      show (if _ then _ else _)=_
      rw [if_pos (YE h0),if_pos h0]
theorem Oa {mem:Nat→ByteArray→dw×Int} (hm:JG t mem) (hv:Ev (fun k=>cO.f k t) true) {i:Nat} (hi:i<t.ay.length) {p:List ByteArray} (hp:p.length≤16):
    Ev (fun k=>gq.f k t (i:Int) p) (jI mem p i 0)∧((jI mem p i 0).2.2=0→0≤(jI mem p i 0).1∧(jI mem p i 0).1<t.ay.length):=by
  obtain ⟨h1,h2⟩:=N9 hm (p:=p) (by omega) p.length 0 i 0 (by omega) hi
  rw [List.drop_zero] at h1 h2
  refine ⟨?_,h2⟩
  obtain ⟨K,hK⟩:=wB hv hi
  obtain ⟨K2,hK2⟩:=h1.diag
  refine ⟨max K K2,fun k hk=>?_⟩
  show gq.f k t _ _=_
  unfold gq.f
  rw [show fQ.f k t (i:Int)=_ from hK k (by omega)]
  simp only [Option.bind_some]
  rw [if_neg (by simp),if_neg (by simp;omega),show gq.l0 k t p k (i:Int) 0 0=_ from hK2 k (by omega)]
  simp only [Option.bind_some]
  generalize jI mem p i 0=v
  by_cases h0:v.2.2=0
  · rw [if_neg (by simp [h0])]
    obtain ⟨a,b,c⟩:=v
    simp only at h0
    subst h0
    rfl
  · rw [if_pos h0]
theorem wrap_add (x y:Int):IntKind.wrap .i64 (IntKind.wrap .i64 x+y)=IntKind.wrap .i64 (x+y):=by
  simp only [IntKind.wrap,IntKind.bits,IntKind.signed]
  simp
  omega
theorem W9 (x y:Int):IntKind.wrap .i64 (x+IntKind.wrap .i64 y)=IntKind.wrap .i64 (x+y):=by
  rw [Int.add_comm,wrap_add,Int.add_comm]
theorem JH (mem:Nat→ByteArray→dw×Int):∀(r:List ByteArray) (i:Nat) (a b:Int),(jI mem r i a).2.2=(jI mem r i b).2.2∧(jI mem r i a).1=(jI mem r i b).1∧
    ((jI mem r i a).2.2=0→∃δ,IntKind.wrap .i64 (jI mem r i a).2.1=IntKind.wrap .i64 (a+δ)∧IntKind.wrap .i64 (jI mem r i b).2.1=IntKind.wrap .i64 (b+δ))
  |[],i,a,b=>⟨rfl,rfl,fun _=>⟨0,by simp [jI],by simp [jI]⟩⟩
  | n :: r, i, a, b => by
    simp only [jI]
    by_cases h:(mem i n).2=0
    · rw [if_neg (by simp [h]), if_neg (by simp [h])]
      obtain ⟨h1,h2,h3⟩:=JH mem r (mem i n).1.vType.toNat (IntKind.wrap .i64 (a+(mem i n).1.vAt)) (IntKind.wrap .i64 (b+(mem i n).1.vAt))
      refine ⟨h1,h2,fun h0=>?_⟩
      obtain ⟨δ,h4,h5⟩:=h3 h0
      refine ⟨(mem i n).1.vAt+δ,?_,?_⟩
      · rw [h4,wrap_add,Int.add_assoc]
      · rw [h5,wrap_add,Int.add_assoc]
    · rw [if_pos h, if_pos h]
      exact ⟨rfl,rfl,fun h0=>absurd h0 h⟩
theorem Uw (mem:Nat→ByteArray→dw×Int):∀(r:List ByteArray) (i:Nat) (a:Int),IntKind.wrap .i64 a=a→IntKind.wrap .i64 (jI mem r i a).2.1=(jI mem r i a).2.1
  |[],i,a,h=>by simpa [jI] using h
  | n :: r, i, a, h => by
    simp only [jI]
    by_cases h0:(mem i n).2=0
    · rw [if_neg (by simp [h0])]
      exact Uw mem r _ _ (by have:=wrap_add (a+(mem i n).1.vAt) 0;simpa using this)
    · rw [if_pos h0];rfl
end
end Go.Proofs.YtecpbadkdpbkpaaGreatDoor
namespace Go.Proofs.YtecpbadkdpbkpaaGreatDoor
open Go.RowKit Go.M
theorem Oc (s:ByteArray) (i:Int):byteAt s i=rd 0 (bytesOf s) i:=by
  unfold byteAt rd bytesOf
  rw [List.getD_eq_getElem?_getD,List.getD_eq_getElem?_getD,List.getElem?_map]
  cases s.data.toList[i.toNat]?<;>rfl
theorem JI {s:ByteArray} (hl:s.size≤9223372036854775807):∀(d j m:Nat),j+d=s.size→d<m→
    dK.l0 s m (j:Int)=some (if xU j ((bytesOf s).drop j)=true then .inr () else .inl false):=by
  have hb:=bytesOf_length s
  intro d
  induction d with
  | zero =>
    intro j m hj hm
    obtain ⟨m,rfl⟩:∃q,m=q+1:=⟨m-1,by omega⟩
    rw [dK.l0,if_neg (by simp;omega),List.drop_eq_nil_of_le (by omega)]
    rfl
  | succ d ih =>
    intro j m hj hm
    obtain ⟨m,rfl⟩:∃q,m=q+1:=⟨m-1,by omega⟩
    have hlt:j<s.size:=by omega
    have h1:=zH (s:=s) (by omega) (d+1) j (m+1) (by omega) (by omega)
    rw [fZ.l0,if_pos (by simp;omega),if_pos (by omega)] at h1
    rw [dK.l0,if_pos (by simp;omega),if_pos (by omega),Oc]
    rw [←h1]
    split
    · rfl
    · rw [fO hlt hl,ih (j+1) m (by omega) (by omega),zH (by omega) d (j+1) m (by omega) (by omega)]
theorem Oe (s:ByteArray):strEq s ByteArray.empty=decide (s.size=0):=by
  by_cases h:s.size=0
  · have : s = ByteArray.empty := by
      cases s with|mk d=>
      have:d=#[]:=Array.size_eq_zero_iff.1 h
      subst this;rfl
    rw [decide_eq_true h];exact kC.2 this
  · rw [decide_eq_false h]
    cases hs:strEq s ByteArray.empty with
    |false=>rfl
    |true=>exact absurd (by rw [kC.1 hs];rfl) h
theorem IG {s:ByteArray} (hs:s.size≤9223372036854775807):Ev (fun k=>dK.f k s) (rJ s):=by
  refine ⟨s.size+1,fun k hk=>?_⟩
  show dK.f k s=_
  unfold dK.f rJ
  rw [Oe]
  by_cases h0:s.size=0
  · rw [if_pos (by simp [h0])];simp [h0]
  · by_cases h1 : (s.size : Int) ≤ 31
    · rw [if_neg (by simp only [Bool.or_eq_true, beq_iff_eq, decide_eq_true_eq]; omega), show (0 : Int) = ((0 : Nat) : Int) from rfl, JI hs s.size 0 k (by omega) (by omega), List.drop_zero]
      cases xU 0 (bytesOf s)<;>simp [h0,h1]
    · rw [if_pos (by simp only [Bool.or_eq_true,beq_iff_eq,decide_eq_true_eq];omega)];simp [h1]
def uo:List ByteArray→List dw→Bool
  |_,[]=>true
  |ns,f::r=>rJ f.aQ&& !(ns.any (strEq f.aQ))&&uo (f.aQ::ns) r
theorem BJ (d:bF) (n:Int):∀(l:List dw) (ns:List ByteArray),rD d n ns l=(uo ns l&&l.all (kU d n))
  |[],ns=>rfl
  | f :: r, ns => by
    simp only [rD,uo,BJ d n r,List.all_cons]
    cases rJ f.aQ<;>cases (ns.any (strEq f.aQ))<;>cases (kU d n f)<;>cases (uo (f.aQ::ns) r)<;>rfl
theorem Og {l:List dw} (hl:l.length≤9223372036854775807) {i:Nat} (hi:i<l.length):∀(e j m:Nat),j+e=i→e<m→
    bC.l1 l (i:Int) m (j:Int)=some (if (((l.take i).drop j).any fun f=>strEq f.aQ (l.getD i aj).aQ)=true then .inl false else .inr ()):=by
  intro e
  induction e with
  | zero =>
    intro j m hj hm
    obtain ⟨m,rfl⟩:∃q,m=q+1:=⟨m-1,by omega⟩
    rw [bC.l1,if_neg (by simp;omega),List.drop_eq_nil_of_le (by simp;omega)]
    rfl
  | succ e ih =>
    intro j m hj hm
    obtain ⟨m,rfl⟩:∃q,m=q+1:=⟨m-1,by omega⟩
    have hlt:j<l.length:=by omega
    have hd:(l.take i).drop j=l.getD j aj::(l.take i).drop (j+1):=by
      rw [jg aj (by simp;omega)]
      congr 1
      rw [List.getD_eq_getElem?_getD,List.getD_eq_getElem?_getD,List.getElem?_take,if_pos (by omega)]
    rw [bC.l1,if_pos (by simp;omega),if_pos (by omega),if_pos (by omega),fU,fU,hd,List.any_cons]
    by_cases h:strEq (l.getD j aj).aQ (l.getD i aj).aQ=true
    · rw [if_pos h,h];rfl
    · rw [if_neg h, fO hlt hl, ih (j + 1) m (by omega) (by omega)]
      rw [Bool.not_eq_true] at h
      rw [h,Bool.false_or]
theorem Ux (l:List dw) (s:ByteArray):((l.map (·.aQ)).reverse.any (strEq s))=l.any fun f=>strEq f.aQ s:=by
  rw [List.any_reverse,List.any_map]
  congr 1
  funext f
  exact xA _ _
theorem GI {l : List dw} (hl : l.length ≤ 9223372036854775807) (hz : ∀ f ∈ l, f.aQ.size ≤ 9223372036854775807) : ∀ (e j : Nat), j + e = l.length →
    Ev2 (fun k m=>bC.l0 k l m (j:Int)) (if uo ((l.take j).map (·.aQ)).reverse (l.drop j)=true then .inr () else .inl false):=by
  intro e
  induction e with
  | zero =>
    intro j hj
    refine Ev2.pure fun k m=>?_
    rw [bC.l0,if_neg (by simp;omega),List.drop_eq_nil_of_le (by omega)]
    rfl
  | succ e ih =>
    intro j hj
    have hlt:j<l.length:=by omega
    have hmem:=getD_mem (z:=aj) hlt
    have h1:=IG (hz _ hmem)
    have h2:=ih (j+1) (by omega)
    have ht:((l.take (j+1)).map (·.aQ)).reverse=(l.getD j aj).aQ::((l.take j).map (·.aQ)).reverse:=by
      rw [List.take_add_one,List.map_append,List.reverse_append]
      rw [List.getD_eq_getElem?_getD,List.getElem?_eq_getElem hlt]
      rfl
    rw [ht] at h2
    rw [jg aj hlt,uo]
    refine Ev2.step h1 (r:=fun k m v1=>if (!v1)=true then (some (.inl false)) else ((bC.l1 l (j:Int) k 0).bind fun xx2=>(match xx2 with| .inl r=>some (.inl r)| .inr s1=>bC.l0 k l m ((j+1:Nat):Int)))) ?_ (fun k m=>?_)
    · rcases Bool.eq_false_or_eq_true (rJ (l.getD j aj).aQ) with hn | hn
      · obtain ⟨K, hK⟩ := h2
        rw [hn]
        refine ⟨max K (j+1),fun k m hk hm=>?_⟩
        have h3:=Og hl hlt j 0 k (by omega) (by omega)
        rw [List.drop_zero] at h3
        simp only [Bool.not_true,Bool.false_eq_true,if_false,Bool.true_and]
        rw [show bC.l1 l (j:Int) k 0=_ from h3,Ux]
        cases ha:(l.take j).any fun f=>strEq f.aQ (l.getD j aj).aQ with
        |true=>simp
        |false=>simpa using hK k m (by omega) (by omega)
      · exact ⟨0,fun k m _ _=>by rw [hn];rfl⟩
    · rw [bC.l0, if_pos (by simp; omega), if_pos (by omega), fU, fO hlt hl]
      try rfl
theorem Oh {l:List dw} (hl:l.length≤9223372036854775807) (hz:∀f∈l,f.aQ.size≤9223372036854775807):
    Ev (fun k=>bC.f k l) (decide (0<l.length)&&decide (l.length≤32)&&uo [] l):=by
  by_cases h:l.length=0∨32<l.length
  · refine Ev.pure fun k => ?_
    unfold bC.f
    rw [if_pos (by simp only [Bool.or_eq_true,beq_iff_eq,decide_eq_true_eq];omega)]
    rcases h with h|h
    · simp [h]
    · rw [decide_eq_false (p:=l.length≤32) (by omega)];simp
  · obtain ⟨K, hK⟩ := (GI hl hz l.length 0 (by omega)).diag
    refine ⟨K,fun k hk=>?_⟩
    show bC.f k l=_
    unfold bC.f
    rw [if_neg (by simp only [Bool.or_eq_true,beq_iff_eq,decide_eq_true_eq];omega),show bC.l0 k l k 0=_ from hK k hk,decide_eq_true (p:=0<l.length) (by omega),decide_eq_true (p:=l.length≤32) (by omega)]
    simp only [List.take_zero,List.map_nil,List.reverse_nil,List.drop_zero]
    cases uo [] l<;>rfl
theorem E8 {t : aU} {d : bF} (hl : d.au.length ≤ 9223372036854775807) : ∀ (e j m : Nat), j + e = d.au.length → e < m →
    dF.l0 t d m (j:Int)=some (if (d.au.drop j).all (kU d (t.ay.length:Int))=true then .inr () else .inl false):=by
  intro e
  induction e with
  | zero =>
    intro j m hj hm
    obtain ⟨m,rfl⟩:∃q,m=q+1:=⟨m-1,by omega⟩
    rw [dF.l0,if_neg (by simp;omega),List.drop_eq_nil_of_le (by omega)]
    rfl
  | succ e ih =>
    intro j m hj hm
    obtain ⟨m,rfl⟩:∃q,m=q+1:=⟨m-1,by omega⟩
    have hlt:j<d.au.length:=by omega
    rw [dF.l0,if_pos (by simp;omega),if_pos (by omega),fU,jg aj hlt,fO hlt hl,ih (j+1) m (by omega) (by omega),List.all_cons]
    generalize d.au.getD j aj=f
    unfold kU eu.f
    by_cases h4:d.aC=4
    · have h5 : (d.aC == 5) = false := by simp [h4]
      by_cases ha:f.vType<0
      · simp [h4, h5, ha]
        intro h;omega
      · by_cases hb : f.vType < (t.ay.length : Int)
        · have h0 : (0 : Int) ≤ f.vType := by omega
          have h1:¬((t.ay.length:Int)≤f.vType):=by omega
          simp [h4,h5,ha,hb,h0,h1]
        · have h1 : (t.ay.length : Int) ≤ f.vType := by omega
          simp [h4,h5,ha,hb,h1]
    · by_cases h5 : d.aC = 5
      · cases hx:((f.vType !=0)||(decide (f.vAt<(-2147483648))))||(decide (f.vAt>2147483647))<;>simp [h5,hx]
      · simp [h4,h5]
theorem zJ {d:bF} {n:Int} (h4:d.aC≠4) (h5:d.aC≠5) (l:List dw):l.all (kU d n)=true:=by
  rw [List.all_eq_true]
  intro f _
  unfold kU
  simp [h4,h5]
theorem JJ {t:aU} {d:bF} (hl:d.au.length≤9223372036854775807) (hz:∀f∈d.au,f.aQ.size≤9223372036854775807) (hz0:d.aQ.size≤9223372036854775807):
    Ev (fun k=>dF.f k t d) (oO d (t.ay.length:Int)):=by
  obtain ⟨Kn,hKn⟩:=IG hz0
  obtain ⟨Kf,hKf⟩:=Oh hl hz
  have hw:strEq d.aQ ByteArray.empty=true→rJ d.aQ=false:=by
    intro h;unfold rJ;rw [h];simp
  refine ⟨max (max Kn Kf) (d.au.length+1),fun k hk=>?_⟩
  show dF.f k t d=_
  have h1:=hKn k (by omega)
  have h2:=hKf k (by omega)
  have h3:=E8 (t:=t) (d:=d) hl d.au.length 0 k (by omega) (by omega)
  rw [List.drop_zero] at h3
  unfold dF.f iR.f dW.f eu.f oO shp
  simp only [h1,h2,show dF.l0 t d k 0=_ from h3,BJ]
  have hlen:∀n:Nat,((n:Int)==0)=decide (n=0):=by intro n;by_cases h:n=0<;>simp [h]
  have hpos:∀n:Nat,decide (0<n)= !decide (n=0):=by intro n;by_cases h:n=0<;>simp [h];omega
  rw [hlen,hpos]
  have hnil:decide (d.au.length=0)=true→uo [] d.au=true:=by
    intro h
    have:d.au=[]:=List.length_eq_zero_iff.1 (of_decide_eq_true h)
    rw [this];rfl
  have hz32:decide (d.au.length=0)=true→decide (d.au.length≤32)=true:=by
    intro h
    exact decide_eq_true (by have:=of_decide_eq_true h;omega)
  have h55:∀x:Int,(x==0)=decide (x=0):=by intro x;by_cases h:x=0<;>simp [h]
  have hcase:d.aC<1∨d.aC>6∨d.aC=1∨d.aC=2∨d.aC=3∨d.aC=4∨d.aC=5∨d.aC=6:=by omega
  have hall:=fun a b=>zJ (d:=d) (n:=(t.ay.length:Int)) a b d.au
  generalize d.au.all (kU d (t.ay.length:Int))=F at*
  generalize rJ d.aQ=A at*
  generalize strEq d.aQ ByteArray.empty=B at*
  generalize decide (d.au.length=0)=C at*
  generalize decide (d.au.length≤32)=D at*
  generalize uo [] d.au=E at*
  generalize d.aC=K at*
  generalize d.bG=I at*
  generalize d.vN=N at*
  generalize d.dM=R at*
  clear h1 h2 h3 hKn hKf hl hz hz0
  have hI:(I.aN==false)= !I.aN:=by cases I.aN<;>rfl
  have hge:decide (R≥0)=decide (0≤R):=rfl
  have hgN:decide (N≥1)=decide (1≤N):=rfl
  rcases hcase with h|h|rfl|rfl|rfl|rfl|rfl|rfl
  · simp only [show ¬ K = 1 from by omega, show ¬ K = 2 from by omega, show ¬ K = 3 from by omega, show ¬ K = 4 from by omega, show ¬ K = 5 from by omega, show ¬ K = 6 from by omega, if_false, decide_eq_true h]
    simp
  · simp only [show ¬ K = 1 from by omega, show ¬ K = 2 from by omega, show ¬ K = 3 from by omega, show ¬ K = 4 from by omega, show ¬ K = 5 from by omega, show ¬ K = 6 from by omega, if_false, decide_eq_true h]
    simp
  · rw [hall (by omega) (by omega)]
    simp only [okI,hI,hge,hgN,Int.reduceBEq,Int.reduceBNe,Int.reduceLT,Int.reduceGT,Int.reduceEq,bne,eq_self,Bool.false_eq_true,Bool.not_true,Bool.not_false,Bool.true_and,Bool.false_and,Bool.and_true,Bool.and_false,Bool.or_self,Bool.or_false,Bool.false_or,Bool.true_or,Option.bind_some,if_true,if_false,decide_true,decide_false]
    generalize (I.aP==1||I.aP==2||I.aP==4||I.aP==8)=a at*
    generalize (I.aP==0)=a0 at*
    generalize I.aN=b at*
    generalize (R==0)=r at*
    generalize (N==0)=n at*
    revert hw hz32 hnil
    clear hall hlen hpos h55 hI hge hgN
    clear a0 b
    revert A B C D E a r n
    decide
  · rw [hall (by omega) (by omega)]
    simp only [okI,hI,hge,hgN,Int.reduceBEq,Int.reduceBNe,Int.reduceLT,Int.reduceGT,Int.reduceEq,bne,eq_self,Bool.false_eq_true,Bool.not_true,Bool.not_false,Bool.true_and,Bool.false_and,Bool.and_true,Bool.and_false,Bool.or_self,Bool.or_false,Bool.false_or,Bool.true_or,Option.bind_some,if_true,if_false,decide_true,decide_false]
    generalize (I.aP==0)=a at*
    generalize I.aN=b at*
    generalize decide (0≤R)=r at*
    generalize decide (R<(t.ay.length:Int))=r2 at*
    generalize (N==0)=n at*
    revert hw hz32 hnil
    clear hall hlen hpos h55 hI hge hgN
    revert A B C D E a b r r2 n
    decide
  · rw [hall (by omega) (by omega)]
    simp only [okI,hI,hge,hgN,Int.reduceBEq,Int.reduceBNe,Int.reduceLT,Int.reduceGT,Int.reduceEq,bne,eq_self,Bool.false_eq_true,Bool.not_true,Bool.not_false,Bool.true_and,Bool.false_and,Bool.and_true,Bool.and_false,Bool.or_self,Bool.or_false,Bool.false_or,Bool.true_or,Option.bind_some,if_true,if_false,decide_true,decide_false]
    generalize (I.aP==0)=a at*
    generalize I.aN=b at*
    generalize decide (0≤R)=r at*
    generalize decide (R<(t.ay.length:Int))=r2 at*
    generalize decide (1≤N)=n at*
    generalize decide (N≤512)=n2 at*
    revert hw hz32 hnil
    clear hall hlen hpos h55 hI hge hgN
    revert A B C D E a b r r2 n n2
    decide
  · simp only [okI, hI, hge, hgN, Int.reduceBEq, Int.reduceBNe, Int.reduceLT, Int.reduceGT, Int.reduceEq, bne, eq_self, Bool.false_eq_true, Bool.not_true, Bool.not_false, Bool.true_and, Bool.false_and, Bool.and_true, Bool.and_false, Bool.or_self, Bool.or_false, Bool.false_or, Bool.true_or, Option.bind_some, if_true, if_false, decide_true, decide_false]
    generalize (I.aP==0)=a at*
    generalize I.aN=b at*
    generalize (R==0)=r at*
    generalize decide (1≤N)=n at*
    generalize decide (N≤512)=n2 at*
    revert hw hz32 hnil
    clear hall hlen hpos h55 hI hge hgN
    revert A B C D E F a b r n n2
    decide
  · simp only [okI, hI, hge, hgN, Int.reduceBEq, Int.reduceBNe, Int.reduceLT, Int.reduceGT, Int.reduceEq, bne, eq_self, Bool.false_eq_true, Bool.not_true, Bool.not_false, Bool.true_and, Bool.false_and, Bool.and_true, Bool.and_false, Bool.or_self, Bool.or_false, Bool.false_or, Bool.true_or, Option.bind_some, if_true, if_false, decide_true, decide_false]
    generalize (I.aP==0)=a at*
    generalize I.aN=b at*
    generalize (R==0)=r at*
    generalize (N==0)=n at*
    generalize decide (1≤N)=n1 at*
    generalize decide (N≤512)=n2 at*
    revert hw hz32 hnil
    clear hall hlen hpos h55 hI hge hgN
    clear n1 n2
    revert A B C D E F a b r n
    decide
  · rw [hall (by omega) (by omega)]
    simp only [okI,hI,hge,hgN,Int.reduceBEq,Int.reduceBNe,Int.reduceLT,Int.reduceGT,Int.reduceEq,bne,eq_self,Bool.false_eq_true,Bool.not_true,Bool.not_false,Bool.true_and,Bool.false_and,Bool.and_true,Bool.and_false,Bool.or_self,Bool.or_false,Bool.false_or,Bool.true_or,Option.bind_some,if_true,if_false,decide_true,decide_false]
    generalize (I.aP==0)=a at*
    generalize I.aN=b at*
    generalize decide (0≤R)=r at*
    generalize decide (R<(t.ay.length:Int))=r2 at*
    generalize (N==0)=n at*
    revert hw hz32 hnil
    clear hall hlen hpos h55 hI hge hgN
    revert A B C D E a b r r2 n
    decide
end Go.Proofs.YtecpbadkdpbkpaaGreatDoor
namespace Go.Proofs.YtecpbadkdpbkpaaGreatDoor
open Go.RowKit Go.M
structure BK (defs:List bF) (g:List Int):Prop where
  len:g.length=defs.length
  ex:∃rk:Nat→Nat,∀j,j<defs.length→0<g.getD j 0∧g.getD j 0≤512∧(∀c∈cont (defs.getD j ah),rk c.toNat<rk j)∧g.getD j 0=nval (defs.getD j ah) (inner g (defs.getD j ah))
theorem zW.good {t:aU} {l:List Int} (G:zW t l):BK t.ay l:=by
  refine ⟨G.len,?_⟩
  obtain ⟨rk,B,h⟩:=G.jn
  exact ⟨rk, fun j hj => by
    obtain ⟨h1,h2,h3,h4⟩:=h j hj (G.pos j hj)
    exact ⟨G.pos j hj, h2, fun c hc => (h3 c hc).2, h4⟩⟩
section
variable {defs:List bF} {g:List Int} {rk:Nat→Nat}
structure Mid (defs:List bF) (g:List Int) (out:List Int) (bg:List Bool) (out':List Int) (bg':List Bool):Prop where
  lo:out'.length=defs.length
  lb:bg'.length=defs.length
  val:∀j,j<defs.length→out'.getD j 0=0∨out'.getD j 0=g.getD j 0
  keep:∀j,0<out.getD j 0→out'.getD j 0=out.getD j 0
  stk:∀j,bg'.getD j false=true→out'.getD j 0=0→bg.getD j false=true∧out.getD j 0=0
theorem Mid.trans {o1 o2 o3:List Int} {b1 b2 b3:List Bool} (h:Mid defs g o1 b1 o2 b2) (k:Mid defs g o2 b2 o3 b3):Mid defs g o1 b1 o3 b3:=
  ⟨k.lo, k.lb, k.val, fun j hj => by rw [k.keep j (by rw [h.keep j hj]; exact hj), h.keep j hj], fun j hb ho => by
    obtain ⟨h1,h2⟩:=k.stk j hb ho
    exact h.stk j h1 h2⟩
def Xa (defs:List bF) (g:List Int) (i:Nat) (out:List Int) (bg:List Bool):Prop:=∃out' bg',Ev (fun k=>cu.f k (i:Int) out true bg defs) (g.getD i 0,out',true,bg')∧Mid defs g out bg out' bg'∧out'.getD i 0=g.getD i 0
theorem Oi {R:Nat} (v1:List Int) (hv:∀c∈v1,0≤c∧c<(defs.length:Int)) (hvl:v1.length≤9223372036854775807) (hr:∀c∈v1,rk c.toNat<R)
    (hc:∀(i:Nat) (out:List Int) (bg:List Bool),i<defs.length→rk i<R→out.length=defs.length→bg.length=defs.length→(∀j,j<defs.length→out.getD j 0=0∨out.getD j 0=g.getD j 0)→(∀j,bg.getD j false=true→out.getD j 0=0→rk i<rk j)→Xa defs g i out bg):
    ∀(e j:Nat) (inn:Int) (out:List Int) (bg:List Bool),j+e=v1.length→out.length=defs.length→bg.length=defs.length→(∀j,j<defs.length→out.getD j 0=0∨out.getD j 0=g.getD j 0)→(∀j,bg.getD j false=true→out.getD j 0=0→R≤rk j)→
    ∃out' bg',(∃K,∀k m,K≤k→K≤m→cu.l0 (cu.f k) defs v1 m inn (j:Int) true out bg=some ((v1.drop j).foldl (fun _ c=>g.getD c.toNat 0) inn,true,out',bg'))∧Mid defs g out bg out' bg':=by
  intro e
  induction e with
  | zero =>
    intro j inn out bg hj h1 h2 h3 h4
    refine ⟨out,bg,⟨1,fun k m _ hm=>?_⟩,h1,h2,h3,fun _ _=>rfl,fun j a b=>⟨a,b⟩⟩
    obtain ⟨m,rfl⟩:∃q,m=q+1:=⟨m-1,by omega⟩
    rw [cu.l0,if_neg (by simp;omega),List.drop_eq_nil_of_le (by omega)]
    rfl
  | succ e ih =>
    intro j inn out bg hj h1 h2 h3 h4
    have hlt:j<v1.length:=by omega
    have hmem:=getD_mem (z:=0) hlt
    have hm:=hv _ hmem
    obtain ⟨i,hi⟩:∃i:Nat,v1.getD j 0=(i:Int):=⟨(v1.getD j 0).toNat,by omega⟩
    have hri:rk i<R:=by have:=hr _ hmem;rw [hi] at this;exact this
    obtain ⟨o1,b1,⟨K1,hK1⟩,hM1,hv1⟩:=hc i out bg (by omega) hri h1 h2 h3 (fun q a b=>by have:=h4 q a b;omega)
    obtain ⟨o2, b2, ⟨K2, hK2⟩, hM2⟩ := ih (j + 1) (g.getD i 0) o1 b1 (by omega) hM1.lo hM1.lb hM1.val (fun q a b => by
      obtain ⟨x,y⟩:=hM1.stk q a b
      exact h4 q x y)
    refine ⟨o2,b2,⟨max K1 K2+1,fun k m hk hm'=>?_⟩,hM1.trans hM2⟩
    obtain ⟨m,rfl⟩:∃q,m=q+1:=⟨m-1,by omega⟩
    rw [cu.l0,if_pos (by simp;omega),if_pos (by omega),fU,hi,show cu.f k _ _ _ _ _=_ from hK1 k (by omega)]
    simp only [Option.bind_some]
    rw [fO hlt hvl,jg 0 hlt,hi]
    exact hK2 k m (by omega) (by omega)
theorem Qm {d:bF} {n:Nat} (hd:ShD d n):(cont d).length≤9223372036854775807:=by
  have:=hd.few
  unfold cont
  split
  · simp
  · split
    · rw [List.length_map];omega
    · simp
theorem Oj (hS : ∀ d ∈ defs, ShD d defs.length) (hg : ∀ j, j < defs.length → 0 < g.getD j 0 ∧ g.getD j 0 ≤ 512 ∧ (∀ c ∈ cont (defs.getD j ah), rk c.toNat < rk j) ∧ g.getD j 0 = nval (defs.getD j ah) (inner g (defs.getD j ah))) :
    ∀(R i:Nat) (out:List Int) (bg:List Bool),rk i=R→i<defs.length→out.length=defs.length→bg.length=defs.length→(∀j,j<defs.length→out.getD j 0=0∨out.getD j 0=g.getD j 0)→(∀j,bg.getD j false=true→out.getD j 0=0→rk i<rk j)→Xa defs g i out bg:=by
  intro R
  induction R using Nat.strongRecOn with
  | _ R ihR =>
    intro i out bg hR hi h1 h2 h3 h4
    obtain ⟨g1,g2,g3,g4⟩:=hg i hi
    rcases h3 i hi with h0|h0
    · have hb : bg.getD i false = false := by
        cases hb:bg.getD i false with
        |false=>rfl
        |true=>exact absurd (h4 i hb h0) (by omega)
      have hd:=hS _ (getD_mem (z:=ah) hi)
      obtain ⟨Kc,hKc⟩:=xW (d:=defs.getD i ah) (by have:=hd.few;omega)
      obtain ⟨o1,b1,⟨K1,hK1⟩,hM⟩:=Oi (defs:=defs) (g:=g) (rk:=rk) (R:=R) (cont (defs.getD i ah)) (ou hd) (Qm hd) (fun c hc=>by have:=g3 c hc;omega)
        (fun i' o b a1 a2 a3 a4 a5 a6 => ihR (rk i') a2 i' o b rfl a1 a3 a4 a5 a6) (cont (defs.getD i ah)).length 0 0 out (bg.set i true) (by omega) h1 (by simpa using h2) h3 (fun j a b => by
          rw [mV (by omega)] at a
          split at a
          · next e=>subst e;omega
          · have := h4 j a b; omega)
      rw [List.drop_zero] at hK1
      have hset:∀j,(o1.set i (g.getD i 0)).getD j 0=if i=j then g.getD i 0 else o1.getD j 0:=fun j=>mV (by rw [hM.lo];exact hi)
      refine ⟨o1.set i (g.getD i 0),b1,⟨max Kc K1+1,fun k hk=>?_⟩,⟨by simp [hM.lo],hM.lb,fun j hj=>?_,fun j hj=>?_,fun j hb' ho=>?_⟩,by rw [hset,if_pos rfl]⟩
      · obtain ⟨k, rfl⟩ : ∃ q, k = q + 1 := ⟨k - 1, by omega⟩
        show cu.f (k+1) _ _ _ _ _=_
        rw [cu.f,if_pos (by omega),fU,if_neg (by simp only [Bool.not_true,Bool.or_false,decide_eq_true_eq];omega),if_pos (by omega),fU,if_neg (by rw [hb];simp),if_pos (by omega),if_pos (by omega),fU,show fB.f k _=_ from hKc k (by omega)]
        simp only [Option.bind_some,Int.toNat_natCast]
        rw [show cu.l0 (cu.f k) defs _ k 0 0 true out _=_ from hK1 k k (by omega) (by omega)]
        simp only [Option.bind_some]
        rw [if_pos (by rw [hM.lo];omega)]
        simp only [NV]
        rw [show nval (defs.getD i ah) (List.foldl (fun x c=>g.getD c.toNat 0) 0 (cont (defs.getD i ah)))=g.getD i 0 from g4.symm,decide_eq_true g2]
        rfl
      · rw [hset]
        split
        · next e=>subst e;exact .inr rfl
        · exact hM.val j hj
      · rw [hset, if_neg (fun e => by subst e; omega)]
        exact hM.keep j hj
      · rw [hset] at ho
        split at ho
        · omega
        · next hne =>
          obtain ⟨x,y⟩:=hM.stk j hb' ho
          rw [mV (by omega),if_neg hne] at x
          exact ⟨x,y⟩
    · refine ⟨out, bg, ⟨1, fun k hk => ?_⟩, ⟨h1, h2, h3, fun _ _ => rfl, fun j a b => ⟨a, b⟩⟩, h0⟩
      obtain ⟨k,rfl⟩:∃q,k=q+1:=⟨k-1,by omega⟩
      show cu.f (k+1) _ _ _ _ _=_
      rw [cu.f,if_pos (by omega),fU,if_pos (by simp only [Bool.or_eq_true,decide_eq_true_eq];exact .inl (by omega)),if_pos (by omega),h0]
end
theorem II {g h:List Int} (hl:g.length=h.length) (he:∀j,j<g.length→g.getD j 0=h.getD j 0):g=h:=by
  apply List.ext_getElem hl
  intro j h1 h2
  have:=he j h1
  rw [List.getD_eq_getElem?_getD,List.getD_eq_getElem?_getD,List.getElem?_eq_getElem h1,List.getElem?_eq_getElem h2] at this
  exact this
theorem Qn {t : aU} {g : List Int} {rk : Nat → Nat} (hS : ∀ d ∈ t.ay, ShD d t.ay.length) (hn : t.ay.length ≤ 9223372036854775807)
    (hg:∀j,j<t.ay.length→0<g.getD j 0∧g.getD j 0≤512∧(∀c∈cont (t.ay.getD j ah),rk c.toNat<rk j)∧g.getD j 0=nval (t.ay.getD j ah) (inner g (t.ay.getD j ah))):
    ∀(e j:Nat) (bg:List Bool) (out:List Int),j+e=t.ay.length→out.length=t.ay.length→bg.length=t.ay.length→(∀q,q<t.ay.length→out.getD q 0=0∨out.getD q 0=g.getD q 0)→(∀q,bg.getD q false=true→out.getD q 0=0→False)→(∀q,q<j→out.getD q 0=g.getD q 0)→
    ∃bg' out',Ev2 (fun k m=>eP.l0 k t m (j:Int) true bg out) (true,bg',out')∧out'.length=t.ay.length∧∀q,q<t.ay.length→out'.getD q 0=g.getD q 0:=by
  intro e
  induction e with
  | zero =>
    intro j bg out hj h1 h2 h3 h4 h5
    refine ⟨bg,out,Ev2.pure (fun k m=>?_),h1,fun q hq=>h5 q (by omega)⟩
    rw [eP.l0,if_neg (by simp;omega)]
  | succ e ih =>
    intro j bg out hj h1 h2 h3 h4 h5
    have hlt:j<t.ay.length:=by omega
    obtain ⟨o1,b1,hE,hM,hv⟩:=Oj hS hg (rk j) j out bg rfl hlt h1 h2 h3 (fun q a b=>(h4 q a b).elim)
    obtain ⟨bg', out', hE2, h6, h7⟩ := ih (j + 1) b1 o1 (by omega) hM.lo hM.lb hM.val (fun q a b => by
      obtain ⟨x,y⟩:=hM.stk q a b
      exact h4 q x y) (fun q hq=>by
      by_cases hqj:q=j
      · subst hqj;exact hv
      · have h8 := h5 q (by omega)
        have h9:=(hg q (by omega)).1
        rw [hM.keep q (by omega), h8])
    refine ⟨bg',out',Ev2.step hE (r:=fun k m (v1:Int×List Int×Bool×List Bool)=>eP.l0 k t m (IntKind.wrap .i64 ((j:Int)+1)) v1.2.2.1 v1.2.2.2 v1.2.1) ?_ (fun k m=>?_),h6,h7⟩
    · simp only
      rw [fO hlt hn]
      exact hE2
    · rw [eP.l0,if_pos (by simp;omega)]
theorem BL {t:aU} {g:List Int} (hS:∀d∈t.ay,ShD d t.ay.length) (hn:t.ay.length≤200) (G:BK t.ay g):Ev (fun k=>eP.f k t) (g,true):=by
  obtain ⟨rk,hg⟩:=G.ex
  have hrep:∀(n q:Nat),(List.replicate n (0:Int)).getD q 0=0:=fun n q=>by
    rw [List.getD_eq_getElem?_getD,List.getElem?_replicate]
    split<;>rfl
  have YG:∀(n q:Nat),(List.replicate n false).getD q false=false:=fun n q=>by
    rw [List.getD_eq_getElem?_getD,List.getElem?_replicate]
    split<;>rfl
  obtain ⟨bg,out,hE,h1,h2⟩:=Qn hS (by omega) hg t.ay.length 0 (List.replicate t.ay.length false) (List.replicate t.ay.length 0) (by omega) (by simp) (by simp) (fun q _=> .inl (hrep _ _)) (fun q a _=>by rw [YG] at a;cases a) (fun q hq=>by omega)
  have hog:out=g:=II (by rw [h1,G.len]) (fun j hj=>h2 j (by omega))
  subst hog
  obtain ⟨K,hK⟩:=hE.diag
  refine ⟨K,fun k hk=>?_⟩
  show eP.f k t=_
  unfold eP.f
  rw [if_pos (by omega),if_pos (by omega)]
  simp only [Int.toNat_natCast]
  rw [show eP.l0 k t k 0 true _ _=_ from hK k hk]
  rfl
theorem wC {d:bF} {known:List Int} (hk:d.aC=3∨d.aC=6):inner known d=rd 0 known d.dM∧cont d=[d.dM]:=by
  have hcd:cont d=[d.dM]:=by
    unfold cont
    rw [if_pos (by simp only [Bool.or_eq_true,beq_iff_eq];exact hk)]
  refine ⟨?_,hcd⟩
  unfold inner
  rw [hcd]
  rfl
theorem Ol {d:bF} {c:Int} (h:c∈cont d):d.aC=3∨d.aC=4∨d.aC=6:=by
  unfold cont at h
  split at h
  · next h2=>simp only [Bool.or_eq_true,beq_iff_eq] at h2;omega
  · split at h
    · next h2=>simp only [beq_iff_eq] at h2;omega
    · cases h
theorem uN {d:bF} {a b:List Int} (h:∀c∈cont d,a.getD c.toNat 0=b.getD c.toNat 0):inner a d=inner b d:=by
  unfold inner
  have key:∀(l:List Int) (z0:Int),(∀c∈l,a.getD c.toNat 0=b.getD c.toNat 0)→l.foldl (fun _ c=>a.getD c.toNat 0) z0=l.foldl (fun _ c=>b.getD c.toNat 0) z0:=by
    intro l
    induction l with
    |nil=>intro _ _;rfl
    | cons c l ih =>
      intro z0 hc
      rw [List.foldl_cons,List.foldl_cons,hc c List.mem_cons_self]
      exact ih _ (fun c hc'=>hc c (List.mem_cons_of_mem _ hc'))
  exact key _ _ h
theorem Xb {d:bF} {a:List Int} (h:∀c∈cont d,0≤a.getD c.toNat 0∧a.getD c.toNat 0≤513):0≤inner a d∧inner a d≤513:=by
  unfold inner
  have key:∀(l:List Int) (z0:Int),0≤z0∧z0≤513→(∀c∈l,0≤a.getD c.toNat 0∧a.getD c.toNat 0≤513)→0≤l.foldl (fun _ c=>a.getD c.toNat 0) z0∧l.foldl (fun _ c=>a.getD c.toNat 0) z0≤513:=by
    intro l
    induction l with
    |nil=>intro z0 h0 _;exact h0
    | cons c l ih =>
      intro z0 h0 hc
      rw [List.foldl_cons]
      exact ih _ (hc c List.mem_cons_self) (fun c hc'=>hc c (List.mem_cons_of_mem _ hc'))
  exact key _ _ (by omega) h
theorem GK {d:bF} (e:d.aC=4):cont d=d.au.map (·.vType):=by
  unfold cont
  rw [if_neg (by simp [e]),if_pos (by simp [e])]
structure Wf (t:aU) (l:List Int):Prop where
  few:t.ay.length≤200
  defs:zI t.ay.length [] t.ay=true
  sz:BK t.ay l
  ends:∀d∈t.ay,uK t.ay t.ay.length d=false
  placed:∀d∈t.ay,d.aC=4→sZ d l=true
theorem zW.wf {t:aU} {l:List Int} (G:zW t l):Wf t l:=⟨G.few,G.defs,G.good,G.ends,G.placed⟩
theorem Wf.sh {t:aU} {l:List Int} (W:Wf t l):∀d∈t.ay,ShD d t.ay.length:=Dz _ _ W.defs
theorem Wf.good {t:aU} {l:List Int} (W:Wf t l):zW t l:=by
  obtain ⟨rk,h⟩:=W.sz.ex
  have hB:∀n,∃B,∀j,j<n→rk j<B:=by
    intro n
    induction n with
    |zero=>exact ⟨0,fun j hj=>by omega⟩
    | succ n ih =>
      obtain ⟨B,hB⟩:=ih
      refine ⟨max B (rk n+1),fun j hj=>?_⟩
      by_cases e:j=n
      · subst e;omega
      · have:=hB j (by omega);omega
  obtain ⟨B,hB⟩:=hB t.ay.length
  refine ⟨W.few,W.sh,BL W.sh W.few W.sz,W.sz.len,⟨rk,B,fun j hj _=>?_⟩,fun q hq=>(h q hq).1,W.ends,W.placed,W.defs⟩
  obtain ⟨h1,h2,h3,h4⟩:=h j hj
  refine ⟨hB j hj,h2,fun c hc=>⟨?_,h3 c hc⟩,h4⟩
  have:=ou (W.sh _ (getD_mem (z:=ah) hj)) c hc
  exact (h c.toNat (by omega)).1
theorem Qo {t : aU} {l : List Int} (hF : ∀ d ∈ t.ay, DV d) (W : Wf t l) : Ev (fun k => cO.f k t) true := by
  have hn:=W.few
  have hS:=W.sh
  have hcond:¬decide ((t.ay.length:Int)>200)=true:=by simp;omega
  obtain ⟨v,hv,hp⟩:=BG hF (by omega) t.ay.length 0 [] [] (by omega) um.nil
  rw [List.drop_zero] at hp
  obtain ⟨K,hK⟩:=hv.diag
  obtain ⟨K2,hK2⟩:=BL hS hn W.sz
  obtain ⟨K3,hK3⟩:=N7 hS hn
  have he:t.ay.any (uK t.ay t.ay.length)=false:=List.any_eq_false.2 fun d hd=>by rw [W.ends d hd];simp
  obtain ⟨K4, hK4⟩ := uJ (l := t.ay) (p := fun k z0 => jd.f k z0 l) (q := fun _ => false) (fun d hd => by
    by_cases h4:d.aC=4
    · have := EY (d := d) (l := l) (hF d hd).len (fun f hf => by have := (hS d hd).typ h4 f hf; rw [W.sz.len]; exact this)
      rw [W.placed d hd h4] at this
      exact (this.bind (g:=fun k v1=>some ((d.aC==4)&&(!v1))) (b:=false) (Ev.pure fun _=>by simp)).congr fun k=>by
        unfold jd.f
        rw [if_pos (by simp [h4])]
    · refine Ev.pure fun k => ?_
      unfold jd.f
      rw [if_neg (by simp [h4])]
      simp [h4]) (by omega)
  cases v with
  |inl b=>rw [W.defs] at hp;exact absurd hp.2 (by simp)
  | inr m =>
    refine ⟨max (max K K2) (max K3 K4),fun k hk=>?_⟩
    show cO.f k t=_
    unfold cO.f
    rw [if_neg hcond,show cO.l0 k t k 0 []=_ from hK k (by omega)]
    simp only [Option.bind_some]
    rw [show eP.f k t=_ from hK2 k (by omega)]
    simp only [Option.bind_some]
    rw [show nZ.f k t=_ from hK3 k (by omega),he]
    simp only [Bool.not_true,Bool.not_false,beq_self_eq_true,Bool.and_self,if_true,Option.bind_some,Bool.or_self,Bool.false_eq_true,if_false]
    rw [show bY.f k t.ay _=_ from hK4 k (by omega)]
    simp
theorem tq {t:aU} (hF:∀d∈t.ay,DV d):(∃l,Wf t l∧Ev (fun k=>cO.f k t) true)∨((∀l,¬Wf t l)∧Ev (fun k=>cO.f k t) false):=by
  obtain ⟨b,hE,hb⟩:=Ql hF
  cases b with
  | true =>
    obtain ⟨l,G⟩:=hb rfl
    exact .inl ⟨l,G.wf,hE⟩
  | false =>
    refine .inr ⟨fun l W=>?_,hE⟩
    have:=hE.uniq (Qo hF W)
    cases this
theorem YH {t:aU} {l m:List Int} (W:Wf t l) (V:Wf t m):l=m:=by
  have:=W.good.sizes.uniq V.good.sizes
  exact congrArg Prod.fst this
end Go.Proofs.YtecpbadkdpbkpaaGreatDoor
namespace Go.Proofs.YtecpbadkdpbkpaaGreatDoor
open Go.RowKit Go.M
def oP (d:bF) (known:List Int):Int:=if d.aC=4∧(d.au.any fun f=>rd 0 known f.vType==0)=true then 0 else nval d (inner known d)
theorem JK {d:bF} {known:List Int} (hl:d.au.length≤9223372036854775807) (ht:∀f∈d.au,0≤f.vType∧f.vType<known.length):∀(e j m:Nat),j+e=d.au.length→e<m→
    dN.l0 d known m (j:Int)=some (if ((d.au.drop j).any fun f=>rd 0 known f.vType==0)=true then .inl 0 else .inr ()):=by
  intro e
  induction e with
  | zero =>
    intro j m hj hm
    obtain ⟨m,rfl⟩:∃q,m=q+1:=⟨m-1,by omega⟩
    rw [dN.l0,if_neg (by simp;omega),List.drop_eq_nil_of_le (by omega)]
    rfl
  | succ e ih =>
    intro j m hj hm
    obtain ⟨m,rfl⟩:∃q,m=q+1:=⟨m-1,by omega⟩
    have hlt:j<d.au.length:=by omega
    have hf:=ht _ (getD_mem (z:=aj) hlt)
    rw [dN.l0,if_pos (by simp;omega),if_pos (by omega),fU,if_pos hf,jg aj hlt,List.any_cons]
    by_cases hc:(rd 0 known (d.au.getD j aj).vType==0)=true
    · rw [if_pos hc,hc];rfl
    · rw [if_neg hc, fO hlt hl, ih (j + 1) m (by omega) (by omega)]
      rw [Bool.not_eq_true] at hc
      rw [hc,Bool.false_or]
theorem Qp {d : bF} {known : List Int} {n : Nat} (hd : ShD d n) (hn : known.length = n) : Ev (fun k => dN.f k d known) (oP d known) := by
  have hfew:=hd.few
  have hkind:=hd.kind
  refine ⟨d.au.length+1,fun k hk=>?_⟩
  show dN.f k d known=_
  unfold dN.f oP nval
  simp only [beq_iff_eq]
  by_cases e1:d.aC=1
  · rw [if_pos e1,if_neg (by omega),if_pos e1]
  · rw [if_neg e1]
    by_cases e2:d.aC=2
    · rw [if_pos e2,if_neg (by omega),if_neg e1,if_pos e2]
    · rw [if_neg e2]
      by_cases e3:d.aC=3
      · have hr := hd.ref (by omega)
        rw [if_pos e3,if_pos (by omega),if_neg (by omega),if_neg e1,if_neg e2,if_pos e3,(wC (.inl e3)).1]
      · rw [if_neg e3]
        by_cases e5:d.aC=5
        · rw [if_pos e5,if_neg (by omega),if_neg e1,if_neg e2,if_neg e3,if_neg (by omega),if_pos e5]
        · rw [if_neg e5]
          by_cases e6:d.aC=6
          · have hr := hd.ref (by omega)
            rw [if_pos e6,if_pos (by omega),if_neg (by omega),if_neg e1,if_neg e2,if_neg e3,if_neg (by omega),if_neg e5,if_pos e6,(wC (.inr e6)).1]
          · have e4 : d.aC = 4 := by omega
            have ht:=hd.typ e4
            rw [if_neg e6,show dN.l0 d known k 0=_ from JK (by omega) (fun f hf=>by have:=ht f hf;omega) d.au.length 0 k (by omega) (by omega),List.drop_zero]
            rw [if_neg e1,if_neg e2,if_neg e3,if_pos e4]
            cases hany:d.au.any fun f=>rd 0 known f.vType==0 with
            |true=>simp [e4]
            |false=>simp [e4]
structure Inv (defs:List bF) (known:List Int):Prop where
  len:known.length=defs.length
  rng:∀j,j<defs.length→0≤known.getD j 0∧known.getD j 0≤513
  ex:∃(rk:Nat→Nat) (B:Nat),∀j,j<defs.length→known.getD j 0≠0→rk j<B∧(∀c∈cont (defs.getD j ah),known.getD c.toNat 0≠0∧rk c.toNat<rk j)∧known.getD j 0=zL (nval (defs.getD j ah) (inner known (defs.getD j ah))) 513
theorem Om {d : bF} {known : List Int} {n : Nat} (hd : ShD d n) (h : 0 < oP d known) : 0 < nval d (inner known d) ∧ oP d known = nval d (inner known d) ∧ ∀ c ∈ cont d, known.getD c.toNat 0 ≠ 0 := by
  unfold oP at h⊢
  split at h
  · omega
  · next hc =>
    rw [if_neg hc]
    refine ⟨h,rfl,fun c hcm=>?_⟩
    rcases Ol hcm with e|e|e
    · obtain ⟨h1, h2⟩ := wC (known := known) (.inl e)
      rw [h2] at hcm
      rw [List.mem_singleton.1 hcm]
      intro h0
      unfold nval at h
      rw [h1,show rd 0 known d.dM=0 from h0,Int.mul_zero,if_neg (by omega),if_neg (by omega),if_pos e] at h
      exact absurd h (by decide)
    · have hcd : cont d = d.au.map (·.vType) := by
        unfold cont
        rw [if_neg (by simp [e]),if_pos (by simp [e])]
      rw [hcd] at hcm
      obtain ⟨f,hf,rfl⟩:=List.mem_map.1 hcm
      intro h0
      exact hc ⟨e,List.any_eq_true.2 ⟨f,hf,by rw [beq_iff_eq];exact h0⟩⟩
    · obtain ⟨h1, h2⟩ := wC (known := known) (.inr e)
      rw [h2] at hcm
      rw [List.mem_singleton.1 hcm]
      intro h0
      unfold nval at h
      rw [h1,show rd 0 known d.dM=0 from h0,if_neg (by omega),if_neg (by omega),if_neg (by omega),if_neg (by omega),if_neg (by omega),if_pos e] at h
      omega
def zer (l:List Int):Nat:=(l.filter fun x=>x==0).length
theorem Oo:∀(a:List Int) (i:Nat) (v:Int),i<a.length→a.getD i 0=0→v≠0→zer (a.set i v)+1=zer a
  |[],i,v,h,_,_=>by simp at h
  | x :: a, 0, v, h, hi, hv => by
    simp only [List.getD_cons_zero] at hi
    subst hi
    simp [zer,hv]
  | x :: a, i + 1, v, h, hi, hv => by
    have:=Oo a i v (by simpa using h) (by simpa using hi) hv
    unfold zer at*
    rw [List.set_cons_succ,List.filter_cons,List.filter_cons]
    by_cases hx:(x==0)=true
    · rw [if_pos hx,if_pos hx,List.length_cons,List.length_cons];omega
    · rw [if_neg hx,if_neg hx];exact this
theorem Uy {defs : List bF} {known : List Int} (hS : ∀ d ∈ defs, ShD d defs.length) (I : Inv defs known) {i : Nat} (hi : i < defs.length) (h0 : known.getD i 0 = 0) (hp : 0 < oP (defs.getD i ah) known) :
    Inv defs (known.set i (zL (oP (defs.getD i ah) known) 513))∧zL (oP (defs.getD i ah) known) 513≠0:=by
  obtain ⟨hp1,hp2,hp3⟩:=Om (hS _ (getD_mem hi)) hp
  obtain ⟨rk,B,hB⟩:=I.ex
  have hv:0<zL (oP (defs.getD i ah) known) 513∧zL (oP (defs.getD i ah) known) 513≤513:=by
    unfold zL
    split<;>omega
  generalize hV:zL (oP (defs.getD i ah) known) 513=V at*
  have hset:∀j,(known.set i V).getD j 0=if i=j then V else known.getD j 0:=fun j=>mV (by rw [I.len];exact hi)
  have hne:∀c:Int,known.getD c.toNat 0≠0→¬i=c.toNat:=fun c hc e=>by rw [←e] at hc;exact hc h0
  refine ⟨⟨by simp [I.len],fun j hj=>?_,fun j=>if i=j then B else rk j,B+1,fun j hj hj0=>?_⟩,by omega⟩
  · rw [hset]
    split
    · omega
    · exact I.rng j hj
  · show (if i = j then B else rk j) < B + 1 ∧ (∀ c : Int, c ∈ cont (defs.getD j ah) → _ ∧ (if i = c.toNat then B else rk c.toNat) < (if i = j then B else rk j)) ∧ _
    by_cases hij:i=j
    · subst hij
      rw [if_pos rfl]
      refine ⟨by omega,fun c hc=>?_,?_⟩
      · have h5 := hp3 c hc
        have h6:=ou (hS _ (getD_mem (z:=ah) hi)) c hc
        rw [hset,if_neg (hne c h5),if_neg (hne c h5)]
        exact ⟨h5,(hB c.toNat (by omega) h5).1⟩
      · rw [hp2] at hV
        refine (hset i).trans ?_
        rw [if_pos rfl]
        refine hV.symm.trans ?_
        congr 2
        exact uN (fun c hc=>by rw [hset,if_neg (hne c (hp3 c hc))])
    · rw [hset, if_neg hij] at hj0
      obtain ⟨h5,h7,h8⟩:=hB j hj hj0
      rw [if_neg hij,hset,if_neg hij]
      refine ⟨by omega,fun c hc=>?_,?_⟩
      · obtain ⟨h9, h10⟩ := h7 c hc
        rw [hset,if_neg (hne c h9),if_neg (hne c h9)]
        exact ⟨h9,h10⟩
      · rw [h8]
        congr 2
        exact uN (fun c hc=>by rw [hset,if_neg (hne c (h7 c hc).1)])
theorem Oq {t : aU} (hS : ∀ d ∈ t.ay, ShD d t.ay.length) (hn : t.ay.length ≤ 9223372036854775807) : ∀ (e j : Nat) (more : Bool) (known : List Int), j + e = t.ay.length → Inv t.ay known →
    ∃ more' known', Ev2 (fun k m => aT.l1 k t m more (j : Int) known) (more', known') ∧ Inv t.ay known' ∧ (more' = false → more = false ∧ known' = known ∧ ∀ q, j ≤ q → q < t.ay.length → known.getD q 0 = 0 → oP (t.ay.getD q ah) known ≤ 0) ∧
      zer known'≤zer known∧(more'=true→more=true∨zer known'<zer known):=by
  intro e
  induction e with
  | zero =>
    intro j more known hj I
    refine ⟨more,known,Ev2.pure (fun k m=>?_),I,fun h=>⟨h,rfl,fun q _ _=>by omega⟩,Nat.le_refl _,fun h=> .inl h⟩
    rw [aT.l1,if_neg (by simp;omega)]
  | succ e ih =>
    intro j more known hj I
    have hlt:j<t.ay.length:=by omega
    have hd:=hS _ (getD_mem (z:=ah) hlt)
    by_cases h0:known.getD j 0=0
    · have hs := Qp hd I.len
      by_cases hp:0<oP (t.ay.getD j ah) known
      · obtain ⟨I2, hv⟩ := Uy hS I hlt h0 hp
        have hz:=Oo known j _ (by rw [I.len];exact hlt) h0 hv
        obtain ⟨more',known',hE,I3,h1,h2,h3⟩:=ih (j+1) true _ (by omega) I2
        refine ⟨more',known',Ev2.step hs (r:=fun k m v1=>if (decide (v1>0))=true then (if 0≤(j:Int)∧(j:Int)<(((t.ay.length:Int).toNat:Nat):Int) then (aT.l1 k t m true (IntKind.wrap .i64 ((j:Int)+1)) (List.set known j (zL v1 513))) else none) else (aT.l1 k t m more (IntKind.wrap .i64 ((j:Int)+1)) known)) ?_ (fun k m=>?_),I3,?_,by omega,fun _=> .inr (by omega)⟩
        · obtain ⟨K, hK⟩ := hE
          refine ⟨K,fun k m hk hm=>?_⟩
          show (if _ then _ else _)=_
          rw [if_pos (decide_eq_true hp),if_pos (by omega),fO hlt hn]
          exact hK k m hk hm
        · rw [aT.l1, if_pos (by simp; omega), if_pos (by omega), fU, if_neg (by rw [h0]; decide), if_pos (by omega), fU]
          simp only [Int.toNat_natCast]
        · intro h;have:=(h1 h).1;cases this
      · obtain ⟨more', known', hE, I3, h1, h2, h3⟩ := ih (j + 1) more known (by omega) I
        refine ⟨more',known',Ev2.step hs (r:=fun k m v1=>if (decide (v1>0))=true then (if 0≤(j:Int)∧(j:Int)<(((t.ay.length:Int).toNat:Nat):Int) then (aT.l1 k t m true (IntKind.wrap .i64 ((j:Int)+1)) (List.set known j (zL v1 513))) else none) else (aT.l1 k t m more (IntKind.wrap .i64 ((j:Int)+1)) known)) ?_ (fun k m=>?_),I3,?_,h2,h3⟩
        · obtain ⟨K, hK⟩ := hE
          refine ⟨K,fun k m hk hm=>?_⟩
          show (if _ then _ else _)=_
          rw [if_neg (by simpa using hp),fO hlt hn]
          exact hK k m hk hm
        · rw [aT.l1, if_pos (by simp; omega), if_pos (by omega), fU, if_neg (by rw [h0]; decide), if_pos (by omega), fU]
          simp only [Int.toNat_natCast]
        · intro h
          obtain ⟨a,b,c⟩:=h1 h
          refine ⟨a,b,fun q hq hq2 hq0=>?_⟩
          by_cases hqj:q=j
          · subst hqj;omega
          · exact c q (by omega) hq2 hq0
    · obtain ⟨more', known', hE, I3, h1, h2, h3⟩ := ih (j + 1) more known (by omega) I
      refine ⟨more',known',Ev2.next (r:=fun k m=>aT.l1 k t m more ((j+1:Nat):Int) known) hE (fun k m=>?_),I3,?_,h2,h3⟩
      · rw [aT.l1,if_pos (by simp;omega),if_pos (by omega),fU,if_pos (by simpa using h0),fO hlt hn]
      · intro h
        obtain ⟨a,b,c⟩:=h1 h
        refine ⟨a,b,fun q hq hq2 hq0=>?_⟩
        by_cases hqj:q=j
        · subst hqj;exact absurd hq0 h0
        · exact c q (by omega) hq2 hq0
def Fin (defs:List bF) (known:List Int):Prop:=∀q,q<defs.length→known.getD q 0=0→oP (defs.getD q ah) known≤0
theorem rounds {t : aU} (hS : ∀ d ∈ t.ay, ShD d t.ay.length) (hn : t.ay.length ≤ 9223372036854775807) : ∀ (z : Nat) (known : List Int), zer known = z → Inv t.ay known →
    ∃known',Ev2 (fun k m=>aT.l0 k t m true known) known'∧Inv t.ay known'∧Fin t.ay known':=by
  intro z
  induction z using Nat.strongRecOn with
  | _ z ih =>
    intro known hz I
    obtain ⟨more',known',hE,I2,h1,h2,h3⟩:=Oq hS hn t.ay.length 0 false known (by omega) I
    cases more' with
    | false =>
      obtain ⟨_,rfl,hf⟩:=h1 rfl
      refine ⟨known',Ev2.step hE.diag (r:=fun k m (x:Bool×List Int)=>aT.l0 k t m x.1 x.2) (Ev2.pure fun k m=>?_) (fun k m=>?_),I2,fun q hq h0=>hf q (by omega) hq h0⟩
      · show aT.l0 k t (m + 1) false known' = _
        rw [aT.l0,if_neg (by simp)]
      · rw [aT.l0, if_pos rfl]
        rfl
    | true =>
      have hlt:zer known'<z:=by
        rcases h3 rfl with h|h
        · cases h
        · omega
      obtain ⟨k3,hE3,I3,F3⟩:=ih (zer known') hlt known' rfl I2
      refine ⟨k3,Ev2.step hE.diag (r:=fun k m (x:Bool×List Int)=>aT.l0 k t m x.1 x.2) hE3 (fun k m=>?_),I3,F3⟩
      rw [aT.l0,if_pos rfl]
      rfl
theorem Ot {t:aU} (hS:∀d∈t.ay,ShD d t.ay.length) (hn:t.ay.length≤200):∃known,Ev (fun k=>aT.f k t) known∧Inv t.ay known∧Fin t.ay known:=by
  have hrep:∀(n q:Nat),(List.replicate n (0:Int)).getD q 0=0:=fun n q=>by
    rw [List.getD_eq_getElem?_getD,List.getElem?_replicate]
    split<;>rfl
  obtain ⟨known,hE,I,F⟩:=rounds hS (by omega) _ (List.replicate t.ay.length (0:Int)) rfl ⟨by simp,fun j hj=>by rw [hrep];omega,fun _=>0,0,fun j hj h=>absurd (hrep _ _) h⟩
  obtain ⟨K,hK⟩:=hE.diag
  refine ⟨known,⟨K,fun k hk=>?_⟩,I,F⟩
  show aT.f k t=_
  unfold aT.f
  rw [if_pos (by omega)]
  simp only [Int.toNat_natCast]
  rw [show aT.l0 k t k true _=_ from hK k hk]
  rfl
theorem Qq {x:Int} (h:zL x 513≤512):zL x 513=x:=by
  unfold zL at*
  split
  · next h2=>rw [if_pos h2] at h;omega
  · rfl
theorem GL {defs : List bF} {known g : List Int} (hS : ∀ d ∈ defs, ShD d defs.length) (I : Inv defs known) (F : Fin defs known) (G : BK defs g) : known = g := by
  obtain ⟨rk,hg⟩:=G.ex
  refine II (by rw [I.len,G.len]) (fun j hj=>?_)
  rw [I.len] at hj
  obtain ⟨rk2,B,hB⟩:=I.ex
  have key:∀(R q:Nat),rk q=R→q<defs.length→known.getD q 0=g.getD q 0:=by
    intro R
    induction R using Nat.strongRecOn with
    | _ R ih =>
      intro q hR hq
      obtain ⟨g1,g2,g3,g4⟩:=hg q hq
      have hd:=hS _ (getD_mem (z:=ah) hq)
      have hch:∀c∈cont (defs.getD q ah),known.getD c.toNat 0=g.getD c.toNat 0:=fun c hc=>by
        have h6:=ou hd c hc
        exact ih _ (by have:=g3 c hc;omega) c.toNat rfl (by omega)
      have hin:=uN hch
      by_cases h0:known.getD q 0=0
      · exfalso
        have h1:=F q hq h0
        unfold oP at h1
        rw [if_neg,hin,←g4] at h1
        · omega
        · rintro ⟨e4, ha⟩
          obtain ⟨f,hf,hf0⟩:=List.any_eq_true.1 ha
          have hcm:f.vType∈cont (defs.getD q ah):=by
            rw [GK e4]
            exact List.mem_map.2 ⟨f,hf,rfl⟩
          have h2:=hch _ hcm
          have h6:=ou hd _ hcm
          have h3:=(hg f.vType.toNat (by omega)).1
          rw [beq_iff_eq] at hf0
          rw [show known.getD f.vType.toNat 0=0 from hf0] at h2
          omega
      · obtain ⟨_, _, h3⟩ := hB q hq h0
        rw [hin,←g4] at h3
        rw [h3]
        unfold zL
        rw [if_neg (by omega)]
  exact key (rk j) j rfl hj
theorem GN {defs:List bF} {known:List Int} (I:Inv defs known) (h:∀j,j<defs.length→known.getD j 0≠0∧known.getD j 0≤512):BK defs known:=by
  obtain ⟨rk,B,hB⟩:=I.ex
  refine ⟨I.len,rk,fun j hj=>?_⟩
  obtain ⟨h1,h2⟩:=h j hj
  have h3:=I.rng j hj
  obtain ⟨_,h4,h5⟩:=hB j hj h1
  refine ⟨by omega,h2,fun c hc=>(h4 c hc).2,?_⟩
  rw [h5] at h2⊢
  exact Qq h2
end Go.Proofs.YtecpbadkdpbkpaaGreatDoor
namespace Go.Proofs.YtecpbadkdpbkpaaGreatDoor
open Go.RowKit Go.M
theorem JL {t : aU} (hS : ∀ d ∈ t.ay, ShD d t.ay.length) (hn : t.ay.length ≤ 9223372036854775000) : ∀ (e j m : Nat) (i : Int), 0 ≤ i → i < t.ay.length → j + e = t.ay.length → e + 1 < m →
    ((dh.l0 t m i (j:Int)).bind fun xx1=>(match xx1 with| .inl r=>some r| .inr s1=>some false))=some (!uK t.ay e (rd ah t.ay i)):=by
  intro e
  induction e with
  | zero =>
    intro j m i h0 h1 hj hm
    obtain ⟨m,rfl⟩:∃q,m=q+1:=⟨m-1,by omega⟩
    obtain ⟨m,rfl⟩:∃q,m=q+1:=⟨m-1,by omega⟩
    rw [dh.l0,if_pos (by simp;omega),if_pos ⟨h0,h1⟩]
    simp only [dW.f,Option.bind_some,uK]
    show (Option.bind (if mW _=true then _ else _) _)=_
    by_cases hnm:mW (rd ah t.ay i)=true
    · rw [if_pos hnm,hnm];rfl
    · rw [if_neg hnm, if_pos ⟨h0, h1⟩, lF (by omega) (by omega), dh.l0, if_neg (by simp; omega)]
      rw [Bool.not_eq_true] at hnm
      rw [hnm];rfl
  | succ e ih =>
    intro j m i h0 h1 hj hm
    obtain ⟨m,rfl⟩:∃q,m=q+1:=⟨m-1,by omega⟩
    rw [dh.l0,if_pos (by simp;omega),if_pos ⟨h0,h1⟩]
    simp only [dW.f,Option.bind_some,uK]
    show (Option.bind (if mW _=true then _ else _) _)=_
    by_cases hnm:mW (rd ah t.ay i)=true
    · rw [if_pos hnm,if_pos hnm];rfl
    · rw [if_neg hnm, if_neg hnm, if_pos ⟨h0, h1⟩]
      have hk:(rd ah t.ay i).aC=2∨(rd ah t.ay i).aC=3:=by
        unfold mW at hnm
        by_cases h2:(rd ah t.ay i).aC=2
        · exact .inl h2
        · by_cases h3 : (rd ah t.ay i).aC = 3
          · exact .inr h3
          · exact absurd (by simp [h2,h3]) hnm
      have hr:=(hS _ (Ro (z:=ah) h0 h1)).ref (by omega)
      rw [fO (show j<t.ay.length by omega) (by omega)]
      exact ih (j+1) m _ hr.1 hr.2 (by omega) (by omega)
theorem Qr {t:aU} (hS:∀d∈t.ay,ShD d t.ay.length) (hn:t.ay.length≤200) {i:Nat} (hi:i<t.ay.length):Ev (fun k=>dh.f k t (i:Int)) (!uK t.ay t.ay.length (t.ay.getD i ah)):=
  ⟨t.ay.length + 2, fun k hk => by
    show dh.f k t _=_
    unfold dh.f
    have:=JL hS (by omega) t.ay.length 0 k (i:Int) (by omega) (by omega) (by omega) (by omega)
    rw [fU] at this
    exact this⟩
def oQ (l:List Int) (N:Int):Int→List dw→Option Int
  |at_,[]=>some at_
  |at_,f::r=>if ((decide (f.vAt<at_))||(decide (f.vAt>N)))=true then none else oQ l N (IntKind.wrap .i64 (f.vAt+rd 0 l f.vType)) r
def tX (d:bF) (l:List Int):Bool:=match oQ l d.vN 0 d.au with|none=>false|some e=>decide (e≤d.vN)
theorem Fa {d:bF} {l:List Int} (hl:d.au.length≤9223372036854775807) (ht:∀f∈d.au,0≤f.vType∧f.vType<l.length):∀(e j m:Nat) (at_:Int),j+e=d.au.length→e<m→
    bZ.l0 d l m at_ (j:Int)=some (match oQ l d.vN at_ (d.au.drop j) with|none=> .inl false|some a=> .inr a):=by
  intro e
  induction e with
  | zero =>
    intro j m at_ hj hm
    obtain ⟨m,rfl⟩:∃q,m=q+1:=⟨m-1,by omega⟩
    rw [bZ.l0,if_neg (by simp;omega),List.drop_eq_nil_of_le (by omega)]
    rfl
  | succ e ih =>
    intro j m at_ hj hm
    obtain ⟨m,rfl⟩:∃q,m=q+1:=⟨m-1,by omega⟩
    have hlt:j<d.au.length:=by omega
    have hf:=ht _ (getD_mem (z:=aj) hlt)
    rw [bZ.l0,if_pos (by simp;omega),if_pos (by omega),fU,jg aj hlt]
    simp only [oQ]
    by_cases hc:((decide ((d.au.getD j aj).vAt<at_))||(decide ((d.au.getD j aj).vAt>d.vN)))=true
    · rw [if_pos hc,if_pos hc]
    · rw [if_neg hc,if_neg hc,if_pos hf,fO hlt hl,ih (j+1) m _ (by omega) (by omega)]
theorem BM {d:bF} {l:List Int} (hl:d.au.length≤9223372036854775807) (ht:∀f∈d.au,0≤f.vType∧f.vType<l.length):Ev (fun k=>bZ.f k d l) (tX d l):=by
  refine ⟨d.au.length+1,fun k hk=>?_⟩
  show bZ.f k d l=_
  unfold bZ.f tX
  rw [show bZ.l0 d l k 0 0=_ from Fa hl ht d.au.length 0 k 0 (by omega) (by omega),List.drop_zero]
  cases oQ l d.vN 0 d.au<;>rfl
theorem GR {l:List Int} {N:Int} (hN:0≤N):∀(fs:List dw) (a:Int),N<a→a≤1024→(∀f∈fs,0<rd 0 l f.vType∧rd 0 l f.vType≤512)→(match lq l a fs with|none=>false|some e=>decide (e≤N))=false:=by
  intro fs
  induction fs with
  |nil=>intro a h1 h2 _;simp only [lq];exact decide_eq_false (by omega)
  | cons f r ih =>
    intro a h1 h2 hf
    have h3:=hf f List.mem_cons_self
    simp only [lq]
    by_cases hc:((decide (f.vAt<a))||(decide (f.vAt>512)))=true
    · rw [if_pos hc]
    · rw [if_neg hc]
      simp only [Bool.or_eq_true,decide_eq_true_eq,not_or] at hc
      rw [lF (by omega) (by omega)]
      exact ih _ (by omega) (by omega) (fun g hg=>hf g (List.mem_cons_of_mem _ hg))
theorem GU {l : List Int} {N : Int} (hN : 0 ≤ N) (hN2 : N ≤ 512) : ∀ (fs : List dw) (a : Int), 0 ≤ a → (∀ f ∈ fs, 0 < rd 0 l f.vType ∧ rd 0 l f.vType ≤ 512) →
    (match oQ l N a fs with|none=>false|some e=>decide (e≤N))=(match lq l a fs with|none=>false|some e=>decide (e≤N)):=by
  intro fs
  induction fs with
  |nil=>intro a _ _;rfl
  | cons f r ih =>
    intro a h0 hf
    have h3:=hf f List.mem_cons_self
    simp only [lq,oQ]
    by_cases hc:((decide (f.vAt<a))||(decide (f.vAt>N)))=true
    · rw [if_pos hc]
      by_cases hc2:((decide (f.vAt<a))||(decide (f.vAt>512)))=true
      · rw [if_pos hc2]
      · rw [if_neg hc2]
        simp only [Bool.or_eq_true,decide_eq_true_eq,not_or] at hc hc2
        rw [lF (by omega) (by omega)]
        exact (GR hN r _ (by omega) (by omega) (fun g hg=>hf g (List.mem_cons_of_mem _ hg))).symm
    · rw [if_neg hc, if_neg]
      · simp only [Bool.or_eq_true, decide_eq_true_eq, not_or] at hc
        rw [lF (by omega) (by omega)]
        exact ih _ (by omega) (fun g hg=>hf g (List.mem_cons_of_mem _ hg))
      · simp only [Bool.or_eq_true, decide_eq_true_eq, not_or] at hc ⊢
        omega
theorem xX {defs:List bF} {l:List Int} (G:BK defs l) (hS:∀d∈defs,ShD d defs.length) {d:bF} (hd:d∈defs) (h4:d.aC=4):tX d l=sZ d l:=by
  obtain ⟨rk,h⟩:=G.ex
  have h1:=(hS d hd).num (.inr h4)
  have h2:=(hS d hd).typ h4
  exact GU (by omega) h1.2 _ _ (by omega) (fun f hf => by
    have h3:=h2 f hf
    have:=h f.vType.toNat (by omega)
    exact ⟨this.1, this.2.1⟩)
theorem JM {t:aU} (hl:t.ay.length≤9223372036854775807) {i:Nat} (hi:i<t.ay.length):∀(e j m:Nat),j+e=i→e<m→
    aO.l1 t (i:Int) m (j:Int)=some (if (mW (t.ay.getD i ah)&&(((t.ay.take i).drop j).any fun f=>strEq f.aQ (t.ay.getD i ah).aQ))=true then .inl 80 else .inr ()):=by
  intro e
  induction e with
  | zero =>
    intro j m hj hm
    obtain ⟨m,rfl⟩:∃q,m=q+1:=⟨m-1,by omega⟩
    rw [aO.l1,if_neg (by simp;omega),List.drop_eq_nil_of_le (by simp;omega)]
    simp
  | succ e ih =>
    intro j m hj hm
    obtain ⟨m,rfl⟩:∃q,m=q+1:=⟨m-1,by omega⟩
    have hlt:j<t.ay.length:=by omega
    have hd:(t.ay.take i).drop j=t.ay.getD j ah::(t.ay.take i).drop (j+1):=by
      rw [jg ah (by simp;omega)]
      congr 1
      rw [List.getD_eq_getElem?_getD,List.getD_eq_getElem?_getD,List.getElem?_take,if_pos (by omega)]
    rw [aO.l1,if_pos (by simp;omega),if_pos (by omega),fU,fU,hd,List.any_cons]
    simp only [dW.f,Option.bind_some]
    rw [if_pos (fun _=>by omega),if_pos (fun _=>by omega),fO hlt hl,ih (j+1) m (by omega) (by omega)]
    show (if (mW (t.ay.getD i ah)&&_)=true then _ else _)=_
    cases mW (t.ay.getD i ah)<;>cases (strEq (t.ay.getD j ah).aQ (t.ay.getD i ah).aQ)<;>cases (((t.ay.take i).drop (j+1)).any fun f=>strEq f.aQ (t.ay.getD i ah).aQ)<;>rfl
theorem Qs (l:List bF) (s:ByteArray):((l.map (·.aQ)).reverse.any (strEq s))=l.any fun f=>strEq f.aQ s:=by
  rw [List.any_reverse,List.any_map]
  congr 1
  funext f
  exact xA _ _
theorem JO {t : aU} (hF : ∀ d ∈ t.ay, DV d) (hl : t.ay.length ≤ 9223372036854775807) : ∀ (e j : Nat), j + e = t.ay.length →
    Ev2 (fun k m=>aO.l0 k t m (j:Int)) (if zI t.ay.length ((t.ay.take j).map (·.aQ)).reverse (t.ay.drop j)=true then .inr () else .inl 80):=by
  intro e
  induction e with
  | zero =>
    intro j hj
    refine Ev2.pure fun k m=>?_
    rw [aO.l0,if_neg (by simp;omega),List.drop_eq_nil_of_le (by omega)]
    rfl
  | succ e ih =>
    intro j hj
    have hlt:j<t.ay.length:=by omega
    have hmem:=getD_mem (z:=ah) hlt
    have hFd:=hF _ hmem
    have h1:=JJ (t:=t) hFd.len hFd.names hFd.name
    have h2:=ih (j+1) (by omega)
    have ht:((t.ay.take (j+1)).map (·.aQ)).reverse=(t.ay.getD j ah).aQ::((t.ay.take j).map (·.aQ)).reverse:=by
      rw [List.take_add_one,List.map_append,List.reverse_append]
      rw [List.getD_eq_getElem?_getD,List.getElem?_eq_getElem hlt]
      rfl
    rw [ht] at h2
    rw [jg ah hlt,zI]
    refine Ev2.step h1 (r:=fun k m v1=>if (!v1)=true then (some (.inl 80)) else ((aO.l1 t (j:Int) k 0).bind fun xx2=>(match xx2 with| .inl r=>some (.inl r)| .inr s1=>aO.l0 k t m ((j+1:Nat):Int)))) ?_ (fun k m=>?_)
    · rcases Bool.eq_false_or_eq_true (oO (t.ay.getD j ah) (t.ay.length : Int)) with hn | hn
      · obtain ⟨K, hK⟩ := h2
        rw [hn]
        refine ⟨max K (j+1),fun k m hk hm=>?_⟩
        have h3:=JM hl hlt j 0 k (by omega) (by omega)
        rw [List.drop_zero] at h3
        simp only [Bool.not_true,Bool.false_eq_true,if_false,Bool.true_and]
        rw [show aO.l1 t (j:Int) k 0=_ from h3,Qs]
        cases ha:mW (t.ay.getD j ah)&&(t.ay.take j).any fun f=>strEq f.aQ (t.ay.getD j ah).aQ with
        |true=>simp
        |false=>simpa using hK k m (by omega) (by omega)
      · exact ⟨0,fun k m _ _=>by rw [hn];rfl⟩
    · rw [aO.l0, if_pos (by simp; omega), if_pos (by omega), fU, fO hlt hl]
      try rfl
def Uz (t:aU) (known:List Int) (q:Nat):Prop:=known.getD q 0≠0∧known.getD q 0≤512∧uK t.ay t.ay.length (t.ay.getD q ah)=false∧((t.ay.getD q ah).aC=4→tX (t.ay.getD q ah) known=true)
theorem JQ {t : aU} {known : List Int} (hF : ∀ d ∈ t.ay, DV d) (hS : ∀ d ∈ t.ay, ShD d t.ay.length) (hn : t.ay.length ≤ 200) (hk : known.length = t.ay.length) : ∀ (e j : Nat), j + e = t.ay.length →
    ∃v,Ev2 (fun k m=>aO.l2 k t known m (j:Int)) v∧((v= .inr ()∧∀q,j≤q→q<t.ay.length→Uz t known q)∨(v= .inl 80∧¬∀q,j≤q→q<t.ay.length→Uz t known q)):=by
  intro e
  induction e with
  | zero =>
    intro j hj
    refine ⟨.inr (),Ev2.pure fun k m=>?_, .inl ⟨rfl,fun q _ _=>by omega⟩⟩
    rw [aO.l2,if_neg (by simp;omega)]
  | succ e ih =>
    intro j hj
    have hlt:j<t.ay.length:=by omega
    have hmem:=getD_mem (z:=ah) hlt
    have he:=Qr hS hn hlt
    obtain ⟨v,hv,hp⟩:=ih (j+1) (by omega)
    by_cases hc:Uz t known j
    · obtain ⟨c1, c2, c3, c4⟩ := hc
      refine ⟨v,?_,?_⟩
      · obtain ⟨K1, hK1⟩ := he
        obtain ⟨K2,hK2⟩:=hv
        by_cases h4:(t.ay.getD j ah).aC=4
        · obtain ⟨K3, hK3⟩ := BM (d := t.ay.getD j ah) (l := known) (hF _ hmem).len (fun f hf => by have := (hS _ hmem).typ h4 f hf; rw [hk]; exact this)
          refine ⟨max (max K1 K2) K3+1,fun k m hk1 hm1=>?_⟩
          obtain ⟨m,rfl⟩:∃q,m=q+1:=⟨m-1,by omega⟩
          show aO.l2 k t known (m+1) (j:Int)=_
          rw [aO.l2,if_pos (by simp;omega),if_pos (by omega),if_pos (fun _=>by omega),fU,fU,show dh.f k t (j:Int)=_ from hK1 k (by omega),c3]
          rw [show (known.getD j 0==0)=false from by simpa using c1,show decide (known.getD j 0>512)=false from decide_eq_false (by omega)]
          simp only [Bool.or_self,beq_self_eq_true,Bool.and_self,if_true,Bool.not_false,Option.bind_some,Bool.not_true,Bool.false_eq_true,if_false]
          rw [if_pos (by omega),if_pos (fun _=>by omega),show ((t.ay.getD j ah).aC==4)=true from by simpa using h4]
          simp only [Bool.true_and,beq_self_eq_true,if_true]
          rw [show bZ.f k _ known=_ from hK3 k (by omega),c4 h4]
          simp only [Option.bind_some,Bool.not_true,Bool.false_eq_true,if_false]
          rw [fO hlt (by omega)]
          exact hK2 k m (by omega) (by omega)
        · refine ⟨max K1 K2 + 1, fun k m hk1 hm1 => ?_⟩
          obtain ⟨m,rfl⟩:∃q,m=q+1:=⟨m-1,by omega⟩
          show aO.l2 k t known (m+1) (j:Int)=_
          rw [aO.l2,if_pos (by simp;omega),if_pos (by omega),if_pos (fun _=>by omega),fU,fU,show dh.f k t (j:Int)=_ from hK1 k (by omega),c3]
          rw [show (known.getD j 0==0)=false from by simpa using c1,show decide (known.getD j 0>512)=false from decide_eq_false (by omega)]
          simp only [Bool.or_self,beq_self_eq_true,Bool.and_self,if_true,Bool.not_false,Option.bind_some,Bool.not_true,Bool.false_eq_true,if_false]
          rw [if_pos (by omega),if_pos (fun _=>by omega),show ((t.ay.getD j ah).aC==4)=false from by simpa using h4]
          simp only [Bool.true_and,Bool.false_and,Bool.false_eq_true,if_false,Option.bind_some,show (false==true)=false from rfl]
          rw [fO hlt (by omega)]
          exact hK2 k m (by omega) (by omega)
      · rcases hp with ⟨a, b⟩ | ⟨a, b⟩
        · refine .inl ⟨a, fun q hq hq2 => ?_⟩
          by_cases hqj:q=j
          · subst hqj;exact ⟨c1,c2,c3,c4⟩
          · exact b q (by omega) hq2
        · exact .inr ⟨a,fun h=>b (fun q hq hq2=>h q (by omega) hq2)⟩
    · refine ⟨.inl 80, ?_, .inr ⟨rfl, fun h => hc (h j (by omega) hlt)⟩⟩
      obtain ⟨K1,hK1⟩:=he
      by_cases c1:known.getD j 0=0
      · refine ⟨K1 + 1, fun k m hk1 hm1 => ?_⟩
        obtain ⟨m,rfl⟩:∃q,m=q+1:=⟨m-1,by omega⟩
        show aO.l2 k t known (m+1) (j:Int)=_
        rw [aO.l2,if_pos (by simp;omega),if_pos (by omega),if_pos (fun _=>by omega),fU,c1]
        rfl
      · by_cases c2 : known.getD j 0 ≤ 512
        · cases c3 : uK t.ay t.ay.length (t.ay.getD j ah) with
          | true =>
            refine ⟨K1+1,fun k m hk1 hm1=>?_⟩
            obtain ⟨m,rfl⟩:∃q,m=q+1:=⟨m-1,by omega⟩
            show aO.l2 k t known (m+1) (j:Int)=_
            rw [aO.l2,if_pos (by simp;omega),if_pos (by omega),if_pos (fun _=>by omega),fU,show dh.f k t (j:Int)=_ from hK1 k (by omega),c3]
            rw [show (known.getD j 0==0)=false from by simpa using c1,show decide (known.getD j 0>512)=false from decide_eq_false (by omega)]
            rfl
          | false =>
            have h4:(t.ay.getD j ah).aC=4:=Classical.byContradiction fun h=>hc ⟨c1,c2,c3,fun h2=>absurd h2 h⟩
            have hpf:tX (t.ay.getD j ah) known=false:=by
              cases hpp:tX (t.ay.getD j ah) known with
              |false=>rfl
              |true=>exact absurd ⟨c1,c2,c3,fun _=>hpp⟩ hc
            obtain ⟨K3,hK3⟩:=BM (d:=t.ay.getD j ah) (l:=known) (hF _ hmem).len (fun f hf=>by have:=(hS _ hmem).typ h4 f hf;rw [hk];exact this)
            refine ⟨max K1 K3+1,fun k m hk1 hm1=>?_⟩
            obtain ⟨m,rfl⟩:∃q,m=q+1:=⟨m-1,by omega⟩
            show aO.l2 k t known (m+1) (j:Int)=_
            rw [aO.l2,if_pos (by simp;omega),if_pos (by omega),if_pos (fun _=>by omega),fU,fU,show dh.f k t (j:Int)=_ from hK1 k (by omega),c3]
            rw [show (known.getD j 0==0)=false from by simpa using c1,show decide (known.getD j 0>512)=false from decide_eq_false (by omega)]
            simp only [Bool.or_self,beq_self_eq_true,Bool.and_self,if_true,Bool.not_false,Option.bind_some,Bool.not_true,Bool.false_eq_true,if_false]
            rw [if_pos (by omega),if_pos (fun _=>by omega),show ((t.ay.getD j ah).aC==4)=true from by simpa using h4]
            simp only [Bool.true_and,beq_self_eq_true,if_true]
            rw [show bZ.f k _ known=_ from hK3 k (by omega),hpf]
            rfl
        · refine ⟨K1 + 1, fun k m hk1 hm1 => ?_⟩
          obtain ⟨m,rfl⟩:∃q,m=q+1:=⟨m-1,by omega⟩
          show aO.l2 k t known (m+1) (j:Int)=_
          rw [aO.l2,if_pos (by simp;omega),if_pos (by omega),if_pos (fun _=>by omega),fU]
          rw [show (known.getD j 0==0)=false from by simpa using c1,show decide (known.getD j 0>512)=true from decide_eq_true (by omega)]
          rfl
theorem tY {t : aU} (hF : ∀ d ∈ t.ay, DV d) : (∃ l, Wf t l ∧ Ev (fun k => aT.f k t) l ∧ Ev (fun k => aO.f k t) 0) ∨ ((∀ l, ¬ Wf t l) ∧ Ev (fun k => aO.f k t) 80) := by
  by_cases hn:(t.ay.length:Int)>200
  · refine .inr ⟨fun l W => by have := W.few; omega, Ev.pure fun k => ?_⟩
    unfold aO.f
    rw [if_pos (by simpa using hn)]
  · have hn : t.ay.length ≤ 200 := by omega
    have hcond:¬decide ((t.ay.length:Int)>200)=true:=by simp;omega
    obtain ⟨K,hK⟩:=(JO hF (by omega) t.ay.length 0 (by omega)).diag
    simp only [List.take_zero,List.map_nil,List.reverse_nil,List.drop_zero] at hK
    cases hd:zI t.ay.length [] t.ay with
    | false =>
      rw [hd] at hK
      refine .inr ⟨fun l W=>(by have:=W.defs;rw [hd] at this;cases this),⟨K,fun k hk=>?_⟩⟩
      show aO.f k t=_
      unfold aO.f
      rw [if_neg hcond,show aO.l0 k t k 0=_ from hK k hk]
      rfl
    | true =>
      rw [hd] at hK
      have hS:=Dz _ _ hd
      obtain ⟨known,hsz,I,F⟩:=Ot hS hn
      obtain ⟨v,hv,hp⟩:=JQ hF hS hn I.len t.ay.length 0 (by omega)
      obtain ⟨K2,hK2⟩:=hv.diag
      obtain ⟨K3,hK3⟩:=hsz
      rcases hp with ⟨rfl,hp⟩|⟨rfl,hp⟩
      · have hg := GN I (fun j hj => ⟨(hp j (by omega) hj).1, (hp j (by omega) hj).2.1⟩)
        have hidx:∀d∈t.ay,∃q,q<t.ay.length∧t.ay.getD q ah=d:=fun d hd=>by
          obtain ⟨q,hq,e⟩:=List.mem_iff_getElem.1 hd
          exact ⟨q,hq,by rw [List.getD_eq_getElem?_getD,List.getElem?_eq_getElem hq];exact e⟩
        refine .inl ⟨known,⟨hn,hd,hg,fun d hd=>?_,fun d hd h4=>?_⟩,⟨K3,hK3⟩,⟨max (max K K2) K3,fun k hk=>?_⟩⟩
        · obtain ⟨q, hq, rfl⟩ := hidx d hd
          exact (hp q (by omega) hq).2.2.1
        · rw [← xX hg hS hd h4]
          obtain ⟨q,hq,rfl⟩:=hidx d hd
          exact (hp q (by omega) hq).2.2.2 h4
        · show aO.f k t = _
          unfold aO.f
          rw [if_neg hcond,show aO.l0 k t k 0=_ from hK k (by omega)]
          simp only [if_true,Option.bind_some]
          rw [show aT.f k t=_ from hK3 k (by omega)]
          simp only [Option.bind_some]
          rw [show aO.l2 k t known k 0=_ from hK2 k (by omega)]
          rfl
      · refine .inr ⟨fun l W => ?_, ⟨max (max K K2) K3, fun k hk => ?_⟩⟩
        · have hkl := GL hS I F W.sz
          subst hkl
          refine hp fun q _ hq=>?_
          obtain ⟨rk,h⟩:=W.sz.ex
          have hm:=getD_mem (z:=ah) hq
          refine ⟨by have:=(h q hq).1;omega,(h q hq).2.1,W.ends _ hm,fun h4=>?_⟩
          rw [xX W.sz hS hm h4]
          exact W.placed _ hm h4
        · show aO.f k t = _
          unfold aO.f
          rw [if_neg hcond,show aO.l0 k t k 0=_ from hK k (by omega)]
          simp only [if_true,Option.bind_some]
          rw [show aT.f k t=_ from hK3 k (by omega)]
          simp only [Option.bind_some]
          rw [show aO.l2 k t known k 0=_ from hK2 k (by omega)]
          rfl
end Go.Proofs.YtecpbadkdpbkpaaGreatDoor
namespace Go.Proofs.YtecpbadkdpbkpaaGreatDoor
open Go.RowKit Go.M
section
variable {t:aU} {l:List Int}
theorem GV (hc:Ev (fun k=>aO.f k t) 0) (i:Int):Ev (fun k=>bQ.f k t i) (if 0≤i∧i<t.ay.length then 0 else 3):=by
  obtain ⟨K,hK⟩:=hc
  refine ⟨K,fun k hk=>?_⟩
  show bQ.f k t i=_
  unfold bQ.f eu.f
  rw [show aO.f k t=_ from hK k hk]
  by_cases h0:0≤i
  · by_cases h1 : i < (t.ay.length : Int)
    · rw [if_pos ⟨h0,h1⟩];simp [h0,h1]
    · rw [if_neg (fun h=>h1 h.2)];simp [h0,h1]
  · rw [if_neg (fun h=>h0 h.1)];simp [h0]
theorem JR (hc:Ev (fun k=>aO.f k t) 80) (i:Int):Ev (fun k=>bQ.f k t i) 80:=by
  obtain ⟨K,hK⟩:=hc
  refine ⟨K,fun k hk=>?_⟩
  show bQ.f k t i=_
  unfold bQ.f
  rw [show aO.f k t=_ from hK k hk]
  rfl
theorem tZ (hF : ∀ d ∈ t.ay, DV d) (i : Int) : (∃ e, e ≠ 0 ∧ Ev (fun k => fQ.f k t i) e ∧ Ev (fun k => bQ.f k t i) e) ∨
    (∃(n:Nat) (l:List Int),i=(n:Int)∧n<t.ay.length∧Wf t l∧Ev (fun k=>cO.f k t) true∧Ev (fun k=>aT.f k t) l∧Ev (fun k=>fQ.f k t i) 0∧Ev (fun k=>bQ.f k t i) 0):=by
  rcases tq hF with ⟨l,W,hv⟩|⟨hno,hv⟩
  · rcases tY hF with ⟨l2, W2, hs, hc⟩ | ⟨hno, hc⟩
    · have h1 := BI hv i
      have h2:=GV hc i
      by_cases h:0≤i∧i<t.ay.length
      · rw [if_pos h] at h1 h2
        exact .inr ⟨i.toNat,l2,by omega,by omega,W2,hv,hs,h1,h2⟩
      · rw [if_neg h] at h1 h2
        exact .inl ⟨3,by decide,h1,h2⟩
    · exact absurd W (hno l)
  · rcases tY hF with ⟨l2, W2, hs, hc⟩ | ⟨hno, hc⟩
    · exact absurd W2 (hno l2)
    · exact .inl ⟨80,by decide,E5 hv i,JR hc i⟩
theorem Fb (hF:∀d∈t.ay,DV d) (i:Int):∃a e,Ev (fun k=>jX.f k t i) (a,e)∧Ev (fun k=>eX.f k t i) ⟨a,e⟩:=by
  rcases tZ hF i with ⟨e,he,h1,h2⟩|⟨n,l,rfl,hn,W,hv,hs,h1,h2⟩
  · refine ⟨0, e, DC h1 he, ?_⟩
    obtain ⟨K,hK⟩:=h2
    refine ⟨K,fun k hk=>?_⟩
    show eX.f k t i=_
    unfold eX.f
    rw [show bQ.f k t i=_ from hK k hk]
    simp [he]
  · refine ⟨l.getD n 0, 0, N8 W.good hv hn, ?_⟩
    obtain ⟨K,hK⟩:=h2
    obtain ⟨K2,hK2⟩:=hs
    refine ⟨max K K2,fun k hk=>?_⟩
    show eX.f k t (n:Int)=_
    unfold eX.f
    rw [show bQ.f k t (n:Int)=_ from hK k (by omega)]
    simp only [Option.bind_some]
    rw [if_neg (by decide),show aT.f k t=_ from hK2 k (by omega)]
    simp only [Option.bind_some]
    rw [if_pos (by rw [W.sz.len];omega),fU]
end
end Go.Proofs.YtecpbadkdpbkpaaGreatDoor
namespace Go.Proofs.YtecpbadkdpbkpaaGreatDoor
open Go.RowKit Go.M
section
variable {t:aU} {l:List Int}
theorem rE (t:aU):∀(m:Nat) (i:Int),cZ.l0 t m i=dO.l0 t m i
  |0,i=>rfl
  |m+1,i=>by rw [cZ.l0,dO.l0,rE t m]
def partOf (x:dw×Int):fH:=⟨x.1,x.2⟩
theorem xY {name : ByteArray} {v : Int} : ∀ (m : Nat) (y : Int), dH.l0 t name v m y = (fD.l0 t name v m y).map (fun x => match x with | .inl r => .inl (partOf r) | .inr s => .inr s)
  |0,y=>rfl
  | m + 1, y => by
    rw [dH.l0,fD.l0]
    by_cases h1:decide (y<(((rd ah t.ay v).au).length:Int))=true
    · rw [if_pos h1, if_pos h1]
      by_cases h2:0≤y∧y<((rd ah t.ay v).au).length
      · by_cases h3 : strEq (rd aj (rd ah t.ay v).au y).aQ name = true
        · simp only [if_pos h2,if_pos h3];rfl
        · simp only [if_pos h2,if_neg h3];exact xY m _
      · rw [if_neg h2,if_neg h2];rfl
    · rw [if_neg h1,if_neg h1];rfl
theorem JU {n : Nat} {name : ByteArray} {x : dw × Int} (hg : Ev (fun k => bQ.f k t (n : Int)) 0) (hx : Ev (fun k => fD.f k t (n : Int) name) x) : Ev (fun k => dH.f k t (n : Int) name) (partOf x) := by
  obtain ⟨K,hK⟩:=hg
  obtain ⟨K2,hK2⟩:=hx
  refine ⟨max K K2,fun k hk=>?_⟩
  show dH.f k t (n:Int) name=_
  unfold dH.f
  rw [show bQ.f k t (n:Int)=_ from hK k (by omega)]
  simp only [Option.bind_some]
  have h2:fD.f k t (n:Int) name=_:=hK2 k (by omega)
  unfold fD.f dO.f at h2
  rw [if_neg (by decide)]
  unfold cZ.f
  rw [rE]
  cases hr:dO.l0 t k (n:Int) with
  |none=>rw [hr] at h2;cases h2
  | some v =>
    rw [hr] at h2
    simp only [Option.bind_some] at h2⊢
    by_cases h3:0≤v∧v<t.ay.length
    · rw [if_pos h3] at h2 ⊢
      by_cases h4:((rd ah t.ay v).aC !=4)=true
      · rw [if_pos h4] at h2 ⊢
        rw [←Option.some.inj h2];rfl
      · rw [if_neg h4] at h2 ⊢
        rw [xY]
        cases hm:fD.l0 t name v k 0 with
        |none=>rw [hm] at h2;cases h2
        | some y =>
          rw [hm] at h2
          cases y with
          | inl r =>
            simp only [Option.bind_some,Option.map_some] at h2⊢
            rw [←Option.some.inj h2]
          | inr s =>
            simp only [Option.bind_some,Option.map_some] at h2⊢
            rw [←Option.some.inj h2];rfl
    · rw [if_neg h3] at h2;cases h2
def oU (x:Int×Int×Int):eF:=⟨x.1,x.2.1,x.2.2⟩
theorem JV {mem:Nat→ByteArray→dw×Int} (hm:JG t mem) (hg:∀n:Nat,n<t.ay.length→Ev (fun k=>bQ.f k t (n:Int)) 0) {p:List ByteArray} (hp:p.length≤9223372036854775807):∀(e j i:Nat) (a:Int),j+e=p.length→i<t.ay.length→
    Ev2 (fun k m=>bP.l0 k t p m (i:Int) a (j:Int)) (if (jI mem (p.drop j) i a).2.2≠0 then .inl (oU (jI mem (p.drop j) i a)) else .inr ((jI mem (p.drop j) i a).1,(jI mem (p.drop j) i a).2.1)):=by
  intro e
  induction e with
  | zero =>
    intro j i a hj hi
    rw [List.drop_eq_nil_of_le (by omega)]
    refine Ev2.pure fun k m=>?_
    rw [bP.l0,if_neg (by simp;omega)]
    simp [jI]
  | succ e ih =>
    intro j i a hj hi
    have hlt:j<p.length:=by omega
    rw [jg ByteArray.empty hlt]
    have hev:=JU (hg i hi) (hm.ev i (p.getD j ByteArray.empty) hi)
    have hty:=hm.typ i (p.getD j ByteArray.empty) hi
    have hstep:∀k m,bP.l0 k t p (m+1) (i:Int) a (j:Int)=(dH.f k t (i:Int) (p.getD j ByteArray.empty)).bind fun v2=>if (v2.vE !=0)=true then some (.inl (⟨0,0,v2.vE⟩:eF)) else bP.l0 k t p m v2.vF.vType (IntKind.wrap .i64 (a+v2.vF.vAt)) (((j+1:Nat)):Int):=by
      intro k m
      rw [bP.l0,if_pos (by simp;omega),if_pos (by omega),fU,fO hlt hp]
    have hpv:jI mem (p.getD j ByteArray.empty::p.drop (j+1)) i a=if (mem i (p.getD j ByteArray.empty)).2≠0 then (0,0,(mem i (p.getD j ByteArray.empty)).2) else jI mem (p.drop (j+1)) (mem i (p.getD j ByteArray.empty)).1.vType.toNat (IntKind.wrap .i64 (a+(mem i (p.getD j ByteArray.empty)).1.vAt)):=rfl
    by_cases h0:(mem i (p.getD j ByteArray.empty)).2=0
    · obtain ⟨h1, h2⟩ := hty h0
      have h3:=ih (j+1) (mem i (p.getD j ByteArray.empty)).1.vType.toNat (IntKind.wrap .i64 (a+(mem i (p.getD j ByteArray.empty)).1.vAt)) (by omega) (by omega)
      rw [if_neg (fun h=>h h0)] at hpv
      rw [hpv]
      refine Ev2.step hev ?_ hstep
      obtain ⟨K,hK⟩:=h3
      refine ⟨K,fun k m hk hm=>?_⟩
      show (if _ then _ else _)=_
      rw [if_neg (YF (show (partOf (mem i (p.getD j ByteArray.empty))).vE=0 from h0))]
      have:=hK k m hk hm
      rwa [show (((mem i (p.getD j ByteArray.empty)).1.vType.toNat:Nat):Int)=(mem i (p.getD j ByteArray.empty)).1.vType by omega] at this
    · rw [if_pos h0] at hpv
      rw [hpv]
      refine Ev2.step hev ⟨0,fun k m _ _=>?_⟩ hstep
      show (if _ then _ else _)=_
      rw [if_pos (YE (show (partOf (mem i (p.getD j ByteArray.empty))).vE≠0 from h0)),if_pos h0]
      rfl
theorem Ou (hF : ∀ d ∈ t.ay, DV d) (i : Int) (p : List ByteArray) : ∃ x : Int × Int × Int, Ev (fun k => gq.f k t i p) x ∧ Ev (fun k => bP.f k t i p) (oU x) := by
  rcases tZ hF i with ⟨e,he,⟨K,hK⟩,⟨K2,hK2⟩⟩|⟨n,l,rfl,hn,W,hv,hs,h1,⟨K2,hK2⟩⟩
  · refine ⟨(0, 0, e), ⟨K, fun k hk => ?_⟩, ⟨K2, fun k hk => ?_⟩⟩
    · show gq.f k t i p = _
      unfold gq.f
      rw [show fQ.f k t i=_ from hK k hk]
      simp [he]
    · show bP.f k t i p = _
      unfold bP.f
      rw [show bQ.f k t i=_ from hK2 k hk]
      simp [he,oU]
  · by_cases hp : p.length ≤ 16
    · obtain ⟨mem, hm⟩ := RJ W.good
      obtain ⟨h3,_⟩:=Oa hm hv hn hp
      refine ⟨_,h3,?_⟩
      have hg:∀n:Nat,n<t.ay.length→Ev (fun k=>bQ.f k t (n:Int)) 0:=fun q hq=>by
        rcases tZ hF (q:Int) with ⟨e,he,h5,h6⟩|⟨_,_,_,_,_,_,_,_,h6⟩
        · exact absurd (h5.uniq (wB hv hq)) he
        · exact h6
      obtain ⟨K3,hK3⟩:=(JV hm hg (p:=p) (by omega) p.length 0 n 0 (by omega) hn).diag
      rw [List.drop_zero] at hK3
      refine ⟨max K2 K3,fun k hk=>?_⟩
      show bP.f k t (n:Int) p=_
      unfold bP.f
      rw [show bQ.f k t (n:Int)=_ from hK2 k (by omega)]
      simp only [Option.bind_some]
      rw [show decide ((p.length:Int)>16)=false from decide_eq_false (by omega)]
      simp only [Bool.and_false,Bool.false_eq_true,if_false,Option.bind_some]
      rw [if_neg (by decide),show bP.l0 k t p k (n:Int) 0 0=_ from hK3 k (by omega)]
      simp only [Option.bind_some]
      generalize jI mem p n 0=v
      by_cases h0:v.2.2=0
      · rw [if_neg (by simp [h0])]
        obtain ⟨a,b,c⟩:=v
        simp only at h0
        subst h0
        rfl
      · rw [if_pos h0]
    · obtain ⟨K, hK⟩ := h1
      refine ⟨(0,0,2),⟨K,fun k hk=>?_⟩,⟨K2,fun k hk=>?_⟩⟩
      · show gq.f k t (n : Int) p = _
        unfold gq.f
        rw [show fQ.f k t (n:Int)=_ from hK k hk]
        simp only [Option.bind_some]
        rw [if_neg (by decide),if_pos (decide_eq_true (by omega))]
      · show bP.f k t (n : Int) p = _
        unfold bP.f
        rw [show bQ.f k t (n:Int)=_ from hK2 k hk]
        simp only [Option.bind_some]
        rw [show decide ((p.length:Int)>16)=true from decide_eq_true (by omega)]
        rfl
theorem UR (hF : ∀ d ∈ t.ay, DV d) : ∃ e, Ev (fun k => iV.f k t) e ∧ Ev (fun k => aO.f k t) e := by
  rcases tq hF with ⟨l,W,⟨K,hK⟩⟩|⟨hno,⟨K,hK⟩⟩
  · rcases tY hF with ⟨l2, W2, _, h2⟩ | ⟨hno, _⟩
    · exact ⟨0, ⟨K, fun k hk => by
        show iV.f k t=_
        unfold iV.f
        rw [show cO.f k t=_ from hK k hk]
        rfl⟩, h2⟩
    · exact absurd W (hno l)
  · rcases tY hF with ⟨l2, W2, _, h2⟩ | ⟨_, h2⟩
    · exact absurd W2 (hno l2)
    · exact ⟨80, ⟨K, fun k hk => by
        show iV.f k t=_
        unfold iV.f
        rw [show cO.f k t=_ from hK k hk]
        rfl⟩, h2⟩
end
theorem UU (s:ByteArray):strEq s s=true:=kC.2 rfl
end Go.Proofs.YtecpbadkdpbkpaaGreatDoor
namespace Go.Proofs.YtecpbadkdpbkpaaGreatDoor
open Go.RowKit Go.M
def In64 (y:Int):Prop:= -9223372036854775808≤y∧y≤9223372036854775807
def JW (y:Int) (i:Nat):Int:=(y/256^i)%256
def kE (n:Nat) (y:Int):List Int:=(List.range n).map (JW y)
theorem og (n:Nat) (y:Int):(kE n y).length=n:=by simp [kE]
theorem JX (y:Int):JW y 0=y%256:=by simp [JW]
theorem JY (y:Int) (i:Nat):JW y (i+1)=JW (y/256) i:=by
  unfold JW
  rw [Int.pow_succ,Int.mul_comm,←Int.ediv_ediv_of_nonneg (by omega)]
theorem kV (n:Nat) (y:Int):kE (n+1) y=(y%256)::kE n (y/256):=by
  unfold kE
  rw [List.range_succ_eq_map,List.map_cons,List.map_map,JX]
  congr 1
  apply List.map_congr_left
  intro i _
  exact JY y i
theorem UA (y:Int):IntKind.wrap .u8 y=y%256:=by simp [IntKind.wrap,IntKind.bits,IntKind.signed]
theorem aaz (y:Int):QA .i64 y 8=y/256:=by
  unfold QA
  rw [Int.fdiv_eq_ediv_of_nonneg _ (by decide)]
  rfl
theorem aaA {y:Int} (h:In64 y):DF .i64 y 255=y%256:=by
  unfold In64 at h
  unfold DF
  have h1:((BitVec.ofInt 64 y&&&BitVec.ofInt 64 255).toNat:Int)=y%256:=by
    rw [BitVec.toNat_and]
    have e1:(BitVec.ofInt 64 (255:Int)).toNat=2^8-1:=by decide
    rw [e1,Nat.and_two_pow_sub_one_eq_mod,BitVec.toNat_ofInt]
    have:(2:Nat)^64=18446744073709551616:=by decide
    omega
  show IntKind.wrap .i64 ((BitVec.ofInt 64 y&&&BitVec.ofInt 64 255).toNat:Int)=_
  rw [h1,lF (by omega) (by omega)]
theorem Xc {y:Int} (h:In64 y):QB .i64 (IntKind.wrap .i64 (y-y%256)) 256=y/256:=by
  unfold In64 at h
  have e:y-y%256=256*(y/256):=by omega
  unfold QB
  rw [e,lF (x:=256*(y/256)) (by omega) (by omega),Int.mul_tdiv_cancel_left _ (by omega),lF (by omega) (by omega)]
theorem Xd {y:Int} (h:In64 y):In64 (y/256):=by unfold In64 at*;omega
theorem GX {a0:dL} {n:Nat} (hn:a0.aP=(n:Int)) (h8:n≤8):∀(d j m:Nat) (y:Int) (acc:List Int),j+d=n→d<m→acc.length=j→In64 y→
    iL.l0 a0 m y (j:Int) acc=some (acc++kE d y):=by
  intro d
  induction d with
  | zero =>
    intro j m y acc hj hm hl hy
    obtain ⟨m,rfl⟩:∃q,m=q+1:=⟨m-1,by omega⟩
    rw [iL.l0,if_neg (by simp;omega)]
    simp [kE]
  | succ d ih =>
    intro j m y acc hj hm hl hy
    obtain ⟨m,rfl⟩:∃q,m=q+1:=⟨m-1,by omega⟩
    rw [iL.l0,if_pos (by simp;omega),if_pos (by omega),aaz,fO (n:=n) (by omega) (by omega),ih (j+1) m (y/256) _ (by omega) (by omega) (by simp [hl]) (Xd hy),UA,kV]
    simp
theorem GY {a0:dL} {n:Nat} (hn:a0.aP=(n:Int)) (h8:n≤8):∀(d j m:Nat) (y:Int) (acc:List Int),j+d=n→d<m→acc.length=j→In64 y→
    dQ.l0 a0 m y (j:Int) acc=some (acc++kE d y):=by
  intro d
  induction d with
  | zero =>
    intro j m y acc hj hm hl hy
    obtain ⟨m,rfl⟩:∃q,m=q+1:=⟨m-1,by omega⟩
    rw [dQ.l0,if_neg (by simp;omega)]
    simp [kE]
  | succ d ih =>
    intro j m y acc hj hm hl hy
    obtain ⟨m,rfl⟩:∃q,m=q+1:=⟨m-1,by omega⟩
    rw [dQ.l0,if_pos (by simp;omega),if_pos (by omega),aaA hy,Xc hy,fO (n:=n) (by omega) (by omega),ih (j+1) m (y/256) _ (by omega) (by omega) (by simp [hl]) (Xd hy),UA,kV]
    simp
theorem XC {t:dL} (h:okI t=true):∃n:Nat,t.aP=(n:Int)∧(n=1∨n=2∨n=4∨n=8):=by
  unfold okI at h
  simp only [Bool.or_eq_true,beq_iff_eq] at h
  exact ⟨t.aP.toNat,by omega,by omega⟩
theorem YI (x:Int):IntKind.wrap .i64 x=if 9223372036854775808≤x%18446744073709551616 then x%18446744073709551616-18446744073709551616 else x%18446744073709551616:=by
  simp [IntKind.wrap,IntKind.bits,IntKind.signed]
theorem aaB (x:Int):IntKind.wrap .i32 x=if 2147483648≤x%4294967296 then x%4294967296-4294967296 else x%4294967296:=by
  simp [IntKind.wrap,IntKind.bits,IntKind.signed]
theorem aaC (x:Int):IntKind.wrap .i16 x=if 32768≤x%65536 then x%65536-65536 else x%65536:=by
  simp [IntKind.wrap,IntKind.bits,IntKind.signed]
theorem wi8 (x:Int):IntKind.wrap .i8 x=if 128≤x%256 then x%256-256 else x%256:=by
  simp [IntKind.wrap,IntKind.bits,IntKind.signed]
theorem wu64 (x:Int):IntKind.wrap .u64 x=x%18446744073709551616:=by simp [IntKind.wrap,IntKind.bits,IntKind.signed]
theorem aaD (x:Int):IntKind.wrap .u32 x=x%4294967296:=by simp [IntKind.wrap,IntKind.bits,IntKind.signed]
theorem aaE (x:Int):IntKind.wrap .u16 x=x%65536:=by simp [IntKind.wrap,IntKind.bits,IntKind.signed]
theorem Xe {t:dL} {v:Int} (hv:In64 v):In64 (wrp t v):=by
  unfold In64 wrp
  have h64:∀x,-9223372036854775808≤IntKind.wrap .i64 x∧IntKind.wrap .i64 x≤9223372036854775807:=by
    intro x
    simp [IntKind.wrap,IntKind.bits,IntKind.signed]
    split<;>omega
  repeat' split
  all_goals first|exact h64 _|exact hv
theorem aaF {v:Int} (hv:In64 v):IntKind.wrap .i64 (IntKind.wrap .u64 v)=v:=by
  unfold In64 at hv
  rw [YI,wu64]
  split<;>omega
theorem Ov {t:dL} {v:Int} {n:Nat} (hv:In64 v) (hn:t.aP=(n:Int)) (h:n=1∨n=2∨n=4∨n=8):kE n (wrp t v)=kE n v:=by
  have hv':=hv
  unfold In64 at hv'
  unfold wrp
  rcases h with rfl|rfl|rfl|rfl
  · rw [if_pos (by rw [hn]; rfl)]
    split
    · rw [wi8, YI]
      simp only [kV,show∀y,kE 0 y=[] from fun _=>rfl,List.cons.injEq,and_true]
      repeat' split
      all_goals omega
    · rw [UA, YI]
      simp only [kV,show∀y,kE 0 y=[] from fun _=>rfl,List.cons.injEq,and_true]
      repeat' split
      all_goals omega
  · rw [if_neg (by rw [hn]; decide), if_pos (by rw [hn]; rfl)]
    split
    · rw [aaC, lF (by split <;> omega) (by split <;> omega)]
      simp only [kV,show∀y,kE 0 y=[] from fun _=>rfl,List.cons.injEq,and_true]
      refine ⟨?_,?_⟩<;>split<;>omega
    · rw [aaE, lF (by omega) (by omega)]
      simp only [kV,show∀y,kE 0 y=[] from fun _=>rfl,List.cons.injEq,and_true]
      refine ⟨?_,?_⟩<;>omega
  · rw [if_neg (by rw [hn]; decide), if_neg (by rw [hn]; decide), if_pos (by rw [hn]; rfl)]
    split
    · rw [aaB, lF (by split <;> omega) (by split <;> omega)]
      simp only [kV,show∀y,kE 0 y=[] from fun _=>rfl,List.cons.injEq,and_true]
      refine ⟨?_,?_,?_,?_⟩<;>split<;>omega
    · rw [aaD, lF (by omega) (by omega)]
      simp only [kV,show∀y,kE 0 y=[] from fun _=>rfl,List.cons.injEq,and_true]
      refine ⟨?_,?_,?_,?_⟩<;>omega
  · rw [if_neg (by rw [hn]; decide), if_neg (by rw [hn]; decide), if_neg (by rw [hn]; decide)]
    split
    · rfl
    · rw [aaF hv]
theorem Xf {t:dL} {n:Nat} {v:Int} (hn:t.aP=(n:Int)) (h:n=1∨n=2∨n=4∨n=8) (hv:In64 v) {k:Nat} (hk:9≤k):iL.f k t v=some (kE n v,0):=by
  have hok:okI t=true:=by unfold okI;simp [hn];omega
  unfold iL.f jq.f
  rw [if_pos hok]
  simp only [Option.bind_some]
  rw [if_neg (by decide),show (0:Int)=((0:Nat):Int) from rfl,GX hn (by omega) n 0 k v [] (by omega) (by omega) rfl hv]
  rfl
theorem Xg {t:dL} {n:Nat} {v:Int} (hn:t.aP=(n:Int)) (h:n=1∨n=2∨n=4∨n=8) (hv:In64 v) {k:Nat} (hk:9≤k):dQ.f k t v=some (kE n v,0):=by
  unfold dQ.f iZ.f
  rw [if_neg (by simp [hn];omega)]
  simp only [Option.bind_some]
  rw [if_neg (by decide),show (0:Int)=((0:Nat):Int) from rfl,GY hn (by omega) n 0 k v [] (by omega) (by omega) rfl hv]
  rfl
theorem YJ {t:dL} {n:Nat} {v:Int} (hn:t.aP=(n:Int)) (h:n=1∨n=2∨n=4∨n=8):oL.f t v=some (wrp t v,0):=by
  have hok:okI t=true:=by unfold okI;simp [hn];omega
  unfold oL.f jq.f qy.f
  rw [if_pos hok,if_pos hok]
  rfl
theorem GZ {xs b:List Int} {o j:Nat} (hj:j<xs.length) (h:o+xs.length≤b.length):(splice b o (xs.take j)).set (o+j) (xs.getD j 0)=splice b o (xs.take (j+1)):=by
  apply List.ext_getElem?
  intro i
  have l1:(xs.take j).length=j:=by rw [List.length_take];omega
  have l2:(xs.take (j+1)).length=j+1:=by rw [List.length_take];omega
  have l3:(splice b o (xs.take j)).length=b.length:=qN (by omega)
  rw [List.getElem?_set,wJ (by omega),wJ (by omega),l1,l2]
  by_cases he:o+j=i
  · subst he
    rw [if_pos rfl,if_pos (by omega),if_pos (by omega),Nat.add_sub_cancel_left,List.getElem?_take,if_pos (by omega),List.getD_eq_getElem?_getD,List.getElem?_eq_getElem hj]
    rfl
  · rw [if_neg he]
    by_cases h1:o≤i∧i<o+j
    · rw [if_pos h1,if_pos (by omega),List.getElem?_take,List.getElem?_take,if_pos (by omega),if_pos (by omega)]
    · rw [if_neg h1,if_neg (by omega)]
theorem Ox {xs b:List Int} {o:Nat} {e:Int} (h:o+xs.length≤b.length) (hb:b.length≤9223372036854775807):∀(d j m:Nat),j+d=xs.length→d<m→
    dX.l0 (o:Int) b (xs,e) m (j:Int) (splice b o (xs.take j))=some (splice b o xs):=by
  intro d
  induction d with
  | zero =>
    intro j m hj hm
    obtain ⟨m,rfl⟩:∃q,m=q+1:=⟨m-1,by omega⟩
    rw [dX.l0,if_neg (by simp;omega),List.take_of_length_le (by omega)]
  | succ d ih =>
    intro j m hj hm
    obtain ⟨m,rfl⟩:∃q,m=q+1:=⟨m-1,by omega⟩
    have hjl:j<xs.length:=by omega
    have hw:IntKind.wrap .i64 ((o:Int)+(j:Int))=((o+j:Nat):Int):=by rw [lF (by omega) (by omega)];omega
    rw [dX.l0, if_pos (by simp; omega), if_pos (by simp; omega), hw, if_pos (by omega), fO (n := xs.length) (by omega) (by omega), fU,
      show ((o + j : Nat) : Int).toNat = o + j from rfl]
    rw [GZ hjl h]
    exact ih (j+1) m (by omega) (by omega)
theorem IJ {t:dL} {n o:Nat} {v:Int} {b:List Int} (hn:t.aP=(n:Int)) (h:n=1∨n=2∨n=4∨n=8) (hv:In64 v) (ho:o+n≤b.length) (hb:b.length≤9223372036854775807) {k:Nat} (hk:9≤k):
    oM.f k b (o:Int) t v=some (splice b o (kE n v))∧dX.f k b (o:Int) t v=some (splice b o (kE n v)):=by
  constructor
  · unfold oM.f
    rw [YJ hn h]
    simp only [Option.bind_some]
    rw [Xf hn h (Xe hv) hk]
    simp only [Option.bind_some]
    rw [if_pos (by omega),if_pos (by rw [og];show o+n≤_;omega),Ov hv hn h]
    rfl
  · unfold dX.f
    rw [Xg hn h hv hk]
    simp only [Option.bind_some]
    have:=Ox (xs:=kE n v) (b:=b) (o:=o) (e:=0) (by rw [og];omega) hb (kE n v).length 0 k (by omega) (by rw [og];omega)
    rw [List.take_zero,show splice b o []=b by simp [splice]] at this
    show ((dX.l0 (o:Int) b (kE n v,0) k ((0:Nat):Int) b).bind fun xx1=>some xx1)=_
    rw [this]
    rfl
end Go.Proofs.YtecpbadkdpbkpaaGreatDoor
namespace Go.Proofs.YtecpbadkdpbkpaaGreatDoor
open Go.RowKit Go.M
section
variable {t:aU} {l:List Int}
theorem zK {l : List Int} (hl : ∀ j, j < l.length → 0 < l.getD j 0 ∧ l.getD j 0 ≤ 512) : ∀ (fs : List dw) (a e : Int), (∀ f ∈ fs, 0 ≤ f.vType ∧ f.vType < l.length) → 0 ≤ a → lq l a fs = some e →
    a≤e∧∀f∈fs,a≤f.vAt∧f.vAt+l.getD f.vType.toNat 0≤e
  | [], a, e, _, _, h => by
    simp only [lq,Option.some.injEq] at h
    exact ⟨by omega,by simp⟩
  | f :: fs, a, e, hf, ha, h => by
    rw [lq] at h
    split at h
    · cases h
    · next hc =>
      simp only [Bool.or_eq_true,decide_eq_true_eq,not_or] at hc
      obtain ⟨h1,h2⟩:=hf f List.mem_cons_self
      obtain ⟨h3,h4⟩:=hl f.vType.toNat (by omega)
      have hrd:rd 0 l f.vType=l.getD f.vType.toNat 0:=rfl
      rw [hrd,lF (by omega) (by omega)] at h
      obtain ⟨h5,h6⟩:=zK hl fs _ e (fun g hg=>hf g (List.mem_cons_of_mem _ hg)) (by omega) h
      refine ⟨by omega,fun g hg=>?_⟩
      rcases List.mem_cons.1 hg with rfl|hg
      · exact ⟨by omega,h5⟩
      · obtain ⟨h7, h8⟩ := h6 g hg
        exact ⟨by omega,h8⟩
theorem Oy (W:Wf t l):∀j,j<l.length→0<l.getD j 0∧l.getD j 0≤512:=fun j hj=>by
  obtain ⟨rk,h⟩:=W.sz.ex
  obtain ⟨h1,h2,_⟩:=h j (by rw [←W.sz.len];exact hj)
  exact ⟨h1,h2⟩
theorem Xh (W : Wf t l) {mem : Nat → ByteArray → dw × Int} (hm : JG t mem) {i : Nat} (hi : i < t.ay.length) {name : ByteArray} (h0 : (mem i name).2 = 0) :
    0≤(mem i name).1.vAt∧(mem i name).1.vAt+l.getD (mem i name).1.vType.toNat 0≤l.getD i 0:=by
  obtain ⟨r,hr,he,h6,hlr⟩:=uM W.good i hi
  have hu:=(hm.ev i name hi).uniq (EZ W.good hr he)
  rw [hu] at h0⊢
  unfold XB at h0⊢
  have hd:=W.sh _ (getD_mem (z:=ah) hr)
  obtain ⟨rk,hsz⟩:=W.sz.ex
  obtain ⟨_,_,_,hnv⟩:=hsz r hr
  by_cases h4:(t.ay.getD r ah).aC=4
  · rw [if_neg (fun h => h h4)] at h0 ⊢
    cases hf:(t.ay.getD r ah).au.find? fun f=>strEq f.aQ name with
    |none=>rw [hf] at h0;simp at h0
    | some f =>
      have hmem:=List.mem_of_find?_eq_some hf
      have hp:=W.placed _ (getD_mem (z:=ah) hr) h4
      unfold sZ at hp
      split at hp
      · cases hp
      · next e he2 =>
        obtain ⟨_,h8⟩:=zK (Oy W) _ _ e (fun g hg=>by rw [W.sz.len];exact hd.typ h4 g hg) (by omega) he2
        obtain ⟨h9,h10⟩:=h8 f hmem
        have:l.getD r 0=(t.ay.getD r ah).vN:=by
          rw [hnv];unfold nval
          rw [if_neg (by omega),if_neg (by omega),if_neg (by omega),if_pos h4]
        have hp:=of_decide_eq_true hp
        exact ⟨h9,by show f.vAt+l.getD f.vType.toNat 0≤l.getD i 0;omega⟩
  · rw [if_pos h4] at h0;simp at h0
theorem BN (W:Wf t l) {mem:Nat→ByteArray→dw×Int} (hm:JG t mem):∀(p:List ByteArray) (i:Nat) (a:Int),i<t.ay.length→0≤a→a≤512→a+l.getD i 0≤512→(jI mem p i a).2.2=0→
    ∃y o:Nat,jI mem p i a=((y:Int),(o:Int),0)∧y<t.ay.length∧(o:Int)+l.getD y 0≤a+l.getD i 0
  |[],i,a,hi,h0,h1,h2,_=>⟨i,a.toNat,by simp only [jI];rw [show ((a.toNat:Nat):Int)=a by omega],hi,by omega⟩
  | n :: p, i, a, hi, h0, h1, h2, he => by
    simp only [jI] at he⊢
    by_cases hz:(mem i n).2=0
    · rw [if_neg (fun h => h hz)] at he ⊢
      obtain ⟨h3,h4⟩:=Xh W hm hi (name:=n) hz
      obtain ⟨h5,h6⟩:=hm.typ i n hi hz
      have h7:=Oy W (mem i n).1.vType.toNat (by rw [W.sz.len];omega)
      rw [lF (by omega) (by omega)] at he⊢
      obtain ⟨y,o,h8,h9,h10⟩:=BN W hm p _ _ (by omega) (by omega) (by omega) (by omega) he
      exact ⟨y,o,h8,h9,by omega⟩
    · rw [if_pos hz] at he
      exact absurd he hz
theorem Qu (hF : ∀ d ∈ t.ay, DV d) (W : Wf t l) {i : Nat} (hi : i < t.ay.length) (p : List ByteArray) :
    ∃x:Int×Int×Int,Ev (fun k=>gq.f k t (i:Int) p) x∧Ev (fun k=>bP.f k t (i:Int) p) (oU x)∧(x.2.2=0→∃y o:Nat,x=((y:Int),(o:Int),0)∧y<t.ay.length∧(o:Int)+l.getD y 0≤l.getD i 0):=by
  obtain ⟨x,h1,h2⟩:=Ou hF (i:Int) p
  refine ⟨x,h1,h2,fun h0=>?_⟩
  rcases tq hF with ⟨l2,W2,hv⟩|⟨hno,_⟩
  · obtain ⟨mem, hm⟩ := RJ W.good
    by_cases hp:p.length≤16
    · have hu := h1.uniq (Oa hm hv hi hp).1
      rw [hu] at h0
      have h3:=Oy W i (by rw [W.sz.len];exact hi)
      obtain ⟨y,o,h4,h5,h6⟩:=BN W hm p i 0 hi (by omega) (by omega) (by omega) h0
      exact ⟨y,o,by rw [hu,h4],h5,by omega⟩
    · obtain ⟨K, hK⟩ := wB hv hi
      have : Ev (fun k => gq.f k t (i : Int) p) (0, 0, 2) := ⟨K, fun k hk => by
        show gq.f k t (i:Int) p=_
        unfold gq.f
        rw [show fQ.f k t (i:Int)=_ from hK k hk]
        simp only [Option.bind_some]
        rw [if_neg (by decide), if_pos (decide_eq_true (by omega))]⟩
      rw [h1.uniq this] at h0
      simp at h0
  · exact absurd W (hno l)
def XD (d:bF):dL×Bool:=if d.aC=1 then (d.bG,true) else if d.aC=5 then (⟨4,true⟩,true) else if d.aC=2 then (⟨8,false⟩,true) else (⟨0,false⟩,false)
theorem G7 (hF : ∀ d ∈ t.ay, DV d) (W : Wf t l) {i : Nat} (hi : i < t.ay.length) :
    ∃s:dL×Bool,Ev (fun k=>jo.f k t (i:Int)) s∧Ev (fun k=>fP.f k t (i:Int)) s∧(s.2=true→∃n:Nat,s.1.aP=(n:Int)∧(n=1∨n=2∨n=4∨n=8)∧l.getD i 0=(n:Int)):=by
  obtain ⟨r,hr,he,h6,hlr⟩:=uM W.good i hi
  rcases tq hF with ⟨l2,W2,hv⟩|⟨hno,_⟩
  · obtain ⟨K, hK⟩ := JF hv hi he
    obtain ⟨K2,hK2⟩:=he
    have hd:=W.sh _ (getD_mem (z:=ah) hr)
    obtain ⟨rk,hsz⟩:=W.sz.ex
    obtain ⟨_,_,_,hnv⟩:=hsz r hr
    have key:(if ((t.ay.getD r ah).aC==1)=true then some ((t.ay.getD r ah).bG,true) else if ((t.ay.getD r ah).aC==5)=true then some ((⟨4,true⟩:dL),true) else if ((t.ay.getD r ah).aC==2)=true then some ((⟨8,false⟩:dL),true) else some ((⟨0,false⟩:dL),false))=some (XD (t.ay.getD r ah)):=by
      unfold XD
      simp only [beq_iff_eq]
      repeat' split
      all_goals rfl
    refine ⟨XD (t.ay.getD r ah),⟨K,fun k hk=>?_⟩,⟨K2,fun k hk=>?_⟩,fun h=>?_⟩
    · show jo.f k t (i : Int) = _
      unfold jo.f
      rw [show je.f k t (i:Int)=_ from hK k hk]
      simp only [Option.bind_some]
      rw [if_neg (by decide),if_pos (by omega),fU]
      exact key
    · show fP.f k t (i : Int) = _
      unfold fP.f cZ.f
      have:=hK2 k hk
      simp only [dO.f] at this
      rw [rE,this]
      simp only [Option.bind_some]
      rw [if_pos (by omega),fU]
      exact key
    · rw [← hlr, hnv]
      unfold XD at h⊢
      unfold nval
      by_cases k1:(t.ay.getD r ah).aC=1
      · have := hd.int k1
        rw [if_pos k1,if_pos k1]
        exact ⟨(t.ay.getD r ah).bG.aP.toNat,by show (t.ay.getD r ah).bG.aP=_;omega,by omega,by omega⟩
      · by_cases k5 : (t.ay.getD r ah).aC = 5
        · rw [if_neg k1, if_pos k5, if_neg k1, if_neg (by omega), if_neg (by omega), if_neg (by omega), if_pos k5]
          exact ⟨4,rfl,by omega,rfl⟩
        · by_cases k2 : (t.ay.getD r ah).aC = 2
          · rw [if_neg k1, if_neg k5, if_pos k2, if_neg k1, if_pos k2]
            exact ⟨8,rfl,by omega,rfl⟩
          · rw [if_neg k1, if_neg k5, if_neg k2] at h
            cases h
  · exact absurd W (hno l)
def aaG (x:List Int×Int⊕List Int):fJ⊕List Int:=match x with
  | .inl r=> .inl ⟨r.1,r.2⟩
  | .inr b=> .inr b
theorem Qv (hF : ∀ d ∈ t.ay, DV d) (W : Wf t l) {i : Nat} (hi : i < t.ay.length) {q : List kR} (hq : ∀ p ∈ q, In64 p.vV) (hql : q.length ≤ 100) : ∀ (d j : Nat) (b : List Int), j + d = q.length → (b.length : Int) = l.getD i 0 →
    ∃x,Ev2 (fun k m=>fG.l0 k t (i:Int) q m (j:Int) b) x∧Ev2 (fun k m=>bT.l0 k t (i:Int) q m (j:Int) b) (aaG x):=by
  intro d
  induction d with
  | zero =>
    intro j b hj hb
    refine ⟨.inr b,Ev2.pure fun k m=>?_,Ev2.pure fun k m=>?_⟩
    · rw [fG.l0,if_neg (by simp;omega)]
    · rw [bT.l0,if_neg (by simp;omega)];rfl
  | succ d ih =>
    intro j b hj hb
    have hjl:j<q.length:=by omega
    have hbd:0≤(j:Int)∧(j:Int)<(q.length:Int):=by omega
    have hv:=hq _ (getD_mem (z:=dD) hjl)
    have hrd:rd dD q (j:Int)=q.getD j dD:=fU j
    have hw:IntKind.wrap .i64 ((j:Int)+1)=((j+1:Nat):Int):=fO (n:=q.length) (by omega) (by omega)
    obtain ⟨x,⟨K1,p1⟩,⟨K2,p2⟩,hx⟩:=Qu hF W hi (q.getD j dD).lV
    by_cases h0:x.2.2=0
    · obtain ⟨y, o, rfl, hy, hyo⟩ := hx h0
      obtain ⟨s,⟨K3,s1⟩,⟨K4,s2⟩,hs⟩:=G7 hF W hy
      by_cases hsc:s.2=true
      · obtain ⟨n, hn, hn4, hln⟩ := hs hsc
        have hi2:=Oy W i (by rw [W.sz.len];exact hi)
        have hroom:o+n≤b.length:=by omega
        obtain ⟨z,⟨K5,z1⟩,⟨K6,z2⟩⟩:=ih (j+1) (splice b o (kE n (q.getD j dD).vV)) (by omega) (by rw [qN (by rw [og];exact hroom)];exact hb)
        refine ⟨z,⟨max (max K1 K3) (max K5 9)+1,fun k m hk hm=>?_⟩,⟨max (max K2 K4) (max K6 9)+1,fun k m hk hm=>?_⟩⟩
        · obtain ⟨m, rfl⟩ : ∃ r, m = r + 1 := ⟨m - 1, by omega⟩
          have hpb:=(IJ (k:=k) hn hn4 hv hroom (by omega) (by omega)).1
          show fG.l0 k t (i:Int) q (m+1) (j:Int) b=_
          rw [fG.l0,if_pos (by simp;omega),if_pos hbd,hrd,show gq.f k t (i:Int) (q.getD j dD).lV=_ from p1 k (by omega)]
          simp only [Option.bind_some]
          rw [if_neg (by decide),show jo.f k t (y:Int)=_ from s1 k (by omega)]
          simp only [Option.bind_some]
          rw [if_neg (by simp [hsc]),hpb]
          simp only [Option.bind_some]
          rw [hw]
          exact z1 k m (by omega) (by omega)
        · obtain ⟨m, rfl⟩ : ∃ r, m = r + 1 := ⟨m - 1, by omega⟩
          have hpb:=(IJ (k:=k) hn hn4 hv hroom (by omega) (by omega)).2
          show bT.l0 k t (i:Int) q (m+1) (j:Int) b=_
          rw [bT.l0,if_pos (by simp;omega),if_pos hbd,hrd,show bP.f k t (i:Int) (q.getD j dD).lV=_ from p2 k (by omega)]
          simp only [Option.bind_some,oU]
          rw [if_neg (by decide),show fP.f k t (y:Int)=_ from s2 k (by omega)]
          simp only [Option.bind_some]
          rw [if_neg (by simp [hsc]),if_pos hbd,hpb]
          simp only [Option.bind_some]
          rw [hw]
          exact z2 k m (by omega) (by omega)
      · refine ⟨.inl ([], 5), ⟨max K1 K3 + 1, fun k m hk hm => ?_⟩, ⟨max K2 K4 + 1, fun k m hk hm => ?_⟩⟩
        · obtain ⟨m, rfl⟩ : ∃ r, m = r + 1 := ⟨m - 1, by omega⟩
          show fG.l0 k t (i:Int) q (m+1) (j:Int) b=_
          rw [fG.l0,if_pos (by simp;omega),if_pos hbd,hrd,show gq.f k t (i:Int) (q.getD j dD).lV=_ from p1 k (by omega)]
          simp only [Option.bind_some]
          rw [if_neg (by decide),show jo.f k t (y:Int)=_ from s1 k (by omega)]
          simp only [Option.bind_some]
          rw [if_pos (by simp [hsc])]
        · obtain ⟨m, rfl⟩ : ∃ r, m = r + 1 := ⟨m - 1, by omega⟩
          show bT.l0 k t (i:Int) q (m+1) (j:Int) b=_
          rw [bT.l0,if_pos (by simp;omega),if_pos hbd,hrd,show bP.f k t (i:Int) (q.getD j dD).lV=_ from p2 k (by omega)]
          simp only [Option.bind_some,oU]
          rw [if_neg (by decide),show fP.f k t (y:Int)=_ from s2 k (by omega)]
          simp only [Option.bind_some]
          rw [if_pos (by simp [hsc])]
          rfl
    · refine ⟨.inl ([], x.2.2), ⟨K1 + 1, fun k m hk hm => ?_⟩, ⟨K2 + 1, fun k m hk hm => ?_⟩⟩
      · obtain ⟨m, rfl⟩ : ∃ r, m = r + 1 := ⟨m - 1, by omega⟩
        show fG.l0 k t (i:Int) q (m+1) (j:Int) b=_
        rw [fG.l0,if_pos (by simp;omega),if_pos hbd,hrd,show gq.f k t (i:Int) (q.getD j dD).lV=_ from p1 k (by omega)]
        simp only [Option.bind_some]
        rw [if_pos (by simp [h0])]
      · obtain ⟨m, rfl⟩ : ∃ r, m = r + 1 := ⟨m - 1, by omega⟩
        show bT.l0 k t (i:Int) q (m+1) (j:Int) b=_
        rw [bT.l0,if_pos (by simp;omega),if_pos hbd,hrd,show bP.f k t (i:Int) (q.getD j dD).lV=_ from p2 k (by omega)]
        simp only [Option.bind_some,oU]
        rw [if_pos (by simp [h0])]
        rfl
theorem Qw (hF : ∀ d ∈ t.ay, DV d) (i : Int) {q : List kR} (hq : ∀ p ∈ q, In64 p.vV) :
    ∃b e,Ev (fun k=>fG.f k t i q) (b,e)∧Ev (fun k=>bT.f k t i q) ⟨b,e⟩:=by
  rcases tq hF with ⟨l,W,hv⟩|⟨hno,hv⟩
  · have hck : Ev (fun k => iV.f k t) 0 := by
      obtain ⟨K,hK⟩:=hv
      exact ⟨K, fun k hk => by
        show iV.f k t=_
        unfold iV.f
        rw [show cO.f k t=_ from hK k hk]
        rfl⟩
    obtain ⟨K0,c0⟩:=hck
    obtain ⟨a,e,⟨K1,c1⟩,⟨K2,c2⟩⟩:=Fb hF i
    by_cases he:e=0
    · subst he
      rcases tZ hF i with ⟨e,he,h1,_⟩|⟨n,l2,rfl,hn,W2,_,_,_,_⟩
      · have := (Ev.uniq ⟨K1, c1⟩ (DC h1 he))
        simp at this
        omega
      · have hu := Ev.uniq ⟨K1, c1⟩ (N8 W.good hv hn)
        have ha:a=l.getD n 0:=congrArg Prod.fst hu
        have hs:=Oy W n (by rw [W.sz.len];exact hn)
        by_cases hql:q.length≤100
        · obtain ⟨x, ⟨K3, x1⟩, ⟨K4, x2⟩⟩ := Qv hF W hn hq hql q.length 0 (List.replicate a.toNat (0 : Int)) (by omega) (by rw [List.length_replicate]; omega)
          refine ⟨(match x with| .inl r=>r.1| .inr s=>s),(match x with| .inl r=>r.2| .inr s=>0),⟨max (max K0 K1) K3,fun k hk=>?_⟩,⟨max K2 K4,fun k hk=>?_⟩⟩
          · show fG.f k t (n : Int) q = _
            unfold fG.f
            rw [show iV.f k t=_ from c0 k (by omega)]
            simp only [Option.bind_some]
            rw [if_neg (by decide),show jX.f k t (n:Int)=_ from c1 k (by omega)]
            simp only [Option.bind_some]
            rw [if_neg (by decide),if_neg (by simp;omega),if_pos (by omega),show fG.l0 k t (n:Int) q k 0 _=_ from x1 k k (by omega) (by omega)]
            cases x<;>rfl
          · show bT.f k t (n : Int) q = _
            unfold bT.f
            rw [show eX.f k t (n:Int)=_ from c2 k (by omega)]
            simp only [Option.bind_some]
            rw [if_neg (by decide),if_neg (by simp;omega),if_pos (by omega),show bT.l0 k t (n:Int) q k 0 _=_ from x2 k k (by omega) (by omega)]
            cases x<;>rfl
        · refine ⟨[], 2, ⟨max K0 K1, fun k hk => ?_⟩, ⟨K2, fun k hk => ?_⟩⟩
          · show fG.f k t (n : Int) q = _
            unfold fG.f
            rw [show iV.f k t=_ from c0 k (by omega)]
            simp only [Option.bind_some]
            rw [if_neg (by decide),show jX.f k t (n:Int)=_ from c1 k (by omega)]
            simp only [Option.bind_some]
            rw [if_neg (by decide),if_pos (by simp;omega)]
          · show bT.f k t (n : Int) q = _
            unfold bT.f
            rw [show eX.f k t (n:Int)=_ from c2 k (by omega)]
            simp only [Option.bind_some]
            rw [if_neg (by decide),if_pos (by simp;omega)]
    · refine ⟨[], e, ⟨max K0 K1, fun k hk => ?_⟩, ⟨K2, fun k hk => ?_⟩⟩
      · show fG.f k t i q = _
        unfold fG.f
        rw [show iV.f k t=_ from c0 k (by omega)]
        simp only [Option.bind_some]
        rw [if_neg (by decide),show jX.f k t i=_ from c1 k (by omega)]
        simp only [Option.bind_some]
        rw [if_pos (by simp [he])]
      · show bT.f k t i q = _
        unfold bT.f
        rw [show eX.f k t i=_ from c2 k (by omega)]
        simp only [Option.bind_some]
        rw [if_pos (by simp [he])]
  · obtain ⟨K, hK⟩ := hv
    obtain ⟨a,e,h1,⟨K2,c2⟩⟩:=Fb hF i
    have hu:=h1.uniq (DC (E5 ⟨K,hK⟩ i) (by decide))
    have he:e=80:=congrArg Prod.snd hu
    subst he
    refine ⟨[],80,⟨K,fun k hk=>?_⟩,⟨K2,fun k hk=>?_⟩⟩
    · show fG.f k t i q = _
      unfold fG.f iV.f
      rw [show cO.f k t=_ from hK k hk]
      rfl
    · show bT.f k t i q = _
      unfold bT.f
      rw [show eX.f k t i=_ from c2 k hk]
      rfl
theorem UC (hF:∀d∈t.ay,DV d) (i:Int) {q:List kR} (hq:∀p∈q,In64 p.vV):∃K,∀k,K≤k→iE.f k t i q=some true:=by
  obtain ⟨b,e,⟨K1,h1⟩,⟨K2,h2⟩⟩:=Qw hF i hq
  refine ⟨max K1 K2,fun k hk=>?_⟩
  unfold iE.f
  simp only [jP.f,Option.bind_some]
  rw [show fG.f k t i q=_ from h1 k (by omega)]
  simp only [Option.bind_some]
  rw [show bT.f k t i q=_ from h2 k (by omega)]
  simp [strEq]
end
end Go.Proofs.YtecpbadkdpbkpaaGreatDoor
namespace Go.Proofs.YtecpbadkdpbkpaaGreatDoor
open Go.ChangeShapes Go.WideShapes Go.ChangeAt Go.RowKit Go.M
set_option maxRecDepth 100000
section
variable {H:Type} {enc:TypeId×Value→H} {W:World}
theorem aaH:Opn enc Tryz.prog W 29 vX (fun _=>True):=
  (Ag (fun p=>(⟨p.1,p.2⟩:dL)) (fun _=>rfl) (pX Tryz.underlying29 (by kernel_rfl) (l7 op3 rfl (wI op4 rfl)))).weak fun _ _=>trivial
theorem YK:Opn enc Tryz.prog W 129 eH (fun f=>f.aQ.size≤9223372036854775807):=
  (Ag (fun p=>(⟨p.1,p.2.1,p.2.2⟩:dw)) (fun _=>rfl) (pX Tryz.underlying129 (by kernel_rfl) (l7 op9 rfl (l7 op3 rfl (wI op3 rfl))))).weak fun _ h=>Nq h.1
theorem aaI:Opn enc Tryz.prog W 56 dV DV:=
  (Ag (fun p => (⟨p.1, p.2.1, p.2.2.1, p.2.2.2.1, p.2.2.2.2.1, p.2.2.2.2.2⟩ : bF)) (fun _ => rfl) (pX Tryz.underlying56 (by kernel_rfl)
    (l7 op3 rfl (l7 op9 rfl (l7 aaH rfl (l7 op3 rfl (l7 op3 rfl (wI (vG YK Tryz.underlying54 (by kernel_rfl)) rfl)))))))).weak fun _ h => ⟨Nq h.2.1, Nq h.2.2.2.2.2.1, h.2.2.2.2.2.2⟩
def Zt (t:aU):Prop:=t.ay.length≤9223372036854775807∧∀d∈t.ay,DV d
theorem aaJ:Opn enc Tryz.prog W 24 uF Zt:=
  (Ag (fun p=>(⟨p⟩:aU)) (fun _=>rfl) (pX Tryz.underlying24 (by kernel_rfl) (wI (vG aaI Tryz.underlying22 (by kernel_rfl)) rfl))).weak fun _ h=>⟨Nq h.1,h.2⟩
theorem aaK:Opn enc Tryz.prog W 30 (Kd.slice Kd.str) (fun xs=>xs.length≤maxLen∧∀s∈xs,s.size≤maxLen):=vG op9 Tryz.underlying30 (by kernel_rfl)
def YL (p:kR):Prop:=p.lV.length≤9223372036854775807∧-9223372036854775808≤p.vV∧p.vV≤9223372036854775807
theorem aaL:Opn enc Tryz.prog W 62 nK YL:=
  (Ag (fun p=>(⟨p.1,p.2⟩:kR)) (fun _=>rfl) (pX Tryz.underlying62 (by kernel_rfl) (l7 aaK rfl (wI op2 rfl)))).weak fun _ h=>⟨Nq h.1.1,wf64 h.2⟩
theorem aaM:Opn enc Tryz.prog W 41 (Kd.slice nK) (fun xs=>xs.length≤maxLen∧∀s∈xs,YL s):=vG aaL Tryz.underlying41 (by kernel_rfl)
theorem YM {b:Nat} {v:Value} {d:DataW H} {p:List MemPlace} (hval:Value.okWide Tryz.prog W .any b 24 v) (h:DataW.Trod enc Tryz.prog W 0 (fun _=>true) true 24 v d p):
    ∃(t:aU) (A:Option Addr) (c:Nat),v= .agg #[.slice A t.ay.length c]∧Rd dV (vw W) A t.ay∧t.ay.length≤c∧Zt t:=by
  obtain ⟨cs,rfl,_⟩:=okWide_struct Tryz.underlying24 hval
  obtain ⟨fuel,hf⟩:=h
  obtain ⟨t,⟨A,c,hcs,hc,hr⟩,hF⟩:=aaJ.open_ _ _ _ hf
  refine ⟨t,A,c,?_,hr,hc,hF⟩
  have:cs.toList=[.slice A t.ay.length c]:=hcs
  rw [←Array.toArray_toList (xs:=cs),this]
theorem arg3 {b:Nat} {v:Value} {d:DataW H} {p:List MemPlace} (hval:Value.okWide Tryz.prog W .any b 3 v) (h:DataW.Trod enc Tryz.prog W 0 (fun _=>true) true 3 v d p):∃n:Int,v= .int .i64 n∧(Lit.int .i64 n).wf=true:=by
  obtain ⟨n,rfl⟩:=okWide_int Tryz.underlying3 hval
  obtain ⟨fuel,hf⟩:=h
  obtain ⟨m,hK,hF⟩:=op3.open_ _ _ _ hf
  have:[Value.int .i64 n]=[Value.int .i64 m]:=hK
  injection this with this
  injection this with _ this
  subst this
  exact ⟨n,rfl,hF⟩
theorem YN {b:Nat} {v:Value} {d:DataW H} {p:List MemPlace} (hval:Value.okWide Tryz.prog W .any b 41 v) (h:DataW.Trod enc Tryz.prog W 0 (fun _=>true) true 41 v d p):
    ∃(xs:List kR) (A:Option Addr) (c:Nat),v= .slice A xs.length c∧Rd nK (vw W) A xs∧xs.length≤c∧xs.length≤maxLen∧∀s∈xs,YL s:=by
  obtain ⟨a,len,cap,rfl⟩:=okWide_slice Tryz.underlying41 hval
  obtain ⟨fuel,hf⟩:=h
  obtain ⟨xs,⟨A,c,hcs,hc,hr⟩,hF⟩:=aaM.open_ _ _ _ hf
  have:[Value.slice a len cap]=[Value.slice A xs.length c]:=hcs
  injection this with this
  injection this with h1 h2 h3
  subst h1 h2 h3
  exact ⟨xs,_,_,rfl,hr,hc,hF⟩
end
end Go.Proofs.YtecpbadkdpbkpaaGreatDoor
