/- Parts of a proof, merged by program: F55 F20 F34 F72 F36 F78 F123 F124 F125 F126 F77 F127 F79 F80 F81 F38 F82 F83 F40 F42 F44 GA P1 P2. The walks (each function once) and the plain laws; no condition of their own. -/
import Derived.Test.YtecpbadkdpbkpaaGreatDoorMbr4
set_option linter.unusedVariables false
set_option linter.unusedSimpArgs false
set_option maxRecDepth 20000
set_option maxHeartbeats 4000000
namespace Go.Proofs.YtecpbadkdpbkpaaGreatDoor
open Go.RowKit Go.M
def dI.l0 (a0:bf):Nat→Int→Option (Int)
 |0,_=>none
 |m+1,aG=>if 0≤aG∧aG<a0.ay.length then (if ((rd ah a0.ay aG).aF==6)=true then (if 0≤aG∧aG<a0.ay.length then (dI.l0 a0 m ((rd ah a0.ay aG).dY)) else none) else (some aG)) else none
def dI.f (k:Nat) (a0:bf) (a1:Int):Option (Int):=(dI.l0 a0 k a1).bind fun xx1=>(some xx1)
theorem dI.calls (k:Nat) (a0:bf) (a1:Int) (bQ:Option Addr) (bT:Nat) {h0:View} {w0:World} (hv:jf h0 w0) (fB:Rd eX h0 bQ a0.ay) (gI:a0.ay.length≤bT) {r:Int} (H:dI.f k a0 a1=some r):Calls Tryz.prog 55 #[Value.agg #[vL bQ a0.ay.length bT],vI a1] w0 (fun e w1=>e= .returned (vI r)∧Ext w0 w1):=by
 unfold dI.f at H
 have HS:St [] h0 w0 h0 [] w0:=St.init hv
 go_enter Tryz.func55,Tryz.ntmps55
 refine wp_seq<|region<|dK rfl rfl (dH (cs:=#[vL bQ a0.ay.length bT]) rfl rfl) ?_
 rintro w1 _ hE1 ⟨b1,rfl,ge1,hb1⟩
 have HS1:=HS.new hE1 ge1 hb1
 refine rs (vI 0) (aC rfl) ?_
 try simp only [sc0,sc1]
 refine aB<|aj<|wp_seq ?_
 obtain ⟨xx1,H,G1⟩:=bJ H
 refine iW [1,5,6,7,8,9,10,11,12,13,14,15,16,17] (fun m us w'=>∃(aG:Int),Fit us (fun uy1=>[vI aG,(uy1 1),(uy1 2),(uy1 3),(uy1 4),(uy1 5),(uy1 6),(uy1 7),(uy1 8),(uy1 9),(uy1 10),(uy1 11),(uy1 12),(uy1 13)])∧dI.l0 a0 m aG=some xx1∧St [] h0 w0 h0 [(some b1, .cells #[vL bQ a0.ay.length bT] 24 (0,0))] w') (fun us w'=>Fit us (fun uo1=>[vI xx1,(uo1 1),(uo1 2),(uo1 3),(uo1 4),(uo1 5),(uo1 6),(uo1 7),(uo1 8),(uo1 9),(uo1 10),(uo1 11),(uo1 12),(uo1 13)])∧St [] h0 w0 h0 [(some b1, .cells #[vL bQ a0.ay.length bT] 24 (0,0))] w') k ⟨a1,(fit rfl),H,HS1⟩ ?_ ?_
 ·rintro m us w2 ⟨aG,lZ,H,HS2⟩
  obtain ⟨uy1,rfl⟩:=unj lZ
  cases m with
  |zero=>exact absurd H (by simp [dI.l0])
  |succ m=>
   rw [dI.l0] at H
   try simp only [patch,sc0,sc1]
   refine wp_seq<|wp_seq<|region<|rs (vP b1 0) (aH (n:=1) (o':=0) rfl Tryz.runUnderlying24 rfl Tryz.sizeOf22 (by decide) rfl)<|rs (vL bQ a0.ay.length bT) (aN rfl Tryz.isAgg22 (HS2.look 0 rfl) rfl)<|rs (vI aG) (aK rfl) ?_
   obtain ⟨hi1,H⟩:=fE H
   obtain ⟨ad1,dO,dR,e1,kX,jO,iD⟩:=gU fB hi1.1 hi1.2
   refine rs (Value.pointer (some (Addr.add ad1 (aG.toNat*7)))) (dQ (sz:=7) rfl e1 rfl hi1.1 hi1.2 Tryz.runUnderlying22 Tryz.sizeOf56)<|aI (by simp only [sc0,sc1];rfl) ?_
   refine rs (Value.pointer (some (Addr.add (Addr.add ad1 (aG.toNat*7)) 0))) (jG (n:=1) (o':=0) rfl Tryz.runUnderlying56 rfl Tryz.sizeOf3 (by decide) rfl)<|rs (vI ((rd ah a0.ay aG).aF)) (jF rfl Tryz.isAgg3 (kX.cell HS2.sees 0 rfl))<|rs (vB ((rd ah a0.ay aG).aF==6)) (bK rfl rfl rfl) ?_
   try simp only [sc0,sc1]
   refine aB<|aj<|wp_cond_split (t:=((rd ah a0.ay aG).aF==6)) rfl (fun c1=>?_) (fun c1=>?_)
   ·replace H:=bU H c1
    refine wp_skip<|aj<|wp_block<|region<|rs (vP b1 0) (aH (n:=1) (o':=0) rfl Tryz.runUnderlying24 rfl Tryz.sizeOf22 (by decide) rfl)<|rs (vL bQ a0.ay.length bT) (aN rfl Tryz.isAgg22 (HS2.look 0 rfl) rfl)<|rs (vI aG) (aK rfl) ?_
    obtain ⟨hi2,H⟩:=fE H
    obtain ⟨ad2,zC,zD,e2,wV,Du,Dv⟩:=gU fB hi2.1 hi2.2
    refine rs (Value.pointer (some (Addr.add ad2 (aG.toNat*7)))) (dQ (sz:=7) rfl e2 rfl hi2.1 hi2.2 Tryz.runUnderlying22 Tryz.sizeOf56)<|aI (by simp only [sc0,sc1];rfl) ?_
    refine rs (Value.pointer (some (Addr.add (Addr.add ad2 (aG.toNat*7)) 4))) (jG (n:=1) (o':=4) rfl Tryz.runUnderlying56 rfl Tryz.sizeOf3 (by decide) rfl)<|rs (vI ((rd ah a0.ay aG).dY)) (jF rfl Tryz.isAgg3 (wV.cell HS2.sees 4 rfl))<|rs (vI ((rd ah a0.ay aG).dY)) (aC rfl) ?_
    try simp only [sc0,sc1]
    refine aB<|dB<|gX m (Nat.lt_succ_self m) rfl ⟨(rd ah a0.ay aG).dY,(fit rfl),H,HS2⟩
   ·replace H:=bZ H (nt c1)
    refine wp_exit<|fF ?_
    obtain rfl:=Option.some.inj H
    refine iw rfl ⟨(fit rfl),HS2⟩
 ·rintro us w3 ⟨l7,HS3⟩
  obtain ⟨uo1,rfl⟩:=unj l7
  replace H:=G1
  clear G1
  try simp only [patch,sc0,sc1]
  refine aj<|wp_seq<|region<|rs (vI xx1) (aK rfl)<|rs (vI xx1) (aC rfl) ?_
  try simp only [sc0,sc1]
  refine aB<|aj<|wp_ret ?_
  obtain rfl:=Option.some.inj H
  exact bodyPost_ret (aW rfl (aV rfl)) rfl<|⟨rfl,HS3.toE⟩
def gy.f (k:Nat) (a0:bf) (a1:Int):Option (eP×Bool):=(dI.f k a0 a1).bind fun v1=>(if 0≤v1∧v1<a0.ay.length then (if ((rd ah a0.ay v1).aF==1)=true then (some ((rd ah a0.ay v1).bW,true)) else (if ((rd ah a0.ay v1).aF==5)=true then (some ((⟨4,true⟩:eP),true)) else (if ((rd ah a0.ay v1).aF==2)=true then (some ((⟨8,false⟩:eP),true)) else (some ((⟨0,false⟩:eP),false))))) else none)
theorem gy.calls (k:Nat) (a0:bf) (a1:Int) (bQ:Option Addr) (bT:Nat) {h0:View} {w0:World} (hv:jf h0 w0) (fB:Rd eX h0 bQ a0.ay) (gI:a0.ay.length≤bT) {r:eP×Bool} (H:gy.f k a0 a1=some r):Calls Tryz.prog 20 #[Value.agg #[vL bQ a0.ay.length bT],vI a1] w0 (fun e w1=>e= .returned (Value.tuple #[Value.agg #[vI r.1.aS,vB r.1.aO],vB r.2])∧Ext w0 w1):=by
 unfold gy.f at H
 have HS:St [] h0 w0 h0 [] w0:=St.init hv
 go_enter Tryz.func20,Tryz.ntmps20
 refine wp_seq<|region<|dK rfl rfl (dH (cs:=#[vL bQ a0.ay.length bT]) rfl rfl) ?_
 rintro w1 _ hE1 ⟨b1,rfl,ge1,hb1⟩
 have HS1:=HS.new hE1 ge1 hb1
 refine dK rfl rfl (fA (cs:=#[vI 0,vB false]) Tryz.zeroValue29 rfl) ?_
 rintro w2 _ hE2 ⟨b2,rfl,ge2,hb2⟩
 have HS2:=HS1.new hE2 ge2 hb2
 refine rs (vB false) (aC rfl) ?_
 try simp only [sc0,sc1]
 refine aB<|aj<|wp_seq ?_
 obtain ⟨v1,H1,H⟩:=bJ H
 obtain ⟨hi1,H⟩:=fE H
 obtain ⟨ad1,dO,dR,e1,kX,jO,iD⟩:=gU fB hi1.1 hi1.2
 refine drawn [.eq (vP b1 0), .eq (vL bQ a0.ay.length bT), .eq (Value.agg #[vL bQ a0.ay.length bT]), .eq (vI a1), .eq (vI v1), .eq (Value.pointer (some (Addr.add ad1 (v1.toNat*7)))), .eq (Value.agg #[vI ((rd ah a0.ay v1).aF),vS ((rd ah a0.ay v1).aU),vI ((rd ah a0.ay v1).bW.aS),vB ((rd ah a0.ay v1).bW.aO),vI ((rd ah a0.ay v1).dY),vI ((rd ah a0.ay v1).vN),vL dO ((rd ah a0.ay v1).au).length dR]), .ex (oV w2 #[vI 0,vS ByteArray.empty,vI 0,vB false,vI 0,vI 0,vL none 0 0] 56)] [7,8,9,10,11,12,13,6] nD (by kernel_rfl) rfl (bn (bn (bn (bn (bn (bn (bn (pO oV.stable jh)))))))) ⟨bI rfl (fun a' w' hE hk=>by have HSd:=HS2.step hE;exact cu (aH (n:=1) (o':=0) (show _=vP b1 0 from hk 2 rfl) Tryz.runUnderlying24 rfl Tryz.sizeOf22 (by decide) rfl)),bI rfl (fun a' w' hE hk=>by have HSd:=HS2.step hE;exact cu (aN (show _=vP b1 0 from hk 7 rfl) Tryz.isAgg22 (HSd.look 1 rfl) rfl)),bI rfl (fun a' w' hE hk=>by have HSd:=HS2.step hE;exact cu (aY (n:=1) (vs:=[vL bQ a0.ay.length bT]) (show _=vP b1 0 from hk 2 rfl) Tryz.isAgg24 (HSd.look 1 rfl) Tryz.sizeOf24 rfl rfl)),bI rfl (fun a' w' hE hk=>by have HSd:=HS2.step hE;exact cu (aK (show _=vI a1 from hk 1 rfl))),bI rfl (fun a' w' hE hk=>by have HSd:=HS2.step hE;exact (bC Tryz.call55 rfl (Kt (show _=Value.agg #[vL bQ a0.ay.length bT] from hk 9 rfl) (show _=vI a1 from hk 10 rfl)) (dI.calls k a0 a1 bQ bT HSd.sees fB gI H1))),bI rfl (fun a' w' hE hk=>by have HSd:=HS2.step hE;exact cu (dQ (sz:=7) (show _=vL bQ a0.ay.length bT from hk 8 rfl) e1 (show _=vI v1 from hk 11 rfl) hi1.1 hi1.2 Tryz.runUnderlying22 Tryz.sizeOf56)),bI rfl (fun a' w' hE hk=>by have HSd:=HS2.step hE;exact cu (gK (show _=Value.pointer (some (Addr.add ad1 (v1.toNat*7))) from hk 12 rfl) Tryz.isAgg56 (kX.sees HSd.sees) Tryz.sizeOf56)),bI rfl (fun a' w' hE hk=>(uG hE (cs:=#[vI 0,vS ByteArray.empty,vI 0,vB false,vI 0,vI 0,vL none 0 0]) Tryz.zeroValue56 rfl)),trivial⟩ ?_
 intro w3 hE3
 simp only [List.zip_cons_cons,List.zip_nil_left,List.zip_nil_right,yh,sc0,sc1,List.length_cons,List.length_nil,List.drop_succ_cons,List.drop_zero,Nat.zero_add,Nat.reduceAdd]
 rintro _ ⟨b3,rfl,ge3,hb3⟩
 have HS3:=HS2.new hE3 ge3 hb3
 refine gq (i:=0) (cs:=[vI 0,vS ByteArray.empty,vI 0,vB false,vI 0,vI 0,vL none 0 0]) (cs':=[vI ((rd ah a0.ay v1).aF),vS ((rd ah a0.ay v1).aU),vI ((rd ah a0.ay v1).bW.aS),vB ((rd ah a0.ay v1).bW.aO),vI ((rd ah a0.ay v1).dY),vI ((rd ah a0.ay v1).vN),vL dO ((rd ah a0.ay v1).au).length dR]) (vs:=[vI ((rd ah a0.ay v1).aF),vS ((rd ah a0.ay v1).aU),vI ((rd ah a0.ay v1).bW.aS),vB ((rd ah a0.ay v1).bW.aO),vI ((rd ah a0.ay v1).dY),vI ((rd ah a0.ay v1).vN),vL dO ((rd ah a0.ay v1).au).length dR]) (bs':=[(some b3, .cells #[vI ((rd ah a0.ay v1).aF),vS ((rd ah a0.ay v1).aU),vI ((rd ah a0.ay v1).bW.aS),vB ((rd ah a0.ay v1).bW.aO),vI ((rd ah a0.ay v1).dY),vI ((rd ah a0.ay v1).vN),vL dO ((rd ah a0.ay v1).au).length dR] 56 (0,0)),(some b2, .cells #[vI 0,vB false] 29 (0,0)),(some b1, .cells #[vL bQ a0.ay.length bT] 24 (0,0))]) rfl rfl Tryz.sizeOf56 rfl rfl (by decide) rfl HS3 rfl (Nat.le_of_ble_eq_true rfl) rfl rfl ?_
 intro w4 HS4
 try simp only [sc0,sc1]
 refine aB<|aj<|wp_seq<|wp_seq<|region<|rs (vP b3 0) (aH (n:=1) (o':=0) rfl Tryz.runUnderlying56 rfl Tryz.sizeOf3 (by decide) rfl)<|rs (vI ((rd ah a0.ay v1).aF)) (aN rfl Tryz.isAgg3 (HS4.look 0 rfl) rfl) ?_
 try simp only [sc0,sc1]
 refine aB<|aj<|wp_block<|wp_seq<|region<|rs (vB ((rd ah a0.ay v1).aF==1)) (bK rfl rfl rfl)<|rs (vB ((rd ah a0.ay v1).aF==1)) (aC rfl) ?_
 try simp only [sc0,sc1]
 refine aB<|aj<|wp_cond_split (t:=((rd ah a0.ay v1).aF==1)) rfl (fun c1=>?_) (fun c1=>?_)
 ·replace H:=bU H c1
  refine wp_seq<|region<|rs (vP b3 2) (aH (n:=2) (o':=2) rfl Tryz.runUnderlying56 rfl Tryz.sizeOf29 (by decide) rfl)<|rs (Value.agg #[vI ((rd ah a0.ay v1).bW.aS),vB ((rd ah a0.ay v1).bW.aO)]) (aY (n:=2) (vs:=[vI ((rd ah a0.ay v1).bW.aS),vB ((rd ah a0.ay v1).bW.aO)]) rfl Tryz.isAgg29 (HS4.look 0 rfl) Tryz.sizeOf29 rfl rfl)<|gq (i:=1) (cs:=[vI 0,vB false]) (cs':=[vI ((rd ah a0.ay v1).bW.aS),vB ((rd ah a0.ay v1).bW.aO)]) (vs:=[vI ((rd ah a0.ay v1).bW.aS),vB ((rd ah a0.ay v1).bW.aO)]) (bs':=[(some b3, .cells #[vI ((rd ah a0.ay v1).aF),vS ((rd ah a0.ay v1).aU),vI ((rd ah a0.ay v1).bW.aS),vB ((rd ah a0.ay v1).bW.aO),vI ((rd ah a0.ay v1).dY),vI ((rd ah a0.ay v1).vN),vL dO ((rd ah a0.ay v1).au).length dR] 56 (0,0)),(some b2, .cells #[vI ((rd ah a0.ay v1).bW.aS),vB ((rd ah a0.ay v1).bW.aO)] 29 (0,0)),(some b1, .cells #[vL bQ a0.ay.length bT] 24 (0,0))]) rfl rfl Tryz.sizeOf29 rfl rfl (by decide) rfl HS4 rfl (Nat.le_of_ble_eq_true rfl) rfl rfl ?_
  intro w5 HS5
  refine rs (vB true) (aC rfl) ?_
  try simp only [sc0,sc1]
  refine aB<|aj<|wp_ret<|dn<|aX ?_
  obtain rfl:=Option.some.inj H
  exact bodyPost_ret (fO rfl (iP rfl Tryz.isAgg29 (HS5.look 1 rfl) Tryz.sizeOf29 rfl) (aV rfl)) rfl<|⟨rfl,HS5.toE⟩
 ·replace H:=bZ H (nt c1)
  refine wp_seq<|region<|rs (vB ((rd ah a0.ay v1).aF==5)) (bK rfl rfl rfl)<|rs (vB ((rd ah a0.ay v1).aF==5)) (aC rfl) ?_
  try simp only [sc0,sc1]
  refine aB<|aj<|wp_cond_split (t:=((rd ah a0.ay v1).aF==5)) rfl (fun c2=>?_) (fun c2=>?_)
  ·replace H:=bU H c2
   refine wp_seq<|region<|rs (Value.agg #[vI 4,vB true]) (iF (cs:=[vI 4,vB true]) (ps:=[(0,vI 4),(1,vB true)]) Tryz.zeroValue29 Tryz.runUnderlying29 (pl:=#[(0,1),(1,1)]) (fun w=>by simp [Tryz.sizeOf3,Tryz.sizeOf4]) (nT (show _=vI 4 from rfl) (show _=vB true from rfl)) rfl) ?_
   refine gq (i:=1) (cs:=[vI 0,vB false]) (cs':=[vI 4,vB true]) (vs:=[vI 4,vB true]) (bs':=[(some b3, .cells #[vI ((rd ah a0.ay v1).aF),vS ((rd ah a0.ay v1).aU),vI ((rd ah a0.ay v1).bW.aS),vB ((rd ah a0.ay v1).bW.aO),vI ((rd ah a0.ay v1).dY),vI ((rd ah a0.ay v1).vN),vL dO ((rd ah a0.ay v1).au).length dR] 56 (0,0)),(some b2, .cells #[vI 4,vB true] 29 (0,0)),(some b1, .cells #[vL bQ a0.ay.length bT] 24 (0,0))]) rfl rfl Tryz.sizeOf29 rfl rfl (by decide) rfl HS4 rfl (Nat.le_of_ble_eq_true rfl) rfl rfl ?_
   intro w6 HS6
   refine rs (vB true) (aC rfl) ?_
   try simp only [sc0,sc1]
   refine aB<|aj<|wp_ret<|dn<|aX ?_
   obtain rfl:=Option.some.inj H
   exact bodyPost_ret (fO rfl (iP rfl Tryz.isAgg29 (HS6.look 1 rfl) Tryz.sizeOf29 rfl) (aV rfl)) rfl<|⟨rfl,HS6.toE⟩
  ·replace H:=bZ H (nt c2)
   refine wp_seq<|region<|rs (vB ((rd ah a0.ay v1).aF==2)) (bK rfl rfl rfl)<|rs (vB ((rd ah a0.ay v1).aF==2)) (aC rfl) ?_
   try simp only [sc0,sc1]
   refine aB<|aj<|wp_cond_split (t:=((rd ah a0.ay v1).aF==2)) rfl (fun c3=>?_) (fun c3=>?_)
   ·replace H:=bU H c3
    refine wp_seq<|region<|rs (Value.agg #[vI 8,vB false]) (iF (cs:=[vI 8,vB false]) (ps:=[(0,vI 8)]) Tryz.zeroValue29 Tryz.runUnderlying29 (pl:=#[(0,1),(1,1)]) (fun w=>by simp [Tryz.sizeOf3,Tryz.sizeOf4]) (jZ (show _=vI 8 from rfl)) rfl) ?_
    refine gq (i:=1) (cs:=[vI 0,vB false]) (cs':=[vI 8,vB false]) (vs:=[vI 8,vB false]) (bs':=[(some b3, .cells #[vI ((rd ah a0.ay v1).aF),vS ((rd ah a0.ay v1).aU),vI ((rd ah a0.ay v1).bW.aS),vB ((rd ah a0.ay v1).bW.aO),vI ((rd ah a0.ay v1).dY),vI ((rd ah a0.ay v1).vN),vL dO ((rd ah a0.ay v1).au).length dR] 56 (0,0)),(some b2, .cells #[vI 8,vB false] 29 (0,0)),(some b1, .cells #[vL bQ a0.ay.length bT] 24 (0,0))]) rfl rfl Tryz.sizeOf29 rfl rfl (by decide) rfl HS4 rfl (Nat.le_of_ble_eq_true rfl) rfl rfl ?_
    intro w7 HS7
    refine rs (vB true) (aC rfl) ?_
    try simp only [sc0,sc1]
    refine aB<|aj<|wp_ret<|dn<|aX ?_
    obtain rfl:=Option.some.inj H
    exact bodyPost_ret (fO rfl (iP rfl Tryz.isAgg29 (HS7.look 1 rfl) Tryz.sizeOf29 rfl) (aV rfl)) rfl<|⟨rfl,HS7.toE⟩
   ·replace H:=bZ H (nt c3)
    refine wp_skip<|dB<|aj<|wp_seq<|region<|rs (Value.agg #[vI 0,vB false]) (oW (cs:=[vI 0,vB false]) Tryz.zeroValue29 Tryz.runUnderlying29 (pl:=#[(0,1),(1,1)]) (fun w=>by simp [Tryz.sizeOf3,Tryz.sizeOf4]) rfl) ?_
    refine gq (i:=1) (cs:=[vI 0,vB false]) (cs':=[vI 0,vB false]) (vs:=[vI 0,vB false]) (bs':=[(some b3, .cells #[vI ((rd ah a0.ay v1).aF),vS ((rd ah a0.ay v1).aU),vI ((rd ah a0.ay v1).bW.aS),vB ((rd ah a0.ay v1).bW.aO),vI ((rd ah a0.ay v1).dY),vI ((rd ah a0.ay v1).vN),vL dO ((rd ah a0.ay v1).au).length dR] 56 (0,0)),(some b2, .cells #[vI 0,vB false] 29 (0,0)),(some b1, .cells #[vL bQ a0.ay.length bT] 24 (0,0))]) rfl rfl Tryz.sizeOf29 rfl rfl (by decide) rfl HS4 rfl (Nat.le_of_ble_eq_true rfl) rfl rfl ?_
    intro w8 HS8
    refine rs (vB false) (aC rfl) ?_
    try simp only [sc0,sc1]
    refine aB<|aj<|wp_ret ?_
    obtain rfl:=Option.some.inj H
    exact bodyPost_ret (fO rfl (iP rfl Tryz.isAgg29 (HS8.look 1 rfl) Tryz.sizeOf29 rfl) (aV rfl)) rfl<|⟨rfl,HS8.toE⟩
def jc.f (k:Nat) (a0:bf):Option (Int):=(dF.f k a0).bind fun v1=>(if (!v1)=true then (some 80) else (some 0))
theorem jc.calls (k:Nat) (a0:bf) (bQ:Option Addr) (bT:Nat) {h0:View} {w0:World} (hv:jf h0 w0) (fB:Rd eX h0 bQ a0.ay) (gI:a0.ay.length≤bT) {r:Int} (H:jc.f k a0=some r):Calls Tryz.prog 34 #[Value.agg #[vL bQ a0.ay.length bT]] w0 (fun e w1=>e= .returned (vI r)∧Ext w0 w1):=by
 unfold jc.f at H
 have HS:St [] h0 w0 h0 [] w0:=St.init hv
 go_enter Tryz.func34,Tryz.ntmps34
 refine wp_seq<|region<|dK rfl rfl (dH (cs:=#[vL bQ a0.ay.length bT]) rfl rfl) ?_
 rintro w1 _ hE1 ⟨b1,rfl,ge1,hb1⟩
 have HS1:=HS.new hE1 ge1 hb1
 refine rs (vI 0) (aC rfl) ?_
 try simp only [sc0,sc1]
 refine aB<|aj<|wp_seq<|wp_seq<|region<|rs (Value.agg #[vL bQ a0.ay.length bT]) (aY (n:=1) (vs:=[vL bQ a0.ay.length bT]) rfl Tryz.isAgg24 (HS1.look 0 rfl) Tryz.sizeOf24 rfl rfl) ?_
 obtain ⟨v1,H1,H⟩:=bJ H
 refine run_eq (v:=vB v1) rfl rfl (bC Tryz.call74 rfl rfl (dF.calls k a0 bQ bT HS1.sees fB gI H1)) ?_
 intro w2 hE2
 have HS2:=HS1.step hE2
 refine rs (vB (!v1)) (kN rfl) ?_
 try simp only [sc0,sc1]
 refine aB<|aj<|wp_cond_split (t:=(!v1)) rfl (fun c1=>?_) (fun c1=>?_)
 ·replace H:=bU H c1
  refine wp_seq<|region<|rs (vI 80) (aC rfl) ?_
  try simp only [sc0,sc1]
  refine aB<|aj<|wp_ret<|aX ?_
  obtain rfl:=Option.some.inj H
  exact bodyPost_ret (aW rfl (aV rfl)) rfl<|⟨rfl,HS2.toE⟩
 ·replace H:=bZ H (nt c1)
  refine wp_skip<|aj<|wp_seq<|region<|rs (vI 0) (aC rfl) ?_
  try simp only [sc0,sc1]
  refine aB<|aj<|wp_ret ?_
  obtain rfl:=Option.some.inj H
  exact bodyPost_ret (aW rfl (aV rfl)) rfl<|⟨rfl,HS2.toE⟩
def kD.f (k:Nat) (a0:bf) (a1:Int):Option (Int×Int):=(iC.f k a0 a1).bind fun v1=>(if (v1 !=0)=true then (some (0,v1)) else ((eF.f k a0 a1).bind fun v2=>(some (v2,0))))
theorem kD.calls (k:Nat) (a0:bf) (a1:Int) (bQ:Option Addr) (bT:Nat) {h0:View} {w0:World} (hv:jf h0 w0) (fB:Rd eX h0 bQ a0.ay) (gI:a0.ay.length≤bT) {r:Int×Int} (H:kD.f k a0 a1=some r):Calls Tryz.prog 72 #[Value.agg #[vL bQ a0.ay.length bT],vI a1] w0 (fun e w1=>e= .returned (Value.tuple #[vI r.1,vI r.2])∧Ext w0 w1):=by
 unfold kD.f at H
 have HS:St [] h0 w0 h0 [] w0:=St.init hv
 go_enter Tryz.func72,Tryz.ntmps72
 refine wp_seq<|region<|dK rfl rfl (dH (cs:=#[vL bQ a0.ay.length bT]) rfl rfl) ?_
 rintro w1 _ hE1 ⟨b1,rfl,ge1,hb1⟩
 have HS1:=HS.new hE1 ge1 hb1
 refine rs (vI 0) (aC rfl)<|rs (vI 0) (aC rfl) ?_
 try simp only [sc0,sc1]
 refine aB<|aj<|wp_seq<|wp_seq<|region<|rs (Value.agg #[vL bQ a0.ay.length bT]) (aY (n:=1) (vs:=[vL bQ a0.ay.length bT]) rfl Tryz.isAgg24 (HS1.look 0 rfl) Tryz.sizeOf24 rfl rfl)<|rs (vI a1) (aK rfl) ?_
 obtain ⟨v1,H1,H⟩:=bJ H
 refine run_eq (v:=vI v1) rfl rfl (bC Tryz.call53 rfl rfl (iC.calls k a0 a1 bQ bT HS1.sees fB gI H1)) ?_
 intro w2 hE2
 have HS2:=HS1.step hE2
 refine rs (vI v1) (aC rfl) ?_
 try simp only [sc0,sc1]
 refine aB<|aj<|wp_seq<|region<|rs (vI v1) (aK rfl)<|rs (vB (v1 !=0)) (bK rfl rfl rfl) ?_
 try simp only [sc0,sc1]
 refine aB<|aj<|wp_cond_split (t:=(v1 !=0)) rfl (fun c1=>?_) (fun c1=>?_)
 ·replace H:=bU H c1
  refine wp_seq<|region<|rs (vI v1) (aK rfl)<|rs (vI 0) (aC rfl)<|rs (vI v1) (aC rfl) ?_
  try simp only [sc0,sc1]
  refine aB<|aj<|wp_ret<|aX ?_
  obtain rfl:=Option.some.inj H
  exact bodyPost_ret (fO rfl (aV rfl) (aV rfl)) rfl<|⟨rfl,HS2.toE⟩
 ·replace H:=bZ H (nt c1)
  refine wp_skip<|aj<|wp_seq<|region<|rs (Value.agg #[vL bQ a0.ay.length bT]) (aY (n:=1) (vs:=[vL bQ a0.ay.length bT]) rfl Tryz.isAgg24 (HS2.look 0 rfl) Tryz.sizeOf24 rfl rfl)<|rs (vI a1) (aK rfl) ?_
  obtain ⟨v2,H2,H⟩:=bJ H
  refine run_eq (v:=vI v2) rfl rfl (bC Tryz.call89 rfl rfl (eF.calls k a0 a1 bQ bT HS2.sees fB gI H2)) ?_
  intro w3 hE3
  have HS3:=HS2.step hE3
  refine rs (vI v2) (aC rfl)<|aI (by simp only [sc0,sc1];rfl) ?_
  refine rs (vI 0) (aC rfl) ?_
  try simp only [sc0,sc1]
  refine aB<|aj<|wp_ret ?_
  obtain rfl:=Option.some.inj H
  exact bodyPost_ret (fO rfl (aV rfl) (aV rfl)) rfl<|⟨rfl,HS3.toE⟩
def jd.f (k:Nat) (a0:bf) (a1:Int):Option (eP×Bool):=(kD.f k a0 a1).bind fun v1=>(if (v1.2 !=0)=true then (some ((⟨0,false⟩:eP),false)) else (if 0≤v1.1∧v1.1<a0.ay.length then (if ((rd ah a0.ay v1.1).aF==1)=true then (some ((rd ah a0.ay v1.1).bW,true)) else (if ((rd ah a0.ay v1.1).aF==5)=true then (some ((⟨4,true⟩:eP),true)) else (if ((rd ah a0.ay v1.1).aF==2)=true then (some ((⟨8,false⟩:eP),true)) else (some ((⟨0,false⟩:eP),false))))) else none))
theorem jd.calls (k:Nat) (a0:bf) (a1:Int) (bQ:Option Addr) (bT:Nat) {h0:View} {w0:World} (hv:jf h0 w0) (fB:Rd eX h0 bQ a0.ay) (gI:a0.ay.length≤bT) {r:eP×Bool} (H:jd.f k a0 a1=some r):Calls Tryz.prog 36 #[Value.agg #[vL bQ a0.ay.length bT],vI a1] w0 (fun e w1=>e= .returned (Value.tuple #[Value.agg #[vI r.1.aS,vB r.1.aO],vB r.2])∧Ext w0 w1):=by
 unfold jd.f at H
 have HS:St [] h0 w0 h0 [] w0:=St.init hv
 go_enter Tryz.func36,Tryz.ntmps36
 refine wp_seq<|region<|dK rfl rfl (dH (cs:=#[vL bQ a0.ay.length bT]) rfl rfl) ?_
 rintro w1 _ hE1 ⟨b1,rfl,ge1,hb1⟩
 have HS1:=HS.new hE1 ge1 hb1
 refine dK rfl rfl (fA (cs:=#[vI 0,vB false]) Tryz.zeroValue29 rfl) ?_
 rintro w2 _ hE2 ⟨b2,rfl,ge2,hb2⟩
 have HS2:=HS1.new hE2 ge2 hb2
 refine rs (vB false) (aC rfl) ?_
 try simp only [sc0,sc1]
 refine aB<|aj<|wp_seq<|region<|rs (Value.agg #[vL bQ a0.ay.length bT]) (aY (n:=1) (vs:=[vL bQ a0.ay.length bT]) rfl Tryz.isAgg24 (HS2.look 1 rfl) Tryz.sizeOf24 rfl rfl)<|rs (vI a1) (aK rfl) ?_
 obtain ⟨v1,H1,H⟩:=bJ H
 refine run_eq (v:=Value.tuple #[vI v1.1,vI v1.2]) rfl rfl (bC Tryz.call72 rfl rfl (kD.calls k a0 a1 bQ bT HS2.sees fB gI H1)) ?_
 intro w3 hE3
 have HS3:=HS2.step hE3
 refine rs (Value.tuple #[vI v1.1,vI v1.2]) (aK rfl)<|aI (by simp only [sc0,sc1];rfl) ?_
 refine rs (vI v1.1) (eU rfl rfl)<|rs (vI v1.2) (eU rfl rfl)<|rs (vI v1.1) (aC rfl)<|rs (vI v1.2) (aC rfl) ?_
 try simp only [sc0,sc1]
 refine aB<|aj<|wp_seq<|wp_seq<|region<|rs (vI v1.2) (aK rfl)<|rs (vB (v1.2 !=0)) (bK rfl rfl rfl) ?_
 try simp only [sc0,sc1]
 refine aB<|aj<|wp_cond_split (t:=(v1.2 !=0)) rfl (fun c1=>?_) (fun c1=>?_)
 ·replace H:=bU H c1
  refine wp_seq<|region<|rs (Value.agg #[vI 0,vB false]) (oW (cs:=[vI 0,vB false]) Tryz.zeroValue29 Tryz.runUnderlying29 (pl:=#[(0,1),(1,1)]) (fun w=>by simp [Tryz.sizeOf3,Tryz.sizeOf4]) rfl) ?_
  refine gq (i:=0) (cs:=[vI 0,vB false]) (cs':=[vI 0,vB false]) (vs:=[vI 0,vB false]) (bs':=[(some b2, .cells #[vI 0,vB false] 29 (0,0)),(some b1, .cells #[vL bQ a0.ay.length bT] 24 (0,0))]) rfl rfl Tryz.sizeOf29 rfl rfl (by decide) rfl HS3 rfl (Nat.le_of_ble_eq_true rfl) rfl rfl ?_
  intro w4 HS4
  refine rs (vB false) (aC rfl) ?_
  try simp only [sc0,sc1]
  refine aB<|aj<|wp_ret<|aX ?_
  obtain rfl:=Option.some.inj H
  exact bodyPost_ret (fO rfl (iP rfl Tryz.isAgg29 (HS4.look 0 rfl) Tryz.sizeOf29 rfl) (aV rfl)) rfl<|⟨rfl,HS4.toE⟩
 ·replace H:=bZ H (nt c1)
  refine wp_skip<|aj<|wp_seq<|wp_seq<|region<|rs (vP b1 0) (aH (n:=1) (o':=0) rfl Tryz.runUnderlying24 rfl Tryz.sizeOf22 (by decide) rfl)<|rs (vL bQ a0.ay.length bT) (aN rfl Tryz.isAgg22 (HS3.look 1 rfl) rfl)<|rs (vI v1.1) (aK rfl) ?_
  obtain ⟨hi1,H⟩:=fE H
  obtain ⟨ad1,dO,dR,e1,kX,jO,iD⟩:=gU fB hi1.1 hi1.2
  refine rs (Value.pointer (some (Addr.add ad1 (v1.1.toNat*7)))) (dQ (sz:=7) rfl e1 rfl hi1.1 hi1.2 Tryz.runUnderlying22 Tryz.sizeOf56)<|aI (by simp only [sc0,sc1];rfl) ?_
  refine rs (Value.agg #[vI ((rd ah a0.ay v1.1).aF),vS ((rd ah a0.ay v1.1).aU),vI ((rd ah a0.ay v1.1).bW.aS),vB ((rd ah a0.ay v1.1).bW.aO),vI ((rd ah a0.ay v1.1).dY),vI ((rd ah a0.ay v1.1).vN),vL dO ((rd ah a0.ay v1.1).au).length dR]) (gK rfl Tryz.isAgg56 (kX.sees HS3.sees) Tryz.sizeOf56)<|dK rfl rfl (fA (cs:=#[vI 0,vS ByteArray.empty,vI 0,vB false,vI 0,vI 0,vL none 0 0]) Tryz.zeroValue56 rfl) ?_
  rintro w5 _ hE4 ⟨b3,rfl,ge3,hb3⟩
  have HS5:=HS3.new hE4 ge3 hb3
  refine gq (i:=0) (cs:=[vI 0,vS ByteArray.empty,vI 0,vB false,vI 0,vI 0,vL none 0 0]) (cs':=[vI ((rd ah a0.ay v1.1).aF),vS ((rd ah a0.ay v1.1).aU),vI ((rd ah a0.ay v1.1).bW.aS),vB ((rd ah a0.ay v1.1).bW.aO),vI ((rd ah a0.ay v1.1).dY),vI ((rd ah a0.ay v1.1).vN),vL dO ((rd ah a0.ay v1.1).au).length dR]) (vs:=[vI ((rd ah a0.ay v1.1).aF),vS ((rd ah a0.ay v1.1).aU),vI ((rd ah a0.ay v1.1).bW.aS),vB ((rd ah a0.ay v1.1).bW.aO),vI ((rd ah a0.ay v1.1).dY),vI ((rd ah a0.ay v1.1).vN),vL dO ((rd ah a0.ay v1.1).au).length dR]) (bs':=[(some b3, .cells #[vI ((rd ah a0.ay v1.1).aF),vS ((rd ah a0.ay v1.1).aU),vI ((rd ah a0.ay v1.1).bW.aS),vB ((rd ah a0.ay v1.1).bW.aO),vI ((rd ah a0.ay v1.1).dY),vI ((rd ah a0.ay v1.1).vN),vL dO ((rd ah a0.ay v1.1).au).length dR] 56 (0,0)),(some b2, .cells #[vI 0,vB false] 29 (0,0)),(some b1, .cells #[vL bQ a0.ay.length bT] 24 (0,0))]) rfl rfl Tryz.sizeOf56 rfl rfl (by decide) rfl HS5 rfl (Nat.le_of_ble_eq_true rfl) rfl rfl ?_
  intro w6 HS6
  try simp only [sc0,sc1]
  refine aB<|aj<|wp_seq<|region<|rs (vP b3 0) (aH (n:=1) (o':=0) rfl Tryz.runUnderlying56 rfl Tryz.sizeOf3 (by decide) rfl)<|rs (vI ((rd ah a0.ay v1.1).aF)) (aN rfl Tryz.isAgg3 (HS6.look 0 rfl) rfl) ?_
  try simp only [sc0,sc1]
  refine aB<|aj<|wp_block<|wp_seq<|region<|rs (vB ((rd ah a0.ay v1.1).aF==1)) (bK rfl rfl rfl)<|rs (vB ((rd ah a0.ay v1.1).aF==1)) (aC rfl) ?_
  try simp only [sc0,sc1]
  refine aB<|aj<|wp_cond_split (t:=((rd ah a0.ay v1.1).aF==1)) rfl (fun c2=>?_) (fun c2=>?_)
  ·replace H:=bU H c2
   refine wp_seq<|region<|rs (vP b3 2) (aH (n:=2) (o':=2) rfl Tryz.runUnderlying56 rfl Tryz.sizeOf29 (by decide) rfl)<|rs (Value.agg #[vI ((rd ah a0.ay v1.1).bW.aS),vB ((rd ah a0.ay v1.1).bW.aO)]) (aY (n:=2) (vs:=[vI ((rd ah a0.ay v1.1).bW.aS),vB ((rd ah a0.ay v1.1).bW.aO)]) rfl Tryz.isAgg29 (HS6.look 0 rfl) Tryz.sizeOf29 rfl rfl)<|gq (i:=1) (cs:=[vI 0,vB false]) (cs':=[vI ((rd ah a0.ay v1.1).bW.aS),vB ((rd ah a0.ay v1.1).bW.aO)]) (vs:=[vI ((rd ah a0.ay v1.1).bW.aS),vB ((rd ah a0.ay v1.1).bW.aO)]) (bs':=[(some b3, .cells #[vI ((rd ah a0.ay v1.1).aF),vS ((rd ah a0.ay v1.1).aU),vI ((rd ah a0.ay v1.1).bW.aS),vB ((rd ah a0.ay v1.1).bW.aO),vI ((rd ah a0.ay v1.1).dY),vI ((rd ah a0.ay v1.1).vN),vL dO ((rd ah a0.ay v1.1).au).length dR] 56 (0,0)),(some b2, .cells #[vI ((rd ah a0.ay v1.1).bW.aS),vB ((rd ah a0.ay v1.1).bW.aO)] 29 (0,0)),(some b1, .cells #[vL bQ a0.ay.length bT] 24 (0,0))]) rfl rfl Tryz.sizeOf29 rfl rfl (by decide) rfl HS6 rfl (Nat.le_of_ble_eq_true rfl) rfl rfl ?_
   intro w7 HS7
   refine rs (vB true) (aC rfl) ?_
   try simp only [sc0,sc1]
   refine aB<|aj<|wp_ret<|dn<|aX ?_
   obtain rfl:=Option.some.inj H
   exact bodyPost_ret (fO rfl (iP rfl Tryz.isAgg29 (HS7.look 1 rfl) Tryz.sizeOf29 rfl) (aV rfl)) rfl<|⟨rfl,HS7.toE⟩
  ·replace H:=bZ H (nt c2)
   refine wp_seq<|region<|rs (vB ((rd ah a0.ay v1.1).aF==5)) (bK rfl rfl rfl)<|rs (vB ((rd ah a0.ay v1.1).aF==5)) (aC rfl) ?_
   try simp only [sc0,sc1]
   refine aB<|aj<|wp_cond_split (t:=((rd ah a0.ay v1.1).aF==5)) rfl (fun c3=>?_) (fun c3=>?_)
   ·replace H:=bU H c3
    refine wp_seq<|region<|rs (Value.agg #[vI 4,vB true]) (iF (cs:=[vI 4,vB true]) (ps:=[(0,vI 4),(1,vB true)]) Tryz.zeroValue29 Tryz.runUnderlying29 (pl:=#[(0,1),(1,1)]) (fun w=>by simp [Tryz.sizeOf3,Tryz.sizeOf4]) (nT (show _=vI 4 from rfl) (show _=vB true from rfl)) rfl) ?_
    refine gq (i:=1) (cs:=[vI 0,vB false]) (cs':=[vI 4,vB true]) (vs:=[vI 4,vB true]) (bs':=[(some b3, .cells #[vI ((rd ah a0.ay v1.1).aF),vS ((rd ah a0.ay v1.1).aU),vI ((rd ah a0.ay v1.1).bW.aS),vB ((rd ah a0.ay v1.1).bW.aO),vI ((rd ah a0.ay v1.1).dY),vI ((rd ah a0.ay v1.1).vN),vL dO ((rd ah a0.ay v1.1).au).length dR] 56 (0,0)),(some b2, .cells #[vI 4,vB true] 29 (0,0)),(some b1, .cells #[vL bQ a0.ay.length bT] 24 (0,0))]) rfl rfl Tryz.sizeOf29 rfl rfl (by decide) rfl HS6 rfl (Nat.le_of_ble_eq_true rfl) rfl rfl ?_
    intro w8 HS8
    refine rs (vB true) (aC rfl) ?_
    try simp only [sc0,sc1]
    refine aB<|aj<|wp_ret<|dn<|aX ?_
    obtain rfl:=Option.some.inj H
    exact bodyPost_ret (fO rfl (iP rfl Tryz.isAgg29 (HS8.look 1 rfl) Tryz.sizeOf29 rfl) (aV rfl)) rfl<|⟨rfl,HS8.toE⟩
   ·replace H:=bZ H (nt c3)
    refine wp_seq<|region<|rs (vB ((rd ah a0.ay v1.1).aF==2)) (bK rfl rfl rfl)<|rs (vB ((rd ah a0.ay v1.1).aF==2)) (aC rfl) ?_
    try simp only [sc0,sc1]
    refine aB<|aj<|wp_cond_split (t:=((rd ah a0.ay v1.1).aF==2)) rfl (fun c4=>?_) (fun c4=>?_)
    ·replace H:=bU H c4
     refine wp_seq<|region<|rs (Value.agg #[vI 8,vB false]) (iF (cs:=[vI 8,vB false]) (ps:=[(0,vI 8)]) Tryz.zeroValue29 Tryz.runUnderlying29 (pl:=#[(0,1),(1,1)]) (fun w=>by simp [Tryz.sizeOf3,Tryz.sizeOf4]) (jZ (show _=vI 8 from rfl)) rfl) ?_
     refine gq (i:=1) (cs:=[vI 0,vB false]) (cs':=[vI 8,vB false]) (vs:=[vI 8,vB false]) (bs':=[(some b3, .cells #[vI ((rd ah a0.ay v1.1).aF),vS ((rd ah a0.ay v1.1).aU),vI ((rd ah a0.ay v1.1).bW.aS),vB ((rd ah a0.ay v1.1).bW.aO),vI ((rd ah a0.ay v1.1).dY),vI ((rd ah a0.ay v1.1).vN),vL dO ((rd ah a0.ay v1.1).au).length dR] 56 (0,0)),(some b2, .cells #[vI 8,vB false] 29 (0,0)),(some b1, .cells #[vL bQ a0.ay.length bT] 24 (0,0))]) rfl rfl Tryz.sizeOf29 rfl rfl (by decide) rfl HS6 rfl (Nat.le_of_ble_eq_true rfl) rfl rfl ?_
     intro w9 HS9
     refine rs (vB true) (aC rfl) ?_
     try simp only [sc0,sc1]
     refine aB<|aj<|wp_ret<|dn<|aX ?_
     obtain rfl:=Option.some.inj H
     exact bodyPost_ret (fO rfl (iP rfl Tryz.isAgg29 (HS9.look 1 rfl) Tryz.sizeOf29 rfl) (aV rfl)) rfl<|⟨rfl,HS9.toE⟩
    ·replace H:=bZ H (nt c4)
     refine wp_skip<|dB<|aj<|wp_seq<|region<|rs (Value.agg #[vI 0,vB false]) (oW (cs:=[vI 0,vB false]) Tryz.zeroValue29 Tryz.runUnderlying29 (pl:=#[(0,1),(1,1)]) (fun w=>by simp [Tryz.sizeOf3,Tryz.sizeOf4]) rfl) ?_
     refine gq (i:=1) (cs:=[vI 0,vB false]) (cs':=[vI 0,vB false]) (vs:=[vI 0,vB false]) (bs':=[(some b3, .cells #[vI ((rd ah a0.ay v1.1).aF),vS ((rd ah a0.ay v1.1).aU),vI ((rd ah a0.ay v1.1).bW.aS),vB ((rd ah a0.ay v1.1).bW.aO),vI ((rd ah a0.ay v1.1).dY),vI ((rd ah a0.ay v1.1).vN),vL dO ((rd ah a0.ay v1.1).au).length dR] 56 (0,0)),(some b2, .cells #[vI 0,vB false] 29 (0,0)),(some b1, .cells #[vL bQ a0.ay.length bT] 24 (0,0))]) rfl rfl Tryz.sizeOf29 rfl rfl (by decide) rfl HS6 rfl (Nat.le_of_ble_eq_true rfl) rfl rfl ?_
     intro w10 qN
     refine rs (vB false) (aC rfl) ?_
     try simp only [sc0,sc1]
     refine aB<|aj<|wp_ret ?_
     obtain rfl:=Option.some.inj H
     exact bodyPost_ret (fO rfl (iP rfl Tryz.isAgg29 (qN.look 1 rfl) Tryz.sizeOf29 rfl) (aV rfl)) rfl<|⟨rfl,qN.toE⟩
def dU.f (a0:bV):Option (Bool):=some ((a0.aF !=2)&&(a0.aF !=3))
theorem dU.calls (a0:bV) (jU:Option Addr) (jV:Nat) {h0:View} {w0:World} (hv:jf h0 w0) (qM:Rd fM h0 jU a0.au) (uZ:a0.au.length≤jV) {r:Bool} (H:dU.f a0=some r):Calls Tryz.prog 78 #[Value.agg #[vI a0.aF,vS a0.aU,vI a0.bW.aS,vB a0.bW.aO,vI a0.dY,vI a0.vN,vL jU a0.au.length jV]] w0 (fun e w1=>e= .returned (vB r)∧Ext w0 w1):=by
 unfold dU.f at H
 have HS:St [] h0 w0 h0 [] w0:=St.init hv
 go_enter Tryz.func78,Tryz.ntmps78
 refine wp_seq<|region<|dK rfl rfl (dH (cs:=#[vI a0.aF,vS a0.aU,vI a0.bW.aS,vB a0.bW.aO,vI a0.dY,vI a0.vN,vL jU a0.au.length jV]) rfl rfl) ?_
 rintro w1 _ hE1 ⟨b1,rfl,ge1,hb1⟩
 have HS1:=HS.new hE1 ge1 hb1
 refine rs (vB false) (aC rfl) ?_
 try simp only [sc0,sc1]
 refine aB<|aj<|wp_seq<|region<|rs (vP b1 0) (aH (n:=1) (o':=0) rfl Tryz.runUnderlying56 rfl Tryz.sizeOf3 (by decide) rfl)<|rs (vI a0.aF) (aN rfl Tryz.isAgg3 (HS1.look 0 rfl) rfl)<|rs (vB (a0.aF !=2)) (bK rfl rfl rfl)<|rs (vB (a0.aF !=2)) (aK rfl)<|aI (by simp only [sc0,sc1];rfl) ?_
 refine rgs (a0.aF !=2) true (vP b1 0) rfl rfl rfl rfl (fun hg=>(aH (n:=1) (o':=0) rfl Tryz.runUnderlying56 rfl Tryz.sizeOf3 (by decide) rfl))<|rgs (a0.aF !=2) true (vI a0.aF) rfl rfl rfl rfl (fun hg=>(aN (gvt (vP b1 0) hg rfl) Tryz.isAgg3 (HS1.look 0 rfl) rfl))<|rgs (a0.aF !=2) true (vB (a0.aF !=3)) rfl rfl rfl rfl (fun hg=>(bK (gvt (vI a0.aF) hg rfl) rfl rfl))<|rs (vB ((a0.aF !=2)&&(a0.aF !=3))) (dw rfl (fun hp=>(gvt (vB (a0.aF !=3)) (gu rfl hp) rfl)) rfl)<|aI (by simp only [sc0,sc1];rfl) ?_
 refine rs (vB ((a0.aF !=2)&&(a0.aF !=3))) (aC rfl) ?_
 try simp only [sc0,sc1]
 refine aB<|aj<|wp_ret ?_
 obtain rfl:=Option.some.inj H
 exact bodyPost_ret (aW rfl (aV rfl)) rfl<|⟨rfl,HS1.toE⟩
def iV.f (a0:bV):Option (Bool):=(dU.f a0).bind fun v1=>(if (v1 !=(!(strEq a0.aU ByteArray.empty)))=true then (some false) else (if ((a0.aF !=1)&&((a0.bW.aS !=0)||a0.bW.aO))=true then (some false) else (if ((((a0.aF !=2)&&(a0.aF !=3))&&(a0.aF !=6))&&(a0.dY !=0))=true then (some false) else (if (((a0.aF !=3)&&(a0.aF !=4))&&(a0.vN !=0))=true then (some false) else (some (((a0.aF==4)||(a0.aF==5))||((a0.au.length:Int)==0)))))))
theorem iV.calls (a0:bV) (jU:Option Addr) (jV:Nat) {h0:View} {w0:World} (hv:jf h0 w0) (qM:Rd fM h0 jU a0.au) (uZ:a0.au.length≤jV) {r:Bool} (H:iV.f a0=some r):Calls Tryz.prog 123 #[Value.agg #[vI a0.aF,vS a0.aU,vI a0.bW.aS,vB a0.bW.aO,vI a0.dY,vI a0.vN,vL jU a0.au.length jV]] w0 (fun e w1=>e= .returned (vB r)∧Ext w0 w1):=by
 unfold iV.f at H
 have HS:St [] h0 w0 h0 [] w0:=St.init hv
 go_enter Tryz.func123,Tryz.ntmps123
 refine wp_seq<|region<|dK rfl rfl (dH (cs:=#[vI a0.aF,vS a0.aU,vI a0.bW.aS,vB a0.bW.aO,vI a0.dY,vI a0.vN,vL jU a0.au.length jV]) rfl rfl) ?_
 rintro w1 _ hE1 ⟨b1,rfl,ge1,hb1⟩
 have HS1:=HS.new hE1 ge1 hb1
 refine rs (vB false) (aC rfl) ?_
 try simp only [sc0,sc1]
 refine aB<|aj<|wp_seq<|wp_seq ?_
 obtain ⟨v1,H1,H⟩:=bJ H
 refine drawn [.eq (Value.agg #[vI a0.aF,vS a0.aU,vI a0.bW.aS,vB a0.bW.aO,vI a0.dY,vI a0.vN,vL jU a0.au.length jV]), .eq (vB v1), .eq (vP b1 1), .eq (vS a0.aU), .eq (vB (!(strEq a0.aU ByteArray.empty))), .eq (vB (v1 !=(!(strEq a0.aU ByteArray.empty))))] [3,4,5,6,7,8] nD (by kernel_rfl) rfl (bn (bn (bn (bn (bn (bn jh)))))) ⟨bI rfl (fun a' w' hE hk=>by have HSd:=HS1.step hE;exact cu (aY (n:=7) (vs:=[vI a0.aF,vS a0.aU,vI a0.bW.aS,vB a0.bW.aO,vI a0.dY,vI a0.vN,vL jU a0.au.length jV]) (show _=vP b1 0 from hk 1 rfl) Tryz.isAgg56 (HSd.look 0 rfl) Tryz.sizeOf56 rfl rfl)),bI rfl (fun a' w' hE hk=>by have HSd:=HS1.step hE;exact (bC Tryz.call78 rfl (OV (show _=Value.agg #[vI a0.aF,vS a0.aU,vI a0.bW.aS,vB a0.bW.aO,vI a0.dY,vI a0.vN,vL jU a0.au.length jV] from hk 3 rfl)) (dU.calls a0 jU jV HSd.sees qM uZ H1))),bI rfl (fun a' w' hE hk=>by have HSd:=HS1.step hE;exact cu (aH (n:=1) (o':=1) (show _=vP b1 0 from hk 1 rfl) Tryz.runUnderlying56 rfl Tryz.sizeOf9 (by decide) rfl)),bI rfl (fun a' w' hE hk=>by have HSd:=HS1.step hE;exact cu (aN (show _=vP b1 1 from hk 5 rfl) Tryz.isAgg9 (HSd.look 0 rfl) rfl)),bI rfl (fun a' w' hE hk=>by have HSd:=HS1.step hE;exact cu (Ci (show _=vS a0.aU from hk 6 rfl) rfl)),bI rfl (fun a' w' hE hk=>by have HSd:=HS1.step hE;exact cu (DV (show _=vB v1 from hk 4 rfl) (show _=vB (!(strEq a0.aU ByteArray.empty)) from hk 7 rfl) Tryz.runUnderlying4)),trivial⟩ ?_
 intro w2 hE2
 simp only [List.zip_cons_cons,List.zip_nil_left,List.zip_nil_right,yh,sc0,sc1,List.length_cons,List.length_nil,List.drop_succ_cons,List.drop_zero,Nat.zero_add,Nat.reduceAdd]
 have HS2:=HS1.step hE2
 refine aB<|aj<|wp_cond_split (t:=(v1 !=(!(strEq a0.aU ByteArray.empty)))) rfl (fun c1=>?_) (fun c1=>?_)
 ·replace H:=bU H c1
  refine wp_seq<|region<|rs (vB false) (aC rfl) ?_
  try simp only [sc0,sc1]
  refine aB<|aj<|wp_ret<|aX ?_
  obtain rfl:=Option.some.inj H
  exact bodyPost_ret (aW rfl (aV rfl)) rfl<|⟨rfl,HS2.toE⟩
 ·replace H:=bZ H (nt c1)
  refine wp_skip<|aj<|wp_seq<|wp_seq<|region<|rs (vP b1 0) (aH (n:=1) (o':=0) rfl Tryz.runUnderlying56 rfl Tryz.sizeOf3 (by decide) rfl)<|rs (vI a0.aF) (aN rfl Tryz.isAgg3 (HS2.look 0 rfl) rfl)<|rs (vB (a0.aF !=1)) (bK rfl rfl rfl)<|rs (vB (a0.aF !=1)) (aK rfl)<|aI (by simp only [sc0,sc1];rfl) ?_
  refine rgs (a0.aF !=1) true (vP b1 2) rfl rfl rfl rfl (fun hg=>(aH (n:=2) (o':=2) rfl Tryz.runUnderlying56 rfl Tryz.sizeOf29 (by decide) rfl))<|rgs (a0.aF !=1) true (vP b1 2) rfl rfl rfl rfl (fun hg=>(aH (n:=1) (o':=2) (gvt (vP b1 2) hg rfl) Tryz.runUnderlying29 rfl Tryz.sizeOf3 (by decide) rfl))<|rgs (a0.aF !=1) true (vI a0.bW.aS) rfl rfl rfl rfl (fun hg=>(aN (gvt (vP b1 2) hg rfl) Tryz.isAgg3 (HS2.look 0 rfl) rfl))<|rgs (a0.aF !=1) true (vB (a0.bW.aS !=0)) rfl rfl rfl rfl (fun hg=>(bK (gvt (vI a0.bW.aS) hg rfl) rfl rfl))<|aI (by simp only [sc0,sc1];rfl) ?_
  refine rgs (a0.aF !=1) true (vB (a0.bW.aS !=0)) rfl rfl rfl rfl (fun hg=>(aK (gvt (vB (a0.bW.aS !=0)) hg rfl)))<|rgs (a0.bW.aS !=0) (true&&((a0.aF !=1)==true)) (vP b1 2) rfl rfl rfl rfl (fun hg=>(aH (n:=2) (o':=2) rfl Tryz.runUnderlying56 rfl Tryz.sizeOf29 (by decide) rfl))<|rgs (a0.bW.aS !=0) (true&&((a0.aF !=1)==true)) (vP b1 3) rfl rfl rfl rfl (fun hg=>(aH (n:=1) (o':=3) (gvt (vP b1 2) hg rfl) Tryz.runUnderlying29 rfl Tryz.sizeOf4 (by decide) rfl))<|rgs (a0.bW.aS !=0) (true&&((a0.aF !=1)==true)) (vB a0.bW.aO) rfl rfl rfl rfl (fun hg=>(aN (gvt (vP b1 3) hg rfl) Tryz.isAgg4 (HS2.look 0 rfl) rfl))<|aI (by simp only [sc0,sc1];rfl) ?_
  refine rgs (a0.aF !=1) true (vB ((a0.bW.aS !=0)||a0.bW.aO)) rfl rfl rfl rfl (fun hg=>(dV (gvt (vB (a0.bW.aS !=0)) hg rfl) rfl (fun hp=>(gvt (vB a0.bW.aO) (gu hg hp) rfl))))<|rs (vB ((a0.aF !=1)&&((a0.bW.aS !=0)||a0.bW.aO))) (dw rfl (fun hp=>(gvt (vB ((a0.bW.aS !=0)||a0.bW.aO)) (gu rfl hp) rfl)) rfl) ?_
  try simp only [sc0,sc1]
  refine aB<|aj<|wp_cond_split (t:=((a0.aF !=1)&&((a0.bW.aS !=0)||a0.bW.aO))) rfl (fun c2=>?_) (fun c2=>?_)
  ·replace H:=bU H c2
   refine wp_seq<|region<|rs (vB false) (aC rfl) ?_
   try simp only [sc0,sc1]
   refine aB<|aj<|wp_ret<|aX ?_
   obtain rfl:=Option.some.inj H
   exact bodyPost_ret (aW rfl (aV rfl)) rfl<|⟨rfl,HS2.toE⟩
  ·replace H:=bZ H (nt c2)
   refine wp_skip<|aj<|wp_seq<|wp_seq<|region<|rs (vP b1 0) (aH (n:=1) (o':=0) rfl Tryz.runUnderlying56 rfl Tryz.sizeOf3 (by decide) rfl)<|rs (vI a0.aF) (aN rfl Tryz.isAgg3 (HS2.look 0 rfl) rfl)<|rs (vB (a0.aF !=2)) (bK rfl rfl rfl)<|rs (vB (a0.aF !=2)) (aK rfl)<|aI (by simp only [sc0,sc1];rfl) ?_
   refine rgs (a0.aF !=2) true (vP b1 0) rfl rfl rfl rfl (fun hg=>(aH (n:=1) (o':=0) rfl Tryz.runUnderlying56 rfl Tryz.sizeOf3 (by decide) rfl))<|rgs (a0.aF !=2) true (vI a0.aF) rfl rfl rfl rfl (fun hg=>(aN (gvt (vP b1 0) hg rfl) Tryz.isAgg3 (HS2.look 0 rfl) rfl))<|rgs (a0.aF !=2) true (vB (a0.aF !=3)) rfl rfl rfl rfl (fun hg=>(bK (gvt (vI a0.aF) hg rfl) rfl rfl))<|rs (vB ((a0.aF !=2)&&(a0.aF !=3))) (dw rfl (fun hp=>(gvt (vB (a0.aF !=3)) (gu rfl hp) rfl)) rfl)<|aI (by simp only [sc0,sc1];rfl) ?_
   refine rs (vB ((a0.aF !=2)&&(a0.aF !=3))) (aK rfl)<|rgs ((a0.aF !=2)&&(a0.aF !=3)) true (vP b1 0) rfl rfl rfl rfl (fun hg=>(aH (n:=1) (o':=0) rfl Tryz.runUnderlying56 rfl Tryz.sizeOf3 (by decide) rfl))<|rgs ((a0.aF !=2)&&(a0.aF !=3)) true (vI a0.aF) rfl rfl rfl rfl (fun hg=>(aN (gvt (vP b1 0) hg rfl) Tryz.isAgg3 (HS2.look 0 rfl) rfl))<|rgs ((a0.aF !=2)&&(a0.aF !=3)) true (vB (a0.aF !=6)) rfl rfl rfl rfl (fun hg=>(bK (gvt (vI a0.aF) hg rfl) rfl rfl))<|aI (by simp only [sc0,sc1];rfl) ?_
   refine rs (vB (((a0.aF !=2)&&(a0.aF !=3))&&(a0.aF !=6))) (dw rfl (fun hp=>(gvt (vB (a0.aF !=6)) (gu rfl hp) rfl)) rfl)<|rs (vB (((a0.aF !=2)&&(a0.aF !=3))&&(a0.aF !=6))) (aK rfl)<|rgs (((a0.aF !=2)&&(a0.aF !=3))&&(a0.aF !=6)) true (vP b1 4) rfl rfl rfl rfl (fun hg=>(aH (n:=1) (o':=4) rfl Tryz.runUnderlying56 rfl Tryz.sizeOf3 (by decide) rfl))<|rgs (((a0.aF !=2)&&(a0.aF !=3))&&(a0.aF !=6)) true (vI a0.dY) rfl rfl rfl rfl (fun hg=>(aN (gvt (vP b1 4) hg rfl) Tryz.isAgg3 (HS2.look 0 rfl) rfl))<|aI (by simp only [sc0,sc1];rfl) ?_
   refine rgs (((a0.aF !=2)&&(a0.aF !=3))&&(a0.aF !=6)) true (vB (a0.dY !=0)) rfl rfl rfl rfl (fun hg=>(bK (gvt (vI a0.dY) hg rfl) rfl rfl))<|rs (vB ((((a0.aF !=2)&&(a0.aF !=3))&&(a0.aF !=6))&&(a0.dY !=0))) (dw rfl (fun hp=>(gvt (vB (a0.dY !=0)) (gu rfl hp) rfl)) rfl) ?_
   try simp only [sc0,sc1]
   refine aB<|aj<|wp_cond_split (t:=((((a0.aF !=2)&&(a0.aF !=3))&&(a0.aF !=6))&&(a0.dY !=0))) rfl (fun c3=>?_) (fun c3=>?_)
   ·replace H:=bU H c3
    refine wp_seq<|region<|rs (vB false) (aC rfl) ?_
    try simp only [sc0,sc1]
    refine aB<|aj<|wp_ret<|aX ?_
    obtain rfl:=Option.some.inj H
    exact bodyPost_ret (aW rfl (aV rfl)) rfl<|⟨rfl,HS2.toE⟩
   ·replace H:=bZ H (nt c3)
    refine wp_skip<|aj<|wp_seq<|wp_seq<|region<|rs (vP b1 0) (aH (n:=1) (o':=0) rfl Tryz.runUnderlying56 rfl Tryz.sizeOf3 (by decide) rfl)<|rs (vI a0.aF) (aN rfl Tryz.isAgg3 (HS2.look 0 rfl) rfl)<|rs (vB (a0.aF !=3)) (bK rfl rfl rfl)<|rs (vB (a0.aF !=3)) (aK rfl)<|aI (by simp only [sc0,sc1];rfl) ?_
    refine rgs (a0.aF !=3) true (vP b1 0) rfl rfl rfl rfl (fun hg=>(aH (n:=1) (o':=0) rfl Tryz.runUnderlying56 rfl Tryz.sizeOf3 (by decide) rfl))<|rgs (a0.aF !=3) true (vI a0.aF) rfl rfl rfl rfl (fun hg=>(aN (gvt (vP b1 0) hg rfl) Tryz.isAgg3 (HS2.look 0 rfl) rfl))<|rgs (a0.aF !=3) true (vB (a0.aF !=4)) rfl rfl rfl rfl (fun hg=>(bK (gvt (vI a0.aF) hg rfl) rfl rfl))<|rs (vB ((a0.aF !=3)&&(a0.aF !=4))) (dw rfl (fun hp=>(gvt (vB (a0.aF !=4)) (gu rfl hp) rfl)) rfl)<|aI (by simp only [sc0,sc1];rfl) ?_
    refine rs (vB ((a0.aF !=3)&&(a0.aF !=4))) (aK rfl)<|rgs ((a0.aF !=3)&&(a0.aF !=4)) true (vP b1 5) rfl rfl rfl rfl (fun hg=>(aH (n:=1) (o':=5) rfl Tryz.runUnderlying56 rfl Tryz.sizeOf3 (by decide) rfl))<|rgs ((a0.aF !=3)&&(a0.aF !=4)) true (vI a0.vN) rfl rfl rfl rfl (fun hg=>(aN (gvt (vP b1 5) hg rfl) Tryz.isAgg3 (HS2.look 0 rfl) rfl))<|rgs ((a0.aF !=3)&&(a0.aF !=4)) true (vB (a0.vN !=0)) rfl rfl rfl rfl (fun hg=>(bK (gvt (vI a0.vN) hg rfl) rfl rfl))<|aI (by simp only [sc0,sc1];rfl) ?_
    refine rs (vB (((a0.aF !=3)&&(a0.aF !=4))&&(a0.vN !=0))) (dw rfl (fun hp=>(gvt (vB (a0.vN !=0)) (gu rfl hp) rfl)) rfl) ?_
    try simp only [sc0,sc1]
    refine aB<|aj<|wp_cond_split (t:=(((a0.aF !=3)&&(a0.aF !=4))&&(a0.vN !=0))) rfl (fun c4=>?_) (fun c4=>?_)
    ·replace H:=bU H c4
     refine wp_seq<|region<|rs (vB false) (aC rfl) ?_
     try simp only [sc0,sc1]
     refine aB<|aj<|wp_ret<|aX ?_
     obtain rfl:=Option.some.inj H
     exact bodyPost_ret (aW rfl (aV rfl)) rfl<|⟨rfl,HS2.toE⟩
    ·replace H:=bZ H (nt c4)
     refine wp_skip<|aj<|wp_seq<|region<|rs (vP b1 0) (aH (n:=1) (o':=0) rfl Tryz.runUnderlying56 rfl Tryz.sizeOf3 (by decide) rfl)<|rs (vI a0.aF) (aN rfl Tryz.isAgg3 (HS2.look 0 rfl) rfl)<|rs (vB (a0.aF==4)) (bK rfl rfl rfl)<|rs (vB (a0.aF==4)) (aK rfl)<|aI (by simp only [sc0,sc1];rfl) ?_
     refine rgs (a0.aF==4) true (vP b1 0) rfl rfl rfl rfl (fun hg=>(aH (n:=1) (o':=0) rfl Tryz.runUnderlying56 rfl Tryz.sizeOf3 (by decide) rfl))<|rgs (a0.aF==4) true (vI a0.aF) rfl rfl rfl rfl (fun hg=>(aN (gvt (vP b1 0) hg rfl) Tryz.isAgg3 (HS2.look 0 rfl) rfl))<|rgs (a0.aF==4) true (vB (a0.aF==5)) rfl rfl rfl rfl (fun hg=>(bK (gvt (vI a0.aF) hg rfl) rfl rfl))<|rs (vB ((a0.aF==4)||(a0.aF==5))) (dV rfl rfl (fun hp=>(gvt (vB (a0.aF==5)) (gu rfl hp) rfl)))<|aI (by simp only [sc0,sc1];rfl) ?_
     refine rs (vB ((a0.aF==4)||(a0.aF==5))) (aK rfl)<|rgs ((a0.aF==4)||(a0.aF==5)) true (vP b1 6) rfl rfl rfl rfl (fun hg=>(aH (n:=1) (o':=6) rfl Tryz.runUnderlying56 rfl Tryz.sizeOf54 (by decide) rfl))<|rgs ((a0.aF==4)||(a0.aF==5)) true (vL jU a0.au.length jV) rfl rfl rfl rfl (fun hg=>(aN (gvt (vP b1 6) hg rfl) Tryz.isAgg54 (HS2.look 0 rfl) rfl))<|rgs ((a0.aF==4)||(a0.aF==5)) true (vI (a0.au.length:Int)) rfl rfl rfl rfl (fun hg=>(iT (gvt (vL jU a0.au.length jV) hg rfl) Tryz.runUnderlying54))<|aI (by simp only [sc0,sc1];rfl) ?_
     refine rgs ((a0.aF==4)||(a0.aF==5)) true (vB ((a0.au.length:Int)==0)) rfl rfl rfl rfl (fun hg=>(bK (gvt (vI (a0.au.length:Int)) hg rfl) rfl rfl))<|rs (vB (((a0.aF==4)||(a0.aF==5))||((a0.au.length:Int)==0))) (dV rfl rfl (fun hp=>(gvt (vB ((a0.au.length:Int)==0)) (gu rfl hp) rfl)))<|rs (vB (((a0.aF==4)||(a0.aF==5))||((a0.au.length:Int)==0))) (aC rfl) ?_
     try simp only [sc0,sc1]
     refine aB<|aj<|wp_ret ?_
     obtain rfl:=Option.some.inj H
     exact bodyPost_ret (aW rfl (aV rfl)) rfl<|⟨rfl,HS2.toE⟩
def dW.l0 (a0:ByteArray):Nat→Int→Option ((Bool)⊕(Unit))
 |0,_=>none
 |m+1,aG=>if (decide (aG<(a0.size:Int)))=true then (if 0≤aG∧aG<(a0.size:Int) then (if ((!((((decide ((byteAt a0 aG)≥97))&&(decide ((byteAt a0 aG)≤122)))||((decide ((byteAt a0 aG)≥65))&&(decide ((byteAt a0 aG)≤90))))||((byteAt a0 aG)==95)))&&(((aG==0)||(decide ((byteAt a0 aG)<48)))||(decide ((byteAt a0 aG)>57))))=true then (some (.inl false)) else (dW.l0 a0 m (IntKind.wrap .i64 (aG+1)))) else none) else (some (.inr ()))
def dW.f (k:Nat) (a0:ByteArray):Option (Bool):=if (((a0.size:Int)==0)||(decide ((a0.size:Int)>31)))=true then (some false) else ((dW.l0 a0 k 0).bind fun xx1=>(match xx1 with| .inl r=>some r| .inr s1=>some true))
theorem dW.calls (k : Nat) (a0 : ByteArray)  {h0 : View} {w0 : World} (hv : jf h0 w0) {r : Bool} (H : dW.f k a0 = some r) : Calls Tryz.prog 124 #[Value.string a0] w0 (fun e w1 => e = .returned (Value.bool r) ∧ Ext w0 w1) := by
  unfold dW.f at H
  have HS:St [] h0 w0 h0 [] w0:=St.init hv
  go_enter Tryz.func124,Tryz.ntmps124
  refine wp_seq ?_
  refine region ?_
  refine eY (v:=Value.bool false) rfl rfl (aC rfl) ?_
  try simp only [List.set_cons_zero,List.set_cons_succ]
  refine aB ?_
  refine aj ?_
  refine wp_seq ?_
  refine wp_seq ?_
  refine region ?_
  refine eY (v:=Value.string a0) rfl rfl (aK rfl) ?_
  refine eY (v:=Value.int .i64 (a0.size:Int)) rfl rfl (xQ rfl Tryz.runUnderlying9) ?_
  refine eY (v:=Value.bool ((a0.size:Int)==0)) rfl rfl (bK rfl rfl rfl) ?_
  refine eY (v:=Value.bool ((a0.size:Int)==0)) rfl rfl (aK rfl) ?_
  refine aI (by simp only [List.set_cons_zero,List.set_cons_succ];rfl) ?_
  refine fV (b:=((a0.size:Int)==0)) (c:=true) (v:=Value.string a0) rfl rfl rfl rfl (fun hg=>(aK rfl)) ?_
  refine fV (b:=((a0.size:Int)==0)) (c:=true) (v:=Value.int .i64 (a0.size:Int)) rfl rfl rfl rfl (fun hg=>(xQ ((show _=gv (true&&(((a0.size:Int)==0)==false)) (Value.string a0) from rfl).trans (pK hg)) Tryz.runUnderlying9)) ?_
  refine fV (b:=((a0.size:Int)==0)) (c:=true) (v:=Value.bool (decide ((a0.size:Int)>31))) rfl rfl rfl rfl (fun hg=>(bK ((show _=gv (true&&(((a0.size:Int)==0)==false)) (Value.int .i64 (a0.size:Int)) from rfl).trans (pK hg)) rfl rfl)) ?_
  refine eY (v:=Value.bool (((a0.size:Int)==0)||(decide ((a0.size:Int)>31)))) rfl rfl (dV rfl rfl (fun hp=>((show _=gv (true&&(((a0.size:Int)==0)==false)) (Value.bool (decide ((a0.size:Int)>31))) from rfl).trans (pK (gu rfl hp))))) ?_
  try simp only [List.set_cons_zero,List.set_cons_succ]
  refine aB ?_
  refine aj ?_
  refine wp_cond_split (t:=(((a0.size:Int)==0)||(decide ((a0.size:Int)>31)))) rfl (fun c1=>?_) (fun c1=>?_)
  · replace H:=bU H c1
    refine wp_seq ?_
    refine region ?_
    refine eY (v:=Value.bool false) rfl rfl (aC rfl) ?_
    try simp only [List.set_cons_zero,List.set_cons_succ]
    refine aB ?_
    refine aj ?_
    refine wp_ret ?_
    refine aX ?_
    obtain rfl:=Option.some.inj H
    refine bodyPost_ret (aW rfl (aV rfl)) rfl ?_
    exact ⟨rfl,HS.toE⟩
  · replace H := bZ H (nt c1)
    refine wp_skip ?_
    refine aj ?_
    refine wp_seq ?_
    refine wp_seq ?_
    refine region ?_
    refine eY (v:=Value.int .i64 0) rfl rfl (aC rfl) ?_
    try simp only [List.set_cons_zero,List.set_cons_succ]
    refine aB ?_
    refine aj ?_
    obtain ⟨xx1,H,G1⟩:=bJ H
    refine iW [2,3,4,5,14,15,16,17,18,19,20,21,22,23,24,25,26,27,28,29,30,31,32,33,34,35,36,37,38,39,40,41,42,43,44,45,46,47,48,49,50,51,52,53,54] (fun m us w'=>∃(aG:Int),Fit us (fun uy1=>[(uy1 0),Value.int .i64 aG,(uy1 2),(uy1 3),(uy1 4),(uy1 5),(uy1 6),(uy1 7),(uy1 8),(uy1 9),(uy1 10),(uy1 11),(uy1 12),(uy1 13),(uy1 14),(uy1 15),(uy1 16),(uy1 17),(uy1 18),(uy1 19),(uy1 20),(uy1 21),(uy1 22),(uy1 23),(uy1 24),(uy1 25),(uy1 26),(uy1 27),(uy1 28),(uy1 29),(uy1 30),(uy1 31),(uy1 32),(uy1 33),(uy1 34),(uy1 35),(uy1 36),(uy1 37),(uy1 38),(uy1 39),(uy1 40),(uy1 41),(uy1 42),(uy1 43),(uy1 44)])∧dW.l0 a0 m aG=some xx1∧St [] h0 w0 h0 [] w') (fun us w'=>∃(s1:Unit),xx1= .inr s1∧Fit us (fun uo1=>[(uo1 0),(uo1 1),(uo1 2),(uo1 3),(uo1 4),(uo1 5),(uo1 6),(uo1 7),(uo1 8),(uo1 9),(uo1 10),(uo1 11),(uo1 12),(uo1 13),(uo1 14),(uo1 15),(uo1 16),(uo1 17),(uo1 18),(uo1 19),(uo1 20),(uo1 21),(uo1 22),(uo1 23),(uo1 24),(uo1 25),(uo1 26),(uo1 27),(uo1 28),(uo1 29),(uo1 30),(uo1 31),(uo1 32),(uo1 33),(uo1 34),(uo1 35),(uo1 36),(uo1 37),(uo1 38),(uo1 39),(uo1 40),(uo1 41),(uo1 42),(uo1 43),(uo1 44)])∧St [] h0 w0 h0 [] w') k ⟨0,(fit rfl),H,HS⟩ ?_ ?_
    · rintro m us w1 ⟨aG,lZ,H,HS1⟩
      obtain ⟨uy1,rfl⟩:=unj lZ
      cases m with
      |zero=>exact absurd H (by simp [dW.l0])
      | succ m =>
        rw [dW.l0] at H
        try simp only [patch,List.set_cons_zero,List.set_cons_succ]
        refine wp_seq ?_
        refine wp_seq ?_
        refine region ?_
        refine eY (v:=Value.int .i64 aG) rfl rfl (aK rfl) ?_
        refine eY (v:=Value.string a0) rfl rfl (aK rfl) ?_
        refine eY (v:=Value.int .i64 (a0.size:Int)) rfl rfl (xQ rfl Tryz.runUnderlying9) ?_
        refine eY (v:=Value.bool (decide (aG<(a0.size:Int)))) rfl rfl (bK rfl rfl rfl) ?_
        try simp only [List.set_cons_zero,List.set_cons_succ]
        refine aB ?_
        refine aj ?_
        refine wp_cond_split (t:=(decide (aG<(a0.size:Int)))) rfl (fun c2=>?_) (fun c2=>?_)
        · replace H:=bU H c2
          refine wp_skip ?_
          refine aj ?_
          refine wp_seq ?_
          refine wp_block ?_
          refine wp_seq ?_
          refine region ?_
          refine eY (v:=Value.string a0) rfl rfl (aK rfl) ?_
          refine eY (v:=Value.int .i64 aG) rfl rfl (aK rfl) ?_
          obtain ⟨hi1,H⟩:=fE H
          refine eY (v:=Value.int .u8 (byteAt a0 aG)) rfl rfl (IV rfl rfl hi1 Tryz.runUnderlying9) ?_
          refine eY (v:=Value.int .u8 (byteAt a0 aG)) rfl rfl (aC rfl) ?_
          try simp only [List.set_cons_zero,List.set_cons_succ]
          refine aB ?_
          refine aj ?_
          refine wp_seq ?_
          refine region ?_
          refine eY (v:=Value.int .u8 (byteAt a0 aG)) rfl rfl (aK rfl) ?_
          refine eY (v:=Value.bool (decide ((byteAt a0 aG)≥97))) rfl rfl (bK rfl rfl rfl) ?_
          refine eY (v:=Value.bool (decide ((byteAt a0 aG)≥97))) rfl rfl (aK rfl) ?_
          refine fV (b:=(decide ((byteAt a0 aG)≥97))) (c:=true) (v:=Value.int .u8 (byteAt a0 aG)) rfl rfl rfl rfl (fun hg=>(aK rfl)) ?_
          refine aI (by simp only [List.set_cons_zero,List.set_cons_succ];rfl) ?_
          refine fV (b:=(decide ((byteAt a0 aG)≥97))) (c:=true) (v:=Value.bool (decide ((byteAt a0 aG)≤122))) rfl rfl rfl rfl (fun hg=>(bK ((show _=gv (true&&((decide ((byteAt a0 aG)≥97))==true)) (Value.int .u8 (byteAt a0 aG)) from rfl).trans (pK hg)) rfl rfl)) ?_
          refine eY (v:=Value.bool ((decide ((byteAt a0 aG)≥97))&&(decide ((byteAt a0 aG)≤122)))) rfl rfl (dw rfl (fun hp=>((show _=gv (true&&((decide ((byteAt a0 aG)≥97))==true)) (Value.bool (decide ((byteAt a0 aG)≤122))) from rfl).trans (pK (gu rfl hp)))) rfl) ?_
          refine eY (v:=Value.bool ((decide ((byteAt a0 aG)≥97))&&(decide ((byteAt a0 aG)≤122)))) rfl rfl (aK rfl) ?_
          refine fV (b:=((decide ((byteAt a0 aG)≥97))&&(decide ((byteAt a0 aG)≤122)))) (c:=true) (v:=Value.int .u8 (byteAt a0 aG)) rfl rfl rfl rfl (fun hg=>(aK rfl)) ?_
          refine aI (by simp only [List.set_cons_zero,List.set_cons_succ];rfl) ?_
          refine fV (b:=((decide ((byteAt a0 aG)≥97))&&(decide ((byteAt a0 aG)≤122)))) (c:=true) (v:=Value.bool (decide ((byteAt a0 aG)≥65))) rfl rfl rfl rfl (fun hg=>(bK ((show _=gv (true&&(((decide ((byteAt a0 aG)≥97))&&(decide ((byteAt a0 aG)≤122)))==false)) (Value.int .u8 (byteAt a0 aG)) from rfl).trans (pK hg)) rfl rfl)) ?_
          refine fV (b:=((decide ((byteAt a0 aG)≥97))&&(decide ((byteAt a0 aG)≤122)))) (c:=true) (v:=Value.bool (decide ((byteAt a0 aG)≥65))) rfl rfl rfl rfl (fun hg=>(aK ((show _=gv (true&&(((decide ((byteAt a0 aG)≥97))&&(decide ((byteAt a0 aG)≤122)))==false)) (Value.bool (decide ((byteAt a0 aG)≥65))) from rfl).trans (pK hg)))) ?_
          refine fV (b:=(decide ((byteAt a0 aG)≥65))) (c:=(true&&(((decide ((byteAt a0 aG)≥97))&&(decide ((byteAt a0 aG)≤122)))==false))) (v:=Value.int .u8 (byteAt a0 aG)) rfl rfl rfl rfl (fun hg=>(aK rfl)) ?_
          refine fV (b:=(decide ((byteAt a0 aG)≥65))) (c:=(true&&(((decide ((byteAt a0 aG)≥97))&&(decide ((byteAt a0 aG)≤122)))==false))) (v:=Value.bool (decide ((byteAt a0 aG)≤90))) rfl rfl rfl rfl (fun hg=>(bK ((show _=gv ((true&&(((decide ((byteAt a0 aG)≥97))&&(decide ((byteAt a0 aG)≤122)))==false))&&((decide ((byteAt a0 aG)≥65))==true)) (Value.int .u8 (byteAt a0 aG)) from rfl).trans (pK hg)) rfl rfl)) ?_
          refine aI (by simp only [List.set_cons_zero,List.set_cons_succ];rfl) ?_
          refine fV (b:=((decide ((byteAt a0 aG)≥97))&&(decide ((byteAt a0 aG)≤122)))) (c:=true) (v:=Value.bool ((decide ((byteAt a0 aG)≥65))&&(decide ((byteAt a0 aG)≤90)))) rfl rfl rfl rfl (fun hg=>(dw ((show _=gv (true&&(((decide ((byteAt a0 aG)≥97))&&(decide ((byteAt a0 aG)≤122)))==false)) (Value.bool (decide ((byteAt a0 aG)≥65))) from rfl).trans (pK hg)) (fun hp=>((show _=gv ((true&&(((decide ((byteAt a0 aG)≥97))&&(decide ((byteAt a0 aG)≤122)))==false))&&((decide ((byteAt a0 aG)≥65))==true)) (Value.bool (decide ((byteAt a0 aG)≤90))) from rfl).trans (pK (gu hg hp)))) rfl)) ?_
          refine eY (v:=Value.bool (((decide ((byteAt a0 aG)≥97))&&(decide ((byteAt a0 aG)≤122)))||((decide ((byteAt a0 aG)≥65))&&(decide ((byteAt a0 aG)≤90))))) rfl rfl (dV rfl rfl (fun hp=>((show _=gv (true&&(((decide ((byteAt a0 aG)≥97))&&(decide ((byteAt a0 aG)≤122)))==false)) (Value.bool ((decide ((byteAt a0 aG)≥65))&&(decide ((byteAt a0 aG)≤90)))) from rfl).trans (pK (gu rfl hp))))) ?_
          refine eY (v:=Value.bool (((decide ((byteAt a0 aG)≥97))&&(decide ((byteAt a0 aG)≤122)))||((decide ((byteAt a0 aG)≥65))&&(decide ((byteAt a0 aG)≤90))))) rfl rfl (aK rfl) ?_
          refine fV (b:=(((decide ((byteAt a0 aG)≥97))&&(decide ((byteAt a0 aG)≤122)))||((decide ((byteAt a0 aG)≥65))&&(decide ((byteAt a0 aG)≤90))))) (c:=true) (v:=Value.int .u8 (byteAt a0 aG)) rfl rfl rfl rfl (fun hg=>(aK rfl)) ?_
          refine aI (by simp only [List.set_cons_zero,List.set_cons_succ];rfl) ?_
          refine fV (b:=(((decide ((byteAt a0 aG)≥97))&&(decide ((byteAt a0 aG)≤122)))||((decide ((byteAt a0 aG)≥65))&&(decide ((byteAt a0 aG)≤90))))) (c:=true) (v:=Value.bool ((byteAt a0 aG)==95)) rfl rfl rfl rfl (fun hg=>(bK ((show _=gv (true&&((((decide ((byteAt a0 aG)≥97))&&(decide ((byteAt a0 aG)≤122)))||((decide ((byteAt a0 aG)≥65))&&(decide ((byteAt a0 aG)≤90))))==false)) (Value.int .u8 (byteAt a0 aG)) from rfl).trans (pK hg)) rfl rfl)) ?_
          refine eY (v:=Value.bool ((((decide ((byteAt a0 aG)≥97))&&(decide ((byteAt a0 aG)≤122)))||((decide ((byteAt a0 aG)≥65))&&(decide ((byteAt a0 aG)≤90))))||((byteAt a0 aG)==95))) rfl rfl (dV rfl rfl (fun hp=>((show _=gv (true&&((((decide ((byteAt a0 aG)≥97))&&(decide ((byteAt a0 aG)≤122)))||((decide ((byteAt a0 aG)≥65))&&(decide ((byteAt a0 aG)≤90))))==false)) (Value.bool ((byteAt a0 aG)==95)) from rfl).trans (pK (gu rfl hp))))) ?_
          refine eY (v:=Value.bool ((((decide ((byteAt a0 aG)≥97))&&(decide ((byteAt a0 aG)≤122)))||((decide ((byteAt a0 aG)≥65))&&(decide ((byteAt a0 aG)≤90))))||((byteAt a0 aG)==95))) rfl rfl (aC rfl) ?_
          try simp only [List.set_cons_zero,List.set_cons_succ]
          refine aB ?_
          refine aj ?_
          refine wp_seq ?_
          refine region ?_
          refine eY (v:=Value.bool ((((decide ((byteAt a0 aG)≥97))&&(decide ((byteAt a0 aG)≤122)))||((decide ((byteAt a0 aG)≥65))&&(decide ((byteAt a0 aG)≤90))))||((byteAt a0 aG)==95))) rfl rfl (aK rfl) ?_
          refine eY (v:=Value.bool (!((((decide ((byteAt a0 aG)≥97))&&(decide ((byteAt a0 aG)≤122)))||((decide ((byteAt a0 aG)≥65))&&(decide ((byteAt a0 aG)≤90))))||((byteAt a0 aG)==95)))) rfl rfl (kN rfl) ?_
          refine eY (v:=Value.bool (!((((decide ((byteAt a0 aG)≥97))&&(decide ((byteAt a0 aG)≤122)))||((decide ((byteAt a0 aG)≥65))&&(decide ((byteAt a0 aG)≤90))))||((byteAt a0 aG)==95)))) rfl rfl (aK rfl) ?_
          refine fV (b:=(!((((decide ((byteAt a0 aG)≥97))&&(decide ((byteAt a0 aG)≤122)))||((decide ((byteAt a0 aG)≥65))&&(decide ((byteAt a0 aG)≤90))))||((byteAt a0 aG)==95)))) (c:=true) (v:=Value.int .i64 aG) rfl rfl rfl rfl (fun hg=>(aK rfl)) ?_
          refine aI (by simp only [List.set_cons_zero,List.set_cons_succ];rfl) ?_
          refine fV (b:=(!((((decide ((byteAt a0 aG)≥97))&&(decide ((byteAt a0 aG)≤122)))||((decide ((byteAt a0 aG)≥65))&&(decide ((byteAt a0 aG)≤90))))||((byteAt a0 aG)==95)))) (c:=true) (v:=Value.bool (aG==0)) rfl rfl rfl rfl (fun hg=>(bK ((show _=gv (true&&((!((((decide ((byteAt a0 aG)≥97))&&(decide ((byteAt a0 aG)≤122)))||((decide ((byteAt a0 aG)≥65))&&(decide ((byteAt a0 aG)≤90))))||((byteAt a0 aG)==95)))==true)) (Value.int .i64 aG) from rfl).trans (pK hg)) rfl rfl)) ?_
          refine fV (b:=(!((((decide ((byteAt a0 aG)≥97))&&(decide ((byteAt a0 aG)≤122)))||((decide ((byteAt a0 aG)≥65))&&(decide ((byteAt a0 aG)≤90))))||((byteAt a0 aG)==95)))) (c:=true) (v:=Value.bool (aG==0)) rfl rfl rfl rfl (fun hg=>(aK ((show _=gv (true&&((!((((decide ((byteAt a0 aG)≥97))&&(decide ((byteAt a0 aG)≤122)))||((decide ((byteAt a0 aG)≥65))&&(decide ((byteAt a0 aG)≤90))))||((byteAt a0 aG)==95)))==true)) (Value.bool (aG==0)) from rfl).trans (pK hg)))) ?_
          refine fV (b:=(aG==0)) (c:=(true&&((!((((decide ((byteAt a0 aG)≥97))&&(decide ((byteAt a0 aG)≤122)))||((decide ((byteAt a0 aG)≥65))&&(decide ((byteAt a0 aG)≤90))))||((byteAt a0 aG)==95)))==true))) (v:=Value.int .u8 (byteAt a0 aG)) rfl rfl rfl rfl (fun hg=>(aK rfl)) ?_
          refine fV (b:=(aG==0)) (c:=(true&&((!((((decide ((byteAt a0 aG)≥97))&&(decide ((byteAt a0 aG)≤122)))||((decide ((byteAt a0 aG)≥65))&&(decide ((byteAt a0 aG)≤90))))||((byteAt a0 aG)==95)))==true))) (v:=Value.bool (decide ((byteAt a0 aG)<48))) rfl rfl rfl rfl (fun hg=>(bK ((show _=gv ((true&&((!((((decide ((byteAt a0 aG)≥97))&&(decide ((byteAt a0 aG)≤122)))||((decide ((byteAt a0 aG)≥65))&&(decide ((byteAt a0 aG)≤90))))||((byteAt a0 aG)==95)))==true))&&((aG==0)==false)) (Value.int .u8 (byteAt a0 aG)) from rfl).trans (pK hg)) rfl rfl)) ?_
          refine aI (by simp only [List.set_cons_zero,List.set_cons_succ];rfl) ?_
          refine fV (b:=(!((((decide ((byteAt a0 aG)≥97))&&(decide ((byteAt a0 aG)≤122)))||((decide ((byteAt a0 aG)≥65))&&(decide ((byteAt a0 aG)≤90))))||((byteAt a0 aG)==95)))) (c:=true) (v:=Value.bool ((aG==0)||(decide ((byteAt a0 aG)<48)))) rfl rfl rfl rfl (fun hg=>(dV ((show _=gv (true&&((!((((decide ((byteAt a0 aG)≥97))&&(decide ((byteAt a0 aG)≤122)))||((decide ((byteAt a0 aG)≥65))&&(decide ((byteAt a0 aG)≤90))))||((byteAt a0 aG)==95)))==true)) (Value.bool (aG==0)) from rfl).trans (pK hg)) rfl (fun hp=>((show _=gv ((true&&((!((((decide ((byteAt a0 aG)≥97))&&(decide ((byteAt a0 aG)≤122)))||((decide ((byteAt a0 aG)≥65))&&(decide ((byteAt a0 aG)≤90))))||((byteAt a0 aG)==95)))==true))&&((aG==0)==false)) (Value.bool (decide ((byteAt a0 aG)<48))) from rfl).trans (pK (gu hg hp)))))) ?_
          refine fV (b:=(!((((decide ((byteAt a0 aG)≥97))&&(decide ((byteAt a0 aG)≤122)))||((decide ((byteAt a0 aG)≥65))&&(decide ((byteAt a0 aG)≤90))))||((byteAt a0 aG)==95)))) (c:=true) (v:=Value.bool ((aG==0)||(decide ((byteAt a0 aG)<48)))) rfl rfl rfl rfl (fun hg=>(aK ((show _=gv (true&&((!((((decide ((byteAt a0 aG)≥97))&&(decide ((byteAt a0 aG)≤122)))||((decide ((byteAt a0 aG)≥65))&&(decide ((byteAt a0 aG)≤90))))||((byteAt a0 aG)==95)))==true)) (Value.bool ((aG==0)||(decide ((byteAt a0 aG)<48)))) from rfl).trans (pK hg)))) ?_
          refine fV (b:=((aG==0)||(decide ((byteAt a0 aG)<48)))) (c:=(true&&((!((((decide ((byteAt a0 aG)≥97))&&(decide ((byteAt a0 aG)≤122)))||((decide ((byteAt a0 aG)≥65))&&(decide ((byteAt a0 aG)≤90))))||((byteAt a0 aG)==95)))==true))) (v:=Value.int .u8 (byteAt a0 aG)) rfl rfl rfl rfl (fun hg=>(aK rfl)) ?_
          refine fV (b:=((aG==0)||(decide ((byteAt a0 aG)<48)))) (c:=(true&&((!((((decide ((byteAt a0 aG)≥97))&&(decide ((byteAt a0 aG)≤122)))||((decide ((byteAt a0 aG)≥65))&&(decide ((byteAt a0 aG)≤90))))||((byteAt a0 aG)==95)))==true))) (v:=Value.bool (decide ((byteAt a0 aG)>57))) rfl rfl rfl rfl (fun hg=>(bK ((show _=gv ((true&&((!((((decide ((byteAt a0 aG)≥97))&&(decide ((byteAt a0 aG)≤122)))||((decide ((byteAt a0 aG)≥65))&&(decide ((byteAt a0 aG)≤90))))||((byteAt a0 aG)==95)))==true))&&(((aG==0)||(decide ((byteAt a0 aG)<48)))==false)) (Value.int .u8 (byteAt a0 aG)) from rfl).trans (pK hg)) rfl rfl)) ?_
          refine aI (by simp only [List.set_cons_zero,List.set_cons_succ];rfl) ?_
          refine fV (b:=(!((((decide ((byteAt a0 aG)≥97))&&(decide ((byteAt a0 aG)≤122)))||((decide ((byteAt a0 aG)≥65))&&(decide ((byteAt a0 aG)≤90))))||((byteAt a0 aG)==95)))) (c:=true) (v:=Value.bool (((aG==0)||(decide ((byteAt a0 aG)<48)))||(decide ((byteAt a0 aG)>57)))) rfl rfl rfl rfl (fun hg=>(dV ((show _=gv (true&&((!((((decide ((byteAt a0 aG)≥97))&&(decide ((byteAt a0 aG)≤122)))||((decide ((byteAt a0 aG)≥65))&&(decide ((byteAt a0 aG)≤90))))||((byteAt a0 aG)==95)))==true)) (Value.bool ((aG==0)||(decide ((byteAt a0 aG)<48)))) from rfl).trans (pK hg)) rfl (fun hp=>((show _=gv ((true&&((!((((decide ((byteAt a0 aG)≥97))&&(decide ((byteAt a0 aG)≤122)))||((decide ((byteAt a0 aG)≥65))&&(decide ((byteAt a0 aG)≤90))))||((byteAt a0 aG)==95)))==true))&&(((aG==0)||(decide ((byteAt a0 aG)<48)))==false)) (Value.bool (decide ((byteAt a0 aG)>57))) from rfl).trans (pK (gu hg hp)))))) ?_
          refine eY (v:=Value.bool ((!((((decide ((byteAt a0 aG)≥97))&&(decide ((byteAt a0 aG)≤122)))||((decide ((byteAt a0 aG)≥65))&&(decide ((byteAt a0 aG)≤90))))||((byteAt a0 aG)==95)))&&(((aG==0)||(decide ((byteAt a0 aG)<48)))||(decide ((byteAt a0 aG)>57))))) rfl rfl (dw rfl (fun hp=>((show _=gv (true&&((!((((decide ((byteAt a0 aG)≥97))&&(decide ((byteAt a0 aG)≤122)))||((decide ((byteAt a0 aG)≥65))&&(decide ((byteAt a0 aG)≤90))))||((byteAt a0 aG)==95)))==true)) (Value.bool (((aG==0)||(decide ((byteAt a0 aG)<48)))||(decide ((byteAt a0 aG)>57)))) from rfl).trans (pK (gu rfl hp)))) rfl) ?_
          try simp only [List.set_cons_zero,List.set_cons_succ]
          refine aB ?_
          refine aj ?_
          refine wp_cond_split (t:=((!((((decide ((byteAt a0 aG)≥97))&&(decide ((byteAt a0 aG)≤122)))||((decide ((byteAt a0 aG)≥65))&&(decide ((byteAt a0 aG)≤90))))||((byteAt a0 aG)==95)))&&(((aG==0)||(decide ((byteAt a0 aG)<48)))||(decide ((byteAt a0 aG)>57))))) rfl (fun c3=>?_) (fun c3=>?_)
          · replace H:=bU H c3
            refine wp_seq ?_
            refine region ?_
            refine eY (v:=Value.bool false) rfl rfl (aC rfl) ?_
            try simp only [List.set_cons_zero,List.set_cons_succ]
            refine aB ?_
            refine aj ?_
            refine wp_ret ?_
            refine dn ?_
            refine aX ?_
            refine gW ?_
            refine aX ?_
            obtain rfl:=Option.some.inj H
            obtain rfl:=Option.some.inj G1
            refine bodyPost_ret (aW rfl (aV rfl)) rfl ?_
            exact ⟨rfl,HS1.toE⟩
          · replace H:=bZ H (nt c3)
            refine wp_skip ?_
            refine dB ?_
            refine aj ?_
            refine region ?_
            refine eY (v:=Value.int .i64 aG) rfl rfl (aK rfl) ?_
            refine eY (v:=Value.int .i64 (IntKind.wrap .i64 (aG+1))) rfl rfl (bK rfl rfl rfl) ?_
            refine eY (v:=Value.int .i64 (IntKind.wrap .i64 (aG+1))) rfl rfl (aC rfl) ?_
            try simp only [List.set_cons_zero,List.set_cons_succ]
            refine aB ?_
            refine gX m (Nat.lt_succ_self m) rfl ⟨(IntKind.wrap .i64 (aG+1)),(fit rfl),H,HS1⟩
        · replace H:=bZ H (nt c2)
          refine wp_exit ?_
          refine fF ?_
          obtain rfl:=Option.some.inj H
          refine iw rfl ⟨_,rfl,(fit rfl),HS1⟩
    · rintro us w2 ⟨s1,rfl,l7,HS2⟩
      obtain ⟨uo1,rfl⟩:=unj l7
      replace H:=G1
      clear G1
      try simp only [patch,List.set_cons_zero,List.set_cons_succ]
      refine aj ?_
      refine wp_seq ?_
      refine region ?_
      refine eY (v:=Value.bool true) rfl rfl (aC rfl) ?_
      try simp only [List.set_cons_zero,List.set_cons_succ]
      refine aB ?_
      refine aj ?_
      refine wp_ret ?_
      obtain rfl:=Option.some.inj H
      refine bodyPost_ret (aW rfl (aV rfl)) rfl ?_
      exact ⟨rfl,HS2.toE⟩
def fG.f (a0:bf) (a1:Int):Option (Bool):=some ((decide (a1≥0))&&(decide (a1<(a0.ay.length:Int))))
theorem fG.calls (a0:bf) (a1:Int) (bQ:Option Addr) (bT:Nat) {h0:View} {w0:World} (hv:jf h0 w0) (fB:Rd eX h0 bQ a0.ay) (gI:a0.ay.length≤bT) {r:Bool} (H:fG.f a0 a1=some r):Calls Tryz.prog 125 #[Value.agg #[vL bQ a0.ay.length bT],vI a1] w0 (fun e w1=>e= .returned (vB r)∧Ext w0 w1):=by
 unfold fG.f at H
 have HS:St [] h0 w0 h0 [] w0:=St.init hv
 go_enter Tryz.func125,Tryz.ntmps125
 refine wp_seq<|region<|dK rfl rfl (dH (cs:=#[vL bQ a0.ay.length bT]) rfl rfl) ?_
 rintro w1 _ hE1 ⟨b1,rfl,ge1,hb1⟩
 have HS1:=HS.new hE1 ge1 hb1
 refine rs (vB false) (aC rfl) ?_
 try simp only [sc0,sc1]
 refine aB<|aj<|wp_seq<|region<|rs (vI a1) (aK rfl)<|rs (vB (decide (a1≥0))) (bK rfl rfl rfl)<|rs (vB (decide (a1≥0))) (aK rfl)<|rgs (decide (a1≥0)) true (vI a1) rfl rfl rfl rfl (fun hg=>(aK rfl))<|aI (by simp only [sc0,sc1];rfl) ?_
 refine rgs (decide (a1≥0)) true (vP b1 0) rfl rfl rfl rfl (fun hg=>(aH (n:=1) (o':=0) rfl Tryz.runUnderlying24 rfl Tryz.sizeOf22 (by decide) rfl))<|rgs (decide (a1≥0)) true (vL bQ a0.ay.length bT) rfl rfl rfl rfl (fun hg=>(aN (gvt (vP b1 0) hg rfl) Tryz.isAgg22 (HS1.look 0 rfl) rfl))<|rgs (decide (a1≥0)) true (vI (a0.ay.length:Int)) rfl rfl rfl rfl (fun hg=>(iT (gvt (vL bQ a0.ay.length bT) hg rfl) Tryz.runUnderlying22))<|rgs (decide (a1≥0)) true (vB (decide (a1<(a0.ay.length:Int)))) rfl rfl rfl rfl (fun hg=>(bK (gvt (vI a1) hg rfl) (gvt (vI (a0.ay.length:Int)) hg rfl) rfl))<|aI (by simp only [sc0,sc1];rfl) ?_
 refine rs (vB ((decide (a1≥0))&&(decide (a1<(a0.ay.length:Int))))) (dw rfl (fun hp=>(gvt (vB (decide (a1<(a0.ay.length:Int)))) (gu rfl hp) rfl)) rfl)<|rs (vB ((decide (a1≥0))&&(decide (a1<(a0.ay.length:Int))))) (aC rfl) ?_
 try simp only [sc0,sc1]
 refine aB<|aj<|wp_ret ?_
 obtain rfl:=Option.some.inj H
 exact bodyPost_ret (aW rfl (aV rfl)) rfl<|⟨rfl,HS1.toE⟩
def bP.l1 (a0:List dP) (aG:Int):Nat→Int→Option ((Bool)⊕(Unit))
 |0,_=>none
 |m+1,kY=>if (decide (kY<aG))=true then (if 0≤kY∧kY<a0.length then (if 0≤aG∧aG<a0.length then (if (strEq ((rd ak a0 kY).aU) ((rd ak a0 aG).aU))=true then (some (.inl false)) else (bP.l1 a0 aG m (IntKind.wrap .i64 (kY+1)))) else none) else none) else (some (.inr ()))
def bP.l0 (k:Nat) (a0:List dP):Nat→Int→Option ((Bool)⊕(Unit))
 |0,_=>none
 |m+1,aG=>if (decide (aG<(a0.length:Int)))=true then (if 0≤aG∧aG<a0.length then ((dW.f k ((rd ak a0 aG).aU)).bind fun v1=>(if (!v1)=true then (some (.inl false)) else ((bP.l1 a0 aG k 0).bind fun xx2=>(match xx2 with| .inl r=>some (.inl r)| .inr s1=>bP.l0 k a0 m (IntKind.wrap .i64 (aG+1)))))) else none) else (some (.inr ()))
def bP.f (k:Nat) (a0:List dP):Option (Bool):=if (((a0.length:Int)==0)||(decide ((a0.length:Int)>32)))=true then (some false) else ((bP.l0 k a0 k 0).bind fun xx1=>(match xx1 with| .inl r=>some r| .inr s2=>some true))
theorem bP.calls (k:Nat) (a0:List dP) (bQ:Option Addr) (bT:Nat) {h0:View} {w0:World} (hv:jf h0 w0) (fB:Rd fM h0 bQ a0) (gI:a0.length≤bT) {r:Bool} (H:bP.f k a0=some r):Calls Tryz.prog 126 #[vL bQ a0.length bT] w0 (fun e w1=>e= .returned (vB r)∧Ext w0 w1):=by
 unfold bP.f at H
 have HS:St [] h0 w0 h0 [] w0:=St.init hv
 go_enter Tryz.func126,Tryz.ntmps126
 refine wp_seq<|region<|rs (vB false) (aC rfl) ?_
 try simp only [sc0,sc1]
 refine aB<|aj<|wp_seq<|wp_seq<|region<|rs (vL bQ a0.length bT) (aK rfl)<|rs (vI (a0.length:Int)) (iT rfl Tryz.runUnderlying54)<|rs (vB ((a0.length:Int)==0)) (bK rfl rfl rfl)<|rs (vB ((a0.length:Int)==0)) (aK rfl)<|aI (by simp only [sc0,sc1];rfl) ?_
 refine rgs ((a0.length:Int)==0) true (vL bQ a0.length bT) rfl rfl rfl rfl (fun hg=>(aK rfl))<|rgs ((a0.length:Int)==0) true (vI (a0.length:Int)) rfl rfl rfl rfl (fun hg=>(iT (gvt (vL bQ a0.length bT) hg rfl) Tryz.runUnderlying54))<|rgs ((a0.length:Int)==0) true (vB (decide ((a0.length:Int)>32))) rfl rfl rfl rfl (fun hg=>(bK (gvt (vI (a0.length:Int)) hg rfl) rfl rfl))<|rs (vB (((a0.length:Int)==0)||(decide ((a0.length:Int)>32)))) (dV rfl rfl (fun hp=>(gvt (vB (decide ((a0.length:Int)>32))) (gu rfl hp) rfl))) ?_
 try simp only [sc0,sc1]
 refine aB<|aj<|wp_cond_split (t:=(((a0.length:Int)==0)||(decide ((a0.length:Int)>32)))) rfl (fun c1=>?_) (fun c1=>?_)
 ·replace H:=bU H c1
  refine wp_seq<|region<|rs (vB false) (aC rfl) ?_
  try simp only [sc0,sc1]
  refine aB<|aj<|wp_ret<|aX ?_
  obtain rfl:=Option.some.inj H
  exact bodyPost_ret (aW rfl (aV rfl)) rfl<|⟨rfl,HS.toE⟩
 ·replace H:=bZ H (nt c1)
  refine wp_skip<|aj<|wp_seq<|wp_seq<|region<|rs (vI 0) (aC rfl) ?_
  try simp only [sc0,sc1]
  refine aB<|aj ?_
  obtain ⟨xx1,H,G1⟩:=bJ H
  refine iW [2,3,4,13,14,15,16,17,18,19,20,21,22,23,24,25,26,27,28,29,30,31,32,33,34,35,36,37,38,39,40,41] (fun m us w'=>∃(aG:Int),Fit us (fun uy1=>[(uy1 0),vI aG,(uy1 2),(uy1 3),(uy1 4),(uy1 5),(uy1 6),(uy1 7),(uy1 8),(uy1 9),(uy1 10),(uy1 11),(uy1 12),(uy1 13),(uy1 14),(uy1 15),(uy1 16),(uy1 17),(uy1 18),(uy1 19),(uy1 20),(uy1 21),(uy1 22),(uy1 23),(uy1 24),(uy1 25),(uy1 26),(uy1 27),(uy1 28),(uy1 29),(uy1 30),(uy1 31)])∧bP.l0 k a0 m aG=some xx1∧St [] h0 w0 h0 [] w') (fun us w'=>∃(s2:Unit),xx1= .inr s2∧Fit us (fun uo2=>[(uo2 0),(uo2 1),(uo2 2),(uo2 3),(uo2 4),(uo2 5),(uo2 6),(uo2 7),(uo2 8),(uo2 9),(uo2 10),(uo2 11),(uo2 12),(uo2 13),(uo2 14),(uo2 15),(uo2 16),(uo2 17),(uo2 18),(uo2 19),(uo2 20),(uo2 21),(uo2 22),(uo2 23),(uo2 24),(uo2 25),(uo2 26),(uo2 27),(uo2 28),(uo2 29),(uo2 30),(uo2 31)])∧St [] h0 w0 h0 [] w') k ⟨0,(fit rfl),H,HS⟩ ?_ ?_
  ·rintro m us w1 ⟨aG,lZ,H,HS1⟩
   obtain ⟨uy1,rfl⟩:=unj lZ
   cases m with
   |zero=>exact absurd H (by simp [bP.l0])
   |succ m=>
    rw [bP.l0] at H
    try simp only [patch,sc0,sc1]
    refine wp_seq<|wp_seq<|region<|rs (vI aG) (aK rfl)<|rs (vL bQ a0.length bT) (aK rfl)<|rs (vI (a0.length:Int)) (iT rfl Tryz.runUnderlying54)<|rs (vB (decide (aG<(a0.length:Int)))) (bK rfl rfl rfl) ?_
    try simp only [sc0,sc1]
    refine aB<|aj<|wp_cond_split (t:=(decide (aG<(a0.length:Int)))) rfl (fun c2=>?_) (fun c2=>?_)
    ·replace H:=bU H c2
     refine wp_skip<|aj<|wp_seq<|wp_block<|wp_seq<|wp_seq<|region<|rs (vL bQ a0.length bT) (aK rfl)<|rs (vI aG) (aK rfl) ?_
     obtain ⟨hi1,H⟩:=fE H
     obtain ⟨ad1,e1,kX⟩:=iR fB hi1.1 hi1.2
     refine rs (Value.pointer (some (Addr.add ad1 (aG.toNat*3)))) (dQ (sz:=3) rfl e1 rfl hi1.1 hi1.2 Tryz.runUnderlying54 Tryz.sizeOf129)<|rs (Value.pointer (some (Addr.add (Addr.add ad1 (aG.toNat*3)) 0))) (jG (n:=1) (o':=0) rfl Tryz.runUnderlying129 rfl Tryz.sizeOf9 (by decide) rfl)<|aI (by simp only [sc0,sc1];rfl) ?_
     refine rs (vS ((rd ak a0 aG).aU)) (jF rfl Tryz.isAgg9 (kX.cell HS1.sees 0 rfl)) ?_
     obtain ⟨v1,H1,H⟩:=bJ H
     refine run_eq (v:=vB v1) rfl rfl (bC Tryz.call124 rfl rfl (dW.calls k ((rd ak a0 aG).aU) HS1.sees H1)) ?_
     intro w2 hE1
     have HS2:=HS1.step hE1
     refine rs (vB (!v1)) (kN rfl) ?_
     try simp only [sc0,sc1]
     refine aB<|aj<|wp_cond_split (t:=(!v1)) rfl (fun c3=>?_) (fun c3=>?_)
     ·replace H:=bU H c3
      refine wp_seq<|region<|rs (vB false) (aC rfl) ?_
      try simp only [sc0,sc1]
      refine aB<|aj<|wp_ret<|aX<|dn<|aX<|gW<|aX ?_
      obtain rfl:=Option.some.inj H
      obtain rfl:=Option.some.inj G1
      exact bodyPost_ret (aW rfl (aV rfl)) rfl<|⟨rfl,HS2.toE⟩
     ·replace H:=bZ H (nt c3)
      refine wp_skip<|aj<|wp_seq<|region<|rs (vI 0) (aC rfl) ?_
      try simp only [sc0,sc1]
      refine aB<|aj ?_
      obtain ⟨xx2,H,G2⟩:=bJ H
      refine iW [2,4,26,27,28,29,30,31,32,33,34,35,36,37,38,39,40,41] (fun m us w'=>∃(kY:Int),Fit us (fun uy2=>[(uy2 0),vI kY,(uy2 2),(uy2 3),(uy2 4),(uy2 5),(uy2 6),(uy2 7),(uy2 8),(uy2 9),(uy2 10),(uy2 11),(uy2 12),(uy2 13),(uy2 14),(uy2 15),(uy2 16),(uy2 17)])∧bP.l1 a0 aG m kY=some xx2∧St [] h0 w0 h0 [] w') (fun us w'=>∃(s1:Unit),xx2= .inr s1∧Fit us (fun uo1=>[(uo1 0),(uo1 1),(uo1 2),(uo1 3),(uo1 4),(uo1 5),(uo1 6),(uo1 7),(uo1 8),(uo1 9),(uo1 10),(uo1 11),(uo1 12),(uo1 13),(uo1 14),(uo1 15),(uo1 16),(uo1 17)])∧St [] h0 w0 h0 [] w') k ⟨0,(fit rfl),H,HS2⟩ ?_ ?_
      ·rintro m us w3 ⟨kY,WG,H,HS3⟩
       obtain ⟨uy2,rfl⟩:=unj WG
       cases m with
       |zero=>exact absurd H (by simp [bP.l1])
       |succ m=>
        rw [bP.l1] at H
        try simp only [patch,sc0,sc1]
        refine wp_seq<|wp_seq<|region<|rs (vI kY) (aK rfl)<|rs (vI aG) (aK rfl)<|rs (vB (decide (kY<aG))) (bK rfl rfl rfl) ?_
        try simp only [sc0,sc1]
        refine aB<|aj<|wp_cond_split (t:=(decide (kY<aG))) rfl (fun c4=>?_) (fun c4=>?_)
        ·replace H:=bU H c4
         refine wp_skip<|aj<|wp_seq<|wp_block<|wp_seq ?_
         obtain ⟨hi2,H⟩:=fE H
         obtain ⟨ad2,e2,wV⟩:=iR fB hi2.1 hi2.2
         obtain ⟨hi3,H⟩:=fE H
         obtain ⟨ad3,e3,WH⟩:=iR fB hi3.1 hi3.2
         refine drawn [.eq (vL bQ a0.length bT), .eq (vI kY), .eq (Value.pointer (some (Addr.add ad2 (kY.toNat*3)))), .eq (Value.pointer (some (Addr.add (Addr.add ad2 (kY.toNat*3)) 0))), .eq (vS ((rd ak a0 kY).aU)), .eq (vL bQ a0.length bT), .eq (vI aG), .eq (Value.pointer (some (Addr.add ad3 (aG.toNat*3)))), .eq (Value.pointer (some (Addr.add (Addr.add ad3 (aG.toNat*3)) 0))), .eq (vS ((rd ak a0 aG).aU)), .eq (vB (strEq ((rd ak a0 kY).aU) ((rd ak a0 aG).aU)))] [31,32,33,34,35,36,37,38,39,40,41] nD (by kernel_rfl) rfl (bn (bn (bn (bn (bn (bn (bn (bn (bn (bn (bn jh))))))))))) ⟨bI rfl (fun a' w' hE hk=>by have HSd:=HS3.step hE;exact cu (aK (show _=vL bQ a0.length bT from hk 0 rfl))),bI rfl (fun a' w' hE hk=>by have HSd:=HS3.step hE;exact cu (aK (show _=vI kY from hk 4 rfl))),bI rfl (fun a' w' hE hk=>by have HSd:=HS3.step hE;exact cu (dQ (sz:=3) (show _=vL bQ a0.length bT from hk 31 rfl) e2 (show _=vI kY from hk 32 rfl) hi2.1 hi2.2 Tryz.runUnderlying54 Tryz.sizeOf129)),bI rfl (fun a' w' hE hk=>by have HSd:=HS3.step hE;exact cu (jG (n:=1) (o':=0) (show _=Value.pointer (some (Addr.add ad2 (kY.toNat*3))) from hk 33 rfl) Tryz.runUnderlying129 rfl Tryz.sizeOf9 (by decide) rfl)),bI rfl (fun a' w' hE hk=>by have HSd:=HS3.step hE;exact cu (jF (show _=Value.pointer (some (Addr.add (Addr.add ad2 (kY.toNat*3)) 0)) from hk 34 rfl) Tryz.isAgg9 (wV.cell HSd.sees 0 rfl))),bI rfl (fun a' w' hE hk=>by have HSd:=HS3.step hE;exact cu (aK (show _=vL bQ a0.length bT from hk 0 rfl))),bI rfl (fun a' w' hE hk=>by have HSd:=HS3.step hE;exact cu (aK (show _=vI aG from hk 3 rfl))),bI rfl (fun a' w' hE hk=>by have HSd:=HS3.step hE;exact cu (dQ (sz:=3) (show _=vL bQ a0.length bT from hk 36 rfl) e3 (show _=vI aG from hk 37 rfl) hi3.1 hi3.2 Tryz.runUnderlying54 Tryz.sizeOf129)),bI rfl (fun a' w' hE hk=>by have HSd:=HS3.step hE;exact cu (jG (n:=1) (o':=0) (show _=Value.pointer (some (Addr.add ad3 (aG.toNat*3))) from hk 38 rfl) Tryz.runUnderlying129 rfl Tryz.sizeOf9 (by decide) rfl)),bI rfl (fun a' w' hE hk=>by have HSd:=HS3.step hE;exact cu (jF (show _=Value.pointer (some (Addr.add (Addr.add ad3 (aG.toNat*3)) 0)) from hk 39 rfl) Tryz.isAgg9 (WH.cell HSd.sees 0 rfl))),bI rfl (fun a' w' hE hk=>by have HSd:=HS3.step hE;exact cu (sK (show _=vS ((rd ak a0 kY).aU) from hk 35 rfl) (show _=vS ((rd ak a0 aG).aU) from hk 40 rfl))),trivial⟩ ?_
         intro w4 hE2
         simp only [List.zip_cons_cons,List.zip_nil_left,List.zip_nil_right,yh,sc0,sc1,List.length_cons,List.length_nil,List.drop_succ_cons,List.drop_zero,Nat.zero_add,Nat.reduceAdd]
         have HS4:=HS3.step hE2
         refine aB<|aj<|wp_cond_split (t:=(strEq ((rd ak a0 kY).aU) ((rd ak a0 aG).aU))) rfl (fun c5=>?_) (fun c5=>?_)
         ·replace H:=bU H c5
          refine wp_seq<|region<|rs (vB false) (aC rfl) ?_
          try simp only [sc0,sc1]
          refine aB<|aj<|wp_ret<|dn<|aX<|gW<|dn<|aX<|gW<|aX ?_
          obtain rfl:=Option.some.inj H
          obtain rfl:=Option.some.inj G2
          obtain rfl:=Option.some.inj G1
          exact bodyPost_ret (aW rfl (aV rfl)) rfl<|⟨rfl,HS4.toE⟩
         ·replace H:=bZ H (nt c5)
          refine wp_skip<|dB<|aj<|region<|rs (vI kY) (aK rfl)<|rs (vI (w64 (kY+1))) (bK rfl rfl rfl)<|rs (vI (w64 (kY+1))) (aC rfl) ?_
          try simp only [sc0,sc1]
          refine aB<|gX m (Nat.lt_succ_self m) rfl ⟨(w64 (kY+1)),(fit rfl),H,HS4⟩
        ·replace H:=bZ H (nt c4)
         refine wp_exit<|fF ?_
         obtain rfl:=Option.some.inj H
         refine iw rfl ⟨_,rfl,(fit rfl),HS3⟩
      ·rintro us w5 ⟨s1,rfl,l7,HS5⟩
       obtain ⟨uo1,rfl⟩:=unj l7
       replace H:=G2
       clear G2
       try simp only [patch,sc0,sc1]
       refine dB<|aj<|region<|rs (vI aG) (aK rfl)<|rs (vI (w64 (aG+1))) (bK rfl rfl rfl)<|rs (vI (w64 (aG+1))) (aC rfl) ?_
       try simp only [sc0,sc1]
       refine aB<|gX m (Nat.lt_succ_self m) rfl ⟨(w64 (aG+1)),(fit rfl),H,HS5⟩
    ·replace H:=bZ H (nt c2)
     refine wp_exit<|fF ?_
     obtain rfl:=Option.some.inj H
     refine iw rfl ⟨_,rfl,(fit rfl),HS1⟩
  ·rintro us w6 ⟨s2,rfl,WI,HS6⟩
   obtain ⟨uo2,rfl⟩:=unj WI
   replace H:=G1
   clear G1
   try simp only [patch,sc0,sc1]
   refine aj<|wp_seq<|region<|rs (vB true) (aC rfl) ?_
   try simp only [sc0,sc1]
   refine aB<|aj<|wp_ret ?_
   obtain rfl:=Option.some.inj H
   exact bodyPost_ret (aW rfl (aV rfl)) rfl<|⟨rfl,HS6.toE⟩
def dM.l0 (a0:bf) (a1:bV):Nat→Int→Option ((Bool)⊕(Unit))
 |0,_=>none
 |m+1,aG=>if (decide (aG<(a1.au.length:Int)))=true then (if 0≤aG∧aG<a1.au.length then ((if (true&&((a1.aF==4)==true))=true then fG.f a0 ((rd ak a1.au aG).vType) else some false).bind fun v7=>(if ((a1.aF==4)&&(!v7))=true then (some (.inl false)) else (if ((a1.aF==5)&&((((rd ak a1.au aG).vType !=0)||(decide ((rd ak a1.au aG).vAt<(-2147483648))))||(decide ((rd ak a1.au aG).vAt>2147483647))))=true then (some (.inl false)) else (dM.l0 a0 a1 m (IntKind.wrap .i64 (aG+1)))))) else none) else (some (.inr ()))
def dM.f (k:Nat) (a0:bf) (a1:bV):Option (Bool):=(if (true&&(((decide (a1.aF<1))||(decide (a1.aF>6)))==false))=true then iV.f a1 else some false).bind fun v1=>((if (true&&((((decide (a1.aF<1))||(decide (a1.aF>6)))||(!v1))==false))=true then dU.f a1 else some false).bind fun v2=>((if ((true&&((((decide (a1.aF<1))||(decide (a1.aF>6)))||(!v1))==false))&&(v2==true))=true then dW.f k a1.aU else some false).bind fun v3=>(if ((((decide (a1.aF<1))||(decide (a1.aF>6)))||(!v1))||(v2&&(!v3)))=true then (some false) else (if (a1.aF==1)=true then (some ((((a1.bW.aS==1)||(a1.bW.aS==2))||(a1.bW.aS==4))||(a1.bW.aS==8))) else (((if (a1.aF==2)=true then (some (a1.aF==2)) else (some (a1.aF==6))):Option (Bool)).bind fun xx1=>(if xx1=true then ((fG.f a0 a1.dY).bind fun v4=>(some v4)) else (if (a1.aF==3)=true then ((fG.f a0 a1.dY).bind fun v5=>(some ((v5&&(decide (a1.vN≥1)))&&(decide (a1.vN≤512))))) else ((bP.f k a1.au).bind fun v6=>(if (!v6)=true then (some false) else ((dM.l0 a0 a1 k 0).bind fun xx2=>(match xx2 with| .inl r=>some r| .inr s1=>some ((a1.aF==5)||((decide (a1.vN≥1))&&(decide (a1.vN≤512)))))))))))))))
theorem dM.calls (k:Nat) (a0:bf) (a1:bV) (bQ:Option Addr) (bT:Nat) (Dw:Option Addr) (Dx:Nat) {h0:View} {w0:World} (hv:jf h0 w0) (fB:Rd eX h0 bQ a0.ay) (gI:a0.ay.length≤bT) (Qi:Rd fM h0 Dw a1.au) (Ut:a1.au.length≤Dx) {r:Bool} (H:dM.f k a0 a1=some r):Calls Tryz.prog 77 #[Value.agg #[vL bQ a0.ay.length bT],Value.agg #[vI a1.aF,vS a1.aU,vI a1.bW.aS,vB a1.bW.aO,vI a1.dY,vI a1.vN,vL Dw a1.au.length Dx]] w0 (fun e w1=>e= .returned (vB r)∧Ext w0 w1):=by
 unfold dM.f at H
 have HS:St [] h0 w0 h0 [] w0:=St.init hv
 go_enter Tryz.func77,Tryz.ntmps77
 refine wp_seq<|region<|dK rfl rfl (dH (cs:=#[vL bQ a0.ay.length bT]) rfl rfl) ?_
 rintro w1 _ hE1 ⟨b1,rfl,ge1,hb1⟩
 have HS1:=HS.new hE1 ge1 hb1
 refine dK rfl rfl (dH (cs:=#[vI a1.aF,vS a1.aU,vI a1.bW.aS,vB a1.bW.aO,vI a1.dY,vI a1.vN,vL Dw a1.au.length Dx]) rfl rfl) ?_
 rintro w2 _ hE2 ⟨b2,rfl,ge2,hb2⟩
 have HS2:=HS1.new hE2 ge2 hb2
 refine rs (vB false) (aC rfl) ?_
 try simp only [sc0,sc1]
 refine aB<|aj<|wp_seq<|wp_seq<|region<|rs (vP b2 0) (aH (n:=1) (o':=0) rfl Tryz.runUnderlying56 rfl Tryz.sizeOf3 (by decide) rfl)<|rs (vI a1.aF) (aN rfl Tryz.isAgg3 (HS2.look 0 rfl) rfl)<|rs (vB (decide (a1.aF<1))) (bK rfl rfl rfl)<|rs (vB (decide (a1.aF<1))) (aK rfl)<|aI (by simp only [sc0,sc1];rfl) ?_
 refine rgs (decide (a1.aF<1)) true (vP b2 0) rfl rfl rfl rfl (fun hg=>(aH (n:=1) (o':=0) rfl Tryz.runUnderlying56 rfl Tryz.sizeOf3 (by decide) rfl))<|rgs (decide (a1.aF<1)) true (vI a1.aF) rfl rfl rfl rfl (fun hg=>(aN (gvt (vP b2 0) hg rfl) Tryz.isAgg3 (HS2.look 0 rfl) rfl))<|rgs (decide (a1.aF<1)) true (vB (decide (a1.aF>6))) rfl rfl rfl rfl (fun hg=>(bK (gvt (vI a1.aF) hg rfl) rfl rfl))<|rs (vB ((decide (a1.aF<1))||(decide (a1.aF>6)))) (dV rfl rfl (fun hp=>(gvt (vB (decide (a1.aF>6))) (gu rfl hp) rfl)))<|aI (by simp only [sc0,sc1];rfl) ?_
 refine rs (vB ((decide (a1.aF<1))||(decide (a1.aF>6)))) (aK rfl)<|rgs ((decide (a1.aF<1))||(decide (a1.aF>6))) true (Value.agg #[vI a1.aF,vS a1.aU,vI a1.bW.aS,vB a1.bW.aO,vI a1.dY,vI a1.vN,vL Dw a1.au.length Dx]) rfl rfl rfl rfl (fun hg=>(aY (n:=7) (vs:=[vI a1.aF,vS a1.aU,vI a1.bW.aS,vB a1.bW.aO,vI a1.dY,vI a1.vN,vL Dw a1.au.length Dx]) rfl Tryz.isAgg56 (HS2.look 0 rfl) Tryz.sizeOf56 rfl rfl)) ?_
 obtain ⟨v1,H1,H⟩:=bJ H
 refine vU (b:=((decide (a1.aF<1))||(decide (a1.aF>6)))) (c:=true) (v:=vB v1) rfl rfl rfl rfl (fun hg=>(bC Tryz.call123 rfl (OV (gvt (Value.agg #[vI a1.aF,vS a1.aU,vI a1.bW.aS,vB a1.bW.aO,vI a1.dY,vI a1.vN,vL Dw a1.au.length Dx]) hg rfl)) (iV.calls a1 Dw Dx HS2.sees Qi Ut (bU H1 hg)))) ?_
 intro w3 hE3
 have HS3:=HS2.step hE3
 refine rgs ((decide (a1.aF<1))||(decide (a1.aF>6))) true (vB (!v1)) rfl rfl rfl rfl (fun hg=>(kN (gvt (vB v1) hg rfl)))<|aI (by simp only [sc0,sc1];rfl) ?_
 refine rs (vB (((decide (a1.aF<1))||(decide (a1.aF>6)))||(!v1))) (dV rfl rfl (fun hp=>(gvt (vB (!v1)) (gu rfl hp) rfl)))<|rs (vB (((decide (a1.aF<1))||(decide (a1.aF>6)))||(!v1))) (aK rfl)<|rgs (((decide (a1.aF<1))||(decide (a1.aF>6)))||(!v1)) true (Value.agg #[vI a1.aF,vS a1.aU,vI a1.bW.aS,vB a1.bW.aO,vI a1.dY,vI a1.vN,vL Dw a1.au.length Dx]) rfl rfl rfl rfl (fun hg=>(aY (n:=7) (vs:=[vI a1.aF,vS a1.aU,vI a1.bW.aS,vB a1.bW.aO,vI a1.dY,vI a1.vN,vL Dw a1.au.length Dx]) rfl Tryz.isAgg56 (HS3.look 0 rfl) Tryz.sizeOf56 rfl rfl)) ?_
 obtain ⟨v2,H2,H⟩:=bJ H
 refine vU (b:=(((decide (a1.aF<1))||(decide (a1.aF>6)))||(!v1))) (c:=true) (v:=vB v2) rfl rfl rfl rfl (fun hg=>(bC Tryz.call78 rfl (OV (gvt (Value.agg #[vI a1.aF,vS a1.aU,vI a1.bW.aS,vB a1.bW.aO,vI a1.dY,vI a1.vN,vL Dw a1.au.length Dx]) hg rfl)) (dU.calls a1 Dw Dx HS3.sees Qi Ut (bU H2 hg)))) ?_
 intro w4 hE4
 have HS4:=HS3.step hE4
 refine aI (by simp only [sc0,sc1];rfl) ?_
 refine rgs (((decide (a1.aF<1))||(decide (a1.aF>6)))||(!v1)) true (vB v2) rfl rfl rfl rfl (fun hg=>(aK (gvt (vB v2) hg rfl)))<|rgs v2 (true&&((((decide (a1.aF<1))||(decide (a1.aF>6)))||(!v1))==false)) (vP b2 1) rfl rfl rfl rfl (fun hg=>(aH (n:=1) (o':=1) rfl Tryz.runUnderlying56 rfl Tryz.sizeOf9 (by decide) rfl))<|rgs v2 (true&&((((decide (a1.aF<1))||(decide (a1.aF>6)))||(!v1))==false)) (vS a1.aU) rfl rfl rfl rfl (fun hg=>(aN (gvt (vP b2 1) hg rfl) Tryz.isAgg9 (HS4.look 0 rfl) rfl)) ?_
 obtain ⟨v3,H3,H⟩:=bJ H
 refine vU (b:=v2) (c:=(true&&((((decide (a1.aF<1))||(decide (a1.aF>6)))||(!v1))==false))) (v:=vB v3) rfl rfl rfl rfl (fun hg=>(bC Tryz.call124 rfl (OV (gvt (vS a1.aU) hg rfl)) (dW.calls k a1.aU HS4.sees (bU H3 hg)))) ?_
 intro w5 hE5
 have HS5:=HS4.step hE5
 refine aI (by simp only [sc0,sc1];rfl) ?_
 refine rgs v2 (true&&((((decide (a1.aF<1))||(decide (a1.aF>6)))||(!v1))==false)) (vB (!v3)) rfl rfl rfl rfl (fun hg=>(kN (gvt (vB v3) hg rfl)))<|rgs (((decide (a1.aF<1))||(decide (a1.aF>6)))||(!v1)) true (vB (v2&&(!v3))) rfl rfl rfl rfl (fun hg=>(dw (gvt (vB v2) hg rfl) (fun hp=>(gvt (vB (!v3)) (gu hg hp) rfl)) rfl))<|rs (vB ((((decide (a1.aF<1))||(decide (a1.aF>6)))||(!v1))||(v2&&(!v3)))) (dV rfl rfl (fun hp=>(gvt (vB (v2&&(!v3))) (gu rfl hp) rfl))) ?_
 try simp only [sc0,sc1]
 refine aB<|aj<|wp_cond_split (t:=((((decide (a1.aF<1))||(decide (a1.aF>6)))||(!v1))||(v2&&(!v3)))) rfl (fun c1=>?_) (fun c1=>?_)
 ·replace H:=bU H c1
  refine wp_seq<|region<|rs (vB false) (aC rfl) ?_
  try simp only [sc0,sc1]
  refine aB<|aj<|wp_ret<|aX ?_
  obtain rfl:=Option.some.inj H
  exact bodyPost_ret (aW rfl (aV rfl)) rfl<|⟨rfl,HS5.toE⟩
 ·replace H:=bZ H (nt c1)
  refine wp_skip<|aj<|wp_seq<|wp_seq<|region<|rs (vP b2 0) (aH (n:=1) (o':=0) rfl Tryz.runUnderlying56 rfl Tryz.sizeOf3 (by decide) rfl)<|rs (vI a1.aF) (aN rfl Tryz.isAgg3 (HS5.look 0 rfl) rfl) ?_
  try simp only [sc0,sc1]
  refine aB<|aj<|wp_block<|wp_seq<|region<|rs (vB (a1.aF==1)) (bK rfl rfl rfl)<|rs (vB (a1.aF==1)) (aC rfl) ?_
  try simp only [sc0,sc1]
  refine aB<|aj<|wp_cond_split (t:=(a1.aF==1)) rfl (fun c2=>?_) (fun c2=>?_)
  ·replace H:=bU H c2
   refine wp_seq<|region<|rs (vP b2 2) (aH (n:=2) (o':=2) rfl Tryz.runUnderlying56 rfl Tryz.sizeOf29 (by decide) rfl)<|rs (vP b2 2) (aH (n:=1) (o':=2) rfl Tryz.runUnderlying29 rfl Tryz.sizeOf3 (by decide) rfl)<|rs (vI a1.bW.aS) (aN rfl Tryz.isAgg3 (HS5.look 0 rfl) rfl)<|rs (vB (a1.bW.aS==1)) (bK rfl rfl rfl)<|aI (by simp only [sc0,sc1];rfl) ?_
   refine rs (vB (a1.bW.aS==1)) (aK rfl)<|rgs (a1.bW.aS==1) true (vP b2 2) rfl rfl rfl rfl (fun hg=>(aH (n:=2) (o':=2) rfl Tryz.runUnderlying56 rfl Tryz.sizeOf29 (by decide) rfl))<|rgs (a1.bW.aS==1) true (vP b2 2) rfl rfl rfl rfl (fun hg=>(aH (n:=1) (o':=2) (gvt (vP b2 2) hg rfl) Tryz.runUnderlying29 rfl Tryz.sizeOf3 (by decide) rfl))<|rgs (a1.bW.aS==1) true (vI a1.bW.aS) rfl rfl rfl rfl (fun hg=>(aN (gvt (vP b2 2) hg rfl) Tryz.isAgg3 (HS5.look 0 rfl) rfl))<|aI (by simp only [sc0,sc1];rfl) ?_
   refine rgs (a1.bW.aS==1) true (vB (a1.bW.aS==2)) rfl rfl rfl rfl (fun hg=>(bK (gvt (vI a1.bW.aS) hg rfl) rfl rfl))<|rs (vB ((a1.bW.aS==1)||(a1.bW.aS==2))) (dV rfl rfl (fun hp=>(gvt (vB (a1.bW.aS==2)) (gu rfl hp) rfl)))<|rs (vB ((a1.bW.aS==1)||(a1.bW.aS==2))) (aK rfl)<|rgs ((a1.bW.aS==1)||(a1.bW.aS==2)) true (vP b2 2) rfl rfl rfl rfl (fun hg=>(aH (n:=2) (o':=2) rfl Tryz.runUnderlying56 rfl Tryz.sizeOf29 (by decide) rfl))<|aI (by simp only [sc0,sc1];rfl) ?_
   refine rgs ((a1.bW.aS==1)||(a1.bW.aS==2)) true (vP b2 2) rfl rfl rfl rfl (fun hg=>(aH (n:=1) (o':=2) (gvt (vP b2 2) hg rfl) Tryz.runUnderlying29 rfl Tryz.sizeOf3 (by decide) rfl))<|rgs ((a1.bW.aS==1)||(a1.bW.aS==2)) true (vI a1.bW.aS) rfl rfl rfl rfl (fun hg=>(aN (gvt (vP b2 2) hg rfl) Tryz.isAgg3 (HS5.look 0 rfl) rfl))<|rgs ((a1.bW.aS==1)||(a1.bW.aS==2)) true (vB (a1.bW.aS==4)) rfl rfl rfl rfl (fun hg=>(bK (gvt (vI a1.bW.aS) hg rfl) rfl rfl))<|rs (vB (((a1.bW.aS==1)||(a1.bW.aS==2))||(a1.bW.aS==4))) (dV rfl rfl (fun hp=>(gvt (vB (a1.bW.aS==4)) (gu rfl hp) rfl)))<|aI (by simp only [sc0,sc1];rfl) ?_
   refine rs (vB (((a1.bW.aS==1)||(a1.bW.aS==2))||(a1.bW.aS==4))) (aK rfl)<|rgs (((a1.bW.aS==1)||(a1.bW.aS==2))||(a1.bW.aS==4)) true (vP b2 2) rfl rfl rfl rfl (fun hg=>(aH (n:=2) (o':=2) rfl Tryz.runUnderlying56 rfl Tryz.sizeOf29 (by decide) rfl))<|rgs (((a1.bW.aS==1)||(a1.bW.aS==2))||(a1.bW.aS==4)) true (vP b2 2) rfl rfl rfl rfl (fun hg=>(aH (n:=1) (o':=2) (gvt (vP b2 2) hg rfl) Tryz.runUnderlying29 rfl Tryz.sizeOf3 (by decide) rfl))<|rgs (((a1.bW.aS==1)||(a1.bW.aS==2))||(a1.bW.aS==4)) true (vI a1.bW.aS) rfl rfl rfl rfl (fun hg=>(aN (gvt (vP b2 2) hg rfl) Tryz.isAgg3 (HS5.look 0 rfl) rfl))<|aI (by simp only [sc0,sc1];rfl) ?_
   refine rgs (((a1.bW.aS==1)||(a1.bW.aS==2))||(a1.bW.aS==4)) true (vB (a1.bW.aS==8)) rfl rfl rfl rfl (fun hg=>(bK (gvt (vI a1.bW.aS) hg rfl) rfl rfl))<|rs (vB ((((a1.bW.aS==1)||(a1.bW.aS==2))||(a1.bW.aS==4))||(a1.bW.aS==8))) (dV rfl rfl (fun hp=>(gvt (vB (a1.bW.aS==8)) (gu rfl hp) rfl)))<|rs (vB ((((a1.bW.aS==1)||(a1.bW.aS==2))||(a1.bW.aS==4))||(a1.bW.aS==8))) (aC rfl) ?_
   try simp only [sc0,sc1]
   refine aB<|aj<|wp_ret<|dn<|aX ?_
   obtain rfl:=Option.some.inj H
   exact bodyPost_ret (aW rfl (aV rfl)) rfl<|⟨rfl,HS5.toE⟩
  ·replace H:=bZ H (nt c2)
   refine wp_seq<|wp_seq<|region<|rs (vB (a1.aF==2)) (bK rfl rfl rfl)<|rs (vB (a1.aF==2)) (aC rfl) ?_
   try simp only [sc0,sc1]
   refine aB<|aj ?_
   obtain ⟨xx1,H,G1⟩:=bJ H
   refine lU [56,58] (fun us w'=>Fit us (fun uj1=>[vB xx1,(uj1 1)])∧St [] h0 w0 h0 [(some b2, .cells #[vI a1.aF,vS a1.aU,vI a1.bW.aS,vB a1.bW.aO,vI a1.dY,vI a1.vN,vL Dw a1.au.length Dx] 56 (0,0)),(some b1, .cells #[vL bQ a0.ay.length bT] 24 (0,0))] w') ?_ ?_
   ·refine wp_cond_split (t:=(a1.aF==2)) rfl (fun c3=>?_) (fun c3=>?_)
    ·replace H:=bU H c3
     refine wp_skip ?_
     obtain rfl:=Option.some.inj H
     refine pz rfl ⟨(fit rfl),HS5⟩
    ·replace H:=bZ H (nt c3)
     refine region<|rs (vB (a1.aF==6)) (bK rfl rfl rfl)<|rs (vB (a1.aF==6)) (aC rfl) ?_
     try simp only [sc0,sc1]
     refine aB ?_
     obtain rfl:=Option.some.inj H
     refine pz rfl ⟨(fit rfl),HS5⟩
   ·rintro us w6 ⟨ND,HS6⟩
    obtain ⟨uj1,rfl⟩:=unj ND
    replace H:=G1
    clear G1
    try simp only [patch,sc0,sc1]
    refine wp_cond_split (t:=xx1) rfl (fun c4=>?_) (fun c4=>?_)
    ·replace H:=bU H c4
     refine wp_seq<|region<|rs (Value.agg #[vL bQ a0.ay.length bT]) (aY (n:=1) (vs:=[vL bQ a0.ay.length bT]) rfl Tryz.isAgg24 (HS6.look 1 rfl) Tryz.sizeOf24 rfl rfl)<|rs (vP b2 4) (aH (n:=1) (o':=4) rfl Tryz.runUnderlying56 rfl Tryz.sizeOf3 (by decide) rfl)<|rs (vI a1.dY) (aN rfl Tryz.isAgg3 (HS6.look 0 rfl) rfl) ?_
     obtain ⟨v4,H4,H⟩:=bJ H
     refine run_eq (v:=vB v4) rfl rfl (bC Tryz.call125 rfl rfl (fG.calls a0 a1.dY bQ bT HS6.sees fB gI H4)) ?_
     intro w7 hE6
     have HS7:=HS6.step hE6
     refine aI (by simp only [sc0,sc1];rfl) ?_
     refine rs (vB v4) (aC rfl) ?_
     try simp only [sc0,sc1]
     refine aB<|aj<|wp_ret<|dn<|aX ?_
     obtain rfl:=Option.some.inj H
     exact bodyPost_ret (aW rfl (aV rfl)) rfl<|⟨rfl,HS7.toE⟩
    ·replace H:=bZ H (nt c4)
     refine wp_seq<|region<|rs (vB (a1.aF==3)) (bK rfl rfl rfl)<|rs (vB (a1.aF==3)) (aC rfl) ?_
     try simp only [sc0,sc1]
     refine aB<|aj<|wp_cond_split (t:=(a1.aF==3)) rfl (fun c5=>?_) (fun c5=>?_)
     ·replace H:=bU H c5
      refine wp_seq<|region<|rs (Value.agg #[vL bQ a0.ay.length bT]) (aY (n:=1) (vs:=[vL bQ a0.ay.length bT]) rfl Tryz.isAgg24 (HS6.look 1 rfl) Tryz.sizeOf24 rfl rfl)<|rs (vP b2 4) (aH (n:=1) (o':=4) rfl Tryz.runUnderlying56 rfl Tryz.sizeOf3 (by decide) rfl)<|rs (vI a1.dY) (aN rfl Tryz.isAgg3 (HS6.look 0 rfl) rfl) ?_
      obtain ⟨v5,H5,H⟩:=bJ H
      refine run_eq (v:=vB v5) rfl rfl (bC Tryz.call125 rfl rfl (fG.calls a0 a1.dY bQ bT HS6.sees fB gI H5)) ?_
      intro w8 hE7
      have HS8:=HS6.step hE7
      refine aI (by simp only [sc0,sc1];rfl) ?_
      refine rs (vB v5) (aK rfl)<|rgs v5 true (vP b2 5) rfl rfl rfl rfl (fun hg=>(aH (n:=1) (o':=5) rfl Tryz.runUnderlying56 rfl Tryz.sizeOf3 (by decide) rfl))<|rgs v5 true (vI a1.vN) rfl rfl rfl rfl (fun hg=>(aN (gvt (vP b2 5) hg rfl) Tryz.isAgg3 (HS8.look 0 rfl) rfl))<|rgs v5 true (vB (decide (a1.vN≥1))) rfl rfl rfl rfl (fun hg=>(bK (gvt (vI a1.vN) hg rfl) rfl rfl))<|aI (by simp only [sc0,sc1];rfl) ?_
      refine rs (vB (v5&&(decide (a1.vN≥1)))) (dw rfl (fun hp=>(gvt (vB (decide (a1.vN≥1))) (gu rfl hp) rfl)) rfl)<|rs (vB (v5&&(decide (a1.vN≥1)))) (aK rfl)<|rgs (v5&&(decide (a1.vN≥1))) true (vP b2 5) rfl rfl rfl rfl (fun hg=>(aH (n:=1) (o':=5) rfl Tryz.runUnderlying56 rfl Tryz.sizeOf3 (by decide) rfl))<|rgs (v5&&(decide (a1.vN≥1))) true (vI a1.vN) rfl rfl rfl rfl (fun hg=>(aN (gvt (vP b2 5) hg rfl) Tryz.isAgg3 (HS8.look 0 rfl) rfl))<|aI (by simp only [sc0,sc1];rfl) ?_
      refine rgs (v5&&(decide (a1.vN≥1))) true (vB (decide (a1.vN≤512))) rfl rfl rfl rfl (fun hg=>(bK (gvt (vI a1.vN) hg rfl) rfl rfl))<|rs (vB ((v5&&(decide (a1.vN≥1)))&&(decide (a1.vN≤512)))) (dw rfl (fun hp=>(gvt (vB (decide (a1.vN≤512))) (gu rfl hp) rfl)) rfl)<|rs (vB ((v5&&(decide (a1.vN≥1)))&&(decide (a1.vN≤512)))) (aC rfl) ?_
      try simp only [sc0,sc1]
      refine aB<|aj<|wp_ret<|dn<|aX ?_
      obtain rfl:=Option.some.inj H
      exact bodyPost_ret (aW rfl (aV rfl)) rfl<|⟨rfl,HS8.toE⟩
     ·replace H:=bZ H (nt c5)
      refine wp_skip<|dB<|aj<|wp_seq<|wp_seq<|region<|rs (vP b2 6) (aH (n:=1) (o':=6) rfl Tryz.runUnderlying56 rfl Tryz.sizeOf54 (by decide) rfl)<|rs (vL Dw a1.au.length Dx) (aN rfl Tryz.isAgg54 (HS6.look 0 rfl) rfl) ?_
      obtain ⟨v6,H6,H⟩:=bJ H
      refine run_eq (v:=vB v6) rfl rfl (bC Tryz.call126 rfl rfl (bP.calls k a1.au Dw Dx HS6.sees Qi Ut H6)) ?_
      intro w9 hE8
      have HS9:=HS6.step hE8
      refine rs (vB (!v6)) (kN rfl) ?_
      try simp only [sc0,sc1]
      refine aB<|aj<|wp_cond_split (t:=(!v6)) rfl (fun c6=>?_) (fun c6=>?_)
      ·replace H:=bU H c6
       refine wp_seq<|region<|rs (vB false) (aC rfl) ?_
       try simp only [sc0,sc1]
       refine aB<|aj<|wp_ret<|aX ?_
       obtain rfl:=Option.some.inj H
       exact bodyPost_ret (aW rfl (aV rfl)) rfl<|⟨rfl,HS9.toE⟩
      ·replace H:=bZ H (nt c6)
       refine wp_skip<|aj<|wp_seq<|wp_seq<|region<|rs (vI 0) (aC rfl) ?_
       try simp only [sc0,sc1]
       refine aB<|aj ?_
       obtain ⟨xx2,H,G2⟩:=bJ H
       refine iW [4,5,6,83,84,85,86,87,88,89,90,91,92,93,94,95,96,97,98,99,100,101,102,103,104,105,106,107,108,109,110,111,112,113,114,115,116,117,118,119,120,121,122] (fun m us w'=>∃(aG:Int),Fit us (fun uy1=>[(uy1 0),vI aG,(uy1 2),(uy1 3),(uy1 4),(uy1 5),(uy1 6),(uy1 7),(uy1 8),(uy1 9),(uy1 10),(uy1 11),(uy1 12),(uy1 13),(uy1 14),(uy1 15),(uy1 16),(uy1 17),(uy1 18),(uy1 19),(uy1 20),(uy1 21),(uy1 22),(uy1 23),(uy1 24),(uy1 25),(uy1 26),(uy1 27),(uy1 28),(uy1 29),(uy1 30),(uy1 31),(uy1 32),(uy1 33),(uy1 34),(uy1 35),(uy1 36),(uy1 37),(uy1 38),(uy1 39),(uy1 40),(uy1 41),(uy1 42)])∧dM.l0 a0 a1 m aG=some xx2∧St [] h0 w0 h0 [(some b2, .cells #[vI a1.aF,vS a1.aU,vI a1.bW.aS,vB a1.bW.aO,vI a1.dY,vI a1.vN,vL Dw a1.au.length Dx] 56 (0,0)),(some b1, .cells #[vL bQ a0.ay.length bT] 24 (0,0))] w') (fun us w'=>∃(s1:Unit),xx2= .inr s1∧Fit us (fun uo1=>[(uo1 0),(uo1 1),(uo1 2),(uo1 3),(uo1 4),(uo1 5),(uo1 6),(uo1 7),(uo1 8),(uo1 9),(uo1 10),(uo1 11),(uo1 12),(uo1 13),(uo1 14),(uo1 15),(uo1 16),(uo1 17),(uo1 18),(uo1 19),(uo1 20),(uo1 21),(uo1 22),(uo1 23),(uo1 24),(uo1 25),(uo1 26),(uo1 27),(uo1 28),(uo1 29),(uo1 30),(uo1 31),(uo1 32),(uo1 33),(uo1 34),(uo1 35),(uo1 36),(uo1 37),(uo1 38),(uo1 39),(uo1 40),(uo1 41),(uo1 42)])∧St [] h0 w0 h0 [(some b2, .cells #[vI a1.aF,vS a1.aU,vI a1.bW.aS,vB a1.bW.aO,vI a1.dY,vI a1.vN,vL Dw a1.au.length Dx] 56 (0,0)),(some b1, .cells #[vL bQ a0.ay.length bT] 24 (0,0))] w') k ⟨0,(fit rfl),H,HS9⟩ ?_ ?_
       ·rintro m us w10 ⟨aG,lZ,H,qN⟩
        obtain ⟨uy1,rfl⟩:=unj lZ
        cases m with
        |zero=>exact absurd H (by simp [dM.l0])
        |succ m=>
         rw [dM.l0] at H
         try simp only [patch,sc0,sc1]
         refine wp_seq<|wp_seq<|region<|rs (vI aG) (aK rfl)<|rs (vP b2 6) (aH (n:=1) (o':=6) rfl Tryz.runUnderlying56 rfl Tryz.sizeOf54 (by decide) rfl)<|rs (vL Dw a1.au.length Dx) (aN rfl Tryz.isAgg54 (qN.look 0 rfl) rfl)<|rs (vI (a1.au.length:Int)) (iT rfl Tryz.runUnderlying54)<|aI (by simp only [sc0,sc1];rfl) ?_
         refine rs (vB (decide (aG<(a1.au.length:Int)))) (bK rfl rfl rfl) ?_
         try simp only [sc0,sc1]
         refine aB<|aj<|wp_cond_split (t:=(decide (aG<(a1.au.length:Int)))) rfl (fun c7=>?_) (fun c7=>?_)
         ·replace H:=bU H c7
          refine wp_skip<|aj<|wp_seq<|wp_block<|wp_seq<|region<|rs (vP b2 6) (aH (n:=1) (o':=6) rfl Tryz.runUnderlying56 rfl Tryz.sizeOf54 (by decide) rfl)<|rs (vL Dw a1.au.length Dx) (aN rfl Tryz.isAgg54 (qN.look 0 rfl) rfl)<|rs (vI aG) (aK rfl) ?_
          obtain ⟨hi1,H⟩:=fE H
          obtain ⟨ad1,e1,kX⟩:=iR Qi hi1.1 hi1.2
          refine rs (Value.pointer (some (Addr.add ad1 (aG.toNat*3)))) (dQ (sz:=3) rfl e1 rfl hi1.1 hi1.2 Tryz.runUnderlying54 Tryz.sizeOf129)<|aI (by simp only [sc0,sc1];rfl) ?_
          refine rs (Value.agg #[vS ((rd ak a1.au aG).aU),vI ((rd ak a1.au aG).vType),vI ((rd ak a1.au aG).vAt)]) (gK rfl Tryz.isAgg129 (kX.sees qN.sees) Tryz.sizeOf129)<|dK rfl rfl (fA (cs:=#[vS ByteArray.empty,vI 0,vI 0]) Tryz.zeroValue129 rfl) ?_
          rintro w11 _ hE9 ⟨b3,rfl,ge3,hb3⟩
          have wU:=qN.new hE9 ge3 hb3
          refine gq (i:=0) (cs:=[vS ByteArray.empty,vI 0,vI 0]) (cs':=[vS ((rd ak a1.au aG).aU),vI ((rd ak a1.au aG).vType),vI ((rd ak a1.au aG).vAt)]) (vs:=[vS ((rd ak a1.au aG).aU),vI ((rd ak a1.au aG).vType),vI ((rd ak a1.au aG).vAt)]) (bs':=[(some b3, .cells #[vS ((rd ak a1.au aG).aU),vI ((rd ak a1.au aG).vType),vI ((rd ak a1.au aG).vAt)] 129 (0,0)),(some b2, .cells #[vI a1.aF,vS a1.aU,vI a1.bW.aS,vB a1.bW.aO,vI a1.dY,vI a1.vN,vL Dw a1.au.length Dx] 56 (0,0)),(some b1, .cells #[vL bQ a0.ay.length bT] 24 (0,0))]) rfl rfl Tryz.sizeOf129 rfl rfl (by decide) rfl wU rfl (Nat.le_of_ble_eq_true rfl) rfl rfl ?_
          intro w12 sU
          try simp only [sc0,sc1]
          refine aB<|aj<|wp_seq<|wp_seq<|region<|rs (vP b2 0) (aH (n:=1) (o':=0) rfl Tryz.runUnderlying56 rfl Tryz.sizeOf3 (by decide) rfl)<|rs (vI a1.aF) (aN rfl Tryz.isAgg3 (sU.look 1 rfl) rfl)<|rs (vB (a1.aF==4)) (bK rfl rfl rfl)<|rs (vB (a1.aF==4)) (aK rfl)<|aI (by simp only [sc0,sc1];rfl) ?_
          refine rgs (a1.aF==4) true (Value.agg #[vL bQ a0.ay.length bT]) rfl rfl rfl rfl (fun hg=>(aY (n:=1) (vs:=[vL bQ a0.ay.length bT]) rfl Tryz.isAgg24 (sU.look 2 rfl) Tryz.sizeOf24 rfl rfl))<|rgs (a1.aF==4) true (vP b3 1) rfl rfl rfl rfl (fun hg=>(aH (n:=1) (o':=1) rfl Tryz.runUnderlying129 rfl Tryz.sizeOf3 (by decide) rfl))<|rgs (a1.aF==4) true (vI ((rd ak a1.au aG).vType)) rfl rfl rfl rfl (fun hg=>(aN (gvt (vP b3 1) hg rfl) Tryz.isAgg3 (sU.look 0 rfl) rfl)) ?_
          obtain ⟨v7,H7,H⟩:=bJ H
          refine vU (b:=(a1.aF==4)) (c:=true) (v:=vB v7) rfl rfl rfl rfl (fun hg=>(bC Tryz.call125 rfl (Kt (gvt (Value.agg #[vL bQ a0.ay.length bT]) hg rfl) (gvt (vI ((rd ak a1.au aG).vType)) hg rfl)) (fG.calls a0 ((rd ak a1.au aG).vType) bQ bT sU.sees fB gI (bU H7 hg)))) ?_
          intro w13 Yc
          have zy:=sU.step Yc
          refine aI (by simp only [sc0,sc1];rfl) ?_
          refine rgs (a1.aF==4) true (vB (!v7)) rfl rfl rfl rfl (fun hg=>(kN (gvt (vB v7) hg rfl)))<|rs (vB ((a1.aF==4)&&(!v7))) (dw rfl (fun hp=>(gvt (vB (!v7)) (gu rfl hp) rfl)) rfl) ?_
          try simp only [sc0,sc1]
          refine aB<|aj<|wp_cond_split (t:=((a1.aF==4)&&(!v7))) rfl (fun c8=>?_) (fun c8=>?_)
          ·replace H:=bU H c8
           refine wp_seq<|region<|rs (vB false) (aC rfl) ?_
           try simp only [sc0,sc1]
           refine aB<|aj<|wp_ret<|aX<|dn<|aX<|gW<|aX ?_
           obtain rfl:=Option.some.inj H
           obtain rfl:=Option.some.inj G2
           exact bodyPost_ret (aW rfl (aV rfl)) rfl<|⟨rfl,zy.toE⟩
          ·replace H:=bZ H (nt c8)
           refine wp_skip<|aj<|wp_seq<|region<|rs (vP b2 0) (aH (n:=1) (o':=0) rfl Tryz.runUnderlying56 rfl Tryz.sizeOf3 (by decide) rfl)<|rs (vI a1.aF) (aN rfl Tryz.isAgg3 (zy.look 1 rfl) rfl)<|rs (vB (a1.aF==5)) (bK rfl rfl rfl)<|rs (vB (a1.aF==5)) (aK rfl)<|aI (by simp only [sc0,sc1];rfl) ?_
           refine rgs (a1.aF==5) true (vP b3 1) rfl rfl rfl rfl (fun hg=>(aH (n:=1) (o':=1) rfl Tryz.runUnderlying129 rfl Tryz.sizeOf3 (by decide) rfl))<|rgs (a1.aF==5) true (vI ((rd ak a1.au aG).vType)) rfl rfl rfl rfl (fun hg=>(aN (gvt (vP b3 1) hg rfl) Tryz.isAgg3 (zy.look 0 rfl) rfl))<|rgs (a1.aF==5) true (vB ((rd ak a1.au aG).vType !=0)) rfl rfl rfl rfl (fun hg=>(bK (gvt (vI ((rd ak a1.au aG).vType)) hg rfl) rfl rfl))<|rgs (a1.aF==5) true (vB ((rd ak a1.au aG).vType !=0)) rfl rfl rfl rfl (fun hg=>(aK (gvt (vB ((rd ak a1.au aG).vType !=0)) hg rfl)))<|aI (by simp only [sc0,sc1];rfl) ?_
           refine rgs ((rd ak a1.au aG).vType !=0) (true&&((a1.aF==5)==true)) (vP b3 2) rfl rfl rfl rfl (fun hg=>(aH (n:=1) (o':=2) rfl Tryz.runUnderlying129 rfl Tryz.sizeOf3 (by decide) rfl))<|rgs ((rd ak a1.au aG).vType !=0) (true&&((a1.aF==5)==true)) (vI ((rd ak a1.au aG).vAt)) rfl rfl rfl rfl (fun hg=>(aN (gvt (vP b3 2) hg rfl) Tryz.isAgg3 (zy.look 0 rfl) rfl))<|rgs ((rd ak a1.au aG).vType !=0) (true&&((a1.aF==5)==true)) (vB (decide ((rd ak a1.au aG).vAt<(-2147483648)))) rfl rfl rfl rfl (fun hg=>(bK (gvt (vI ((rd ak a1.au aG).vAt)) hg rfl) rfl rfl))<|rgs (a1.aF==5) true (vB (((rd ak a1.au aG).vType !=0)||(decide ((rd ak a1.au aG).vAt<(-2147483648))))) rfl rfl rfl rfl (fun hg=>(dV (gvt (vB ((rd ak a1.au aG).vType !=0)) hg rfl) rfl (fun hp=>(gvt (vB (decide ((rd ak a1.au aG).vAt<(-2147483648)))) (gu hg hp) rfl))))<|aI (by simp only [sc0,sc1];rfl) ?_
           refine rgs (a1.aF==5) true (vB (((rd ak a1.au aG).vType !=0)||(decide ((rd ak a1.au aG).vAt<(-2147483648))))) rfl rfl rfl rfl (fun hg=>(aK (gvt (vB (((rd ak a1.au aG).vType !=0)||(decide ((rd ak a1.au aG).vAt<(-2147483648))))) hg rfl)))<|rgs (((rd ak a1.au aG).vType !=0)||(decide ((rd ak a1.au aG).vAt<(-2147483648)))) (true&&((a1.aF==5)==true)) (vP b3 2) rfl rfl rfl rfl (fun hg=>(aH (n:=1) (o':=2) rfl Tryz.runUnderlying129 rfl Tryz.sizeOf3 (by decide) rfl))<|rgs (((rd ak a1.au aG).vType !=0)||(decide ((rd ak a1.au aG).vAt<(-2147483648)))) (true&&((a1.aF==5)==true)) (vI ((rd ak a1.au aG).vAt)) rfl rfl rfl rfl (fun hg=>(aN (gvt (vP b3 2) hg rfl) Tryz.isAgg3 (zy.look 0 rfl) rfl))<|rgs (((rd ak a1.au aG).vType !=0)||(decide ((rd ak a1.au aG).vAt<(-2147483648)))) (true&&((a1.aF==5)==true)) (vB (decide ((rd ak a1.au aG).vAt>2147483647))) rfl rfl rfl rfl (fun hg=>(bK (gvt (vI ((rd ak a1.au aG).vAt)) hg rfl) rfl rfl))<|aI (by simp only [sc0,sc1];rfl) ?_
           refine rgs (a1.aF==5) true (vB ((((rd ak a1.au aG).vType !=0)||(decide ((rd ak a1.au aG).vAt<(-2147483648))))||(decide ((rd ak a1.au aG).vAt>2147483647)))) rfl rfl rfl rfl (fun hg=>(dV (gvt (vB (((rd ak a1.au aG).vType !=0)||(decide ((rd ak a1.au aG).vAt<(-2147483648))))) hg rfl) rfl (fun hp=>(gvt (vB (decide ((rd ak a1.au aG).vAt>2147483647))) (gu hg hp) rfl))))<|rs (vB ((a1.aF==5)&&((((rd ak a1.au aG).vType !=0)||(decide ((rd ak a1.au aG).vAt<(-2147483648))))||(decide ((rd ak a1.au aG).vAt>2147483647))))) (dw rfl (fun hp=>(gvt (vB ((((rd ak a1.au aG).vType !=0)||(decide ((rd ak a1.au aG).vAt<(-2147483648))))||(decide ((rd ak a1.au aG).vAt>2147483647)))) (gu rfl hp) rfl)) rfl) ?_
           try simp only [sc0,sc1]
           refine aB<|aj<|wp_cond_split (t:=((a1.aF==5)&&((((rd ak a1.au aG).vType !=0)||(decide ((rd ak a1.au aG).vAt<(-2147483648))))||(decide ((rd ak a1.au aG).vAt>2147483647))))) rfl (fun c9=>?_) (fun c9=>?_)
           ·replace H:=bU H c9
            refine wp_seq<|region<|rs (vB false) (aC rfl) ?_
            try simp only [sc0,sc1]
            refine aB<|aj<|wp_ret<|dn<|aX<|gW<|aX ?_
            obtain rfl:=Option.some.inj H
            obtain rfl:=Option.some.inj G2
            exact bodyPost_ret (aW rfl (aV rfl)) rfl<|⟨rfl,zy.toE⟩
           ·replace H:=bZ H (nt c9)
            refine wp_skip<|dB<|aj<|region<|rs (vI aG) (aK rfl)<|rs (vI (w64 (aG+1))) (bK rfl rfl rfl)<|rs (vI (w64 (aG+1))) (aC rfl) ?_
            try simp only [sc0,sc1]
            refine aB<|gX m (Nat.lt_succ_self m) rfl ⟨(w64 (aG+1)),(fit rfl),H,zy.tail⟩
         ·replace H:=bZ H (nt c7)
          refine wp_exit<|fF ?_
          obtain rfl:=Option.some.inj H
          refine iw rfl ⟨_,rfl,(fit rfl),qN⟩
       ·rintro us w14 ⟨s1,rfl,l7,E5⟩
        obtain ⟨uo1,rfl⟩:=unj l7
        replace H:=G2
        clear G2
        try simp only [patch,sc0,sc1]
        refine aj<|wp_seq<|region<|rs (vP b2 0) (aH (n:=1) (o':=0) rfl Tryz.runUnderlying56 rfl Tryz.sizeOf3 (by decide) rfl)<|rs (vI a1.aF) (aN rfl Tryz.isAgg3 (E5.look 0 rfl) rfl)<|rs (vB (a1.aF==5)) (bK rfl rfl rfl)<|rs (vB (a1.aF==5)) (aK rfl)<|aI (by simp only [sc0,sc1];rfl) ?_
        refine rgs (a1.aF==5) true (vP b2 5) rfl rfl rfl rfl (fun hg=>(aH (n:=1) (o':=5) rfl Tryz.runUnderlying56 rfl Tryz.sizeOf3 (by decide) rfl))<|rgs (a1.aF==5) true (vI a1.vN) rfl rfl rfl rfl (fun hg=>(aN (gvt (vP b2 5) hg rfl) Tryz.isAgg3 (E5.look 0 rfl) rfl))<|rgs (a1.aF==5) true (vB (decide (a1.vN≥1))) rfl rfl rfl rfl (fun hg=>(bK (gvt (vI a1.vN) hg rfl) rfl rfl))<|rgs (a1.aF==5) true (vB (decide (a1.vN≥1))) rfl rfl rfl rfl (fun hg=>(aK (gvt (vB (decide (a1.vN≥1))) hg rfl)))<|aI (by simp only [sc0,sc1];rfl) ?_
        refine rgs (decide (a1.vN≥1)) (true&&((a1.aF==5)==false)) (vP b2 5) rfl rfl rfl rfl (fun hg=>(aH (n:=1) (o':=5) rfl Tryz.runUnderlying56 rfl Tryz.sizeOf3 (by decide) rfl))<|rgs (decide (a1.vN≥1)) (true&&((a1.aF==5)==false)) (vI a1.vN) rfl rfl rfl rfl (fun hg=>(aN (gvt (vP b2 5) hg rfl) Tryz.isAgg3 (E5.look 0 rfl) rfl))<|rgs (decide (a1.vN≥1)) (true&&((a1.aF==5)==false)) (vB (decide (a1.vN≤512))) rfl rfl rfl rfl (fun hg=>(bK (gvt (vI a1.vN) hg rfl) rfl rfl))<|rgs (a1.aF==5) true (vB ((decide (a1.vN≥1))&&(decide (a1.vN≤512)))) rfl rfl rfl rfl (fun hg=>(dw (gvt (vB (decide (a1.vN≥1))) hg rfl) (fun hp=>(gvt (vB (decide (a1.vN≤512))) (gu hg hp) rfl)) rfl))<|aI (by simp only [sc0,sc1];rfl) ?_
        refine rs (vB ((a1.aF==5)||((decide (a1.vN≥1))&&(decide (a1.vN≤512))))) (dV rfl rfl (fun hp=>(gvt (vB ((decide (a1.vN≥1))&&(decide (a1.vN≤512)))) (gu rfl hp) rfl)))<|rs (vB ((a1.aF==5)||((decide (a1.vN≥1))&&(decide (a1.vN≤512))))) (aC rfl) ?_
        try simp only [sc0,sc1]
        refine aB<|aj<|wp_ret ?_
        obtain rfl:=Option.some.inj H
        exact bodyPost_ret (aW rfl (aV rfl)) rfl<|⟨rfl,E5.toE⟩
def eu.l0 (a0:bV) (a1:List Int):Nat→Int→Option ((Int)⊕(Unit))
 |0,_=>none
 |m+1,aG=>if (decide (aG<(a0.au.length:Int)))=true then (if 0≤aG∧aG<a0.au.length then (if 0≤(rd ak a0.au aG).vType∧(rd ak a0.au aG).vType<a1.length then (if ((rd 0 a1 ((rd ak a0.au aG).vType))==0)=true then (some (.inl 0)) else (eu.l0 a0 a1 m (IntKind.wrap .i64 (aG+1)))) else none) else none) else (some (.inr ()))
def eu.f (k:Nat) (a0:bV) (a1:List Int):Option (Int):=if (a0.aF==1)=true then (some a0.bW.aS) else (if (a0.aF==2)=true then (some 8) else (if (a0.aF==3)=true then (if 0≤a0.dY∧a0.dY<a1.length then (some (IntKind.wrap .i64 (a0.vN*(rd 0 a1 a0.dY)))) else none) else (if (a0.aF==5)=true then (some 4) else (if (a0.aF==6)=true then (if 0≤a0.dY∧a0.dY<a1.length then (some (rd 0 a1 a0.dY)) else none) else ((eu.l0 a0 a1 k 0).bind fun xx1=>(match xx1 with| .inl r=>some r| .inr s1=>some a0.vN))))))
theorem eu.calls (k:Nat) (a0:bV) (a1:List Int) (jU:Option Addr) (jV:Nat) (lu:Option Addr) (lC:Nat) {h0:View} {w0:World} (hv:jf h0 w0) (qM:Rd fM h0 jU a0.au) (uZ:a0.au.length≤jV) (qx:Rd (Kd.int .i64) h0 lu a1) (wY:a1.length≤lC) {r:Int} (H:eu.f k a0 a1=some r):Calls Tryz.prog 127 #[Value.agg #[vI a0.aF,vS a0.aU,vI a0.bW.aS,vB a0.bW.aO,vI a0.dY,vI a0.vN,vL jU a0.au.length jV],vL lu a1.length lC] w0 (fun e w1=>e= .returned (vI r)∧Ext w0 w1):=by
 unfold eu.f at H
 have HS:St [] h0 w0 h0 [] w0:=St.init hv
 go_enter Tryz.func127,Tryz.ntmps127
 refine wp_seq<|region<|dK rfl rfl (dH (cs:=#[vI a0.aF,vS a0.aU,vI a0.bW.aS,vB a0.bW.aO,vI a0.dY,vI a0.vN,vL jU a0.au.length jV]) rfl rfl) ?_
 rintro w1 _ hE1 ⟨b1,rfl,ge1,hb1⟩
 have HS1:=HS.new hE1 ge1 hb1
 refine rs (vI 0) (aC rfl) ?_
 try simp only [sc0,sc1]
 refine aB<|aj<|wp_seq<|wp_seq<|region<|rs (vP b1 0) (aH (n:=1) (o':=0) rfl Tryz.runUnderlying56 rfl Tryz.sizeOf3 (by decide) rfl)<|rs (vI a0.aF) (aN rfl Tryz.isAgg3 (HS1.look 0 rfl) rfl) ?_
 try simp only [sc0,sc1]
 refine aB<|aj<|wp_block<|wp_seq<|region<|rs (vB (a0.aF==1)) (bK rfl rfl rfl)<|rs (vB (a0.aF==1)) (aC rfl) ?_
 try simp only [sc0,sc1]
 refine aB<|aj<|wp_cond_split (t:=(a0.aF==1)) rfl (fun c1=>?_) (fun c1=>?_)
 ·replace H:=bU H c1
  refine wp_seq<|region<|rs (vP b1 2) (aH (n:=2) (o':=2) rfl Tryz.runUnderlying56 rfl Tryz.sizeOf29 (by decide) rfl)<|rs (vP b1 2) (aH (n:=1) (o':=2) rfl Tryz.runUnderlying29 rfl Tryz.sizeOf3 (by decide) rfl)<|rs (vI a0.bW.aS) (aN rfl Tryz.isAgg3 (HS1.look 0 rfl) rfl)<|rs (vI a0.bW.aS) (aC rfl) ?_
  try simp only [sc0,sc1]
  refine aB<|aj<|wp_ret<|dn<|aX ?_
  obtain rfl:=Option.some.inj H
  exact bodyPost_ret (aW rfl (aV rfl)) rfl<|⟨rfl,HS1.toE⟩
 ·replace H:=bZ H (nt c1)
  refine wp_seq<|region<|rs (vB (a0.aF==2)) (bK rfl rfl rfl)<|rs (vB (a0.aF==2)) (aC rfl) ?_
  try simp only [sc0,sc1]
  refine aB<|aj<|wp_cond_split (t:=(a0.aF==2)) rfl (fun c2=>?_) (fun c2=>?_)
  ·replace H:=bU H c2
   refine wp_seq<|region<|rs (vI 8) (aC rfl) ?_
   try simp only [sc0,sc1]
   refine aB<|aj<|wp_ret<|dn<|aX ?_
   obtain rfl:=Option.some.inj H
   exact bodyPost_ret (aW rfl (aV rfl)) rfl<|⟨rfl,HS1.toE⟩
  ·replace H:=bZ H (nt c2)
   refine wp_seq<|region<|rs (vB (a0.aF==3)) (bK rfl rfl rfl)<|rs (vB (a0.aF==3)) (aC rfl) ?_
   try simp only [sc0,sc1]
   refine aB<|aj<|wp_cond_split (t:=(a0.aF==3)) rfl (fun c3=>?_) (fun c3=>?_)
   ·replace H:=bU H c3
    refine wp_seq ?_
    obtain ⟨hi1,H⟩:=fE H
    obtain ⟨ad1,e1,kX⟩:=oU qx hi1.1 hi1.2
    refine drawn [.eq (vP b1 5), .eq (vI a0.vN), .eq (vL lu a1.length lC), .eq (vP b1 4), .eq (vI a0.dY), .eq (Value.pointer (some (Addr.add ad1 (a0.dY.toNat*1)))), .eq (vI (rd 0 a1 a0.dY)), .eq (vI (w64 (a0.vN*(rd 0 a1 a0.dY))))] [17,18,19,20,21,22,23,24] nD (by kernel_rfl) rfl (bn (bn (bn (bn (bn (bn (bn (bn jh)))))))) ⟨bI rfl (fun a' w' hE hk=>by have HSd:=HS1.step hE;exact cu (aH (n:=1) (o':=5) (show _=vP b1 0 from hk 2 rfl) Tryz.runUnderlying56 rfl Tryz.sizeOf3 (by decide) rfl)),bI rfl (fun a' w' hE hk=>by have HSd:=HS1.step hE;exact cu (aN (show _=vP b1 5 from hk 17 rfl) Tryz.isAgg3 (HSd.look 0 rfl) rfl)),bI rfl (fun a' w' hE hk=>by have HSd:=HS1.step hE;exact cu (aK (show _=vL lu a1.length lC from hk 1 rfl))),bI rfl (fun a' w' hE hk=>by have HSd:=HS1.step hE;exact cu (aH (n:=1) (o':=4) (show _=vP b1 0 from hk 2 rfl) Tryz.runUnderlying56 rfl Tryz.sizeOf3 (by decide) rfl)),bI rfl (fun a' w' hE hk=>by have HSd:=HS1.step hE;exact cu (aN (show _=vP b1 4 from hk 20 rfl) Tryz.isAgg3 (HSd.look 0 rfl) rfl)),bI rfl (fun a' w' hE hk=>by have HSd:=HS1.step hE;exact cu (dQ (sz:=1) (show _=vL lu a1.length lC from hk 19 rfl) e1 (show _=vI a0.dY from hk 21 rfl) hi1.1 hi1.2 Tryz.runUnderlying81 Tryz.sizeOf3)),bI rfl (fun a' w' hE hk=>by have HSd:=HS1.step hE;exact cu (jF (show _=Value.pointer (some (Addr.add ad1 (a0.dY.toNat*1))) from hk 22 rfl) Tryz.isAgg3 (kX.cell0 HSd.sees rfl))),bI rfl (fun a' w' hE hk=>by have HSd:=HS1.step hE;exact cu (bK (show _=vI a0.vN from hk 18 rfl) (show _=vI (rd 0 a1 a0.dY) from hk 23 rfl) rfl)),trivial⟩ ?_
    intro w2 hE2
    simp only [List.zip_cons_cons,List.zip_nil_left,List.zip_nil_right,yh,sc0,sc1,List.length_cons,List.length_nil,List.drop_succ_cons,List.drop_zero,Nat.zero_add,Nat.reduceAdd]
    have HS2:=HS1.step hE2
    refine rs (vI (w64 (a0.vN*(rd 0 a1 a0.dY)))) (aC rfl) ?_
    try simp only [sc0,sc1]
    refine aB<|aj<|wp_ret<|dn<|aX ?_
    obtain rfl:=Option.some.inj H
    exact bodyPost_ret (aW rfl (aV rfl)) rfl<|⟨rfl,HS2.toE⟩
   ·replace H:=bZ H (nt c3)
    refine wp_seq<|region<|rs (vB (a0.aF==5)) (bK rfl rfl rfl)<|rs (vB (a0.aF==5)) (aC rfl) ?_
    try simp only [sc0,sc1]
    refine aB<|aj<|wp_cond_split (t:=(a0.aF==5)) rfl (fun c4=>?_) (fun c4=>?_)
    ·replace H:=bU H c4
     refine wp_seq<|region<|rs (vI 4) (aC rfl) ?_
     try simp only [sc0,sc1]
     refine aB<|aj<|wp_ret<|dn<|aX ?_
     obtain rfl:=Option.some.inj H
     exact bodyPost_ret (aW rfl (aV rfl)) rfl<|⟨rfl,HS1.toE⟩
    ·replace H:=bZ H (nt c4)
     refine wp_seq<|region<|rs (vB (a0.aF==6)) (bK rfl rfl rfl)<|rs (vB (a0.aF==6)) (aC rfl) ?_
     try simp only [sc0,sc1]
     refine aB<|aj<|wp_cond_split (t:=(a0.aF==6)) rfl (fun c5=>?_) (fun c5=>?_)
     ·replace H:=bU H c5
      refine wp_seq<|region<|rs (vL lu a1.length lC) (aK rfl)<|rs (vP b1 4) (aH (n:=1) (o':=4) rfl Tryz.runUnderlying56 rfl Tryz.sizeOf3 (by decide) rfl)<|rs (vI a0.dY) (aN rfl Tryz.isAgg3 (HS1.look 0 rfl) rfl) ?_
      obtain ⟨hi2,H⟩:=fE H
      obtain ⟨ad2,e2,wV⟩:=oU qx hi2.1 hi2.2
      refine rs (Value.pointer (some (Addr.add ad2 (a0.dY.toNat*1)))) (dQ (sz:=1) rfl e2 rfl hi2.1 hi2.2 Tryz.runUnderlying81 Tryz.sizeOf3)<|aI (by simp only [sc0,sc1];rfl) ?_
      refine rs (vI (rd 0 a1 a0.dY)) (jF rfl Tryz.isAgg3 (wV.cell0 HS1.sees rfl))<|rs (vI (rd 0 a1 a0.dY)) (aC rfl) ?_
      try simp only [sc0,sc1]
      refine aB<|aj<|wp_ret<|dn<|aX ?_
      obtain rfl:=Option.some.inj H
      exact bodyPost_ret (aW rfl (aV rfl)) rfl<|⟨rfl,HS1.toE⟩
     ·replace H:=bZ H (nt c5)
      refine wp_skip<|dB<|aj<|wp_seq<|wp_seq<|region<|rs (vI 0) (aC rfl) ?_
      try simp only [sc0,sc1]
      refine aB<|aj ?_
      obtain ⟨xx1,H,G1⟩:=bJ H
      refine iW [4,5,34,35,36,37,38,39,40,41,42,43,44,45,46,47,48,49,50] (fun m us w'=>∃(aG:Int),Fit us (fun uy1=>[(uy1 0),vI aG,(uy1 2),(uy1 3),(uy1 4),(uy1 5),(uy1 6),(uy1 7),(uy1 8),(uy1 9),(uy1 10),(uy1 11),(uy1 12),(uy1 13),(uy1 14),(uy1 15),(uy1 16),(uy1 17),(uy1 18)])∧eu.l0 a0 a1 m aG=some xx1∧St [] h0 w0 h0 [(some b1, .cells #[vI a0.aF,vS a0.aU,vI a0.bW.aS,vB a0.bW.aO,vI a0.dY,vI a0.vN,vL jU a0.au.length jV] 56 (0,0))] w') (fun us w'=>∃(s1:Unit),xx1= .inr s1∧Fit us (fun uo1=>[(uo1 0),(uo1 1),(uo1 2),(uo1 3),(uo1 4),(uo1 5),(uo1 6),(uo1 7),(uo1 8),(uo1 9),(uo1 10),(uo1 11),(uo1 12),(uo1 13),(uo1 14),(uo1 15),(uo1 16),(uo1 17),(uo1 18)])∧St [] h0 w0 h0 [(some b1, .cells #[vI a0.aF,vS a0.aU,vI a0.bW.aS,vB a0.bW.aO,vI a0.dY,vI a0.vN,vL jU a0.au.length jV] 56 (0,0))] w') k ⟨0,(fit rfl),H,HS1⟩ ?_ ?_
      ·rintro m us w3 ⟨aG,lZ,H,HS3⟩
       obtain ⟨uy1,rfl⟩:=unj lZ
       cases m with
       |zero=>exact absurd H (by simp [eu.l0])
       |succ m=>
        rw [eu.l0] at H
        try simp only [patch,sc0,sc1]
        refine wp_seq<|wp_seq<|region<|rs (vI aG) (aK rfl)<|rs (vP b1 6) (aH (n:=1) (o':=6) rfl Tryz.runUnderlying56 rfl Tryz.sizeOf54 (by decide) rfl)<|rs (vL jU a0.au.length jV) (aN rfl Tryz.isAgg54 (HS3.look 0 rfl) rfl)<|rs (vI (a0.au.length:Int)) (iT rfl Tryz.runUnderlying54)<|aI (by simp only [sc0,sc1];rfl) ?_
        refine rs (vB (decide (aG<(a0.au.length:Int)))) (bK rfl rfl rfl) ?_
        try simp only [sc0,sc1]
        refine aB<|aj<|wp_cond_split (t:=(decide (aG<(a0.au.length:Int)))) rfl (fun c6=>?_) (fun c6=>?_)
        ·replace H:=bU H c6
         refine wp_skip<|aj<|wp_seq<|wp_block<|wp_seq<|region<|rs (vL lu a1.length lC) (aK rfl)<|rs (vP b1 6) (aH (n:=1) (o':=6) rfl Tryz.runUnderlying56 rfl Tryz.sizeOf54 (by decide) rfl)<|rs (vL jU a0.au.length jV) (aN rfl Tryz.isAgg54 (HS3.look 0 rfl) rfl)<|rs (vI aG) (aK rfl)<|aI (by simp only [sc0,sc1];rfl) ?_
         obtain ⟨hi3,H⟩:=fE H
         obtain ⟨ad3,e3,WH⟩:=iR qM hi3.1 hi3.2
         refine rs (Value.pointer (some (Addr.add ad3 (aG.toNat*3)))) (dQ (sz:=3) rfl e3 rfl hi3.1 hi3.2 Tryz.runUnderlying54 Tryz.sizeOf129)<|rs (Value.pointer (some (Addr.add (Addr.add ad3 (aG.toNat*3)) 1))) (jG (n:=1) (o':=1) rfl Tryz.runUnderlying129 rfl Tryz.sizeOf3 (by decide) rfl)<|rs (vI ((rd ak a0.au aG).vType)) (jF rfl Tryz.isAgg3 (WH.cell HS3.sees 1 rfl)) ?_
         obtain ⟨hi4,H⟩:=fE H
         obtain ⟨ad4,e4,ZI⟩:=oU qx hi4.1 hi4.2
         refine rs (Value.pointer (some (Addr.add ad4 (((rd ak a0.au aG).vType).toNat*1)))) (dQ (sz:=1) rfl e4 rfl hi4.1 hi4.2 Tryz.runUnderlying81 Tryz.sizeOf3)<|aI (by simp only [sc0,sc1];rfl) ?_
         refine rs (vI (rd 0 a1 ((rd ak a0.au aG).vType))) (jF rfl Tryz.isAgg3 (ZI.cell0 HS3.sees rfl))<|rs (vB ((rd 0 a1 ((rd ak a0.au aG).vType))==0)) (bK rfl rfl rfl) ?_
         try simp only [sc0,sc1]
         refine aB<|aj<|wp_cond_split (t:=((rd 0 a1 ((rd ak a0.au aG).vType))==0)) rfl (fun c7=>?_) (fun c7=>?_)
         ·replace H:=bU H c7
          refine wp_seq<|region<|rs (vI 0) (aC rfl) ?_
          try simp only [sc0,sc1]
          refine aB<|aj<|wp_ret<|dn<|aX<|gW<|aX ?_
          obtain rfl:=Option.some.inj H
          obtain rfl:=Option.some.inj G1
          exact bodyPost_ret (aW rfl (aV rfl)) rfl<|⟨rfl,HS3.toE⟩
         ·replace H:=bZ H (nt c7)
          refine wp_skip<|dB<|aj<|region<|rs (vI aG) (aK rfl)<|rs (vI (w64 (aG+1))) (bK rfl rfl rfl)<|rs (vI (w64 (aG+1))) (aC rfl) ?_
          try simp only [sc0,sc1]
          refine aB<|gX m (Nat.lt_succ_self m) rfl ⟨(w64 (aG+1)),(fit rfl),H,HS3⟩
        ·replace H:=bZ H (nt c6)
         refine wp_exit<|fF ?_
         obtain rfl:=Option.some.inj H
         refine iw rfl ⟨_,rfl,(fit rfl),HS3⟩
      ·rintro us w4 ⟨s1,rfl,l7,HS4⟩
       obtain ⟨uo1,rfl⟩:=unj l7
       replace H:=G1
       clear G1
       try simp only [patch,sc0,sc1]
       refine aj<|wp_seq<|region<|rs (vP b1 5) (aH (n:=1) (o':=5) rfl Tryz.runUnderlying56 rfl Tryz.sizeOf3 (by decide) rfl)<|rs (vI a0.vN) (aN rfl Tryz.isAgg3 (HS4.look 0 rfl) rfl)<|rs (vI a0.vN) (aC rfl) ?_
       try simp only [sc0,sc1]
       refine aB<|aj<|wp_ret ?_
       obtain rfl:=Option.some.inj H
       exact bodyPost_ret (aW rfl (aV rfl)) rfl<|⟨rfl,HS4.toE⟩
def aZ.l1 (k:Nat) (a0:bf):Nat→Bool→Int→(List Int)→Option (Bool×(List Int))
 |0,_,_,_=>none
 |m+1,kY,nU,DT=>if (decide (nU<(a0.ay.length:Int)))=true then (if 0≤nU∧nU<(((a0.ay.length:Int).toNat:Nat):Int) then (if ((rd 0 DT nU) !=0)=true then (aZ.l1 k a0 m kY (IntKind.wrap .i64 (nU+1)) DT) else (if 0≤nU∧nU<a0.ay.length then ((eu.f k (rd ah a0.ay nU) DT).bind fun v1=>(if (decide (v1>0))=true then (if 0≤nU∧nU<(((a0.ay.length:Int).toNat:Nat):Int) then (aZ.l1 k a0 m true (IntKind.wrap .i64 (nU+1)) (List.set DT nU.toNat (tu v1 513))) else none) else (aZ.l1 k a0 m kY (IntKind.wrap .i64 (nU+1)) DT))) else none)) else none) else (some (kY,DT))
def aZ.l0 (k:Nat) (a0:bf):Nat→Bool→(List Int)→Option ((List Int))
 |0,_,_=>none
 |m+1,aG,bH=>if aG=true then ((aZ.l1 k a0 k false 0 bH).bind fun xx2=>(aZ.l0 k a0 m xx2.1 xx2.2)) else (some bH)
def aZ.f (k:Nat) (a0:bf):Option ((List Int)):=if 0≤(a0.ay.length:Int)∧(a0.ay.length:Int)≤4294967296 then ((aZ.l0 k a0 k true (List.replicate (a0.ay.length:Int).toNat (0:Int))).bind fun xx1=>(some xx1)) else none
theorem aZ.calls (k:Nat) (a0:bf) (bQ:Option Addr) (bT:Nat) {h0:View} {w0:World} (hv:jf h0 w0) (fB:Rd eX h0 bQ a0.ay) (gI:a0.ay.length≤bT) {r:(List Int)} (H:aZ.f k a0=some r):Calls Tryz.prog 79 #[Value.agg #[vL bQ a0.ay.length bT]] w0 (fun e w1=>∃(h1:View) (bQ:Option Addr) (bT:Nat),e= .returned (vL bQ r.length bT)∧r.length≤bT∧Rd (Kd.int .i64) h1 bQ r∧Gr w0.heap.size h0 h1∧jf h1 w1∧Ext w0 w1):=by
 unfold aZ.f at H
 have HS:St [] h0 w0 h0 [] w0:=St.init hv
 go_enter Tryz.func79,Tryz.ntmps79
 refine wp_seq<|region<|dK rfl rfl (dH (cs:=#[vL bQ a0.ay.length bT]) rfl rfl) ?_
 rintro w1 _ hE1 ⟨b1,rfl,ge1,hb1⟩
 have HS1:=HS.new hE1 ge1 hb1
 refine rs (vL none 0 0) (aC rfl) ?_
 try simp only [sc0,sc1]
 refine aB<|aj<|wp_seq<|region<|rs (vP b1 0) (aH (n:=1) (o':=0) rfl Tryz.runUnderlying24 rfl Tryz.sizeOf22 (by decide) rfl)<|rs (vL bQ a0.ay.length bT) (aN rfl Tryz.isAgg22 (HS1.look 0 rfl) rfl)<|rs (vI (a0.ay.length:Int)) (iT rfl Tryz.runUnderlying22) ?_
 obtain ⟨hk1,H⟩:=fE H
 refine run_mk (Kd.int .i64) 0 (zs:=[vI 0]) rfl rfl hk1 Tryz.runUnderlying81 Tryz.typeInfo3 (by decide) rfl Tryz.zeroValue3 rfl rfl HS1 ?_
 intro w2 b2 cs1 HS2 ho1
 refine aI (by simp only [sc0,sc1];rfl) ?_
 refine rs (vL (rowA (some b2)) ((a0.ay.length:Int).toNat) ((a0.ay.length:Int).toNat)) (aC rfl) ?_
 try simp only [sc0,sc1]
 refine aB<|aj<|wp_seq<|wp_seq<|region<|rs (vB true) (aC rfl) ?_
 try simp only [sc0,sc1]
 refine aB<|aj ?_
 obtain ⟨xx1,H,G1⟩:=bJ H
 refine iW [4,5,6,11,12,13,14,15,16,17,18,19,20,21,22,23,24,25,26,27,28,29,30,31,32,33,34,35,36,37] (fun m us w'=>∃aG:Bool,∃bH:List Int,∃kK:List Value,Fit us (fun uy1=>[vB aG,(uy1 1),(uy1 2),(uy1 3),(uy1 4),(uy1 5),(uy1 6),(uy1 7),(uy1 8),(uy1 9),(uy1 10),(uy1 11),(uy1 12),(uy1 13),(uy1 14),(uy1 15),(uy1 16),(uy1 17),(uy1 18),(uy1 19),(uy1 20),(uy1 21),(uy1 22),(uy1 23),(uy1 24),(uy1 25),(uy1 26),(uy1 27),(uy1 28),(uy1 29)])∧aZ.l0 k a0 m aG bH=some xx1∧iY (Kd.int .i64) h0 bH (some b2) ((a0.ay.length:Int).toNat) ((a0.ay.length:Int).toNat) kK∧St [] h0 w0 h0 [((some b2), .cells (kK).toArray 3 (0,0)),(some b1, .cells #[vL bQ a0.ay.length bT] 24 (0,0))] w') (fun us w'=>∃(NU:List Value),Fit us (fun uo2=>[(uo2 0),(uo2 1),(uo2 2),(uo2 3),(uo2 4),(uo2 5),(uo2 6),(uo2 7),(uo2 8),(uo2 9),(uo2 10),(uo2 11),(uo2 12),(uo2 13),(uo2 14),(uo2 15),(uo2 16),(uo2 17),(uo2 18),(uo2 19),(uo2 20),(uo2 21),(uo2 22),(uo2 23),(uo2 24),(uo2 25),(uo2 26),(uo2 27),(uo2 28),(uo2 29)])∧iY (Kd.int .i64) h0 xx1 (some b2) ((a0.ay.length:Int).toNat) ((a0.ay.length:Int).toNat) NU∧St [] h0 w0 h0 [((some b2), .cells (NU).toArray 3 (0,0)),(some b1, .cells #[vL bQ a0.ay.length bT] 24 (0,0))] w') k ⟨true,(List.replicate (a0.ay.length:Int).toNat (0:Int)),cs1,(fit rfl),H,ho1,HS2⟩ ?_ ?_
 ·rintro m us w3 ⟨aG,bH,kK,lZ,H,ng,HS3⟩
  obtain ⟨uy1,rfl⟩:=unj lZ
  cases m with
  |zero=>exact absurd H (by simp [aZ.l0])
  |succ m=>
   rw [aZ.l0] at H
   try simp only [patch,sc0,sc1]
   refine wp_seq<|wp_seq<|region<|rs (vB aG) (aK rfl) ?_
   try simp only [sc0,sc1]
   refine aB<|aj<|wp_cond_split (t:=aG) rfl (fun c1=>?_) (fun c1=>?_)
   ·replace H:=bU H c1
    refine wp_skip<|aj<|wp_block<|wp_seq<|region<|rs (vB false) (aC rfl) ?_
    try simp only [sc0,sc1]
    refine aB<|aj<|wp_seq<|region<|rs (vI 0) (aC rfl) ?_
    try simp only [sc0,sc1]
    refine aB<|aj ?_
    obtain ⟨xx2,H,G2⟩:=bJ H
    refine iW [4,5,6,12,13,14,15,16,17,18,19,20,21,22,23,24,25,26,27,28,29,30,31,32,33,34,35,36,37] (fun m us w'=>∃kY:Bool,∃nU:Int,∃DT:List Int,∃vH:List Value,Fit us (fun uy2=>[vB kY,vI nU,(uy2 2),(uy2 3),(uy2 4),(uy2 5),(uy2 6),(uy2 7),(uy2 8),(uy2 9),(uy2 10),(uy2 11),(uy2 12),(uy2 13),(uy2 14),(uy2 15),(uy2 16),(uy2 17),(uy2 18),(uy2 19),(uy2 20),(uy2 21),(uy2 22),(uy2 23),(uy2 24),(uy2 25),(uy2 26),(uy2 27),(uy2 28)])∧aZ.l1 k a0 m kY nU DT=some xx2∧iY (Kd.int .i64) h0 DT (some b2) ((a0.ay.length:Int).toNat) ((a0.ay.length:Int).toNat) vH∧St [] h0 w0 h0 [((some b2), .cells (vH).toArray 3 (0,0)),(some b1, .cells #[vL bQ a0.ay.length bT] 24 (0,0))] w') (fun us w'=>∃(xG:List Value),Fit us (fun uo1=>[vB xx2.1,(uo1 1),(uo1 2),(uo1 3),(uo1 4),(uo1 5),(uo1 6),(uo1 7),(uo1 8),(uo1 9),(uo1 10),(uo1 11),(uo1 12),(uo1 13),(uo1 14),(uo1 15),(uo1 16),(uo1 17),(uo1 18),(uo1 19),(uo1 20),(uo1 21),(uo1 22),(uo1 23),(uo1 24),(uo1 25),(uo1 26),(uo1 27),(uo1 28)])∧iY (Kd.int .i64) h0 xx2.2 (some b2) ((a0.ay.length:Int).toNat) ((a0.ay.length:Int).toNat) xG∧St [] h0 w0 h0 [((some b2), .cells (xG).toArray 3 (0,0)),(some b1, .cells #[vL bQ a0.ay.length bT] 24 (0,0))] w') k ⟨false,0,bH,kK,(fit rfl),H,ng,HS3⟩ ?_ ?_
    ·rintro m us w4 ⟨kY,nU,DT,vH,WG,H,tK,HS4⟩
     obtain ⟨uy2,rfl⟩:=unj WG
     cases m with
     |zero=>exact absurd H (by simp [aZ.l1])
     |succ m=>
      rw [aZ.l1] at H
      try simp only [patch,sc0,sc1]
      refine wp_seq<|wp_seq<|region<|rs (vI nU) (aK rfl)<|rs (vP b1 0) (aH (n:=1) (o':=0) rfl Tryz.runUnderlying24 rfl Tryz.sizeOf22 (by decide) rfl)<|rs (vL bQ a0.ay.length bT) (aN rfl Tryz.isAgg22 (HS4.look 1 rfl) rfl)<|rs (vI (a0.ay.length:Int)) (iT rfl Tryz.runUnderlying22)<|aI (by simp only [sc0,sc1];rfl) ?_
      refine rs (vB (decide (nU<(a0.ay.length:Int)))) (bK rfl rfl rfl) ?_
      try simp only [sc0,sc1]
      refine aB<|aj<|wp_cond_split (t:=(decide (nU<(a0.ay.length:Int)))) rfl (fun c2=>?_) (fun c2=>?_)
      ·replace H:=bU H c2
       refine wp_skip<|aj<|wp_seq<|wp_block<|wp_seq<|wp_seq<|region<|rs (vL (rowA (some b2)) ((a0.ay.length:Int).toNat) ((a0.ay.length:Int).toNat)) (aK rfl)<|rs (vI nU) (aK rfl) ?_
       obtain ⟨hi1,H⟩:=fE H
       obtain ⟨rb1,_,Wn,rfl,hp1⟩:=tK.at 0 hi1.1 hi1.2
       refine rs (Value.pointer (some ⟨rb1,nU.toNat*1+0,none⟩)) (nH (sz:=1) rfl Wn rfl hi1.1 hi1.2 Tryz.runUnderlying81 Tryz.sizeOf3)<|rs (vI (rd 0 DT nU)) (aN (cs:=vH) rfl Tryz.isAgg3 (HS4.O5 0 rfl Wn) (hp1 0 _ rfl))<|aI (by simp only [sc0,sc1];rfl) ?_
       refine rs (vB ((rd 0 DT nU) !=0)) (bK rfl rfl rfl) ?_
       try simp only [sc0,sc1]
       refine aB<|aj<|wp_cond_split (t:=((rd 0 DT nU) !=0)) rfl (fun c3=>?_) (fun c3=>?_)
       ·replace H:=bU H c3
        refine wp_exit<|fF<|IK<|aj<|region<|rs (vI nU) (aK rfl)<|rs (vI (w64 (nU+1))) (bK rfl rfl rfl)<|rs (vI (w64 (nU+1))) (aC rfl) ?_
        try simp only [sc0,sc1]
        refine aB<|gX m (Nat.lt_succ_self m) rfl ⟨kY,(w64 (nU+1)),DT,vH,(fit rfl),H,tK,HS4⟩
       ·replace H:=bZ H (nt c3)
        refine wp_skip<|aj<|wp_seq<|region<|rs (vP b1 0) (aH (n:=1) (o':=0) rfl Tryz.runUnderlying24 rfl Tryz.sizeOf22 (by decide) rfl)<|rs (vL bQ a0.ay.length bT) (aN rfl Tryz.isAgg22 (HS4.look 1 rfl) rfl)<|rs (vI nU) (aK rfl) ?_
        obtain ⟨hi2,H⟩:=fE H
        obtain ⟨ad1,dO,dR,e1,kX,jO,iD⟩:=gU fB hi2.1 hi2.2
        refine rs (Value.pointer (some (Addr.add ad1 (nU.toNat*7)))) (dQ (sz:=7) rfl e1 rfl hi2.1 hi2.2 Tryz.runUnderlying22 Tryz.sizeOf56)<|aI (by simp only [sc0,sc1];rfl) ?_
        refine rs (Value.agg #[vI ((rd ah a0.ay nU).aF),vS ((rd ah a0.ay nU).aU),vI ((rd ah a0.ay nU).bW.aS),vB ((rd ah a0.ay nU).bW.aO),vI ((rd ah a0.ay nU).dY),vI ((rd ah a0.ay nU).vN),vL dO ((rd ah a0.ay nU).au).length dR]) (gK rfl Tryz.isAgg56 (kX.sees HS4.sees) Tryz.sizeOf56)<|rs (vL (rowA (some b2)) ((a0.ay.length:Int).toNat) ((a0.ay.length:Int).toNat)) (aK rfl) ?_
        obtain ⟨v1,H1,H⟩:=bJ H
        obtain ⟨hl1,hs1,se1,ZJ⟩:=OZ HS4 (i:=0) rfl tK
        refine run_eq (v:=vI v1) rfl rfl (bC Tryz.call127 rfl (Kt rfl (show _=vL (rowA (some b2)) DT.length ((a0.ay.length:Int).toNat) from by rw [tK.len];exact rfl)) (eu.calls k (rd ah a0.ay nU) DT dO dR (rowA (some b2)) ((a0.ay.length:Int).toNat) se1 (iD.ext hs1) jO ZJ tK.cap H1)) ?_
        intro w5 hE2
        have HS5:=HS4.step hE2
        refine rs (vI v1) (aC rfl) ?_
        try simp only [sc0,sc1]
        refine aB<|aj<|wp_seq<|region<|rs (vI v1) (aK rfl)<|rs (vB (decide (v1>0))) (bK rfl rfl rfl) ?_
        try simp only [sc0,sc1]
        refine aB<|aj<|wp_cond_split (t:=(decide (v1>0))) rfl (fun c4=>?_) (fun c4=>?_)
        ·replace H:=bU H c4
         refine wp_seq<|region<|rs (vL (rowA (some b2)) ((a0.ay.length:Int).toNat) ((a0.ay.length:Int).toNat)) (aK rfl)<|rs (vI nU) (aK rfl)<|rs (vI v1) (aK rfl)<|rs (vI (tu v1 513)) (UZ rfl rfl)<|aI (by simp only [sc0,sc1];rfl) ?_
         obtain ⟨hi3,H⟩:=fE H
         obtain ⟨rb2,_,Wp,rfl,hp2⟩:=tK.at 0 hi3.1 hi3.2
         refine rs (Value.pointer (some ⟨rb2,nU.toNat*1+0,none⟩)) (nH (sz:=1) rfl Wp rfl hi3.1 hi3.2 Tryz.runUnderlying81 Tryz.sizeOf3)<|Fh (i:=0) (cs:=vH) (v:=vI (tu v1 513)) Wp rfl rfl Tryz.sizeOf3 rfl rfl HS5 rfl (tK.inb hi3.1 hi3.2 (m:=1) (by decide)) ?_
         intro w6 HS6
         have ho2:=tK.set (o:=0) (v:=vI (tu v1 513)) (x':=(tu v1 513)) hi3.1 hi3.2 hp2 rfl (Nat.le_of_ble_eq_true rfl)
         try simp only [sc0,sc1]
         refine aB<|aj<|region<|rs (vB true) (aC rfl) ?_
         try simp only [sc0,sc1]
         refine aB<|dB<|aj<|region<|rs (vI nU) (aK rfl)<|rs (vI (w64 (nU+1))) (bK rfl rfl rfl)<|rs (vI (w64 (nU+1))) (aC rfl) ?_
         try simp only [sc0,sc1]
         refine aB<|gX m (Nat.lt_succ_self m) rfl ⟨true,(w64 (nU+1)),(List.set DT nU.toNat (tu v1 513)),(List.set vH (nU.toNat*1+0) (vI (tu v1 513))),(fit rfl),H,ho2,HS6⟩
        ·replace H:=bZ H (nt c4)
         refine wp_skip<|dB<|aj<|region<|rs (vI nU) (aK rfl)<|rs (vI (w64 (nU+1))) (bK rfl rfl rfl)<|rs (vI (w64 (nU+1))) (aC rfl) ?_
         try simp only [sc0,sc1]
         refine aB<|gX m (Nat.lt_succ_self m) rfl ⟨kY,(w64 (nU+1)),DT,vH,(fit rfl),H,tK,HS5⟩
      ·replace H:=bZ H (nt c2)
       refine wp_exit<|fF ?_
       obtain rfl:=Option.some.inj H
       refine iw rfl ⟨vH,(fit rfl),tK,HS4⟩
    ·rintro us w7 ⟨xG,l7,Iw,HS7⟩
     obtain ⟨uo1,rfl⟩:=unj l7
     replace H:=G2
     clear G2
     try simp only [patch,sc0,sc1]
     refine dB<|gX m (Nat.lt_succ_self m) rfl ⟨xx2.1,xx2.2,xG,(fit rfl),H,Iw,HS7⟩
   ·replace H:=bZ H (nt c1)
    refine wp_exit<|fF ?_
    obtain rfl:=Option.some.inj H
    refine iw rfl ⟨kK,(fit rfl),ng,HS3⟩
 ·rintro us w8 ⟨NU,WI,Iy,HS8⟩
  obtain ⟨uo2,rfl⟩:=unj WI
  replace H:=G1
  clear G1
  try simp only [patch,sc0,sc1]
  refine aj<|wp_seq<|region<|rs (vL (rowA (some b2)) ((a0.ay.length:Int).toNat) ((a0.ay.length:Int).toNat)) (aK rfl)<|rs (vL (rowA (some b2)) ((a0.ay.length:Int).toNat) ((a0.ay.length:Int).toNat)) (aC rfl) ?_
  try simp only [sc0,sc1]
  refine aB<|aj<|wp_ret ?_
  obtain rfl:=Option.some.inj H
  refine bodyPost_ret (aW rfl (aV rfl)) rfl ?_
  obtain ⟨h1,HS9,hs2,Qh⟩:=vZ HS8 (i:=0) rfl Iy
  exact ⟨h1,(rowA (some b2)),(a0.ay.length:Int).toNat,(by first|rfl|(rw [Iy.len];done)|(rw [Iy.len];rfl)),Iy.cap,Qh,HS9.gr,HS9.sees,HS9.toE⟩
def dJ.l0 (a0:bf):Nat→Int→Int→Option ((Bool)⊕(Unit))
 |0,_,_=>none
 |m+1,aG,bH=>if (decide (bH≤(a0.ay.length:Int)))=true then (if 0≤aG∧aG<a0.ay.length then ((dU.f (rd ah a0.ay aG)).bind fun v1=>(if v1=true then (some (.inl true)) else (if 0≤aG∧aG<a0.ay.length then (dJ.l0 a0 m ((rd ah a0.ay aG).dY) (IntKind.wrap .i64 (bH+1))) else none))) else none) else (some (.inr ()))
def dJ.f (k:Nat) (a0:bf) (a1:Int):Option (Bool):=(dJ.l0 a0 k a1 0).bind fun xx1=>(match xx1 with| .inl r=>some r| .inr s1=>some false)
theorem dJ.calls (k:Nat) (a0:bf) (a1:Int) (bQ:Option Addr) (bT:Nat) {h0:View} {w0:World} (hv:jf h0 w0) (fB:Rd eX h0 bQ a0.ay) (gI:a0.ay.length≤bT) {r:Bool} (H:dJ.f k a0 a1=some r):Calls Tryz.prog 80 #[Value.agg #[vL bQ a0.ay.length bT],vI a1] w0 (fun e w1=>e= .returned (vB r)∧Ext w0 w1):=by
 unfold dJ.f at H
 have HS:St [] h0 w0 h0 [] w0:=St.init hv
 go_enter Tryz.func80,Tryz.ntmps80
 refine wp_seq<|region<|dK rfl rfl (dH (cs:=#[vL bQ a0.ay.length bT]) rfl rfl) ?_
 rintro w1 _ hE1 ⟨b1,rfl,ge1,hb1⟩
 have HS1:=HS.new hE1 ge1 hb1
 refine rs (vB false) (aC rfl) ?_
 try simp only [sc0,sc1]
 refine aB<|aj<|wp_seq<|wp_seq<|region<|rs (vI 0) (aC rfl) ?_
 try simp only [sc0,sc1]
 refine aB<|aj ?_
 obtain ⟨xx1,H,G1⟩:=bJ H
 refine iW [1,4,5,6,7,8,9,10,11,12,13,14,15,16,17,18,19,20,21,22,23,24] (fun m us w'=>∃aG bH:Int,Fit us (fun uy1=>[vI aG,(uy1 1),vI bH,(uy1 3),(uy1 4),(uy1 5),(uy1 6),(uy1 7),(uy1 8),(uy1 9),(uy1 10),(uy1 11),(uy1 12),(uy1 13),(uy1 14),(uy1 15),(uy1 16),(uy1 17),(uy1 18),(uy1 19),(uy1 20),(uy1 21)])∧dJ.l0 a0 m aG bH=some xx1∧St [] h0 w0 h0 [(some b1, .cells #[vL bQ a0.ay.length bT] 24 (0,0))] w') (fun us w'=>∃(s1:Unit),xx1= .inr s1∧Fit us (fun uo1=>[(uo1 0),(uo1 1),(uo1 2),(uo1 3),(uo1 4),(uo1 5),(uo1 6),(uo1 7),(uo1 8),(uo1 9),(uo1 10),(uo1 11),(uo1 12),(uo1 13),(uo1 14),(uo1 15),(uo1 16),(uo1 17),(uo1 18),(uo1 19),(uo1 20),(uo1 21)])∧St [] h0 w0 h0 [(some b1, .cells #[vL bQ a0.ay.length bT] 24 (0,0))] w') k ⟨a1,0,(fit rfl),H,HS1⟩ ?_ ?_
 ·rintro m us w2 ⟨aG,bH,lZ,H,HS2⟩
  obtain ⟨uy1,rfl⟩:=unj lZ
  cases m with
  |zero=>exact absurd H (by simp [dJ.l0])
  |succ m=>
   rw [dJ.l0] at H
   try simp only [patch,sc0,sc1]
   refine wp_seq<|wp_seq<|region<|rs (vI bH) (aK rfl)<|rs (vP b1 0) (aH (n:=1) (o':=0) rfl Tryz.runUnderlying24 rfl Tryz.sizeOf22 (by decide) rfl)<|rs (vL bQ a0.ay.length bT) (aN rfl Tryz.isAgg22 (HS2.look 0 rfl) rfl)<|rs (vI (a0.ay.length:Int)) (iT rfl Tryz.runUnderlying22)<|aI (by simp only [sc0,sc1];rfl) ?_
   refine rs (vB (decide (bH≤(a0.ay.length:Int)))) (bK rfl rfl rfl) ?_
   try simp only [sc0,sc1]
   refine aB<|aj<|wp_cond_split (t:=(decide (bH≤(a0.ay.length:Int)))) rfl (fun c1=>?_) (fun c1=>?_)
   ·replace H:=bU H c1
    refine wp_skip<|aj<|wp_seq<|wp_block<|wp_seq<|wp_seq<|region<|rs (vP b1 0) (aH (n:=1) (o':=0) rfl Tryz.runUnderlying24 rfl Tryz.sizeOf22 (by decide) rfl)<|rs (vL bQ a0.ay.length bT) (aN rfl Tryz.isAgg22 (HS2.look 0 rfl) rfl)<|rs (vI aG) (aK rfl) ?_
    obtain ⟨hi1,H⟩:=fE H
    obtain ⟨ad1,dO,dR,e1,kX,jO,iD⟩:=gU fB hi1.1 hi1.2
    refine rs (Value.pointer (some (Addr.add ad1 (aG.toNat*7)))) (dQ (sz:=7) rfl e1 rfl hi1.1 hi1.2 Tryz.runUnderlying22 Tryz.sizeOf56)<|aI (by simp only [sc0,sc1];rfl) ?_
    refine rs (Value.agg #[vI ((rd ah a0.ay aG).aF),vS ((rd ah a0.ay aG).aU),vI ((rd ah a0.ay aG).bW.aS),vB ((rd ah a0.ay aG).bW.aO),vI ((rd ah a0.ay aG).dY),vI ((rd ah a0.ay aG).vN),vL dO ((rd ah a0.ay aG).au).length dR]) (gK rfl Tryz.isAgg56 (kX.sees HS2.sees) Tryz.sizeOf56) ?_
    obtain ⟨v1,H1,H⟩:=bJ H
    refine run_eq (v:=vB v1) rfl rfl (bC Tryz.call78 rfl rfl (dU.calls (rd ah a0.ay aG) dO dR HS2.sees iD jO H1)) ?_
    intro w3 hE2
    have HS3:=HS2.step hE2
    try simp only [sc0,sc1]
    refine aB<|aj<|wp_cond_split (t:=v1) rfl (fun c2=>?_) (fun c2=>?_)
    ·replace H:=bU H c2
     refine wp_seq<|region<|rs (vB true) (aC rfl) ?_
     try simp only [sc0,sc1]
     refine aB<|aj<|wp_ret<|aX<|dn<|aX<|gW<|aX ?_
     obtain rfl:=Option.some.inj H
     obtain rfl:=Option.some.inj G1
     exact bodyPost_ret (aW rfl (aV rfl)) rfl<|⟨rfl,HS3.toE⟩
    ·replace H:=bZ H (nt c2)
     refine wp_skip<|aj<|region<|rs (vP b1 0) (aH (n:=1) (o':=0) rfl Tryz.runUnderlying24 rfl Tryz.sizeOf22 (by decide) rfl)<|rs (vL bQ a0.ay.length bT) (aN rfl Tryz.isAgg22 (HS3.look 0 rfl) rfl)<|rs (vI aG) (aK rfl) ?_
     obtain ⟨hi2,H⟩:=fE H
     obtain ⟨ad2,zC,zD,e2,wV,Du,Dv⟩:=gU fB hi2.1 hi2.2
     refine rs (Value.pointer (some (Addr.add ad2 (aG.toNat*7)))) (dQ (sz:=7) rfl e2 rfl hi2.1 hi2.2 Tryz.runUnderlying22 Tryz.sizeOf56)<|aI (by simp only [sc0,sc1];rfl) ?_
     refine rs (Value.pointer (some (Addr.add (Addr.add ad2 (aG.toNat*7)) 4))) (jG (n:=1) (o':=4) rfl Tryz.runUnderlying56 rfl Tryz.sizeOf3 (by decide) rfl)<|rs (vI ((rd ah a0.ay aG).dY)) (jF rfl Tryz.isAgg3 (wV.cell HS3.sees 4 rfl))<|rs (vI ((rd ah a0.ay aG).dY)) (aC rfl) ?_
     try simp only [sc0,sc1]
     refine aB<|dB<|aj<|region<|rs (vI bH) (aK rfl)<|rs (vI (w64 (bH+1))) (bK rfl rfl rfl)<|rs (vI (w64 (bH+1))) (aC rfl) ?_
     try simp only [sc0,sc1]
     refine aB<|gX m (Nat.lt_succ_self m) rfl ⟨(rd ah a0.ay aG).dY,(w64 (bH+1)),(fit rfl),H,HS3⟩
   ·replace H:=bZ H (nt c1)
    refine wp_exit<|fF ?_
    obtain rfl:=Option.some.inj H
    refine iw rfl ⟨_,rfl,(fit rfl),HS2⟩
 ·rintro us w4 ⟨s1,rfl,l7,HS4⟩
  obtain ⟨uo1,rfl⟩:=unj l7
  replace H:=G1
  clear G1
  try simp only [patch,sc0,sc1]
  refine aj<|wp_seq<|region<|rs (vB false) (aC rfl) ?_
  try simp only [sc0,sc1]
  refine aB<|aj<|wp_ret ?_
  obtain rfl:=Option.some.inj H
  exact bodyPost_ret (aW rfl (aV rfl)) rfl<|⟨rfl,HS4.toE⟩
def dD.l0 (a0:bV) (a1:List Int):Nat→Int→Int→Option ((Bool)⊕(Int))
 |0,_,_=>none
 |m+1,aG,bH=>if (decide (bH<(a0.au.length:Int)))=true then (if 0≤bH∧bH<a0.au.length then (if ((decide ((rd ak a0.au bH).vAt<aG))||(decide ((rd ak a0.au bH).vAt>a0.vN)))=true then (some (.inl false)) else (if 0≤(rd ak a0.au bH).vType∧(rd ak a0.au bH).vType<a1.length then (dD.l0 a0 a1 m (IntKind.wrap .i64 ((rd ak a0.au bH).vAt+(rd 0 a1 ((rd ak a0.au bH).vType)))) (IntKind.wrap .i64 (bH+1))) else none)) else none) else (some (.inr aG))
def dD.f (k:Nat) (a0:bV) (a1:List Int):Option (Bool):=(dD.l0 a0 a1 k 0 0).bind fun xx1=>(match xx1 with| .inl r=>some r| .inr s1=>some (decide (s1≤a0.vN)))
theorem dD.calls (k:Nat) (a0:bV) (a1:List Int) (jU:Option Addr) (jV:Nat) (lu:Option Addr) (lC:Nat) {h0:View} {w0:World} (hv:jf h0 w0) (qM:Rd fM h0 jU a0.au) (uZ:a0.au.length≤jV) (qx:Rd (Kd.int .i64) h0 lu a1) (wY:a1.length≤lC) {r:Bool} (H:dD.f k a0 a1=some r):Calls Tryz.prog 81 #[Value.agg #[vI a0.aF,vS a0.aU,vI a0.bW.aS,vB a0.bW.aO,vI a0.dY,vI a0.vN,vL jU a0.au.length jV],vL lu a1.length lC] w0 (fun e w1=>e= .returned (vB r)∧Ext w0 w1):=by
 unfold dD.f at H
 have HS:St [] h0 w0 h0 [] w0:=St.init hv
 go_enter Tryz.func81,Tryz.ntmps81
 refine wp_seq<|region<|dK rfl rfl (dH (cs:=#[vI a0.aF,vS a0.aU,vI a0.bW.aS,vB a0.bW.aO,vI a0.dY,vI a0.vN,vL jU a0.au.length jV]) rfl rfl) ?_
 rintro w1 _ hE1 ⟨b1,rfl,ge1,hb1⟩
 have HS1:=HS.new hE1 ge1 hb1
 refine rs (vB false) (aC rfl) ?_
 try simp only [sc0,sc1]
 refine aB<|aj<|wp_seq<|region<|rs (vI 0) (aC rfl) ?_
 try simp only [sc0,sc1]
 refine aB<|aj<|wp_seq<|wp_seq<|region<|rs (vI 0) (aC rfl) ?_
 try simp only [sc0,sc1]
 refine aB<|aj ?_
 obtain ⟨xx1,H,G1⟩:=bJ H
 refine iW [4,5,6,7,8,9,10,11,12,13,14,15,16,17,18,19,20,21,22,23,24,25,26,27,28,29,30,31,32,33,34,35,36,37,38] (fun m us w'=>∃aG bH:Int,Fit us (fun uy1=>[(uy1 0),vI aG,vI bH,(uy1 3),(uy1 4),(uy1 5),(uy1 6),(uy1 7),(uy1 8),(uy1 9),(uy1 10),(uy1 11),(uy1 12),(uy1 13),(uy1 14),(uy1 15),(uy1 16),(uy1 17),(uy1 18),(uy1 19),(uy1 20),(uy1 21),(uy1 22),(uy1 23),(uy1 24),(uy1 25),(uy1 26),(uy1 27),(uy1 28),(uy1 29),(uy1 30),(uy1 31),(uy1 32),(uy1 33),(uy1 34)])∧dD.l0 a0 a1 m aG bH=some xx1∧St [] h0 w0 h0 [(some b1, .cells #[vI a0.aF,vS a0.aU,vI a0.bW.aS,vB a0.bW.aO,vI a0.dY,vI a0.vN,vL jU a0.au.length jV] 56 (0,0))] w') (fun us w'=>∃(s1:Int),xx1= .inr s1∧Fit us (fun uo1=>[(uo1 0),vI s1,(uo1 2),(uo1 3),(uo1 4),(uo1 5),(uo1 6),(uo1 7),(uo1 8),(uo1 9),(uo1 10),(uo1 11),(uo1 12),(uo1 13),(uo1 14),(uo1 15),(uo1 16),(uo1 17),(uo1 18),(uo1 19),(uo1 20),(uo1 21),(uo1 22),(uo1 23),(uo1 24),(uo1 25),(uo1 26),(uo1 27),(uo1 28),(uo1 29),(uo1 30),(uo1 31),(uo1 32),(uo1 33),(uo1 34)])∧St [] h0 w0 h0 [(some b1, .cells #[vI a0.aF,vS a0.aU,vI a0.bW.aS,vB a0.bW.aO,vI a0.dY,vI a0.vN,vL jU a0.au.length jV] 56 (0,0))] w') k ⟨0,0,(fit rfl),H,HS1⟩ ?_ ?_
 ·rintro m us w2 ⟨aG,bH,lZ,H,HS2⟩
  obtain ⟨uy1,rfl⟩:=unj lZ
  cases m with
  |zero=>exact absurd H (by simp [dD.l0])
  |succ m=>
   rw [dD.l0] at H
   try simp only [patch,sc0,sc1]
   refine wp_seq<|wp_seq<|region<|rs (vI bH) (aK rfl)<|rs (vP b1 6) (aH (n:=1) (o':=6) rfl Tryz.runUnderlying56 rfl Tryz.sizeOf54 (by decide) rfl)<|rs (vL jU a0.au.length jV) (aN rfl Tryz.isAgg54 (HS2.look 0 rfl) rfl)<|rs (vI (a0.au.length:Int)) (iT rfl Tryz.runUnderlying54)<|aI (by simp only [sc0,sc1];rfl) ?_
   refine rs (vB (decide (bH<(a0.au.length:Int)))) (bK rfl rfl rfl) ?_
   try simp only [sc0,sc1]
   refine aB<|aj<|wp_cond_split (t:=(decide (bH<(a0.au.length:Int)))) rfl (fun c1=>?_) (fun c1=>?_)
   ·replace H:=bU H c1
    refine wp_skip<|aj<|wp_seq<|wp_block<|wp_seq<|region<|rs (vP b1 6) (aH (n:=1) (o':=6) rfl Tryz.runUnderlying56 rfl Tryz.sizeOf54 (by decide) rfl)<|rs (vL jU a0.au.length jV) (aN rfl Tryz.isAgg54 (HS2.look 0 rfl) rfl)<|rs (vI bH) (aK rfl) ?_
    obtain ⟨hi1,H⟩:=fE H
    obtain ⟨ad1,e1,kX⟩:=iR qM hi1.1 hi1.2
    refine rs (Value.pointer (some (Addr.add ad1 (bH.toNat*3)))) (dQ (sz:=3) rfl e1 rfl hi1.1 hi1.2 Tryz.runUnderlying54 Tryz.sizeOf129)<|aI (by simp only [sc0,sc1];rfl) ?_
    refine rs (Value.agg #[vS ((rd ak a0.au bH).aU),vI ((rd ak a0.au bH).vType),vI ((rd ak a0.au bH).vAt)]) (gK rfl Tryz.isAgg129 (kX.sees HS2.sees) Tryz.sizeOf129)<|dK rfl rfl (fA (cs:=#[vS ByteArray.empty,vI 0,vI 0]) Tryz.zeroValue129 rfl) ?_
    rintro w3 _ hE2 ⟨b2,rfl,ge2,hb2⟩
    have HS3:=HS2.new hE2 ge2 hb2
    refine gq (i:=0) (cs:=[vS ByteArray.empty,vI 0,vI 0]) (cs':=[vS ((rd ak a0.au bH).aU),vI ((rd ak a0.au bH).vType),vI ((rd ak a0.au bH).vAt)]) (vs:=[vS ((rd ak a0.au bH).aU),vI ((rd ak a0.au bH).vType),vI ((rd ak a0.au bH).vAt)]) (bs':=[(some b2, .cells #[vS ((rd ak a0.au bH).aU),vI ((rd ak a0.au bH).vType),vI ((rd ak a0.au bH).vAt)] 129 (0,0)),(some b1, .cells #[vI a0.aF,vS a0.aU,vI a0.bW.aS,vB a0.bW.aO,vI a0.dY,vI a0.vN,vL jU a0.au.length jV] 56 (0,0))]) rfl rfl Tryz.sizeOf129 rfl rfl (by decide) rfl HS3 rfl (Nat.le_of_ble_eq_true rfl) rfl rfl ?_
    intro w4 HS4
    try simp only [sc0,sc1]
    refine aB<|aj<|wp_seq<|wp_seq<|region<|rs (vP b2 2) (aH (n:=1) (o':=2) rfl Tryz.runUnderlying129 rfl Tryz.sizeOf3 (by decide) rfl)<|rs (vI ((rd ak a0.au bH).vAt)) (aN rfl Tryz.isAgg3 (HS4.look 0 rfl) rfl)<|rs (vI aG) (aK rfl)<|rs (vB (decide ((rd ak a0.au bH).vAt<aG))) (bK rfl rfl rfl)<|aI (by simp only [sc0,sc1];rfl) ?_
    refine rs (vB (decide ((rd ak a0.au bH).vAt<aG))) (aK rfl)<|rgs (decide ((rd ak a0.au bH).vAt<aG)) true (vP b2 2) rfl rfl rfl rfl (fun hg=>(aH (n:=1) (o':=2) rfl Tryz.runUnderlying129 rfl Tryz.sizeOf3 (by decide) rfl))<|rgs (decide ((rd ak a0.au bH).vAt<aG)) true (vI ((rd ak a0.au bH).vAt)) rfl rfl rfl rfl (fun hg=>(aN (gvt (vP b2 2) hg rfl) Tryz.isAgg3 (HS4.look 0 rfl) rfl))<|rgs (decide ((rd ak a0.au bH).vAt<aG)) true (vP b1 5) rfl rfl rfl rfl (fun hg=>(aH (n:=1) (o':=5) rfl Tryz.runUnderlying56 rfl Tryz.sizeOf3 (by decide) rfl))<|aI (by simp only [sc0,sc1];rfl) ?_
    refine rgs (decide ((rd ak a0.au bH).vAt<aG)) true (vI a0.vN) rfl rfl rfl rfl (fun hg=>(aN (gvt (vP b1 5) hg rfl) Tryz.isAgg3 (HS4.look 1 rfl) rfl))<|rgs (decide ((rd ak a0.au bH).vAt<aG)) true (vB (decide ((rd ak a0.au bH).vAt>a0.vN))) rfl rfl rfl rfl (fun hg=>(bK (gvt (vI ((rd ak a0.au bH).vAt)) hg rfl) (gvt (vI a0.vN) hg rfl) rfl))<|rs (vB ((decide ((rd ak a0.au bH).vAt<aG))||(decide ((rd ak a0.au bH).vAt>a0.vN)))) (dV rfl rfl (fun hp=>(gvt (vB (decide ((rd ak a0.au bH).vAt>a0.vN))) (gu rfl hp) rfl))) ?_
    try simp only [sc0,sc1]
    refine aB<|aj<|wp_cond_split (t:=((decide ((rd ak a0.au bH).vAt<aG))||(decide ((rd ak a0.au bH).vAt>a0.vN)))) rfl (fun c2=>?_) (fun c2=>?_)
    ·replace H:=bU H c2
     refine wp_seq<|region<|rs (vB false) (aC rfl) ?_
     try simp only [sc0,sc1]
     refine aB<|aj<|wp_ret<|aX<|dn<|aX<|gW<|aX ?_
     obtain rfl:=Option.some.inj H
     obtain rfl:=Option.some.inj G1
     exact bodyPost_ret (aW rfl (aV rfl)) rfl<|⟨rfl,HS4.toE⟩
    ·replace H:=bZ H (nt c2)
     refine wp_skip<|aj ?_
     obtain ⟨hi2,H⟩:=fE H
     obtain ⟨ad2,e2,wV⟩:=oU qx hi2.1 hi2.2
     refine drawn [.eq (vP b2 2), .eq (vI ((rd ak a0.au bH).vAt)), .eq (vL lu a1.length lC), .eq (vP b2 1), .eq (vI ((rd ak a0.au bH).vType)), .eq (Value.pointer (some (Addr.add ad2 (((rd ak a0.au bH).vType).toNat*1)))), .eq (vI (rd 0 a1 ((rd ak a0.au bH).vType))), .eq (vI (w64 ((rd ak a0.au bH).vAt+(rd 0 a1 ((rd ak a0.au bH).vType)))))] [31,32,33,34,35,36,37,38] nD (by kernel_rfl) rfl (bn (bn (bn (bn (bn (bn (bn (bn jh)))))))) ⟨bI rfl (fun a' w' hE hk=>by have HSd:=HS4.step hE;exact cu (aH (n:=1) (o':=2) (show _=vP b2 0 from hk 7 rfl) Tryz.runUnderlying129 rfl Tryz.sizeOf3 (by decide) rfl)),bI rfl (fun a' w' hE hk=>by have HSd:=HS4.step hE;exact cu (aN (show _=vP b2 2 from hk 31 rfl) Tryz.isAgg3 (HSd.look 0 rfl) rfl)),bI rfl (fun a' w' hE hk=>by have HSd:=HS4.step hE;exact cu (aK (show _=vL lu a1.length lC from hk 1 rfl))),bI rfl (fun a' w' hE hk=>by have HSd:=HS4.step hE;exact cu (aH (n:=1) (o':=1) (show _=vP b2 0 from hk 7 rfl) Tryz.runUnderlying129 rfl Tryz.sizeOf3 (by decide) rfl)),bI rfl (fun a' w' hE hk=>by have HSd:=HS4.step hE;exact cu (aN (show _=vP b2 1 from hk 34 rfl) Tryz.isAgg3 (HSd.look 0 rfl) rfl)),bI rfl (fun a' w' hE hk=>by have HSd:=HS4.step hE;exact cu (dQ (sz:=1) (show _=vL lu a1.length lC from hk 33 rfl) e2 (show _=vI ((rd ak a0.au bH).vType) from hk 35 rfl) hi2.1 hi2.2 Tryz.runUnderlying81 Tryz.sizeOf3)),bI rfl (fun a' w' hE hk=>by have HSd:=HS4.step hE;exact cu (jF (show _=Value.pointer (some (Addr.add ad2 (((rd ak a0.au bH).vType).toNat*1))) from hk 36 rfl) Tryz.isAgg3 (wV.cell0 HSd.sees rfl))),bI rfl (fun a' w' hE hk=>by have HSd:=HS4.step hE;exact cu (bK (show _=vI ((rd ak a0.au bH).vAt) from hk 32 rfl) (show _=vI (rd 0 a1 ((rd ak a0.au bH).vType)) from hk 37 rfl) rfl)),trivial⟩ ?_
     intro w5 hE3
     simp only [List.zip_cons_cons,List.zip_nil_left,List.zip_nil_right,yh,sc0,sc1,List.length_cons,List.length_nil,List.drop_succ_cons,List.drop_zero,Nat.zero_add,Nat.reduceAdd]
     have HS5:=HS4.step hE3
     refine rs (vI (w64 ((rd ak a0.au bH).vAt+(rd 0 a1 ((rd ak a0.au bH).vType))))) (aC rfl) ?_
     try simp only [sc0,sc1]
     refine aB<|dB<|aj<|region<|rs (vI bH) (aK rfl)<|rs (vI (w64 (bH+1))) (bK rfl rfl rfl)<|rs (vI (w64 (bH+1))) (aC rfl) ?_
     try simp only [sc0,sc1]
     refine aB<|gX m (Nat.lt_succ_self m) rfl ⟨(w64 ((rd ak a0.au bH).vAt+(rd 0 a1 ((rd ak a0.au bH).vType)))),(w64 (bH+1)),(fit rfl),H,HS5.tail⟩
   ·replace H:=bZ H (nt c1)
    refine wp_exit<|fF ?_
    obtain rfl:=Option.some.inj H
    refine iw rfl ⟨_,rfl,(fit rfl),HS2⟩
 ·rintro us w6 ⟨s1,rfl,l7,HS6⟩
  obtain ⟨uo1,rfl⟩:=unj l7
  replace H:=G1
  clear G1
  try simp only [patch,sc0,sc1]
  refine aj<|wp_seq<|region<|rs (vI s1) (aK rfl)<|rs (vP b1 5) (aH (n:=1) (o':=5) rfl Tryz.runUnderlying56 rfl Tryz.sizeOf3 (by decide) rfl)<|rs (vI a0.vN) (aN rfl Tryz.isAgg3 (HS6.look 0 rfl) rfl)<|rs (vB (decide (s1≤a0.vN))) (bK rfl rfl rfl)<|aI (by simp only [sc0,sc1];rfl) ?_
  refine rs (vB (decide (s1≤a0.vN))) (aC rfl) ?_
  try simp only [sc0,sc1]
  refine aB<|aj<|wp_ret ?_
  obtain rfl:=Option.some.inj H
  exact bodyPost_ret (aW rfl (aV rfl)) rfl<|⟨rfl,HS6.toE⟩
def aP.l1 (a0:bf) (aG:Int):Nat→Int→Option ((Int)⊕(Unit))
 |0,_=>none
 |m+1,kY=>if (decide (kY<aG))=true then (if 0≤aG∧aG<a0.ay.length then ((dU.f (rd ah a0.ay aG)).bind fun v2=>(if (true&&(v2==true))=true→(0≤kY∧kY<a0.ay.length) then (if (true&&(v2==true))=true→(0≤aG∧aG<a0.ay.length) then (if (v2&&(strEq ((rd ah a0.ay kY).aU) ((rd ah a0.ay aG).aU)))=true then (some (.inl 80)) else (aP.l1 a0 aG m (IntKind.wrap .i64 (kY+1)))) else none) else none)) else none) else (some (.inr ()))
def aP.l0 (k:Nat) (a0:bf):Nat→Int→Option ((Int)⊕(Unit))
 |0,_=>none
 |m+1,aG=>if (decide (aG<(a0.ay.length:Int)))=true then (if 0≤aG∧aG<a0.ay.length then ((dM.f k a0 (rd ah a0.ay aG)).bind fun v1=>(if (!v1)=true then (some (.inl 80)) else ((aP.l1 a0 aG k 0).bind fun xx2=>(match xx2 with| .inl r=>some (.inl r)| .inr s1=>aP.l0 k a0 m (IntKind.wrap .i64 (aG+1)))))) else none) else (some (.inr ()))
def aP.l2 (k:Nat) (a0:bf) (v3:(List Int)):Nat→Int→Option ((Int)⊕(Unit))
 |0,_=>none
 |m+1,jg=>if (decide (jg<(a0.ay.length:Int)))=true then (if 0≤jg∧jg<v3.length then (if (true&&(((rd 0 v3 jg)==0)==false))=true→(0≤jg∧jg<v3.length) then ((if (true&&((((rd 0 v3 jg)==0)||(decide ((rd 0 v3 jg)>512)))==false))=true then dJ.f k a0 jg else some false).bind fun v4=>(if ((((rd 0 v3 jg)==0)||(decide ((rd 0 v3 jg)>512)))||(!v4))=true then (some (.inl 80)) else (if 0≤jg∧jg<a0.ay.length then (if (true&&(((rd ah a0.ay jg).aF==4)==true))=true→(0≤jg∧jg<a0.ay.length) then ((if (true&&(((rd ah a0.ay jg).aF==4)==true))=true then dD.f k (rd ah a0.ay jg) v3 else some false).bind fun v5=>(if (((rd ah a0.ay jg).aF==4)&&(!v5))=true then (some (.inl 80)) else (aP.l2 k a0 v3 m (IntKind.wrap .i64 (jg+1))))) else none) else none))) else none) else none) else (some (.inr ()))
def aP.f (k:Nat) (a0:bf):Option (Int):=if (decide ((a0.ay.length:Int)>200))=true then (some 80) else ((aP.l0 k a0 k 0).bind fun xx1=>(match xx1 with| .inl r=>some r| .inr s2=>(aZ.f k a0).bind fun v3=>((aP.l2 k a0 v3 k 0).bind fun xx3=>(match xx3 with| .inl r=>some r| .inr s3=>some 0))))
theorem aP.calls (k:Nat) (a0:bf) (bQ:Option Addr) (bT:Nat) {h0:View} {w0:World} (hv:jf h0 w0) (fB:Rd eX h0 bQ a0.ay) (gI:a0.ay.length≤bT) {r:Int} (H:aP.f k a0=some r):Calls Tryz.prog 38 #[Value.agg #[vL bQ a0.ay.length bT]] w0 (fun e w1=>e= .returned (vI r)∧Ext w0 w1):=by
 unfold aP.f at H
 have HS:St [] h0 w0 h0 [] w0:=St.init hv
 go_enter Tryz.func38,Tryz.ntmps38
 refine wp_seq<|region<|dK rfl rfl (dH (cs:=#[vL bQ a0.ay.length bT]) rfl rfl) ?_
 rintro w1 _ hE1 ⟨b1,rfl,ge1,hb1⟩
 have HS1:=HS.new hE1 ge1 hb1
 refine rs (vI 0) (aC rfl) ?_
 try simp only [sc0,sc1]
 refine aB<|aj<|wp_seq<|wp_seq<|region<|rs (vP b1 0) (aH (n:=1) (o':=0) rfl Tryz.runUnderlying24 rfl Tryz.sizeOf22 (by decide) rfl)<|rs (vL bQ a0.ay.length bT) (aN rfl Tryz.isAgg22 (HS1.look 0 rfl) rfl)<|rs (vI (a0.ay.length:Int)) (iT rfl Tryz.runUnderlying22)<|rs (vB (decide ((a0.ay.length:Int)>200))) (bK rfl rfl rfl) ?_
 try simp only [sc0,sc1]
 refine aB<|aj<|wp_cond_split (t:=(decide ((a0.ay.length:Int)>200))) rfl (fun c1=>?_) (fun c1=>?_)
 ·replace H:=bU H c1
  refine wp_seq<|region<|rs (vI 80) (aC rfl) ?_
  try simp only [sc0,sc1]
  refine aB<|aj<|wp_ret<|aX ?_
  obtain rfl:=Option.some.inj H
  exact bodyPost_ret (aW rfl (aV rfl)) rfl<|⟨rfl,HS1.toE⟩
 ·replace H:=bZ H (nt c1)
  refine wp_skip<|aj<|wp_seq<|wp_seq<|region<|rs (vI 0) (aC rfl) ?_
  try simp only [sc0,sc1]
  refine aB<|aj ?_
  obtain ⟨xx1,H,G1⟩:=bJ H
  refine iW [2,3,4,11,12,13,14,15,16,17,18,19,20,21,22,23,24,25,26,27,28,29,30,31,32,33,34,35,36,37,38,39,40,41,42,43,44,45,46,47,48,49,50,51] (fun m us w'=>∃(aG:Int),Fit us (fun uy1=>[(uy1 0),vI aG,(uy1 2),(uy1 3),(uy1 4),(uy1 5),(uy1 6),(uy1 7),(uy1 8),(uy1 9),(uy1 10),(uy1 11),(uy1 12),(uy1 13),(uy1 14),(uy1 15),(uy1 16),(uy1 17),(uy1 18),(uy1 19),(uy1 20),(uy1 21),(uy1 22),(uy1 23),(uy1 24),(uy1 25),(uy1 26),(uy1 27),(uy1 28),(uy1 29),(uy1 30),(uy1 31),(uy1 32),(uy1 33),(uy1 34),(uy1 35),(uy1 36),(uy1 37),(uy1 38),(uy1 39),(uy1 40),(uy1 41),(uy1 42),(uy1 43)])∧aP.l0 k a0 m aG=some xx1∧St [] h0 w0 h0 [(some b1, .cells #[vL bQ a0.ay.length bT] 24 (0,0))] w') (fun us w'=>∃(s2:Unit),xx1= .inr s2∧Fit us (fun uo2=>[(uo2 0),(uo2 1),(uo2 2),(uo2 3),(uo2 4),(uo2 5),(uo2 6),(uo2 7),(uo2 8),(uo2 9),(uo2 10),(uo2 11),(uo2 12),(uo2 13),(uo2 14),(uo2 15),(uo2 16),(uo2 17),(uo2 18),(uo2 19),(uo2 20),(uo2 21),(uo2 22),(uo2 23),(uo2 24),(uo2 25),(uo2 26),(uo2 27),(uo2 28),(uo2 29),(uo2 30),(uo2 31),(uo2 32),(uo2 33),(uo2 34),(uo2 35),(uo2 36),(uo2 37),(uo2 38),(uo2 39),(uo2 40),(uo2 41),(uo2 42),(uo2 43)])∧St [] h0 w0 h0 [(some b1, .cells #[vL bQ a0.ay.length bT] 24 (0,0))] w') k ⟨0,(fit rfl),H,HS1⟩ ?_ ?_
  ·rintro m us w2 ⟨aG,lZ,H,HS2⟩
   obtain ⟨uy1,rfl⟩:=unj lZ
   cases m with
   |zero=>exact absurd H (by simp [aP.l0])
   |succ m=>
    rw [aP.l0] at H
    try simp only [patch,sc0,sc1]
    refine wp_seq<|wp_seq<|region<|rs (vI aG) (aK rfl)<|rs (vP b1 0) (aH (n:=1) (o':=0) rfl Tryz.runUnderlying24 rfl Tryz.sizeOf22 (by decide) rfl)<|rs (vL bQ a0.ay.length bT) (aN rfl Tryz.isAgg22 (HS2.look 0 rfl) rfl)<|rs (vI (a0.ay.length:Int)) (iT rfl Tryz.runUnderlying22)<|aI (by simp only [sc0,sc1];rfl) ?_
    refine rs (vB (decide (aG<(a0.ay.length:Int)))) (bK rfl rfl rfl) ?_
    try simp only [sc0,sc1]
    refine aB<|aj<|wp_cond_split (t:=(decide (aG<(a0.ay.length:Int)))) rfl (fun c2=>?_) (fun c2=>?_)
    ·replace H:=bU H c2
     refine wp_skip<|aj<|wp_seq<|wp_block<|wp_seq<|wp_seq ?_
     obtain ⟨hi1,H⟩:=fE H
     obtain ⟨ad1,dO,dR,e1,kX,jO,iD⟩:=gU fB hi1.1 hi1.2
     obtain ⟨v1,H1,H⟩:=bJ H
     refine drawn [.eq (Value.agg #[vL bQ a0.ay.length bT]), .eq (vP b1 0), .eq (vL bQ a0.ay.length bT), .eq (vI aG), .eq (Value.pointer (some (Addr.add ad1 (aG.toNat*7)))), .eq (Value.agg #[vI ((rd ah a0.ay aG).aF),vS ((rd ah a0.ay aG).aU),vI ((rd ah a0.ay aG).bW.aS),vB ((rd ah a0.ay aG).bW.aO),vI ((rd ah a0.ay aG).dY),vI ((rd ah a0.ay aG).vN),vL dO ((rd ah a0.ay aG).au).length dR]), .eq (vB v1), .eq (vB (!v1))] [18,19,20,21,22,23,24,25] nD (by kernel_rfl) rfl (bn (bn (bn (bn (bn (bn (bn (bn jh)))))))) ⟨bI rfl (fun a' w' hE hk=>by have HSd:=HS2.step hE;exact cu (aY (n:=1) (vs:=[vL bQ a0.ay.length bT]) (show _=vP b1 0 from hk 1 rfl) Tryz.isAgg24 (HSd.look 0 rfl) Tryz.sizeOf24 rfl rfl)),bI rfl (fun a' w' hE hk=>by have HSd:=HS2.step hE;exact cu (aH (n:=1) (o':=0) (show _=vP b1 0 from hk 1 rfl) Tryz.runUnderlying24 rfl Tryz.sizeOf22 (by decide) rfl)),bI rfl (fun a' w' hE hk=>by have HSd:=HS2.step hE;exact cu (aN (show _=vP b1 0 from hk 19 rfl) Tryz.isAgg22 (HSd.look 0 rfl) rfl)),bI rfl (fun a' w' hE hk=>by have HSd:=HS2.step hE;exact cu (aK (show _=vI aG from hk 3 rfl))),bI rfl (fun a' w' hE hk=>by have HSd:=HS2.step hE;exact cu (dQ (sz:=7) (show _=vL bQ a0.ay.length bT from hk 20 rfl) e1 (show _=vI aG from hk 21 rfl) hi1.1 hi1.2 Tryz.runUnderlying22 Tryz.sizeOf56)),bI rfl (fun a' w' hE hk=>by have HSd:=HS2.step hE;exact cu (gK (show _=Value.pointer (some (Addr.add ad1 (aG.toNat*7))) from hk 22 rfl) Tryz.isAgg56 (kX.sees HSd.sees) Tryz.sizeOf56)),bI rfl (fun a' w' hE hk=>by have HSd:=HS2.step hE;exact (bC Tryz.call77 rfl (Kt (show _=Value.agg #[vL bQ a0.ay.length bT] from hk 18 rfl) (show _=Value.agg #[vI ((rd ah a0.ay aG).aF),vS ((rd ah a0.ay aG).aU),vI ((rd ah a0.ay aG).bW.aS),vB ((rd ah a0.ay aG).bW.aO),vI ((rd ah a0.ay aG).dY),vI ((rd ah a0.ay aG).vN),vL dO ((rd ah a0.ay aG).au).length dR] from hk 23 rfl)) (dM.calls k a0 (rd ah a0.ay aG) bQ bT dO dR HSd.sees fB gI iD jO H1))),bI rfl (fun a' w' hE hk=>by have HSd:=HS2.step hE;exact cu (kN (show _=vB v1 from hk 24 rfl))),trivial⟩ ?_
     intro w3 hE2
     simp only [List.zip_cons_cons,List.zip_nil_left,List.zip_nil_right,yh,sc0,sc1,List.length_cons,List.length_nil,List.drop_succ_cons,List.drop_zero,Nat.zero_add,Nat.reduceAdd]
     have HS3:=HS2.step hE2
     refine aB<|aj<|wp_cond_split (t:=(!v1)) rfl (fun c3=>?_) (fun c3=>?_)
     ·replace H:=bU H c3
      refine wp_seq<|region<|rs (vI 80) (aC rfl) ?_
      try simp only [sc0,sc1]
      refine aB<|aj<|wp_ret<|aX<|dn<|aX<|gW<|aX ?_
      obtain rfl:=Option.some.inj H
      obtain rfl:=Option.some.inj G1
      exact bodyPost_ret (aW rfl (aV rfl)) rfl<|⟨rfl,HS3.toE⟩
     ·replace H:=bZ H (nt c3)
      refine wp_skip<|aj<|wp_seq<|region<|rs (vI 0) (aC rfl) ?_
      try simp only [sc0,sc1]
      refine aB<|aj ?_
      obtain ⟨xx2,H,G2⟩:=bJ H
      refine iW [2,4,26,27,28,29,30,31,32,33,34,35,36,37,38,39,40,41,42,43,44,45,46,47,48,49,50,51] (fun m us w'=>∃(kY:Int),Fit us (fun uy2=>[(uy2 0),vI kY,(uy2 2),(uy2 3),(uy2 4),(uy2 5),(uy2 6),(uy2 7),(uy2 8),(uy2 9),(uy2 10),(uy2 11),(uy2 12),(uy2 13),(uy2 14),(uy2 15),(uy2 16),(uy2 17),(uy2 18),(uy2 19),(uy2 20),(uy2 21),(uy2 22),(uy2 23),(uy2 24),(uy2 25),(uy2 26),(uy2 27)])∧aP.l1 a0 aG m kY=some xx2∧St [] h0 w0 h0 [(some b1, .cells #[vL bQ a0.ay.length bT] 24 (0,0))] w') (fun us w'=>∃(s1:Unit),xx2= .inr s1∧Fit us (fun uo1=>[(uo1 0),(uo1 1),(uo1 2),(uo1 3),(uo1 4),(uo1 5),(uo1 6),(uo1 7),(uo1 8),(uo1 9),(uo1 10),(uo1 11),(uo1 12),(uo1 13),(uo1 14),(uo1 15),(uo1 16),(uo1 17),(uo1 18),(uo1 19),(uo1 20),(uo1 21),(uo1 22),(uo1 23),(uo1 24),(uo1 25),(uo1 26),(uo1 27)])∧St [] h0 w0 h0 [(some b1, .cells #[vL bQ a0.ay.length bT] 24 (0,0))] w') k ⟨0,(fit rfl),H,HS3⟩ ?_ ?_
      ·rintro m us w4 ⟨kY,WG,H,HS4⟩
       obtain ⟨uy2,rfl⟩:=unj WG
       cases m with
       |zero=>exact absurd H (by simp [aP.l1])
       |succ m=>
        rw [aP.l1] at H
        try simp only [patch,sc0,sc1]
        refine wp_seq<|wp_seq<|region<|rs (vI kY) (aK rfl)<|rs (vI aG) (aK rfl)<|rs (vB (decide (kY<aG))) (bK rfl rfl rfl) ?_
        try simp only [sc0,sc1]
        refine aB<|aj<|wp_cond_split (t:=(decide (kY<aG))) rfl (fun c4=>?_) (fun c4=>?_)
        ·replace H:=bU H c4
         refine wp_skip<|aj<|wp_seq<|wp_block<|wp_seq ?_
         obtain ⟨hi2,H⟩:=fE H
         obtain ⟨ad2,zC,zD,e2,wV,Du,Dv⟩:=gU fB hi2.1 hi2.2
         obtain ⟨v2,H2,H⟩:=bJ H
         obtain ⟨hi3,H⟩:=fE H
         obtain ⟨ad3,YR,YS,hq1⟩:=gx3 (fun hC:(true&&(v2==true))=true=>gU fB (hi3 hC).1 (hi3 hC).2)
         obtain ⟨hi4,H⟩:=fE H
         obtain ⟨ad4,YT,YU,hq2⟩:=gx3 (fun hC:(true&&(v2==true))=true=>gU fB (hi4 hC).1 (hi4 hC).2)
         refine drawn [.eq (vP b1 0), .eq (vL bQ a0.ay.length bT), .eq (vI aG), .eq (Value.pointer (some (Addr.add ad2 (aG.toNat*7)))), .eq (Value.agg #[vI ((rd ah a0.ay aG).aF),vS ((rd ah a0.ay aG).aU),vI ((rd ah a0.ay aG).bW.aS),vB ((rd ah a0.ay aG).bW.aO),vI ((rd ah a0.ay aG).dY),vI ((rd ah a0.ay aG).vN),vL zC ((rd ah a0.ay aG).au).length zD]), .eq (vB v2), .eq (vB v2), .eq (gv (true&&(v2==true)) (vP b1 0)), .eq (gv (true&&(v2==true)) (vL bQ a0.ay.length bT)), .eq (gv (true&&(v2==true)) (vI kY)), .eq (gv (true&&(v2==true)) (Value.pointer (some (Addr.add ad3 (kY.toNat*7))))), .eq (gv (true&&(v2==true)) (Value.pointer (some (Addr.add (Addr.add ad3 (kY.toNat*7)) 1)))), .eq (gv (true&&(v2==true)) (vS ((rd ah a0.ay kY).aU))), .eq (gv (true&&(v2==true)) (vP b1 0)), .eq (gv (true&&(v2==true)) (vL bQ a0.ay.length bT)), .eq (gv (true&&(v2==true)) (vI aG)), .eq (gv (true&&(v2==true)) (Value.pointer (some (Addr.add ad4 (aG.toNat*7))))), .eq (gv (true&&(v2==true)) (Value.pointer (some (Addr.add (Addr.add ad4 (aG.toNat*7)) 1)))), .eq (gv (true&&(v2==true)) (vS ((rd ah a0.ay aG).aU))), .eq (gv (true&&(v2==true)) (vB (strEq ((rd ah a0.ay kY).aU) ((rd ah a0.ay aG).aU)))), .eq (vB (v2&&(strEq ((rd ah a0.ay kY).aU) ((rd ah a0.ay aG).aU))))] [31,32,33,34,35,36,37,38,39,40,41,42,43,44,45,46,47,48,49,50,51] nD (by kernel_rfl) rfl (bn (bn (bn (bn (bn (bn (bn (bn (bn (bn (bn (bn (bn (bn (bn (bn (bn (bn (bn (bn (bn jh))))))))))))))))))))) ⟨bI rfl (fun a' w' hE hk=>by have HSd:=HS4.step hE;exact cu (aH (n:=1) (o':=0) (show _=vP b1 0 from hk 1 rfl) Tryz.runUnderlying24 rfl Tryz.sizeOf22 (by decide) rfl)),bI rfl (fun a' w' hE hk=>by have HSd:=HS4.step hE;exact cu (aN (show _=vP b1 0 from hk 31 rfl) Tryz.isAgg22 (HSd.look 0 rfl) rfl)),bI rfl (fun a' w' hE hk=>by have HSd:=HS4.step hE;exact cu (aK (show _=vI aG from hk 3 rfl))),bI rfl (fun a' w' hE hk=>by have HSd:=HS4.step hE;exact cu (dQ (sz:=7) (show _=vL bQ a0.ay.length bT from hk 32 rfl) e2 (show _=vI aG from hk 33 rfl) hi2.1 hi2.2 Tryz.runUnderlying22 Tryz.sizeOf56)),bI rfl (fun a' w' hE hk=>by have HSd:=HS4.step hE;exact cu (gK (show _=Value.pointer (some (Addr.add ad2 (aG.toNat*7))) from hk 34 rfl) Tryz.isAgg56 (wV.sees HSd.sees) Tryz.sizeOf56)),bI rfl (fun a' w' hE hk=>by have HSd:=HS4.step hE;exact (bC Tryz.call78 rfl (OV (show _=Value.agg #[vI ((rd ah a0.ay aG).aF),vS ((rd ah a0.ay aG).aU),vI ((rd ah a0.ay aG).bW.aS),vB ((rd ah a0.ay aG).bW.aO),vI ((rd ah a0.ay aG).dY),vI ((rd ah a0.ay aG).vN),vL zC ((rd ah a0.ay aG).au).length zD] from hk 35 rfl)) (dU.calls (rd ah a0.ay aG) zC zD HSd.sees Dv Du H2))),bI rfl (fun a' w' hE hk=>by have HSd:=HS4.step hE;exact cu (aK (show _=vB v2 from hk 36 rfl))),lH (b:=v2) (c:=true) rfl rfl (by decide) (fun w' u hu=>hu) (fun a' w' hE hk hg=>by have HSd:=HS4.step hE;exact cu (aH (n:=1) (o':=0) (show _=vP b1 0 from hk 1 rfl) Tryz.runUnderlying24 rfl Tryz.sizeOf22 (by decide) rfl)),lH (b:=v2) (c:=true) rfl rfl (by decide) (fun w' u hu=>hu) (fun a' w' hE hk hg=>by have HSd:=HS4.step hE;exact cu (aN ((show _=gv (true&&(v2==true)) (vP b1 0) from (show _=gv (true&&(v2==true)) (vP b1 0) from hk 38 rfl)).trans (pK hg)) Tryz.isAgg22 (HSd.look 0 rfl) rfl)),lH (b:=v2) (c:=true) rfl rfl (by decide) (fun w' u hu=>hu) (fun a' w' hE hk hg=>by have HSd:=HS4.step hE;exact cu (aK (show _=vI kY from hk 4 rfl))),lH (b:=v2) (c:=true) rfl rfl (by decide) (fun w' u hu=>hu) (fun a' w' hE hk hg=>by have HSd:=HS4.step hE;exact cu (dQ (sz:=7) ((show _=gv (true&&(v2==true)) (vL bQ a0.ay.length bT) from (show _=gv (true&&(v2==true)) (vL bQ a0.ay.length bT) from hk 39 rfl)).trans (pK hg)) (hq1 hg).1 ((show _=gv (true&&(v2==true)) (vI kY) from (show _=gv (true&&(v2==true)) (vI kY) from hk 40 rfl)).trans (pK hg)) (hi3 hg).1 (hi3 hg).2 Tryz.runUnderlying22 Tryz.sizeOf56)),lH (b:=v2) (c:=true) rfl rfl (by decide) (fun w' u hu=>hu) (fun a' w' hE hk hg=>by have HSd:=HS4.step hE;exact cu (jG (n:=1) (o':=1) ((show _=gv (true&&(v2==true)) (Value.pointer (some (Addr.add ad3 (kY.toNat*7)))) from (show _=gv (true&&(v2==true)) (Value.pointer (some (Addr.add ad3 (kY.toNat*7)))) from hk 41 rfl)).trans (pK hg)) Tryz.runUnderlying56 rfl Tryz.sizeOf9 (by decide) rfl)),lH (b:=v2) (c:=true) rfl rfl (by decide) (fun w' u hu=>hu) (fun a' w' hE hk hg=>by have HSd:=HS4.step hE;exact cu (jF ((show _=gv (true&&(v2==true)) (Value.pointer (some (Addr.add (Addr.add ad3 (kY.toNat*7)) 1))) from (show _=gv (true&&(v2==true)) (Value.pointer (some (Addr.add (Addr.add ad3 (kY.toNat*7)) 1))) from hk 42 rfl)).trans (pK hg)) Tryz.isAgg9 (((hq1 hg).2.1).cell HSd.sees 1 rfl))),lH (b:=v2) (c:=true) rfl rfl (by decide) (fun w' u hu=>hu) (fun a' w' hE hk hg=>by have HSd:=HS4.step hE;exact cu (aH (n:=1) (o':=0) (show _=vP b1 0 from hk 1 rfl) Tryz.runUnderlying24 rfl Tryz.sizeOf22 (by decide) rfl)),lH (b:=v2) (c:=true) rfl rfl (by decide) (fun w' u hu=>hu) (fun a' w' hE hk hg=>by have HSd:=HS4.step hE;exact cu (aN ((show _=gv (true&&(v2==true)) (vP b1 0) from (show _=gv (true&&(v2==true)) (vP b1 0) from hk 44 rfl)).trans (pK hg)) Tryz.isAgg22 (HSd.look 0 rfl) rfl)),lH (b:=v2) (c:=true) rfl rfl (by decide) (fun w' u hu=>hu) (fun a' w' hE hk hg=>by have HSd:=HS4.step hE;exact cu (aK (show _=vI aG from hk 3 rfl))),lH (b:=v2) (c:=true) rfl rfl (by decide) (fun w' u hu=>hu) (fun a' w' hE hk hg=>by have HSd:=HS4.step hE;exact cu (dQ (sz:=7) ((show _=gv (true&&(v2==true)) (vL bQ a0.ay.length bT) from (show _=gv (true&&(v2==true)) (vL bQ a0.ay.length bT) from hk 45 rfl)).trans (pK hg)) (hq2 hg).1 ((show _=gv (true&&(v2==true)) (vI aG) from (show _=gv (true&&(v2==true)) (vI aG) from hk 46 rfl)).trans (pK hg)) (hi4 hg).1 (hi4 hg).2 Tryz.runUnderlying22 Tryz.sizeOf56)),lH (b:=v2) (c:=true) rfl rfl (by decide) (fun w' u hu=>hu) (fun a' w' hE hk hg=>by have HSd:=HS4.step hE;exact cu (jG (n:=1) (o':=1) ((show _=gv (true&&(v2==true)) (Value.pointer (some (Addr.add ad4 (aG.toNat*7)))) from (show _=gv (true&&(v2==true)) (Value.pointer (some (Addr.add ad4 (aG.toNat*7)))) from hk 47 rfl)).trans (pK hg)) Tryz.runUnderlying56 rfl Tryz.sizeOf9 (by decide) rfl)),lH (b:=v2) (c:=true) rfl rfl (by decide) (fun w' u hu=>hu) (fun a' w' hE hk hg=>by have HSd:=HS4.step hE;exact cu (jF ((show _=gv (true&&(v2==true)) (Value.pointer (some (Addr.add (Addr.add ad4 (aG.toNat*7)) 1))) from (show _=gv (true&&(v2==true)) (Value.pointer (some (Addr.add (Addr.add ad4 (aG.toNat*7)) 1))) from hk 48 rfl)).trans (pK hg)) Tryz.isAgg9 (((hq2 hg).2.1).cell HSd.sees 1 rfl))),lH (b:=v2) (c:=true) rfl rfl (by decide) (fun w' u hu=>hu) (fun a' w' hE hk hg=>by have HSd:=HS4.step hE;exact cu (sK ((show _=gv (true&&(v2==true)) (vS ((rd ah a0.ay kY).aU)) from (show _=gv (true&&(v2==true)) (vS ((rd ah a0.ay kY).aU)) from hk 43 rfl)).trans (pK hg)) ((show _=gv (true&&(v2==true)) (vS ((rd ah a0.ay aG).aU)) from (show _=gv (true&&(v2==true)) (vS ((rd ah a0.ay aG).aU)) from hk 49 rfl)).trans (pK hg)))),bI rfl (fun a' w' hE hk=>by have HSd:=HS4.step hE;exact cu (dw (show _=vB v2 from hk 37 rfl) (fun hp=>((show _=gv (true&&(v2==true)) (vB (strEq ((rd ah a0.ay kY).aU) ((rd ah a0.ay aG).aU))) from (show _=gv (true&&(v2==true)) (vB (strEq ((rd ah a0.ay kY).aU) ((rd ah a0.ay aG).aU))) from hk 50 rfl)).trans (pK (gu rfl hp)))) rfl)),trivial⟩ ?_
         intro w5 hE3
         simp only [List.zip_cons_cons,List.zip_nil_left,List.zip_nil_right,yh,sc0,sc1,List.length_cons,List.length_nil,List.drop_succ_cons,List.drop_zero,Nat.zero_add,Nat.reduceAdd]
         have HS5:=HS4.step hE3
         refine aB<|aj<|wp_cond_split (t:=(v2&&(strEq ((rd ah a0.ay kY).aU) ((rd ah a0.ay aG).aU)))) rfl (fun c5=>?_) (fun c5=>?_)
         ·replace H:=bU H c5
          refine wp_seq<|region<|rs (vI 80) (aC rfl) ?_
          try simp only [sc0,sc1]
          refine aB<|aj<|wp_ret<|dn<|aX<|gW<|dn<|aX<|gW<|aX ?_
          obtain rfl:=Option.some.inj H
          obtain rfl:=Option.some.inj G2
          obtain rfl:=Option.some.inj G1
          exact bodyPost_ret (aW rfl (aV rfl)) rfl<|⟨rfl,HS5.toE⟩
         ·replace H:=bZ H (nt c5)
          refine wp_skip<|dB<|aj<|region<|rs (vI kY) (aK rfl)<|rs (vI (w64 (kY+1))) (bK rfl rfl rfl)<|rs (vI (w64 (kY+1))) (aC rfl) ?_
          try simp only [sc0,sc1]
          refine aB<|gX m (Nat.lt_succ_self m) rfl ⟨(w64 (kY+1)),(fit rfl),H,HS5⟩
        ·replace H:=bZ H (nt c4)
         refine wp_exit<|fF ?_
         obtain rfl:=Option.some.inj H
         refine iw rfl ⟨_,rfl,(fit rfl),HS4⟩
      ·rintro us w6 ⟨s1,rfl,l7,HS6⟩
       obtain ⟨uo1,rfl⟩:=unj l7
       replace H:=G2
       clear G2
       try simp only [patch,sc0,sc1]
       refine dB<|aj<|region<|rs (vI aG) (aK rfl)<|rs (vI (w64 (aG+1))) (bK rfl rfl rfl)<|rs (vI (w64 (aG+1))) (aC rfl) ?_
       try simp only [sc0,sc1]
       refine aB<|gX m (Nat.lt_succ_self m) rfl ⟨(w64 (aG+1)),(fit rfl),H,HS6⟩
    ·replace H:=bZ H (nt c2)
     refine wp_exit<|fF ?_
     obtain rfl:=Option.some.inj H
     refine iw rfl ⟨_,rfl,(fit rfl),HS2⟩
  ·rintro us w7 ⟨s2,rfl,WI,HS7⟩
   obtain ⟨uo2,rfl⟩:=unj WI
   replace H:=G1
   clear G1
   try simp only [patch,sc0,sc1]
   refine aj<|wp_seq<|region<|rs (Value.agg #[vL bQ a0.ay.length bT]) (aY (n:=1) (vs:=[vL bQ a0.ay.length bT]) rfl Tryz.isAgg24 (HS7.look 0 rfl) Tryz.sizeOf24 rfl rfl) ?_
   obtain ⟨v3,H3,H⟩:=bJ H
   refine dK rfl rfl (lT Tryz.call79 rfl (qB (h:=h0) (R:=(fun hx u=>∃(jD:Option Addr) (jE:Nat),u=vL jD v3.length jE∧v3.length≤jE∧Rd (Kd.int .i64) hx jD v3)) (Ext.rfl' w7) ((aZ.calls k a0 bQ bT HS7.sees fB gI H3).mono ?_)) rfl) ?_
   ·rintro _ _ ⟨h1,jD,jE,rfl,qP,oh,g,ss,x⟩
    exact ⟨h1,_,rfl,⟨jD,jE,rfl,qP,oh⟩,g,ss,x⟩
   rintro w8 _ hE4 ⟨h1,⟨jD,jE,rfl,qP,oh⟩,gr1,se1⟩
   have HS8:=HS7.view hE4 gr1 se1
   refine rs (vL jD v3.length jE) (aC rfl) ?_
   try simp only [sc0,sc1]
   refine aB<|aj<|wp_seq<|wp_seq<|region<|rs (vI 0) (aC rfl) ?_
   try simp only [sc0,sc1]
   refine aB<|aj ?_
   obtain ⟨xx3,H,G3⟩:=bJ H
   refine iW [2,6,54,55,56,57,58,59,60,61,62,63,64,65,66,67,68,69,70,71,72,73,74,75,76,77,78,79,80,81,82,83,84,85,86,87,88,89,90,91,92,93,94,95] (fun m us w'=>∃(jg:Int),Fit us (fun uy3=>[(uy3 0),vI jg,(uy3 2),(uy3 3),(uy3 4),(uy3 5),(uy3 6),(uy3 7),(uy3 8),(uy3 9),(uy3 10),(uy3 11),(uy3 12),(uy3 13),(uy3 14),(uy3 15),(uy3 16),(uy3 17),(uy3 18),(uy3 19),(uy3 20),(uy3 21),(uy3 22),(uy3 23),(uy3 24),(uy3 25),(uy3 26),(uy3 27),(uy3 28),(uy3 29),(uy3 30),(uy3 31),(uy3 32),(uy3 33),(uy3 34),(uy3 35),(uy3 36),(uy3 37),(uy3 38),(uy3 39),(uy3 40),(uy3 41),(uy3 42),(uy3 43)])∧aP.l2 k a0 v3 m jg=some xx3∧St [] h0 w0 h1 [(some b1, .cells #[vL bQ a0.ay.length bT] 24 (0,0))] w') (fun us w'=>∃(s3:Unit),xx3= .inr s3∧Fit us (fun uo3=>[(uo3 0),(uo3 1),(uo3 2),(uo3 3),(uo3 4),(uo3 5),(uo3 6),(uo3 7),(uo3 8),(uo3 9),(uo3 10),(uo3 11),(uo3 12),(uo3 13),(uo3 14),(uo3 15),(uo3 16),(uo3 17),(uo3 18),(uo3 19),(uo3 20),(uo3 21),(uo3 22),(uo3 23),(uo3 24),(uo3 25),(uo3 26),(uo3 27),(uo3 28),(uo3 29),(uo3 30),(uo3 31),(uo3 32),(uo3 33),(uo3 34),(uo3 35),(uo3 36),(uo3 37),(uo3 38),(uo3 39),(uo3 40),(uo3 41),(uo3 42),(uo3 43)])∧St [] h0 w0 h1 [(some b1, .cells #[vL bQ a0.ay.length bT] 24 (0,0))] w') k ⟨0,(fit rfl),H,HS8⟩ ?_ ?_
   ·rintro m us w9 ⟨jg,ZK,H,HS9⟩
    obtain ⟨uy3,rfl⟩:=unj ZK
    cases m with
    |zero=>exact absurd H (by simp [aP.l2])
    |succ m=>
     rw [aP.l2] at H
     try simp only [patch,sc0,sc1]
     refine wp_seq<|wp_seq<|region<|rs (vI jg) (aK rfl)<|rs (vP b1 0) (aH (n:=1) (o':=0) rfl Tryz.runUnderlying24 rfl Tryz.sizeOf22 (by decide) rfl)<|rs (vL bQ a0.ay.length bT) (aN rfl Tryz.isAgg22 (HS9.look 0 rfl) rfl)<|rs (vI (a0.ay.length:Int)) (iT rfl Tryz.runUnderlying22)<|aI (by simp only [sc0,sc1];rfl) ?_
     refine rs (vB (decide (jg<(a0.ay.length:Int)))) (bK rfl rfl rfl) ?_
     try simp only [sc0,sc1]
     refine aB<|aj<|wp_cond_split (t:=(decide (jg<(a0.ay.length:Int)))) rfl (fun c6=>?_) (fun c6=>?_)
     ·replace H:=bU H c6
      refine wp_skip<|aj<|wp_seq<|wp_block<|wp_seq<|wp_seq<|region<|rs (vL jD v3.length jE) (aK rfl)<|rs (vI jg) (aK rfl) ?_
      obtain ⟨hi5,H⟩:=fE H
      obtain ⟨ad5,e5,ZL⟩:=oU oh hi5.1 hi5.2
      refine rs (Value.pointer (some (Addr.add ad5 (jg.toNat*1)))) (dQ (sz:=1) rfl e5 rfl hi5.1 hi5.2 Tryz.runUnderlying81 Tryz.sizeOf3)<|rs (vI (rd 0 v3 jg)) (jF rfl Tryz.isAgg3 (ZL.cell0 HS9.sees rfl))<|aI (by simp only [sc0,sc1];rfl) ?_
      refine rs (vB ((rd 0 v3 jg)==0)) (bK rfl rfl rfl)<|rs (vB ((rd 0 v3 jg)==0)) (aK rfl)<|rgs ((rd 0 v3 jg)==0) true (vL jD v3.length jE) rfl rfl rfl rfl (fun hg=>(aK rfl))<|rgs ((rd 0 v3 jg)==0) true (vI jg) rfl rfl rfl rfl (fun hg=>(aK rfl))<|aI (by simp only [sc0,sc1];rfl) ?_
      obtain ⟨hi6,H⟩:=fE H
      obtain ⟨ad6,hq3⟩:=gx1 (fun hC:(true&&(((rd 0 v3 jg)==0)==false))=true=>oU oh (hi6 hC).1 (hi6 hC).2)
      refine rgs ((rd 0 v3 jg)==0) true (Value.pointer (some (Addr.add ad6 (jg.toNat*1)))) rfl rfl rfl rfl (fun hg=>(dQ (sz:=1) (gvt (vL jD v3.length jE) hg rfl) (hq3 hg).1 (gvt (vI jg) hg rfl) (hi6 hg).1 (hi6 hg).2 Tryz.runUnderlying81 Tryz.sizeOf3))<|rgs ((rd 0 v3 jg)==0) true (vI (rd 0 v3 jg)) rfl rfl rfl rfl (fun hg=>(jF (gvt (Value.pointer (some (Addr.add ad6 (jg.toNat*1)))) hg rfl) Tryz.isAgg3 (((hq3 hg).2).cell0 HS9.sees rfl)))<|rgs ((rd 0 v3 jg)==0) true (vB (decide ((rd 0 v3 jg)>512))) rfl rfl rfl rfl (fun hg=>(bK (gvt (vI (rd 0 v3 jg)) hg rfl) rfl rfl))<|rs (vB (((rd 0 v3 jg)==0)||(decide ((rd 0 v3 jg)>512)))) (dV rfl rfl (fun hp=>(gvt (vB (decide ((rd 0 v3 jg)>512))) (gu rfl hp) rfl)))<|aI (by simp only [sc0,sc1];rfl) ?_
      refine rs (vB (((rd 0 v3 jg)==0)||(decide ((rd 0 v3 jg)>512)))) (aK rfl)<|rgs (((rd 0 v3 jg)==0)||(decide ((rd 0 v3 jg)>512))) true (Value.agg #[vL bQ a0.ay.length bT]) rfl rfl rfl rfl (fun hg=>(aY (n:=1) (vs:=[vL bQ a0.ay.length bT]) rfl Tryz.isAgg24 (HS9.look 0 rfl) Tryz.sizeOf24 rfl rfl))<|rgs (((rd 0 v3 jg)==0)||(decide ((rd 0 v3 jg)>512))) true (vI jg) rfl rfl rfl rfl (fun hg=>(aK rfl)) ?_
      obtain ⟨v4,H4,H⟩:=bJ H
      refine vU (b:=(((rd 0 v3 jg)==0)||(decide ((rd 0 v3 jg)>512)))) (c:=true) (v:=vB v4) rfl rfl rfl rfl (fun hg=>(bC Tryz.call80 rfl (Kt (gvt (Value.agg #[vL bQ a0.ay.length bT]) hg rfl) (gvt (vI jg) hg rfl)) (dJ.calls k a0 jg bQ bT HS9.sees (fB.ext HS9.sub) gI (bU H4 hg)))) ?_
      intro w10 hE5
      have qN:=HS9.step hE5
      refine aI (by simp only [sc0,sc1];rfl) ?_
      refine rgs (((rd 0 v3 jg)==0)||(decide ((rd 0 v3 jg)>512))) true (vB (!v4)) rfl rfl rfl rfl (fun hg=>(kN (gvt (vB v4) hg rfl)))<|rs (vB ((((rd 0 v3 jg)==0)||(decide ((rd 0 v3 jg)>512)))||(!v4))) (dV rfl rfl (fun hp=>(gvt (vB (!v4)) (gu rfl hp) rfl))) ?_
      try simp only [sc0,sc1]
      refine aB<|aj<|wp_cond_split (t:=((((rd 0 v3 jg)==0)||(decide ((rd 0 v3 jg)>512)))||(!v4))) rfl (fun c7=>?_) (fun c7=>?_)
      ·replace H:=bU H c7
       refine wp_seq<|region<|rs (vI 80) (aC rfl) ?_
       try simp only [sc0,sc1]
       refine aB<|aj<|wp_ret<|aX<|dn<|aX<|gW<|aX ?_
       obtain rfl:=Option.some.inj H
       obtain rfl:=Option.some.inj G3
       exact bodyPost_ret (aW rfl (aV rfl)) rfl<|⟨rfl,qN.toE⟩
      ·replace H:=bZ H (nt c7)
       refine wp_skip<|aj<|wp_seq<|region<|rs (vP b1 0) (aH (n:=1) (o':=0) rfl Tryz.runUnderlying24 rfl Tryz.sizeOf22 (by decide) rfl)<|rs (vL bQ a0.ay.length bT) (aN rfl Tryz.isAgg22 (qN.look 0 rfl) rfl)<|rs (vI jg) (aK rfl) ?_
       obtain ⟨hi7,H⟩:=fE H
       obtain ⟨ad7,YV,YW,e7,ZM,Yd,Ye⟩:=gU (fB.ext qN.sub) hi7.1 hi7.2
       refine rs (Value.pointer (some (Addr.add ad7 (jg.toNat*7)))) (dQ (sz:=7) rfl e7 rfl hi7.1 hi7.2 Tryz.runUnderlying22 Tryz.sizeOf56)<|aI (by simp only [sc0,sc1];rfl) ?_
       refine rs (Value.pointer (some (Addr.add (Addr.add ad7 (jg.toNat*7)) 0))) (jG (n:=1) (o':=0) rfl Tryz.runUnderlying56 rfl Tryz.sizeOf3 (by decide) rfl)<|rs (vI ((rd ah a0.ay jg).aF)) (jF rfl Tryz.isAgg3 (ZM.cell qN.sees 0 rfl))<|rs (vB ((rd ah a0.ay jg).aF==4)) (bK rfl rfl rfl)<|rs (vB ((rd ah a0.ay jg).aF==4)) (aK rfl)<|aI (by simp only [sc0,sc1];rfl) ?_
       refine rgs ((rd ah a0.ay jg).aF==4) true (vP b1 0) rfl rfl rfl rfl (fun hg=>(aH (n:=1) (o':=0) rfl Tryz.runUnderlying24 rfl Tryz.sizeOf22 (by decide) rfl))<|rgs ((rd ah a0.ay jg).aF==4) true (vL bQ a0.ay.length bT) rfl rfl rfl rfl (fun hg=>(aN (gvt (vP b1 0) hg rfl) Tryz.isAgg22 (qN.look 0 rfl) rfl))<|rgs ((rd ah a0.ay jg).aF==4) true (vI jg) rfl rfl rfl rfl (fun hg=>(aK rfl)) ?_
       obtain ⟨hi8,H⟩:=fE H
       obtain ⟨ad8,NV,NW,hq4⟩:=gx3 (fun hC:(true&&(((rd ah a0.ay jg).aF==4)==true))=true=>gU (fB.ext qN.sub) (hi8 hC).1 (hi8 hC).2)
       refine rgs ((rd ah a0.ay jg).aF==4) true (Value.pointer (some (Addr.add ad8 (jg.toNat*7)))) rfl rfl rfl rfl (fun hg=>(dQ (sz:=7) (gvt (vL bQ a0.ay.length bT) hg rfl) (hq4 hg).1 (gvt (vI jg) hg rfl) (hi8 hg).1 (hi8 hg).2 Tryz.runUnderlying22 Tryz.sizeOf56))<|aI (by simp only [sc0,sc1];rfl) ?_
       refine rgs ((rd ah a0.ay jg).aF==4) true (Value.agg #[vI ((rd ah a0.ay jg).aF),vS ((rd ah a0.ay jg).aU),vI ((rd ah a0.ay jg).bW.aS),vB ((rd ah a0.ay jg).bW.aO),vI ((rd ah a0.ay jg).dY),vI ((rd ah a0.ay jg).vN),vL NV ((rd ah a0.ay jg).au).length NW]) rfl rfl rfl rfl (fun hg=>(gK (gvt (Value.pointer (some (Addr.add ad8 (jg.toNat*7)))) hg rfl) Tryz.isAgg56 (((hq4 hg).2.1).sees qN.sees) Tryz.sizeOf56))<|rgs ((rd ah a0.ay jg).aF==4) true (vL jD v3.length jE) rfl rfl rfl rfl (fun hg=>(aK rfl)) ?_
       obtain ⟨v5,H5,H⟩:=bJ H
       refine vU (b:=((rd ah a0.ay jg).aF==4)) (c:=true) (v:=vB v5) rfl rfl rfl rfl (fun hg=>(bC Tryz.call81 rfl (Kt (gvt (Value.agg #[vI ((rd ah a0.ay jg).aF),vS ((rd ah a0.ay jg).aU),vI ((rd ah a0.ay jg).bW.aS),vB ((rd ah a0.ay jg).bW.aO),vI ((rd ah a0.ay jg).dY),vI ((rd ah a0.ay jg).vN),vL NV ((rd ah a0.ay jg).au).length NW]) hg rfl) (gvt (vL jD v3.length jE) hg rfl)) (dD.calls k (rd ah a0.ay jg) v3 NV NW jD jE qN.sees ((hq4 hg).2.2.2) ((hq4 hg).2.2.1) oh qP (bU H5 hg)))) ?_
       intro w11 hE6
       have wU:=qN.step hE6
       refine rgs ((rd ah a0.ay jg).aF==4) true (vB (!v5)) rfl rfl rfl rfl (fun hg=>(kN (gvt (vB v5) hg rfl)))<|aI (by simp only [sc0,sc1];rfl) ?_
       refine rs (vB (((rd ah a0.ay jg).aF==4)&&(!v5))) (dw rfl (fun hp=>(gvt (vB (!v5)) (gu rfl hp) rfl)) rfl) ?_
       try simp only [sc0,sc1]
       refine aB<|aj<|wp_cond_split (t:=(((rd ah a0.ay jg).aF==4)&&(!v5))) rfl (fun c8=>?_) (fun c8=>?_)
       ·replace H:=bU H c8
        refine wp_seq<|region<|rs (vI 80) (aC rfl) ?_
        try simp only [sc0,sc1]
        refine aB<|aj<|wp_ret<|dn<|aX<|gW<|aX ?_
        obtain rfl:=Option.some.inj H
        obtain rfl:=Option.some.inj G3
        exact bodyPost_ret (aW rfl (aV rfl)) rfl<|⟨rfl,wU.toE⟩
       ·replace H:=bZ H (nt c8)
        refine wp_skip<|dB<|aj<|region<|rs (vI jg) (aK rfl)<|rs (vI (w64 (jg+1))) (bK rfl rfl rfl)<|rs (vI (w64 (jg+1))) (aC rfl) ?_
        try simp only [sc0,sc1]
        refine aB<|gX m (Nat.lt_succ_self m) rfl ⟨(w64 (jg+1)),(fit rfl),H,wU⟩
     ·replace H:=bZ H (nt c6)
      refine wp_exit<|fF ?_
      obtain rfl:=Option.some.inj H
      refine iw rfl ⟨_,rfl,(fit rfl),HS9⟩
   ·rintro us w12 ⟨s3,rfl,ZN,sU⟩
    obtain ⟨uo3,rfl⟩:=unj ZN
    replace H:=G3
    clear G3
    try simp only [patch,sc0,sc1]
    refine aj<|wp_seq<|region<|rs (vI 0) (aC rfl) ?_
    try simp only [sc0,sc1]
    refine aB<|aj<|wp_ret ?_
    obtain rfl:=Option.some.inj H
    exact bodyPost_ret (aW rfl (aV rfl)) rfl<|⟨rfl,sU.toE⟩
def dh.f (k:Nat) (a0:bf) (a1:Int):Option (Int):=(aP.f k a0).bind fun v1=>((if (true&&((v1==0)==true))=true then fG.f a0 a1 else some false).bind fun v2=>(((if ((v1==0)&&(!v2))=true then (some 3) else (some v1)):Option (Int)).bind fun xx1=>(some xx1)))
theorem dh.calls (k:Nat) (a0:bf) (a1:Int) (bQ:Option Addr) (bT:Nat) {h0:View} {w0:World} (hv:jf h0 w0) (fB:Rd eX h0 bQ a0.ay) (gI:a0.ay.length≤bT) {r:Int} (H:dh.f k a0 a1=some r):Calls Tryz.prog 82 #[Value.agg #[vL bQ a0.ay.length bT],vI a1] w0 (fun e w1=>e= .returned (vI r)∧Ext w0 w1):=by
 unfold dh.f at H
 have HS:St [] h0 w0 h0 [] w0:=St.init hv
 go_enter Tryz.func82,Tryz.ntmps82
 refine wp_seq<|region<|dK rfl rfl (dH (cs:=#[vL bQ a0.ay.length bT]) rfl rfl) ?_
 rintro w1 _ hE1 ⟨b1,rfl,ge1,hb1⟩
 have HS1:=HS.new hE1 ge1 hb1
 refine rs (vI 0) (aC rfl) ?_
 try simp only [sc0,sc1]
 refine aB<|aj<|wp_seq<|region<|rs (Value.agg #[vL bQ a0.ay.length bT]) (aY (n:=1) (vs:=[vL bQ a0.ay.length bT]) rfl Tryz.isAgg24 (HS1.look 0 rfl) Tryz.sizeOf24 rfl rfl) ?_
 obtain ⟨v1,H1,H⟩:=bJ H
 refine run_eq (v:=vI v1) rfl rfl (bC Tryz.call38 rfl rfl (aP.calls k a0 bQ bT HS1.sees fB gI H1)) ?_
 intro w2 hE2
 have HS2:=HS1.step hE2
 refine rs (vI v1) (aC rfl) ?_
 try simp only [sc0,sc1]
 refine aB<|aj<|wp_seq<|wp_seq<|region<|rs (vI v1) (aK rfl)<|rs (vB (v1==0)) (bK rfl rfl rfl)<|rs (vB (v1==0)) (aK rfl)<|rgs (v1==0) true (Value.agg #[vL bQ a0.ay.length bT]) rfl rfl rfl rfl (fun hg=>(aY (n:=1) (vs:=[vL bQ a0.ay.length bT]) rfl Tryz.isAgg24 (HS2.look 0 rfl) Tryz.sizeOf24 rfl rfl))<|aI (by simp only [sc0,sc1];rfl) ?_
 refine rgs (v1==0) true (vI a1) rfl rfl rfl rfl (fun hg=>(aK rfl)) ?_
 obtain ⟨v2,H2,H⟩:=bJ H
 refine vU (b:=(v1==0)) (c:=true) (v:=vB v2) rfl rfl rfl rfl (fun hg=>(bC Tryz.call125 rfl (Kt (gvt (Value.agg #[vL bQ a0.ay.length bT]) hg rfl) (gvt (vI a1) hg rfl)) (fG.calls a0 a1 bQ bT HS2.sees fB gI (bU H2 hg)))) ?_
 intro w3 hE3
 have HS3:=HS2.step hE3
 refine rgs (v1==0) true (vB (!v2)) rfl rfl rfl rfl (fun hg=>(kN (gvt (vB v2) hg rfl)))<|rs (vB ((v1==0)&&(!v2))) (dw rfl (fun hp=>(gvt (vB (!v2)) (gu rfl hp) rfl)) rfl) ?_
 try simp only [sc0,sc1]
 refine aB<|aj ?_
 obtain ⟨xx1,H,G1⟩:=bJ H
 refine lU [5] (fun us w'=>Fit us (fun uj1=>[vI xx1])∧St [] h0 w0 h0 [(some b1, .cells #[vL bQ a0.ay.length bT] 24 (0,0))] w') ?_ ?_
 ·refine wp_cond_split (t:=((v1==0)&&(!v2))) rfl (fun c1=>?_) (fun c1=>?_)
  ·replace H:=bU H c1
   refine region<|rs (vI 3) (aC rfl) ?_
   try simp only [sc0,sc1]
   refine aB ?_
   obtain rfl:=Option.some.inj H
   refine pz rfl ⟨(fit rfl),HS3⟩
  ·replace H:=bZ H (nt c1)
   refine wp_skip ?_
   obtain rfl:=Option.some.inj H
   refine pz rfl ⟨(fit rfl),HS3⟩
 ·rintro us w4 ⟨ND,HS4⟩
  obtain ⟨uj1,rfl⟩:=unj ND
  replace H:=G1
  clear G1
  try simp only [patch,sc0,sc1]
  refine wp_seq<|region<|rs (vI xx1) (aK rfl)<|rs (vI xx1) (aC rfl) ?_
  try simp only [sc0,sc1]
  refine aB<|aj<|wp_ret ?_
  obtain rfl:=Option.some.inj H
  exact bodyPost_ret (aW rfl (aV rfl)) rfl<|⟨rfl,HS4.toE⟩
def dS.l0 (a0:bf) (a2:ByteArray) (v2:Int):Nat→Int→Option ((iK)⊕(Unit))
 |0,_=>none
 |m+1,aG=>if (decide (aG<(((rd ah a0.ay v2).au).length:Int)))=true then (if 0≤aG∧aG<((rd ah a0.ay v2).au).length then (if (strEq ((rd ak ((rd ah a0.ay v2).au) aG).aU) a2)=true then (if 0≤aG∧aG<((rd ah a0.ay v2).au).length then (some (.inl (⟨(⟨(rd ak ((rd ah a0.ay v2).au) aG).aU,(rd ak ((rd ah a0.ay v2).au) aG).vType,(rd ak ((rd ah a0.ay v2).au) aG).vAt⟩:dP),0⟩:iK))) else none) else (dS.l0 a0 a2 v2 m (IntKind.wrap .i64 (aG+1)))) else none) else (some (.inr ()))
def dS.f (k:Nat) (a0:bf) (a1:Int) (a2:ByteArray):Option (iK):=(dh.f k a0 a1).bind fun v1=>(if (v1 !=0)=true then (some (⟨(⟨ByteArray.empty,0,0⟩:dP),v1⟩:iK)) else ((dI.f k a0 a1).bind fun v2=>(if 0≤v2∧v2<a0.ay.length then (if ((rd ah a0.ay v2).aF !=4)=true then (some (⟨(⟨ByteArray.empty,0,0⟩:dP),5⟩:iK)) else ((dS.l0 a0 a2 v2 k 0).bind fun xx1=>(match xx1 with| .inl r=>some r| .inr s1=>some (⟨(⟨ByteArray.empty,0,0⟩:dP),3⟩:iK)))) else none)))
theorem dS.calls (k:Nat) (a0:bf) (a1:Int) (a2:ByteArray) (bQ:Option Addr) (bT:Nat) {h0:View} {w0:World} (hv:jf h0 w0) (fB:Rd eX h0 bQ a0.ay) (gI:a0.ay.length≤bT) {r:iK} (H:dS.f k a0 a1 a2=some r):Calls Tryz.prog 83 #[Value.agg #[vL bQ a0.ay.length bT],vI a1,vS a2] w0 (fun e w1=>e= .returned (Value.agg #[vS r.vF.aU,vI r.vF.vType,vI r.vF.vAt,vI r.vE])∧Ext w0 w1):=by
 unfold dS.f at H
 have HS:St [] h0 w0 h0 [] w0:=St.init hv
 go_enter Tryz.func83,Tryz.ntmps83
 refine wp_seq<|region<|dK rfl rfl (dH (cs:=#[vL bQ a0.ay.length bT]) rfl rfl) ?_
 rintro w1 _ hE1 ⟨b1,rfl,ge1,hb1⟩
 have HS1:=HS.new hE1 ge1 hb1
 refine dK rfl rfl (fA (cs:=#[vS ByteArray.empty,vI 0,vI 0,vI 0]) Tryz.zeroValue171 rfl) ?_
 rintro w2 _ hE2 ⟨b2,rfl,ge2,hb2⟩
 have HS2:=HS1.new hE2 ge2 hb2
 try simp only [sc0,sc1]
 refine aB<|aj<|wp_seq<|region<|rs (Value.agg #[vL bQ a0.ay.length bT]) (aY (n:=1) (vs:=[vL bQ a0.ay.length bT]) rfl Tryz.isAgg24 (HS2.look 1 rfl) Tryz.sizeOf24 rfl rfl)<|rs (vI a1) (aK rfl) ?_
 obtain ⟨v1,H1,H⟩:=bJ H
 refine run_eq (v:=vI v1) rfl rfl (bC Tryz.call82 rfl rfl (dh.calls k a0 a1 bQ bT HS2.sees fB gI H1)) ?_
 intro w3 hE3
 have HS3:=HS2.step hE3
 refine rs (vI v1) (aC rfl) ?_
 try simp only [sc0,sc1]
 refine aB<|aj<|wp_seq<|wp_seq<|region<|rs (vI v1) (aK rfl)<|rs (vB (v1 !=0)) (bK rfl rfl rfl) ?_
 try simp only [sc0,sc1]
 refine aB<|aj<|wp_cond_split (t:=(v1 !=0)) rfl (fun c1=>?_) (fun c1=>?_)
 ·replace H:=bU H c1
  refine wp_seq<|region<|rs (vI v1) (aK rfl)<|rs (Value.agg #[vS ByteArray.empty,vI 0,vI 0,vI v1]) (iF (cs:=[vS ByteArray.empty,vI 0,vI 0,vI v1]) (ps:=[(1,vI v1)]) Tryz.zeroValue171 Tryz.runUnderlying171 (pl:=#[(0,3),(3,1)]) (fun w=>by simp [Tryz.sizeOf129,Tryz.sizeOf34]) (jZ (show _=vI v1 from rfl)) rfl) ?_
  refine gq (i:=0) (cs:=[vS ByteArray.empty,vI 0,vI 0,vI 0]) (cs':=[vS ByteArray.empty,vI 0,vI 0,vI v1]) (vs:=[vS ByteArray.empty,vI 0,vI 0,vI v1]) (bs':=[(some b2, .cells #[vS ByteArray.empty,vI 0,vI 0,vI v1] 171 (0,0)),(some b1, .cells #[vL bQ a0.ay.length bT] 24 (0,0))]) rfl rfl Tryz.sizeOf171 rfl rfl (by decide) rfl HS3 rfl (Nat.le_of_ble_eq_true rfl) rfl rfl ?_
  intro w4 HS4
  try simp only [sc0,sc1]
  refine aB<|aj<|wp_ret<|aX ?_
  obtain rfl:=Option.some.inj H
  exact bodyPost_ret (aW rfl (iP rfl Tryz.isAgg171 (HS4.look 0 rfl) Tryz.sizeOf171 rfl)) rfl<|⟨rfl,HS4.toE⟩
 ·replace H:=bZ H (nt c1)
  refine wp_skip<|aj<|wp_seq ?_
  obtain ⟨v2,H2,H⟩:=bJ H
  obtain ⟨hi1,H⟩:=fE H
  obtain ⟨ad1,dO,dR,e1,kX,jO,iD⟩:=gU fB hi1.1 hi1.2
  refine drawn [.eq (vP b1 0), .eq (vL bQ a0.ay.length bT), .eq (Value.agg #[vL bQ a0.ay.length bT]), .eq (vI a1), .eq (vI v2), .eq (Value.pointer (some (Addr.add ad1 (v2.toNat*7)))), .eq (Value.agg #[vI ((rd ah a0.ay v2).aF),vS ((rd ah a0.ay v2).aU),vI ((rd ah a0.ay v2).bW.aS),vB ((rd ah a0.ay v2).bW.aO),vI ((rd ah a0.ay v2).dY),vI ((rd ah a0.ay v2).vN),vL dO ((rd ah a0.ay v2).au).length dR]), .ex (oV w3 #[vI 0,vS ByteArray.empty,vI 0,vB false,vI 0,vI 0,vL none 0 0] 56)] [17,18,19,20,21,22,23,8] nD (by kernel_rfl) rfl (bn (bn (bn (bn (bn (bn (bn (pO oV.stable jh)))))))) ⟨bI rfl (fun a' w' hE hk=>by have HSd:=HS3.step hE;exact cu (aH (n:=1) (o':=0) (show _=vP b1 0 from hk 3 rfl) Tryz.runUnderlying24 rfl Tryz.sizeOf22 (by decide) rfl)),bI rfl (fun a' w' hE hk=>by have HSd:=HS3.step hE;exact cu (aN (show _=vP b1 0 from hk 17 rfl) Tryz.isAgg22 (HSd.look 1 rfl) rfl)),bI rfl (fun a' w' hE hk=>by have HSd:=HS3.step hE;exact cu (aY (n:=1) (vs:=[vL bQ a0.ay.length bT]) (show _=vP b1 0 from hk 3 rfl) Tryz.isAgg24 (HSd.look 1 rfl) Tryz.sizeOf24 rfl rfl)),bI rfl (fun a' w' hE hk=>by have HSd:=HS3.step hE;exact cu (aK (show _=vI a1 from hk 1 rfl))),bI rfl (fun a' w' hE hk=>by have HSd:=HS3.step hE;exact (bC Tryz.call55 rfl (Kt (show _=Value.agg #[vL bQ a0.ay.length bT] from hk 19 rfl) (show _=vI a1 from hk 20 rfl)) (dI.calls k a0 a1 bQ bT HSd.sees fB gI H2))),bI rfl (fun a' w' hE hk=>by have HSd:=HS3.step hE;exact cu (dQ (sz:=7) (show _=vL bQ a0.ay.length bT from hk 18 rfl) e1 (show _=vI v2 from hk 21 rfl) hi1.1 hi1.2 Tryz.runUnderlying22 Tryz.sizeOf56)),bI rfl (fun a' w' hE hk=>by have HSd:=HS3.step hE;exact cu (gK (show _=Value.pointer (some (Addr.add ad1 (v2.toNat*7))) from hk 22 rfl) Tryz.isAgg56 (kX.sees HSd.sees) Tryz.sizeOf56)),bI rfl (fun a' w' hE hk=>(uG hE (cs:=#[vI 0,vS ByteArray.empty,vI 0,vB false,vI 0,vI 0,vL none 0 0]) Tryz.zeroValue56 rfl)),trivial⟩ ?_
  intro w5 hE4
  simp only [List.zip_cons_cons,List.zip_nil_left,List.zip_nil_right,yh,sc0,sc1,List.length_cons,List.length_nil,List.drop_succ_cons,List.drop_zero,Nat.zero_add,Nat.reduceAdd]
  rintro _ ⟨b3,rfl,ge3,hb3⟩
  have HS5:=HS3.new hE4 ge3 hb3
  refine gq (i:=0) (cs:=[vI 0,vS ByteArray.empty,vI 0,vB false,vI 0,vI 0,vL none 0 0]) (cs':=[vI ((rd ah a0.ay v2).aF),vS ((rd ah a0.ay v2).aU),vI ((rd ah a0.ay v2).bW.aS),vB ((rd ah a0.ay v2).bW.aO),vI ((rd ah a0.ay v2).dY),vI ((rd ah a0.ay v2).vN),vL dO ((rd ah a0.ay v2).au).length dR]) (vs:=[vI ((rd ah a0.ay v2).aF),vS ((rd ah a0.ay v2).aU),vI ((rd ah a0.ay v2).bW.aS),vB ((rd ah a0.ay v2).bW.aO),vI ((rd ah a0.ay v2).dY),vI ((rd ah a0.ay v2).vN),vL dO ((rd ah a0.ay v2).au).length dR]) (bs':=[(some b3, .cells #[vI ((rd ah a0.ay v2).aF),vS ((rd ah a0.ay v2).aU),vI ((rd ah a0.ay v2).bW.aS),vB ((rd ah a0.ay v2).bW.aO),vI ((rd ah a0.ay v2).dY),vI ((rd ah a0.ay v2).vN),vL dO ((rd ah a0.ay v2).au).length dR] 56 (0,0)),(some b2, .cells #[vS ByteArray.empty,vI 0,vI 0,vI 0] 171 (0,0)),(some b1, .cells #[vL bQ a0.ay.length bT] 24 (0,0))]) rfl rfl Tryz.sizeOf56 rfl rfl (by decide) rfl HS5 rfl (Nat.le_of_ble_eq_true rfl) rfl rfl ?_
  intro w6 HS6
  try simp only [sc0,sc1]
  refine aB<|aj<|wp_seq<|wp_seq<|region<|rs (vP b3 0) (aH (n:=1) (o':=0) rfl Tryz.runUnderlying56 rfl Tryz.sizeOf3 (by decide) rfl)<|rs (vI ((rd ah a0.ay v2).aF)) (aN rfl Tryz.isAgg3 (HS6.look 0 rfl) rfl)<|rs (vB ((rd ah a0.ay v2).aF !=4)) (bK rfl rfl rfl) ?_
  try simp only [sc0,sc1]
  refine aB<|aj<|wp_cond_split (t:=((rd ah a0.ay v2).aF !=4)) rfl (fun c2=>?_) (fun c2=>?_)
  ·replace H:=bU H c2
   refine wp_seq<|region<|rs (Value.agg #[vS ByteArray.empty,vI 0,vI 0,vI 5]) (iF (cs:=[vS ByteArray.empty,vI 0,vI 0,vI 5]) (ps:=[(1,vI 5)]) Tryz.zeroValue171 Tryz.runUnderlying171 (pl:=#[(0,3),(3,1)]) (fun w=>by simp [Tryz.sizeOf129,Tryz.sizeOf34]) (jZ (show _=vI 5 from rfl)) rfl) ?_
   refine gq (i:=1) (cs:=[vS ByteArray.empty,vI 0,vI 0,vI 0]) (cs':=[vS ByteArray.empty,vI 0,vI 0,vI 5]) (vs:=[vS ByteArray.empty,vI 0,vI 0,vI 5]) (bs':=[(some b3, .cells #[vI ((rd ah a0.ay v2).aF),vS ((rd ah a0.ay v2).aU),vI ((rd ah a0.ay v2).bW.aS),vB ((rd ah a0.ay v2).bW.aO),vI ((rd ah a0.ay v2).dY),vI ((rd ah a0.ay v2).vN),vL dO ((rd ah a0.ay v2).au).length dR] 56 (0,0)),(some b2, .cells #[vS ByteArray.empty,vI 0,vI 0,vI 5] 171 (0,0)),(some b1, .cells #[vL bQ a0.ay.length bT] 24 (0,0))]) rfl rfl Tryz.sizeOf171 rfl rfl (by decide) rfl HS6 rfl (Nat.le_of_ble_eq_true rfl) rfl rfl ?_
   intro w7 HS7
   try simp only [sc0,sc1]
   refine aB<|aj<|wp_ret<|aX ?_
   obtain rfl:=Option.some.inj H
   exact bodyPost_ret (aW rfl (iP rfl Tryz.isAgg171 (HS7.look 1 rfl) Tryz.sizeOf171 rfl)) rfl<|⟨rfl,HS7.toE⟩
  ·replace H:=bZ H (nt c2)
   refine wp_skip<|aj<|wp_seq<|wp_seq<|region<|rs (vI 0) (aC rfl) ?_
   try simp only [sc0,sc1]
   refine aB<|aj ?_
   obtain ⟨xx1,H,G1⟩:=bJ H
   refine iW [9,28,29,30,31,32,33,34,35,36,37,38,39,40,41,42,43,44,45,46,47,48] (fun m us w'=>∃(aG:Int),Fit us (fun uy1=>[vI aG,(uy1 1),(uy1 2),(uy1 3),(uy1 4),(uy1 5),(uy1 6),(uy1 7),(uy1 8),(uy1 9),(uy1 10),(uy1 11),(uy1 12),(uy1 13),(uy1 14),(uy1 15),(uy1 16),(uy1 17),(uy1 18),(uy1 19),(uy1 20),(uy1 21)])∧dS.l0 a0 a2 v2 m aG=some xx1∧St [] h0 w0 h0 [(some b3, .cells #[vI ((rd ah a0.ay v2).aF),vS ((rd ah a0.ay v2).aU),vI ((rd ah a0.ay v2).bW.aS),vB ((rd ah a0.ay v2).bW.aO),vI ((rd ah a0.ay v2).dY),vI ((rd ah a0.ay v2).vN),vL dO ((rd ah a0.ay v2).au).length dR] 56 (0,0)),(some b2, .cells #[vS ByteArray.empty,vI 0,vI 0,vI 0] 171 (0,0)),(some b1, .cells #[vL bQ a0.ay.length bT] 24 (0,0))] w') (fun us w'=>∃(s1:Unit),xx1= .inr s1∧Fit us (fun uo1=>[(uo1 0),(uo1 1),(uo1 2),(uo1 3),(uo1 4),(uo1 5),(uo1 6),(uo1 7),(uo1 8),(uo1 9),(uo1 10),(uo1 11),(uo1 12),(uo1 13),(uo1 14),(uo1 15),(uo1 16),(uo1 17),(uo1 18),(uo1 19),(uo1 20),(uo1 21)])∧St [] h0 w0 h0 [(some b3, .cells #[vI ((rd ah a0.ay v2).aF),vS ((rd ah a0.ay v2).aU),vI ((rd ah a0.ay v2).bW.aS),vB ((rd ah a0.ay v2).bW.aO),vI ((rd ah a0.ay v2).dY),vI ((rd ah a0.ay v2).vN),vL dO ((rd ah a0.ay v2).au).length dR] 56 (0,0)),(some b2, .cells #[vS ByteArray.empty,vI 0,vI 0,vI 0] 171 (0,0)),(some b1, .cells #[vL bQ a0.ay.length bT] 24 (0,0))] w') k ⟨0,(fit rfl),H,HS6⟩ ?_ ?_
   ·rintro m us w8 ⟨aG,lZ,H,HS8⟩
    obtain ⟨uy1,rfl⟩:=unj lZ
    cases m with
    |zero=>exact absurd H (by simp [dS.l0])
    |succ m=>
     rw [dS.l0] at H
     try simp only [patch,sc0,sc1]
     refine wp_seq<|wp_seq<|region<|rs (vI aG) (aK rfl)<|rs (vP b3 6) (aH (n:=1) (o':=6) rfl Tryz.runUnderlying56 rfl Tryz.sizeOf54 (by decide) rfl)<|rs (vL dO ((rd ah a0.ay v2).au).length dR) (aN rfl Tryz.isAgg54 (HS8.look 0 rfl) rfl)<|rs (vI (((rd ah a0.ay v2).au).length:Int)) (iT rfl Tryz.runUnderlying54)<|aI (by simp only [sc0,sc1];rfl) ?_
     refine rs (vB (decide (aG<(((rd ah a0.ay v2).au).length:Int)))) (bK rfl rfl rfl) ?_
     try simp only [sc0,sc1]
     refine aB<|aj<|wp_cond_split (t:=(decide (aG<(((rd ah a0.ay v2).au).length:Int)))) rfl (fun c3=>?_) (fun c3=>?_)
     ·replace H:=bU H c3
      refine wp_skip<|aj<|wp_seq<|wp_block<|wp_seq<|region<|rs (vP b3 6) (aH (n:=1) (o':=6) rfl Tryz.runUnderlying56 rfl Tryz.sizeOf54 (by decide) rfl)<|rs (vL dO ((rd ah a0.ay v2).au).length dR) (aN rfl Tryz.isAgg54 (HS8.look 0 rfl) rfl)<|rs (vI aG) (aK rfl) ?_
      obtain ⟨hi2,H⟩:=fE H
      obtain ⟨ad2,e2,wV⟩:=iR iD hi2.1 hi2.2
      refine rs (Value.pointer (some (Addr.add ad2 (aG.toNat*3)))) (dQ (sz:=3) rfl e2 rfl hi2.1 hi2.2 Tryz.runUnderlying54 Tryz.sizeOf129)<|aI (by simp only [sc0,sc1];rfl) ?_
      refine rs (Value.pointer (some (Addr.add (Addr.add ad2 (aG.toNat*3)) 0))) (jG (n:=1) (o':=0) rfl Tryz.runUnderlying129 rfl Tryz.sizeOf9 (by decide) rfl)<|rs (vS ((rd ak ((rd ah a0.ay v2).au) aG).aU)) (jF rfl Tryz.isAgg9 (wV.cell HS8.sees 0 rfl))<|rs (vS a2) (aK rfl)<|rs (vB (strEq ((rd ak ((rd ah a0.ay v2).au) aG).aU) a2)) (sK rfl rfl) ?_
      try simp only [sc0,sc1]
      refine aB<|aj<|wp_cond_split (t:=(strEq ((rd ak ((rd ah a0.ay v2).au) aG).aU) a2)) rfl (fun c4=>?_) (fun c4=>?_)
      ·replace H:=bU H c4
       refine wp_seq<|region<|rs (vP b3 6) (aH (n:=1) (o':=6) rfl Tryz.runUnderlying56 rfl Tryz.sizeOf54 (by decide) rfl)<|rs (vL dO ((rd ah a0.ay v2).au).length dR) (aN rfl Tryz.isAgg54 (HS8.look 0 rfl) rfl)<|rs (vI aG) (aK rfl) ?_
       obtain ⟨hi3,H⟩:=fE H
       obtain ⟨ad3,e3,WH⟩:=iR iD hi3.1 hi3.2
       refine rs (Value.pointer (some (Addr.add ad3 (aG.toNat*3)))) (dQ (sz:=3) rfl e3 rfl hi3.1 hi3.2 Tryz.runUnderlying54 Tryz.sizeOf129)<|aI (by simp only [sc0,sc1];rfl) ?_
       refine rs (Value.agg #[vS ((rd ak ((rd ah a0.ay v2).au) aG).aU),vI ((rd ak ((rd ah a0.ay v2).au) aG).vType),vI ((rd ak ((rd ah a0.ay v2).au) aG).vAt)]) (gK rfl Tryz.isAgg129 (WH.sees HS8.sees) Tryz.sizeOf129)<|rs (Value.agg #[vS ((rd ak ((rd ah a0.ay v2).au) aG).aU),vI ((rd ak ((rd ah a0.ay v2).au) aG).vType),vI ((rd ak ((rd ah a0.ay v2).au) aG).vAt),vI 0]) (iF (cs:=[vS ((rd ak ((rd ah a0.ay v2).au) aG).aU),vI ((rd ak ((rd ah a0.ay v2).au) aG).vType),vI ((rd ak ((rd ah a0.ay v2).au) aG).vAt),vI 0]) (ps:=[(0,Value.agg #[vS ((rd ak ((rd ah a0.ay v2).au) aG).aU),vI ((rd ak ((rd ah a0.ay v2).au) aG).vType),vI ((rd ak ((rd ah a0.ay v2).au) aG).vAt)])]) Tryz.zeroValue171 Tryz.runUnderlying171 (pl:=#[(0,3),(3,1)]) (fun w=>by simp [Tryz.sizeOf129,Tryz.sizeOf34]) (jZ (show _=Value.agg #[vS ((rd ak ((rd ah a0.ay v2).au) aG).aU),vI ((rd ak ((rd ah a0.ay v2).au) aG).vType),vI ((rd ak ((rd ah a0.ay v2).au) aG).vAt)] from rfl)) rfl) ?_
       refine gq (i:=1) (cs:=[vS ByteArray.empty,vI 0,vI 0,vI 0]) (cs':=[vS ((rd ak ((rd ah a0.ay v2).au) aG).aU),vI ((rd ak ((rd ah a0.ay v2).au) aG).vType),vI ((rd ak ((rd ah a0.ay v2).au) aG).vAt),vI 0]) (vs:=[vS ((rd ak ((rd ah a0.ay v2).au) aG).aU),vI ((rd ak ((rd ah a0.ay v2).au) aG).vType),vI ((rd ak ((rd ah a0.ay v2).au) aG).vAt),vI 0]) (bs':=[(some b3, .cells #[vI ((rd ah a0.ay v2).aF),vS ((rd ah a0.ay v2).aU),vI ((rd ah a0.ay v2).bW.aS),vB ((rd ah a0.ay v2).bW.aO),vI ((rd ah a0.ay v2).dY),vI ((rd ah a0.ay v2).vN),vL dO ((rd ah a0.ay v2).au).length dR] 56 (0,0)),(some b2, .cells #[vS ((rd ak ((rd ah a0.ay v2).au) aG).aU),vI ((rd ak ((rd ah a0.ay v2).au) aG).vType),vI ((rd ak ((rd ah a0.ay v2).au) aG).vAt),vI 0] 171 (0,0)),(some b1, .cells #[vL bQ a0.ay.length bT] 24 (0,0))]) rfl rfl Tryz.sizeOf171 rfl rfl (by decide) rfl HS8 rfl (Nat.le_of_ble_eq_true rfl) rfl rfl ?_
       intro w9 HS9
       try simp only [sc0,sc1]
       refine aB<|aj<|wp_ret<|dn<|aX<|gW<|aX ?_
       obtain rfl:=Option.some.inj H
       obtain rfl:=Option.some.inj G1
       exact bodyPost_ret (aW rfl (iP rfl Tryz.isAgg171 (HS9.look 1 rfl) Tryz.sizeOf171 rfl)) rfl<|⟨rfl,HS9.toE⟩
      ·replace H:=bZ H (nt c4)
       refine wp_skip<|dB<|aj<|region<|rs (vI aG) (aK rfl)<|rs (vI (w64 (aG+1))) (bK rfl rfl rfl)<|rs (vI (w64 (aG+1))) (aC rfl) ?_
       try simp only [sc0,sc1]
       refine aB<|gX m (Nat.lt_succ_self m) rfl ⟨(w64 (aG+1)),(fit rfl),H,HS8⟩
     ·replace H:=bZ H (nt c3)
      refine wp_exit<|fF ?_
      obtain rfl:=Option.some.inj H
      refine iw rfl ⟨_,rfl,(fit rfl),HS8⟩
   ·rintro us w10 ⟨s1,rfl,l7,qN⟩
    obtain ⟨uo1,rfl⟩:=unj l7
    replace H:=G1
    clear G1
    try simp only [patch,sc0,sc1]
    refine aj<|wp_seq<|region<|rs (Value.agg #[vS ByteArray.empty,vI 0,vI 0,vI 3]) (iF (cs:=[vS ByteArray.empty,vI 0,vI 0,vI 3]) (ps:=[(1,vI 3)]) Tryz.zeroValue171 Tryz.runUnderlying171 (pl:=#[(0,3),(3,1)]) (fun w=>by simp [Tryz.sizeOf129,Tryz.sizeOf34]) (jZ (show _=vI 3 from rfl)) rfl) ?_
    refine gq (i:=1) (cs:=[vS ByteArray.empty,vI 0,vI 0,vI 0]) (cs':=[vS ByteArray.empty,vI 0,vI 0,vI 3]) (vs:=[vS ByteArray.empty,vI 0,vI 0,vI 3]) (bs':=[(some b3, .cells #[vI ((rd ah a0.ay v2).aF),vS ((rd ah a0.ay v2).aU),vI ((rd ah a0.ay v2).bW.aS),vB ((rd ah a0.ay v2).bW.aO),vI ((rd ah a0.ay v2).dY),vI ((rd ah a0.ay v2).vN),vL dO ((rd ah a0.ay v2).au).length dR] 56 (0,0)),(some b2, .cells #[vS ByteArray.empty,vI 0,vI 0,vI 3] 171 (0,0)),(some b1, .cells #[vL bQ a0.ay.length bT] 24 (0,0))]) rfl rfl Tryz.sizeOf171 rfl rfl (by decide) rfl qN rfl (Nat.le_of_ble_eq_true rfl) rfl rfl ?_
    intro w11 wU
    try simp only [sc0,sc1]
    refine aB<|aj<|wp_ret ?_
    obtain rfl:=Option.some.inj H
    exact bodyPost_ret (aW rfl (iP rfl Tryz.isAgg171 (wU.look 1 rfl) Tryz.sizeOf171 rfl)) rfl<|⟨rfl,wU.toE⟩
def cZ.l0 (k:Nat) (a0:bf) (a2:List ByteArray):Nat→Int→Int→Int→Option ((iq)⊕(Int×Int))
 |0,_,_,_=>none
 |m+1,aG,bH,kW=>if (decide (kW<(a2.length:Int)))=true then (if 0≤kW∧kW<a2.length then ((dS.f k a0 aG (rd ByteArray.empty a2 kW)).bind fun v2=>(if (v2.vE !=0)=true then (some (.inl (⟨0,0,v2.vE⟩:iq))) else (cZ.l0 k a0 a2 m v2.vF.vType (IntKind.wrap .i64 (bH+v2.vF.vAt)) (IntKind.wrap .i64 (kW+1))))) else none) else (some (.inr (aG,bH)))
def cZ.f (k:Nat) (a0:bf) (a1:Int) (a2:List ByteArray):Option (iq):=(dh.f k a0 a1).bind fun v1=>(((if ((v1==0)&&(decide ((a2.length:Int)>16)))=true then (some 2) else (some v1)):Option (Int)).bind fun xx1=>(if (xx1 !=0)=true then (some (⟨0,0,xx1⟩:iq)) else ((cZ.l0 k a0 a2 k a1 0 0).bind fun xx2=>(match xx2 with| .inl r=>some r| .inr s1=>some (⟨s1.1,s1.2,0⟩:iq)))))
theorem cZ.calls (k:Nat) (a0:bf) (a1:Int) (a2:List ByteArray) (bQ:Option Addr) (bT:Nat) (Jv:Option Addr) (Jw:Nat) {h0:View} {w0:World} (hv:jf h0 w0) (fB:Rd eX h0 bQ a0.ay) (gI:a0.ay.length≤bT) (Us:Rd Kd.str h0 Jv a2) (Yb:a2.length≤Jw) {r:iq} (H:cZ.f k a0 a1 a2=some r):Calls Tryz.prog 40 #[Value.agg #[vL bQ a0.ay.length bT],vI a1,vL Jv a2.length Jw] w0 (fun e w1=>e= .returned (Value.agg #[vI r.vType,vI r.vAt,vI r.vE])∧Ext w0 w1):=by
 unfold cZ.f at H
 have HS:St [] h0 w0 h0 [] w0:=St.init hv
 go_enter Tryz.func40,Tryz.ntmps40
 refine wp_seq<|region<|dK rfl rfl (dH (cs:=#[vL bQ a0.ay.length bT]) rfl rfl) ?_
 rintro w1 _ hE1 ⟨b1,rfl,ge1,hb1⟩
 have HS1:=HS.new hE1 ge1 hb1
 refine dK rfl rfl (fA (cs:=#[vI 0,vI 0,vI 0]) Tryz.zeroValue115 rfl) ?_
 rintro w2 _ hE2 ⟨b2,rfl,ge2,hb2⟩
 have HS2:=HS1.new hE2 ge2 hb2
 try simp only [sc0,sc1]
 refine aB<|aj<|wp_seq<|region<|rs (Value.agg #[vL bQ a0.ay.length bT]) (aY (n:=1) (vs:=[vL bQ a0.ay.length bT]) rfl Tryz.isAgg24 (HS2.look 1 rfl) Tryz.sizeOf24 rfl rfl)<|rs (vI a1) (aK rfl) ?_
 obtain ⟨v1,H1,H⟩:=bJ H
 refine run_eq (v:=vI v1) rfl rfl (bC Tryz.call82 rfl rfl (dh.calls k a0 a1 bQ bT HS2.sees fB gI H1)) ?_
 intro w3 hE3
 have HS3:=HS2.step hE3
 refine rs (vI v1) (aC rfl) ?_
 try simp only [sc0,sc1]
 refine aB<|aj<|wp_seq<|wp_seq<|region<|rs (vI v1) (aK rfl)<|rs (vB (v1==0)) (bK rfl rfl rfl)<|rs (vB (v1==0)) (aK rfl)<|rgs (v1==0) true (vL Jv a2.length Jw) rfl rfl rfl rfl (fun hg=>(aK rfl))<|aI (by simp only [sc0,sc1];rfl) ?_
 refine rgs (v1==0) true (vI (a2.length:Int)) rfl rfl rfl rfl (fun hg=>(iT (gvt (vL Jv a2.length Jw) hg rfl) Tryz.runUnderlying30))<|rgs (v1==0) true (vB (decide ((a2.length:Int)>16))) rfl rfl rfl rfl (fun hg=>(bK (gvt (vI (a2.length:Int)) hg rfl) rfl rfl))<|rs (vB ((v1==0)&&(decide ((a2.length:Int)>16)))) (dw rfl (fun hp=>(gvt (vB (decide ((a2.length:Int)>16))) (gu rfl hp) rfl)) rfl) ?_
 try simp only [sc0,sc1]
 refine aB<|aj ?_
 obtain ⟨xx1,H,G1⟩:=bJ H
 refine lU [7] (fun us w'=>Fit us (fun uj1=>[vI xx1])∧St [] h0 w0 h0 [(some b2, .cells #[vI 0,vI 0,vI 0] 115 (0,0)),(some b1, .cells #[vL bQ a0.ay.length bT] 24 (0,0))] w') ?_ ?_
 ·refine wp_cond_split (t:=((v1==0)&&(decide ((a2.length:Int)>16)))) rfl (fun c1=>?_) (fun c1=>?_)
  ·replace H:=bU H c1
   refine region<|rs (vI 2) (aC rfl) ?_
   try simp only [sc0,sc1]
   refine aB ?_
   obtain rfl:=Option.some.inj H
   refine pz rfl ⟨(fit rfl),HS3⟩
  ·replace H:=bZ H (nt c1)
   refine wp_skip ?_
   obtain rfl:=Option.some.inj H
   refine pz rfl ⟨(fit rfl),HS3⟩
 ·rintro us w4 ⟨ND,HS4⟩
  obtain ⟨uj1,rfl⟩:=unj ND
  replace H:=G1
  clear G1
  try simp only [patch,sc0,sc1]
  refine wp_seq<|wp_seq<|region<|rs (vI xx1) (aK rfl)<|rs (vB (xx1 !=0)) (bK rfl rfl rfl) ?_
  try simp only [sc0,sc1]
  refine aB<|aj<|wp_cond_split (t:=(xx1 !=0)) rfl (fun c2=>?_) (fun c2=>?_)
  ·replace H:=bU H c2
   refine wp_seq<|region<|rs (vI xx1) (aK rfl)<|rs (Value.agg #[vI 0,vI 0,vI xx1]) (iF (cs:=[vI 0,vI 0,vI xx1]) (ps:=[(2,vI xx1)]) Tryz.zeroValue115 Tryz.runUnderlying115 (pl:=#[(0,1),(1,1),(2,1)]) (fun w=>by simp [Tryz.sizeOf3,Tryz.sizeOf34]) (jZ (show _=vI xx1 from rfl)) rfl) ?_
   refine gq (i:=0) (cs:=[vI 0,vI 0,vI 0]) (cs':=[vI 0,vI 0,vI xx1]) (vs:=[vI 0,vI 0,vI xx1]) (bs':=[(some b2, .cells #[vI 0,vI 0,vI xx1] 115 (0,0)),(some b1, .cells #[vL bQ a0.ay.length bT] 24 (0,0))]) rfl rfl Tryz.sizeOf115 rfl rfl (by decide) rfl HS4 rfl (Nat.le_of_ble_eq_true rfl) rfl rfl ?_
   intro w5 HS5
   try simp only [sc0,sc1]
   refine aB<|aj<|wp_ret<|aX ?_
   obtain rfl:=Option.some.inj H
   exact bodyPost_ret (aW rfl (iP rfl Tryz.isAgg115 (HS5.look 0 rfl) Tryz.sizeOf115 rfl)) rfl<|⟨rfl,HS5.toE⟩
  ·replace H:=bZ H (nt c2)
   refine wp_skip<|aj<|wp_seq<|region<|rs (vI 0) (aC rfl) ?_
   try simp only [sc0,sc1]
   refine aB<|aj<|wp_seq<|wp_seq<|region<|rs (vI 0) (aC rfl) ?_
   try simp only [sc0,sc1]
   refine aB<|aj ?_
   obtain ⟨xx2,H,G2⟩:=bJ H
   refine iW [1,8,9,10,25,26,27,28,29,30,31,32,33,34,35,36,37,38,39,40,41,42,43,44,45,46,47,48,49,50,51] (fun m us w'=>∃aG bH kW:Int,Fit us (fun uy1=>[vI aG,vI bH,vI kW,(uy1 3),(uy1 4),(uy1 5),(uy1 6),(uy1 7),(uy1 8),(uy1 9),(uy1 10),(uy1 11),(uy1 12),(uy1 13),(uy1 14),(uy1 15),(uy1 16),(uy1 17),(uy1 18),(uy1 19),(uy1 20),(uy1 21),(uy1 22),(uy1 23),(uy1 24),(uy1 25),(uy1 26),(uy1 27),(uy1 28),(uy1 29),(uy1 30)])∧cZ.l0 k a0 a2 m aG bH kW=some xx2∧St [] h0 w0 h0 [(some b2, .cells #[vI 0,vI 0,vI 0] 115 (0,0)),(some b1, .cells #[vL bQ a0.ay.length bT] 24 (0,0))] w') (fun us w'=>∃(s1:Int×Int),xx2= .inr s1∧Fit us (fun uo1=>[vI s1.1,vI s1.2,(uo1 2),(uo1 3),(uo1 4),(uo1 5),(uo1 6),(uo1 7),(uo1 8),(uo1 9),(uo1 10),(uo1 11),(uo1 12),(uo1 13),(uo1 14),(uo1 15),(uo1 16),(uo1 17),(uo1 18),(uo1 19),(uo1 20),(uo1 21),(uo1 22),(uo1 23),(uo1 24),(uo1 25),(uo1 26),(uo1 27),(uo1 28),(uo1 29),(uo1 30)])∧St [] h0 w0 h0 [(some b2, .cells #[vI 0,vI 0,vI 0] 115 (0,0)),(some b1, .cells #[vL bQ a0.ay.length bT] 24 (0,0))] w') k ⟨a1,0,0,(fit rfl),H,HS4⟩ ?_ ?_
   ·rintro m us w6 ⟨aG,bH,kW,lZ,H,HS6⟩
    obtain ⟨uy1,rfl⟩:=unj lZ
    cases m with
    |zero=>exact absurd H (by simp [cZ.l0])
    |succ m=>
     rw [cZ.l0] at H
     try simp only [patch,sc0,sc1]
     refine wp_seq<|wp_seq<|region<|rs (vI kW) (aK rfl)<|rs (vL Jv a2.length Jw) (aK rfl)<|rs (vI (a2.length:Int)) (iT rfl Tryz.runUnderlying30)<|rs (vB (decide (kW<(a2.length:Int)))) (bK rfl rfl rfl) ?_
     try simp only [sc0,sc1]
     refine aB<|aj<|wp_cond_split (t:=(decide (kW<(a2.length:Int)))) rfl (fun c3=>?_) (fun c3=>?_)
     ·replace H:=bU H c3
      refine wp_skip<|aj<|wp_seq<|wp_block<|wp_seq ?_
      obtain ⟨hi1,H⟩:=fE H
      obtain ⟨ad1,e1,kX⟩:=QG Us hi1.1 hi1.2
      obtain ⟨v2,H2,H⟩:=bJ H
      refine drawn [.eq (Value.agg #[vL bQ a0.ay.length bT]), .eq (vI aG), .eq (vL Jv a2.length Jw), .eq (vI kW), .eq (Value.pointer (some (Addr.add ad1 (kW.toNat*1)))), .eq (vS (rd ByteArray.empty a2 kW)), .eq (Value.agg #[vS v2.vF.aU,vI v2.vF.vType,vI v2.vF.vAt,vI v2.vE]), .ex (oV w6 #[vS ByteArray.empty,vI 0,vI 0,vI 0] 171)] [31,32,33,34,35,36,37,10] nD (by kernel_rfl) rfl (bn (bn (bn (bn (bn (bn (bn (pO oV.stable jh)))))))) ⟨bI rfl (fun a' w' hE hk=>by have HSd:=HS6.step hE;exact cu (aY (n:=1) (vs:=[vL bQ a0.ay.length bT]) (show _=vP b1 0 from hk 3 rfl) Tryz.isAgg24 (HSd.look 1 rfl) Tryz.sizeOf24 rfl rfl)),bI rfl (fun a' w' hE hk=>by have HSd:=HS6.step hE;exact cu (aK (show _=vI aG from hk 1 rfl))),bI rfl (fun a' w' hE hk=>by have HSd:=HS6.step hE;exact cu (aK (show _=vL Jv a2.length Jw from hk 2 rfl))),bI rfl (fun a' w' hE hk=>by have HSd:=HS6.step hE;exact cu (aK (show _=vI kW from hk 9 rfl))),bI rfl (fun a' w' hE hk=>by have HSd:=HS6.step hE;exact cu (dQ (sz:=1) (show _=vL Jv a2.length Jw from hk 33 rfl) e1 (show _=vI kW from hk 34 rfl) hi1.1 hi1.2 Tryz.runUnderlying30 Tryz.sizeOf9)),bI rfl (fun a' w' hE hk=>by have HSd:=HS6.step hE;exact cu (jF (show _=Value.pointer (some (Addr.add ad1 (kW.toNat*1))) from hk 35 rfl) Tryz.isAgg9 (kX.cell0 HSd.sees rfl))),bI rfl (fun a' w' hE hk=>by have HSd:=HS6.step hE;exact (bC Tryz.call83 rfl (Y5 (show _=Value.agg #[vL bQ a0.ay.length bT] from hk 31 rfl) (show _=vI aG from hk 32 rfl) (show _=vS (rd ByteArray.empty a2 kW) from hk 36 rfl)) (dS.calls k a0 aG (rd ByteArray.empty a2 kW) bQ bT HSd.sees fB gI H2))),bI rfl (fun a' w' hE hk=>(uG hE (cs:=#[vS ByteArray.empty,vI 0,vI 0,vI 0]) Tryz.zeroValue171 rfl)),trivial⟩ ?_
      intro w7 hE4
      simp only [List.zip_cons_cons,List.zip_nil_left,List.zip_nil_right,yh,sc0,sc1,List.length_cons,List.length_nil,List.drop_succ_cons,List.drop_zero,Nat.zero_add,Nat.reduceAdd]
      rintro _ ⟨b3,rfl,ge3,hb3⟩
      have HS7:=HS6.new hE4 ge3 hb3
      refine gq (i:=0) (cs:=[vS ByteArray.empty,vI 0,vI 0,vI 0]) (cs':=[vS v2.vF.aU,vI v2.vF.vType,vI v2.vF.vAt,vI v2.vE]) (vs:=[vS v2.vF.aU,vI v2.vF.vType,vI v2.vF.vAt,vI v2.vE]) (bs':=[(some b3, .cells #[vS v2.vF.aU,vI v2.vF.vType,vI v2.vF.vAt,vI v2.vE] 171 (0,0)),(some b2, .cells #[vI 0,vI 0,vI 0] 115 (0,0)),(some b1, .cells #[vL bQ a0.ay.length bT] 24 (0,0))]) rfl rfl Tryz.sizeOf171 rfl rfl (by decide) rfl HS7 rfl (Nat.le_of_ble_eq_true rfl) rfl rfl ?_
      intro w8 HS8
      try simp only [sc0,sc1]
      refine aB<|aj<|wp_seq<|wp_seq<|region<|rs (vP b3 3) (aH (n:=1) (o':=3) rfl Tryz.runUnderlying171 rfl Tryz.sizeOf34 (by decide) rfl)<|rs (vI v2.vE) (aN rfl Tryz.isAgg34 (HS8.look 0 rfl) rfl)<|rs (vB (v2.vE !=0)) (bK rfl rfl rfl) ?_
      try simp only [sc0,sc1]
      refine aB<|aj<|wp_cond_split (t:=(v2.vE !=0)) rfl (fun c4=>?_) (fun c4=>?_)
      ·replace H:=bU H c4
       refine wp_seq<|region<|rs (vP b3 3) (aH (n:=1) (o':=3) rfl Tryz.runUnderlying171 rfl Tryz.sizeOf34 (by decide) rfl)<|rs (vI v2.vE) (aN rfl Tryz.isAgg34 (HS8.look 0 rfl) rfl)<|rs (Value.agg #[vI 0,vI 0,vI v2.vE]) (iF (cs:=[vI 0,vI 0,vI v2.vE]) (ps:=[(2,vI v2.vE)]) Tryz.zeroValue115 Tryz.runUnderlying115 (pl:=#[(0,1),(1,1),(2,1)]) (fun w=>by simp [Tryz.sizeOf3,Tryz.sizeOf34]) (jZ (show _=vI v2.vE from rfl)) rfl) ?_
       refine gq (i:=1) (cs:=[vI 0,vI 0,vI 0]) (cs':=[vI 0,vI 0,vI v2.vE]) (vs:=[vI 0,vI 0,vI v2.vE]) (bs':=[(some b3, .cells #[vS v2.vF.aU,vI v2.vF.vType,vI v2.vF.vAt,vI v2.vE] 171 (0,0)),(some b2, .cells #[vI 0,vI 0,vI v2.vE] 115 (0,0)),(some b1, .cells #[vL bQ a0.ay.length bT] 24 (0,0))]) rfl rfl Tryz.sizeOf115 rfl rfl (by decide) rfl HS8 rfl (Nat.le_of_ble_eq_true rfl) rfl rfl ?_
       intro w9 HS9
       try simp only [sc0,sc1]
       refine aB<|aj<|wp_ret<|aX<|dn<|aX<|gW<|aX ?_
       obtain rfl:=Option.some.inj H
       obtain rfl:=Option.some.inj G2
       exact bodyPost_ret (aW rfl (iP rfl Tryz.isAgg115 (HS9.look 1 rfl) Tryz.sizeOf115 rfl)) rfl<|⟨rfl,HS9.toE⟩
      ·replace H:=bZ H (nt c4)
       refine wp_skip<|aj<|wp_seq<|region<|rs (vP b3 0) (aH (n:=3) (o':=0) rfl Tryz.runUnderlying171 rfl Tryz.sizeOf129 (by decide) rfl)<|rs (vP b3 1) (aH (n:=1) (o':=1) rfl Tryz.runUnderlying129 rfl Tryz.sizeOf3 (by decide) rfl)<|rs (vI v2.vF.vType) (aN rfl Tryz.isAgg3 (HS8.look 0 rfl) rfl)<|rs (vI v2.vF.vType) (aC rfl) ?_
       try simp only [sc0,sc1]
       refine aB<|aj<|region<|rs (vI bH) (aK rfl)<|rs (vP b3 0) (aH (n:=3) (o':=0) rfl Tryz.runUnderlying171 rfl Tryz.sizeOf129 (by decide) rfl)<|rs (vP b3 2) (aH (n:=1) (o':=2) rfl Tryz.runUnderlying129 rfl Tryz.sizeOf3 (by decide) rfl)<|rs (vI v2.vF.vAt) (aN rfl Tryz.isAgg3 (HS8.look 0 rfl) rfl)<|aI (by simp only [sc0,sc1];rfl) ?_
       refine rs (vI (w64 (bH+v2.vF.vAt))) (bK rfl rfl rfl)<|rs (vI (w64 (bH+v2.vF.vAt))) (aC rfl) ?_
       try simp only [sc0,sc1]
       refine aB<|dB<|aj<|region<|rs (vI kW) (aK rfl)<|rs (vI (w64 (kW+1))) (bK rfl rfl rfl)<|rs (vI (w64 (kW+1))) (aC rfl) ?_
       try simp only [sc0,sc1]
       refine aB<|gX m (Nat.lt_succ_self m) rfl ⟨v2.vF.vType,(w64 (bH+v2.vF.vAt)),(w64 (kW+1)),(fit rfl),H,HS8.tail⟩
     ·replace H:=bZ H (nt c3)
      refine wp_exit<|fF ?_
      obtain rfl:=Option.some.inj H
      refine iw rfl ⟨_,rfl,(fit rfl),HS6⟩
   ·rintro us w10 ⟨s1,rfl,l7,qN⟩
    obtain ⟨uo1,rfl⟩:=unj l7
    replace H:=G2
    clear G2
    try simp only [patch,sc0,sc1]
    refine aj<|wp_seq<|region<|rs (vI s1.1) (aK rfl)<|rs (vI s1.2) (aK rfl)<|rs (Value.agg #[vI s1.1,vI s1.2,vI 0]) (iF (cs:=[vI s1.1,vI s1.2,vI 0]) (ps:=[(0,vI s1.1),(1,vI s1.2)]) Tryz.zeroValue115 Tryz.runUnderlying115 (pl:=#[(0,1),(1,1),(2,1)]) (fun w=>by simp [Tryz.sizeOf3,Tryz.sizeOf34]) (nT (show _=vI s1.1 from rfl) (show _=vI s1.2 from rfl)) rfl) ?_
    refine gq (i:=0) (cs:=[vI 0,vI 0,vI 0]) (cs':=[vI s1.1,vI s1.2,vI 0]) (vs:=[vI s1.1,vI s1.2,vI 0]) (bs':=[(some b2, .cells #[vI s1.1,vI s1.2,vI 0] 115 (0,0)),(some b1, .cells #[vL bQ a0.ay.length bT] 24 (0,0))]) rfl rfl Tryz.sizeOf115 rfl rfl (by decide) rfl qN rfl (Nat.le_of_ble_eq_true rfl) rfl rfl ?_
    intro w11 wU
    try simp only [sc0,sc1]
    refine aB<|aj<|wp_ret ?_
    obtain rfl:=Option.some.inj H
    exact bodyPost_ret (aW rfl (iP rfl Tryz.isAgg115 (wU.look 0 rfl) Tryz.sizeOf115 rfl)) rfl<|⟨rfl,wU.toE⟩
def Dy.f (k:Nat) (a0:bf) (a1:Int):Option (Int×Int):=(iC.f k a0 a1).bind fun v1=>(if (v1 !=0)=true then (some (0,v1)) else ((fK.f k a0).bind fun v2=>(if 0≤a1∧a1<v2.1.length then (some ((rd 0 v2.1 a1),0)) else none)))
theorem Dy.calls (k:Nat) (a0:bf) (a1:Int) (bQ:Option Addr) (bT:Nat) {h0:View} {w0:World} (hv:jf h0 w0) (fB:Rd eX h0 bQ a0.ay) (gI:a0.ay.length≤bT) {r:Int×Int} (H:Dy.f k a0 a1=some r):Calls Tryz.prog 42 #[Value.agg #[vL bQ a0.ay.length bT],vI a1] w0 (fun e w1=>e= .returned (Value.tuple #[vI r.1,vI r.2])∧Ext w0 w1):=by
 unfold Dy.f at H
 have HS:St [] h0 w0 h0 [] w0:=St.init hv
 go_enter Tryz.func42,Tryz.ntmps42
 refine wp_seq<|region<|dK rfl rfl (dH (cs:=#[vL bQ a0.ay.length bT]) rfl rfl) ?_
 rintro w1 _ hE1 ⟨b1,rfl,ge1,hb1⟩
 have HS1:=HS.new hE1 ge1 hb1
 refine rs (vI 0) (aC rfl)<|rs (vI 0) (aC rfl) ?_
 try simp only [sc0,sc1]
 refine aB<|aj<|wp_seq<|wp_seq<|region<|rs (Value.agg #[vL bQ a0.ay.length bT]) (aY (n:=1) (vs:=[vL bQ a0.ay.length bT]) rfl Tryz.isAgg24 (HS1.look 0 rfl) Tryz.sizeOf24 rfl rfl)<|rs (vI a1) (aK rfl) ?_
 obtain ⟨v1,H1,H⟩:=bJ H
 refine run_eq (v:=vI v1) rfl rfl (bC Tryz.call53 rfl rfl (iC.calls k a0 a1 bQ bT HS1.sees fB gI H1)) ?_
 intro w2 hE2
 have HS2:=HS1.step hE2
 refine rs (vI v1) (aC rfl) ?_
 try simp only [sc0,sc1]
 refine aB<|aj<|wp_seq<|region<|rs (vI v1) (aK rfl)<|rs (vB (v1 !=0)) (bK rfl rfl rfl) ?_
 try simp only [sc0,sc1]
 refine aB<|aj<|wp_cond_split (t:=(v1 !=0)) rfl (fun c1=>?_) (fun c1=>?_)
 ·replace H:=bU H c1
  refine wp_seq<|region<|rs (vI v1) (aK rfl)<|rs (vI 0) (aC rfl)<|rs (vI v1) (aC rfl) ?_
  try simp only [sc0,sc1]
  refine aB<|aj<|wp_ret<|aX ?_
  obtain rfl:=Option.some.inj H
  exact bodyPost_ret (fO rfl (aV rfl) (aV rfl)) rfl<|⟨rfl,HS2.toE⟩
 ·replace H:=bZ H (nt c1)
  refine wp_skip<|aj<|wp_seq<|region<|rs (Value.agg #[vL bQ a0.ay.length bT]) (aY (n:=1) (vs:=[vL bQ a0.ay.length bT]) rfl Tryz.isAgg24 (HS2.look 0 rfl) Tryz.sizeOf24 rfl rfl) ?_
  obtain ⟨v2,H2,H⟩:=bJ H
  refine dK rfl rfl (lT Tryz.call85 rfl (qB (h:=h0) (R:=(fun hx u=>∃(l9:Option Addr) (mg:Nat),u=Value.tuple #[vL l9 v2.1.length mg,vB v2.2]∧v2.1.length≤mg∧Rd (Kd.int .i64) hx l9 v2.1)) (Ext.rfl' w2) ((fK.calls k a0 bQ bT HS2.sees fB gI H2).mono ?_)) rfl) ?_
  ·rintro _ _ ⟨h1,l9,mg,rfl,vJ,qQ,g,ss,x⟩
   exact ⟨h1,_,rfl,⟨l9,mg,rfl,vJ,qQ⟩,g,ss,x⟩
  rintro w3 _ hE3 ⟨h1,⟨l9,mg,rfl,vJ,qQ⟩,gr1,se1⟩
  have HS3:=HS2.view hE3 gr1 se1
  refine rs (Value.tuple #[vL l9 v2.1.length mg,vB v2.2]) (aK rfl)<|rs (vL l9 v2.1.length mg) (eU rfl rfl)<|aI (by simp only [sc0,sc1];rfl) ?_
  refine rs (vB v2.2) (eU rfl rfl)<|rs (vL l9 v2.1.length mg) (aC rfl)<|rs (vB v2.2) (aC rfl) ?_
  try simp only [sc0,sc1]
  refine aB<|aj<|wp_seq<|region<|rs (vL l9 v2.1.length mg) (aK rfl)<|rs (vI a1) (aK rfl) ?_
  obtain ⟨hi1,H⟩:=fE H
  obtain ⟨ad1,e1,kX⟩:=oU qQ hi1.1 hi1.2
  refine rs (Value.pointer (some (Addr.add ad1 (a1.toNat*1)))) (dQ (sz:=1) rfl e1 rfl hi1.1 hi1.2 Tryz.runUnderlying81 Tryz.sizeOf3)<|rs (vI (rd 0 v2.1 a1)) (jF rfl Tryz.isAgg3 (kX.cell0 HS3.sees rfl))<|aI (by simp only [sc0,sc1];rfl) ?_
  refine rs (vI (rd 0 v2.1 a1)) (aC rfl)<|rs (vI 0) (aC rfl) ?_
  try simp only [sc0,sc1]
  refine aB<|aj<|wp_ret ?_
  obtain rfl:=Option.some.inj H
  exact bodyPost_ret (fO rfl (aV rfl) (aV rfl)) rfl<|⟨rfl,HS3.toE⟩
def nJ.f (k:Nat) (a0:bf) (a1:Int):Option (kC):=(dh.f k a0 a1).bind fun v1=>(if (v1 !=0)=true then (some (⟨0,v1⟩:kC)) else ((aZ.f k a0).bind fun v2=>(if 0≤a1∧a1<v2.length then (some (⟨(rd 0 v2 a1),0⟩:kC)) else none)))
theorem nJ.calls (k:Nat) (a0:bf) (a1:Int) (bQ:Option Addr) (bT:Nat) {h0:View} {w0:World} (hv:jf h0 w0) (fB:Rd eX h0 bQ a0.ay) (gI:a0.ay.length≤bT) {r:kC} (H:nJ.f k a0 a1=some r):Calls Tryz.prog 44 #[Value.agg #[vL bQ a0.ay.length bT],vI a1] w0 (fun e w1=>e= .returned (Value.agg #[vI r.vN,vI r.vE])∧Ext w0 w1):=by
 unfold nJ.f at H
 have HS:St [] h0 w0 h0 [] w0:=St.init hv
 go_enter Tryz.func44,Tryz.ntmps44
 refine wp_seq<|region<|dK rfl rfl (dH (cs:=#[vL bQ a0.ay.length bT]) rfl rfl) ?_
 rintro w1 _ hE1 ⟨b1,rfl,ge1,hb1⟩
 have HS1:=HS.new hE1 ge1 hb1
 refine dK rfl rfl (fA (cs:=#[vI 0,vI 0]) Tryz.zeroValue120 rfl) ?_
 rintro w2 _ hE2 ⟨b2,rfl,ge2,hb2⟩
 have HS2:=HS1.new hE2 ge2 hb2
 try simp only [sc0,sc1]
 refine aB<|aj<|wp_seq<|region<|rs (Value.agg #[vL bQ a0.ay.length bT]) (aY (n:=1) (vs:=[vL bQ a0.ay.length bT]) rfl Tryz.isAgg24 (HS2.look 1 rfl) Tryz.sizeOf24 rfl rfl)<|rs (vI a1) (aK rfl) ?_
 obtain ⟨v1,H1,H⟩:=bJ H
 refine run_eq (v:=vI v1) rfl rfl (bC Tryz.call82 rfl rfl (dh.calls k a0 a1 bQ bT HS2.sees fB gI H1)) ?_
 intro w3 hE3
 have HS3:=HS2.step hE3
 refine rs (vI v1) (aC rfl) ?_
 try simp only [sc0,sc1]
 refine aB<|aj<|wp_seq<|wp_seq<|region<|rs (vI v1) (aK rfl)<|rs (vB (v1 !=0)) (bK rfl rfl rfl) ?_
 try simp only [sc0,sc1]
 refine aB<|aj<|wp_cond_split (t:=(v1 !=0)) rfl (fun c1=>?_) (fun c1=>?_)
 ·replace H:=bU H c1
  refine wp_seq<|region<|rs (vI v1) (aK rfl)<|rs (Value.agg #[vI 0,vI v1]) (iF (cs:=[vI 0,vI v1]) (ps:=[(1,vI v1)]) Tryz.zeroValue120 Tryz.runUnderlying120 (pl:=#[(0,1),(1,1)]) (fun w=>by simp [Tryz.sizeOf3,Tryz.sizeOf34]) (jZ (show _=vI v1 from rfl)) rfl) ?_
  refine gq (i:=0) (cs:=[vI 0,vI 0]) (cs':=[vI 0,vI v1]) (vs:=[vI 0,vI v1]) (bs':=[(some b2, .cells #[vI 0,vI v1] 120 (0,0)),(some b1, .cells #[vL bQ a0.ay.length bT] 24 (0,0))]) rfl rfl Tryz.sizeOf120 rfl rfl (by decide) rfl HS3 rfl (Nat.le_of_ble_eq_true rfl) rfl rfl ?_
  intro w4 HS4
  try simp only [sc0,sc1]
  refine aB<|aj<|wp_ret<|aX ?_
  obtain rfl:=Option.some.inj H
  exact bodyPost_ret (aW rfl (iP rfl Tryz.isAgg120 (HS4.look 0 rfl) Tryz.sizeOf120 rfl)) rfl<|⟨rfl,HS4.toE⟩
 ·replace H:=bZ H (nt c1)
  refine wp_skip<|aj<|wp_seq<|region<|rs (Value.agg #[vL bQ a0.ay.length bT]) (aY (n:=1) (vs:=[vL bQ a0.ay.length bT]) rfl Tryz.isAgg24 (HS3.look 1 rfl) Tryz.sizeOf24 rfl rfl) ?_
  obtain ⟨v2,H2,H⟩:=bJ H
  refine dK rfl rfl (lT Tryz.call79 rfl (qB (h:=h0) (R:=(fun hx u=>∃(l9:Option Addr) (mg:Nat),u=vL l9 v2.length mg∧v2.length≤mg∧Rd (Kd.int .i64) hx l9 v2)) (Ext.rfl' w3) ((aZ.calls k a0 bQ bT HS3.sees fB gI H2).mono ?_)) rfl) ?_
  ·rintro _ _ ⟨h1,l9,mg,rfl,vJ,qQ,g,ss,x⟩
   exact ⟨h1,_,rfl,⟨l9,mg,rfl,vJ,qQ⟩,g,ss,x⟩
  rintro w5 _ hE4 ⟨h1,⟨l9,mg,rfl,vJ,qQ⟩,gr1,se1⟩
  have HS5:=HS3.view hE4 gr1 se1
  refine rs (vI a1) (aK rfl) ?_
  obtain ⟨hi1,H⟩:=fE H
  obtain ⟨ad1,e1,kX⟩:=oU qQ hi1.1 hi1.2
  refine rs (Value.pointer (some (Addr.add ad1 (a1.toNat*1)))) (dQ (sz:=1) rfl e1 rfl hi1.1 hi1.2 Tryz.runUnderlying81 Tryz.sizeOf3)<|aI (by simp only [sc0,sc1];rfl) ?_
  refine rs (vI (rd 0 v2 a1)) (jF rfl Tryz.isAgg3 (kX.cell0 HS5.sees rfl))<|rs (Value.agg #[vI (rd 0 v2 a1),vI 0]) (iF (cs:=[vI (rd 0 v2 a1),vI 0]) (ps:=[(0,vI (rd 0 v2 a1))]) Tryz.zeroValue120 Tryz.runUnderlying120 (pl:=#[(0,1),(1,1)]) (fun w=>by simp [Tryz.sizeOf3,Tryz.sizeOf34]) (jZ (show _=vI (rd 0 v2 a1) from rfl)) rfl) ?_
  refine gq (i:=0) (cs:=[vI 0,vI 0]) (cs':=[vI (rd 0 v2 a1),vI 0]) (vs:=[vI (rd 0 v2 a1),vI 0]) (bs':=[(some b2, .cells #[vI (rd 0 v2 a1),vI 0] 120 (0,0)),(some b1, .cells #[vL bQ a0.ay.length bT] 24 (0,0))]) rfl rfl Tryz.sizeOf120 rfl rfl (by decide) rfl HS5 rfl (Nat.le_of_ble_eq_true rfl) rfl rfl ?_
  intro w6 HS6
  try simp only [sc0,sc1]
  refine aB<|aj<|wp_ret ?_
  obtain rfl:=Option.some.inj H
  exact bodyPost_ret (aW rfl (iP rfl Tryz.isAgg120 (HS6.look 0 rfl) Tryz.sizeOf120 rfl)) rfl<|⟨rfl,HS6.toE⟩
end Go.Proofs.YtecpbadkdpbkpaaGreatDoor
namespace Go.Proofs.YtecpbadkdpbkpaaGreatDoor
open Go.RowKit Go.M
theorem BJ {l:List bV} {p:bV→Option Bool} {q:bV→Bool} (hp:∀z∈l,p z=some (q z)) (hl:l.length≤9223372036854775807):
    ∀(d j m:Nat),j+d=l.length→d<m→bG.l0 l p m (j:Int)=some (if ((l.drop j).any q)=true then .inl (((j+(l.drop j).findIdx q:Nat)):Int) else .inr ()):=by
  intro d
  induction d with
  | zero =>
    intro j m hj hm
    obtain ⟨m,rfl⟩:∃q,m=q+1:=⟨m-1,by omega⟩
    rw [bG.l0,if_neg (by simp;omega)]
    have:l.drop j=[]:=List.drop_eq_nil_of_le (by omega)
    rw [this]
    rfl
  | succ d ih =>
    intro j m hj hm
    obtain ⟨m,rfl⟩:∃q,m=q+1:=⟨m-1,by omega⟩
    have hlt:j<l.length:=by omega
    rw [bG.l0,if_pos (by simp;omega),if_pos (by omega),gG,hp _ (getD_mem hlt)]
    have hd:l.drop j=l.getD j ah::l.drop (j+1):=by
      rw [List.drop_eq_getElem_cons hlt,List.getD_eq_getElem?_getD,List.getElem?_eq_getElem hlt];rfl
    simp only [Option.bind_some]
    cases hb:q (l.getD j ah) with
    | true =>
      rw [if_pos rfl,hd]
      simp only [List.any_cons,hb,Bool.true_or,if_true,List.findIdx_cons,cond_true,Nat.add_zero]
    | false =>
      rw [if_neg (by simp),fP hlt hl,ih (j+1) m (by omega) (by omega),hd]
      simp only [List.any_cons,hb,Bool.false_or,List.findIdx_cons,cond_false]
      split
      · congr 2;omega
      · rfl
theorem um {l:List bV} {p:Nat→bV→Option Bool} {q:bV→Bool} (hp:∀z∈l,Ev (fun k=>p k z) (q z)) (hl:l.length≤9223372036854775807):
  Ev (fun k=>cO.f k l (p k)) (l.any q):=by
 obtain ⟨K,hK⟩:=Ev.all (f:=fun z k=>p k z) l hp
 refine ⟨max K (l.length+1),fun k hk=>?_⟩
 unfold cO.f bG.f
 have:=BJ (l:=l) (p:=p k) (q:=q) (fun z hz=>hK k (by omega) z hz) hl l.length 0 k (by omega) (by omega)
 rw [show ((0:Nat):Int)=0 from rfl] at this
 simp only []
 rw [this,List.drop_zero]
 cases h:l.any q with
 |true=>simp
 |false=>simp
theorem je {α:Type} {l:List α} {j:Nat} (z:α) (h:j<l.length):l.drop j=l.getD j z::l.drop (j+1):=by
 rw [List.drop_eq_getElem_cons h,List.getD_eq_getElem?_getD,List.getElem?_eq_getElem h];rfl
def Iz (i:Nat) (c:Int):Bool:=((decide (c≥97)&&decide (c≤122))||(decide (c≥65)&&decide (c≤90))||(c==95))||(!(i==0)&&decide (c≥48)&&decide (c≤57))
def xJ:Nat→List Int→Bool
 |_,[]=>true
 |i,c::r=>Iz i c&&xJ (i+1) r
def qY (s:ByteArray):Bool:=xJ 0 (bytesOf s)&& !(strEq s ByteArray.empty)&&decide ((s.size:Int)≤31)
theorem zF {s:ByteArray} (hl:(bytesOf s).length≤9223372036854775807):∀(d j m:Nat),j+d=(bytesOf s).length→d<m→
    gV.l0 s m (j:Int)=some (if xJ j ((bytesOf s).drop j)=true then .inr () else .inl false):=by
  intro d
  induction d with
  | zero =>
    intro j m hj hm
    obtain ⟨m,rfl⟩:∃q,m=q+1:=⟨m-1,by omega⟩
    rw [gV.l0,if_neg (by simp;omega),List.drop_eq_nil_of_le (by omega)]
    rfl
  | succ d ih =>
    intro j m hj hm
    obtain ⟨m,rfl⟩:∃q,m=q+1:=⟨m-1,by omega⟩
    have hlt:j<(bytesOf s).length:=by omega
    rw [gV.l0,if_pos (by simp;omega),if_pos (by omega),gG,je 0 hlt,fP hlt hl,ih (j+1) m (by omega) (by omega)]
    have hb:∀c:Int,((!((((decide (c≥97))&&(decide (c≤122)))||((decide (c≥65))&&(decide (c≤90))))||(c==95)))&&(((((j:Nat):Int)==0)||(decide (c<48)))||(decide (c>57))))= !(Iz j c):=by
      intro c
      unfold Iz
      have h1:(((j:Nat):Int)==0)=(j==0):=by cases j<;>simp;omega
      have h2:decide (c<48)= !(decide (c≥48)):=by by_cases h:c<48<;>simp [h]<;>omega
      have h3:decide (c>57)= !(decide (c≤57)):=by by_cases h:c>57<;>simp [h]<;>omega
      rw [h1,h2,h3]
      cases decide (c≥97)<;>cases decide (c≤122)<;>cases decide (c≥65)<;>cases decide (c≤90)<;>cases (c==95)<;>cases (j==0)<;>cases decide (c≥48)<;>cases decide (c≤57)<;>rfl
    rw [hb]
    by_cases h9:Iz j ((bytesOf s).getD j 0)=true
    · simp only [xJ,h9,Bool.not_true,Bool.false_eq_true,if_false,Bool.true_and]
    · rw [Bool.not_eq_true] at h9
      simp only [xJ,h9,Bool.not_false,if_true,Bool.false_and,Bool.false_eq_true,if_false]
theorem NY {s:ByteArray} (hs:s.size≤9223372036854775807):Ev (fun k=>gV.f k s) (qY s):=by
 have hl:=bytesOf_length s
 refine ⟨s.size+1,fun k hk=>?_⟩
 show gV.f k s=_
 unfold gV.f
 rw [if_pos hs,show (0:Int)=((0:Nat):Int) from rfl,zF (by omega) (bytesOf s).length 0 k (by omega) (by omega),List.drop_zero]
 unfold qY
 cases xJ 0 (bytesOf s)<;>simp
def cont (d:bV):List Int:=if d.aF==3||d.aF==6 then [d.dY] else if d.aF==4 then d.au.map (·.vType) else []
theorem Aa {d:bV} (hl:d.au.length≤4294967295):∀(e j m:Nat),j+e=d.au.length→e<m→
    fQ.l0 d m (j:Int) ((d.au.take j).map (·.vType))=some (d.au.map (·.vType)):=by
  intro e
  induction e with
  | zero =>
    intro j m hj hm
    obtain ⟨m,rfl⟩:∃q,m=q+1:=⟨m-1,by omega⟩
    rw [fQ.l0,if_neg (by simp;omega),List.take_of_length_le (by omega)]
  | succ e ih =>
    intro j m hj hm
    obtain ⟨m,rfl⟩:∃q,m=q+1:=⟨m-1,by omega⟩
    have hlt:j<d.au.length:=by omega
    rw [fQ.l0,if_pos (by simp;omega),if_pos (by omega),if_pos (by simp;omega),gG,fP hlt (by omega)]
    have:(d.au.take j).map (·.vType)++[(d.au.getD j ak).vType]=(d.au.take (j+1)).map (·.vType):=by
      rw [List.take_add_one,List.map_append,List.getD_eq_getElem?_getD,List.getElem?_eq_getElem hlt];rfl
    rw [this]
    exact ih (j+1) m (by omega) (by omega)
theorem xK {d:bV} (hl:d.au.length≤4294967295):Ev (fun k=>fQ.f k d) (cont d):=by
 refine ⟨d.au.length+1,fun k hk=>?_⟩
 show fQ.f k d=_
 unfold fQ.f cont
 have:=Aa hl d.au.length 0 k (by omega) (by omega)
 simp only [List.take_zero,List.map_nil] at this
 rw [show ((0:Nat):Int)=0 from rfl] at this
 rw [this]
 by_cases h3:d.aF=3
 ·simp [h3]
 ·by_cases h6:d.aF=6
  ·simp [h6]
  ·by_cases h4:d.aF=4
   ·simp [h4]
   ·simp [h3,h6,h4]
def shp (k:Int):Option fC:=
 if k=1 then some ⟨true,true,false,false,false⟩ else if k=2 then some ⟨false,false,true,false,false⟩ else if k=3 then some ⟨false,false,true,true,false⟩
 else if k=4 then some ⟨true,false,false,true,true⟩ else if k=5 then some ⟨true,false,false,false,true⟩ else if k=6 then some ⟨true,false,true,false,false⟩ else none
theorem Gt (k:Int):∃m,oD.f=some m∧bM ieq m k=shp k:=by
 refine ⟨_,rfl,?_⟩
 simp only [fJ,ieq,Int.reduceBEq,Bool.false_eq_true,if_false,bM,beq_iff_eq,shp]
def tN (m:List (ByteArray×Bool)) (ns:List ByteArray):Prop:=∀s,(bM strEq m s).getD false=ns.any (strEq s)
theorem tN.nil:tN [] []:=fun s=>rfl
theorem wZ (a b:ByteArray):strEq a b=strEq b a:=by
  cases h:strEq a b with
  |true=>rw [kZ] at h;subst h;exact (kZ.2 rfl).symm
  | false =>
    cases h2:strEq b a with
    |false=>rfl
    |true=>rw [kZ] at h2;subst h2;rw [kZ.2 rfl] at h;cases h
theorem Jy (m : List (ByteArray × Bool)) (k s : ByteArray) (v : Bool) : bM strEq (fJ strEq m k v) s = if strEq s k = true then some v else bM strEq m s := by
  induction m with
  |nil=>simp [fJ,bM]
  | cons p m ih =>
    simp only [fJ]
    by_cases hk:strEq k p.1=true
    · rw [if_pos hk]
      have:=kZ.1 hk
      simp only [bM]
      by_cases hs:strEq s k=true
      · rw [if_pos hs,if_pos hs]
      · rw [if_neg hs,if_neg hs,if_neg (by rw [←this];exact hs)]
    · rw [if_neg hk]
      simp only [bM]
      by_cases hs:strEq s p.1=true
      · rw [if_pos hs]
        have h1:=kZ.1 hs
        subst h1
        rw [if_neg (by rw [wZ];exact hk),if_pos (kZ.2 rfl)]
      · rw [if_neg hs,ih]
        by_cases hsk:strEq s k=true
        · rw [if_pos hsk,if_pos hsk]
        · rw [if_neg hsk,if_neg hsk,if_neg hs]
theorem tN.put {m:List (ByteArray×Bool)} {ns:List ByteArray} (h:tN m ns) (k:ByteArray):tN (fJ strEq m k true) (k::ns):=fun s=>by
 rw [Jy,List.any_cons]
 by_cases hs:strEq s k=true
 ·rw [if_pos hs,hs];rfl
 ·rw [if_neg hs,h s]
  have:strEq s k=false:=by simpa using hs
  rw [this];rfl
def lD (d:bV) (n:Int) (f:dP):Bool:=
 !(((d.aF==5)&&(((f.vType !=0)||decide (f.vAt<(-2147483648)))||decide (f.vAt>2147483647)))||((d.aF==4)&&(decide (f.vType<0)||decide (f.vType≥n))))
def qR (d:bV) (n:Int):List ByteArray→List dP→Bool
 |_,[]=>true
 |ns,f::r=>qY f.aU&& !(ns.any (strEq f.aU))&&lD d n f&&qR d n (f.aU::ns) r
theorem Gu {d : bV} {n : Int} (hl : d.au.length ≤ 9223372036854775807) (hz : ∀ f ∈ d.au, f.aU.size ≤ 9223372036854775807) : ∀ (e j : Nat) (m : List (ByteArray × Bool)) (ns : List ByteArray), j + e = d.au.length → tN m ns →
    ∃v,Ev2 (fun k q=>gB.l0 k d n q (j:Int) m) v∧(match v with| .inl b=>b=false∧qR d n ns (d.au.drop j)=false| .inr _=>qR d n ns (d.au.drop j)=true):=by
  intro e
  induction e with
  | zero =>
    intro j m ns hj hm
    refine ⟨.inr m,Ev2.pure (fun k q=>?_),?_⟩
    · rw [gB.l0,if_neg (by simp;omega)]
    · rw [List.drop_eq_nil_of_le (by omega)];rfl
  | succ e ih =>
    intro j m ns hj hm
    have hlt:j<d.au.length:=by omega
    have hmem:=getD_mem (z:=ak) hlt
    obtain ⟨v,hv,hp⟩:=ih (j+1) (fJ strEq m (d.au.getD j ak).aU true) ((d.au.getD j ak).aU::ns) (by omega) (hm.put _)
    have hn:=NY (hz _ hmem)
    rw [je ak hlt]
    have hstep:∀k q,gB.l0 k d n (q+1) (j:Int) m=(gV.f k (d.au.getD j ak).aU).bind fun v4=>if ((!v4)||ns.any (strEq (d.au.getD j ak).aU))=true then some (.inl false) else
        if lD d n (d.au.getD j ak)=false then some (.inl false) else gB.l0 k d n q ((j+1:Nat):Int) (fJ strEq m (d.au.getD j ak).aU true):=by
      intro k q
      rw [gB.l0,if_pos (by simp;omega),if_pos (by omega),gG,fP hlt hl,hm]
      unfold lD
      simp only [Bool.not_eq_false']
    simp only [qR]
    generalize hf:d.au.getD j ak=f at*
    cases h1:qY f.aU with
    | false => exact ⟨.inl false, Ev2.step hn (r := fun k q b => if ((!b) || ns.any (strEq f.aU)) = true then some (.inl false) else
        if lD d n f = false then some (.inl false) else gB.l0 k d n q ((j + 1 : Nat) : Int) (fJ strEq m f.aU true)) ⟨0, fun _ _ _ _ => by simp [h1]⟩ hstep, rfl, by simp⟩
    | true =>
      cases h2:ns.any (strEq f.aU) with
      | true => exact ⟨.inl false, Ev2.step hn (r := fun k q b => if ((!b) || ns.any (strEq f.aU)) = true then some (.inl false) else
        if lD d n f = false then some (.inl false) else gB.l0 k d n q ((j + 1 : Nat) : Int) (fJ strEq m f.aU true)) ⟨0, fun _ _ _ _ => by simp [h2]⟩ hstep, rfl, by simp⟩
      | false =>
        cases h3:lD d n f with
        | false => exact ⟨.inl false, Ev2.step hn (r := fun k q b => if ((!b) || ns.any (strEq f.aU)) = true then some (.inl false) else
        if lD d n f = false then some (.inl false) else gB.l0 k d n q ((j + 1 : Nat) : Int) (fJ strEq m f.aU true)) ⟨0, fun _ _ _ _ => by simp [h1, h2, h3]⟩ hstep, rfl, by simp⟩
        | true =>
          refine ⟨v, Ev2.step hn (r := fun k q b => if ((!b) || ns.any (strEq f.aU)) = true then some (.inl false) else
            if lD d n f = false then some (.inl false) else gB.l0 k d n q ((j + 1 : Nat) : Int) (fJ strEq m f.aU true)) ?_ hstep, ?_⟩
          · obtain ⟨K,hK⟩:=hv
            exact ⟨K,fun k q hk hq=>by simp only [h1,h2,h3];simpa using hK k q hk hq⟩
          · cases v with
            |inl b=>simpa using hp
            |inr b=>simpa using hp
def oM (d:bV) (n:Int):Bool:=
 match shp d.aF with
 |none=>false
 |some s=>(if s.jX=true then qY d.aU else strEq d.aU ByteArray.empty)&&(if s.ql=true then okI d.bW else ((d.bW.aS==0)&&(d.bW.aO==false)))&&
   (if s.o9=true then (decide (0≤d.dY)&&decide (d.dY<n)) else (d.dY==0))&&(if s.vn=true then (decide (1≤d.vN)&&decide (d.vN≤512)) else (d.vN==0))&&
   (s.jw==decide (0<d.au.length))&&decide (d.au.length≤32)&&qR d n [] d.au
theorem NZ {d : bV} {n : Int} (hl : d.au.length ≤ 9223372036854775807) (hz : ∀ f ∈ d.au, f.aU.size ≤ 9223372036854775807) (hz0 : d.aU.size ≤ 9223372036854775807) :
    Ev (fun k=>gB.f k d n) (oM d n):=by
  obtain ⟨m,hm,hf⟩:=Gt d.aF
  obtain ⟨Kn,hKn⟩:=NY hz0
  obtain ⟨v,hv,hp⟩:=Gu (n:=n) hl hz d.au.length 0 [] [] (by omega) tN.nil
  obtain ⟨Kl,hKl⟩:=hv.diag
  refine ⟨max Kn Kl,fun k hk=>?_⟩
  show gB.f k d n=_
  have h1:=hKn k (by omega)
  have h2:gB.l0 k d n k 0 []=some v:=hKl k (by omega)
  rw [List.drop_zero] at hp
  clear hKl hv
  rcases v with b|b
  · obtain ⟨rfl,hp⟩:=hp
    have h1:gV.f k d.aU=some (qY d.aU):=h1
    unfold gB.f
    simp only [hm,Option.bind_some,hf,h1,h2,kL.f]
    unfold oM
    cases hs:shp d.aF with
    |none=>simp
    | some s =>
      simp only [Option.isSome_some,Option.getD_some]
      obtain ⟨b1,b2,b3,b4,b5⟩:=s
      have e1:decide (d.dY<0)= !(decide (0≤d.dY)):=by by_cases h:d.dY<0<;>simp [h]<;>omega
      have e2:decide (d.dY≥n)= !(decide (d.dY<n)):=by by_cases h:d.dY<n<;>simp [h]<;>omega
      have e3:decide (d.vN<1)= !(decide (1≤d.vN)):=by by_cases h:d.vN<1<;>simp [h]<;>omega
      have e4:decide (d.vN>512)= !(decide (d.vN≤512)):=by by_cases h:d.vN>512<;>simp [h]<;>omega
      have e5:decide ((d.au.length:Int)>0)=decide (0<d.au.length):=by by_cases h:0<d.au.length<;>simp [h]
      have e6:decide ((d.au.length:Int)>32)= !(decide (d.au.length≤32)):=by by_cases h:d.au.length≤32<;>simp [h]<;>omega
      have e7:(d.dY !=0)= !(d.dY==0):=rfl
      have e8:(d.vN !=0)= !(d.vN==0):=rfl
      have e9:∀x:Bool,((if x=true then 0 else 10:Int) !=0)= !x:=fun x=>by cases x<;>rfl
      simp only [e1,e2,e3,e4,e5,e6,e7,e8]
      rw [hp]
      generalize qY d.aU=c1
      generalize strEq d.aU ByteArray.empty=c2
      generalize okI d.bW=c3
      generalize (d.bW.aS==0)=c4
      generalize (d.bW.aO==false)=c5
      generalize decide (0≤d.dY)=c6
      generalize decide (d.dY<n)=c7
      generalize (d.dY==0)=c8
      generalize decide (1≤d.vN)=c9
      generalize decide (d.vN≤512)=c10
      generalize (d.vN==0)=c11
      generalize decide (0<d.au.length)=c12
      generalize decide (d.au.length≤32)=c13
      have f1:∀(b c1 c2:Bool) (K:Option Bool),((if (!true)=true then some (!true) else ((if (true&&(b==true))=true then some c1 else some false).bind fun v2=>if (b&& !v2)=true then some (b&& !v2) else some (!b&& !c2)):Option Bool).bind fun xx1=>if xx1=true then some false else K)=if (if b=true then c1 else c2)=true then K else some false:=by
        intro b c1 c2 K;cases b<;>cases c1<;>cases c2<;>rfl
      have f2:∀(b:Bool) (x:Int) (hx:(x !=0)= !c3) (K:Option Bool),((if (true&&(b==true))=true then some x else some 0).bind fun v3=>(((if (b&&(v3 !=0))=true then some (b&&(v3 !=0)) else some (!b&& !(c4&&(c5&&true)))):Option Bool).bind fun xx2=>if xx2=true then some false else K))=if (if b=true then c3 else (c4&&c5))=true then K else some false:=by
        intro b x hx K;cases b
        · cases c4<;>cases c5<;>rfl
        · simp only [Bool.true_and,beq_self_eq_true,if_true,Option.bind_some,hx]
          cases c3<;>rfl
      have f3:∀(b x y z:Bool) (K:Option Bool),(((if (b&&(!x|| !y))=true then some (b&&(!x|| !y)) else some (!b&& !z)):Option Bool).bind fun xx=>if xx=true then some false else K)=if (if b=true then (x&&y) else z)=true then K else some false:=by
        intro b x y z K;cases b<;>cases x<;>cases y<;>cases z<;>rfl
      have f5:∀(b x y:Bool) (K:Option Bool),(((if (b !=x)=true then some (b !=x) else some (!y)):Option Bool).bind fun xx=>if xx=true then some false else K)=if (b==x&&y)=true then K else some false:=by
        intro b x y K;cases b<;>cases x<;>cases y<;>rfl
      rw [f1,f2 _ _ (e9 c3),f3,f3,f5]
      generalize (if b1=true then c1 else c2)=t1
      generalize (if b2=true then c3 else (c4&&c5))=t2
      generalize (if b3=true then (c6&&c7) else c8)=t3
      generalize (if b4=true then (c9&&c10) else c11)=t4
      generalize (b5==c12)=t5
      cases t1<;>cases t2<;>cases t3<;>cases t4<;>cases t5<;>cases c13<;>rfl
  · simp only at hp
    have h1:gV.f k d.aU=some (qY d.aU):=h1
    unfold gB.f
    simp only [hm,Option.bind_some,hf,h1,h2,kL.f]
    unfold oM
    cases hs:shp d.aF with
    |none=>simp
    | some s =>
      simp only [Option.isSome_some,Option.getD_some]
      obtain ⟨b1,b2,b3,b4,b5⟩:=s
      have e1:decide (d.dY<0)= !(decide (0≤d.dY)):=by by_cases h:d.dY<0<;>simp [h]<;>omega
      have e2:decide (d.dY≥n)= !(decide (d.dY<n)):=by by_cases h:d.dY<n<;>simp [h]<;>omega
      have e3:decide (d.vN<1)= !(decide (1≤d.vN)):=by by_cases h:d.vN<1<;>simp [h]<;>omega
      have e4:decide (d.vN>512)= !(decide (d.vN≤512)):=by by_cases h:d.vN>512<;>simp [h]<;>omega
      have e5:decide ((d.au.length:Int)>0)=decide (0<d.au.length):=by by_cases h:0<d.au.length<;>simp [h]
      have e6:decide ((d.au.length:Int)>32)= !(decide (d.au.length≤32)):=by by_cases h:d.au.length≤32<;>simp [h]<;>omega
      have e7:(d.dY !=0)= !(d.dY==0):=rfl
      have e8:(d.vN !=0)= !(d.vN==0):=rfl
      have e9:∀x:Bool,((if x=true then 0 else 10:Int) !=0)= !x:=fun x=>by cases x<;>rfl
      simp only [e1,e2,e3,e4,e5,e6,e7,e8]
      rw [hp]
      generalize qY d.aU=c1
      generalize strEq d.aU ByteArray.empty=c2
      generalize okI d.bW=c3
      generalize (d.bW.aS==0)=c4
      generalize (d.bW.aO==false)=c5
      generalize decide (0≤d.dY)=c6
      generalize decide (d.dY<n)=c7
      generalize (d.dY==0)=c8
      generalize decide (1≤d.vN)=c9
      generalize decide (d.vN≤512)=c10
      generalize (d.vN==0)=c11
      generalize decide (0<d.au.length)=c12
      generalize decide (d.au.length≤32)=c13
      have f1:∀(b c1 c2:Bool) (K:Option Bool),((if (!true)=true then some (!true) else ((if (true&&(b==true))=true then some c1 else some false).bind fun v2=>if (b&& !v2)=true then some (b&& !v2) else some (!b&& !c2)):Option Bool).bind fun xx1=>if xx1=true then some false else K)=if (if b=true then c1 else c2)=true then K else some false:=by
        intro b c1 c2 K;cases b<;>cases c1<;>cases c2<;>rfl
      have f2:∀(b:Bool) (x:Int) (hx:(x !=0)= !c3) (K:Option Bool),((if (true&&(b==true))=true then some x else some 0).bind fun v3=>(((if (b&&(v3 !=0))=true then some (b&&(v3 !=0)) else some (!b&& !(c4&&(c5&&true)))):Option Bool).bind fun xx2=>if xx2=true then some false else K))=if (if b=true then c3 else (c4&&c5))=true then K else some false:=by
        intro b x hx K;cases b
        · cases c4<;>cases c5<;>rfl
        · simp only [Bool.true_and,beq_self_eq_true,if_true,Option.bind_some,hx]
          cases c3<;>rfl
      have f3:∀(b x y z:Bool) (K:Option Bool),(((if (b&&(!x|| !y))=true then some (b&&(!x|| !y)) else some (!b&& !z)):Option Bool).bind fun xx=>if xx=true then some false else K)=if (if b=true then (x&&y) else z)=true then K else some false:=by
        intro b x y z K;cases b<;>cases x<;>cases y<;>cases z<;>rfl
      have f5:∀(b x y:Bool) (K:Option Bool),(((if (b !=x)=true then some (b !=x) else some (!y)):Option Bool).bind fun xx=>if xx=true then some false else K)=if (b==x&&y)=true then K else some false:=by
        intro b x y K;cases b<;>cases x<;>cases y<;>rfl
      rw [f1,f2 _ _ (e9 c3),f3,f3,f5]
      generalize (if b1=true then c1 else c2)=t1
      generalize (if b2=true then c3 else (c4&&c5))=t2
      generalize (if b3=true then (c6&&c7) else c8)=t3
      generalize (if b4=true then (c9&&c10) else c11)=t4
      generalize (b5==c12)=t5
      cases t1<;>cases t2<;>cases t3<;>cases t4<;>cases t5<;>cases c13<;>rfl
end Go.Proofs.YtecpbadkdpbkpaaGreatDoor
