/- Parts of a proof, merged by program: F19 F34 F72 F36 F42 F135 F136 F137 F138 F139 F140 F141 F142 F57 F21 F86 F43 F13 F55 F20 F78 F123 F124 F125 F126 F77 F127 F79 F80 F81 F38 F82. The walks (each function once) and the plain laws; no condition of their own. -/
import Derived.Test.YtecpbadkdpbkpaaGreatDoorLay4
set_option linter.unusedVariables false
set_option linter.unusedSimpArgs false
namespace Go.Proofs.YtecpbadkdpbkpaaGreatDoor
open Go.RowKit Go.M
def gq.l0 (k:Nat) (a0:aU) (a2:List ByteArray):Nat→Int→Int→Int→Option ((Int×Int×Int)⊕(Int×Int))
 |0,_,_,_=>none
 |m+1,aG,dB,jl=>if (decide (jl<(a2.length:Int)))=true then (if 0≤jl∧jl<a2.length then ((fD.f k a0 aG (rd ByteArray.empty a2 jl)).bind fun v2=>(if (v2.2 !=0)=true then (some (.inl (0,0,v2.2))) else (gq.l0 k a0 a2 m v2.1.vType (IntKind.wrap .i64 (dB+v2.1.vAt)) (IntKind.wrap .i64 (jl+1))))) else none) else (some (.inr (aG,dB)))
def gq.f (k:Nat) (a0:aU) (a1:Int) (a2:List ByteArray):Option (Int×Int×Int):=(fQ.f k a0 a1).bind fun v1=>(if (v1 !=0)=true then (some (0,0,v1)) else (if (decide ((a2.length:Int)>16))=true then (some (0,0,2)) else ((gq.l0 k a0 a2 k a1 0 0).bind fun xx1=>(match xx1 with| .inl r=>some r| .inr s1=>some (s1.1,s1.2,0)))))
set_option maxRecDepth 20000 in
set_option maxHeartbeats 4000000 in
theorem gq.calls (k:Nat) (a0:aU) (a1:Int) (a2:List ByteArray) (bU:Option Addr) (bV:Nat) (sV:Option Addr) (sW:Nat) {h0:View} {w0:World} (hv:jL h0 w0) (fK:Rd dV h0 bU a0.ay) (iw:a0.ay.length≤bV) (zG:Rd Kd.str h0 sV a2) (JA:a2.length≤sW) {r:Int×Int×Int} (H:gq.f k a0 a1 a2=some r):Calls Tryz.prog 19 #[Value.agg #[vL bU a0.ay.length bV],vI a1,vL sV a2.length sW] w0 (fun e w1=>e= .returned (Value.tuple #[vI r.1,vI r.2.1,vI r.2.2])∧Ext w0 w1):=by
 unfold gq.f at H
 have HS:St [] h0 w0 h0 [] w0:=St.init hv
 go_enter Tryz.func19,Tryz.ntmps19
 refine wp_seq<|region<|dU rfl rfl (dY (cs:=#[vL bU a0.ay.length bV]) rfl rfl) ?_
 rintro w1 _ hE1 ⟨b1,rfl,ge1,hb1⟩
 have HS1:=HS.new hE1 ge1 hb1
 refine rs (vI 0) (aB rfl)<|rs (vI 0) (aB rfl)<|rs (vI 0) (aB rfl) ?_
 try simp only [sc0,sc1]
 refine aA<|ak<|wp_seq<|wp_seq<|region<|rs (Value.agg #[vL bU a0.ay.length bV]) (aZ (n:=1) (vs:=[vL bU a0.ay.length bV]) rfl Tryz.isAgg24 (HS1.look 0 rfl) Tryz.sizeOf24 rfl rfl)<|rs (vI a1) (aJ rfl) ?_
 obtain ⟨v1,H1,H⟩:=bJ H
 refine run_eq (v:=vI v1) rfl rfl (bf Tryz.call53 rfl rfl (fQ.calls k a0 a1 bU bV HS1.sees fK iw H1)) ?_
 intro w2 hE2
 have HS2:=HS1.step hE2
 refine rs (vI v1) (aB rfl) ?_
 try simp only [sc0,sc1]
 refine aA<|ak<|wp_seq<|region<|rs (vI v1) (aJ rfl)<|rs (vB (v1 !=0)) (bK rfl rfl rfl) ?_
 try simp only [sc0,sc1]
 refine aA<|ak<|wp_cond_split (t:=(v1 !=0)) rfl (fun c1=>?_) (fun c1=>?_)
 ·replace H:=bM H c1
  refine wp_seq<|region<|rs (vI v1) (aJ rfl)<|rs (vI 0) (aB rfl)<|rs (vI 0) (aB rfl)<|rs (vI v1) (aB rfl) ?_
  try simp only [sc0,sc1]
  refine aA<|ak<|wp_ret<|aW ?_
  obtain rfl:=Option.some.inj H
  exact bodyPost_ret (uS rfl (aX rfl) (aX rfl) (aX rfl)) rfl<|⟨rfl,HS2.toE⟩
 ·replace H:=bW H (nt c1)
  refine wp_skip<|ak<|wp_seq<|wp_seq<|region<|rs (vL sV a2.length sW) (aJ rfl)<|rs (vI (a2.length:Int)) (jJ rfl Tryz.runUnderlying30)<|rs (vB (decide ((a2.length:Int)>16))) (bK rfl rfl rfl) ?_
  try simp only [sc0,sc1]
  refine aA<|ak<|wp_cond_split (t:=(decide ((a2.length:Int)>16))) rfl (fun c2=>?_) (fun c2=>?_)
  ·replace H:=bM H c2
   refine wp_seq<|region<|rs (vI 0) (aB rfl)<|rs (vI 0) (aB rfl)<|rs (vI 2) (aB rfl) ?_
   try simp only [sc0,sc1]
   refine aA<|ak<|wp_ret<|aW ?_
   obtain rfl:=Option.some.inj H
   exact bodyPost_ret (uS rfl (aX rfl) (aX rfl) (aX rfl)) rfl<|⟨rfl,HS2.toE⟩
  ·replace H:=bW H (nt c2)
   refine wp_skip<|ak<|wp_seq<|region<|rs (vI 0) (aB rfl) ?_
   try simp only [sc0,sc1]
   refine aA<|ak<|wp_seq<|wp_seq<|region<|rs (vL sV a2.length sW) (aJ rfl)<|rs (vI (a2.length:Int)) (jJ rfl Tryz.runUnderlying30)<|rs (vI 0) (aJ rfl) ?_
   try simp only [sc0,sc1]
   refine aA<|ak ?_
   obtain ⟨xx1,H,G1⟩:=bJ H
   refine jm [1,6,7,8,10,12,13,14,26,27,28,29,30,31,32,33,34,35,36,37,38,39,40,41,42,43,44,45,46] (fun m us w'=>∃aG dB jl:Int,Fit us (fun uy1=>[vI aG,(uy1 1),(uy1 2),(uy1 3),vI dB,(uy1 5),(uy1 6),(uy1 7),vI jl,(uy1 9),(uy1 10),(uy1 11),(uy1 12),(uy1 13),(uy1 14),(uy1 15),(uy1 16),(uy1 17),(uy1 18),(uy1 19),(uy1 20),(uy1 21),(uy1 22),(uy1 23),(uy1 24),(uy1 25),(uy1 26),(uy1 27),(uy1 28)])∧gq.l0 k a0 a2 m aG dB jl=some xx1∧St [] h0 w0 h0 [(some b1, .cells #[vL bU a0.ay.length bV] 24 (0,0))] w') (fun us w'=>∃(s1:Int×Int),xx1= .inr s1∧Fit us (fun uo1=>[vI s1.1,(uo1 1),(uo1 2),(uo1 3),vI s1.2,(uo1 5),(uo1 6),(uo1 7),(uo1 8),(uo1 9),(uo1 10),(uo1 11),(uo1 12),(uo1 13),(uo1 14),(uo1 15),(uo1 16),(uo1 17),(uo1 18),(uo1 19),(uo1 20),(uo1 21),(uo1 22),(uo1 23),(uo1 24),(uo1 25),(uo1 26),(uo1 27),(uo1 28)])∧St [] h0 w0 h0 [(some b1, .cells #[vL bU a0.ay.length bV] 24 (0,0))] w') k ⟨a1,0,0,(fit rfl),H,HS2⟩ ?_ ?_
   ·rintro m us w3 ⟨aG,dB,jl,ng,H,HS3⟩
    obtain ⟨uy1,rfl⟩:=unj ng
    cases m with
    |zero=>exact absurd H (by simp [gq.l0])
    |succ m=>
     rw [gq.l0] at H
     try simp only [patch,sc0,sc1]
     refine wp_seq<|region<|rs (vB (decide (jl<(a2.length:Int)))) (bK rfl rfl rfl) ?_
     try simp only [sc0,sc1]
     refine aA<|ak<|wp_seq<|wp_cond_split (t:=(decide (jl<(a2.length:Int)))) rfl (fun c3=>?_) (fun c3=>?_)
     ·replace H:=bM H c3
      refine wp_skip<|ak<|wp_seq<|wp_block<|wp_seq<|region ?_
      obtain ⟨hi1,H⟩:=eG H
      obtain ⟨ad1,e1,lu⟩:=Qz zG hi1.1 hi1.2
      refine rs (Value.pointer (some (Addr.add ad1 (jl.toNat*1)))) (dP (sz:=1) rfl e1 rfl hi1.1 hi1.2 Tryz.runUnderlying30 Tryz.sizeOf9)<|rs (vS (rd ByteArray.empty a2 jl)) (jC rfl Tryz.isAgg9 (lu.cell0 HS3.sees rfl))<|rs (vS (rd ByteArray.empty a2 jl)) (aB rfl) ?_
      try simp only [sc0,sc1]
      refine aA<|ak<|wp_seq<|region<|rs (Value.agg #[vL bU a0.ay.length bV]) (aZ (n:=1) (vs:=[vL bU a0.ay.length bV]) rfl Tryz.isAgg24 (HS3.look 0 rfl) Tryz.sizeOf24 rfl rfl)<|rs (vI aG) (aJ rfl)<|rs (vS (rd ByteArray.empty a2 jl)) (aJ rfl) ?_
      obtain ⟨v2,H2,H⟩:=bJ H
      refine run_eq (v:=Value.tuple #[Value.agg #[vS v2.1.aQ,vI v2.1.vType,vI v2.1.vAt],vI v2.2]) rfl rfl (bf Tryz.call54 rfl rfl (fD.calls k a0 aG (rd ByteArray.empty a2 jl) bU bV HS3.sees fK iw H2)) ?_
      intro w4 hE3
      have HS4:=HS3.step hE3
      refine aI (by simp only [sc0,sc1];rfl) ?_
      refine rs (Value.tuple #[Value.agg #[vS v2.1.aQ,vI v2.1.vType,vI v2.1.vAt],vI v2.2]) (aJ rfl)<|rs (Value.agg #[vS v2.1.aQ,vI v2.1.vType,vI v2.1.vAt]) (fF rfl rfl)<|rs (vI v2.2) (fF rfl rfl)<|dU rfl rfl (fA (cs:=#[vS ByteArray.empty,vI 0,vI 0]) Tryz.zeroValue129 rfl) ?_
      rintro w5 _ hE4 ⟨b2,rfl,ge2,hb2⟩
      have HS5:=HS4.new hE4 ge2 hb2
      refine aI (by simp only [sc0,sc1];rfl) ?_
      refine fV (i:=0) (cs:=[vS ByteArray.empty,vI 0,vI 0]) (cs':=[vS v2.1.aQ,vI v2.1.vType,vI v2.1.vAt]) (vs:=[vS v2.1.aQ,vI v2.1.vType,vI v2.1.vAt]) (bs':=[(some b2, .cells #[vS v2.1.aQ,vI v2.1.vType,vI v2.1.vAt] 129 (0,0)),(some b1, .cells #[vL bU a0.ay.length bV] 24 (0,0))]) rfl rfl Tryz.sizeOf129 rfl rfl (by decide) rfl HS5 rfl (Nat.le_of_ble_eq_true rfl) rfl rfl ?_
      intro w6 HS6
      refine rs (vI v2.2) (aB rfl) ?_
      try simp only [sc0,sc1]
      refine aA<|ak<|wp_seq<|wp_seq<|region<|rs (vI v2.2) (aJ rfl)<|rs (vB (v2.2 !=0)) (bK rfl rfl rfl) ?_
      try simp only [sc0,sc1]
      refine aA<|ak<|wp_cond_split (t:=(v2.2 !=0)) rfl (fun c4=>?_) (fun c4=>?_)
      ·replace H:=bM H c4
       refine wp_seq<|region<|rs (vI v2.2) (aJ rfl)<|rs (vI 0) (aB rfl)<|rs (vI 0) (aB rfl)<|rs (vI v2.2) (aB rfl) ?_
       try simp only [sc0,sc1]
       refine aA<|ak<|wp_ret<|aW<|dn<|aW<|gJ<|aW ?_
       obtain rfl:=Option.some.inj H
       obtain rfl:=Option.some.inj G1
       exact bodyPost_ret (uS rfl (aX rfl) (aX rfl) (aX rfl)) rfl<|⟨rfl,HS6.toE⟩
      ·replace H:=bW H (nt c4)
       refine wp_skip<|ak<|drawn [.eq (vP b2 1), .eq (vI v2.1.vType), .eq (vI dB), .eq (vP b2 2), .eq (vI v2.1.vAt), .eq (vI (w64 (dB+v2.1.vAt))), .eq (vI v2.1.vType)] [40,41,42,43,44,45,1] lW (by kernel_rfl) rfl (aS (aS (aS (aS (aS (aS (aS iP))))))) ⟨aY rfl (fun a' w' hE hk=>by have HSd:=HS6.step hE;exact bI (aH (n:=1) (o':=1) (show _=vP b2 0 from hk 13 rfl) Tryz.runUnderlying129 rfl Tryz.sizeOf3 (by decide) rfl)),aY rfl (fun a' w' hE hk=>by have HSd:=HS6.step hE;exact bI (aK (show _=vP b2 1 from hk 40 rfl) Tryz.isAgg3 (HSd.look 0 rfl) rfl)),aY rfl (fun a' w' hE hk=>by have HSd:=HS6.step hE;exact bI (aJ (show _=vI dB from hk 10 rfl))),aY rfl (fun a' w' hE hk=>by have HSd:=HS6.step hE;exact bI (aH (n:=1) (o':=2) (show _=vP b2 0 from hk 13 rfl) Tryz.runUnderlying129 rfl Tryz.sizeOf3 (by decide) rfl)),aY rfl (fun a' w' hE hk=>by have HSd:=HS6.step hE;exact bI (aK (show _=vP b2 2 from hk 43 rfl) Tryz.isAgg3 (HSd.look 0 rfl) rfl)),aY rfl (fun a' w' hE hk=>by have HSd:=HS6.step hE;exact bI (bK (show _=vI dB from hk 42 rfl) (show _=vI v2.1.vAt from hk 44 rfl) rfl)),aY rfl (fun a' w' hE hk=>by have HSd:=HS6.step hE;exact bI (aB (show _=vI v2.1.vType from hk 41 rfl))),trivial⟩ ?_
       intro w7 hE5
       simp only [List.zip_cons_cons,List.zip_nil_left,List.zip_nil_right,yg,sc0,sc1,List.length_cons,List.length_nil,List.drop_succ_cons,List.drop_zero,Nat.zero_add,Nat.reduceAdd]
       have HS7:=HS6.step hE5
       refine rs (vI (w64 (dB+v2.1.vAt))) (aB rfl) ?_
       try simp only [sc0,sc1]
       refine aA<|dI<|ak<|region<|rs (vI (w64 (jl+1))) (bK rfl rfl rfl)<|rs (vI (w64 (jl+1))) (aJ rfl) ?_
       try simp only [sc0,sc1]
       refine aA<|gZ m (Nat.lt_succ_self m) rfl ⟨v2.1.vType,(w64 (dB+v2.1.vAt)),(w64 (jl+1)),(fit rfl),H,HS7.tail⟩
     ·replace H:=bW H (nt c3)
      refine wp_exit<|eY ?_
      obtain rfl:=Option.some.inj H
      refine iG rfl ⟨_,rfl,(fit rfl),HS3⟩
   ·rintro us w8 ⟨s1,rfl,ni,HS8⟩
    obtain ⟨uo1,rfl⟩:=unj ni
    replace H:=G1
    clear G1
    try simp only [patch,sc0,sc1]
    refine ak<|wp_seq<|region<|rs (vI s1.1) (aJ rfl)<|rs (vI s1.2) (aJ rfl)<|rs (vI s1.1) (aB rfl)<|rs (vI s1.2) (aB rfl)<|aI (by simp only [sc0,sc1];rfl) ?_
    refine rs (vI 0) (aB rfl) ?_
    try simp only [sc0,sc1]
    refine aA<|ak<|wp_ret ?_
    obtain rfl:=Option.some.inj H
    exact bodyPost_ret (uS rfl (aX rfl) (aX rfl) (aX rfl)) rfl<|⟨rfl,HS8.toE⟩

end Go.Proofs.YtecpbadkdpbkpaaGreatDoor
namespace Go.Proofs.YtecpbadkdpbkpaaGreatDoor
open Go.RowKit Go.M
def iV.f (k:Nat) (a0:aU):Option (Int):=(cO.f k a0).bind fun v1=>(if (!v1)=true then (some 80) else (some 0))
set_option maxRecDepth 20000 in
set_option maxHeartbeats 4000000 in
theorem iV.calls (k:Nat) (a0:aU) (bU:Option Addr) (bV:Nat) {h0:View} {w0:World} (hv:jL h0 w0) (fK:Rd dV h0 bU a0.ay) (iw:a0.ay.length≤bV) {r:Int} (H:iV.f k a0=some r):Calls Tryz.prog 34 #[Value.agg #[vL bU a0.ay.length bV]] w0 (fun e w1=>e= .returned (vI r)∧Ext w0 w1):=by
 unfold iV.f at H
 have HS:St [] h0 w0 h0 [] w0:=St.init hv
 go_enter Tryz.func34,Tryz.ntmps34
 refine wp_seq<|region<|dU rfl rfl (dY (cs:=#[vL bU a0.ay.length bV]) rfl rfl) ?_
 rintro w1 _ hE1 ⟨b1,rfl,ge1,hb1⟩
 have HS1:=HS.new hE1 ge1 hb1
 refine rs (vI 0) (aB rfl) ?_
 try simp only [sc0,sc1]
 refine aA<|ak<|wp_seq<|wp_seq<|region<|rs (Value.agg #[vL bU a0.ay.length bV]) (aZ (n:=1) (vs:=[vL bU a0.ay.length bV]) rfl Tryz.isAgg24 (HS1.look 0 rfl) Tryz.sizeOf24 rfl rfl) ?_
 obtain ⟨v1,H1,H⟩:=bJ H
 refine run_eq (v:=vB v1) rfl rfl (bf Tryz.call74 rfl rfl (cO.calls k a0 bU bV HS1.sees fK iw H1)) ?_
 intro w2 hE2
 have HS2:=HS1.step hE2
 refine rs (vB (!v1)) (lK rfl) ?_
 try simp only [sc0,sc1]
 refine aA<|ak<|wp_cond_split (t:=(!v1)) rfl (fun c1=>?_) (fun c1=>?_)
 ·replace H:=bM H c1
  refine wp_seq<|region<|rs (vI 80) (aB rfl) ?_
  try simp only [sc0,sc1]
  refine aA<|ak<|wp_ret<|aW ?_
  obtain rfl:=Option.some.inj H
  exact bodyPost_ret (aV rfl (aX rfl)) rfl<|⟨rfl,HS2.toE⟩
 ·replace H:=bW H (nt c1)
  refine wp_skip<|ak<|wp_seq<|region<|rs (vI 0) (aB rfl) ?_
  try simp only [sc0,sc1]
  refine aA<|ak<|wp_ret ?_
  obtain rfl:=Option.some.inj H
  exact bodyPost_ret (aV rfl (aX rfl)) rfl<|⟨rfl,HS2.toE⟩

end Go.Proofs.YtecpbadkdpbkpaaGreatDoor
namespace Go.Proofs.YtecpbadkdpbkpaaGreatDoor
open Go.RowKit Go.M
def je.f (k:Nat) (a0:aU) (a1:Int):Option (Int×Int):=(fQ.f k a0 a1).bind fun v1=>(if (v1 !=0)=true then (some (0,v1)) else ((dO.f k a0 a1).bind fun v2=>(some (v2,0))))
set_option maxRecDepth 20000 in
set_option maxHeartbeats 4000000 in
theorem je.calls (k:Nat) (a0:aU) (a1:Int) (bU:Option Addr) (bV:Nat) {h0:View} {w0:World} (hv:jL h0 w0) (fK:Rd dV h0 bU a0.ay) (iw:a0.ay.length≤bV) {r:Int×Int} (H:je.f k a0 a1=some r):Calls Tryz.prog 72 #[Value.agg #[vL bU a0.ay.length bV],vI a1] w0 (fun e w1=>e= .returned (Value.tuple #[vI r.1,vI r.2])∧Ext w0 w1):=by
 unfold je.f at H
 have HS:St [] h0 w0 h0 [] w0:=St.init hv
 go_enter Tryz.func72,Tryz.ntmps72
 refine wp_seq<|region<|dU rfl rfl (dY (cs:=#[vL bU a0.ay.length bV]) rfl rfl) ?_
 rintro w1 _ hE1 ⟨b1,rfl,ge1,hb1⟩
 have HS1:=HS.new hE1 ge1 hb1
 refine rs (vI 0) (aB rfl)<|rs (vI 0) (aB rfl) ?_
 try simp only [sc0,sc1]
 refine aA<|ak<|wp_seq<|wp_seq<|region<|rs (Value.agg #[vL bU a0.ay.length bV]) (aZ (n:=1) (vs:=[vL bU a0.ay.length bV]) rfl Tryz.isAgg24 (HS1.look 0 rfl) Tryz.sizeOf24 rfl rfl)<|rs (vI a1) (aJ rfl) ?_
 obtain ⟨v1,H1,H⟩:=bJ H
 refine run_eq (v:=vI v1) rfl rfl (bf Tryz.call53 rfl rfl (fQ.calls k a0 a1 bU bV HS1.sees fK iw H1)) ?_
 intro w2 hE2
 have HS2:=HS1.step hE2
 refine rs (vI v1) (aB rfl) ?_
 try simp only [sc0,sc1]
 refine aA<|ak<|wp_seq<|region<|rs (vI v1) (aJ rfl)<|rs (vB (v1 !=0)) (bK rfl rfl rfl) ?_
 try simp only [sc0,sc1]
 refine aA<|ak<|wp_cond_split (t:=(v1 !=0)) rfl (fun c1=>?_) (fun c1=>?_)
 ·replace H:=bM H c1
  refine wp_seq<|region<|rs (vI v1) (aJ rfl)<|rs (vI 0) (aB rfl)<|rs (vI v1) (aB rfl) ?_
  try simp only [sc0,sc1]
  refine aA<|ak<|wp_ret<|aW ?_
  obtain rfl:=Option.some.inj H
  exact bodyPost_ret (fM rfl (aX rfl) (aX rfl)) rfl<|⟨rfl,HS2.toE⟩
 ·replace H:=bW H (nt c1)
  refine wp_skip<|ak<|wp_seq<|region<|rs (Value.agg #[vL bU a0.ay.length bV]) (aZ (n:=1) (vs:=[vL bU a0.ay.length bV]) rfl Tryz.isAgg24 (HS2.look 0 rfl) Tryz.sizeOf24 rfl rfl)<|rs (vI a1) (aJ rfl) ?_
  obtain ⟨v2,H2,H⟩:=bJ H
  refine run_eq (v:=vI v2) rfl rfl (bf Tryz.call89 rfl rfl (dO.calls k a0 a1 bU bV HS2.sees fK iw H2)) ?_
  intro w3 hE3
  have HS3:=HS2.step hE3
  refine rs (vI v2) (aB rfl)<|aI (by simp only [sc0,sc1];rfl) ?_
  refine rs (vI 0) (aB rfl) ?_
  try simp only [sc0,sc1]
  refine aA<|ak<|wp_ret ?_
  obtain rfl:=Option.some.inj H
  exact bodyPost_ret (fM rfl (aX rfl) (aX rfl)) rfl<|⟨rfl,HS3.toE⟩

end Go.Proofs.YtecpbadkdpbkpaaGreatDoor
namespace Go.Proofs.YtecpbadkdpbkpaaGreatDoor
open Go.RowKit Go.M
def jo.f (k:Nat) (a0:aU) (a1:Int):Option (dL×Bool):=(je.f k a0 a1).bind fun v1=>(if (v1.2 !=0)=true then (some ((⟨0,false⟩:dL),false)) else (if 0≤v1.1∧v1.1<a0.ay.length then (if ((rd ah a0.ay v1.1).aC==1)=true then (some ((rd ah a0.ay v1.1).bG,true)) else (if ((rd ah a0.ay v1.1).aC==5)=true then (some ((⟨4,true⟩:dL),true)) else (if ((rd ah a0.ay v1.1).aC==2)=true then (some ((⟨8,false⟩:dL),true)) else (some ((⟨0,false⟩:dL),false))))) else none))
set_option maxRecDepth 20000 in
set_option maxHeartbeats 4000000 in
theorem jo.calls (k:Nat) (a0:aU) (a1:Int) (bU:Option Addr) (bV:Nat) {h0:View} {w0:World} (hv:jL h0 w0) (fK:Rd dV h0 bU a0.ay) (iw:a0.ay.length≤bV) {r:dL×Bool} (H:jo.f k a0 a1=some r):Calls Tryz.prog 36 #[Value.agg #[vL bU a0.ay.length bV],vI a1] w0 (fun e w1=>e= .returned (Value.tuple #[Value.agg #[vI r.1.aP,vB r.1.aN],vB r.2])∧Ext w0 w1):=by
 unfold jo.f at H
 have HS:St [] h0 w0 h0 [] w0:=St.init hv
 go_enter Tryz.func36,Tryz.ntmps36
 refine wp_seq<|region<|dU rfl rfl (dY (cs:=#[vL bU a0.ay.length bV]) rfl rfl) ?_
 rintro w1 _ hE1 ⟨b1,rfl,ge1,hb1⟩
 have HS1:=HS.new hE1 ge1 hb1
 refine dU rfl rfl (fA (cs:=#[vI 0,vB false]) Tryz.zeroValue29 rfl) ?_
 rintro w2 _ hE2 ⟨b2,rfl,ge2,hb2⟩
 have HS2:=HS1.new hE2 ge2 hb2
 refine rs (vB false) (aB rfl) ?_
 try simp only [sc0,sc1]
 refine aA<|ak<|wp_seq<|region<|rs (Value.agg #[vL bU a0.ay.length bV]) (aZ (n:=1) (vs:=[vL bU a0.ay.length bV]) rfl Tryz.isAgg24 (HS2.look 1 rfl) Tryz.sizeOf24 rfl rfl)<|rs (vI a1) (aJ rfl) ?_
 obtain ⟨v1,H1,H⟩:=bJ H
 refine run_eq (v:=Value.tuple #[vI v1.1,vI v1.2]) rfl rfl (bf Tryz.call72 rfl rfl (je.calls k a0 a1 bU bV HS2.sees fK iw H1)) ?_
 intro w3 hE3
 have HS3:=HS2.step hE3
 refine rs (Value.tuple #[vI v1.1,vI v1.2]) (aJ rfl)<|aI (by simp only [sc0,sc1];rfl) ?_
 refine rs (vI v1.1) (fF rfl rfl)<|rs (vI v1.2) (fF rfl rfl)<|rs (vI v1.1) (aB rfl)<|rs (vI v1.2) (aB rfl) ?_
 try simp only [sc0,sc1]
 refine aA<|ak<|wp_seq<|wp_seq<|region<|rs (vI v1.2) (aJ rfl)<|rs (vB (v1.2 !=0)) (bK rfl rfl rfl) ?_
 try simp only [sc0,sc1]
 refine aA<|ak<|wp_cond_split (t:=(v1.2 !=0)) rfl (fun c1=>?_) (fun c1=>?_)
 ·replace H:=bM H c1
  refine wp_seq<|region<|rs (Value.agg #[vI 0,vB false]) (tH (cs:=[vI 0,vB false]) Tryz.zeroValue29 Tryz.runUnderlying29 (pl:=#[(0,1),(1,1)]) (fun w=>by simp [Tryz.sizeOf3,Tryz.sizeOf4]) rfl) ?_
  refine fV (i:=0) (cs:=[vI 0,vB false]) (cs':=[vI 0,vB false]) (vs:=[vI 0,vB false]) (bs':=[(some b2, .cells #[vI 0,vB false] 29 (0,0)),(some b1, .cells #[vL bU a0.ay.length bV] 24 (0,0))]) rfl rfl Tryz.sizeOf29 rfl rfl (by decide) rfl HS3 rfl (Nat.le_of_ble_eq_true rfl) rfl rfl ?_
  intro w4 HS4
  refine rs (vB false) (aB rfl) ?_
  try simp only [sc0,sc1]
  refine aA<|ak<|wp_ret<|aW ?_
  obtain rfl:=Option.some.inj H
  exact bodyPost_ret (fM rfl (iU rfl Tryz.isAgg29 (HS4.look 0 rfl) Tryz.sizeOf29 rfl) (aX rfl)) rfl<|⟨rfl,HS4.toE⟩
 ·replace H:=bW H (nt c1)
  refine wp_skip<|ak<|wp_seq<|wp_seq<|region<|rs (vP b1 0) (aH (n:=1) (o':=0) rfl Tryz.runUnderlying24 rfl Tryz.sizeOf22 (by decide) rfl)<|rs (vL bU a0.ay.length bV) (aK rfl Tryz.isAgg22 (HS3.look 1 rfl) rfl)<|rs (vI v1.1) (aJ rfl) ?_
  obtain ⟨hi1,H⟩:=eG H
  obtain ⟨ad1,dG,dJ,e1,lu,jQ,iH⟩:=gy fK hi1.1 hi1.2
  refine rs (Value.pointer (some (Addr.add ad1 (v1.1.toNat*7)))) (dP (sz:=7) rfl e1 rfl hi1.1 hi1.2 Tryz.runUnderlying22 Tryz.sizeOf56)<|aI (by simp only [sc0,sc1];rfl) ?_
  refine rs (Value.agg #[vI ((rd ah a0.ay v1.1).aC),vS ((rd ah a0.ay v1.1).aQ),vI ((rd ah a0.ay v1.1).bG.aP),vB ((rd ah a0.ay v1.1).bG.aN),vI ((rd ah a0.ay v1.1).dM),vI ((rd ah a0.ay v1.1).vN),vL dG ((rd ah a0.ay v1.1).au).length dJ]) (ig rfl Tryz.isAgg56 (lu.sees HS3.sees) Tryz.sizeOf56)<|dU rfl rfl (fA (cs:=#[vI 0,vS ByteArray.empty,vI 0,vB false,vI 0,vI 0,vL none 0 0]) Tryz.zeroValue56 rfl) ?_
  rintro w5 _ hE4 ⟨b3,rfl,ge3,hb3⟩
  have HS5:=HS3.new hE4 ge3 hb3
  refine fV (i:=0) (cs:=[vI 0,vS ByteArray.empty,vI 0,vB false,vI 0,vI 0,vL none 0 0]) (cs':=[vI ((rd ah a0.ay v1.1).aC),vS ((rd ah a0.ay v1.1).aQ),vI ((rd ah a0.ay v1.1).bG.aP),vB ((rd ah a0.ay v1.1).bG.aN),vI ((rd ah a0.ay v1.1).dM),vI ((rd ah a0.ay v1.1).vN),vL dG ((rd ah a0.ay v1.1).au).length dJ]) (vs:=[vI ((rd ah a0.ay v1.1).aC),vS ((rd ah a0.ay v1.1).aQ),vI ((rd ah a0.ay v1.1).bG.aP),vB ((rd ah a0.ay v1.1).bG.aN),vI ((rd ah a0.ay v1.1).dM),vI ((rd ah a0.ay v1.1).vN),vL dG ((rd ah a0.ay v1.1).au).length dJ]) (bs':=[(some b3, .cells #[vI ((rd ah a0.ay v1.1).aC),vS ((rd ah a0.ay v1.1).aQ),vI ((rd ah a0.ay v1.1).bG.aP),vB ((rd ah a0.ay v1.1).bG.aN),vI ((rd ah a0.ay v1.1).dM),vI ((rd ah a0.ay v1.1).vN),vL dG ((rd ah a0.ay v1.1).au).length dJ] 56 (0,0)),(some b2, .cells #[vI 0,vB false] 29 (0,0)),(some b1, .cells #[vL bU a0.ay.length bV] 24 (0,0))]) rfl rfl Tryz.sizeOf56 rfl rfl (by decide) rfl HS5 rfl (Nat.le_of_ble_eq_true rfl) rfl rfl ?_
  intro w6 HS6
  try simp only [sc0,sc1]
  refine aA<|ak<|wp_seq<|region<|rs (vP b3 0) (aH (n:=1) (o':=0) rfl Tryz.runUnderlying56 rfl Tryz.sizeOf3 (by decide) rfl)<|rs (vI ((rd ah a0.ay v1.1).aC)) (aK rfl Tryz.isAgg3 (HS6.look 0 rfl) rfl) ?_
  try simp only [sc0,sc1]
  refine aA<|ak<|wp_block<|wp_seq<|region<|rs (vB ((rd ah a0.ay v1.1).aC==1)) (bK rfl rfl rfl)<|rs (vB ((rd ah a0.ay v1.1).aC==1)) (aB rfl) ?_
  try simp only [sc0,sc1]
  refine aA<|ak<|wp_cond_split (t:=((rd ah a0.ay v1.1).aC==1)) rfl (fun c2=>?_) (fun c2=>?_)
  ·replace H:=bM H c2
   refine wp_seq<|region<|rs (vP b3 2) (aH (n:=2) (o':=2) rfl Tryz.runUnderlying56 rfl Tryz.sizeOf29 (by decide) rfl)<|rs (Value.agg #[vI ((rd ah a0.ay v1.1).bG.aP),vB ((rd ah a0.ay v1.1).bG.aN)]) (aZ (n:=2) (vs:=[vI ((rd ah a0.ay v1.1).bG.aP),vB ((rd ah a0.ay v1.1).bG.aN)]) rfl Tryz.isAgg29 (HS6.look 0 rfl) Tryz.sizeOf29 rfl rfl)<|fV (i:=1) (cs:=[vI 0,vB false]) (cs':=[vI ((rd ah a0.ay v1.1).bG.aP),vB ((rd ah a0.ay v1.1).bG.aN)]) (vs:=[vI ((rd ah a0.ay v1.1).bG.aP),vB ((rd ah a0.ay v1.1).bG.aN)]) (bs':=[(some b3, .cells #[vI ((rd ah a0.ay v1.1).aC),vS ((rd ah a0.ay v1.1).aQ),vI ((rd ah a0.ay v1.1).bG.aP),vB ((rd ah a0.ay v1.1).bG.aN),vI ((rd ah a0.ay v1.1).dM),vI ((rd ah a0.ay v1.1).vN),vL dG ((rd ah a0.ay v1.1).au).length dJ] 56 (0,0)),(some b2, .cells #[vI ((rd ah a0.ay v1.1).bG.aP),vB ((rd ah a0.ay v1.1).bG.aN)] 29 (0,0)),(some b1, .cells #[vL bU a0.ay.length bV] 24 (0,0))]) rfl rfl Tryz.sizeOf29 rfl rfl (by decide) rfl HS6 rfl (Nat.le_of_ble_eq_true rfl) rfl rfl ?_
   intro w7 HS7
   refine rs (vB true) (aB rfl) ?_
   try simp only [sc0,sc1]
   refine aA<|ak<|wp_ret<|dn<|aW ?_
   obtain rfl:=Option.some.inj H
   exact bodyPost_ret (fM rfl (iU rfl Tryz.isAgg29 (HS7.look 1 rfl) Tryz.sizeOf29 rfl) (aX rfl)) rfl<|⟨rfl,HS7.toE⟩
  ·replace H:=bW H (nt c2)
   refine wp_seq<|region<|rs (vB ((rd ah a0.ay v1.1).aC==5)) (bK rfl rfl rfl)<|rs (vB ((rd ah a0.ay v1.1).aC==5)) (aB rfl) ?_
   try simp only [sc0,sc1]
   refine aA<|ak<|wp_cond_split (t:=((rd ah a0.ay v1.1).aC==5)) rfl (fun c3=>?_) (fun c3=>?_)
   ·replace H:=bM H c3
    refine wp_seq<|region<|rs (Value.agg #[vI 4,vB true]) (iy (cs:=[vI 4,vB true]) (ps:=[(0,vI 4),(1,vB true)]) Tryz.zeroValue29 Tryz.runUnderlying29 (pl:=#[(0,1),(1,1)]) (fun w=>by simp [Tryz.sizeOf3,Tryz.sizeOf4]) (oD (show _=vI 4 from rfl) (show _=vB true from rfl)) rfl) ?_
    refine fV (i:=1) (cs:=[vI 0,vB false]) (cs':=[vI 4,vB true]) (vs:=[vI 4,vB true]) (bs':=[(some b3, .cells #[vI ((rd ah a0.ay v1.1).aC),vS ((rd ah a0.ay v1.1).aQ),vI ((rd ah a0.ay v1.1).bG.aP),vB ((rd ah a0.ay v1.1).bG.aN),vI ((rd ah a0.ay v1.1).dM),vI ((rd ah a0.ay v1.1).vN),vL dG ((rd ah a0.ay v1.1).au).length dJ] 56 (0,0)),(some b2, .cells #[vI 4,vB true] 29 (0,0)),(some b1, .cells #[vL bU a0.ay.length bV] 24 (0,0))]) rfl rfl Tryz.sizeOf29 rfl rfl (by decide) rfl HS6 rfl (Nat.le_of_ble_eq_true rfl) rfl rfl ?_
    intro w8 HS8
    refine rs (vB true) (aB rfl) ?_
    try simp only [sc0,sc1]
    refine aA<|ak<|wp_ret<|dn<|aW ?_
    obtain rfl:=Option.some.inj H
    exact bodyPost_ret (fM rfl (iU rfl Tryz.isAgg29 (HS8.look 1 rfl) Tryz.sizeOf29 rfl) (aX rfl)) rfl<|⟨rfl,HS8.toE⟩
   ·replace H:=bW H (nt c3)
    refine wp_seq<|region<|rs (vB ((rd ah a0.ay v1.1).aC==2)) (bK rfl rfl rfl)<|rs (vB ((rd ah a0.ay v1.1).aC==2)) (aB rfl) ?_
    try simp only [sc0,sc1]
    refine aA<|ak<|wp_cond_split (t:=((rd ah a0.ay v1.1).aC==2)) rfl (fun c4=>?_) (fun c4=>?_)
    ·replace H:=bM H c4
     refine wp_seq<|region<|rs (Value.agg #[vI 8,vB false]) (iy (cs:=[vI 8,vB false]) (ps:=[(0,vI 8)]) Tryz.zeroValue29 Tryz.runUnderlying29 (pl:=#[(0,1),(1,1)]) (fun w=>by simp [Tryz.sizeOf3,Tryz.sizeOf4]) (jM (show _=vI 8 from rfl)) rfl) ?_
     refine fV (i:=1) (cs:=[vI 0,vB false]) (cs':=[vI 8,vB false]) (vs:=[vI 8,vB false]) (bs':=[(some b3, .cells #[vI ((rd ah a0.ay v1.1).aC),vS ((rd ah a0.ay v1.1).aQ),vI ((rd ah a0.ay v1.1).bG.aP),vB ((rd ah a0.ay v1.1).bG.aN),vI ((rd ah a0.ay v1.1).dM),vI ((rd ah a0.ay v1.1).vN),vL dG ((rd ah a0.ay v1.1).au).length dJ] 56 (0,0)),(some b2, .cells #[vI 8,vB false] 29 (0,0)),(some b1, .cells #[vL bU a0.ay.length bV] 24 (0,0))]) rfl rfl Tryz.sizeOf29 rfl rfl (by decide) rfl HS6 rfl (Nat.le_of_ble_eq_true rfl) rfl rfl ?_
     intro w9 HS9
     refine rs (vB true) (aB rfl) ?_
     try simp only [sc0,sc1]
     refine aA<|ak<|wp_ret<|dn<|aW ?_
     obtain rfl:=Option.some.inj H
     exact bodyPost_ret (fM rfl (iU rfl Tryz.isAgg29 (HS9.look 1 rfl) Tryz.sizeOf29 rfl) (aX rfl)) rfl<|⟨rfl,HS9.toE⟩
    ·replace H:=bW H (nt c4)
     refine wp_skip<|dI<|ak<|wp_seq<|region<|rs (Value.agg #[vI 0,vB false]) (tH (cs:=[vI 0,vB false]) Tryz.zeroValue29 Tryz.runUnderlying29 (pl:=#[(0,1),(1,1)]) (fun w=>by simp [Tryz.sizeOf3,Tryz.sizeOf4]) rfl) ?_
     refine fV (i:=1) (cs:=[vI 0,vB false]) (cs':=[vI 0,vB false]) (vs:=[vI 0,vB false]) (bs':=[(some b3, .cells #[vI ((rd ah a0.ay v1.1).aC),vS ((rd ah a0.ay v1.1).aQ),vI ((rd ah a0.ay v1.1).bG.aP),vB ((rd ah a0.ay v1.1).bG.aN),vI ((rd ah a0.ay v1.1).dM),vI ((rd ah a0.ay v1.1).vN),vL dG ((rd ah a0.ay v1.1).au).length dJ] 56 (0,0)),(some b2, .cells #[vI 0,vB false] 29 (0,0)),(some b1, .cells #[vL bU a0.ay.length bV] 24 (0,0))]) rfl rfl Tryz.sizeOf29 rfl rfl (by decide) rfl HS6 rfl (Nat.le_of_ble_eq_true rfl) rfl rfl ?_
     intro w10 ru
     refine rs (vB false) (aB rfl) ?_
     try simp only [sc0,sc1]
     refine aA<|ak<|wp_ret ?_
     obtain rfl:=Option.some.inj H
     exact bodyPost_ret (fM rfl (iU rfl Tryz.isAgg29 (ru.look 1 rfl) Tryz.sizeOf29 rfl) (aX rfl)) rfl<|⟨rfl,ru.toE⟩

end Go.Proofs.YtecpbadkdpbkpaaGreatDoor
namespace Go.Proofs.YtecpbadkdpbkpaaGreatDoor
open Go.RowKit Go.M
def jX.f (k:Nat) (a0:aU) (a1:Int):Option (Int×Int):=(fQ.f k a0 a1).bind fun v1=>(if (v1 !=0)=true then (some (0,v1)) else ((eP.f k a0).bind fun v2=>(if 0≤a1∧a1<v2.1.length then (some ((rd 0 v2.1 a1),0)) else none)))
set_option maxRecDepth 20000 in
set_option maxHeartbeats 4000000 in
theorem jX.calls (k:Nat) (a0:aU) (a1:Int) (bU:Option Addr) (bV:Nat) {h0:View} {w0:World} (hv:jL h0 w0) (fK:Rd dV h0 bU a0.ay) (iw:a0.ay.length≤bV) {r:Int×Int} (H:jX.f k a0 a1=some r):Calls Tryz.prog 42 #[Value.agg #[vL bU a0.ay.length bV],vI a1] w0 (fun e w1=>e= .returned (Value.tuple #[vI r.1,vI r.2])∧Ext w0 w1):=by
 unfold jX.f at H
 have HS:St [] h0 w0 h0 [] w0:=St.init hv
 go_enter Tryz.func42,Tryz.ntmps42
 refine wp_seq<|region<|dU rfl rfl (dY (cs:=#[vL bU a0.ay.length bV]) rfl rfl) ?_
 rintro w1 _ hE1 ⟨b1,rfl,ge1,hb1⟩
 have HS1:=HS.new hE1 ge1 hb1
 refine rs (vI 0) (aB rfl)<|rs (vI 0) (aB rfl) ?_
 try simp only [sc0,sc1]
 refine aA<|ak<|wp_seq<|wp_seq<|region<|rs (Value.agg #[vL bU a0.ay.length bV]) (aZ (n:=1) (vs:=[vL bU a0.ay.length bV]) rfl Tryz.isAgg24 (HS1.look 0 rfl) Tryz.sizeOf24 rfl rfl)<|rs (vI a1) (aJ rfl) ?_
 obtain ⟨v1,H1,H⟩:=bJ H
 refine run_eq (v:=vI v1) rfl rfl (bf Tryz.call53 rfl rfl (fQ.calls k a0 a1 bU bV HS1.sees fK iw H1)) ?_
 intro w2 hE2
 have HS2:=HS1.step hE2
 refine rs (vI v1) (aB rfl) ?_
 try simp only [sc0,sc1]
 refine aA<|ak<|wp_seq<|region<|rs (vI v1) (aJ rfl)<|rs (vB (v1 !=0)) (bK rfl rfl rfl) ?_
 try simp only [sc0,sc1]
 refine aA<|ak<|wp_cond_split (t:=(v1 !=0)) rfl (fun c1=>?_) (fun c1=>?_)
 ·replace H:=bM H c1
  refine wp_seq<|region<|rs (vI v1) (aJ rfl)<|rs (vI 0) (aB rfl)<|rs (vI v1) (aB rfl) ?_
  try simp only [sc0,sc1]
  refine aA<|ak<|wp_ret<|aW ?_
  obtain rfl:=Option.some.inj H
  exact bodyPost_ret (fM rfl (aX rfl) (aX rfl)) rfl<|⟨rfl,HS2.toE⟩
 ·replace H:=bW H (nt c1)
  refine wp_skip<|ak<|wp_seq<|region<|rs (Value.agg #[vL bU a0.ay.length bV]) (aZ (n:=1) (vs:=[vL bU a0.ay.length bV]) rfl Tryz.isAgg24 (HS2.look 0 rfl) Tryz.sizeOf24 rfl rfl) ?_
  obtain ⟨v2,H2,H⟩:=bJ H
  refine dU rfl rfl (kP Tryz.call85 rfl (nT (h:=h0) (R:=(fun hx u=>∃(gG:Option Addr) (gI:Nat),u=Value.tuple #[vL gG v2.1.length gI,vB v2.2]∧v2.1.length≤gI∧Rd (Kd.int .i64) hx gG v2.1)) (Ext.rfl' w2) ((eP.calls k a0 bU bV HS2.sees fK iw H2).mono ?_)) rfl) ?_
  ·rintro _ _ ⟨h1,gG,gI,rfl,mQ,jH,g,ss,x⟩
   exact ⟨h1,_,rfl,⟨gG,gI,rfl,mQ,jH⟩,g,ss,x⟩
  rintro w3 _ hE3 ⟨h1,⟨gG,gI,rfl,mQ,jH⟩,gr1,se1⟩
  have HS3:=HS2.view hE3 gr1 se1
  refine rs (Value.tuple #[vL gG v2.1.length gI,vB v2.2]) (aJ rfl)<|rs (vL gG v2.1.length gI) (fF rfl rfl)<|aI (by simp only [sc0,sc1];rfl) ?_
  refine rs (vB v2.2) (fF rfl rfl)<|rs (vL gG v2.1.length gI) (aB rfl)<|rs (vB v2.2) (aB rfl) ?_
  try simp only [sc0,sc1]
  refine aA<|ak<|wp_seq<|region<|rs (vL gG v2.1.length gI) (aJ rfl)<|rs (vI a1) (aJ rfl) ?_
  obtain ⟨hi1,H⟩:=eG H
  obtain ⟨ad1,e1,lu⟩:=rF jH hi1.1 hi1.2
  refine rs (Value.pointer (some (Addr.add ad1 (a1.toNat*1)))) (dP (sz:=1) rfl e1 rfl hi1.1 hi1.2 Tryz.runUnderlying81 Tryz.sizeOf3)<|rs (vI (rd 0 v2.1 a1)) (jC rfl Tryz.isAgg3 (lu.cell0 HS3.sees rfl))<|aI (by simp only [sc0,sc1];rfl) ?_
  refine rs (vI (rd 0 v2.1 a1)) (aB rfl)<|rs (vI 0) (aB rfl) ?_
  try simp only [sc0,sc1]
  refine aA<|ak<|wp_ret ?_
  obtain rfl:=Option.some.inj H
  exact bodyPost_ret (fM rfl (aX rfl) (aX rfl)) rfl<|⟨rfl,HS3.toE⟩

end Go.Proofs.YtecpbadkdpbkpaaGreatDoor
namespace Go.Proofs.YtecpbadkdpbkpaaGreatDoor
open Go.RowKit Go.M
def lg.f (a0:Int):Option (Int):=some (IntKind.wrap .i64 (IntKind.wrap .i8 a0))
set_option maxRecDepth 20000 in
set_option maxHeartbeats 4000000 in
theorem lg.calls (a0:Int) {h0:View} {w0:World} (hv:jL h0 w0) {r:Int} (H:lg.f a0=some r):Calls Tryz.prog 135 #[vI a0] w0 (fun e w1=>e= .returned (vI r)∧Ext w0 w1):=by
 unfold lg.f at H
 have HS:St [] h0 w0 h0 [] w0:=St.init hv
 go_enter Tryz.func135,Tryz.ntmps135
 refine wp_seq<|region<|rs (vI 0) (aB rfl) ?_
 try simp only [sc0,sc1]
 refine aA<|ak<|wp_seq<|region<|rs (vI a0) (aJ rfl)<|rs (Value.int .i8 (IntKind.wrap .i8 a0)) (nR rfl Tryz.runUnderlying2 Tryz.runUnderlying227)<|rs (vI (w64 (IntKind.wrap .i8 a0))) (nR rfl Tryz.runUnderlying227 Tryz.runUnderlying2)<|rs (vI (w64 (IntKind.wrap .i8 a0))) (aB rfl) ?_
 try simp only [sc0,sc1]
 refine aA<|ak<|wp_ret ?_
 obtain rfl:=Option.some.inj H
 exact bodyPost_ret (aV rfl (aX rfl)) rfl<|⟨rfl,HS.toE⟩

end Go.Proofs.YtecpbadkdpbkpaaGreatDoor
namespace Go.Proofs.YtecpbadkdpbkpaaGreatDoor
open Go.RowKit Go.M
def kJ.f (a0:Int):Option (Int):=some (IntKind.wrap .i64 (IntKind.wrap .u8 a0))
set_option maxRecDepth 20000 in
set_option maxHeartbeats 4000000 in
theorem kJ.calls (a0:Int) {h0:View} {w0:World} (hv:jL h0 w0) {r:Int} (H:kJ.f a0=some r):Calls Tryz.prog 136 #[vI a0] w0 (fun e w1=>e= .returned (vI r)∧Ext w0 w1):=by
 unfold kJ.f at H
 have HS:St [] h0 w0 h0 [] w0:=St.init hv
 go_enter Tryz.func136,Tryz.ntmps136
 refine wp_seq<|region<|rs (vI 0) (aB rfl) ?_
 try simp only [sc0,sc1]
 refine aA<|ak<|wp_seq<|region<|rs (vI a0) (aJ rfl)<|rs (Value.int .u8 (IntKind.wrap .u8 a0)) (nR rfl Tryz.runUnderlying2 Tryz.runUnderlying5)<|rs (vI (w64 (IntKind.wrap .u8 a0))) (nR rfl Tryz.runUnderlying5 Tryz.runUnderlying2)<|rs (vI (w64 (IntKind.wrap .u8 a0))) (aB rfl) ?_
 try simp only [sc0,sc1]
 refine aA<|ak<|wp_ret ?_
 obtain rfl:=Option.some.inj H
 exact bodyPost_ret (aV rfl (aX rfl)) rfl<|⟨rfl,HS.toE⟩

end Go.Proofs.YtecpbadkdpbkpaaGreatDoor
namespace Go.Proofs.YtecpbadkdpbkpaaGreatDoor
open Go.RowKit Go.M
def kK.f (a0:Int):Option (Int):=some (IntKind.wrap .i64 (IntKind.wrap .i16 a0))
set_option maxRecDepth 20000 in
set_option maxHeartbeats 4000000 in
theorem kK.calls (a0:Int) {h0:View} {w0:World} (hv:jL h0 w0) {r:Int} (H:kK.f a0=some r):Calls Tryz.prog 137 #[vI a0] w0 (fun e w1=>e= .returned (vI r)∧Ext w0 w1):=by
 unfold kK.f at H
 have HS:St [] h0 w0 h0 [] w0:=St.init hv
 go_enter Tryz.func137,Tryz.ntmps137
 refine wp_seq<|region<|rs (vI 0) (aB rfl) ?_
 try simp only [sc0,sc1]
 refine aA<|ak<|wp_seq<|region<|rs (vI a0) (aJ rfl)<|rs (Value.int .i16 (IntKind.wrap .i16 a0)) (nR rfl Tryz.runUnderlying2 Tryz.runUnderlying228)<|rs (vI (w64 (IntKind.wrap .i16 a0))) (nR rfl Tryz.runUnderlying228 Tryz.runUnderlying2)<|rs (vI (w64 (IntKind.wrap .i16 a0))) (aB rfl) ?_
 try simp only [sc0,sc1]
 refine aA<|ak<|wp_ret ?_
 obtain rfl:=Option.some.inj H
 exact bodyPost_ret (aV rfl (aX rfl)) rfl<|⟨rfl,HS.toE⟩

end Go.Proofs.YtecpbadkdpbkpaaGreatDoor
namespace Go.Proofs.YtecpbadkdpbkpaaGreatDoor
open Go.RowKit Go.M
def jY.f (a0:Int):Option (Int):=some (IntKind.wrap .i64 (IntKind.wrap .u16 a0))
set_option maxRecDepth 20000 in
set_option maxHeartbeats 4000000 in
theorem jY.calls (a0:Int) {h0:View} {w0:World} (hv:jL h0 w0) {r:Int} (H:jY.f a0=some r):Calls Tryz.prog 138 #[vI a0] w0 (fun e w1=>e= .returned (vI r)∧Ext w0 w1):=by
 unfold jY.f at H
 have HS:St [] h0 w0 h0 [] w0:=St.init hv
 go_enter Tryz.func138,Tryz.ntmps138
 refine wp_seq<|region<|rs (vI 0) (aB rfl) ?_
 try simp only [sc0,sc1]
 refine aA<|ak<|wp_seq<|region<|rs (vI a0) (aJ rfl)<|rs (Value.int .u16 (IntKind.wrap .u16 a0)) (nR rfl Tryz.runUnderlying2 Tryz.runUnderlying229)<|rs (vI (w64 (IntKind.wrap .u16 a0))) (nR rfl Tryz.runUnderlying229 Tryz.runUnderlying2)<|rs (vI (w64 (IntKind.wrap .u16 a0))) (aB rfl) ?_
 try simp only [sc0,sc1]
 refine aA<|ak<|wp_ret ?_
 obtain rfl:=Option.some.inj H
 exact bodyPost_ret (aV rfl (aX rfl)) rfl<|⟨rfl,HS.toE⟩

end Go.Proofs.YtecpbadkdpbkpaaGreatDoor
namespace Go.Proofs.YtecpbadkdpbkpaaGreatDoor
open Go.RowKit Go.M
def kL.f (a0:Int):Option (Int):=some (IntKind.wrap .i64 (IntKind.wrap .i32 a0))
set_option maxRecDepth 20000 in
set_option maxHeartbeats 4000000 in
theorem kL.calls (a0:Int) {h0:View} {w0:World} (hv:jL h0 w0) {r:Int} (H:kL.f a0=some r):Calls Tryz.prog 139 #[vI a0] w0 (fun e w1=>e= .returned (vI r)∧Ext w0 w1):=by
 unfold kL.f at H
 have HS:St [] h0 w0 h0 [] w0:=St.init hv
 go_enter Tryz.func139,Tryz.ntmps139
 refine wp_seq<|region<|rs (vI 0) (aB rfl) ?_
 try simp only [sc0,sc1]
 refine aA<|ak<|wp_seq<|region<|rs (vI a0) (aJ rfl)<|rs (Value.int .i32 (IntKind.wrap .i32 a0)) (nR rfl Tryz.runUnderlying2 Tryz.runUnderlying21)<|rs (vI (w64 (IntKind.wrap .i32 a0))) (nR rfl Tryz.runUnderlying21 Tryz.runUnderlying2)<|rs (vI (w64 (IntKind.wrap .i32 a0))) (aB rfl) ?_
 try simp only [sc0,sc1]
 refine aA<|ak<|wp_ret ?_
 obtain rfl:=Option.some.inj H
 exact bodyPost_ret (aV rfl (aX rfl)) rfl<|⟨rfl,HS.toE⟩

end Go.Proofs.YtecpbadkdpbkpaaGreatDoor
namespace Go.Proofs.YtecpbadkdpbkpaaGreatDoor
open Go.RowKit Go.M
def jZ.f (a0:Int):Option (Int):=some (IntKind.wrap .i64 (IntKind.wrap .u32 a0))
set_option maxRecDepth 20000 in
set_option maxHeartbeats 4000000 in
theorem jZ.calls (a0:Int) {h0:View} {w0:World} (hv:jL h0 w0) {r:Int} (H:jZ.f a0=some r):Calls Tryz.prog 140 #[vI a0] w0 (fun e w1=>e= .returned (vI r)∧Ext w0 w1):=by
 unfold jZ.f at H
 have HS:St [] h0 w0 h0 [] w0:=St.init hv
 go_enter Tryz.func140,Tryz.ntmps140
 refine wp_seq<|region<|rs (vI 0) (aB rfl) ?_
 try simp only [sc0,sc1]
 refine aA<|ak<|wp_seq<|region<|rs (vI a0) (aJ rfl)<|rs (Value.int .u32 (IntKind.wrap .u32 a0)) (nR rfl Tryz.runUnderlying2 Tryz.runUnderlying230)<|rs (vI (w64 (IntKind.wrap .u32 a0))) (nR rfl Tryz.runUnderlying230 Tryz.runUnderlying2)<|rs (vI (w64 (IntKind.wrap .u32 a0))) (aB rfl) ?_
 try simp only [sc0,sc1]
 refine aA<|ak<|wp_ret ?_
 obtain rfl:=Option.some.inj H
 exact bodyPost_ret (aV rfl (aX rfl)) rfl<|⟨rfl,HS.toE⟩

end Go.Proofs.YtecpbadkdpbkpaaGreatDoor
namespace Go.Proofs.YtecpbadkdpbkpaaGreatDoor
open Go.RowKit Go.M
def kM.f (a0:Int):Option (Int):=some a0
set_option maxRecDepth 20000 in
set_option maxHeartbeats 4000000 in
theorem kM.calls (a0:Int) {h0:View} {w0:World} (hv:jL h0 w0) {r:Int} (H:kM.f a0=some r):Calls Tryz.prog 141 #[vI a0] w0 (fun e w1=>e= .returned (vI r)∧Ext w0 w1):=by
 unfold kM.f at H
 have HS:St [] h0 w0 h0 [] w0:=St.init hv
 go_enter Tryz.func141,Tryz.ntmps141
 refine wp_seq<|region<|rs (vI 0) (aB rfl) ?_
 try simp only [sc0,sc1]
 refine aA<|ak<|wp_seq<|region<|rs (vI a0) (aJ rfl)<|rs (vI a0) (aB rfl) ?_
 try simp only [sc0,sc1]
 refine aA<|ak<|wp_ret ?_
 obtain rfl:=Option.some.inj H
 exact bodyPost_ret (aV rfl (aX rfl)) rfl<|⟨rfl,HS.toE⟩

end Go.Proofs.YtecpbadkdpbkpaaGreatDoor
namespace Go.Proofs.YtecpbadkdpbkpaaGreatDoor
open Go.RowKit Go.M
def ku.f (a0:Int):Option (Int):=some (IntKind.wrap .i64 (IntKind.wrap .u64 a0))
set_option maxRecDepth 20000 in
set_option maxHeartbeats 4000000 in
theorem ku.calls (a0:Int) {h0:View} {w0:World} (hv:jL h0 w0) {r:Int} (H:ku.f a0=some r):Calls Tryz.prog 142 #[vI a0] w0 (fun e w1=>e= .returned (vI r)∧Ext w0 w1):=by
 unfold ku.f at H
 have HS:St [] h0 w0 h0 [] w0:=St.init hv
 go_enter Tryz.func142,Tryz.ntmps142
 refine wp_seq<|region<|rs (vI 0) (aB rfl) ?_
 try simp only [sc0,sc1]
 refine aA<|ak<|wp_seq<|region<|rs (vI a0) (aJ rfl)<|rs (Value.int .u64 (IntKind.wrap .u64 a0)) (nR rfl Tryz.runUnderlying2 Tryz.runUnderlying71)<|rs (vI (w64 (IntKind.wrap .u64 a0))) (nR rfl Tryz.runUnderlying71 Tryz.runUnderlying2)<|rs (vI (w64 (IntKind.wrap .u64 a0))) (aB rfl) ?_
 try simp only [sc0,sc1]
 refine aA<|ak<|wp_ret ?_
 obtain rfl:=Option.some.inj H
 exact bodyPost_ret (aV rfl (aX rfl)) rfl<|⟨rfl,HS.toE⟩

end Go.Proofs.YtecpbadkdpbkpaaGreatDoor
/-bits.wrap:a number wrapped to a valid type,by the function that the map of conversions leads to. -/
namespace Go.Proofs.YtecpbadkdpbkpaaGreatDoor
open Go.RowKit Go.M
/-- a number wrapped to a type -/
def wrp (k:dL) (v:Int):Int:=if k.aP==1 then (if k.aN then IntKind.wrap .i64 (IntKind.wrap .i8 v) else IntKind.wrap .i64 (IntKind.wrap .u8 v)) else if k.aP==2 then (if k.aN then IntKind.wrap .i64 (IntKind.wrap .i16 v) else IntKind.wrap .i64 (IntKind.wrap .u16 v))
 else if k.aP==4 then (if k.aN then IntKind.wrap .i64 (IntKind.wrap .i32 v) else IntKind.wrap .i64 (IntKind.wrap .u32 v)) else (if k.aN then v else IntKind.wrap .i64 (IntKind.wrap .u64 v))
theorem Qh (k:dL):∀args w,(callFunc (thr k) args).run Tryz.prog w= .ok (.enter (thr k) args) w:=by
 unfold thr
 split
 ·split
  ·exact Tryz.call135
  ·exact Tryz.call136
 ·split
  ·split
   ·exact Tryz.call137
   ·exact Tryz.call138
  ·split
   ·split
    ·exact Tryz.call139
    ·exact Tryz.call140
   ·split
    ·exact Tryz.call141
    ·exact Tryz.call142
theorem NI (k:dL) (v:Int) {h0:View} {w0:World} (hv:jL h0 w0):Calls Tryz.prog (thr k) #[vI v] w0 (fun e w1=>e= .returned (vI (wrp k v))∧Ext w0 w1):=by
 unfold thr wrp
 split
 ·split
  ·exact lg.calls v hv rfl
  ·exact kJ.calls v hv rfl
 ·split
  ·split
   ·exact kK.calls v hv rfl
   ·exact jY.calls v hv rfl
  ·split
   ·split
    ·exact kL.calls v hv rfl
    ·exact jZ.calls v hv rfl
   ·split
    ·exact kM.calls v hv rfl
    ·exact ku.calls v hv rfl
def qy.f (a0:dL) (a1:Int):Option Int:=if okI a0=true then some (wrp a0 a1) else none
theorem NJ {P:Program} {ρ:Operand→Value} {w:World} {dst:Option Tmp} {ty:TypeId} {pos:String} {after:Array Edge} {guard:Option (Nat×Bool)} {xt:TypeId} {x y:Operand} {b:Nat} {k v:Value} (hx:ρ x= .map (some b)) (hy:ρ y=k)
  (h:(Instr.lookup xt (.map (some b)) k false).run P w= .ok v w):(execOp ρ ⟨dst, .lookup xt x y false,ty,pos,after,guard⟩).run P w= .ok (.value v) w:=by
 simp [execOp,hx,hy,h]
set_option maxRecDepth 20000 in
set_option maxHeartbeats 4000000 in
theorem qy.calls (a0:dL) (a1:Int) {h0:View} {w0:World} (hv:jL h0 w0) {r:Int} (H:qy.f a0 a1=some r):Calls Tryz.prog 57 #[Value.agg #[vI a0.aP,vB a0.aN],vI a1] w0 (fun e w1=>e= .returned (vI r)∧Ext w0 w1):=by
 unfold qy.f at H
 obtain ⟨hk0,H⟩:=eG H
 obtain rfl:=Option.some.inj H
 have HS:St [] h0 w0 h0 [] w0:=St.init hv
 go_enter Tryz.func57,Tryz.ntmps57
 refine wp_seq<|region<|dU rfl rfl (dY (cs:=#[vI a0.aP,vB a0.aN]) rfl rfl) ?_
 rintro w1 _ hE1 ⟨b1,rfl,ge1,hb1⟩
 have HS1:=HS.new hE1 ge1 hb1
 refine rs (vI 0) (aB rfl) ?_
 try simp only [sc0,sc1]
 refine aA<|ak<|wp_seq<|uq [([6,8],[1,3]),([7],[1,2,3]),([4],[5])] [0,4] [[],[],[0,1],[],[0,1,2,3],[0,1,2,3,4]] lW (by kernel_rfl) ?_
 intro w2 hE2
 have HS2:=HS1.step hE2
 refine vC [jF a0,vI a1] ?_ rfl rfl ?_
 ·simp only [patch,sc0,sc1]
  exact gK (gQ (v:=jF a0) rfl rfl rfl rfl (aZ (n:=2) (vs:=[vI a0.aP,vB a0.aN]) rfl Tryz.isAgg29 (HS2.look 0 rfl) Tryz.sizeOf29 rfl rfl)) (gK (gQ rfl rfl rfl rfl (aJ rfl)) qJ)
 simp only [patch,sc0,sc1]
 refine qI (vs:=[]) (caps:=[]) Tryz.call90 rfl rfl rH.calls ?_
 rintro _ w3 ⟨b2,es,cl,ks,rfl,hge,hb,hk,hok,hE3⟩
 refine ⟨_,rfl,?_⟩
 refine Hg ?_
 try simp only [sc0,sc1]
 have HS3:=HS2.step hE3
 have hlk:=O8 Yp (fun a b h=>Dq.1 h) a0 hk Tryz.runUnderlying178 hb (by rw [hok a0];exact hk0)
 refine vC [fvI a0] ?_ rfl rfl ?_
 ·simp only [patch,sc0,sc1]
  exact gK (gQ (v:=jF a0) rfl rfl rfl rfl (aZ (n:=2) (vs:=[vI a0.aP,vB a0.aN]) rfl Tryz.isAgg29 (HS3.look 0 rfl) Tryz.sizeOf29 rfl rfl)) (gK (gQ (v:=fvI a0) rfl rfl rfl rfl (NJ rfl rfl hlk)) (gK (gQ rfl rfl rfl rfl (aJ rfl)) qJ))
 simp only [patch,sc0,sc1]
 refine qI (vs:=[vI a1]) (caps:=[]) (Qh a0) rfl rfl (NI a0 a1 HS3.sees) ?_
 rintro _ w4 ⟨rfl,hE4⟩
 refine ⟨_,rfl,?_⟩
 refine Hg ?_
 try simp only [sc0,sc1]
 have HS4:=HS3.step hE4
 refine wH [vI (wrp a0 a1)] ?_ ?_
 ·simp only [patch,sc0,sc1]
  exact gK (gQ rfl rfl rfl rfl (aB rfl)) qJ
 simp only [patch,sc0,sc1]
 exact ak<|wp_ret<|bodyPost_ret (aV rfl (aX rfl)) rfl<|⟨rfl,HS4.toE⟩
end Go.Proofs.YtecpbadkdpbkpaaGreatDoor
namespace Go.Proofs.YtecpbadkdpbkpaaGreatDoor
open Go.RowKit Go.M
def oL.f (a0:dL) (a1:Int):Option (Int×Int):=(jq.f a0).bind fun v1=>(if (v1 !=0)=true then (some (0,v1)) else ((qy.f a0 a1).bind fun v2=>(some (v2,0))))
set_option maxRecDepth 20000 in
set_option maxHeartbeats 4000000 in
theorem oL.calls (a0:dL) (a1:Int) {h0:View} {w0:World} (hv:jL h0 w0) {r:Int×Int} (H:oL.f a0 a1=some r):Calls Tryz.prog 21 #[Value.agg #[vI a0.aP,vB a0.aN],vI a1] w0 (fun e w1=>e= .returned (Value.tuple #[vI r.1,vI r.2])∧Ext w0 w1):=by
 unfold oL.f at H
 have HS:St [] h0 w0 h0 [] w0:=St.init hv
 go_enter Tryz.func21,Tryz.ntmps21
 refine wp_seq<|region<|dU rfl rfl (dY (cs:=#[vI a0.aP,vB a0.aN]) rfl rfl) ?_
 rintro w1 _ hE1 ⟨b1,rfl,ge1,hb1⟩
 have HS1:=HS.new hE1 ge1 hb1
 refine rs (vI 0) (aB rfl)<|rs (vI 0) (aB rfl) ?_
 try simp only [sc0,sc1]
 refine aA<|ak<|wp_seq<|wp_seq<|region<|rs (Value.agg #[vI a0.aP,vB a0.aN]) (aZ (n:=2) (vs:=[vI a0.aP,vB a0.aN]) rfl Tryz.isAgg29 (HS1.look 0 rfl) Tryz.sizeOf29 rfl rfl) ?_
 obtain ⟨v1,H1,H⟩:=bJ H
 refine run_eq (v:=vI v1) rfl rfl (bf Tryz.call56 rfl rfl (jq.calls a0 HS1.sees H1)) ?_
 intro w2 hE2
 have HS2:=HS1.step hE2
 refine rs (vI v1) (aB rfl) ?_
 try simp only [sc0,sc1]
 refine aA<|ak<|wp_seq<|region<|rs (vI v1) (aJ rfl)<|rs (vB (v1 !=0)) (bK rfl rfl rfl) ?_
 try simp only [sc0,sc1]
 refine aA<|ak<|wp_cond_split (t:=(v1 !=0)) rfl (fun c1=>?_) (fun c1=>?_)
 ·replace H:=bM H c1
  refine wp_seq<|region<|rs (vI v1) (aJ rfl)<|rs (vI 0) (aB rfl)<|rs (vI v1) (aB rfl) ?_
  try simp only [sc0,sc1]
  refine aA<|ak<|wp_ret<|aW ?_
  obtain rfl:=Option.some.inj H
  exact bodyPost_ret (fM rfl (aX rfl) (aX rfl)) rfl<|⟨rfl,HS2.toE⟩
 ·replace H:=bW H (nt c1)
  refine wp_skip<|ak<|wp_seq<|region<|rs (Value.agg #[vI a0.aP,vB a0.aN]) (aZ (n:=2) (vs:=[vI a0.aP,vB a0.aN]) rfl Tryz.isAgg29 (HS2.look 0 rfl) Tryz.sizeOf29 rfl rfl)<|rs (vI a1) (aJ rfl) ?_
  obtain ⟨v2,H2,H⟩:=bJ H
  refine run_eq (v:=vI v2) rfl rfl (bf Tryz.call57 rfl rfl (qy.calls a0 a1 HS2.sees H2)) ?_
  intro w3 hE3
  have HS3:=HS2.step hE3
  refine rs (vI v2) (aB rfl)<|aI (by simp only [sc0,sc1];rfl) ?_
  refine rs (vI 0) (aB rfl) ?_
  try simp only [sc0,sc1]
  refine aA<|ak<|wp_ret ?_
  obtain rfl:=Option.some.inj H
  exact bodyPost_ret (fM rfl (aX rfl) (aX rfl)) rfl<|⟨rfl,HS3.toE⟩

end Go.Proofs.YtecpbadkdpbkpaaGreatDoor
namespace Go.Proofs.YtecpbadkdpbkpaaGreatDoor
open Go.RowKit Go.M
def iL.l0 (a0:dL):Nat→Int→Int→(List Int)→Option ((List Int))
 |0,_,_,_=>none
 |m+1,aG,dB,jl=>if (decide (dB<a0.aP))=true then (if jl.length+1≤4294967296 then (iL.l0 a0 m (QA .i64 aG 8) (IntKind.wrap .i64 (dB+1)) (jl++([(IntKind.wrap .u8 aG)]:List Int))) else none) else (some jl)
def iL.f (k:Nat) (a0:dL) (a1:Int):Option ((List Int)×Int):=(jq.f a0).bind fun v1=>(if (v1 !=0)=true then (some (([]:List Int),v1)) else ((iL.l0 a0 k a1 0 ([]:List Int)).bind fun xx1=>(some (xx1,0))))
set_option maxRecDepth 20000 in
set_option maxHeartbeats 4000000 in
theorem iL.calls (k:Nat) (a0:dL) (a1:Int) {h0:View} {w0:World} (hv:jL h0 w0) {r:(List Int)×Int} (H:iL.f k a0 a1=some r):Calls Tryz.prog 86 #[Value.agg #[vI a0.aP,vB a0.aN],vI a1] w0 (fun e w1=>∃(h1:View) (bU:Option Addr) (bV:Nat),e= .returned (Value.tuple #[vL bU r.1.length bV,vI r.2])∧r.1.length≤bV∧Rd (Kd.int .u8) h1 bU r.1∧Gr w0.heap.size h0 h1∧jL h1 w1∧Ext w0 w1):=by
 unfold iL.f at H
 have HS:St [] h0 w0 h0 [] w0:=St.init hv
 go_enter Tryz.func86,Tryz.ntmps86
 refine wp_seq<|region<|dU rfl rfl (dY (cs:=#[vI a0.aP,vB a0.aN]) rfl rfl) ?_
 rintro w1 _ hE1 ⟨b1,rfl,ge1,hb1⟩
 have HS1:=HS.new hE1 ge1 hb1
 refine rs (vL none 0 0) (aB rfl)<|rs (vI 0) (aB rfl) ?_
 try simp only [sc0,sc1]
 refine aA<|ak<|wp_seq<|wp_seq<|region<|rs (Value.agg #[vI a0.aP,vB a0.aN]) (aZ (n:=2) (vs:=[vI a0.aP,vB a0.aN]) rfl Tryz.isAgg29 (HS1.look 0 rfl) Tryz.sizeOf29 rfl rfl) ?_
 obtain ⟨v1,H1,H⟩:=bJ H
 refine run_eq (v:=vI v1) rfl rfl (bf Tryz.call56 rfl rfl (jq.calls a0 HS1.sees H1)) ?_
 intro w2 hE2
 have HS2:=HS1.step hE2
 refine rs (vI v1) (aB rfl) ?_
 try simp only [sc0,sc1]
 refine aA<|ak<|wp_seq<|region<|rs (vI v1) (aJ rfl)<|rs (vB (v1 !=0)) (bK rfl rfl rfl) ?_
 try simp only [sc0,sc1]
 refine aA<|ak<|wp_cond_split (t:=(v1 !=0)) rfl (fun c1=>?_) (fun c1=>?_)
 ·replace H:=bM H c1
  refine wp_seq<|region<|rs (vI v1) (aJ rfl)<|rs (vL none 0 0) (aB rfl)<|rs (vI v1) (aB rfl) ?_
  try simp only [sc0,sc1]
  refine aA<|ak<|wp_ret<|aW ?_
  obtain rfl:=Option.some.inj H
  exact bodyPost_ret (fM rfl (aX rfl) (aX rfl)) rfl<|⟨h0,none,0,rfl,(Nat.le_refl 0),(Rd.nil _ _ _),HS2.gr,HS2.sees,HS2.toE⟩
 ·replace H:=bW H (nt c1)
  refine wp_skip<|ak<|wp_seq<|region<|rs (vL none 0 0) (aB rfl) ?_
  try simp only [sc0,sc1]
  refine aA<|ak<|wp_seq<|wp_seq<|region<|rs (vP b1 0) (aH (n:=1) (o':=0) rfl Tryz.runUnderlying29 rfl Tryz.sizeOf3 (by decide) rfl)<|rs (vI a0.aP) (aK rfl Tryz.isAgg3 (HS2.look 0 rfl) rfl)<|rs (vI 0) (aJ rfl) ?_
  try simp only [sc0,sc1]
  refine aA<|ak ?_
  have HS3:=HS2.nothing (.cells ([]:List Value).toArray 5 (0,0))
  obtain ⟨xx1,H,G1⟩:=bJ H
  refine jm [1,7,15,16,17,18,19,20,21,22,23,24] (fun m us w'=>∃aG dB:Int,∃jl:List Int,∃(lU:Option Nat) (sQ:Nat),∃(nO:List Value),Fit us (fun uy1=>[vI aG,vL (rowA lU) jl.length sQ,vI dB,(uy1 3),(uy1 4),(uy1 5),(uy1 6),(uy1 7),(uy1 8),(uy1 9),(uy1 10),(uy1 11)])∧iL.l0 a0 m aG dB jl=some xx1∧gY (Kd.int .u8) h0 jl lU jl.length sQ nO∧St [] h0 w0 h0 [(lU, .cells (nO).toArray 5 (0,0)),(some b1, .cells #[vI a0.aP,vB a0.aN] 29 (0,0))] w') (fun us w'=>∃(kT:Option Nat) (qp:Nat),∃(kD:List Value),Fit us (fun uo1=>[(uo1 0),vL (rowA kT) xx1.length qp,(uo1 2),(uo1 3),(uo1 4),(uo1 5),(uo1 6),(uo1 7),(uo1 8),(uo1 9),(uo1 10),(uo1 11)])∧gY (Kd.int .u8) h0 xx1 kT xx1.length qp kD∧St [] h0 w0 h0 [(kT, .cells (kD).toArray 5 (0,0)),(some b1, .cells #[vI a0.aP,vB a0.aN] 29 (0,0))] w') k ⟨a1,0,([]:List Int),none,0,([]:List Value),(fit rfl),H,(gY.none' (Kd.int .u8) _).norm,HS3⟩ ?_ ?_
  ·rintro m us w3 ⟨aG,dB,jl,lU,sQ,nO,ng,H,xP,HS4⟩
   obtain ⟨uy1,rfl⟩:=unj ng
   cases m with
   |zero=>exact absurd H (by simp [iL.l0])
   |succ m=>
    rw [iL.l0] at H
    try simp only [patch,sc0,sc1]
    refine wp_seq<|region<|rs (vB (decide (dB<a0.aP))) (bK rfl rfl rfl) ?_
    try simp only [sc0,sc1]
    refine aA<|ak<|wp_seq<|wp_cond_split (t:=(decide (dB<a0.aP))) rfl (fun c2=>?_) (fun c2=>?_)
    ·replace H:=bM H c2
     refine wp_skip<|ak<|wp_seq<|wp_block<|wp_seq<|region<|rs (vL (rowA lU) jl.length sQ) (aJ rfl)<|rs (vI aG) (aJ rfl)<|rs (Value.int .u8 (IntKind.wrap .u8 aG)) (nR rfl Tryz.runUnderlying2 Tryz.runUnderlying5)<|DY (Kd.int .u8) (xs:=([(IntKind.wrap .u8 aG)]:List Int)) (n:=1) (cs:=[Value.int .u8 (IntKind.wrap .u8 aG)]) Tryz.runUnderlying42 Tryz.typeInfo5 Tryz.zeroValue5 rfl rfl (by decide) (by decide) (by decide) [Value.int .u8 (IntKind.wrap .u8 aG)] (uX.trans rfl) rfl rfl rfl rfl (tJ (qs:=[Value.int .u8 (IntKind.wrap .u8 aG)]) rfl (uV (cs:=[]))) HS4 ?_
     intro w4 b2 HS5 ho1
     refine aI (by simp only [sc0,sc1];rfl) ?_
     obtain ⟨hl1,H⟩:=eG H
     refine Fq (Kd.int .u8) (q:=1) (cs:=nO) rfl rfl Tryz.runUnderlying42 Tryz.typeInfo5 Tryz.zeroValue5 rfl (by decide) rfl (Fv Tryz.runUnderlying42 HS5 (i:=0) rfl ho1 rfl) ho1.len (qG ho1) hl1 HS5 rfl xP ?_
     intro w5 ob1 c3 cs1 HS6 ho2
     refine rs (vL (rowA ob1) (jl.length+1) c3) (aB rfl) ?_
     try simp only [sc0,sc1]
     refine aA<|ak<|region<|rs (vI aG) (aJ rfl)<|rs (vI (QA .i64 aG 8)) (XH rfl rfl (by decide))<|rs (vI (QA .i64 aG 8)) (aB rfl) ?_
     try simp only [sc0,sc1]
     refine aA<|dI<|ak<|region<|rs (vI (w64 (dB+1))) (bK rfl rfl rfl)<|rs (vI (w64 (dB+1))) (aJ rfl) ?_
     try simp only [sc0,sc1]
     refine aA<|gZ m (Nat.lt_succ_self m) rfl ⟨(QA .i64 aG 8),(w64 (dB+1)),(jl++([(IntKind.wrap .u8 aG)]:List Int)),ob1,c3,cs1,(fit (by first|rfl|(rw [ho2.len];done)|(rw [ho2.len];rfl))),H,ho2.norm,HS6.tail⟩
    ·replace H:=bW H (nt c2)
     refine wp_exit<|eY ?_
     obtain rfl:=Option.some.inj H
     refine iG rfl ⟨lU,sQ,nO,(fit rfl),xP.norm,HS4⟩
  ·rintro us w6 ⟨kT,qp,kD,ni,lC,HS7⟩
   obtain ⟨uo1,rfl⟩:=unj ni
   replace H:=G1
   clear G1
   try simp only [patch,sc0,sc1]
   refine ak<|wp_seq<|region<|rs (vL (rowA kT) xx1.length qp) (aJ rfl)<|rs (vL (rowA kT) xx1.length qp) (aB rfl)<|rs (vI 0) (aB rfl) ?_
   try simp only [sc0,sc1]
   refine aA<|ak<|wp_ret ?_
   obtain rfl:=Option.some.inj H
   refine bodyPost_ret (fM rfl (aX rfl) (aX rfl)) rfl ?_
   obtain ⟨h1,HS8,hs1,Ju⟩:=qC HS7 (i:=0) rfl lC
   exact ⟨h1,(rowA kT),qp,rfl,lC.cap,Ju,HS8.gr,HS8.sees,HS8.toE⟩

end Go.Proofs.YtecpbadkdpbkpaaGreatDoor
namespace Go.Proofs.YtecpbadkdpbkpaaGreatDoor
open Go.RowKit Go.M
def oM.f (k:Nat) (a0:List Int) (a1:Int) (a2:dL) (a3:Int):Option ((List Int)):=(oL.f a2 a3).bind fun v1=>((iL.f k a2 v1.1).bind fun v2=>(if 0≤a1∧a1≤((a0.length:Nat):Int) then (if (a1.toNat)+v2.1.length≤a0.length then (some (splice a0 (a1.toNat) v2.1)) else none) else none))
set_option maxRecDepth 20000 in
set_option maxHeartbeats 4000000 in
theorem oM.calls (k:Nat) (a0:List Int) (a1:Int) (a2:dL) (a3:Int) (DT:Option Nat) (ca0:Nat) (Un:List Value) {h0:View} {w0:World} {h:View} {w:World} {rest:List Res} (HS:St [] h0 w0 h ((DT, .cells (Un).toArray 5 (0,0))::rest) w) (Uo:gY (Kd.int .u8) h a0 DT a0.length ca0 Un) {r:(List Int)} (H:oM.f k a0 a1 a2 a3=some r):Calls Tryz.prog 43 #[vL (rowA DT) a0.length ca0,vI a1,Value.agg #[vI a2.aP,vB a2.aN],vI a3] w (fun e w1=>∃h1:View,∃EX:List Value,e= .returned (Value.tuple #[])∧gY (Kd.int .u8) h1 r DT a0.length ca0 EX∧Sub h h1∧St [] h0 w0 h1 ((DT, .cells (EX).toArray 5 (0,0))::rest) w1):=by
 unfold oM.f at H
 have hsub:Sub h h:=Sub.rfl' h
 go_enter Tryz.func43,Tryz.ntmps43
 refine wp_seq<|region<|dU rfl rfl (dY (cs:=#[vI a2.aP,vB a2.aN]) rfl rfl) ?_
 rintro w1 _ hE1 ⟨b1,rfl,ge1,hb1⟩
 have HS1:=HS.new hE1 ge1 hb1
 try simp only [sc0,sc1]
 refine aA<|ak<|wp_seq<|region<|rs (Value.agg #[vI a2.aP,vB a2.aN]) (aZ (n:=2) (vs:=[vI a2.aP,vB a2.aN]) rfl Tryz.isAgg29 (HS1.look 0 rfl) Tryz.sizeOf29 rfl rfl)<|rs (vI a3) (aJ rfl) ?_
 obtain ⟨v1,H1,H⟩:=bJ H
 refine run_eq (v:=Value.tuple #[vI v1.1,vI v1.2]) rfl rfl (bf Tryz.call21 rfl rfl (oL.calls a2 a3 HS1.sees H1)) ?_
 intro w2 hE2
 have HS2:=HS1.step hE2
 refine rs (Value.tuple #[vI v1.1,vI v1.2]) (aJ rfl)<|aI (by simp only [sc0,sc1];rfl) ?_
 refine rs (vI v1.1) (fF rfl rfl)<|rs (vI v1.2) (fF rfl rfl)<|rs (vI v1.1) (aB rfl)<|rs (vI v1.2) (aB rfl) ?_
 try simp only [sc0,sc1]
 refine aA<|ak<|wp_seq<|region<|rs (Value.agg #[vI a2.aP,vB a2.aN]) (aZ (n:=2) (vs:=[vI a2.aP,vB a2.aN]) rfl Tryz.isAgg29 (HS2.look 0 rfl) Tryz.sizeOf29 rfl rfl)<|rs (vI v1.1) (aJ rfl) ?_
 obtain ⟨v2,H2,H⟩:=bJ H
 refine dU rfl rfl (kP Tryz.call86 rfl (nT (h:=h) (R:=(fun hx u=>∃(gG:Option Addr) (gI:Nat),u=Value.tuple #[vL gG v2.1.length gI,vI v2.2]∧v2.1.length≤gI∧Rd (Kd.int .u8) hx gG v2.1)) (Ext.rfl' w2) ((iL.calls k a2 v1.1 HS2.sees H2).mono ?_)) rfl) ?_
 ·rintro _ _ ⟨h1,gG,gI,rfl,mQ,jH,g,ss,x⟩
  exact ⟨h1,_,rfl,⟨gG,gI,rfl,mQ,jH⟩,g,ss,x⟩
 rintro w3 _ hE3 ⟨h1,⟨gG,gI,rfl,mQ,jH⟩,gr1,se1⟩
 have HS3:=HS2.view hE3 gr1 se1
 replace hsub:Sub h h1:=hsub.then gr1.1
 replace Uo:=Uo.view gr1.1
 refine rs (Value.tuple #[vL gG v2.1.length gI,vI v2.2]) (aJ rfl)<|aI (by simp only [sc0,sc1];rfl) ?_
 refine rs (vL gG v2.1.length gI) (fF rfl rfl)<|rs (vI v2.2) (fF rfl rfl)<|rs (vL gG v2.1.length gI) (aB rfl)<|rs (vI v2.2) (aB rfl) ?_
 try simp only [sc0,sc1]
 refine aA<|ak<|region<|rs (vL (rowA DT) a0.length ca0) (aJ rfl)<|rs (vI a1) (aJ rfl) ?_
 obtain ⟨hk1,H⟩:=eG H
 refine rs (vL (pF (rowA DT) ca0 (a1.toNat) 1) (a0.length-(a1.toNat)) (ca0-(a1.toNat))) (DZ rfl Tryz.runUnderlying42 Tryz.sizeOf5 rfl hk1)<|rs (vL gG v2.1.length gI) (aJ rfl)<|aI (by simp only [sc0,sc1];rfl) ?_
 obtain ⟨nw1,sr1,hn1⟩:=Vb (c:=gI) jO Tryz.runUnderlying42 HS3.sees jH
 obtain ⟨hl1,H⟩:=eG H
 refine Vf (Kd.int .u8) (q:=1) (cs:=Un) (i:=default) rfl rfl Tryz.runUnderlying42 Tryz.sizeOf5 sr1 rfl hn1 hl1 HS3 rfl Uo ?_
 intro w4 cs1 HS4 ho1
 try simp only [sc0,sc1]
 refine aA ?_
 obtain rfl:=Option.some.inj H
 refine bodyPost_end (results_none rfl _ _ _) rfl ?_
 have HS5:=HS4.d0
 exact ⟨h1,cs1,rfl,ho1,hsub,HS5⟩

end Go.Proofs.YtecpbadkdpbkpaaGreatDoor
namespace Go.Proofs.YtecpbadkdpbkpaaGreatDoor
open Go.RowKit Go.M
def fG.l0 (k:Nat) (a0:aU) (a1:Int) (a2:List kR):Nat→Int→(List Int)→Option (((List Int)×Int)⊕((List Int)))
 |0,_,_=>none
 |m+1,aG,dB=>if (decide (aG<(a2.length:Int)))=true then (if 0≤aG∧aG<a2.length then ((gq.f k a0 a1 ((rd dD a2 aG).lV)).bind fun v3=>(if (v3.2.2 !=0)=true then (some (.inl (([]:List Int),v3.2.2))) else ((jo.f k a0 v3.1).bind fun v4=>(if (!v4.2)=true then (some (.inl (([]:List Int),5))) else ((oM.f k dB v3.2.1 v4.1 ((rd dD a2 aG).vV)).bind fun v5=>(fG.l0 k a0 a1 a2 m (IntKind.wrap .i64 (aG+1)) v5)))))) else none) else (some (.inr dB))
def fG.f (k:Nat) (a0:aU) (a1:Int) (a2:List kR):Option ((List Int)×Int):=(iV.f k a0).bind fun v1=>(if (v1 !=0)=true then (some (([]:List Int),v1)) else ((jX.f k a0 a1).bind fun v2=>(if (v2.2 !=0)=true then (some (([]:List Int),v2.2)) else (if (decide ((a2.length:Int)>100))=true then (some (([]:List Int),2)) else (if 0≤v2.1∧v2.1≤4294967296 then ((fG.l0 k a0 a1 a2 k 0 (List.replicate v2.1.toNat (0:Int))).bind fun xx1=>(match xx1 with| .inl r=>some r| .inr s1=>some (s1,0))) else none)))))
set_option maxRecDepth 20000 in
set_option maxHeartbeats 4000000 in
theorem fG.calls (k:Nat) (a0:aU) (a1:Int) (a2:List kR) (bU:Option Addr) (bV:Nat) (sV:Option Addr) (sW:Nat) {h0:View} {w0:World} (hv:jL h0 w0) (fK:Rd dV h0 bU a0.ay) (iw:a0.ay.length≤bV) (zG:Rd nK h0 sV a2) (JA:a2.length≤sW) {r:(List Int)×Int} (H:fG.f k a0 a1 a2=some r):Calls Tryz.prog 13 #[Value.agg #[vL bU a0.ay.length bV],vI a1,vL sV a2.length sW] w0 (fun e w1=>∃(h1:View) (bU:Option Addr) (bV:Nat),e= .returned (Value.tuple #[vL bU r.1.length bV,vI r.2])∧r.1.length≤bV∧Rd (Kd.int .u8) h1 bU r.1∧Gr w0.heap.size h0 h1∧jL h1 w1∧Ext w0 w1):=by
 unfold fG.f at H
 have HS:St [] h0 w0 h0 [] w0:=St.init hv
 go_enter Tryz.func13,Tryz.ntmps13
 refine wp_seq<|region<|dU rfl rfl (dY (cs:=#[vL bU a0.ay.length bV]) rfl rfl) ?_
 rintro w1 _ hE1 ⟨b1,rfl,ge1,hb1⟩
 have HS1:=HS.new hE1 ge1 hb1
 refine rs (vL none 0 0) (aB rfl)<|rs (vI 0) (aB rfl) ?_
 try simp only [sc0,sc1]
 refine aA<|ak<|wp_seq<|wp_seq<|region<|rs (Value.agg #[vL bU a0.ay.length bV]) (aZ (n:=1) (vs:=[vL bU a0.ay.length bV]) rfl Tryz.isAgg24 (HS1.look 0 rfl) Tryz.sizeOf24 rfl rfl) ?_
 obtain ⟨v1,H1,H⟩:=bJ H
 refine run_eq (v:=vI v1) rfl rfl (bf Tryz.call34 rfl rfl (iV.calls k a0 bU bV HS1.sees fK iw H1)) ?_
 intro w2 hE2
 have HS2:=HS1.step hE2
 refine rs (vI v1) (aB rfl) ?_
 try simp only [sc0,sc1]
 refine aA<|ak<|wp_seq<|region<|rs (vI v1) (aJ rfl)<|rs (vB (v1 !=0)) (bK rfl rfl rfl) ?_
 try simp only [sc0,sc1]
 refine aA<|ak<|wp_cond_split (t:=(v1 !=0)) rfl (fun c1=>?_) (fun c1=>?_)
 ·replace H:=bM H c1
  refine wp_seq<|region<|rs (vI v1) (aJ rfl)<|rs (vL none 0 0) (aB rfl)<|rs (vI v1) (aB rfl) ?_
  try simp only [sc0,sc1]
  refine aA<|ak<|wp_ret<|aW ?_
  obtain rfl:=Option.some.inj H
  exact bodyPost_ret (fM rfl (aX rfl) (aX rfl)) rfl<|⟨h0,none,0,rfl,(Nat.le_refl 0),(Rd.nil _ _ _),HS2.gr,HS2.sees,HS2.toE⟩
 ·replace H:=bW H (nt c1)
  refine wp_skip<|ak<|wp_seq<|region<|rs (Value.agg #[vL bU a0.ay.length bV]) (aZ (n:=1) (vs:=[vL bU a0.ay.length bV]) rfl Tryz.isAgg24 (HS2.look 0 rfl) Tryz.sizeOf24 rfl rfl)<|rs (vI a1) (aJ rfl) ?_
  obtain ⟨v2,H2,H⟩:=bJ H
  refine run_eq (v:=Value.tuple #[vI v2.1,vI v2.2]) rfl rfl (bf Tryz.call42 rfl rfl (jX.calls k a0 a1 bU bV HS2.sees fK iw H2)) ?_
  intro w3 hE3
  have HS3:=HS2.step hE3
  refine rs (Value.tuple #[vI v2.1,vI v2.2]) (aJ rfl)<|aI (by simp only [sc0,sc1];rfl) ?_
  refine rs (vI v2.1) (fF rfl rfl)<|rs (vI v2.2) (fF rfl rfl)<|rs (vI v2.1) (aB rfl)<|rs (vI v2.2) (aB rfl) ?_
  try simp only [sc0,sc1]
  refine aA<|ak<|wp_seq<|wp_seq<|region<|rs (vI v2.2) (aJ rfl)<|rs (vB (v2.2 !=0)) (bK rfl rfl rfl) ?_
  try simp only [sc0,sc1]
  refine aA<|ak<|wp_cond_split (t:=(v2.2 !=0)) rfl (fun c2=>?_) (fun c2=>?_)
  ·replace H:=bM H c2
   refine wp_seq<|region<|rs (vI v2.2) (aJ rfl)<|rs (vL none 0 0) (aB rfl)<|rs (vI v2.2) (aB rfl) ?_
   try simp only [sc0,sc1]
   refine aA<|ak<|wp_ret<|aW ?_
   obtain rfl:=Option.some.inj H
   exact bodyPost_ret (fM rfl (aX rfl) (aX rfl)) rfl<|⟨h0,none,0,rfl,(Nat.le_refl 0),(Rd.nil _ _ _),HS3.gr,HS3.sees,HS3.toE⟩
  ·replace H:=bW H (nt c2)
   refine wp_skip<|ak<|wp_seq<|wp_seq<|region<|rs (vL sV a2.length sW) (aJ rfl)<|rs (vI (a2.length:Int)) (jJ rfl Tryz.runUnderlying41)<|rs (vB (decide ((a2.length:Int)>100))) (bK rfl rfl rfl) ?_
   try simp only [sc0,sc1]
   refine aA<|ak<|wp_cond_split (t:=(decide ((a2.length:Int)>100))) rfl (fun c3=>?_) (fun c3=>?_)
   ·replace H:=bM H c3
    refine wp_seq<|region<|rs (vL none 0 0) (aB rfl)<|rs (vI 2) (aB rfl) ?_
    try simp only [sc0,sc1]
    refine aA<|ak<|wp_ret<|aW ?_
    obtain rfl:=Option.some.inj H
    exact bodyPost_ret (fM rfl (aX rfl) (aX rfl)) rfl<|⟨h0,none,0,rfl,(Nat.le_refl 0),(Rd.nil _ _ _),HS3.gr,HS3.sees,HS3.toE⟩
   ·replace H:=bW H (nt c3)
    refine wp_skip<|ak<|wp_seq<|region<|rs (vI v2.1) (aJ rfl) ?_
    obtain ⟨hk1,H⟩:=eG H
    refine run_mk (Kd.int .u8) 0 (zs:=[Value.int .u8 0]) rfl rfl hk1 Tryz.runUnderlying42 Tryz.typeInfo5 (by decide) rfl Tryz.zeroValue5 rfl rfl HS3 ?_
    intro w4 b2 cs1 HS4 ho1
    refine rs (vL (rowA (some b2)) v2.1.toNat v2.1.toNat) (aB rfl) ?_
    try simp only [sc0,sc1]
    refine aA<|ak<|wp_seq<|wp_seq<|region<|rs (vL sV a2.length sW) (aJ rfl)<|rs (vI (a2.length:Int)) (jJ rfl Tryz.runUnderlying41)<|rs (vI 0) (aJ rfl) ?_
    try simp only [sc0,sc1]
    refine aA<|ak ?_
    obtain ⟨xx1,H,G1⟩:=bJ H
    refine jm [6,7,13,14,15,16,17,18,40,41,42,43,44,45,46,47,48,49,50,51,52,53,54,55,56,57,58,59,60,61,62,63,64,65,66,67,68,69,70] (fun m us w'=>∃aG:Int,∃dB:List Int,∃h1:View,∃iO:List Value,Fit us (fun uy1=>[(uy1 0),(uy1 1),(uy1 2),(uy1 3),(uy1 4),(uy1 5),(uy1 6),(uy1 7),vI aG,(uy1 9),(uy1 10),(uy1 11),(uy1 12),(uy1 13),(uy1 14),(uy1 15),(uy1 16),(uy1 17),(uy1 18),(uy1 19),(uy1 20),(uy1 21),(uy1 22),(uy1 23),(uy1 24),(uy1 25),(uy1 26),(uy1 27),(uy1 28),(uy1 29),(uy1 30),(uy1 31),(uy1 32),(uy1 33),(uy1 34),(uy1 35),(uy1 36),(uy1 37),(uy1 38)])∧fG.l0 k a0 a1 a2 m aG dB=some xx1∧gY (Kd.int .u8) h1 dB (some b2) v2.1.toNat v2.1.toNat iO∧St [] h0 w0 h1 [((some b2), .cells (iO).toArray 5 (0,0)),(some b1, .cells #[vL bU a0.ay.length bV] 24 (0,0))] w') (fun us w'=>∃(s1:(List Int)),xx1= .inr s1∧∃h3:View,∃kD:List Value,Fit us (fun uo1=>[(uo1 0),(uo1 1),(uo1 2),(uo1 3),(uo1 4),(uo1 5),(uo1 6),(uo1 7),(uo1 8),(uo1 9),(uo1 10),(uo1 11),(uo1 12),(uo1 13),(uo1 14),(uo1 15),(uo1 16),(uo1 17),(uo1 18),(uo1 19),(uo1 20),(uo1 21),(uo1 22),(uo1 23),(uo1 24),(uo1 25),(uo1 26),(uo1 27),(uo1 28),(uo1 29),(uo1 30),(uo1 31),(uo1 32),(uo1 33),(uo1 34),(uo1 35),(uo1 36),(uo1 37),(uo1 38)])∧gY (Kd.int .u8) h3 s1 (some b2) v2.1.toNat v2.1.toNat kD∧St [] h0 w0 h3 [((some b2), .cells (kD).toArray 5 (0,0)),(some b1, .cells #[vL bU a0.ay.length bV] 24 (0,0))] w') k ⟨0,(List.replicate v2.1.toNat (0:Int)),h0,cs1,(fit rfl),H,ho1,HS4⟩ ?_ ?_
    ·rintro m us w5 ⟨aG,dB,h1,iO,ng,H,jD,HS5⟩
     obtain ⟨uy1,rfl⟩:=unj ng
     cases m with
     |zero=>exact absurd H (by simp [fG.l0])
     |succ m=>
      rw [fG.l0] at H
      try simp only [patch,sc0,sc1]
      refine wp_seq<|region<|rs (vB (decide (aG<(a2.length:Int)))) (bK rfl rfl rfl) ?_
      try simp only [sc0,sc1]
      refine aA<|ak<|wp_seq<|wp_cond_split (t:=(decide (aG<(a2.length:Int)))) rfl (fun c4=>?_) (fun c4=>?_)
      ·replace H:=bM H c4
       refine wp_skip<|ak<|wp_seq<|wp_block<|wp_seq<|region ?_
       obtain ⟨hi1,H⟩:=eG H
       obtain ⟨ad1,oN,qA,e1,lu,Gw,uI⟩:=xu (zG.ext HS5.sub) hi1.1 hi1.2
       refine rs (Value.pointer (some (Addr.add ad1 (aG.toNat*2)))) (dP (sz:=2) rfl e1 rfl hi1.1 hi1.2 Tryz.runUnderlying41 Tryz.sizeOf62)<|rs (Value.agg #[vL oN ((rd dD a2 aG).lV).length qA,vI ((rd dD a2 aG).vV)]) (ig rfl Tryz.isAgg62 (lu.sees HS5.sees) Tryz.sizeOf62)<|dU rfl rfl (fA (cs:=#[vL none 0 0,vI 0]) Tryz.zeroValue62 rfl) ?_
       rintro w6 _ hE4 ⟨b3,rfl,ge2,hb2⟩
       have HS6:=HS5.new hE4 ge2 hb2
       refine fV (i:=0) (cs:=[vL none 0 0,vI 0]) (cs':=[vL oN ((rd dD a2 aG).lV).length qA,vI ((rd dD a2 aG).vV)]) (vs:=[vL oN ((rd dD a2 aG).lV).length qA,vI ((rd dD a2 aG).vV)]) (bs':=[(some b3, .cells #[vL oN ((rd dD a2 aG).lV).length qA,vI ((rd dD a2 aG).vV)] 62 (0,0)),((some b2), .cells (iO).toArray 5 (0,0)),(some b1, .cells #[vL bU a0.ay.length bV] 24 (0,0))]) rfl rfl Tryz.sizeOf62 rfl rfl (by decide) rfl HS6 rfl (Nat.le_of_ble_eq_true rfl) rfl rfl ?_
       intro w7 HS7
       try simp only [sc0,sc1]
       refine aA<|ak<|wp_seq<|region<|rs (Value.agg #[vL bU a0.ay.length bV]) (aZ (n:=1) (vs:=[vL bU a0.ay.length bV]) rfl Tryz.isAgg24 (HS7.look 2 rfl) Tryz.sizeOf24 rfl rfl)<|rs (vI a1) (aJ rfl)<|rs (vP b3 0) (aH (n:=1) (o':=0) rfl Tryz.runUnderlying62 rfl Tryz.sizeOf30 (by decide) rfl)<|rs (vL oN ((rd dD a2 aG).lV).length qA) (aK rfl Tryz.isAgg30 (HS7.look 0 rfl) rfl)<|aI (by simp only [sc0,sc1];rfl) ?_
       obtain ⟨v3,H3,H⟩:=bJ H
       refine run_eq (v:=Value.tuple #[vI v3.1,vI v3.2.1,vI v3.2.2]) rfl rfl (bf Tryz.call19 rfl rfl (gq.calls k a0 a1 ((rd dD a2 aG).lV) bU bV oN qA HS7.sees (fK.ext HS7.sub) iw uI Gw H3)) ?_
       intro w8 hE5
       have HS8:=HS7.step hE5
       refine rs (Value.tuple #[vI v3.1,vI v3.2.1,vI v3.2.2]) (aJ rfl)<|rs (vI v3.1) (fF rfl rfl)<|rs (vI v3.2.1) (fF rfl rfl)<|aI (by simp only [sc0,sc1];rfl) ?_
       refine rs (vI v3.2.2) (fF rfl rfl)<|rs (vI v3.1) (aB rfl)<|rs (vI v3.2.1) (aB rfl)<|rs (vI v3.2.2) (aB rfl) ?_
       try simp only [sc0,sc1]
       refine aA<|ak<|wp_seq<|wp_seq<|region<|rs (vI v3.2.2) (aJ rfl)<|rs (vB (v3.2.2 !=0)) (bK rfl rfl rfl) ?_
       try simp only [sc0,sc1]
       refine aA<|ak<|wp_cond_split (t:=(v3.2.2 !=0)) rfl (fun c5=>?_) (fun c5=>?_)
       ·replace H:=bM H c5
        refine wp_seq<|region<|rs (vI v3.2.2) (aJ rfl)<|rs (vL none 0 0) (aB rfl)<|rs (vI v3.2.2) (aB rfl) ?_
        try simp only [sc0,sc1]
        refine aA<|ak<|wp_ret<|aW<|dn<|aW<|gJ<|aW ?_
        obtain rfl:=Option.some.inj H
        obtain rfl:=Option.some.inj G1
        exact bodyPost_ret (fM rfl (aX rfl) (aX rfl)) rfl<|⟨h1,none,0,rfl,(Nat.le_refl 0),(Rd.nil _ _ _),HS8.gr,HS8.sees,HS8.toE⟩
       ·replace H:=bW H (nt c5)
        refine wp_skip<|ak<|wp_seq<|region<|rs (Value.agg #[vL bU a0.ay.length bV]) (aZ (n:=1) (vs:=[vL bU a0.ay.length bV]) rfl Tryz.isAgg24 (HS8.look 2 rfl) Tryz.sizeOf24 rfl rfl)<|rs (vI v3.1) (aJ rfl) ?_
        obtain ⟨v4,H4,H⟩:=bJ H
        refine run_eq (v:=Value.tuple #[Value.agg #[vI v4.1.aP,vB v4.1.aN],vB v4.2]) rfl rfl (bf Tryz.call36 rfl rfl (jo.calls k a0 v3.1 bU bV HS8.sees (fK.ext HS8.sub) iw H4)) ?_
        intro w9 hE6
        have HS9:=HS8.step hE6
        refine rs (Value.tuple #[Value.agg #[vI v4.1.aP,vB v4.1.aN],vB v4.2]) (aJ rfl)<|aI (by simp only [sc0,sc1];rfl) ?_
        refine rs (Value.agg #[vI v4.1.aP,vB v4.1.aN]) (fF rfl rfl)<|rs (vB v4.2) (fF rfl rfl)<|dU rfl rfl (fA (cs:=#[vI 0,vB false]) Tryz.zeroValue29 rfl) ?_
        rintro w10 _ hE7 ⟨b4,rfl,ge3,hb3⟩
        have ru:=HS9.new hE7 ge3 hb3
        refine fV (i:=0) (cs:=[vI 0,vB false]) (cs':=[vI v4.1.aP,vB v4.1.aN]) (vs:=[vI v4.1.aP,vB v4.1.aN]) (bs':=[(some b4, .cells #[vI v4.1.aP,vB v4.1.aN] 29 (0,0)),(some b3, .cells #[vL oN ((rd dD a2 aG).lV).length qA,vI ((rd dD a2 aG).vV)] 62 (0,0)),((some b2), .cells (iO).toArray 5 (0,0)),(some b1, .cells #[vL bU a0.ay.length bV] 24 (0,0))]) rfl rfl Tryz.sizeOf29 rfl rfl (by decide) rfl ru rfl (Nat.le_of_ble_eq_true rfl) rfl rfl ?_
        intro w11 qw
        refine aI (by simp only [sc0,sc1];rfl) ?_
        refine rs (vB v4.2) (aB rfl) ?_
        try simp only [sc0,sc1]
        refine aA<|ak<|wp_seq<|wp_seq<|region<|rs (vB v4.2) (aJ rfl)<|rs (vB (!v4.2)) (lK rfl) ?_
        try simp only [sc0,sc1]
        refine aA<|ak<|wp_cond_split (t:=(!v4.2)) rfl (fun c6=>?_) (fun c6=>?_)
        ·replace H:=bM H c6
         refine wp_seq<|region<|rs (vL none 0 0) (aB rfl)<|rs (vI 5) (aB rfl) ?_
         try simp only [sc0,sc1]
         refine aA<|ak<|wp_ret<|aW<|dn<|aW<|gJ<|aW ?_
         obtain rfl:=Option.some.inj H
         obtain rfl:=Option.some.inj G1
         exact bodyPost_ret (fM rfl (aX rfl) (aX rfl)) rfl<|⟨h1,none,0,rfl,(Nat.le_refl 0),(Rd.nil _ _ _),qw.gr,qw.sees,qw.toE⟩
        ·replace H:=bW H (nt c6)
         refine wp_skip<|ak<|region<|rs (vL (rowA (some b2)) v2.1.toNat v2.1.toNat) (aJ rfl)<|rs (vI v3.2.1) (aJ rfl)<|rs (Value.agg #[vI v4.1.aP,vB v4.1.aN]) (aZ (n:=2) (vs:=[vI v4.1.aP,vB v4.1.aN]) rfl Tryz.isAgg29 (qw.look 0 rfl) Tryz.sizeOf29 rfl rfl)<|rs (vP b3 1) (aH (n:=1) (o':=1) rfl Tryz.runUnderlying62 rfl Tryz.sizeOf2 (by decide) rfl)<|aI (by simp only [sc0,sc1];rfl) ?_
         refine rs (vI ((rd dD a2 aG).vV)) (aK rfl Tryz.isAgg2 (qw.look 1 rfl) rfl) ?_
         obtain ⟨v5,H5,H⟩:=bJ H
         have ho2:=jD.norm
         have uf:=qw.f2
         refine qI (vs:=[vL (rowA (some b2)) dB.length v2.1.toNat,vI v3.2.1,Value.agg #[vI v4.1.aP,vB v4.1.aN],vI ((rd dD a2 aG).vV)]) (caps:=[]) Tryz.call43 rfl (YP (show _=vL (rowA (some b2)) dB.length v2.1.toNat from by first|rfl|(rw [jD.len];done)|(rw [jD.len];rfl)) rfl rfl rfl) (oM.calls k dB v3.2.1 v4.1 ((rd dD a2 aG).vV) (some b2) v2.1.toNat iO uf ho2 H5) ?_
         rintro _ w12 ⟨h2,Ur,rfl,NK,hs1,yC⟩
         refine ⟨_,rfl,?_⟩
         rw [jD.len] at NK
         replace lu:iF h2 (Addr.add ad1 (aG.toNat*2)) [vL oN ((rd dD a2 aG).lV).length qA,vI ((rd dD a2 aG).vV)]:=lu.sub hs1
         replace uI:Rd Kd.str h2 oN ((rd dD a2 aG).lV):=uI.ext hs1
         have DN:=yC.f3
         have Iy:=DN.f1
         have Bz:=Iy.f3
         have Jw:=Bz.f3
         try simp only [sc0,sc1]
         refine aA<|dI<|ak<|region<|rs (vI (w64 (aG+1))) (bK rfl rfl rfl)<|rs (vI (w64 (aG+1))) (aJ rfl) ?_
         try simp only [sc0,sc1]
         refine aA<|gZ m (Nat.lt_succ_self m) rfl ⟨(w64 (aG+1)),v5,h2,Ur,(fit rfl),H,NK,Jw.tail.tail⟩
      ·replace H:=bW H (nt c4)
       refine wp_exit<|eY ?_
       obtain rfl:=Option.some.inj H
       refine iG rfl ⟨_,rfl,h1,iO,(fit rfl),jD,HS5⟩
    ·rintro us w13 ⟨s1,rfl,h3,kD,ni,lC,Ry⟩
     obtain ⟨uo1,rfl⟩:=unj ni
     replace H:=G1
     clear G1
     try simp only [patch,sc0,sc1]
     refine ak<|wp_seq<|region<|rs (vL (rowA (some b2)) v2.1.toNat v2.1.toNat) (aJ rfl)<|rs (vL (rowA (some b2)) v2.1.toNat v2.1.toNat) (aB rfl)<|rs (vI 0) (aB rfl) ?_
     try simp only [sc0,sc1]
     refine aA<|ak<|wp_ret ?_
     obtain rfl:=Option.some.inj H
     refine bodyPost_ret (fM rfl (aX rfl) (aX rfl)) rfl ?_
     obtain ⟨h4,Qg,hs2,Ju⟩:=qC Ry (i:=0) rfl lC
     exact ⟨h4,(rowA (some b2)),v2.1.toNat,(by first|rfl|(rw [lC.len];done)|(rw [lC.len];rfl)),lC.cap,Ju,Qg.gr,Qg.sees,Qg.toE⟩

end Go.Proofs.YtecpbadkdpbkpaaGreatDoor
namespace Go.Proofs.YtecpbadkdpbkpaaGreatDoor
open Go.RowKit Go.M
def cZ.l0 (a0:aU):Nat→Int→Option (Int)
 |0,_=>none
 |m+1,aG=>if 0≤aG∧aG<a0.ay.length then (if ((rd ah a0.ay aG).aC==6)=true then (if 0≤aG∧aG<a0.ay.length then (cZ.l0 a0 m ((rd ah a0.ay aG).dM)) else none) else (some aG)) else none
def cZ.f (k:Nat) (a0:aU) (a1:Int):Option (Int):=(cZ.l0 a0 k a1).bind fun xx1=>(some xx1)
set_option maxRecDepth 20000 in
set_option maxHeartbeats 4000000 in
theorem cZ.calls (k:Nat) (a0:aU) (a1:Int) (bU:Option Addr) (bV:Nat) {h0:View} {w0:World} (hv:jL h0 w0) (fK:Rd dV h0 bU a0.ay) (iw:a0.ay.length≤bV) {r:Int} (H:cZ.f k a0 a1=some r):Calls Tryz.prog 55 #[Value.agg #[vL bU a0.ay.length bV],vI a1] w0 (fun e w1=>e= .returned (vI r)∧Ext w0 w1):=by
 unfold cZ.f at H
 have HS:St [] h0 w0 h0 [] w0:=St.init hv
 go_enter Tryz.func55,Tryz.ntmps55
 refine wp_seq<|region<|dU rfl rfl (dY (cs:=#[vL bU a0.ay.length bV]) rfl rfl) ?_
 rintro w1 _ hE1 ⟨b1,rfl,ge1,hb1⟩
 have HS1:=HS.new hE1 ge1 hb1
 refine rs (vI 0) (aB rfl) ?_
 try simp only [sc0,sc1]
 refine aA<|ak<|wp_seq ?_
 obtain ⟨xx1,H,G1⟩:=bJ H
 refine jm [1,5,6,7,8,9,10,11,12,13,14,15,16,17] (fun m us w'=>∃(aG:Int),Fit us (fun uy1=>[vI aG,(uy1 1),(uy1 2),(uy1 3),(uy1 4),(uy1 5),(uy1 6),(uy1 7),(uy1 8),(uy1 9),(uy1 10),(uy1 11),(uy1 12),(uy1 13)])∧cZ.l0 a0 m aG=some xx1∧St [] h0 w0 h0 [(some b1, .cells #[vL bU a0.ay.length bV] 24 (0,0))] w') (fun us w'=>Fit us (fun uo1=>[vI xx1,(uo1 1),(uo1 2),(uo1 3),(uo1 4),(uo1 5),(uo1 6),(uo1 7),(uo1 8),(uo1 9),(uo1 10),(uo1 11),(uo1 12),(uo1 13)])∧St [] h0 w0 h0 [(some b1, .cells #[vL bU a0.ay.length bV] 24 (0,0))] w') k ⟨a1,(fit rfl),H,HS1⟩ ?_ ?_
 ·rintro m us w2 ⟨aG,ng,H,HS2⟩
  obtain ⟨uy1,rfl⟩:=unj ng
  cases m with
  |zero=>exact absurd H (by simp [cZ.l0])
  |succ m=>
   rw [cZ.l0] at H
   try simp only [patch,sc0,sc1]
   refine wp_seq<|wp_seq<|region<|rs (vP b1 0) (aH (n:=1) (o':=0) rfl Tryz.runUnderlying24 rfl Tryz.sizeOf22 (by decide) rfl)<|rs (vL bU a0.ay.length bV) (aK rfl Tryz.isAgg22 (HS2.look 0 rfl) rfl)<|rs (vI aG) (aJ rfl) ?_
   obtain ⟨hi1,H⟩:=eG H
   obtain ⟨ad1,dG,dJ,e1,lu,jQ,iH⟩:=gy fK hi1.1 hi1.2
   refine rs (Value.pointer (some (Addr.add ad1 (aG.toNat*7)))) (dP (sz:=7) rfl e1 rfl hi1.1 hi1.2 Tryz.runUnderlying22 Tryz.sizeOf56)<|aI (by simp only [sc0,sc1];rfl) ?_
   refine rs (Value.pointer (some (Addr.add (Addr.add ad1 (aG.toNat*7)) 0))) (jr (n:=1) (o':=0) rfl Tryz.runUnderlying56 rfl Tryz.sizeOf3 (by decide) rfl)<|rs (vI ((rd ah a0.ay aG).aC)) (jC rfl Tryz.isAgg3 (lu.cell HS2.sees 0 rfl))<|rs (vB ((rd ah a0.ay aG).aC==6)) (bK rfl rfl rfl) ?_
   try simp only [sc0,sc1]
   refine aA<|ak<|wp_cond_split (t:=((rd ah a0.ay aG).aC==6)) rfl (fun c1=>?_) (fun c1=>?_)
   ·replace H:=bM H c1
    refine wp_skip<|ak<|wp_block<|region<|rs (vP b1 0) (aH (n:=1) (o':=0) rfl Tryz.runUnderlying24 rfl Tryz.sizeOf22 (by decide) rfl)<|rs (vL bU a0.ay.length bV) (aK rfl Tryz.isAgg22 (HS2.look 0 rfl) rfl)<|rs (vI aG) (aJ rfl) ?_
    obtain ⟨hi2,H⟩:=eG H
    obtain ⟨ad2,BD,BF,e2,xw,Dv,Dw⟩:=gy fK hi2.1 hi2.2
    refine rs (Value.pointer (some (Addr.add ad2 (aG.toNat*7)))) (dP (sz:=7) rfl e2 rfl hi2.1 hi2.2 Tryz.runUnderlying22 Tryz.sizeOf56)<|aI (by simp only [sc0,sc1];rfl) ?_
    refine rs (Value.pointer (some (Addr.add (Addr.add ad2 (aG.toNat*7)) 4))) (jr (n:=1) (o':=4) rfl Tryz.runUnderlying56 rfl Tryz.sizeOf3 (by decide) rfl)<|rs (vI ((rd ah a0.ay aG).dM)) (jC rfl Tryz.isAgg3 (xw.cell HS2.sees 4 rfl))<|rs (vI ((rd ah a0.ay aG).dM)) (aB rfl) ?_
    try simp only [sc0,sc1]
    refine aA<|dI<|gZ m (Nat.lt_succ_self m) rfl ⟨(rd ah a0.ay aG).dM,(fit rfl),H,HS2⟩
   ·replace H:=bW H (nt c1)
    refine wp_exit<|eY ?_
    obtain rfl:=Option.some.inj H
    refine iG rfl ⟨(fit rfl),HS2⟩
 ·rintro us w3 ⟨ni,HS3⟩
  obtain ⟨uo1,rfl⟩:=unj ni
  replace H:=G1
  clear G1
  try simp only [patch,sc0,sc1]
  refine ak<|wp_seq<|region<|rs (vI xx1) (aJ rfl)<|rs (vI xx1) (aB rfl) ?_
  try simp only [sc0,sc1]
  refine aA<|ak<|wp_ret ?_
  obtain rfl:=Option.some.inj H
  exact bodyPost_ret (aV rfl (aX rfl)) rfl<|⟨rfl,HS3.toE⟩

end Go.Proofs.YtecpbadkdpbkpaaGreatDoor
namespace Go.Proofs.YtecpbadkdpbkpaaGreatDoor
open Go.RowKit Go.M
def fP.f (k:Nat) (a0:aU) (a1:Int):Option (dL×Bool):=(cZ.f k a0 a1).bind fun v1=>(if 0≤v1∧v1<a0.ay.length then (if ((rd ah a0.ay v1).aC==1)=true then (some ((rd ah a0.ay v1).bG,true)) else (if ((rd ah a0.ay v1).aC==5)=true then (some ((⟨4,true⟩:dL),true)) else (if ((rd ah a0.ay v1).aC==2)=true then (some ((⟨8,false⟩:dL),true)) else (some ((⟨0,false⟩:dL),false))))) else none)
set_option maxRecDepth 20000 in
set_option maxHeartbeats 4000000 in
theorem fP.calls (k:Nat) (a0:aU) (a1:Int) (bU:Option Addr) (bV:Nat) {h0:View} {w0:World} (hv:jL h0 w0) (fK:Rd dV h0 bU a0.ay) (iw:a0.ay.length≤bV) {r:dL×Bool} (H:fP.f k a0 a1=some r):Calls Tryz.prog 20 #[Value.agg #[vL bU a0.ay.length bV],vI a1] w0 (fun e w1=>e= .returned (Value.tuple #[Value.agg #[vI r.1.aP,vB r.1.aN],vB r.2])∧Ext w0 w1):=by
 unfold fP.f at H
 have HS:St [] h0 w0 h0 [] w0:=St.init hv
 go_enter Tryz.func20,Tryz.ntmps20
 refine wp_seq<|region<|dU rfl rfl (dY (cs:=#[vL bU a0.ay.length bV]) rfl rfl) ?_
 rintro w1 _ hE1 ⟨b1,rfl,ge1,hb1⟩
 have HS1:=HS.new hE1 ge1 hb1
 refine dU rfl rfl (fA (cs:=#[vI 0,vB false]) Tryz.zeroValue29 rfl) ?_
 rintro w2 _ hE2 ⟨b2,rfl,ge2,hb2⟩
 have HS2:=HS1.new hE2 ge2 hb2
 refine rs (vB false) (aB rfl) ?_
 try simp only [sc0,sc1]
 refine aA<|ak<|wp_seq ?_
 obtain ⟨v1,H1,H⟩:=bJ H
 obtain ⟨hi1,H⟩:=eG H
 obtain ⟨ad1,dG,dJ,e1,lu,jQ,iH⟩:=gy fK hi1.1 hi1.2
 refine drawn [.eq (vP b1 0), .eq (vL bU a0.ay.length bV), .eq (Value.agg #[vL bU a0.ay.length bV]), .eq (vI a1), .eq (vI v1), .eq (Value.pointer (some (Addr.add ad1 (v1.toNat*7)))), .eq (Value.agg #[vI ((rd ah a0.ay v1).aC),vS ((rd ah a0.ay v1).aQ),vI ((rd ah a0.ay v1).bG.aP),vB ((rd ah a0.ay v1).bG.aN),vI ((rd ah a0.ay v1).dM),vI ((rd ah a0.ay v1).vN),vL dG ((rd ah a0.ay v1).au).length dJ]), .ex (nD w2 #[vI 0,vS ByteArray.empty,vI 0,vB false,vI 0,vI 0,vL none 0 0] 56)] [7,8,9,10,11,12,13,6] lW (by kernel_rfl) rfl (aS (aS (aS (aS (aS (aS (aS (oC nD.stable iP)))))))) ⟨aY rfl (fun a' w' hE hk=>by have HSd:=HS2.step hE;exact bI (aH (n:=1) (o':=0) (show _=vP b1 0 from hk 2 rfl) Tryz.runUnderlying24 rfl Tryz.sizeOf22 (by decide) rfl)),aY rfl (fun a' w' hE hk=>by have HSd:=HS2.step hE;exact bI (aK (show _=vP b1 0 from hk 7 rfl) Tryz.isAgg22 (HSd.look 1 rfl) rfl)),aY rfl (fun a' w' hE hk=>by have HSd:=HS2.step hE;exact bI (aZ (n:=1) (vs:=[vL bU a0.ay.length bV]) (show _=vP b1 0 from hk 2 rfl) Tryz.isAgg24 (HSd.look 1 rfl) Tryz.sizeOf24 rfl rfl)),aY rfl (fun a' w' hE hk=>by have HSd:=HS2.step hE;exact bI (aJ (show _=vI a1 from hk 1 rfl))),aY rfl (fun a' w' hE hk=>by have HSd:=HS2.step hE;exact (bf Tryz.call55 rfl (OA (show _=Value.agg #[vL bU a0.ay.length bV] from hk 9 rfl) (show _=vI a1 from hk 10 rfl)) (cZ.calls k a0 a1 bU bV HSd.sees fK iw H1))),aY rfl (fun a' w' hE hk=>by have HSd:=HS2.step hE;exact bI (dP (sz:=7) (show _=vL bU a0.ay.length bV from hk 8 rfl) e1 (show _=vI v1 from hk 11 rfl) hi1.1 hi1.2 Tryz.runUnderlying22 Tryz.sizeOf56)),aY rfl (fun a' w' hE hk=>by have HSd:=HS2.step hE;exact bI (ig (show _=Value.pointer (some (Addr.add ad1 (v1.toNat*7))) from hk 12 rfl) Tryz.isAgg56 (lu.sees HSd.sees) Tryz.sizeOf56)),aY rfl (fun a' w' hE hk=>(tC hE (cs:=#[vI 0,vS ByteArray.empty,vI 0,vB false,vI 0,vI 0,vL none 0 0]) Tryz.zeroValue56 rfl)),trivial⟩ ?_
 intro w3 hE3
 simp only [List.zip_cons_cons,List.zip_nil_left,List.zip_nil_right,yg,sc0,sc1,List.length_cons,List.length_nil,List.drop_succ_cons,List.drop_zero,Nat.zero_add,Nat.reduceAdd]
 rintro _ ⟨b3,rfl,ge3,hb3⟩
 have HS3:=HS2.new hE3 ge3 hb3
 refine fV (i:=0) (cs:=[vI 0,vS ByteArray.empty,vI 0,vB false,vI 0,vI 0,vL none 0 0]) (cs':=[vI ((rd ah a0.ay v1).aC),vS ((rd ah a0.ay v1).aQ),vI ((rd ah a0.ay v1).bG.aP),vB ((rd ah a0.ay v1).bG.aN),vI ((rd ah a0.ay v1).dM),vI ((rd ah a0.ay v1).vN),vL dG ((rd ah a0.ay v1).au).length dJ]) (vs:=[vI ((rd ah a0.ay v1).aC),vS ((rd ah a0.ay v1).aQ),vI ((rd ah a0.ay v1).bG.aP),vB ((rd ah a0.ay v1).bG.aN),vI ((rd ah a0.ay v1).dM),vI ((rd ah a0.ay v1).vN),vL dG ((rd ah a0.ay v1).au).length dJ]) (bs':=[(some b3, .cells #[vI ((rd ah a0.ay v1).aC),vS ((rd ah a0.ay v1).aQ),vI ((rd ah a0.ay v1).bG.aP),vB ((rd ah a0.ay v1).bG.aN),vI ((rd ah a0.ay v1).dM),vI ((rd ah a0.ay v1).vN),vL dG ((rd ah a0.ay v1).au).length dJ] 56 (0,0)),(some b2, .cells #[vI 0,vB false] 29 (0,0)),(some b1, .cells #[vL bU a0.ay.length bV] 24 (0,0))]) rfl rfl Tryz.sizeOf56 rfl rfl (by decide) rfl HS3 rfl (Nat.le_of_ble_eq_true rfl) rfl rfl ?_
 intro w4 HS4
 try simp only [sc0,sc1]
 refine aA<|ak<|wp_seq<|wp_seq<|region<|rs (vP b3 0) (aH (n:=1) (o':=0) rfl Tryz.runUnderlying56 rfl Tryz.sizeOf3 (by decide) rfl)<|rs (vI ((rd ah a0.ay v1).aC)) (aK rfl Tryz.isAgg3 (HS4.look 0 rfl) rfl) ?_
 try simp only [sc0,sc1]
 refine aA<|ak<|wp_block<|wp_seq<|region<|rs (vB ((rd ah a0.ay v1).aC==1)) (bK rfl rfl rfl)<|rs (vB ((rd ah a0.ay v1).aC==1)) (aB rfl) ?_
 try simp only [sc0,sc1]
 refine aA<|ak<|wp_cond_split (t:=((rd ah a0.ay v1).aC==1)) rfl (fun c1=>?_) (fun c1=>?_)
 ·replace H:=bM H c1
  refine wp_seq<|region<|rs (vP b3 2) (aH (n:=2) (o':=2) rfl Tryz.runUnderlying56 rfl Tryz.sizeOf29 (by decide) rfl)<|rs (Value.agg #[vI ((rd ah a0.ay v1).bG.aP),vB ((rd ah a0.ay v1).bG.aN)]) (aZ (n:=2) (vs:=[vI ((rd ah a0.ay v1).bG.aP),vB ((rd ah a0.ay v1).bG.aN)]) rfl Tryz.isAgg29 (HS4.look 0 rfl) Tryz.sizeOf29 rfl rfl)<|fV (i:=1) (cs:=[vI 0,vB false]) (cs':=[vI ((rd ah a0.ay v1).bG.aP),vB ((rd ah a0.ay v1).bG.aN)]) (vs:=[vI ((rd ah a0.ay v1).bG.aP),vB ((rd ah a0.ay v1).bG.aN)]) (bs':=[(some b3, .cells #[vI ((rd ah a0.ay v1).aC),vS ((rd ah a0.ay v1).aQ),vI ((rd ah a0.ay v1).bG.aP),vB ((rd ah a0.ay v1).bG.aN),vI ((rd ah a0.ay v1).dM),vI ((rd ah a0.ay v1).vN),vL dG ((rd ah a0.ay v1).au).length dJ] 56 (0,0)),(some b2, .cells #[vI ((rd ah a0.ay v1).bG.aP),vB ((rd ah a0.ay v1).bG.aN)] 29 (0,0)),(some b1, .cells #[vL bU a0.ay.length bV] 24 (0,0))]) rfl rfl Tryz.sizeOf29 rfl rfl (by decide) rfl HS4 rfl (Nat.le_of_ble_eq_true rfl) rfl rfl ?_
  intro w5 HS5
  refine rs (vB true) (aB rfl) ?_
  try simp only [sc0,sc1]
  refine aA<|ak<|wp_ret<|dn<|aW ?_
  obtain rfl:=Option.some.inj H
  exact bodyPost_ret (fM rfl (iU rfl Tryz.isAgg29 (HS5.look 1 rfl) Tryz.sizeOf29 rfl) (aX rfl)) rfl<|⟨rfl,HS5.toE⟩
 ·replace H:=bW H (nt c1)
  refine wp_seq<|region<|rs (vB ((rd ah a0.ay v1).aC==5)) (bK rfl rfl rfl)<|rs (vB ((rd ah a0.ay v1).aC==5)) (aB rfl) ?_
  try simp only [sc0,sc1]
  refine aA<|ak<|wp_cond_split (t:=((rd ah a0.ay v1).aC==5)) rfl (fun c2=>?_) (fun c2=>?_)
  ·replace H:=bM H c2
   refine wp_seq<|region<|rs (Value.agg #[vI 4,vB true]) (iy (cs:=[vI 4,vB true]) (ps:=[(0,vI 4),(1,vB true)]) Tryz.zeroValue29 Tryz.runUnderlying29 (pl:=#[(0,1),(1,1)]) (fun w=>by simp [Tryz.sizeOf3,Tryz.sizeOf4]) (oD (show _=vI 4 from rfl) (show _=vB true from rfl)) rfl) ?_
   refine fV (i:=1) (cs:=[vI 0,vB false]) (cs':=[vI 4,vB true]) (vs:=[vI 4,vB true]) (bs':=[(some b3, .cells #[vI ((rd ah a0.ay v1).aC),vS ((rd ah a0.ay v1).aQ),vI ((rd ah a0.ay v1).bG.aP),vB ((rd ah a0.ay v1).bG.aN),vI ((rd ah a0.ay v1).dM),vI ((rd ah a0.ay v1).vN),vL dG ((rd ah a0.ay v1).au).length dJ] 56 (0,0)),(some b2, .cells #[vI 4,vB true] 29 (0,0)),(some b1, .cells #[vL bU a0.ay.length bV] 24 (0,0))]) rfl rfl Tryz.sizeOf29 rfl rfl (by decide) rfl HS4 rfl (Nat.le_of_ble_eq_true rfl) rfl rfl ?_
   intro w6 HS6
   refine rs (vB true) (aB rfl) ?_
   try simp only [sc0,sc1]
   refine aA<|ak<|wp_ret<|dn<|aW ?_
   obtain rfl:=Option.some.inj H
   exact bodyPost_ret (fM rfl (iU rfl Tryz.isAgg29 (HS6.look 1 rfl) Tryz.sizeOf29 rfl) (aX rfl)) rfl<|⟨rfl,HS6.toE⟩
  ·replace H:=bW H (nt c2)
   refine wp_seq<|region<|rs (vB ((rd ah a0.ay v1).aC==2)) (bK rfl rfl rfl)<|rs (vB ((rd ah a0.ay v1).aC==2)) (aB rfl) ?_
   try simp only [sc0,sc1]
   refine aA<|ak<|wp_cond_split (t:=((rd ah a0.ay v1).aC==2)) rfl (fun c3=>?_) (fun c3=>?_)
   ·replace H:=bM H c3
    refine wp_seq<|region<|rs (Value.agg #[vI 8,vB false]) (iy (cs:=[vI 8,vB false]) (ps:=[(0,vI 8)]) Tryz.zeroValue29 Tryz.runUnderlying29 (pl:=#[(0,1),(1,1)]) (fun w=>by simp [Tryz.sizeOf3,Tryz.sizeOf4]) (jM (show _=vI 8 from rfl)) rfl) ?_
    refine fV (i:=1) (cs:=[vI 0,vB false]) (cs':=[vI 8,vB false]) (vs:=[vI 8,vB false]) (bs':=[(some b3, .cells #[vI ((rd ah a0.ay v1).aC),vS ((rd ah a0.ay v1).aQ),vI ((rd ah a0.ay v1).bG.aP),vB ((rd ah a0.ay v1).bG.aN),vI ((rd ah a0.ay v1).dM),vI ((rd ah a0.ay v1).vN),vL dG ((rd ah a0.ay v1).au).length dJ] 56 (0,0)),(some b2, .cells #[vI 8,vB false] 29 (0,0)),(some b1, .cells #[vL bU a0.ay.length bV] 24 (0,0))]) rfl rfl Tryz.sizeOf29 rfl rfl (by decide) rfl HS4 rfl (Nat.le_of_ble_eq_true rfl) rfl rfl ?_
    intro w7 HS7
    refine rs (vB true) (aB rfl) ?_
    try simp only [sc0,sc1]
    refine aA<|ak<|wp_ret<|dn<|aW ?_
    obtain rfl:=Option.some.inj H
    exact bodyPost_ret (fM rfl (iU rfl Tryz.isAgg29 (HS7.look 1 rfl) Tryz.sizeOf29 rfl) (aX rfl)) rfl<|⟨rfl,HS7.toE⟩
   ·replace H:=bW H (nt c3)
    refine wp_skip<|dI<|ak<|wp_seq<|region<|rs (Value.agg #[vI 0,vB false]) (tH (cs:=[vI 0,vB false]) Tryz.zeroValue29 Tryz.runUnderlying29 (pl:=#[(0,1),(1,1)]) (fun w=>by simp [Tryz.sizeOf3,Tryz.sizeOf4]) rfl) ?_
    refine fV (i:=1) (cs:=[vI 0,vB false]) (cs':=[vI 0,vB false]) (vs:=[vI 0,vB false]) (bs':=[(some b3, .cells #[vI ((rd ah a0.ay v1).aC),vS ((rd ah a0.ay v1).aQ),vI ((rd ah a0.ay v1).bG.aP),vB ((rd ah a0.ay v1).bG.aN),vI ((rd ah a0.ay v1).dM),vI ((rd ah a0.ay v1).vN),vL dG ((rd ah a0.ay v1).au).length dJ] 56 (0,0)),(some b2, .cells #[vI 0,vB false] 29 (0,0)),(some b1, .cells #[vL bU a0.ay.length bV] 24 (0,0))]) rfl rfl Tryz.sizeOf29 rfl rfl (by decide) rfl HS4 rfl (Nat.le_of_ble_eq_true rfl) rfl rfl ?_
    intro w8 HS8
    refine rs (vB false) (aB rfl) ?_
    try simp only [sc0,sc1]
    refine aA<|ak<|wp_ret ?_
    obtain rfl:=Option.some.inj H
    exact bodyPost_ret (fM rfl (iU rfl Tryz.isAgg29 (HS8.look 1 rfl) Tryz.sizeOf29 rfl) (aX rfl)) rfl<|⟨rfl,HS8.toE⟩

end Go.Proofs.YtecpbadkdpbkpaaGreatDoor
namespace Go.Proofs.YtecpbadkdpbkpaaGreatDoor
open Go.RowKit Go.M
def dW.f (a0:bF):Option (Bool):=some ((a0.aC !=2)&&(a0.aC !=3))
set_option maxRecDepth 20000 in
set_option maxHeartbeats 4000000 in
theorem dW.calls (a0:bF) (jS:Option Addr) (jT:Nat) {h0:View} {w0:World} (hv:jL h0 w0) (sK:Rd eH h0 jS a0.au) (yc:a0.au.length≤jT) {r:Bool} (H:dW.f a0=some r):Calls Tryz.prog 78 #[Value.agg #[vI a0.aC,vS a0.aQ,vI a0.bG.aP,vB a0.bG.aN,vI a0.dM,vI a0.vN,vL jS a0.au.length jT]] w0 (fun e w1=>e= .returned (vB r)∧Ext w0 w1):=by
 unfold dW.f at H
 have HS:St [] h0 w0 h0 [] w0:=St.init hv
 go_enter Tryz.func78,Tryz.ntmps78
 refine wp_seq<|region<|dU rfl rfl (dY (cs:=#[vI a0.aC,vS a0.aQ,vI a0.bG.aP,vB a0.bG.aN,vI a0.dM,vI a0.vN,vL jS a0.au.length jT]) rfl rfl) ?_
 rintro w1 _ hE1 ⟨b1,rfl,ge1,hb1⟩
 have HS1:=HS.new hE1 ge1 hb1
 refine rs (vB false) (aB rfl) ?_
 try simp only [sc0,sc1]
 refine aA<|ak<|wp_seq<|region<|rs (vP b1 0) (aH (n:=1) (o':=0) rfl Tryz.runUnderlying56 rfl Tryz.sizeOf3 (by decide) rfl)<|rs (vI a0.aC) (aK rfl Tryz.isAgg3 (HS1.look 0 rfl) rfl)<|rs (vB (a0.aC !=2)) (bK rfl rfl rfl)<|rs (vB (a0.aC !=2)) (aJ rfl)<|aI (by simp only [sc0,sc1];rfl) ?_
 refine rgs (a0.aC !=2) true (vP b1 0) rfl rfl rfl rfl (fun hg=>(aH (n:=1) (o':=0) rfl Tryz.runUnderlying56 rfl Tryz.sizeOf3 (by decide) rfl))<|rgs (a0.aC !=2) true (vI a0.aC) rfl rfl rfl rfl (fun hg=>(aK (gvt (vP b1 0) hg rfl) Tryz.isAgg3 (HS1.look 0 rfl) rfl))<|rgs (a0.aC !=2) true (vB (a0.aC !=3)) rfl rfl rfl rfl (fun hg=>(bK (gvt (vI a0.aC) hg rfl) rfl rfl))<|rs (vB ((a0.aC !=2)&&(a0.aC !=3))) (dA rfl (fun hp=>(gvt (vB (a0.aC !=3)) (gu rfl hp) rfl)) rfl)<|aI (by simp only [sc0,sc1];rfl) ?_
 refine rs (vB ((a0.aC !=2)&&(a0.aC !=3))) (aB rfl) ?_
 try simp only [sc0,sc1]
 refine aA<|ak<|wp_ret ?_
 obtain rfl:=Option.some.inj H
 exact bodyPost_ret (aV rfl (aX rfl)) rfl<|⟨rfl,HS1.toE⟩

end Go.Proofs.YtecpbadkdpbkpaaGreatDoor
namespace Go.Proofs.YtecpbadkdpbkpaaGreatDoor
open Go.RowKit Go.M
def iR.f (a0:bF):Option (Bool):=(dW.f a0).bind fun v1=>(if (v1 !=(!(strEq a0.aQ ByteArray.empty)))=true then (some false) else (if ((a0.aC !=1)&&((a0.bG.aP !=0)||a0.bG.aN))=true then (some false) else (if ((((a0.aC !=2)&&(a0.aC !=3))&&(a0.aC !=6))&&(a0.dM !=0))=true then (some false) else (if (((a0.aC !=3)&&(a0.aC !=4))&&(a0.vN !=0))=true then (some false) else (some (((a0.aC==4)||(a0.aC==5))||((a0.au.length:Int)==0)))))))
set_option maxRecDepth 20000 in
set_option maxHeartbeats 4000000 in
theorem iR.calls (a0:bF) (jS:Option Addr) (jT:Nat) {h0:View} {w0:World} (hv:jL h0 w0) (sK:Rd eH h0 jS a0.au) (yc:a0.au.length≤jT) {r:Bool} (H:iR.f a0=some r):Calls Tryz.prog 123 #[Value.agg #[vI a0.aC,vS a0.aQ,vI a0.bG.aP,vB a0.bG.aN,vI a0.dM,vI a0.vN,vL jS a0.au.length jT]] w0 (fun e w1=>e= .returned (vB r)∧Ext w0 w1):=by
 unfold iR.f at H
 have HS:St [] h0 w0 h0 [] w0:=St.init hv
 go_enter Tryz.func123,Tryz.ntmps123
 refine wp_seq<|region<|dU rfl rfl (dY (cs:=#[vI a0.aC,vS a0.aQ,vI a0.bG.aP,vB a0.bG.aN,vI a0.dM,vI a0.vN,vL jS a0.au.length jT]) rfl rfl) ?_
 rintro w1 _ hE1 ⟨b1,rfl,ge1,hb1⟩
 have HS1:=HS.new hE1 ge1 hb1
 refine rs (vB false) (aB rfl) ?_
 try simp only [sc0,sc1]
 refine aA<|ak<|wp_seq<|wp_seq ?_
 obtain ⟨v1,H1,H⟩:=bJ H
 refine drawn [.eq (Value.agg #[vI a0.aC,vS a0.aQ,vI a0.bG.aP,vB a0.bG.aN,vI a0.dM,vI a0.vN,vL jS a0.au.length jT]), .eq (vB v1), .eq (vP b1 1), .eq (vS a0.aQ), .eq (vB (!(strEq a0.aQ ByteArray.empty))), .eq (vB (v1 !=(!(strEq a0.aQ ByteArray.empty))))] [3,4,5,6,7,8] lW (by kernel_rfl) rfl (aS (aS (aS (aS (aS (aS iP)))))) ⟨aY rfl (fun a' w' hE hk=>by have HSd:=HS1.step hE;exact bI (aZ (n:=7) (vs:=[vI a0.aC,vS a0.aQ,vI a0.bG.aP,vB a0.bG.aN,vI a0.dM,vI a0.vN,vL jS a0.au.length jT]) (show _=vP b1 0 from hk 1 rfl) Tryz.isAgg56 (HSd.look 0 rfl) Tryz.sizeOf56 rfl rfl)),aY rfl (fun a' w' hE hk=>by have HSd:=HS1.step hE;exact (bf Tryz.call78 rfl (OI (show _=Value.agg #[vI a0.aC,vS a0.aQ,vI a0.bG.aP,vB a0.bG.aN,vI a0.dM,vI a0.vN,vL jS a0.au.length jT] from hk 3 rfl)) (dW.calls a0 jS jT HSd.sees sK yc H1))),aY rfl (fun a' w' hE hk=>by have HSd:=HS1.step hE;exact bI (aH (n:=1) (o':=1) (show _=vP b1 0 from hk 1 rfl) Tryz.runUnderlying56 rfl Tryz.sizeOf9 (by decide) rfl)),aY rfl (fun a' w' hE hk=>by have HSd:=HS1.step hE;exact bI (aK (show _=vP b1 1 from hk 5 rfl) Tryz.isAgg9 (HSd.look 0 rfl) rfl)),aY rfl (fun a' w' hE hk=>by have HSd:=HS1.step hE;exact bI (BX (show _=vS a0.aQ from hk 6 rfl) rfl)),aY rfl (fun a' w' hE hk=>by have HSd:=HS1.step hE;exact bI (DX (show _=vB v1 from hk 4 rfl) (show _=vB (!(strEq a0.aQ ByteArray.empty)) from hk 7 rfl) Tryz.runUnderlying4)),trivial⟩ ?_
 intro w2 hE2
 simp only [List.zip_cons_cons,List.zip_nil_left,List.zip_nil_right,yg,sc0,sc1,List.length_cons,List.length_nil,List.drop_succ_cons,List.drop_zero,Nat.zero_add,Nat.reduceAdd]
 have HS2:=HS1.step hE2
 refine aA<|ak<|wp_cond_split (t:=(v1 !=(!(strEq a0.aQ ByteArray.empty)))) rfl (fun c1=>?_) (fun c1=>?_)
 ·replace H:=bM H c1
  refine wp_seq<|region<|rs (vB false) (aB rfl) ?_
  try simp only [sc0,sc1]
  refine aA<|ak<|wp_ret<|aW ?_
  obtain rfl:=Option.some.inj H
  exact bodyPost_ret (aV rfl (aX rfl)) rfl<|⟨rfl,HS2.toE⟩
 ·replace H:=bW H (nt c1)
  refine wp_skip<|ak<|wp_seq<|wp_seq<|region<|rs (vP b1 0) (aH (n:=1) (o':=0) rfl Tryz.runUnderlying56 rfl Tryz.sizeOf3 (by decide) rfl)<|rs (vI a0.aC) (aK rfl Tryz.isAgg3 (HS2.look 0 rfl) rfl)<|rs (vB (a0.aC !=1)) (bK rfl rfl rfl)<|rs (vB (a0.aC !=1)) (aJ rfl)<|aI (by simp only [sc0,sc1];rfl) ?_
  refine rgs (a0.aC !=1) true (vP b1 2) rfl rfl rfl rfl (fun hg=>(aH (n:=2) (o':=2) rfl Tryz.runUnderlying56 rfl Tryz.sizeOf29 (by decide) rfl))<|rgs (a0.aC !=1) true (vP b1 2) rfl rfl rfl rfl (fun hg=>(aH (n:=1) (o':=2) (gvt (vP b1 2) hg rfl) Tryz.runUnderlying29 rfl Tryz.sizeOf3 (by decide) rfl))<|rgs (a0.aC !=1) true (vI a0.bG.aP) rfl rfl rfl rfl (fun hg=>(aK (gvt (vP b1 2) hg rfl) Tryz.isAgg3 (HS2.look 0 rfl) rfl))<|rgs (a0.aC !=1) true (vB (a0.bG.aP !=0)) rfl rfl rfl rfl (fun hg=>(bK (gvt (vI a0.bG.aP) hg rfl) rfl rfl))<|aI (by simp only [sc0,sc1];rfl) ?_
  refine rgs (a0.aC !=1) true (vB (a0.bG.aP !=0)) rfl rfl rfl rfl (fun hg=>(aJ (gvt (vB (a0.bG.aP !=0)) hg rfl)))<|rgs (a0.bG.aP !=0) (true&&((a0.aC !=1)==true)) (vP b1 2) rfl rfl rfl rfl (fun hg=>(aH (n:=2) (o':=2) rfl Tryz.runUnderlying56 rfl Tryz.sizeOf29 (by decide) rfl))<|rgs (a0.bG.aP !=0) (true&&((a0.aC !=1)==true)) (vP b1 3) rfl rfl rfl rfl (fun hg=>(aH (n:=1) (o':=3) (gvt (vP b1 2) hg rfl) Tryz.runUnderlying29 rfl Tryz.sizeOf4 (by decide) rfl))<|rgs (a0.bG.aP !=0) (true&&((a0.aC !=1)==true)) (vB a0.bG.aN) rfl rfl rfl rfl (fun hg=>(aK (gvt (vP b1 3) hg rfl) Tryz.isAgg4 (HS2.look 0 rfl) rfl))<|aI (by simp only [sc0,sc1];rfl) ?_
  refine rgs (a0.aC !=1) true (vB ((a0.bG.aP !=0)||a0.bG.aN)) rfl rfl rfl rfl (fun hg=>(dZ (gvt (vB (a0.bG.aP !=0)) hg rfl) rfl (fun hp=>(gvt (vB a0.bG.aN) (gu hg hp) rfl))))<|rs (vB ((a0.aC !=1)&&((a0.bG.aP !=0)||a0.bG.aN))) (dA rfl (fun hp=>(gvt (vB ((a0.bG.aP !=0)||a0.bG.aN)) (gu rfl hp) rfl)) rfl) ?_
  try simp only [sc0,sc1]
  refine aA<|ak<|wp_cond_split (t:=((a0.aC !=1)&&((a0.bG.aP !=0)||a0.bG.aN))) rfl (fun c2=>?_) (fun c2=>?_)
  ·replace H:=bM H c2
   refine wp_seq<|region<|rs (vB false) (aB rfl) ?_
   try simp only [sc0,sc1]
   refine aA<|ak<|wp_ret<|aW ?_
   obtain rfl:=Option.some.inj H
   exact bodyPost_ret (aV rfl (aX rfl)) rfl<|⟨rfl,HS2.toE⟩
  ·replace H:=bW H (nt c2)
   refine wp_skip<|ak<|wp_seq<|wp_seq<|region<|rs (vP b1 0) (aH (n:=1) (o':=0) rfl Tryz.runUnderlying56 rfl Tryz.sizeOf3 (by decide) rfl)<|rs (vI a0.aC) (aK rfl Tryz.isAgg3 (HS2.look 0 rfl) rfl)<|rs (vB (a0.aC !=2)) (bK rfl rfl rfl)<|rs (vB (a0.aC !=2)) (aJ rfl)<|aI (by simp only [sc0,sc1];rfl) ?_
   refine rgs (a0.aC !=2) true (vP b1 0) rfl rfl rfl rfl (fun hg=>(aH (n:=1) (o':=0) rfl Tryz.runUnderlying56 rfl Tryz.sizeOf3 (by decide) rfl))<|rgs (a0.aC !=2) true (vI a0.aC) rfl rfl rfl rfl (fun hg=>(aK (gvt (vP b1 0) hg rfl) Tryz.isAgg3 (HS2.look 0 rfl) rfl))<|rgs (a0.aC !=2) true (vB (a0.aC !=3)) rfl rfl rfl rfl (fun hg=>(bK (gvt (vI a0.aC) hg rfl) rfl rfl))<|rs (vB ((a0.aC !=2)&&(a0.aC !=3))) (dA rfl (fun hp=>(gvt (vB (a0.aC !=3)) (gu rfl hp) rfl)) rfl)<|aI (by simp only [sc0,sc1];rfl) ?_
   refine rs (vB ((a0.aC !=2)&&(a0.aC !=3))) (aJ rfl)<|rgs ((a0.aC !=2)&&(a0.aC !=3)) true (vP b1 0) rfl rfl rfl rfl (fun hg=>(aH (n:=1) (o':=0) rfl Tryz.runUnderlying56 rfl Tryz.sizeOf3 (by decide) rfl))<|rgs ((a0.aC !=2)&&(a0.aC !=3)) true (vI a0.aC) rfl rfl rfl rfl (fun hg=>(aK (gvt (vP b1 0) hg rfl) Tryz.isAgg3 (HS2.look 0 rfl) rfl))<|rgs ((a0.aC !=2)&&(a0.aC !=3)) true (vB (a0.aC !=6)) rfl rfl rfl rfl (fun hg=>(bK (gvt (vI a0.aC) hg rfl) rfl rfl))<|aI (by simp only [sc0,sc1];rfl) ?_
   refine rs (vB (((a0.aC !=2)&&(a0.aC !=3))&&(a0.aC !=6))) (dA rfl (fun hp=>(gvt (vB (a0.aC !=6)) (gu rfl hp) rfl)) rfl)<|rs (vB (((a0.aC !=2)&&(a0.aC !=3))&&(a0.aC !=6))) (aJ rfl)<|rgs (((a0.aC !=2)&&(a0.aC !=3))&&(a0.aC !=6)) true (vP b1 4) rfl rfl rfl rfl (fun hg=>(aH (n:=1) (o':=4) rfl Tryz.runUnderlying56 rfl Tryz.sizeOf3 (by decide) rfl))<|rgs (((a0.aC !=2)&&(a0.aC !=3))&&(a0.aC !=6)) true (vI a0.dM) rfl rfl rfl rfl (fun hg=>(aK (gvt (vP b1 4) hg rfl) Tryz.isAgg3 (HS2.look 0 rfl) rfl))<|aI (by simp only [sc0,sc1];rfl) ?_
   refine rgs (((a0.aC !=2)&&(a0.aC !=3))&&(a0.aC !=6)) true (vB (a0.dM !=0)) rfl rfl rfl rfl (fun hg=>(bK (gvt (vI a0.dM) hg rfl) rfl rfl))<|rs (vB ((((a0.aC !=2)&&(a0.aC !=3))&&(a0.aC !=6))&&(a0.dM !=0))) (dA rfl (fun hp=>(gvt (vB (a0.dM !=0)) (gu rfl hp) rfl)) rfl) ?_
   try simp only [sc0,sc1]
   refine aA<|ak<|wp_cond_split (t:=((((a0.aC !=2)&&(a0.aC !=3))&&(a0.aC !=6))&&(a0.dM !=0))) rfl (fun c3=>?_) (fun c3=>?_)
   ·replace H:=bM H c3
    refine wp_seq<|region<|rs (vB false) (aB rfl) ?_
    try simp only [sc0,sc1]
    refine aA<|ak<|wp_ret<|aW ?_
    obtain rfl:=Option.some.inj H
    exact bodyPost_ret (aV rfl (aX rfl)) rfl<|⟨rfl,HS2.toE⟩
   ·replace H:=bW H (nt c3)
    refine wp_skip<|ak<|wp_seq<|wp_seq<|region<|rs (vP b1 0) (aH (n:=1) (o':=0) rfl Tryz.runUnderlying56 rfl Tryz.sizeOf3 (by decide) rfl)<|rs (vI a0.aC) (aK rfl Tryz.isAgg3 (HS2.look 0 rfl) rfl)<|rs (vB (a0.aC !=3)) (bK rfl rfl rfl)<|rs (vB (a0.aC !=3)) (aJ rfl)<|aI (by simp only [sc0,sc1];rfl) ?_
    refine rgs (a0.aC !=3) true (vP b1 0) rfl rfl rfl rfl (fun hg=>(aH (n:=1) (o':=0) rfl Tryz.runUnderlying56 rfl Tryz.sizeOf3 (by decide) rfl))<|rgs (a0.aC !=3) true (vI a0.aC) rfl rfl rfl rfl (fun hg=>(aK (gvt (vP b1 0) hg rfl) Tryz.isAgg3 (HS2.look 0 rfl) rfl))<|rgs (a0.aC !=3) true (vB (a0.aC !=4)) rfl rfl rfl rfl (fun hg=>(bK (gvt (vI a0.aC) hg rfl) rfl rfl))<|rs (vB ((a0.aC !=3)&&(a0.aC !=4))) (dA rfl (fun hp=>(gvt (vB (a0.aC !=4)) (gu rfl hp) rfl)) rfl)<|aI (by simp only [sc0,sc1];rfl) ?_
    refine rs (vB ((a0.aC !=3)&&(a0.aC !=4))) (aJ rfl)<|rgs ((a0.aC !=3)&&(a0.aC !=4)) true (vP b1 5) rfl rfl rfl rfl (fun hg=>(aH (n:=1) (o':=5) rfl Tryz.runUnderlying56 rfl Tryz.sizeOf3 (by decide) rfl))<|rgs ((a0.aC !=3)&&(a0.aC !=4)) true (vI a0.vN) rfl rfl rfl rfl (fun hg=>(aK (gvt (vP b1 5) hg rfl) Tryz.isAgg3 (HS2.look 0 rfl) rfl))<|rgs ((a0.aC !=3)&&(a0.aC !=4)) true (vB (a0.vN !=0)) rfl rfl rfl rfl (fun hg=>(bK (gvt (vI a0.vN) hg rfl) rfl rfl))<|aI (by simp only [sc0,sc1];rfl) ?_
    refine rs (vB (((a0.aC !=3)&&(a0.aC !=4))&&(a0.vN !=0))) (dA rfl (fun hp=>(gvt (vB (a0.vN !=0)) (gu rfl hp) rfl)) rfl) ?_
    try simp only [sc0,sc1]
    refine aA<|ak<|wp_cond_split (t:=(((a0.aC !=3)&&(a0.aC !=4))&&(a0.vN !=0))) rfl (fun c4=>?_) (fun c4=>?_)
    ·replace H:=bM H c4
     refine wp_seq<|region<|rs (vB false) (aB rfl) ?_
     try simp only [sc0,sc1]
     refine aA<|ak<|wp_ret<|aW ?_
     obtain rfl:=Option.some.inj H
     exact bodyPost_ret (aV rfl (aX rfl)) rfl<|⟨rfl,HS2.toE⟩
    ·replace H:=bW H (nt c4)
     refine wp_skip<|ak<|wp_seq<|region<|rs (vP b1 0) (aH (n:=1) (o':=0) rfl Tryz.runUnderlying56 rfl Tryz.sizeOf3 (by decide) rfl)<|rs (vI a0.aC) (aK rfl Tryz.isAgg3 (HS2.look 0 rfl) rfl)<|rs (vB (a0.aC==4)) (bK rfl rfl rfl)<|rs (vB (a0.aC==4)) (aJ rfl)<|aI (by simp only [sc0,sc1];rfl) ?_
     refine rgs (a0.aC==4) true (vP b1 0) rfl rfl rfl rfl (fun hg=>(aH (n:=1) (o':=0) rfl Tryz.runUnderlying56 rfl Tryz.sizeOf3 (by decide) rfl))<|rgs (a0.aC==4) true (vI a0.aC) rfl rfl rfl rfl (fun hg=>(aK (gvt (vP b1 0) hg rfl) Tryz.isAgg3 (HS2.look 0 rfl) rfl))<|rgs (a0.aC==4) true (vB (a0.aC==5)) rfl rfl rfl rfl (fun hg=>(bK (gvt (vI a0.aC) hg rfl) rfl rfl))<|rs (vB ((a0.aC==4)||(a0.aC==5))) (dZ rfl rfl (fun hp=>(gvt (vB (a0.aC==5)) (gu rfl hp) rfl)))<|aI (by simp only [sc0,sc1];rfl) ?_
     refine rs (vB ((a0.aC==4)||(a0.aC==5))) (aJ rfl)<|rgs ((a0.aC==4)||(a0.aC==5)) true (vP b1 6) rfl rfl rfl rfl (fun hg=>(aH (n:=1) (o':=6) rfl Tryz.runUnderlying56 rfl Tryz.sizeOf54 (by decide) rfl))<|rgs ((a0.aC==4)||(a0.aC==5)) true (vL jS a0.au.length jT) rfl rfl rfl rfl (fun hg=>(aK (gvt (vP b1 6) hg rfl) Tryz.isAgg54 (HS2.look 0 rfl) rfl))<|rgs ((a0.aC==4)||(a0.aC==5)) true (vI (a0.au.length:Int)) rfl rfl rfl rfl (fun hg=>(jJ (gvt (vL jS a0.au.length jT) hg rfl) Tryz.runUnderlying54))<|aI (by simp only [sc0,sc1];rfl) ?_
     refine rgs ((a0.aC==4)||(a0.aC==5)) true (vB ((a0.au.length:Int)==0)) rfl rfl rfl rfl (fun hg=>(bK (gvt (vI (a0.au.length:Int)) hg rfl) rfl rfl))<|rs (vB (((a0.aC==4)||(a0.aC==5))||((a0.au.length:Int)==0))) (dZ rfl rfl (fun hp=>(gvt (vB ((a0.au.length:Int)==0)) (gu rfl hp) rfl)))<|rs (vB (((a0.aC==4)||(a0.aC==5))||((a0.au.length:Int)==0))) (aB rfl) ?_
     try simp only [sc0,sc1]
     refine aA<|ak<|wp_ret ?_
     obtain rfl:=Option.some.inj H
     exact bodyPost_ret (aV rfl (aX rfl)) rfl<|⟨rfl,HS2.toE⟩

end Go.Proofs.YtecpbadkdpbkpaaGreatDoor
namespace Go.Proofs.YtecpbadkdpbkpaaGreatDoor
open Go.RowKit Go.M
def dK.l0 (a0:ByteArray):Nat→Int→Option ((Bool)⊕(Unit))
  |0,_=>none
  |m+1,aG=>if (decide (aG<(a0.size:Int)))=true then (if 0≤aG∧aG<(a0.size:Int) then (if ((!((((decide ((byteAt a0 aG)≥97))&&(decide ((byteAt a0 aG)≤122)))||((decide ((byteAt a0 aG)≥65))&&(decide ((byteAt a0 aG)≤90))))||((byteAt a0 aG)==95)))&&(((aG==0)||(decide ((byteAt a0 aG)<48)))||(decide ((byteAt a0 aG)>57))))=true then (some (.inl false)) else (dK.l0 a0 m (IntKind.wrap .i64 (aG+1)))) else none) else (some (.inr ()))
def dK.f (k:Nat) (a0:ByteArray):Option (Bool):=if (((a0.size:Int)==0)||(decide ((a0.size:Int)>31)))=true then (some false) else ((dK.l0 a0 k 0).bind fun xx1=>(match xx1 with| .inl r=>some r| .inr s1=>some true))
set_option maxRecDepth 20000 in
set_option maxHeartbeats 4000000 in
theorem dK.calls (k : Nat) (a0 : ByteArray)  {h0 : View} {w0 : World} (hv : jL h0 w0) {r : Bool} (H : dK.f k a0 = some r) : Calls Tryz.prog 124 #[Value.string a0] w0 (fun e w1 => e = .returned (Value.bool r) ∧ Ext w0 w1) := by
  unfold dK.f at H
  have HS:St [] h0 w0 h0 [] w0:=St.init hv
  go_enter Tryz.func124,Tryz.ntmps124
  refine wp_seq ?_
  refine region ?_
  refine dS (v:=Value.bool false) rfl rfl (aB rfl) ?_
  try simp only [List.set_cons_zero,List.set_cons_succ]
  refine aA ?_
  refine ak ?_
  refine wp_seq ?_
  refine wp_seq ?_
  refine region ?_
  refine dS (v:=Value.string a0) rfl rfl (aJ rfl) ?_
  refine dS (v:=Value.int .i64 (a0.size:Int)) rfl rfl (yh rfl Tryz.runUnderlying9) ?_
  refine dS (v:=Value.bool ((a0.size:Int)==0)) rfl rfl (bK rfl rfl rfl) ?_
  refine dS (v:=Value.bool ((a0.size:Int)==0)) rfl rfl (aJ rfl) ?_
  refine aI (by simp only [List.set_cons_zero,List.set_cons_succ];rfl) ?_
  refine fC (b:=((a0.size:Int)==0)) (c:=true) (v:=Value.string a0) rfl rfl rfl rfl (fun hg=>(aJ rfl)) ?_
  refine fC (b:=((a0.size:Int)==0)) (c:=true) (v:=Value.int .i64 (a0.size:Int)) rfl rfl rfl rfl (fun hg=>(yh ((show _=gv (true&&(((a0.size:Int)==0)==false)) (Value.string a0) from rfl).trans (pU hg)) Tryz.runUnderlying9)) ?_
  refine fC (b:=((a0.size:Int)==0)) (c:=true) (v:=Value.bool (decide ((a0.size:Int)>31))) rfl rfl rfl rfl (fun hg=>(bK ((show _=gv (true&&(((a0.size:Int)==0)==false)) (Value.int .i64 (a0.size:Int)) from rfl).trans (pU hg)) rfl rfl)) ?_
  refine dS (v:=Value.bool (((a0.size:Int)==0)||(decide ((a0.size:Int)>31)))) rfl rfl (dZ rfl rfl (fun hp=>((show _=gv (true&&(((a0.size:Int)==0)==false)) (Value.bool (decide ((a0.size:Int)>31))) from rfl).trans (pU (gu rfl hp))))) ?_
  try simp only [List.set_cons_zero,List.set_cons_succ]
  refine aA ?_
  refine ak ?_
  refine wp_cond_split (t:=(((a0.size:Int)==0)||(decide ((a0.size:Int)>31)))) rfl (fun c1=>?_) (fun c1=>?_)
  · replace H := bM H c1
    refine wp_seq ?_
    refine region ?_
    refine dS (v:=Value.bool false) rfl rfl (aB rfl) ?_
    try simp only [List.set_cons_zero,List.set_cons_succ]
    refine aA ?_
    refine ak ?_
    refine wp_ret ?_
    refine aW ?_
    obtain rfl:=Option.some.inj H
    refine bodyPost_ret (aV rfl (aX rfl)) rfl ?_
    exact ⟨rfl,HS.toE⟩
  · replace H := bW H (nt c1)
    refine wp_skip ?_
    refine ak ?_
    refine wp_seq ?_
    refine wp_seq ?_
    refine region ?_
    refine dS (v:=Value.int .i64 0) rfl rfl (aB rfl) ?_
    try simp only [List.set_cons_zero,List.set_cons_succ]
    refine aA ?_
    refine ak ?_
    obtain ⟨xx1,H,G1⟩:=bJ H
    refine jm [2,3,4,5,14,15,16,17,18,19,20,21,22,23,24,25,26,27,28,29,30,31,32,33,34,35,36,37,38,39,40,41,42,43,44,45,46,47,48,49,50,51,52,53,54] (fun m us w'=>∃(aG:Int),Fit us (fun uy1=>[(uy1 0),Value.int .i64 aG,(uy1 2),(uy1 3),(uy1 4),(uy1 5),(uy1 6),(uy1 7),(uy1 8),(uy1 9),(uy1 10),(uy1 11),(uy1 12),(uy1 13),(uy1 14),(uy1 15),(uy1 16),(uy1 17),(uy1 18),(uy1 19),(uy1 20),(uy1 21),(uy1 22),(uy1 23),(uy1 24),(uy1 25),(uy1 26),(uy1 27),(uy1 28),(uy1 29),(uy1 30),(uy1 31),(uy1 32),(uy1 33),(uy1 34),(uy1 35),(uy1 36),(uy1 37),(uy1 38),(uy1 39),(uy1 40),(uy1 41),(uy1 42),(uy1 43),(uy1 44)])∧dK.l0 a0 m aG=some xx1∧St [] h0 w0 h0 [] w') (fun us w'=>∃(s1:Unit),xx1= .inr s1∧Fit us (fun uo1=>[(uo1 0),(uo1 1),(uo1 2),(uo1 3),(uo1 4),(uo1 5),(uo1 6),(uo1 7),(uo1 8),(uo1 9),(uo1 10),(uo1 11),(uo1 12),(uo1 13),(uo1 14),(uo1 15),(uo1 16),(uo1 17),(uo1 18),(uo1 19),(uo1 20),(uo1 21),(uo1 22),(uo1 23),(uo1 24),(uo1 25),(uo1 26),(uo1 27),(uo1 28),(uo1 29),(uo1 30),(uo1 31),(uo1 32),(uo1 33),(uo1 34),(uo1 35),(uo1 36),(uo1 37),(uo1 38),(uo1 39),(uo1 40),(uo1 41),(uo1 42),(uo1 43),(uo1 44)])∧St [] h0 w0 h0 [] w') k ⟨0,(fit rfl),H,HS⟩ ?_ ?_
    · rintro m us w1 ⟨aG, ng, H, HS1⟩
      obtain ⟨uy1,rfl⟩:=unj ng
      cases m with
      |zero=>exact absurd H (by simp [dK.l0])
      | succ m =>
        rw [dK.l0] at H
        try simp only [patch,List.set_cons_zero,List.set_cons_succ]
        refine wp_seq ?_
        refine wp_seq ?_
        refine region ?_
        refine dS (v:=Value.int .i64 aG) rfl rfl (aJ rfl) ?_
        refine dS (v:=Value.string a0) rfl rfl (aJ rfl) ?_
        refine dS (v:=Value.int .i64 (a0.size:Int)) rfl rfl (yh rfl Tryz.runUnderlying9) ?_
        refine dS (v:=Value.bool (decide (aG<(a0.size:Int)))) rfl rfl (bK rfl rfl rfl) ?_
        try simp only [List.set_cons_zero,List.set_cons_succ]
        refine aA ?_
        refine ak ?_
        refine wp_cond_split (t:=(decide (aG<(a0.size:Int)))) rfl (fun c2=>?_) (fun c2=>?_)
        · replace H := bM H c2
          refine wp_skip ?_
          refine ak ?_
          refine wp_seq ?_
          refine wp_block ?_
          refine wp_seq ?_
          refine region ?_
          refine dS (v:=Value.string a0) rfl rfl (aJ rfl) ?_
          refine dS (v:=Value.int .i64 aG) rfl rfl (aJ rfl) ?_
          obtain ⟨hi1,H⟩:=eG H
          refine dS (v:=Value.int .u8 (byteAt a0 aG)) rfl rfl (IY rfl rfl hi1 Tryz.runUnderlying9) ?_
          refine dS (v:=Value.int .u8 (byteAt a0 aG)) rfl rfl (aB rfl) ?_
          try simp only [List.set_cons_zero,List.set_cons_succ]
          refine aA ?_
          refine ak ?_
          refine wp_seq ?_
          refine region ?_
          refine dS (v:=Value.int .u8 (byteAt a0 aG)) rfl rfl (aJ rfl) ?_
          refine dS (v:=Value.bool (decide ((byteAt a0 aG)≥97))) rfl rfl (bK rfl rfl rfl) ?_
          refine dS (v:=Value.bool (decide ((byteAt a0 aG)≥97))) rfl rfl (aJ rfl) ?_
          refine fC (b:=(decide ((byteAt a0 aG)≥97))) (c:=true) (v:=Value.int .u8 (byteAt a0 aG)) rfl rfl rfl rfl (fun hg=>(aJ rfl)) ?_
          refine aI (by simp only [List.set_cons_zero,List.set_cons_succ];rfl) ?_
          refine fC (b:=(decide ((byteAt a0 aG)≥97))) (c:=true) (v:=Value.bool (decide ((byteAt a0 aG)≤122))) rfl rfl rfl rfl (fun hg=>(bK ((show _=gv (true&&((decide ((byteAt a0 aG)≥97))==true)) (Value.int .u8 (byteAt a0 aG)) from rfl).trans (pU hg)) rfl rfl)) ?_
          refine dS (v:=Value.bool ((decide ((byteAt a0 aG)≥97))&&(decide ((byteAt a0 aG)≤122)))) rfl rfl (dA rfl (fun hp=>((show _=gv (true&&((decide ((byteAt a0 aG)≥97))==true)) (Value.bool (decide ((byteAt a0 aG)≤122))) from rfl).trans (pU (gu rfl hp)))) rfl) ?_
          refine dS (v:=Value.bool ((decide ((byteAt a0 aG)≥97))&&(decide ((byteAt a0 aG)≤122)))) rfl rfl (aJ rfl) ?_
          refine fC (b:=((decide ((byteAt a0 aG)≥97))&&(decide ((byteAt a0 aG)≤122)))) (c:=true) (v:=Value.int .u8 (byteAt a0 aG)) rfl rfl rfl rfl (fun hg=>(aJ rfl)) ?_
          refine aI (by simp only [List.set_cons_zero,List.set_cons_succ];rfl) ?_
          refine fC (b:=((decide ((byteAt a0 aG)≥97))&&(decide ((byteAt a0 aG)≤122)))) (c:=true) (v:=Value.bool (decide ((byteAt a0 aG)≥65))) rfl rfl rfl rfl (fun hg=>(bK ((show _=gv (true&&(((decide ((byteAt a0 aG)≥97))&&(decide ((byteAt a0 aG)≤122)))==false)) (Value.int .u8 (byteAt a0 aG)) from rfl).trans (pU hg)) rfl rfl)) ?_
          refine fC (b:=((decide ((byteAt a0 aG)≥97))&&(decide ((byteAt a0 aG)≤122)))) (c:=true) (v:=Value.bool (decide ((byteAt a0 aG)≥65))) rfl rfl rfl rfl (fun hg=>(aJ ((show _=gv (true&&(((decide ((byteAt a0 aG)≥97))&&(decide ((byteAt a0 aG)≤122)))==false)) (Value.bool (decide ((byteAt a0 aG)≥65))) from rfl).trans (pU hg)))) ?_
          refine fC (b:=(decide ((byteAt a0 aG)≥65))) (c:=(true&&(((decide ((byteAt a0 aG)≥97))&&(decide ((byteAt a0 aG)≤122)))==false))) (v:=Value.int .u8 (byteAt a0 aG)) rfl rfl rfl rfl (fun hg=>(aJ rfl)) ?_
          refine fC (b:=(decide ((byteAt a0 aG)≥65))) (c:=(true&&(((decide ((byteAt a0 aG)≥97))&&(decide ((byteAt a0 aG)≤122)))==false))) (v:=Value.bool (decide ((byteAt a0 aG)≤90))) rfl rfl rfl rfl (fun hg=>(bK ((show _=gv ((true&&(((decide ((byteAt a0 aG)≥97))&&(decide ((byteAt a0 aG)≤122)))==false))&&((decide ((byteAt a0 aG)≥65))==true)) (Value.int .u8 (byteAt a0 aG)) from rfl).trans (pU hg)) rfl rfl)) ?_
          refine aI (by simp only [List.set_cons_zero,List.set_cons_succ];rfl) ?_
          refine fC (b:=((decide ((byteAt a0 aG)≥97))&&(decide ((byteAt a0 aG)≤122)))) (c:=true) (v:=Value.bool ((decide ((byteAt a0 aG)≥65))&&(decide ((byteAt a0 aG)≤90)))) rfl rfl rfl rfl (fun hg=>(dA ((show _=gv (true&&(((decide ((byteAt a0 aG)≥97))&&(decide ((byteAt a0 aG)≤122)))==false)) (Value.bool (decide ((byteAt a0 aG)≥65))) from rfl).trans (pU hg)) (fun hp=>((show _=gv ((true&&(((decide ((byteAt a0 aG)≥97))&&(decide ((byteAt a0 aG)≤122)))==false))&&((decide ((byteAt a0 aG)≥65))==true)) (Value.bool (decide ((byteAt a0 aG)≤90))) from rfl).trans (pU (gu hg hp)))) rfl)) ?_
          refine dS (v:=Value.bool (((decide ((byteAt a0 aG)≥97))&&(decide ((byteAt a0 aG)≤122)))||((decide ((byteAt a0 aG)≥65))&&(decide ((byteAt a0 aG)≤90))))) rfl rfl (dZ rfl rfl (fun hp=>((show _=gv (true&&(((decide ((byteAt a0 aG)≥97))&&(decide ((byteAt a0 aG)≤122)))==false)) (Value.bool ((decide ((byteAt a0 aG)≥65))&&(decide ((byteAt a0 aG)≤90)))) from rfl).trans (pU (gu rfl hp))))) ?_
          refine dS (v:=Value.bool (((decide ((byteAt a0 aG)≥97))&&(decide ((byteAt a0 aG)≤122)))||((decide ((byteAt a0 aG)≥65))&&(decide ((byteAt a0 aG)≤90))))) rfl rfl (aJ rfl) ?_
          refine fC (b:=(((decide ((byteAt a0 aG)≥97))&&(decide ((byteAt a0 aG)≤122)))||((decide ((byteAt a0 aG)≥65))&&(decide ((byteAt a0 aG)≤90))))) (c:=true) (v:=Value.int .u8 (byteAt a0 aG)) rfl rfl rfl rfl (fun hg=>(aJ rfl)) ?_
          refine aI (by simp only [List.set_cons_zero,List.set_cons_succ];rfl) ?_
          refine fC (b:=(((decide ((byteAt a0 aG)≥97))&&(decide ((byteAt a0 aG)≤122)))||((decide ((byteAt a0 aG)≥65))&&(decide ((byteAt a0 aG)≤90))))) (c:=true) (v:=Value.bool ((byteAt a0 aG)==95)) rfl rfl rfl rfl (fun hg=>(bK ((show _=gv (true&&((((decide ((byteAt a0 aG)≥97))&&(decide ((byteAt a0 aG)≤122)))||((decide ((byteAt a0 aG)≥65))&&(decide ((byteAt a0 aG)≤90))))==false)) (Value.int .u8 (byteAt a0 aG)) from rfl).trans (pU hg)) rfl rfl)) ?_
          refine dS (v:=Value.bool ((((decide ((byteAt a0 aG)≥97))&&(decide ((byteAt a0 aG)≤122)))||((decide ((byteAt a0 aG)≥65))&&(decide ((byteAt a0 aG)≤90))))||((byteAt a0 aG)==95))) rfl rfl (dZ rfl rfl (fun hp=>((show _=gv (true&&((((decide ((byteAt a0 aG)≥97))&&(decide ((byteAt a0 aG)≤122)))||((decide ((byteAt a0 aG)≥65))&&(decide ((byteAt a0 aG)≤90))))==false)) (Value.bool ((byteAt a0 aG)==95)) from rfl).trans (pU (gu rfl hp))))) ?_
          refine dS (v:=Value.bool ((((decide ((byteAt a0 aG)≥97))&&(decide ((byteAt a0 aG)≤122)))||((decide ((byteAt a0 aG)≥65))&&(decide ((byteAt a0 aG)≤90))))||((byteAt a0 aG)==95))) rfl rfl (aB rfl) ?_
          try simp only [List.set_cons_zero,List.set_cons_succ]
          refine aA ?_
          refine ak ?_
          refine wp_seq ?_
          refine region ?_
          refine dS (v:=Value.bool ((((decide ((byteAt a0 aG)≥97))&&(decide ((byteAt a0 aG)≤122)))||((decide ((byteAt a0 aG)≥65))&&(decide ((byteAt a0 aG)≤90))))||((byteAt a0 aG)==95))) rfl rfl (aJ rfl) ?_
          refine dS (v:=Value.bool (!((((decide ((byteAt a0 aG)≥97))&&(decide ((byteAt a0 aG)≤122)))||((decide ((byteAt a0 aG)≥65))&&(decide ((byteAt a0 aG)≤90))))||((byteAt a0 aG)==95)))) rfl rfl (lK rfl) ?_
          refine dS (v:=Value.bool (!((((decide ((byteAt a0 aG)≥97))&&(decide ((byteAt a0 aG)≤122)))||((decide ((byteAt a0 aG)≥65))&&(decide ((byteAt a0 aG)≤90))))||((byteAt a0 aG)==95)))) rfl rfl (aJ rfl) ?_
          refine fC (b:=(!((((decide ((byteAt a0 aG)≥97))&&(decide ((byteAt a0 aG)≤122)))||((decide ((byteAt a0 aG)≥65))&&(decide ((byteAt a0 aG)≤90))))||((byteAt a0 aG)==95)))) (c:=true) (v:=Value.int .i64 aG) rfl rfl rfl rfl (fun hg=>(aJ rfl)) ?_
          refine aI (by simp only [List.set_cons_zero,List.set_cons_succ];rfl) ?_
          refine fC (b:=(!((((decide ((byteAt a0 aG)≥97))&&(decide ((byteAt a0 aG)≤122)))||((decide ((byteAt a0 aG)≥65))&&(decide ((byteAt a0 aG)≤90))))||((byteAt a0 aG)==95)))) (c:=true) (v:=Value.bool (aG==0)) rfl rfl rfl rfl (fun hg=>(bK ((show _=gv (true&&((!((((decide ((byteAt a0 aG)≥97))&&(decide ((byteAt a0 aG)≤122)))||((decide ((byteAt a0 aG)≥65))&&(decide ((byteAt a0 aG)≤90))))||((byteAt a0 aG)==95)))==true)) (Value.int .i64 aG) from rfl).trans (pU hg)) rfl rfl)) ?_
          refine fC (b:=(!((((decide ((byteAt a0 aG)≥97))&&(decide ((byteAt a0 aG)≤122)))||((decide ((byteAt a0 aG)≥65))&&(decide ((byteAt a0 aG)≤90))))||((byteAt a0 aG)==95)))) (c:=true) (v:=Value.bool (aG==0)) rfl rfl rfl rfl (fun hg=>(aJ ((show _=gv (true&&((!((((decide ((byteAt a0 aG)≥97))&&(decide ((byteAt a0 aG)≤122)))||((decide ((byteAt a0 aG)≥65))&&(decide ((byteAt a0 aG)≤90))))||((byteAt a0 aG)==95)))==true)) (Value.bool (aG==0)) from rfl).trans (pU hg)))) ?_
          refine fC (b:=(aG==0)) (c:=(true&&((!((((decide ((byteAt a0 aG)≥97))&&(decide ((byteAt a0 aG)≤122)))||((decide ((byteAt a0 aG)≥65))&&(decide ((byteAt a0 aG)≤90))))||((byteAt a0 aG)==95)))==true))) (v:=Value.int .u8 (byteAt a0 aG)) rfl rfl rfl rfl (fun hg=>(aJ rfl)) ?_
          refine fC (b:=(aG==0)) (c:=(true&&((!((((decide ((byteAt a0 aG)≥97))&&(decide ((byteAt a0 aG)≤122)))||((decide ((byteAt a0 aG)≥65))&&(decide ((byteAt a0 aG)≤90))))||((byteAt a0 aG)==95)))==true))) (v:=Value.bool (decide ((byteAt a0 aG)<48))) rfl rfl rfl rfl (fun hg=>(bK ((show _=gv ((true&&((!((((decide ((byteAt a0 aG)≥97))&&(decide ((byteAt a0 aG)≤122)))||((decide ((byteAt a0 aG)≥65))&&(decide ((byteAt a0 aG)≤90))))||((byteAt a0 aG)==95)))==true))&&((aG==0)==false)) (Value.int .u8 (byteAt a0 aG)) from rfl).trans (pU hg)) rfl rfl)) ?_
          refine aI (by simp only [List.set_cons_zero,List.set_cons_succ];rfl) ?_
          refine fC (b:=(!((((decide ((byteAt a0 aG)≥97))&&(decide ((byteAt a0 aG)≤122)))||((decide ((byteAt a0 aG)≥65))&&(decide ((byteAt a0 aG)≤90))))||((byteAt a0 aG)==95)))) (c:=true) (v:=Value.bool ((aG==0)||(decide ((byteAt a0 aG)<48)))) rfl rfl rfl rfl (fun hg=>(dZ ((show _=gv (true&&((!((((decide ((byteAt a0 aG)≥97))&&(decide ((byteAt a0 aG)≤122)))||((decide ((byteAt a0 aG)≥65))&&(decide ((byteAt a0 aG)≤90))))||((byteAt a0 aG)==95)))==true)) (Value.bool (aG==0)) from rfl).trans (pU hg)) rfl (fun hp=>((show _=gv ((true&&((!((((decide ((byteAt a0 aG)≥97))&&(decide ((byteAt a0 aG)≤122)))||((decide ((byteAt a0 aG)≥65))&&(decide ((byteAt a0 aG)≤90))))||((byteAt a0 aG)==95)))==true))&&((aG==0)==false)) (Value.bool (decide ((byteAt a0 aG)<48))) from rfl).trans (pU (gu hg hp)))))) ?_
          refine fC (b:=(!((((decide ((byteAt a0 aG)≥97))&&(decide ((byteAt a0 aG)≤122)))||((decide ((byteAt a0 aG)≥65))&&(decide ((byteAt a0 aG)≤90))))||((byteAt a0 aG)==95)))) (c:=true) (v:=Value.bool ((aG==0)||(decide ((byteAt a0 aG)<48)))) rfl rfl rfl rfl (fun hg=>(aJ ((show _=gv (true&&((!((((decide ((byteAt a0 aG)≥97))&&(decide ((byteAt a0 aG)≤122)))||((decide ((byteAt a0 aG)≥65))&&(decide ((byteAt a0 aG)≤90))))||((byteAt a0 aG)==95)))==true)) (Value.bool ((aG==0)||(decide ((byteAt a0 aG)<48)))) from rfl).trans (pU hg)))) ?_
          refine fC (b:=((aG==0)||(decide ((byteAt a0 aG)<48)))) (c:=(true&&((!((((decide ((byteAt a0 aG)≥97))&&(decide ((byteAt a0 aG)≤122)))||((decide ((byteAt a0 aG)≥65))&&(decide ((byteAt a0 aG)≤90))))||((byteAt a0 aG)==95)))==true))) (v:=Value.int .u8 (byteAt a0 aG)) rfl rfl rfl rfl (fun hg=>(aJ rfl)) ?_
          refine fC (b:=((aG==0)||(decide ((byteAt a0 aG)<48)))) (c:=(true&&((!((((decide ((byteAt a0 aG)≥97))&&(decide ((byteAt a0 aG)≤122)))||((decide ((byteAt a0 aG)≥65))&&(decide ((byteAt a0 aG)≤90))))||((byteAt a0 aG)==95)))==true))) (v:=Value.bool (decide ((byteAt a0 aG)>57))) rfl rfl rfl rfl (fun hg=>(bK ((show _=gv ((true&&((!((((decide ((byteAt a0 aG)≥97))&&(decide ((byteAt a0 aG)≤122)))||((decide ((byteAt a0 aG)≥65))&&(decide ((byteAt a0 aG)≤90))))||((byteAt a0 aG)==95)))==true))&&(((aG==0)||(decide ((byteAt a0 aG)<48)))==false)) (Value.int .u8 (byteAt a0 aG)) from rfl).trans (pU hg)) rfl rfl)) ?_
          refine aI (by simp only [List.set_cons_zero,List.set_cons_succ];rfl) ?_
          refine fC (b:=(!((((decide ((byteAt a0 aG)≥97))&&(decide ((byteAt a0 aG)≤122)))||((decide ((byteAt a0 aG)≥65))&&(decide ((byteAt a0 aG)≤90))))||((byteAt a0 aG)==95)))) (c:=true) (v:=Value.bool (((aG==0)||(decide ((byteAt a0 aG)<48)))||(decide ((byteAt a0 aG)>57)))) rfl rfl rfl rfl (fun hg=>(dZ ((show _=gv (true&&((!((((decide ((byteAt a0 aG)≥97))&&(decide ((byteAt a0 aG)≤122)))||((decide ((byteAt a0 aG)≥65))&&(decide ((byteAt a0 aG)≤90))))||((byteAt a0 aG)==95)))==true)) (Value.bool ((aG==0)||(decide ((byteAt a0 aG)<48)))) from rfl).trans (pU hg)) rfl (fun hp=>((show _=gv ((true&&((!((((decide ((byteAt a0 aG)≥97))&&(decide ((byteAt a0 aG)≤122)))||((decide ((byteAt a0 aG)≥65))&&(decide ((byteAt a0 aG)≤90))))||((byteAt a0 aG)==95)))==true))&&(((aG==0)||(decide ((byteAt a0 aG)<48)))==false)) (Value.bool (decide ((byteAt a0 aG)>57))) from rfl).trans (pU (gu hg hp)))))) ?_
          refine dS (v:=Value.bool ((!((((decide ((byteAt a0 aG)≥97))&&(decide ((byteAt a0 aG)≤122)))||((decide ((byteAt a0 aG)≥65))&&(decide ((byteAt a0 aG)≤90))))||((byteAt a0 aG)==95)))&&(((aG==0)||(decide ((byteAt a0 aG)<48)))||(decide ((byteAt a0 aG)>57))))) rfl rfl (dA rfl (fun hp=>((show _=gv (true&&((!((((decide ((byteAt a0 aG)≥97))&&(decide ((byteAt a0 aG)≤122)))||((decide ((byteAt a0 aG)≥65))&&(decide ((byteAt a0 aG)≤90))))||((byteAt a0 aG)==95)))==true)) (Value.bool (((aG==0)||(decide ((byteAt a0 aG)<48)))||(decide ((byteAt a0 aG)>57)))) from rfl).trans (pU (gu rfl hp)))) rfl) ?_
          try simp only [List.set_cons_zero,List.set_cons_succ]
          refine aA ?_
          refine ak ?_
          refine wp_cond_split (t:=((!((((decide ((byteAt a0 aG)≥97))&&(decide ((byteAt a0 aG)≤122)))||((decide ((byteAt a0 aG)≥65))&&(decide ((byteAt a0 aG)≤90))))||((byteAt a0 aG)==95)))&&(((aG==0)||(decide ((byteAt a0 aG)<48)))||(decide ((byteAt a0 aG)>57))))) rfl (fun c3=>?_) (fun c3=>?_)
          · replace H := bM H c3
            refine wp_seq ?_
            refine region ?_
            refine dS (v:=Value.bool false) rfl rfl (aB rfl) ?_
            try simp only [List.set_cons_zero,List.set_cons_succ]
            refine aA ?_
            refine ak ?_
            refine wp_ret ?_
            refine dn ?_
            refine aW ?_
            refine gJ ?_
            refine aW ?_
            obtain rfl:=Option.some.inj H
            obtain rfl:=Option.some.inj G1
            refine bodyPost_ret (aV rfl (aX rfl)) rfl ?_
            exact ⟨rfl,HS1.toE⟩
          · replace H := bW H (nt c3)
            refine wp_skip ?_
            refine dI ?_
            refine ak ?_
            refine region ?_
            refine dS (v:=Value.int .i64 aG) rfl rfl (aJ rfl) ?_
            refine dS (v:=Value.int .i64 (IntKind.wrap .i64 (aG+1))) rfl rfl (bK rfl rfl rfl) ?_
            refine dS (v:=Value.int .i64 (IntKind.wrap .i64 (aG+1))) rfl rfl (aB rfl) ?_
            try simp only [List.set_cons_zero,List.set_cons_succ]
            refine aA ?_
            refine gZ m (Nat.lt_succ_self m) rfl ⟨(IntKind.wrap .i64 (aG+1)),(fit rfl),H,HS1⟩
        · replace H := bW H (nt c2)
          refine wp_exit ?_
          refine eY ?_
          obtain rfl:=Option.some.inj H
          refine iG rfl ⟨_,rfl,(fit rfl),HS1⟩
    · rintro us w2 ⟨s1, rfl, ni, HS2⟩
      obtain ⟨uo1,rfl⟩:=unj ni
      replace H:=G1
      clear G1
      try simp only [patch,List.set_cons_zero,List.set_cons_succ]
      refine ak ?_
      refine wp_seq ?_
      refine region ?_
      refine dS (v:=Value.bool true) rfl rfl (aB rfl) ?_
      try simp only [List.set_cons_zero,List.set_cons_succ]
      refine aA ?_
      refine ak ?_
      refine wp_ret ?_
      obtain rfl:=Option.some.inj H
      refine bodyPost_ret (aV rfl (aX rfl)) rfl ?_
      exact ⟨rfl,HS2.toE⟩

end Go.Proofs.YtecpbadkdpbkpaaGreatDoor
namespace Go.Proofs.YtecpbadkdpbkpaaGreatDoor
open Go.RowKit Go.M
def eu.f (a0:aU) (a1:Int):Option (Bool):=some ((decide (a1≥0))&&(decide (a1<(a0.ay.length:Int))))
set_option maxRecDepth 20000 in
set_option maxHeartbeats 4000000 in
theorem eu.calls (a0:aU) (a1:Int) (bU:Option Addr) (bV:Nat) {h0:View} {w0:World} (hv:jL h0 w0) (fK:Rd dV h0 bU a0.ay) (iw:a0.ay.length≤bV) {r:Bool} (H:eu.f a0 a1=some r):Calls Tryz.prog 125 #[Value.agg #[vL bU a0.ay.length bV],vI a1] w0 (fun e w1=>e= .returned (vB r)∧Ext w0 w1):=by
 unfold eu.f at H
 have HS:St [] h0 w0 h0 [] w0:=St.init hv
 go_enter Tryz.func125,Tryz.ntmps125
 refine wp_seq<|region<|dU rfl rfl (dY (cs:=#[vL bU a0.ay.length bV]) rfl rfl) ?_
 rintro w1 _ hE1 ⟨b1,rfl,ge1,hb1⟩
 have HS1:=HS.new hE1 ge1 hb1
 refine rs (vB false) (aB rfl) ?_
 try simp only [sc0,sc1]
 refine aA<|ak<|wp_seq<|region<|rs (vI a1) (aJ rfl)<|rs (vB (decide (a1≥0))) (bK rfl rfl rfl)<|rs (vB (decide (a1≥0))) (aJ rfl)<|rgs (decide (a1≥0)) true (vI a1) rfl rfl rfl rfl (fun hg=>(aJ rfl))<|aI (by simp only [sc0,sc1];rfl) ?_
 refine rgs (decide (a1≥0)) true (vP b1 0) rfl rfl rfl rfl (fun hg=>(aH (n:=1) (o':=0) rfl Tryz.runUnderlying24 rfl Tryz.sizeOf22 (by decide) rfl))<|rgs (decide (a1≥0)) true (vL bU a0.ay.length bV) rfl rfl rfl rfl (fun hg=>(aK (gvt (vP b1 0) hg rfl) Tryz.isAgg22 (HS1.look 0 rfl) rfl))<|rgs (decide (a1≥0)) true (vI (a0.ay.length:Int)) rfl rfl rfl rfl (fun hg=>(jJ (gvt (vL bU a0.ay.length bV) hg rfl) Tryz.runUnderlying22))<|rgs (decide (a1≥0)) true (vB (decide (a1<(a0.ay.length:Int)))) rfl rfl rfl rfl (fun hg=>(bK (gvt (vI a1) hg rfl) (gvt (vI (a0.ay.length:Int)) hg rfl) rfl))<|aI (by simp only [sc0,sc1];rfl) ?_
 refine rs (vB ((decide (a1≥0))&&(decide (a1<(a0.ay.length:Int))))) (dA rfl (fun hp=>(gvt (vB (decide (a1<(a0.ay.length:Int)))) (gu rfl hp) rfl)) rfl)<|rs (vB ((decide (a1≥0))&&(decide (a1<(a0.ay.length:Int))))) (aB rfl) ?_
 try simp only [sc0,sc1]
 refine aA<|ak<|wp_ret ?_
 obtain rfl:=Option.some.inj H
 exact bodyPost_ret (aV rfl (aX rfl)) rfl<|⟨rfl,HS1.toE⟩

end Go.Proofs.YtecpbadkdpbkpaaGreatDoor
namespace Go.Proofs.YtecpbadkdpbkpaaGreatDoor
open Go.RowKit Go.M
def bC.l1 (a0:List dw) (aG:Int):Nat→Int→Option ((Bool)⊕(Unit))
 |0,_=>none
 |m+1,kN=>if (decide (kN<aG))=true then (if 0≤kN∧kN<a0.length then (if 0≤aG∧aG<a0.length then (if (strEq ((rd aj a0 kN).aQ) ((rd aj a0 aG).aQ))=true then (some (.inl false)) else (bC.l1 a0 aG m (IntKind.wrap .i64 (kN+1)))) else none) else none) else (some (.inr ()))
def bC.l0 (k:Nat) (a0:List dw):Nat→Int→Option ((Bool)⊕(Unit))
 |0,_=>none
 |m+1,aG=>if (decide (aG<(a0.length:Int)))=true then (if 0≤aG∧aG<a0.length then ((dK.f k ((rd aj a0 aG).aQ)).bind fun v1=>(if (!v1)=true then (some (.inl false)) else ((bC.l1 a0 aG k 0).bind fun xx2=>(match xx2 with| .inl r=>some (.inl r)| .inr s1=>bC.l0 k a0 m (IntKind.wrap .i64 (aG+1)))))) else none) else (some (.inr ()))
def bC.f (k:Nat) (a0:List dw):Option (Bool):=if (((a0.length:Int)==0)||(decide ((a0.length:Int)>32)))=true then (some false) else ((bC.l0 k a0 k 0).bind fun xx1=>(match xx1 with| .inl r=>some r| .inr s2=>some true))
set_option maxRecDepth 20000 in
set_option maxHeartbeats 4000000 in
theorem bC.calls (k:Nat) (a0:List dw) (bU:Option Addr) (bV:Nat) {h0:View} {w0:World} (hv:jL h0 w0) (fK:Rd eH h0 bU a0) (iw:a0.length≤bV) {r:Bool} (H:bC.f k a0=some r):Calls Tryz.prog 126 #[vL bU a0.length bV] w0 (fun e w1=>e= .returned (vB r)∧Ext w0 w1):=by
 unfold bC.f at H
 have HS:St [] h0 w0 h0 [] w0:=St.init hv
 go_enter Tryz.func126,Tryz.ntmps126
 refine wp_seq<|region<|rs (vB false) (aB rfl) ?_
 try simp only [sc0,sc1]
 refine aA<|ak<|wp_seq<|wp_seq<|region<|rs (vL bU a0.length bV) (aJ rfl)<|rs (vI (a0.length:Int)) (jJ rfl Tryz.runUnderlying54)<|rs (vB ((a0.length:Int)==0)) (bK rfl rfl rfl)<|rs (vB ((a0.length:Int)==0)) (aJ rfl)<|aI (by simp only [sc0,sc1];rfl) ?_
 refine rgs ((a0.length:Int)==0) true (vL bU a0.length bV) rfl rfl rfl rfl (fun hg=>(aJ rfl))<|rgs ((a0.length:Int)==0) true (vI (a0.length:Int)) rfl rfl rfl rfl (fun hg=>(jJ (gvt (vL bU a0.length bV) hg rfl) Tryz.runUnderlying54))<|rgs ((a0.length:Int)==0) true (vB (decide ((a0.length:Int)>32))) rfl rfl rfl rfl (fun hg=>(bK (gvt (vI (a0.length:Int)) hg rfl) rfl rfl))<|rs (vB (((a0.length:Int)==0)||(decide ((a0.length:Int)>32)))) (dZ rfl rfl (fun hp=>(gvt (vB (decide ((a0.length:Int)>32))) (gu rfl hp) rfl))) ?_
 try simp only [sc0,sc1]
 refine aA<|ak<|wp_cond_split (t:=(((a0.length:Int)==0)||(decide ((a0.length:Int)>32)))) rfl (fun c1=>?_) (fun c1=>?_)
 ·replace H:=bM H c1
  refine wp_seq<|region<|rs (vB false) (aB rfl) ?_
  try simp only [sc0,sc1]
  refine aA<|ak<|wp_ret<|aW ?_
  obtain rfl:=Option.some.inj H
  exact bodyPost_ret (aV rfl (aX rfl)) rfl<|⟨rfl,HS.toE⟩
 ·replace H:=bW H (nt c1)
  refine wp_skip<|ak<|wp_seq<|wp_seq<|region<|rs (vI 0) (aB rfl) ?_
  try simp only [sc0,sc1]
  refine aA<|ak ?_
  obtain ⟨xx1,H,G1⟩:=bJ H
  refine jm [2,3,4,13,14,15,16,17,18,19,20,21,22,23,24,25,26,27,28,29,30,31,32,33,34,35,36,37,38,39,40,41] (fun m us w'=>∃(aG:Int),Fit us (fun uy1=>[(uy1 0),vI aG,(uy1 2),(uy1 3),(uy1 4),(uy1 5),(uy1 6),(uy1 7),(uy1 8),(uy1 9),(uy1 10),(uy1 11),(uy1 12),(uy1 13),(uy1 14),(uy1 15),(uy1 16),(uy1 17),(uy1 18),(uy1 19),(uy1 20),(uy1 21),(uy1 22),(uy1 23),(uy1 24),(uy1 25),(uy1 26),(uy1 27),(uy1 28),(uy1 29),(uy1 30),(uy1 31)])∧bC.l0 k a0 m aG=some xx1∧St [] h0 w0 h0 [] w') (fun us w'=>∃(s2:Unit),xx1= .inr s2∧Fit us (fun uo2=>[(uo2 0),(uo2 1),(uo2 2),(uo2 3),(uo2 4),(uo2 5),(uo2 6),(uo2 7),(uo2 8),(uo2 9),(uo2 10),(uo2 11),(uo2 12),(uo2 13),(uo2 14),(uo2 15),(uo2 16),(uo2 17),(uo2 18),(uo2 19),(uo2 20),(uo2 21),(uo2 22),(uo2 23),(uo2 24),(uo2 25),(uo2 26),(uo2 27),(uo2 28),(uo2 29),(uo2 30),(uo2 31)])∧St [] h0 w0 h0 [] w') k ⟨0,(fit rfl),H,HS⟩ ?_ ?_
  ·rintro m us w1 ⟨aG,ng,H,HS1⟩
   obtain ⟨uy1,rfl⟩:=unj ng
   cases m with
   |zero=>exact absurd H (by simp [bC.l0])
   |succ m=>
    rw [bC.l0] at H
    try simp only [patch,sc0,sc1]
    refine wp_seq<|wp_seq<|region<|rs (vI aG) (aJ rfl)<|rs (vL bU a0.length bV) (aJ rfl)<|rs (vI (a0.length:Int)) (jJ rfl Tryz.runUnderlying54)<|rs (vB (decide (aG<(a0.length:Int)))) (bK rfl rfl rfl) ?_
    try simp only [sc0,sc1]
    refine aA<|ak<|wp_cond_split (t:=(decide (aG<(a0.length:Int)))) rfl (fun c2=>?_) (fun c2=>?_)
    ·replace H:=bM H c2
     refine wp_skip<|ak<|wp_seq<|wp_block<|wp_seq<|wp_seq<|region<|rs (vL bU a0.length bV) (aJ rfl)<|rs (vI aG) (aJ rfl) ?_
     obtain ⟨hi1,H⟩:=eG H
     obtain ⟨ad1,e1,lu⟩:=iM fK hi1.1 hi1.2
     refine rs (Value.pointer (some (Addr.add ad1 (aG.toNat*3)))) (dP (sz:=3) rfl e1 rfl hi1.1 hi1.2 Tryz.runUnderlying54 Tryz.sizeOf129)<|rs (Value.pointer (some (Addr.add (Addr.add ad1 (aG.toNat*3)) 0))) (jr (n:=1) (o':=0) rfl Tryz.runUnderlying129 rfl Tryz.sizeOf9 (by decide) rfl)<|aI (by simp only [sc0,sc1];rfl) ?_
     refine rs (vS ((rd aj a0 aG).aQ)) (jC rfl Tryz.isAgg9 (lu.cell HS1.sees 0 rfl)) ?_
     obtain ⟨v1,H1,H⟩:=bJ H
     refine run_eq (v:=vB v1) rfl rfl (bf Tryz.call124 rfl rfl (dK.calls k ((rd aj a0 aG).aQ) HS1.sees H1)) ?_
     intro w2 hE1
     have HS2:=HS1.step hE1
     refine rs (vB (!v1)) (lK rfl) ?_
     try simp only [sc0,sc1]
     refine aA<|ak<|wp_cond_split (t:=(!v1)) rfl (fun c3=>?_) (fun c3=>?_)
     ·replace H:=bM H c3
      refine wp_seq<|region<|rs (vB false) (aB rfl) ?_
      try simp only [sc0,sc1]
      refine aA<|ak<|wp_ret<|aW<|dn<|aW<|gJ<|aW ?_
      obtain rfl:=Option.some.inj H
      obtain rfl:=Option.some.inj G1
      exact bodyPost_ret (aV rfl (aX rfl)) rfl<|⟨rfl,HS2.toE⟩
     ·replace H:=bW H (nt c3)
      refine wp_skip<|ak<|wp_seq<|region<|rs (vI 0) (aB rfl) ?_
      try simp only [sc0,sc1]
      refine aA<|ak ?_
      obtain ⟨xx2,H,G2⟩:=bJ H
      refine jm [2,4,26,27,28,29,30,31,32,33,34,35,36,37,38,39,40,41] (fun m us w'=>∃(kN:Int),Fit us (fun uy2=>[(uy2 0),vI kN,(uy2 2),(uy2 3),(uy2 4),(uy2 5),(uy2 6),(uy2 7),(uy2 8),(uy2 9),(uy2 10),(uy2 11),(uy2 12),(uy2 13),(uy2 14),(uy2 15),(uy2 16),(uy2 17)])∧bC.l1 a0 aG m kN=some xx2∧St [] h0 w0 h0 [] w') (fun us w'=>∃(s1:Unit),xx2= .inr s1∧Fit us (fun uo1=>[(uo1 0),(uo1 1),(uo1 2),(uo1 3),(uo1 4),(uo1 5),(uo1 6),(uo1 7),(uo1 8),(uo1 9),(uo1 10),(uo1 11),(uo1 12),(uo1 13),(uo1 14),(uo1 15),(uo1 16),(uo1 17)])∧St [] h0 w0 h0 [] w') k ⟨0,(fit rfl),H,HS2⟩ ?_ ?_
      ·rintro m us w3 ⟨kN,WW,H,HS3⟩
       obtain ⟨uy2,rfl⟩:=unj WW
       cases m with
       |zero=>exact absurd H (by simp [bC.l1])
       |succ m=>
        rw [bC.l1] at H
        try simp only [patch,sc0,sc1]
        refine wp_seq<|wp_seq<|region<|rs (vI kN) (aJ rfl)<|rs (vI aG) (aJ rfl)<|rs (vB (decide (kN<aG))) (bK rfl rfl rfl) ?_
        try simp only [sc0,sc1]
        refine aA<|ak<|wp_cond_split (t:=(decide (kN<aG))) rfl (fun c4=>?_) (fun c4=>?_)
        ·replace H:=bM H c4
         refine wp_skip<|ak<|wp_seq<|wp_block<|wp_seq ?_
         obtain ⟨hi2,H⟩:=eG H
         obtain ⟨ad2,e2,xw⟩:=iM fK hi2.1 hi2.2
         obtain ⟨hi3,H⟩:=eG H
         obtain ⟨ad3,e3,WX⟩:=iM fK hi3.1 hi3.2
         refine drawn [.eq (vL bU a0.length bV), .eq (vI kN), .eq (Value.pointer (some (Addr.add ad2 (kN.toNat*3)))), .eq (Value.pointer (some (Addr.add (Addr.add ad2 (kN.toNat*3)) 0))), .eq (vS ((rd aj a0 kN).aQ)), .eq (vL bU a0.length bV), .eq (vI aG), .eq (Value.pointer (some (Addr.add ad3 (aG.toNat*3)))), .eq (Value.pointer (some (Addr.add (Addr.add ad3 (aG.toNat*3)) 0))), .eq (vS ((rd aj a0 aG).aQ)), .eq (vB (strEq ((rd aj a0 kN).aQ) ((rd aj a0 aG).aQ)))] [31,32,33,34,35,36,37,38,39,40,41] lW (by kernel_rfl) rfl (aS (aS (aS (aS (aS (aS (aS (aS (aS (aS (aS iP))))))))))) ⟨aY rfl (fun a' w' hE hk=>by have HSd:=HS3.step hE;exact bI (aJ (show _=vL bU a0.length bV from hk 0 rfl))),aY rfl (fun a' w' hE hk=>by have HSd:=HS3.step hE;exact bI (aJ (show _=vI kN from hk 4 rfl))),aY rfl (fun a' w' hE hk=>by have HSd:=HS3.step hE;exact bI (dP (sz:=3) (show _=vL bU a0.length bV from hk 31 rfl) e2 (show _=vI kN from hk 32 rfl) hi2.1 hi2.2 Tryz.runUnderlying54 Tryz.sizeOf129)),aY rfl (fun a' w' hE hk=>by have HSd:=HS3.step hE;exact bI (jr (n:=1) (o':=0) (show _=Value.pointer (some (Addr.add ad2 (kN.toNat*3))) from hk 33 rfl) Tryz.runUnderlying129 rfl Tryz.sizeOf9 (by decide) rfl)),aY rfl (fun a' w' hE hk=>by have HSd:=HS3.step hE;exact bI (jC (show _=Value.pointer (some (Addr.add (Addr.add ad2 (kN.toNat*3)) 0)) from hk 34 rfl) Tryz.isAgg9 (xw.cell HSd.sees 0 rfl))),aY rfl (fun a' w' hE hk=>by have HSd:=HS3.step hE;exact bI (aJ (show _=vL bU a0.length bV from hk 0 rfl))),aY rfl (fun a' w' hE hk=>by have HSd:=HS3.step hE;exact bI (aJ (show _=vI aG from hk 3 rfl))),aY rfl (fun a' w' hE hk=>by have HSd:=HS3.step hE;exact bI (dP (sz:=3) (show _=vL bU a0.length bV from hk 36 rfl) e3 (show _=vI aG from hk 37 rfl) hi3.1 hi3.2 Tryz.runUnderlying54 Tryz.sizeOf129)),aY rfl (fun a' w' hE hk=>by have HSd:=HS3.step hE;exact bI (jr (n:=1) (o':=0) (show _=Value.pointer (some (Addr.add ad3 (aG.toNat*3))) from hk 38 rfl) Tryz.runUnderlying129 rfl Tryz.sizeOf9 (by decide) rfl)),aY rfl (fun a' w' hE hk=>by have HSd:=HS3.step hE;exact bI (jC (show _=Value.pointer (some (Addr.add (Addr.add ad3 (aG.toNat*3)) 0)) from hk 39 rfl) Tryz.isAgg9 (WX.cell HSd.sees 0 rfl))),aY rfl (fun a' w' hE hk=>by have HSd:=HS3.step hE;exact bI (uT (show _=vS ((rd aj a0 kN).aQ) from hk 35 rfl) (show _=vS ((rd aj a0 aG).aQ) from hk 40 rfl))),trivial⟩ ?_
         intro w4 hE2
         simp only [List.zip_cons_cons,List.zip_nil_left,List.zip_nil_right,yg,sc0,sc1,List.length_cons,List.length_nil,List.drop_succ_cons,List.drop_zero,Nat.zero_add,Nat.reduceAdd]
         have HS4:=HS3.step hE2
         refine aA<|ak<|wp_cond_split (t:=(strEq ((rd aj a0 kN).aQ) ((rd aj a0 aG).aQ))) rfl (fun c5=>?_) (fun c5=>?_)
         ·replace H:=bM H c5
          refine wp_seq<|region<|rs (vB false) (aB rfl) ?_
          try simp only [sc0,sc1]
          refine aA<|ak<|wp_ret<|dn<|aW<|gJ<|dn<|aW<|gJ<|aW ?_
          obtain rfl:=Option.some.inj H
          obtain rfl:=Option.some.inj G2
          obtain rfl:=Option.some.inj G1
          exact bodyPost_ret (aV rfl (aX rfl)) rfl<|⟨rfl,HS4.toE⟩
         ·replace H:=bW H (nt c5)
          refine wp_skip<|dI<|ak<|region<|rs (vI kN) (aJ rfl)<|rs (vI (w64 (kN+1))) (bK rfl rfl rfl)<|rs (vI (w64 (kN+1))) (aB rfl) ?_
          try simp only [sc0,sc1]
          refine aA<|gZ m (Nat.lt_succ_self m) rfl ⟨(w64 (kN+1)),(fit rfl),H,HS4⟩
        ·replace H:=bW H (nt c4)
         refine wp_exit<|eY ?_
         obtain rfl:=Option.some.inj H
         refine iG rfl ⟨_,rfl,(fit rfl),HS3⟩
      ·rintro us w5 ⟨s1,rfl,ni,HS5⟩
       obtain ⟨uo1,rfl⟩:=unj ni
       replace H:=G2
       clear G2
       try simp only [patch,sc0,sc1]
       refine dI<|ak<|region<|rs (vI aG) (aJ rfl)<|rs (vI (w64 (aG+1))) (bK rfl rfl rfl)<|rs (vI (w64 (aG+1))) (aB rfl) ?_
       try simp only [sc0,sc1]
       refine aA<|gZ m (Nat.lt_succ_self m) rfl ⟨(w64 (aG+1)),(fit rfl),H,HS5⟩
    ·replace H:=bW H (nt c2)
     refine wp_exit<|eY ?_
     obtain rfl:=Option.some.inj H
     refine iG rfl ⟨_,rfl,(fit rfl),HS1⟩
  ·rintro us w6 ⟨s2,rfl,WY,HS6⟩
   obtain ⟨uo2,rfl⟩:=unj WY
   replace H:=G1
   clear G1
   try simp only [patch,sc0,sc1]
   refine ak<|wp_seq<|region<|rs (vB true) (aB rfl) ?_
   try simp only [sc0,sc1]
   refine aA<|ak<|wp_ret ?_
   obtain rfl:=Option.some.inj H
   exact bodyPost_ret (aV rfl (aX rfl)) rfl<|⟨rfl,HS6.toE⟩

end Go.Proofs.YtecpbadkdpbkpaaGreatDoor
namespace Go.Proofs.YtecpbadkdpbkpaaGreatDoor
open Go.RowKit Go.M
def dF.l0 (a0:aU) (a1:bF):Nat→Int→Option ((Bool)⊕(Unit))
 |0,_=>none
 |m+1,aG=>if (decide (aG<(a1.au.length:Int)))=true then (if 0≤aG∧aG<a1.au.length then ((if (true&&((a1.aC==4)==true))=true then eu.f a0 ((rd aj a1.au aG).vType) else some false).bind fun v7=>(if ((a1.aC==4)&&(!v7))=true then (some (.inl false)) else (if ((a1.aC==5)&&((((rd aj a1.au aG).vType !=0)||(decide ((rd aj a1.au aG).vAt<(-2147483648))))||(decide ((rd aj a1.au aG).vAt>2147483647))))=true then (some (.inl false)) else (dF.l0 a0 a1 m (IntKind.wrap .i64 (aG+1)))))) else none) else (some (.inr ()))
def dF.f (k:Nat) (a0:aU) (a1:bF):Option (Bool):=(if (true&&(((decide (a1.aC<1))||(decide (a1.aC>6)))==false))=true then iR.f a1 else some false).bind fun v1=>((if (true&&((((decide (a1.aC<1))||(decide (a1.aC>6)))||(!v1))==false))=true then dW.f a1 else some false).bind fun v2=>((if ((true&&((((decide (a1.aC<1))||(decide (a1.aC>6)))||(!v1))==false))&&(v2==true))=true then dK.f k a1.aQ else some false).bind fun v3=>(if ((((decide (a1.aC<1))||(decide (a1.aC>6)))||(!v1))||(v2&&(!v3)))=true then (some false) else (if (a1.aC==1)=true then (some ((((a1.bG.aP==1)||(a1.bG.aP==2))||(a1.bG.aP==4))||(a1.bG.aP==8))) else (((if (a1.aC==2)=true then (some (a1.aC==2)) else (some (a1.aC==6))):Option (Bool)).bind fun xx1=>(if xx1=true then ((eu.f a0 a1.dM).bind fun v4=>(some v4)) else (if (a1.aC==3)=true then ((eu.f a0 a1.dM).bind fun v5=>(some ((v5&&(decide (a1.vN≥1)))&&(decide (a1.vN≤512))))) else ((bC.f k a1.au).bind fun v6=>(if (!v6)=true then (some false) else ((dF.l0 a0 a1 k 0).bind fun xx2=>(match xx2 with| .inl r=>some r| .inr s1=>some ((a1.aC==5)||((decide (a1.vN≥1))&&(decide (a1.vN≤512)))))))))))))))
set_option maxRecDepth 20000 in
set_option maxHeartbeats 4000000 in
theorem dF.calls (k:Nat) (a0:aU) (a1:bF) (bU:Option Addr) (bV:Nat) (Dx:Option Addr) (Dy:Nat) {h0:View} {w0:World} (hv:jL h0 w0) (fK:Rd dV h0 bU a0.ay) (iw:a0.ay.length≤bV) (Qi:Rd eH h0 Dx a1.au) (Us:a1.au.length≤Dy) {r:Bool} (H:dF.f k a0 a1=some r):Calls Tryz.prog 77 #[Value.agg #[vL bU a0.ay.length bV],Value.agg #[vI a1.aC,vS a1.aQ,vI a1.bG.aP,vB a1.bG.aN,vI a1.dM,vI a1.vN,vL Dx a1.au.length Dy]] w0 (fun e w1=>e= .returned (vB r)∧Ext w0 w1):=by
 unfold dF.f at H
 have HS:St [] h0 w0 h0 [] w0:=St.init hv
 go_enter Tryz.func77,Tryz.ntmps77
 refine wp_seq<|region<|dU rfl rfl (dY (cs:=#[vL bU a0.ay.length bV]) rfl rfl) ?_
 rintro w1 _ hE1 ⟨b1,rfl,ge1,hb1⟩
 have HS1:=HS.new hE1 ge1 hb1
 refine dU rfl rfl (dY (cs:=#[vI a1.aC,vS a1.aQ,vI a1.bG.aP,vB a1.bG.aN,vI a1.dM,vI a1.vN,vL Dx a1.au.length Dy]) rfl rfl) ?_
 rintro w2 _ hE2 ⟨b2,rfl,ge2,hb2⟩
 have HS2:=HS1.new hE2 ge2 hb2
 refine rs (vB false) (aB rfl) ?_
 try simp only [sc0,sc1]
 refine aA<|ak<|wp_seq<|wp_seq<|region<|rs (vP b2 0) (aH (n:=1) (o':=0) rfl Tryz.runUnderlying56 rfl Tryz.sizeOf3 (by decide) rfl)<|rs (vI a1.aC) (aK rfl Tryz.isAgg3 (HS2.look 0 rfl) rfl)<|rs (vB (decide (a1.aC<1))) (bK rfl rfl rfl)<|rs (vB (decide (a1.aC<1))) (aJ rfl)<|aI (by simp only [sc0,sc1];rfl) ?_
 refine rgs (decide (a1.aC<1)) true (vP b2 0) rfl rfl rfl rfl (fun hg=>(aH (n:=1) (o':=0) rfl Tryz.runUnderlying56 rfl Tryz.sizeOf3 (by decide) rfl))<|rgs (decide (a1.aC<1)) true (vI a1.aC) rfl rfl rfl rfl (fun hg=>(aK (gvt (vP b2 0) hg rfl) Tryz.isAgg3 (HS2.look 0 rfl) rfl))<|rgs (decide (a1.aC<1)) true (vB (decide (a1.aC>6))) rfl rfl rfl rfl (fun hg=>(bK (gvt (vI a1.aC) hg rfl) rfl rfl))<|rs (vB ((decide (a1.aC<1))||(decide (a1.aC>6)))) (dZ rfl rfl (fun hp=>(gvt (vB (decide (a1.aC>6))) (gu rfl hp) rfl)))<|aI (by simp only [sc0,sc1];rfl) ?_
 refine rs (vB ((decide (a1.aC<1))||(decide (a1.aC>6)))) (aJ rfl)<|rgs ((decide (a1.aC<1))||(decide (a1.aC>6))) true (Value.agg #[vI a1.aC,vS a1.aQ,vI a1.bG.aP,vB a1.bG.aN,vI a1.dM,vI a1.vN,vL Dx a1.au.length Dy]) rfl rfl rfl rfl (fun hg=>(aZ (n:=7) (vs:=[vI a1.aC,vS a1.aQ,vI a1.bG.aP,vB a1.bG.aN,vI a1.dM,vI a1.vN,vL Dx a1.au.length Dy]) rfl Tryz.isAgg56 (HS2.look 0 rfl) Tryz.sizeOf56 rfl rfl)) ?_
 obtain ⟨v1,H1,H⟩:=bJ H
 refine xZ (b:=((decide (a1.aC<1))||(decide (a1.aC>6)))) (c:=true) (v:=vB v1) rfl rfl rfl rfl (fun hg=>(bf Tryz.call123 rfl (OI (gvt (Value.agg #[vI a1.aC,vS a1.aQ,vI a1.bG.aP,vB a1.bG.aN,vI a1.dM,vI a1.vN,vL Dx a1.au.length Dy]) hg rfl)) (iR.calls a1 Dx Dy HS2.sees Qi Us (bM H1 hg)))) ?_
 intro w3 hE3
 have HS3:=HS2.step hE3
 refine rgs ((decide (a1.aC<1))||(decide (a1.aC>6))) true (vB (!v1)) rfl rfl rfl rfl (fun hg=>(lK (gvt (vB v1) hg rfl)))<|aI (by simp only [sc0,sc1];rfl) ?_
 refine rs (vB (((decide (a1.aC<1))||(decide (a1.aC>6)))||(!v1))) (dZ rfl rfl (fun hp=>(gvt (vB (!v1)) (gu rfl hp) rfl)))<|rs (vB (((decide (a1.aC<1))||(decide (a1.aC>6)))||(!v1))) (aJ rfl)<|rgs (((decide (a1.aC<1))||(decide (a1.aC>6)))||(!v1)) true (Value.agg #[vI a1.aC,vS a1.aQ,vI a1.bG.aP,vB a1.bG.aN,vI a1.dM,vI a1.vN,vL Dx a1.au.length Dy]) rfl rfl rfl rfl (fun hg=>(aZ (n:=7) (vs:=[vI a1.aC,vS a1.aQ,vI a1.bG.aP,vB a1.bG.aN,vI a1.dM,vI a1.vN,vL Dx a1.au.length Dy]) rfl Tryz.isAgg56 (HS3.look 0 rfl) Tryz.sizeOf56 rfl rfl)) ?_
 obtain ⟨v2,H2,H⟩:=bJ H
 refine xZ (b:=(((decide (a1.aC<1))||(decide (a1.aC>6)))||(!v1))) (c:=true) (v:=vB v2) rfl rfl rfl rfl (fun hg=>(bf Tryz.call78 rfl (OI (gvt (Value.agg #[vI a1.aC,vS a1.aQ,vI a1.bG.aP,vB a1.bG.aN,vI a1.dM,vI a1.vN,vL Dx a1.au.length Dy]) hg rfl)) (dW.calls a1 Dx Dy HS3.sees Qi Us (bM H2 hg)))) ?_
 intro w4 hE4
 have HS4:=HS3.step hE4
 refine aI (by simp only [sc0,sc1];rfl) ?_
 refine rgs (((decide (a1.aC<1))||(decide (a1.aC>6)))||(!v1)) true (vB v2) rfl rfl rfl rfl (fun hg=>(aJ (gvt (vB v2) hg rfl)))<|rgs v2 (true&&((((decide (a1.aC<1))||(decide (a1.aC>6)))||(!v1))==false)) (vP b2 1) rfl rfl rfl rfl (fun hg=>(aH (n:=1) (o':=1) rfl Tryz.runUnderlying56 rfl Tryz.sizeOf9 (by decide) rfl))<|rgs v2 (true&&((((decide (a1.aC<1))||(decide (a1.aC>6)))||(!v1))==false)) (vS a1.aQ) rfl rfl rfl rfl (fun hg=>(aK (gvt (vP b2 1) hg rfl) Tryz.isAgg9 (HS4.look 0 rfl) rfl)) ?_
 obtain ⟨v3,H3,H⟩:=bJ H
 refine xZ (b:=v2) (c:=(true&&((((decide (a1.aC<1))||(decide (a1.aC>6)))||(!v1))==false))) (v:=vB v3) rfl rfl rfl rfl (fun hg=>(bf Tryz.call124 rfl (OI (gvt (vS a1.aQ) hg rfl)) (dK.calls k a1.aQ HS4.sees (bM H3 hg)))) ?_
 intro w5 hE5
 have HS5:=HS4.step hE5
 refine aI (by simp only [sc0,sc1];rfl) ?_
 refine rgs v2 (true&&((((decide (a1.aC<1))||(decide (a1.aC>6)))||(!v1))==false)) (vB (!v3)) rfl rfl rfl rfl (fun hg=>(lK (gvt (vB v3) hg rfl)))<|rgs (((decide (a1.aC<1))||(decide (a1.aC>6)))||(!v1)) true (vB (v2&&(!v3))) rfl rfl rfl rfl (fun hg=>(dA (gvt (vB v2) hg rfl) (fun hp=>(gvt (vB (!v3)) (gu hg hp) rfl)) rfl))<|rs (vB ((((decide (a1.aC<1))||(decide (a1.aC>6)))||(!v1))||(v2&&(!v3)))) (dZ rfl rfl (fun hp=>(gvt (vB (v2&&(!v3))) (gu rfl hp) rfl))) ?_
 try simp only [sc0,sc1]
 refine aA<|ak<|wp_cond_split (t:=((((decide (a1.aC<1))||(decide (a1.aC>6)))||(!v1))||(v2&&(!v3)))) rfl (fun c1=>?_) (fun c1=>?_)
 ·replace H:=bM H c1
  refine wp_seq<|region<|rs (vB false) (aB rfl) ?_
  try simp only [sc0,sc1]
  refine aA<|ak<|wp_ret<|aW ?_
  obtain rfl:=Option.some.inj H
  exact bodyPost_ret (aV rfl (aX rfl)) rfl<|⟨rfl,HS5.toE⟩
 ·replace H:=bW H (nt c1)
  refine wp_skip<|ak<|wp_seq<|wp_seq<|region<|rs (vP b2 0) (aH (n:=1) (o':=0) rfl Tryz.runUnderlying56 rfl Tryz.sizeOf3 (by decide) rfl)<|rs (vI a1.aC) (aK rfl Tryz.isAgg3 (HS5.look 0 rfl) rfl) ?_
  try simp only [sc0,sc1]
  refine aA<|ak<|wp_block<|wp_seq<|region<|rs (vB (a1.aC==1)) (bK rfl rfl rfl)<|rs (vB (a1.aC==1)) (aB rfl) ?_
  try simp only [sc0,sc1]
  refine aA<|ak<|wp_cond_split (t:=(a1.aC==1)) rfl (fun c2=>?_) (fun c2=>?_)
  ·replace H:=bM H c2
   refine wp_seq<|region<|rs (vP b2 2) (aH (n:=2) (o':=2) rfl Tryz.runUnderlying56 rfl Tryz.sizeOf29 (by decide) rfl)<|rs (vP b2 2) (aH (n:=1) (o':=2) rfl Tryz.runUnderlying29 rfl Tryz.sizeOf3 (by decide) rfl)<|rs (vI a1.bG.aP) (aK rfl Tryz.isAgg3 (HS5.look 0 rfl) rfl)<|rs (vB (a1.bG.aP==1)) (bK rfl rfl rfl)<|aI (by simp only [sc0,sc1];rfl) ?_
   refine rs (vB (a1.bG.aP==1)) (aJ rfl)<|rgs (a1.bG.aP==1) true (vP b2 2) rfl rfl rfl rfl (fun hg=>(aH (n:=2) (o':=2) rfl Tryz.runUnderlying56 rfl Tryz.sizeOf29 (by decide) rfl))<|rgs (a1.bG.aP==1) true (vP b2 2) rfl rfl rfl rfl (fun hg=>(aH (n:=1) (o':=2) (gvt (vP b2 2) hg rfl) Tryz.runUnderlying29 rfl Tryz.sizeOf3 (by decide) rfl))<|rgs (a1.bG.aP==1) true (vI a1.bG.aP) rfl rfl rfl rfl (fun hg=>(aK (gvt (vP b2 2) hg rfl) Tryz.isAgg3 (HS5.look 0 rfl) rfl))<|aI (by simp only [sc0,sc1];rfl) ?_
   refine rgs (a1.bG.aP==1) true (vB (a1.bG.aP==2)) rfl rfl rfl rfl (fun hg=>(bK (gvt (vI a1.bG.aP) hg rfl) rfl rfl))<|rs (vB ((a1.bG.aP==1)||(a1.bG.aP==2))) (dZ rfl rfl (fun hp=>(gvt (vB (a1.bG.aP==2)) (gu rfl hp) rfl)))<|rs (vB ((a1.bG.aP==1)||(a1.bG.aP==2))) (aJ rfl)<|rgs ((a1.bG.aP==1)||(a1.bG.aP==2)) true (vP b2 2) rfl rfl rfl rfl (fun hg=>(aH (n:=2) (o':=2) rfl Tryz.runUnderlying56 rfl Tryz.sizeOf29 (by decide) rfl))<|aI (by simp only [sc0,sc1];rfl) ?_
   refine rgs ((a1.bG.aP==1)||(a1.bG.aP==2)) true (vP b2 2) rfl rfl rfl rfl (fun hg=>(aH (n:=1) (o':=2) (gvt (vP b2 2) hg rfl) Tryz.runUnderlying29 rfl Tryz.sizeOf3 (by decide) rfl))<|rgs ((a1.bG.aP==1)||(a1.bG.aP==2)) true (vI a1.bG.aP) rfl rfl rfl rfl (fun hg=>(aK (gvt (vP b2 2) hg rfl) Tryz.isAgg3 (HS5.look 0 rfl) rfl))<|rgs ((a1.bG.aP==1)||(a1.bG.aP==2)) true (vB (a1.bG.aP==4)) rfl rfl rfl rfl (fun hg=>(bK (gvt (vI a1.bG.aP) hg rfl) rfl rfl))<|rs (vB (((a1.bG.aP==1)||(a1.bG.aP==2))||(a1.bG.aP==4))) (dZ rfl rfl (fun hp=>(gvt (vB (a1.bG.aP==4)) (gu rfl hp) rfl)))<|aI (by simp only [sc0,sc1];rfl) ?_
   refine rs (vB (((a1.bG.aP==1)||(a1.bG.aP==2))||(a1.bG.aP==4))) (aJ rfl)<|rgs (((a1.bG.aP==1)||(a1.bG.aP==2))||(a1.bG.aP==4)) true (vP b2 2) rfl rfl rfl rfl (fun hg=>(aH (n:=2) (o':=2) rfl Tryz.runUnderlying56 rfl Tryz.sizeOf29 (by decide) rfl))<|rgs (((a1.bG.aP==1)||(a1.bG.aP==2))||(a1.bG.aP==4)) true (vP b2 2) rfl rfl rfl rfl (fun hg=>(aH (n:=1) (o':=2) (gvt (vP b2 2) hg rfl) Tryz.runUnderlying29 rfl Tryz.sizeOf3 (by decide) rfl))<|rgs (((a1.bG.aP==1)||(a1.bG.aP==2))||(a1.bG.aP==4)) true (vI a1.bG.aP) rfl rfl rfl rfl (fun hg=>(aK (gvt (vP b2 2) hg rfl) Tryz.isAgg3 (HS5.look 0 rfl) rfl))<|aI (by simp only [sc0,sc1];rfl) ?_
   refine rgs (((a1.bG.aP==1)||(a1.bG.aP==2))||(a1.bG.aP==4)) true (vB (a1.bG.aP==8)) rfl rfl rfl rfl (fun hg=>(bK (gvt (vI a1.bG.aP) hg rfl) rfl rfl))<|rs (vB ((((a1.bG.aP==1)||(a1.bG.aP==2))||(a1.bG.aP==4))||(a1.bG.aP==8))) (dZ rfl rfl (fun hp=>(gvt (vB (a1.bG.aP==8)) (gu rfl hp) rfl)))<|rs (vB ((((a1.bG.aP==1)||(a1.bG.aP==2))||(a1.bG.aP==4))||(a1.bG.aP==8))) (aB rfl) ?_
   try simp only [sc0,sc1]
   refine aA<|ak<|wp_ret<|dn<|aW ?_
   obtain rfl:=Option.some.inj H
   exact bodyPost_ret (aV rfl (aX rfl)) rfl<|⟨rfl,HS5.toE⟩
  ·replace H:=bW H (nt c2)
   refine wp_seq<|wp_seq<|region<|rs (vB (a1.aC==2)) (bK rfl rfl rfl)<|rs (vB (a1.aC==2)) (aB rfl) ?_
   try simp only [sc0,sc1]
   refine aA<|ak ?_
   obtain ⟨xx1,H,G1⟩:=bJ H
   refine lX [56,58] (fun us w'=>Fit us (fun uj1=>[vB xx1,(uj1 1)])∧St [] h0 w0 h0 [(some b2, .cells #[vI a1.aC,vS a1.aQ,vI a1.bG.aP,vB a1.bG.aN,vI a1.dM,vI a1.vN,vL Dx a1.au.length Dy] 56 (0,0)),(some b1, .cells #[vL bU a0.ay.length bV] 24 (0,0))] w') ?_ ?_
   ·refine wp_cond_split (t:=(a1.aC==2)) rfl (fun c3=>?_) (fun c3=>?_)
    ·replace H:=bM H c3
     refine wp_skip ?_
     obtain rfl:=Option.some.inj H
     refine qM rfl ⟨(fit rfl),HS5⟩
    ·replace H:=bW H (nt c3)
     refine region<|rs (vB (a1.aC==6)) (bK rfl rfl rfl)<|rs (vB (a1.aC==6)) (aB rfl) ?_
     try simp only [sc0,sc1]
     refine aA ?_
     obtain rfl:=Option.some.inj H
     refine qM rfl ⟨(fit rfl),HS5⟩
   ·rintro us w6 ⟨Qe,HS6⟩
    obtain ⟨uj1,rfl⟩:=unj Qe
    replace H:=G1
    clear G1
    try simp only [patch,sc0,sc1]
    refine wp_cond_split (t:=xx1) rfl (fun c4=>?_) (fun c4=>?_)
    ·replace H:=bM H c4
     refine wp_seq<|region<|rs (Value.agg #[vL bU a0.ay.length bV]) (aZ (n:=1) (vs:=[vL bU a0.ay.length bV]) rfl Tryz.isAgg24 (HS6.look 1 rfl) Tryz.sizeOf24 rfl rfl)<|rs (vP b2 4) (aH (n:=1) (o':=4) rfl Tryz.runUnderlying56 rfl Tryz.sizeOf3 (by decide) rfl)<|rs (vI a1.dM) (aK rfl Tryz.isAgg3 (HS6.look 0 rfl) rfl) ?_
     obtain ⟨v4,H4,H⟩:=bJ H
     refine run_eq (v:=vB v4) rfl rfl (bf Tryz.call125 rfl rfl (eu.calls a0 a1.dM bU bV HS6.sees fK iw H4)) ?_
     intro w7 hE6
     have HS7:=HS6.step hE6
     refine aI (by simp only [sc0,sc1];rfl) ?_
     refine rs (vB v4) (aB rfl) ?_
     try simp only [sc0,sc1]
     refine aA<|ak<|wp_ret<|dn<|aW ?_
     obtain rfl:=Option.some.inj H
     exact bodyPost_ret (aV rfl (aX rfl)) rfl<|⟨rfl,HS7.toE⟩
    ·replace H:=bW H (nt c4)
     refine wp_seq<|region<|rs (vB (a1.aC==3)) (bK rfl rfl rfl)<|rs (vB (a1.aC==3)) (aB rfl) ?_
     try simp only [sc0,sc1]
     refine aA<|ak<|wp_cond_split (t:=(a1.aC==3)) rfl (fun c5=>?_) (fun c5=>?_)
     ·replace H:=bM H c5
      refine wp_seq<|region<|rs (Value.agg #[vL bU a0.ay.length bV]) (aZ (n:=1) (vs:=[vL bU a0.ay.length bV]) rfl Tryz.isAgg24 (HS6.look 1 rfl) Tryz.sizeOf24 rfl rfl)<|rs (vP b2 4) (aH (n:=1) (o':=4) rfl Tryz.runUnderlying56 rfl Tryz.sizeOf3 (by decide) rfl)<|rs (vI a1.dM) (aK rfl Tryz.isAgg3 (HS6.look 0 rfl) rfl) ?_
      obtain ⟨v5,H5,H⟩:=bJ H
      refine run_eq (v:=vB v5) rfl rfl (bf Tryz.call125 rfl rfl (eu.calls a0 a1.dM bU bV HS6.sees fK iw H5)) ?_
      intro w8 hE7
      have HS8:=HS6.step hE7
      refine aI (by simp only [sc0,sc1];rfl) ?_
      refine rs (vB v5) (aJ rfl)<|rgs v5 true (vP b2 5) rfl rfl rfl rfl (fun hg=>(aH (n:=1) (o':=5) rfl Tryz.runUnderlying56 rfl Tryz.sizeOf3 (by decide) rfl))<|rgs v5 true (vI a1.vN) rfl rfl rfl rfl (fun hg=>(aK (gvt (vP b2 5) hg rfl) Tryz.isAgg3 (HS8.look 0 rfl) rfl))<|rgs v5 true (vB (decide (a1.vN≥1))) rfl rfl rfl rfl (fun hg=>(bK (gvt (vI a1.vN) hg rfl) rfl rfl))<|aI (by simp only [sc0,sc1];rfl) ?_
      refine rs (vB (v5&&(decide (a1.vN≥1)))) (dA rfl (fun hp=>(gvt (vB (decide (a1.vN≥1))) (gu rfl hp) rfl)) rfl)<|rs (vB (v5&&(decide (a1.vN≥1)))) (aJ rfl)<|rgs (v5&&(decide (a1.vN≥1))) true (vP b2 5) rfl rfl rfl rfl (fun hg=>(aH (n:=1) (o':=5) rfl Tryz.runUnderlying56 rfl Tryz.sizeOf3 (by decide) rfl))<|rgs (v5&&(decide (a1.vN≥1))) true (vI a1.vN) rfl rfl rfl rfl (fun hg=>(aK (gvt (vP b2 5) hg rfl) Tryz.isAgg3 (HS8.look 0 rfl) rfl))<|aI (by simp only [sc0,sc1];rfl) ?_
      refine rgs (v5&&(decide (a1.vN≥1))) true (vB (decide (a1.vN≤512))) rfl rfl rfl rfl (fun hg=>(bK (gvt (vI a1.vN) hg rfl) rfl rfl))<|rs (vB ((v5&&(decide (a1.vN≥1)))&&(decide (a1.vN≤512)))) (dA rfl (fun hp=>(gvt (vB (decide (a1.vN≤512))) (gu rfl hp) rfl)) rfl)<|rs (vB ((v5&&(decide (a1.vN≥1)))&&(decide (a1.vN≤512)))) (aB rfl) ?_
      try simp only [sc0,sc1]
      refine aA<|ak<|wp_ret<|dn<|aW ?_
      obtain rfl:=Option.some.inj H
      exact bodyPost_ret (aV rfl (aX rfl)) rfl<|⟨rfl,HS8.toE⟩
     ·replace H:=bW H (nt c5)
      refine wp_skip<|dI<|ak<|wp_seq<|wp_seq<|region<|rs (vP b2 6) (aH (n:=1) (o':=6) rfl Tryz.runUnderlying56 rfl Tryz.sizeOf54 (by decide) rfl)<|rs (vL Dx a1.au.length Dy) (aK rfl Tryz.isAgg54 (HS6.look 0 rfl) rfl) ?_
      obtain ⟨v6,H6,H⟩:=bJ H
      refine run_eq (v:=vB v6) rfl rfl (bf Tryz.call126 rfl rfl (bC.calls k a1.au Dx Dy HS6.sees Qi Us H6)) ?_
      intro w9 hE8
      have HS9:=HS6.step hE8
      refine rs (vB (!v6)) (lK rfl) ?_
      try simp only [sc0,sc1]
      refine aA<|ak<|wp_cond_split (t:=(!v6)) rfl (fun c6=>?_) (fun c6=>?_)
      ·replace H:=bM H c6
       refine wp_seq<|region<|rs (vB false) (aB rfl) ?_
       try simp only [sc0,sc1]
       refine aA<|ak<|wp_ret<|aW ?_
       obtain rfl:=Option.some.inj H
       exact bodyPost_ret (aV rfl (aX rfl)) rfl<|⟨rfl,HS9.toE⟩
      ·replace H:=bW H (nt c6)
       refine wp_skip<|ak<|wp_seq<|wp_seq<|region<|rs (vI 0) (aB rfl) ?_
       try simp only [sc0,sc1]
       refine aA<|ak ?_
       obtain ⟨xx2,H,G2⟩:=bJ H
       refine jm [4,5,6,83,84,85,86,87,88,89,90,91,92,93,94,95,96,97,98,99,100,101,102,103,104,105,106,107,108,109,110,111,112,113,114,115,116,117,118,119,120,121,122] (fun m us w'=>∃(aG:Int),Fit us (fun uy1=>[(uy1 0),vI aG,(uy1 2),(uy1 3),(uy1 4),(uy1 5),(uy1 6),(uy1 7),(uy1 8),(uy1 9),(uy1 10),(uy1 11),(uy1 12),(uy1 13),(uy1 14),(uy1 15),(uy1 16),(uy1 17),(uy1 18),(uy1 19),(uy1 20),(uy1 21),(uy1 22),(uy1 23),(uy1 24),(uy1 25),(uy1 26),(uy1 27),(uy1 28),(uy1 29),(uy1 30),(uy1 31),(uy1 32),(uy1 33),(uy1 34),(uy1 35),(uy1 36),(uy1 37),(uy1 38),(uy1 39),(uy1 40),(uy1 41),(uy1 42)])∧dF.l0 a0 a1 m aG=some xx2∧St [] h0 w0 h0 [(some b2, .cells #[vI a1.aC,vS a1.aQ,vI a1.bG.aP,vB a1.bG.aN,vI a1.dM,vI a1.vN,vL Dx a1.au.length Dy] 56 (0,0)),(some b1, .cells #[vL bU a0.ay.length bV] 24 (0,0))] w') (fun us w'=>∃(s1:Unit),xx2= .inr s1∧Fit us (fun uo1=>[(uo1 0),(uo1 1),(uo1 2),(uo1 3),(uo1 4),(uo1 5),(uo1 6),(uo1 7),(uo1 8),(uo1 9),(uo1 10),(uo1 11),(uo1 12),(uo1 13),(uo1 14),(uo1 15),(uo1 16),(uo1 17),(uo1 18),(uo1 19),(uo1 20),(uo1 21),(uo1 22),(uo1 23),(uo1 24),(uo1 25),(uo1 26),(uo1 27),(uo1 28),(uo1 29),(uo1 30),(uo1 31),(uo1 32),(uo1 33),(uo1 34),(uo1 35),(uo1 36),(uo1 37),(uo1 38),(uo1 39),(uo1 40),(uo1 41),(uo1 42)])∧St [] h0 w0 h0 [(some b2, .cells #[vI a1.aC,vS a1.aQ,vI a1.bG.aP,vB a1.bG.aN,vI a1.dM,vI a1.vN,vL Dx a1.au.length Dy] 56 (0,0)),(some b1, .cells #[vL bU a0.ay.length bV] 24 (0,0))] w') k ⟨0,(fit rfl),H,HS9⟩ ?_ ?_
       ·rintro m us w10 ⟨aG,ng,H,ru⟩
        obtain ⟨uy1,rfl⟩:=unj ng
        cases m with
        |zero=>exact absurd H (by simp [dF.l0])
        |succ m=>
         rw [dF.l0] at H
         try simp only [patch,sc0,sc1]
         refine wp_seq<|wp_seq<|region<|rs (vI aG) (aJ rfl)<|rs (vP b2 6) (aH (n:=1) (o':=6) rfl Tryz.runUnderlying56 rfl Tryz.sizeOf54 (by decide) rfl)<|rs (vL Dx a1.au.length Dy) (aK rfl Tryz.isAgg54 (ru.look 0 rfl) rfl)<|rs (vI (a1.au.length:Int)) (jJ rfl Tryz.runUnderlying54)<|aI (by simp only [sc0,sc1];rfl) ?_
         refine rs (vB (decide (aG<(a1.au.length:Int)))) (bK rfl rfl rfl) ?_
         try simp only [sc0,sc1]
         refine aA<|ak<|wp_cond_split (t:=(decide (aG<(a1.au.length:Int)))) rfl (fun c7=>?_) (fun c7=>?_)
         ·replace H:=bM H c7
          refine wp_skip<|ak<|wp_seq<|wp_block<|wp_seq<|region<|rs (vP b2 6) (aH (n:=1) (o':=6) rfl Tryz.runUnderlying56 rfl Tryz.sizeOf54 (by decide) rfl)<|rs (vL Dx a1.au.length Dy) (aK rfl Tryz.isAgg54 (ru.look 0 rfl) rfl)<|rs (vI aG) (aJ rfl) ?_
          obtain ⟨hi1,H⟩:=eG H
          obtain ⟨ad1,e1,lu⟩:=iM Qi hi1.1 hi1.2
          refine rs (Value.pointer (some (Addr.add ad1 (aG.toNat*3)))) (dP (sz:=3) rfl e1 rfl hi1.1 hi1.2 Tryz.runUnderlying54 Tryz.sizeOf129)<|aI (by simp only [sc0,sc1];rfl) ?_
          refine rs (Value.agg #[vS ((rd aj a1.au aG).aQ),vI ((rd aj a1.au aG).vType),vI ((rd aj a1.au aG).vAt)]) (ig rfl Tryz.isAgg129 (lu.sees ru.sees) Tryz.sizeOf129)<|dU rfl rfl (fA (cs:=#[vS ByteArray.empty,vI 0,vI 0]) Tryz.zeroValue129 rfl) ?_
          rintro w11 _ hE9 ⟨b3,rfl,ge3,hb3⟩
          have qw:=ru.new hE9 ge3 hb3
          refine fV (i:=0) (cs:=[vS ByteArray.empty,vI 0,vI 0]) (cs':=[vS ((rd aj a1.au aG).aQ),vI ((rd aj a1.au aG).vType),vI ((rd aj a1.au aG).vAt)]) (vs:=[vS ((rd aj a1.au aG).aQ),vI ((rd aj a1.au aG).vType),vI ((rd aj a1.au aG).vAt)]) (bs':=[(some b3, .cells #[vS ((rd aj a1.au aG).aQ),vI ((rd aj a1.au aG).vType),vI ((rd aj a1.au aG).vAt)] 129 (0,0)),(some b2, .cells #[vI a1.aC,vS a1.aQ,vI a1.bG.aP,vB a1.bG.aN,vI a1.dM,vI a1.vN,vL Dx a1.au.length Dy] 56 (0,0)),(some b1, .cells #[vL bU a0.ay.length bV] 24 (0,0))]) rfl rfl Tryz.sizeOf129 rfl rfl (by decide) rfl qw rfl (Nat.le_of_ble_eq_true rfl) rfl rfl ?_
          intro w12 uf
          try simp only [sc0,sc1]
          refine aA<|ak<|wp_seq<|wp_seq<|region<|rs (vP b2 0) (aH (n:=1) (o':=0) rfl Tryz.runUnderlying56 rfl Tryz.sizeOf3 (by decide) rfl)<|rs (vI a1.aC) (aK rfl Tryz.isAgg3 (uf.look 1 rfl) rfl)<|rs (vB (a1.aC==4)) (bK rfl rfl rfl)<|rs (vB (a1.aC==4)) (aJ rfl)<|aI (by simp only [sc0,sc1];rfl) ?_
          refine rgs (a1.aC==4) true (Value.agg #[vL bU a0.ay.length bV]) rfl rfl rfl rfl (fun hg=>(aZ (n:=1) (vs:=[vL bU a0.ay.length bV]) rfl Tryz.isAgg24 (uf.look 2 rfl) Tryz.sizeOf24 rfl rfl))<|rgs (a1.aC==4) true (vP b3 1) rfl rfl rfl rfl (fun hg=>(aH (n:=1) (o':=1) rfl Tryz.runUnderlying129 rfl Tryz.sizeOf3 (by decide) rfl))<|rgs (a1.aC==4) true (vI ((rd aj a1.au aG).vType)) rfl rfl rfl rfl (fun hg=>(aK (gvt (vP b3 1) hg rfl) Tryz.isAgg3 (uf.look 0 rfl) rfl)) ?_
          obtain ⟨v7,H7,H⟩:=bJ H
          refine xZ (b:=(a1.aC==4)) (c:=true) (v:=vB v7) rfl rfl rfl rfl (fun hg=>(bf Tryz.call125 rfl (OA (gvt (Value.agg #[vL bU a0.ay.length bV]) hg rfl) (gvt (vI ((rd aj a1.au aG).vType)) hg rfl)) (eu.calls a0 ((rd aj a1.au aG).vType) bU bV uf.sees fK iw (bM H7 hg)))) ?_
          intro w13 aao
          have yC:=uf.step aao
          refine aI (by simp only [sc0,sc1];rfl) ?_
          refine rgs (a1.aC==4) true (vB (!v7)) rfl rfl rfl rfl (fun hg=>(lK (gvt (vB v7) hg rfl)))<|rs (vB ((a1.aC==4)&&(!v7))) (dA rfl (fun hp=>(gvt (vB (!v7)) (gu rfl hp) rfl)) rfl) ?_
          try simp only [sc0,sc1]
          refine aA<|ak<|wp_cond_split (t:=((a1.aC==4)&&(!v7))) rfl (fun c8=>?_) (fun c8=>?_)
          ·replace H:=bM H c8
           refine wp_seq<|region<|rs (vB false) (aB rfl) ?_
           try simp only [sc0,sc1]
           refine aA<|ak<|wp_ret<|aW<|dn<|aW<|gJ<|aW ?_
           obtain rfl:=Option.some.inj H
           obtain rfl:=Option.some.inj G2
           exact bodyPost_ret (aV rfl (aX rfl)) rfl<|⟨rfl,yC.toE⟩
          ·replace H:=bW H (nt c8)
           refine wp_skip<|ak<|wp_seq<|region<|rs (vP b2 0) (aH (n:=1) (o':=0) rfl Tryz.runUnderlying56 rfl Tryz.sizeOf3 (by decide) rfl)<|rs (vI a1.aC) (aK rfl Tryz.isAgg3 (yC.look 1 rfl) rfl)<|rs (vB (a1.aC==5)) (bK rfl rfl rfl)<|rs (vB (a1.aC==5)) (aJ rfl)<|aI (by simp only [sc0,sc1];rfl) ?_
           refine rgs (a1.aC==5) true (vP b3 1) rfl rfl rfl rfl (fun hg=>(aH (n:=1) (o':=1) rfl Tryz.runUnderlying129 rfl Tryz.sizeOf3 (by decide) rfl))<|rgs (a1.aC==5) true (vI ((rd aj a1.au aG).vType)) rfl rfl rfl rfl (fun hg=>(aK (gvt (vP b3 1) hg rfl) Tryz.isAgg3 (yC.look 0 rfl) rfl))<|rgs (a1.aC==5) true (vB ((rd aj a1.au aG).vType !=0)) rfl rfl rfl rfl (fun hg=>(bK (gvt (vI ((rd aj a1.au aG).vType)) hg rfl) rfl rfl))<|rgs (a1.aC==5) true (vB ((rd aj a1.au aG).vType !=0)) rfl rfl rfl rfl (fun hg=>(aJ (gvt (vB ((rd aj a1.au aG).vType !=0)) hg rfl)))<|aI (by simp only [sc0,sc1];rfl) ?_
           refine rgs ((rd aj a1.au aG).vType !=0) (true&&((a1.aC==5)==true)) (vP b3 2) rfl rfl rfl rfl (fun hg=>(aH (n:=1) (o':=2) rfl Tryz.runUnderlying129 rfl Tryz.sizeOf3 (by decide) rfl))<|rgs ((rd aj a1.au aG).vType !=0) (true&&((a1.aC==5)==true)) (vI ((rd aj a1.au aG).vAt)) rfl rfl rfl rfl (fun hg=>(aK (gvt (vP b3 2) hg rfl) Tryz.isAgg3 (yC.look 0 rfl) rfl))<|rgs ((rd aj a1.au aG).vType !=0) (true&&((a1.aC==5)==true)) (vB (decide ((rd aj a1.au aG).vAt<(-2147483648)))) rfl rfl rfl rfl (fun hg=>(bK (gvt (vI ((rd aj a1.au aG).vAt)) hg rfl) rfl rfl))<|rgs (a1.aC==5) true (vB (((rd aj a1.au aG).vType !=0)||(decide ((rd aj a1.au aG).vAt<(-2147483648))))) rfl rfl rfl rfl (fun hg=>(dZ (gvt (vB ((rd aj a1.au aG).vType !=0)) hg rfl) rfl (fun hp=>(gvt (vB (decide ((rd aj a1.au aG).vAt<(-2147483648)))) (gu hg hp) rfl))))<|aI (by simp only [sc0,sc1];rfl) ?_
           refine rgs (a1.aC==5) true (vB (((rd aj a1.au aG).vType !=0)||(decide ((rd aj a1.au aG).vAt<(-2147483648))))) rfl rfl rfl rfl (fun hg=>(aJ (gvt (vB (((rd aj a1.au aG).vType !=0)||(decide ((rd aj a1.au aG).vAt<(-2147483648))))) hg rfl)))<|rgs (((rd aj a1.au aG).vType !=0)||(decide ((rd aj a1.au aG).vAt<(-2147483648)))) (true&&((a1.aC==5)==true)) (vP b3 2) rfl rfl rfl rfl (fun hg=>(aH (n:=1) (o':=2) rfl Tryz.runUnderlying129 rfl Tryz.sizeOf3 (by decide) rfl))<|rgs (((rd aj a1.au aG).vType !=0)||(decide ((rd aj a1.au aG).vAt<(-2147483648)))) (true&&((a1.aC==5)==true)) (vI ((rd aj a1.au aG).vAt)) rfl rfl rfl rfl (fun hg=>(aK (gvt (vP b3 2) hg rfl) Tryz.isAgg3 (yC.look 0 rfl) rfl))<|rgs (((rd aj a1.au aG).vType !=0)||(decide ((rd aj a1.au aG).vAt<(-2147483648)))) (true&&((a1.aC==5)==true)) (vB (decide ((rd aj a1.au aG).vAt>2147483647))) rfl rfl rfl rfl (fun hg=>(bK (gvt (vI ((rd aj a1.au aG).vAt)) hg rfl) rfl rfl))<|aI (by simp only [sc0,sc1];rfl) ?_
           refine rgs (a1.aC==5) true (vB ((((rd aj a1.au aG).vType !=0)||(decide ((rd aj a1.au aG).vAt<(-2147483648))))||(decide ((rd aj a1.au aG).vAt>2147483647)))) rfl rfl rfl rfl (fun hg=>(dZ (gvt (vB (((rd aj a1.au aG).vType !=0)||(decide ((rd aj a1.au aG).vAt<(-2147483648))))) hg rfl) rfl (fun hp=>(gvt (vB (decide ((rd aj a1.au aG).vAt>2147483647))) (gu hg hp) rfl))))<|rs (vB ((a1.aC==5)&&((((rd aj a1.au aG).vType !=0)||(decide ((rd aj a1.au aG).vAt<(-2147483648))))||(decide ((rd aj a1.au aG).vAt>2147483647))))) (dA rfl (fun hp=>(gvt (vB ((((rd aj a1.au aG).vType !=0)||(decide ((rd aj a1.au aG).vAt<(-2147483648))))||(decide ((rd aj a1.au aG).vAt>2147483647)))) (gu rfl hp) rfl)) rfl) ?_
           try simp only [sc0,sc1]
           refine aA<|ak<|wp_cond_split (t:=((a1.aC==5)&&((((rd aj a1.au aG).vType !=0)||(decide ((rd aj a1.au aG).vAt<(-2147483648))))||(decide ((rd aj a1.au aG).vAt>2147483647))))) rfl (fun c9=>?_) (fun c9=>?_)
           ·replace H:=bM H c9
            refine wp_seq<|region<|rs (vB false) (aB rfl) ?_
            try simp only [sc0,sc1]
            refine aA<|ak<|wp_ret<|dn<|aW<|gJ<|aW ?_
            obtain rfl:=Option.some.inj H
            obtain rfl:=Option.some.inj G2
            exact bodyPost_ret (aV rfl (aX rfl)) rfl<|⟨rfl,yC.toE⟩
           ·replace H:=bW H (nt c9)
            refine wp_skip<|dI<|ak<|region<|rs (vI aG) (aJ rfl)<|rs (vI (w64 (aG+1))) (bK rfl rfl rfl)<|rs (vI (w64 (aG+1))) (aB rfl) ?_
            try simp only [sc0,sc1]
            refine aA<|gZ m (Nat.lt_succ_self m) rfl ⟨(w64 (aG+1)),(fit rfl),H,yC.tail⟩
         ·replace H:=bW H (nt c7)
          refine wp_exit<|eY ?_
          obtain rfl:=Option.some.inj H
          refine iG rfl ⟨_,rfl,(fit rfl),ru⟩
       ·rintro us w14 ⟨s1,rfl,ni,DN⟩
        obtain ⟨uo1,rfl⟩:=unj ni
        replace H:=G2
        clear G2
        try simp only [patch,sc0,sc1]
        refine ak<|wp_seq<|region<|rs (vP b2 0) (aH (n:=1) (o':=0) rfl Tryz.runUnderlying56 rfl Tryz.sizeOf3 (by decide) rfl)<|rs (vI a1.aC) (aK rfl Tryz.isAgg3 (DN.look 0 rfl) rfl)<|rs (vB (a1.aC==5)) (bK rfl rfl rfl)<|rs (vB (a1.aC==5)) (aJ rfl)<|aI (by simp only [sc0,sc1];rfl) ?_
        refine rgs (a1.aC==5) true (vP b2 5) rfl rfl rfl rfl (fun hg=>(aH (n:=1) (o':=5) rfl Tryz.runUnderlying56 rfl Tryz.sizeOf3 (by decide) rfl))<|rgs (a1.aC==5) true (vI a1.vN) rfl rfl rfl rfl (fun hg=>(aK (gvt (vP b2 5) hg rfl) Tryz.isAgg3 (DN.look 0 rfl) rfl))<|rgs (a1.aC==5) true (vB (decide (a1.vN≥1))) rfl rfl rfl rfl (fun hg=>(bK (gvt (vI a1.vN) hg rfl) rfl rfl))<|rgs (a1.aC==5) true (vB (decide (a1.vN≥1))) rfl rfl rfl rfl (fun hg=>(aJ (gvt (vB (decide (a1.vN≥1))) hg rfl)))<|aI (by simp only [sc0,sc1];rfl) ?_
        refine rgs (decide (a1.vN≥1)) (true&&((a1.aC==5)==false)) (vP b2 5) rfl rfl rfl rfl (fun hg=>(aH (n:=1) (o':=5) rfl Tryz.runUnderlying56 rfl Tryz.sizeOf3 (by decide) rfl))<|rgs (decide (a1.vN≥1)) (true&&((a1.aC==5)==false)) (vI a1.vN) rfl rfl rfl rfl (fun hg=>(aK (gvt (vP b2 5) hg rfl) Tryz.isAgg3 (DN.look 0 rfl) rfl))<|rgs (decide (a1.vN≥1)) (true&&((a1.aC==5)==false)) (vB (decide (a1.vN≤512))) rfl rfl rfl rfl (fun hg=>(bK (gvt (vI a1.vN) hg rfl) rfl rfl))<|rgs (a1.aC==5) true (vB ((decide (a1.vN≥1))&&(decide (a1.vN≤512)))) rfl rfl rfl rfl (fun hg=>(dA (gvt (vB (decide (a1.vN≥1))) hg rfl) (fun hp=>(gvt (vB (decide (a1.vN≤512))) (gu hg hp) rfl)) rfl))<|aI (by simp only [sc0,sc1];rfl) ?_
        refine rs (vB ((a1.aC==5)||((decide (a1.vN≥1))&&(decide (a1.vN≤512))))) (dZ rfl rfl (fun hp=>(gvt (vB ((decide (a1.vN≥1))&&(decide (a1.vN≤512)))) (gu rfl hp) rfl)))<|rs (vB ((a1.aC==5)||((decide (a1.vN≥1))&&(decide (a1.vN≤512))))) (aB rfl) ?_
        try simp only [sc0,sc1]
        refine aA<|ak<|wp_ret ?_
        obtain rfl:=Option.some.inj H
        exact bodyPost_ret (aV rfl (aX rfl)) rfl<|⟨rfl,DN.toE⟩

end Go.Proofs.YtecpbadkdpbkpaaGreatDoor
namespace Go.Proofs.YtecpbadkdpbkpaaGreatDoor
open Go.RowKit Go.M
def dN.l0 (a0:bF) (a1:List Int):Nat→Int→Option ((Int)⊕(Unit))
 |0,_=>none
 |m+1,aG=>if (decide (aG<(a0.au.length:Int)))=true then (if 0≤aG∧aG<a0.au.length then (if 0≤(rd aj a0.au aG).vType∧(rd aj a0.au aG).vType<a1.length then (if ((rd 0 a1 ((rd aj a0.au aG).vType))==0)=true then (some (.inl 0)) else (dN.l0 a0 a1 m (IntKind.wrap .i64 (aG+1)))) else none) else none) else (some (.inr ()))
def dN.f (k:Nat) (a0:bF) (a1:List Int):Option (Int):=if (a0.aC==1)=true then (some a0.bG.aP) else (if (a0.aC==2)=true then (some 8) else (if (a0.aC==3)=true then (if 0≤a0.dM∧a0.dM<a1.length then (some (IntKind.wrap .i64 (a0.vN*(rd 0 a1 a0.dM)))) else none) else (if (a0.aC==5)=true then (some 4) else (if (a0.aC==6)=true then (if 0≤a0.dM∧a0.dM<a1.length then (some (rd 0 a1 a0.dM)) else none) else ((dN.l0 a0 a1 k 0).bind fun xx1=>(match xx1 with| .inl r=>some r| .inr s1=>some a0.vN))))))
set_option maxRecDepth 20000 in
set_option maxHeartbeats 4000000 in
theorem dN.calls (k:Nat) (a0:bF) (a1:List Int) (jS:Option Addr) (jT:Nat) (Dt:Option Addr) (Du:Nat) {h0:View} {w0:World} (hv:jL h0 w0) (sK:Rd eH h0 jS a0.au) (yc:a0.au.length≤jT) (Gv:Rd (Kd.int .i64) h0 Dt a1) (WV:a1.length≤Du) {r:Int} (H:dN.f k a0 a1=some r):Calls Tryz.prog 127 #[Value.agg #[vI a0.aC,vS a0.aQ,vI a0.bG.aP,vB a0.bG.aN,vI a0.dM,vI a0.vN,vL jS a0.au.length jT],vL Dt a1.length Du] w0 (fun e w1=>e= .returned (vI r)∧Ext w0 w1):=by
 unfold dN.f at H
 have HS:St [] h0 w0 h0 [] w0:=St.init hv
 go_enter Tryz.func127,Tryz.ntmps127
 refine wp_seq<|region<|dU rfl rfl (dY (cs:=#[vI a0.aC,vS a0.aQ,vI a0.bG.aP,vB a0.bG.aN,vI a0.dM,vI a0.vN,vL jS a0.au.length jT]) rfl rfl) ?_
 rintro w1 _ hE1 ⟨b1,rfl,ge1,hb1⟩
 have HS1:=HS.new hE1 ge1 hb1
 refine rs (vI 0) (aB rfl) ?_
 try simp only [sc0,sc1]
 refine aA<|ak<|wp_seq<|wp_seq<|region<|rs (vP b1 0) (aH (n:=1) (o':=0) rfl Tryz.runUnderlying56 rfl Tryz.sizeOf3 (by decide) rfl)<|rs (vI a0.aC) (aK rfl Tryz.isAgg3 (HS1.look 0 rfl) rfl) ?_
 try simp only [sc0,sc1]
 refine aA<|ak<|wp_block<|wp_seq<|region<|rs (vB (a0.aC==1)) (bK rfl rfl rfl)<|rs (vB (a0.aC==1)) (aB rfl) ?_
 try simp only [sc0,sc1]
 refine aA<|ak<|wp_cond_split (t:=(a0.aC==1)) rfl (fun c1=>?_) (fun c1=>?_)
 ·replace H:=bM H c1
  refine wp_seq<|region<|rs (vP b1 2) (aH (n:=2) (o':=2) rfl Tryz.runUnderlying56 rfl Tryz.sizeOf29 (by decide) rfl)<|rs (vP b1 2) (aH (n:=1) (o':=2) rfl Tryz.runUnderlying29 rfl Tryz.sizeOf3 (by decide) rfl)<|rs (vI a0.bG.aP) (aK rfl Tryz.isAgg3 (HS1.look 0 rfl) rfl)<|rs (vI a0.bG.aP) (aB rfl) ?_
  try simp only [sc0,sc1]
  refine aA<|ak<|wp_ret<|dn<|aW ?_
  obtain rfl:=Option.some.inj H
  exact bodyPost_ret (aV rfl (aX rfl)) rfl<|⟨rfl,HS1.toE⟩
 ·replace H:=bW H (nt c1)
  refine wp_seq<|region<|rs (vB (a0.aC==2)) (bK rfl rfl rfl)<|rs (vB (a0.aC==2)) (aB rfl) ?_
  try simp only [sc0,sc1]
  refine aA<|ak<|wp_cond_split (t:=(a0.aC==2)) rfl (fun c2=>?_) (fun c2=>?_)
  ·replace H:=bM H c2
   refine wp_seq<|region<|rs (vI 8) (aB rfl) ?_
   try simp only [sc0,sc1]
   refine aA<|ak<|wp_ret<|dn<|aW ?_
   obtain rfl:=Option.some.inj H
   exact bodyPost_ret (aV rfl (aX rfl)) rfl<|⟨rfl,HS1.toE⟩
  ·replace H:=bW H (nt c2)
   refine wp_seq<|region<|rs (vB (a0.aC==3)) (bK rfl rfl rfl)<|rs (vB (a0.aC==3)) (aB rfl) ?_
   try simp only [sc0,sc1]
   refine aA<|ak<|wp_cond_split (t:=(a0.aC==3)) rfl (fun c3=>?_) (fun c3=>?_)
   ·replace H:=bM H c3
    refine wp_seq ?_
    obtain ⟨hi1,H⟩:=eG H
    obtain ⟨ad1,e1,lu⟩:=rF Gv hi1.1 hi1.2
    refine drawn [.eq (vP b1 5), .eq (vI a0.vN), .eq (vL Dt a1.length Du), .eq (vP b1 4), .eq (vI a0.dM), .eq (Value.pointer (some (Addr.add ad1 (a0.dM.toNat*1)))), .eq (vI (rd 0 a1 a0.dM)), .eq (vI (w64 (a0.vN*(rd 0 a1 a0.dM))))] [17,18,19,20,21,22,23,24] lW (by kernel_rfl) rfl (aS (aS (aS (aS (aS (aS (aS (aS iP)))))))) ⟨aY rfl (fun a' w' hE hk=>by have HSd:=HS1.step hE;exact bI (aH (n:=1) (o':=5) (show _=vP b1 0 from hk 2 rfl) Tryz.runUnderlying56 rfl Tryz.sizeOf3 (by decide) rfl)),aY rfl (fun a' w' hE hk=>by have HSd:=HS1.step hE;exact bI (aK (show _=vP b1 5 from hk 17 rfl) Tryz.isAgg3 (HSd.look 0 rfl) rfl)),aY rfl (fun a' w' hE hk=>by have HSd:=HS1.step hE;exact bI (aJ (show _=vL Dt a1.length Du from hk 1 rfl))),aY rfl (fun a' w' hE hk=>by have HSd:=HS1.step hE;exact bI (aH (n:=1) (o':=4) (show _=vP b1 0 from hk 2 rfl) Tryz.runUnderlying56 rfl Tryz.sizeOf3 (by decide) rfl)),aY rfl (fun a' w' hE hk=>by have HSd:=HS1.step hE;exact bI (aK (show _=vP b1 4 from hk 20 rfl) Tryz.isAgg3 (HSd.look 0 rfl) rfl)),aY rfl (fun a' w' hE hk=>by have HSd:=HS1.step hE;exact bI (dP (sz:=1) (show _=vL Dt a1.length Du from hk 19 rfl) e1 (show _=vI a0.dM from hk 21 rfl) hi1.1 hi1.2 Tryz.runUnderlying81 Tryz.sizeOf3)),aY rfl (fun a' w' hE hk=>by have HSd:=HS1.step hE;exact bI (jC (show _=Value.pointer (some (Addr.add ad1 (a0.dM.toNat*1))) from hk 22 rfl) Tryz.isAgg3 (lu.cell0 HSd.sees rfl))),aY rfl (fun a' w' hE hk=>by have HSd:=HS1.step hE;exact bI (bK (show _=vI a0.vN from hk 18 rfl) (show _=vI (rd 0 a1 a0.dM) from hk 23 rfl) rfl)),trivial⟩ ?_
    intro w2 hE2
    simp only [List.zip_cons_cons,List.zip_nil_left,List.zip_nil_right,yg,sc0,sc1,List.length_cons,List.length_nil,List.drop_succ_cons,List.drop_zero,Nat.zero_add,Nat.reduceAdd]
    have HS2:=HS1.step hE2
    refine rs (vI (w64 (a0.vN*(rd 0 a1 a0.dM)))) (aB rfl) ?_
    try simp only [sc0,sc1]
    refine aA<|ak<|wp_ret<|dn<|aW ?_
    obtain rfl:=Option.some.inj H
    exact bodyPost_ret (aV rfl (aX rfl)) rfl<|⟨rfl,HS2.toE⟩
   ·replace H:=bW H (nt c3)
    refine wp_seq<|region<|rs (vB (a0.aC==5)) (bK rfl rfl rfl)<|rs (vB (a0.aC==5)) (aB rfl) ?_
    try simp only [sc0,sc1]
    refine aA<|ak<|wp_cond_split (t:=(a0.aC==5)) rfl (fun c4=>?_) (fun c4=>?_)
    ·replace H:=bM H c4
     refine wp_seq<|region<|rs (vI 4) (aB rfl) ?_
     try simp only [sc0,sc1]
     refine aA<|ak<|wp_ret<|dn<|aW ?_
     obtain rfl:=Option.some.inj H
     exact bodyPost_ret (aV rfl (aX rfl)) rfl<|⟨rfl,HS1.toE⟩
    ·replace H:=bW H (nt c4)
     refine wp_seq<|region<|rs (vB (a0.aC==6)) (bK rfl rfl rfl)<|rs (vB (a0.aC==6)) (aB rfl) ?_
     try simp only [sc0,sc1]
     refine aA<|ak<|wp_cond_split (t:=(a0.aC==6)) rfl (fun c5=>?_) (fun c5=>?_)
     ·replace H:=bM H c5
      refine wp_seq<|region<|rs (vL Dt a1.length Du) (aJ rfl)<|rs (vP b1 4) (aH (n:=1) (o':=4) rfl Tryz.runUnderlying56 rfl Tryz.sizeOf3 (by decide) rfl)<|rs (vI a0.dM) (aK rfl Tryz.isAgg3 (HS1.look 0 rfl) rfl) ?_
      obtain ⟨hi2,H⟩:=eG H
      obtain ⟨ad2,e2,xw⟩:=rF Gv hi2.1 hi2.2
      refine rs (Value.pointer (some (Addr.add ad2 (a0.dM.toNat*1)))) (dP (sz:=1) rfl e2 rfl hi2.1 hi2.2 Tryz.runUnderlying81 Tryz.sizeOf3)<|aI (by simp only [sc0,sc1];rfl) ?_
      refine rs (vI (rd 0 a1 a0.dM)) (jC rfl Tryz.isAgg3 (xw.cell0 HS1.sees rfl))<|rs (vI (rd 0 a1 a0.dM)) (aB rfl) ?_
      try simp only [sc0,sc1]
      refine aA<|ak<|wp_ret<|dn<|aW ?_
      obtain rfl:=Option.some.inj H
      exact bodyPost_ret (aV rfl (aX rfl)) rfl<|⟨rfl,HS1.toE⟩
     ·replace H:=bW H (nt c5)
      refine wp_skip<|dI<|ak<|wp_seq<|wp_seq<|region<|rs (vI 0) (aB rfl) ?_
      try simp only [sc0,sc1]
      refine aA<|ak ?_
      obtain ⟨xx1,H,G1⟩:=bJ H
      refine jm [4,5,34,35,36,37,38,39,40,41,42,43,44,45,46,47,48,49,50] (fun m us w'=>∃(aG:Int),Fit us (fun uy1=>[(uy1 0),vI aG,(uy1 2),(uy1 3),(uy1 4),(uy1 5),(uy1 6),(uy1 7),(uy1 8),(uy1 9),(uy1 10),(uy1 11),(uy1 12),(uy1 13),(uy1 14),(uy1 15),(uy1 16),(uy1 17),(uy1 18)])∧dN.l0 a0 a1 m aG=some xx1∧St [] h0 w0 h0 [(some b1, .cells #[vI a0.aC,vS a0.aQ,vI a0.bG.aP,vB a0.bG.aN,vI a0.dM,vI a0.vN,vL jS a0.au.length jT] 56 (0,0))] w') (fun us w'=>∃(s1:Unit),xx1= .inr s1∧Fit us (fun uo1=>[(uo1 0),(uo1 1),(uo1 2),(uo1 3),(uo1 4),(uo1 5),(uo1 6),(uo1 7),(uo1 8),(uo1 9),(uo1 10),(uo1 11),(uo1 12),(uo1 13),(uo1 14),(uo1 15),(uo1 16),(uo1 17),(uo1 18)])∧St [] h0 w0 h0 [(some b1, .cells #[vI a0.aC,vS a0.aQ,vI a0.bG.aP,vB a0.bG.aN,vI a0.dM,vI a0.vN,vL jS a0.au.length jT] 56 (0,0))] w') k ⟨0,(fit rfl),H,HS1⟩ ?_ ?_
      ·rintro m us w3 ⟨aG,ng,H,HS3⟩
       obtain ⟨uy1,rfl⟩:=unj ng
       cases m with
       |zero=>exact absurd H (by simp [dN.l0])
       |succ m=>
        rw [dN.l0] at H
        try simp only [patch,sc0,sc1]
        refine wp_seq<|wp_seq<|region<|rs (vI aG) (aJ rfl)<|rs (vP b1 6) (aH (n:=1) (o':=6) rfl Tryz.runUnderlying56 rfl Tryz.sizeOf54 (by decide) rfl)<|rs (vL jS a0.au.length jT) (aK rfl Tryz.isAgg54 (HS3.look 0 rfl) rfl)<|rs (vI (a0.au.length:Int)) (jJ rfl Tryz.runUnderlying54)<|aI (by simp only [sc0,sc1];rfl) ?_
        refine rs (vB (decide (aG<(a0.au.length:Int)))) (bK rfl rfl rfl) ?_
        try simp only [sc0,sc1]
        refine aA<|ak<|wp_cond_split (t:=(decide (aG<(a0.au.length:Int)))) rfl (fun c6=>?_) (fun c6=>?_)
        ·replace H:=bM H c6
         refine wp_skip<|ak<|wp_seq<|wp_block<|wp_seq<|region<|rs (vL Dt a1.length Du) (aJ rfl)<|rs (vP b1 6) (aH (n:=1) (o':=6) rfl Tryz.runUnderlying56 rfl Tryz.sizeOf54 (by decide) rfl)<|rs (vL jS a0.au.length jT) (aK rfl Tryz.isAgg54 (HS3.look 0 rfl) rfl)<|rs (vI aG) (aJ rfl)<|aI (by simp only [sc0,sc1];rfl) ?_
         obtain ⟨hi3,H⟩:=eG H
         obtain ⟨ad3,e3,WX⟩:=iM sK hi3.1 hi3.2
         refine rs (Value.pointer (some (Addr.add ad3 (aG.toNat*3)))) (dP (sz:=3) rfl e3 rfl hi3.1 hi3.2 Tryz.runUnderlying54 Tryz.sizeOf129)<|rs (Value.pointer (some (Addr.add (Addr.add ad3 (aG.toNat*3)) 1))) (jr (n:=1) (o':=1) rfl Tryz.runUnderlying129 rfl Tryz.sizeOf3 (by decide) rfl)<|rs (vI ((rd aj a0.au aG).vType)) (jC rfl Tryz.isAgg3 (WX.cell HS3.sees 1 rfl)) ?_
         obtain ⟨hi4,H⟩:=eG H
         obtain ⟨ad4,e4,aap⟩:=rF Gv hi4.1 hi4.2
         refine rs (Value.pointer (some (Addr.add ad4 (((rd aj a0.au aG).vType).toNat*1)))) (dP (sz:=1) rfl e4 rfl hi4.1 hi4.2 Tryz.runUnderlying81 Tryz.sizeOf3)<|aI (by simp only [sc0,sc1];rfl) ?_
         refine rs (vI (rd 0 a1 ((rd aj a0.au aG).vType))) (jC rfl Tryz.isAgg3 (aap.cell0 HS3.sees rfl))<|rs (vB ((rd 0 a1 ((rd aj a0.au aG).vType))==0)) (bK rfl rfl rfl) ?_
         try simp only [sc0,sc1]
         refine aA<|ak<|wp_cond_split (t:=((rd 0 a1 ((rd aj a0.au aG).vType))==0)) rfl (fun c7=>?_) (fun c7=>?_)
         ·replace H:=bM H c7
          refine wp_seq<|region<|rs (vI 0) (aB rfl) ?_
          try simp only [sc0,sc1]
          refine aA<|ak<|wp_ret<|dn<|aW<|gJ<|aW ?_
          obtain rfl:=Option.some.inj H
          obtain rfl:=Option.some.inj G1
          exact bodyPost_ret (aV rfl (aX rfl)) rfl<|⟨rfl,HS3.toE⟩
         ·replace H:=bW H (nt c7)
          refine wp_skip<|dI<|ak<|region<|rs (vI aG) (aJ rfl)<|rs (vI (w64 (aG+1))) (bK rfl rfl rfl)<|rs (vI (w64 (aG+1))) (aB rfl) ?_
          try simp only [sc0,sc1]
          refine aA<|gZ m (Nat.lt_succ_self m) rfl ⟨(w64 (aG+1)),(fit rfl),H,HS3⟩
        ·replace H:=bW H (nt c6)
         refine wp_exit<|eY ?_
         obtain rfl:=Option.some.inj H
         refine iG rfl ⟨_,rfl,(fit rfl),HS3⟩
      ·rintro us w4 ⟨s1,rfl,ni,HS4⟩
       obtain ⟨uo1,rfl⟩:=unj ni
       replace H:=G1
       clear G1
       try simp only [patch,sc0,sc1]
       refine ak<|wp_seq<|region<|rs (vP b1 5) (aH (n:=1) (o':=5) rfl Tryz.runUnderlying56 rfl Tryz.sizeOf3 (by decide) rfl)<|rs (vI a0.vN) (aK rfl Tryz.isAgg3 (HS4.look 0 rfl) rfl)<|rs (vI a0.vN) (aB rfl) ?_
       try simp only [sc0,sc1]
       refine aA<|ak<|wp_ret ?_
       obtain rfl:=Option.some.inj H
       exact bodyPost_ret (aV rfl (aX rfl)) rfl<|⟨rfl,HS4.toE⟩

end Go.Proofs.YtecpbadkdpbkpaaGreatDoor
namespace Go.Proofs.YtecpbadkdpbkpaaGreatDoor
open Go.RowKit Go.M
def aT.l1 (k:Nat) (a0:aU):Nat→Bool→Int→(List Int)→Option (Bool×(List Int))
 |0,_,_,_=>none
 |m+1,kN,nP,DU=>if (decide (nP<(a0.ay.length:Int)))=true then (if 0≤nP∧nP<(((a0.ay.length:Int).toNat:Nat):Int) then (if ((rd 0 DU nP) !=0)=true then (aT.l1 k a0 m kN (IntKind.wrap .i64 (nP+1)) DU) else (if 0≤nP∧nP<a0.ay.length then ((dN.f k (rd ah a0.ay nP) DU).bind fun v1=>(if (decide (v1>0))=true then (if 0≤nP∧nP<(((a0.ay.length:Int).toNat:Nat):Int) then (aT.l1 k a0 m true (IntKind.wrap .i64 (nP+1)) (List.set DU nP.toNat (zL v1 513))) else none) else (aT.l1 k a0 m kN (IntKind.wrap .i64 (nP+1)) DU))) else none)) else none) else (some (kN,DU))
def aT.l0 (k:Nat) (a0:aU):Nat→Bool→(List Int)→Option ((List Int))
 |0,_,_=>none
 |m+1,aG,dB=>if aG=true then ((aT.l1 k a0 k false 0 dB).bind fun xx2=>(aT.l0 k a0 m xx2.1 xx2.2)) else (some dB)
def aT.f (k:Nat) (a0:aU):Option ((List Int)):=if 0≤(a0.ay.length:Int)∧(a0.ay.length:Int)≤4294967296 then ((aT.l0 k a0 k true (List.replicate (a0.ay.length:Int).toNat (0:Int))).bind fun xx1=>(some xx1)) else none
set_option maxRecDepth 20000 in
set_option maxHeartbeats 4000000 in
theorem aT.calls (k:Nat) (a0:aU) (bU:Option Addr) (bV:Nat) {h0:View} {w0:World} (hv:jL h0 w0) (fK:Rd dV h0 bU a0.ay) (iw:a0.ay.length≤bV) {r:(List Int)} (H:aT.f k a0=some r):Calls Tryz.prog 79 #[Value.agg #[vL bU a0.ay.length bV]] w0 (fun e w1=>∃(h1:View) (bU:Option Addr) (bV:Nat),e= .returned (vL bU r.length bV)∧r.length≤bV∧Rd (Kd.int .i64) h1 bU r∧Gr w0.heap.size h0 h1∧jL h1 w1∧Ext w0 w1):=by
 unfold aT.f at H
 have HS:St [] h0 w0 h0 [] w0:=St.init hv
 go_enter Tryz.func79,Tryz.ntmps79
 refine wp_seq<|region<|dU rfl rfl (dY (cs:=#[vL bU a0.ay.length bV]) rfl rfl) ?_
 rintro w1 _ hE1 ⟨b1,rfl,ge1,hb1⟩
 have HS1:=HS.new hE1 ge1 hb1
 refine rs (vL none 0 0) (aB rfl) ?_
 try simp only [sc0,sc1]
 refine aA<|ak<|wp_seq<|region<|rs (vP b1 0) (aH (n:=1) (o':=0) rfl Tryz.runUnderlying24 rfl Tryz.sizeOf22 (by decide) rfl)<|rs (vL bU a0.ay.length bV) (aK rfl Tryz.isAgg22 (HS1.look 0 rfl) rfl)<|rs (vI (a0.ay.length:Int)) (jJ rfl Tryz.runUnderlying22) ?_
 obtain ⟨hk1,H⟩:=eG H
 refine run_mk (Kd.int .i64) 0 (zs:=[vI 0]) rfl rfl hk1 Tryz.runUnderlying81 Tryz.typeInfo3 (by decide) rfl Tryz.zeroValue3 rfl rfl HS1 ?_
 intro w2 b2 cs1 HS2 ho1
 refine aI (by simp only [sc0,sc1];rfl) ?_
 refine rs (vL (rowA (some b2)) ((a0.ay.length:Int).toNat) ((a0.ay.length:Int).toNat)) (aB rfl) ?_
 try simp only [sc0,sc1]
 refine aA<|ak<|wp_seq<|wp_seq<|region<|rs (vB true) (aB rfl) ?_
 try simp only [sc0,sc1]
 refine aA<|ak ?_
 obtain ⟨xx1,H,G1⟩:=bJ H
 refine jm [4,5,6,11,12,13,14,15,16,17,18,19,20,21,22,23,24,25,26,27,28,29,30,31,32,33,34,35,36,37] (fun m us w'=>∃aG:Bool,∃dB:List Int,∃iO:List Value,Fit us (fun uy1=>[vB aG,(uy1 1),(uy1 2),(uy1 3),(uy1 4),(uy1 5),(uy1 6),(uy1 7),(uy1 8),(uy1 9),(uy1 10),(uy1 11),(uy1 12),(uy1 13),(uy1 14),(uy1 15),(uy1 16),(uy1 17),(uy1 18),(uy1 19),(uy1 20),(uy1 21),(uy1 22),(uy1 23),(uy1 24),(uy1 25),(uy1 26),(uy1 27),(uy1 28),(uy1 29)])∧aT.l0 k a0 m aG dB=some xx1∧gY (Kd.int .i64) h0 dB (some b2) ((a0.ay.length:Int).toNat) ((a0.ay.length:Int).toNat) iO∧St [] h0 w0 h0 [((some b2), .cells (iO).toArray 3 (0,0)),(some b1, .cells #[vL bU a0.ay.length bV] 24 (0,0))] w') (fun us w'=>∃(NM:List Value),Fit us (fun uo2=>[(uo2 0),(uo2 1),(uo2 2),(uo2 3),(uo2 4),(uo2 5),(uo2 6),(uo2 7),(uo2 8),(uo2 9),(uo2 10),(uo2 11),(uo2 12),(uo2 13),(uo2 14),(uo2 15),(uo2 16),(uo2 17),(uo2 18),(uo2 19),(uo2 20),(uo2 21),(uo2 22),(uo2 23),(uo2 24),(uo2 25),(uo2 26),(uo2 27),(uo2 28),(uo2 29)])∧gY (Kd.int .i64) h0 xx1 (some b2) ((a0.ay.length:Int).toNat) ((a0.ay.length:Int).toNat) NM∧St [] h0 w0 h0 [((some b2), .cells (NM).toArray 3 (0,0)),(some b1, .cells #[vL bU a0.ay.length bV] 24 (0,0))] w') k ⟨true,(List.replicate (a0.ay.length:Int).toNat (0:Int)),cs1,(fit rfl),H,ho1,HS2⟩ ?_ ?_
 ·rintro m us w3 ⟨aG,dB,iO,ng,H,jD,HS3⟩
  obtain ⟨uy1,rfl⟩:=unj ng
  cases m with
  |zero=>exact absurd H (by simp [aT.l0])
  |succ m=>
   rw [aT.l0] at H
   try simp only [patch,sc0,sc1]
   refine wp_seq<|wp_seq<|region<|rs (vB aG) (aJ rfl) ?_
   try simp only [sc0,sc1]
   refine aA<|ak<|wp_cond_split (t:=aG) rfl (fun c1=>?_) (fun c1=>?_)
   ·replace H:=bM H c1
    refine wp_skip<|ak<|wp_block<|wp_seq<|region<|rs (vB false) (aB rfl) ?_
    try simp only [sc0,sc1]
    refine aA<|ak<|wp_seq<|region<|rs (vI 0) (aB rfl) ?_
    try simp only [sc0,sc1]
    refine aA<|ak ?_
    obtain ⟨xx2,H,G2⟩:=bJ H
    refine jm [4,5,6,12,13,14,15,16,17,18,19,20,21,22,23,24,25,26,27,28,29,30,31,32,33,34,35,36,37] (fun m us w'=>∃kN:Bool,∃nP:Int,∃DU:List Int,∃wu:List Value,Fit us (fun uy2=>[vB kN,vI nP,(uy2 2),(uy2 3),(uy2 4),(uy2 5),(uy2 6),(uy2 7),(uy2 8),(uy2 9),(uy2 10),(uy2 11),(uy2 12),(uy2 13),(uy2 14),(uy2 15),(uy2 16),(uy2 17),(uy2 18),(uy2 19),(uy2 20),(uy2 21),(uy2 22),(uy2 23),(uy2 24),(uy2 25),(uy2 26),(uy2 27),(uy2 28)])∧aT.l1 k a0 m kN nP DU=some xx2∧gY (Kd.int .i64) h0 DU (some b2) ((a0.ay.length:Int).toNat) ((a0.ay.length:Int).toNat) wu∧St [] h0 w0 h0 [((some b2), .cells (wu).toArray 3 (0,0)),(some b1, .cells #[vL bU a0.ay.length bV] 24 (0,0))] w') (fun us w'=>∃(xO:List Value),Fit us (fun uo1=>[vB xx2.1,(uo1 1),(uo1 2),(uo1 3),(uo1 4),(uo1 5),(uo1 6),(uo1 7),(uo1 8),(uo1 9),(uo1 10),(uo1 11),(uo1 12),(uo1 13),(uo1 14),(uo1 15),(uo1 16),(uo1 17),(uo1 18),(uo1 19),(uo1 20),(uo1 21),(uo1 22),(uo1 23),(uo1 24),(uo1 25),(uo1 26),(uo1 27),(uo1 28)])∧gY (Kd.int .i64) h0 xx2.2 (some b2) ((a0.ay.length:Int).toNat) ((a0.ay.length:Int).toNat) xO∧St [] h0 w0 h0 [((some b2), .cells (xO).toArray 3 (0,0)),(some b1, .cells #[vL bU a0.ay.length bV] 24 (0,0))] w') k ⟨false,0,dB,iO,(fit rfl),H,jD,HS3⟩ ?_ ?_
    ·rintro m us w4 ⟨kN,nP,DU,wu,WW,H,uj,HS4⟩
     obtain ⟨uy2,rfl⟩:=unj WW
     cases m with
     |zero=>exact absurd H (by simp [aT.l1])
     |succ m=>
      rw [aT.l1] at H
      try simp only [patch,sc0,sc1]
      refine wp_seq<|wp_seq<|region<|rs (vI nP) (aJ rfl)<|rs (vP b1 0) (aH (n:=1) (o':=0) rfl Tryz.runUnderlying24 rfl Tryz.sizeOf22 (by decide) rfl)<|rs (vL bU a0.ay.length bV) (aK rfl Tryz.isAgg22 (HS4.look 1 rfl) rfl)<|rs (vI (a0.ay.length:Int)) (jJ rfl Tryz.runUnderlying22)<|aI (by simp only [sc0,sc1];rfl) ?_
      refine rs (vB (decide (nP<(a0.ay.length:Int)))) (bK rfl rfl rfl) ?_
      try simp only [sc0,sc1]
      refine aA<|ak<|wp_cond_split (t:=(decide (nP<(a0.ay.length:Int)))) rfl (fun c2=>?_) (fun c2=>?_)
      ·replace H:=bM H c2
       refine wp_skip<|ak<|wp_seq<|wp_block<|wp_seq<|wp_seq<|region<|rs (vL (rowA (some b2)) ((a0.ay.length:Int).toNat) ((a0.ay.length:Int).toNat)) (aJ rfl)<|rs (vI nP) (aJ rfl) ?_
       obtain ⟨hi1,H⟩:=eG H
       obtain ⟨rb1,_,Rw,rfl,hp1⟩:=uj.at 0 hi1.1 hi1.2
       refine rs (Value.pointer (some ⟨rb1,nP.toNat*1+0,none⟩)) (lQ (sz:=1) rfl Rw rfl hi1.1 hi1.2 Tryz.runUnderlying81 Tryz.sizeOf3)<|rs (vI (rd 0 DU nP)) (aK (cs:=wu) rfl Tryz.isAgg3 (HS4.OU 0 rfl Rw) (hp1 0 _ rfl))<|aI (by simp only [sc0,sc1];rfl) ?_
       refine rs (vB ((rd 0 DU nP) !=0)) (bK rfl rfl rfl) ?_
       try simp only [sc0,sc1]
       refine aA<|ak<|wp_cond_split (t:=((rd 0 DU nP) !=0)) rfl (fun c3=>?_) (fun c3=>?_)
       ·replace H:=bM H c3
        refine wp_exit<|eY<|IQ<|ak<|region<|rs (vI nP) (aJ rfl)<|rs (vI (w64 (nP+1))) (bK rfl rfl rfl)<|rs (vI (w64 (nP+1))) (aB rfl) ?_
        try simp only [sc0,sc1]
        refine aA<|gZ m (Nat.lt_succ_self m) rfl ⟨kN,(w64 (nP+1)),DU,wu,(fit rfl),H,uj,HS4⟩
       ·replace H:=bW H (nt c3)
        refine wp_skip<|ak<|wp_seq<|region<|rs (vP b1 0) (aH (n:=1) (o':=0) rfl Tryz.runUnderlying24 rfl Tryz.sizeOf22 (by decide) rfl)<|rs (vL bU a0.ay.length bV) (aK rfl Tryz.isAgg22 (HS4.look 1 rfl) rfl)<|rs (vI nP) (aJ rfl) ?_
        obtain ⟨hi2,H⟩:=eG H
        obtain ⟨ad1,dG,dJ,e1,lu,jQ,iH⟩:=gy fK hi2.1 hi2.2
        refine rs (Value.pointer (some (Addr.add ad1 (nP.toNat*7)))) (dP (sz:=7) rfl e1 rfl hi2.1 hi2.2 Tryz.runUnderlying22 Tryz.sizeOf56)<|aI (by simp only [sc0,sc1];rfl) ?_
        refine rs (Value.agg #[vI ((rd ah a0.ay nP).aC),vS ((rd ah a0.ay nP).aQ),vI ((rd ah a0.ay nP).bG.aP),vB ((rd ah a0.ay nP).bG.aN),vI ((rd ah a0.ay nP).dM),vI ((rd ah a0.ay nP).vN),vL dG ((rd ah a0.ay nP).au).length dJ]) (ig rfl Tryz.isAgg56 (lu.sees HS4.sees) Tryz.sizeOf56)<|rs (vL (rowA (some b2)) ((a0.ay.length:Int).toNat) ((a0.ay.length:Int).toNat)) (aJ rfl) ?_
        obtain ⟨v1,H1,H⟩:=bJ H
        obtain ⟨hl1,hs1,se1,aaq⟩:=OO HS4 (i:=0) rfl uj
        refine run_eq (v:=vI v1) rfl rfl (bf Tryz.call127 rfl (OA rfl (show _=vL (rowA (some b2)) DU.length ((a0.ay.length:Int).toNat) from by rw [uj.len];exact rfl)) (dN.calls k (rd ah a0.ay nP) DU dG dJ (rowA (some b2)) ((a0.ay.length:Int).toNat) se1 (iH.ext hs1) jQ aaq uj.cap H1)) ?_
        intro w5 hE2
        have HS5:=HS4.step hE2
        refine rs (vI v1) (aB rfl) ?_
        try simp only [sc0,sc1]
        refine aA<|ak<|wp_seq<|region<|rs (vI v1) (aJ rfl)<|rs (vB (decide (v1>0))) (bK rfl rfl rfl) ?_
        try simp only [sc0,sc1]
        refine aA<|ak<|wp_cond_split (t:=(decide (v1>0))) rfl (fun c4=>?_) (fun c4=>?_)
        ·replace H:=bM H c4
         refine wp_seq<|region<|rs (vL (rowA (some b2)) ((a0.ay.length:Int).toNat) ((a0.ay.length:Int).toNat)) (aJ rfl)<|rs (vI nP) (aJ rfl)<|rs (vI v1) (aJ rfl)<|rs (vI (zL v1 513)) (XM rfl rfl)<|aI (by simp only [sc0,sc1];rfl) ?_
         obtain ⟨hi3,H⟩:=eG H
         obtain ⟨rb2,_,WA,rfl,hp2⟩:=uj.at 0 hi3.1 hi3.2
         refine rs (Value.pointer (some ⟨rb2,nP.toNat*1+0,none⟩)) (lQ (sz:=1) rfl WA rfl hi3.1 hi3.2 Tryz.runUnderlying81 Tryz.sizeOf3)<|Cb (i:=0) (cs:=wu) (v:=vI (zL v1 513)) WA rfl rfl Tryz.sizeOf3 rfl rfl HS5 rfl (uj.inb hi3.1 hi3.2 (m:=1) (by decide)) ?_
         intro w6 HS6
         have ho2:=uj.set (o:=0) (v:=vI (zL v1 513)) (x':=(zL v1 513)) hi3.1 hi3.2 hp2 rfl (Nat.le_of_ble_eq_true rfl)
         try simp only [sc0,sc1]
         refine aA<|ak<|region<|rs (vB true) (aB rfl) ?_
         try simp only [sc0,sc1]
         refine aA<|dI<|ak<|region<|rs (vI nP) (aJ rfl)<|rs (vI (w64 (nP+1))) (bK rfl rfl rfl)<|rs (vI (w64 (nP+1))) (aB rfl) ?_
         try simp only [sc0,sc1]
         refine aA<|gZ m (Nat.lt_succ_self m) rfl ⟨true,(w64 (nP+1)),(List.set DU nP.toNat (zL v1 513)),(List.set wu (nP.toNat*1+0) (vI (zL v1 513))),(fit rfl),H,ho2,HS6⟩
        ·replace H:=bW H (nt c4)
         refine wp_skip<|dI<|ak<|region<|rs (vI nP) (aJ rfl)<|rs (vI (w64 (nP+1))) (bK rfl rfl rfl)<|rs (vI (w64 (nP+1))) (aB rfl) ?_
         try simp only [sc0,sc1]
         refine aA<|gZ m (Nat.lt_succ_self m) rfl ⟨kN,(w64 (nP+1)),DU,wu,(fit rfl),H,uj,HS5⟩
      ·replace H:=bW H (nt c2)
       refine wp_exit<|eY ?_
       obtain rfl:=Option.some.inj H
       refine iG rfl ⟨wu,(fit rfl),uj,HS4⟩
    ·rintro us w7 ⟨xO,ni,IB,HS7⟩
     obtain ⟨uo1,rfl⟩:=unj ni
     replace H:=G2
     clear G2
     try simp only [patch,sc0,sc1]
     refine dI<|gZ m (Nat.lt_succ_self m) rfl ⟨xx2.1,xx2.2,xO,(fit rfl),H,IB,HS7⟩
   ·replace H:=bW H (nt c1)
    refine wp_exit<|eY ?_
    obtain rfl:=Option.some.inj H
    refine iG rfl ⟨iO,(fit rfl),jD,HS3⟩
 ·rintro us w8 ⟨NM,WY,IC,HS8⟩
  obtain ⟨uo2,rfl⟩:=unj WY
  replace H:=G1
  clear G1
  try simp only [patch,sc0,sc1]
  refine ak<|wp_seq<|region<|rs (vL (rowA (some b2)) ((a0.ay.length:Int).toNat) ((a0.ay.length:Int).toNat)) (aJ rfl)<|rs (vL (rowA (some b2)) ((a0.ay.length:Int).toNat) ((a0.ay.length:Int).toNat)) (aB rfl) ?_
  try simp only [sc0,sc1]
  refine aA<|ak<|wp_ret ?_
  obtain rfl:=Option.some.inj H
  refine bodyPost_ret (aV rfl (aX rfl)) rfl ?_
  obtain ⟨h1,HS9,hs2,Ju⟩:=qC HS8 (i:=0) rfl IC
  exact ⟨h1,(rowA (some b2)),(a0.ay.length:Int).toNat,(by first|rfl|(rw [IC.len];done)|(rw [IC.len];rfl)),IC.cap,Ju,HS9.gr,HS9.sees,HS9.toE⟩

end Go.Proofs.YtecpbadkdpbkpaaGreatDoor
namespace Go.Proofs.YtecpbadkdpbkpaaGreatDoor
open Go.RowKit Go.M
def dh.l0 (a0:aU):Nat→Int→Int→Option ((Bool)⊕(Unit))
 |0,_,_=>none
 |m+1,aG,dB=>if (decide (dB≤(a0.ay.length:Int)))=true then (if 0≤aG∧aG<a0.ay.length then ((dW.f (rd ah a0.ay aG)).bind fun v1=>(if v1=true then (some (.inl true)) else (if 0≤aG∧aG<a0.ay.length then (dh.l0 a0 m ((rd ah a0.ay aG).dM) (IntKind.wrap .i64 (dB+1))) else none))) else none) else (some (.inr ()))
def dh.f (k:Nat) (a0:aU) (a1:Int):Option (Bool):=(dh.l0 a0 k a1 0).bind fun xx1=>(match xx1 with| .inl r=>some r| .inr s1=>some false)
set_option maxRecDepth 20000 in
set_option maxHeartbeats 4000000 in
theorem dh.calls (k:Nat) (a0:aU) (a1:Int) (bU:Option Addr) (bV:Nat) {h0:View} {w0:World} (hv:jL h0 w0) (fK:Rd dV h0 bU a0.ay) (iw:a0.ay.length≤bV) {r:Bool} (H:dh.f k a0 a1=some r):Calls Tryz.prog 80 #[Value.agg #[vL bU a0.ay.length bV],vI a1] w0 (fun e w1=>e= .returned (vB r)∧Ext w0 w1):=by
 unfold dh.f at H
 have HS:St [] h0 w0 h0 [] w0:=St.init hv
 go_enter Tryz.func80,Tryz.ntmps80
 refine wp_seq<|region<|dU rfl rfl (dY (cs:=#[vL bU a0.ay.length bV]) rfl rfl) ?_
 rintro w1 _ hE1 ⟨b1,rfl,ge1,hb1⟩
 have HS1:=HS.new hE1 ge1 hb1
 refine rs (vB false) (aB rfl) ?_
 try simp only [sc0,sc1]
 refine aA<|ak<|wp_seq<|wp_seq<|region<|rs (vI 0) (aB rfl) ?_
 try simp only [sc0,sc1]
 refine aA<|ak ?_
 obtain ⟨xx1,H,G1⟩:=bJ H
 refine jm [1,4,5,6,7,8,9,10,11,12,13,14,15,16,17,18,19,20,21,22,23,24] (fun m us w'=>∃aG dB:Int,Fit us (fun uy1=>[vI aG,(uy1 1),vI dB,(uy1 3),(uy1 4),(uy1 5),(uy1 6),(uy1 7),(uy1 8),(uy1 9),(uy1 10),(uy1 11),(uy1 12),(uy1 13),(uy1 14),(uy1 15),(uy1 16),(uy1 17),(uy1 18),(uy1 19),(uy1 20),(uy1 21)])∧dh.l0 a0 m aG dB=some xx1∧St [] h0 w0 h0 [(some b1, .cells #[vL bU a0.ay.length bV] 24 (0,0))] w') (fun us w'=>∃(s1:Unit),xx1= .inr s1∧Fit us (fun uo1=>[(uo1 0),(uo1 1),(uo1 2),(uo1 3),(uo1 4),(uo1 5),(uo1 6),(uo1 7),(uo1 8),(uo1 9),(uo1 10),(uo1 11),(uo1 12),(uo1 13),(uo1 14),(uo1 15),(uo1 16),(uo1 17),(uo1 18),(uo1 19),(uo1 20),(uo1 21)])∧St [] h0 w0 h0 [(some b1, .cells #[vL bU a0.ay.length bV] 24 (0,0))] w') k ⟨a1,0,(fit rfl),H,HS1⟩ ?_ ?_
 ·rintro m us w2 ⟨aG,dB,ng,H,HS2⟩
  obtain ⟨uy1,rfl⟩:=unj ng
  cases m with
  |zero=>exact absurd H (by simp [dh.l0])
  |succ m=>
   rw [dh.l0] at H
   try simp only [patch,sc0,sc1]
   refine wp_seq<|wp_seq<|region<|rs (vI dB) (aJ rfl)<|rs (vP b1 0) (aH (n:=1) (o':=0) rfl Tryz.runUnderlying24 rfl Tryz.sizeOf22 (by decide) rfl)<|rs (vL bU a0.ay.length bV) (aK rfl Tryz.isAgg22 (HS2.look 0 rfl) rfl)<|rs (vI (a0.ay.length:Int)) (jJ rfl Tryz.runUnderlying22)<|aI (by simp only [sc0,sc1];rfl) ?_
   refine rs (vB (decide (dB≤(a0.ay.length:Int)))) (bK rfl rfl rfl) ?_
   try simp only [sc0,sc1]
   refine aA<|ak<|wp_cond_split (t:=(decide (dB≤(a0.ay.length:Int)))) rfl (fun c1=>?_) (fun c1=>?_)
   ·replace H:=bM H c1
    refine wp_skip<|ak<|wp_seq<|wp_block<|wp_seq<|wp_seq<|region<|rs (vP b1 0) (aH (n:=1) (o':=0) rfl Tryz.runUnderlying24 rfl Tryz.sizeOf22 (by decide) rfl)<|rs (vL bU a0.ay.length bV) (aK rfl Tryz.isAgg22 (HS2.look 0 rfl) rfl)<|rs (vI aG) (aJ rfl) ?_
    obtain ⟨hi1,H⟩:=eG H
    obtain ⟨ad1,dG,dJ,e1,lu,jQ,iH⟩:=gy fK hi1.1 hi1.2
    refine rs (Value.pointer (some (Addr.add ad1 (aG.toNat*7)))) (dP (sz:=7) rfl e1 rfl hi1.1 hi1.2 Tryz.runUnderlying22 Tryz.sizeOf56)<|aI (by simp only [sc0,sc1];rfl) ?_
    refine rs (Value.agg #[vI ((rd ah a0.ay aG).aC),vS ((rd ah a0.ay aG).aQ),vI ((rd ah a0.ay aG).bG.aP),vB ((rd ah a0.ay aG).bG.aN),vI ((rd ah a0.ay aG).dM),vI ((rd ah a0.ay aG).vN),vL dG ((rd ah a0.ay aG).au).length dJ]) (ig rfl Tryz.isAgg56 (lu.sees HS2.sees) Tryz.sizeOf56) ?_
    obtain ⟨v1,H1,H⟩:=bJ H
    refine run_eq (v:=vB v1) rfl rfl (bf Tryz.call78 rfl rfl (dW.calls (rd ah a0.ay aG) dG dJ HS2.sees iH jQ H1)) ?_
    intro w3 hE2
    have HS3:=HS2.step hE2
    try simp only [sc0,sc1]
    refine aA<|ak<|wp_cond_split (t:=v1) rfl (fun c2=>?_) (fun c2=>?_)
    ·replace H:=bM H c2
     refine wp_seq<|region<|rs (vB true) (aB rfl) ?_
     try simp only [sc0,sc1]
     refine aA<|ak<|wp_ret<|aW<|dn<|aW<|gJ<|aW ?_
     obtain rfl:=Option.some.inj H
     obtain rfl:=Option.some.inj G1
     exact bodyPost_ret (aV rfl (aX rfl)) rfl<|⟨rfl,HS3.toE⟩
    ·replace H:=bW H (nt c2)
     refine wp_skip<|ak<|region<|rs (vP b1 0) (aH (n:=1) (o':=0) rfl Tryz.runUnderlying24 rfl Tryz.sizeOf22 (by decide) rfl)<|rs (vL bU a0.ay.length bV) (aK rfl Tryz.isAgg22 (HS3.look 0 rfl) rfl)<|rs (vI aG) (aJ rfl) ?_
     obtain ⟨hi2,H⟩:=eG H
     obtain ⟨ad2,BD,BF,e2,xw,Dv,Dw⟩:=gy fK hi2.1 hi2.2
     refine rs (Value.pointer (some (Addr.add ad2 (aG.toNat*7)))) (dP (sz:=7) rfl e2 rfl hi2.1 hi2.2 Tryz.runUnderlying22 Tryz.sizeOf56)<|aI (by simp only [sc0,sc1];rfl) ?_
     refine rs (Value.pointer (some (Addr.add (Addr.add ad2 (aG.toNat*7)) 4))) (jr (n:=1) (o':=4) rfl Tryz.runUnderlying56 rfl Tryz.sizeOf3 (by decide) rfl)<|rs (vI ((rd ah a0.ay aG).dM)) (jC rfl Tryz.isAgg3 (xw.cell HS3.sees 4 rfl))<|rs (vI ((rd ah a0.ay aG).dM)) (aB rfl) ?_
     try simp only [sc0,sc1]
     refine aA<|dI<|ak<|region<|rs (vI dB) (aJ rfl)<|rs (vI (w64 (dB+1))) (bK rfl rfl rfl)<|rs (vI (w64 (dB+1))) (aB rfl) ?_
     try simp only [sc0,sc1]
     refine aA<|gZ m (Nat.lt_succ_self m) rfl ⟨(rd ah a0.ay aG).dM,(w64 (dB+1)),(fit rfl),H,HS3⟩
   ·replace H:=bW H (nt c1)
    refine wp_exit<|eY ?_
    obtain rfl:=Option.some.inj H
    refine iG rfl ⟨_,rfl,(fit rfl),HS2⟩
 ·rintro us w4 ⟨s1,rfl,ni,HS4⟩
  obtain ⟨uo1,rfl⟩:=unj ni
  replace H:=G1
  clear G1
  try simp only [patch,sc0,sc1]
  refine ak<|wp_seq<|region<|rs (vB false) (aB rfl) ?_
  try simp only [sc0,sc1]
  refine aA<|ak<|wp_ret ?_
  obtain rfl:=Option.some.inj H
  exact bodyPost_ret (aV rfl (aX rfl)) rfl<|⟨rfl,HS4.toE⟩

end Go.Proofs.YtecpbadkdpbkpaaGreatDoor
namespace Go.Proofs.YtecpbadkdpbkpaaGreatDoor
open Go.RowKit Go.M
def bZ.l0 (a0:bF) (a1:List Int):Nat→Int→Int→Option ((Bool)⊕(Int))
 |0,_,_=>none
 |m+1,aG,dB=>if (decide (dB<(a0.au.length:Int)))=true then (if 0≤dB∧dB<a0.au.length then (if ((decide ((rd aj a0.au dB).vAt<aG))||(decide ((rd aj a0.au dB).vAt>a0.vN)))=true then (some (.inl false)) else (if 0≤(rd aj a0.au dB).vType∧(rd aj a0.au dB).vType<a1.length then (bZ.l0 a0 a1 m (IntKind.wrap .i64 ((rd aj a0.au dB).vAt+(rd 0 a1 ((rd aj a0.au dB).vType)))) (IntKind.wrap .i64 (dB+1))) else none)) else none) else (some (.inr aG))
def bZ.f (k:Nat) (a0:bF) (a1:List Int):Option (Bool):=(bZ.l0 a0 a1 k 0 0).bind fun xx1=>(match xx1 with| .inl r=>some r| .inr s1=>some (decide (s1≤a0.vN)))
set_option maxRecDepth 20000 in
set_option maxHeartbeats 4000000 in
theorem bZ.calls (k:Nat) (a0:bF) (a1:List Int) (jS:Option Addr) (jT:Nat) (Dt:Option Addr) (Du:Nat) {h0:View} {w0:World} (hv:jL h0 w0) (sK:Rd eH h0 jS a0.au) (yc:a0.au.length≤jT) (Gv:Rd (Kd.int .i64) h0 Dt a1) (WV:a1.length≤Du) {r:Bool} (H:bZ.f k a0 a1=some r):Calls Tryz.prog 81 #[Value.agg #[vI a0.aC,vS a0.aQ,vI a0.bG.aP,vB a0.bG.aN,vI a0.dM,vI a0.vN,vL jS a0.au.length jT],vL Dt a1.length Du] w0 (fun e w1=>e= .returned (vB r)∧Ext w0 w1):=by
 unfold bZ.f at H
 have HS:St [] h0 w0 h0 [] w0:=St.init hv
 go_enter Tryz.func81,Tryz.ntmps81
 refine wp_seq<|region<|dU rfl rfl (dY (cs:=#[vI a0.aC,vS a0.aQ,vI a0.bG.aP,vB a0.bG.aN,vI a0.dM,vI a0.vN,vL jS a0.au.length jT]) rfl rfl) ?_
 rintro w1 _ hE1 ⟨b1,rfl,ge1,hb1⟩
 have HS1:=HS.new hE1 ge1 hb1
 refine rs (vB false) (aB rfl) ?_
 try simp only [sc0,sc1]
 refine aA<|ak<|wp_seq<|region<|rs (vI 0) (aB rfl) ?_
 try simp only [sc0,sc1]
 refine aA<|ak<|wp_seq<|wp_seq<|region<|rs (vI 0) (aB rfl) ?_
 try simp only [sc0,sc1]
 refine aA<|ak ?_
 obtain ⟨xx1,H,G1⟩:=bJ H
 refine jm [4,5,6,7,8,9,10,11,12,13,14,15,16,17,18,19,20,21,22,23,24,25,26,27,28,29,30,31,32,33,34,35,36,37,38] (fun m us w'=>∃aG dB:Int,Fit us (fun uy1=>[(uy1 0),vI aG,vI dB,(uy1 3),(uy1 4),(uy1 5),(uy1 6),(uy1 7),(uy1 8),(uy1 9),(uy1 10),(uy1 11),(uy1 12),(uy1 13),(uy1 14),(uy1 15),(uy1 16),(uy1 17),(uy1 18),(uy1 19),(uy1 20),(uy1 21),(uy1 22),(uy1 23),(uy1 24),(uy1 25),(uy1 26),(uy1 27),(uy1 28),(uy1 29),(uy1 30),(uy1 31),(uy1 32),(uy1 33),(uy1 34)])∧bZ.l0 a0 a1 m aG dB=some xx1∧St [] h0 w0 h0 [(some b1, .cells #[vI a0.aC,vS a0.aQ,vI a0.bG.aP,vB a0.bG.aN,vI a0.dM,vI a0.vN,vL jS a0.au.length jT] 56 (0,0))] w') (fun us w'=>∃(s1:Int),xx1= .inr s1∧Fit us (fun uo1=>[(uo1 0),vI s1,(uo1 2),(uo1 3),(uo1 4),(uo1 5),(uo1 6),(uo1 7),(uo1 8),(uo1 9),(uo1 10),(uo1 11),(uo1 12),(uo1 13),(uo1 14),(uo1 15),(uo1 16),(uo1 17),(uo1 18),(uo1 19),(uo1 20),(uo1 21),(uo1 22),(uo1 23),(uo1 24),(uo1 25),(uo1 26),(uo1 27),(uo1 28),(uo1 29),(uo1 30),(uo1 31),(uo1 32),(uo1 33),(uo1 34)])∧St [] h0 w0 h0 [(some b1, .cells #[vI a0.aC,vS a0.aQ,vI a0.bG.aP,vB a0.bG.aN,vI a0.dM,vI a0.vN,vL jS a0.au.length jT] 56 (0,0))] w') k ⟨0,0,(fit rfl),H,HS1⟩ ?_ ?_
 ·rintro m us w2 ⟨aG,dB,ng,H,HS2⟩
  obtain ⟨uy1,rfl⟩:=unj ng
  cases m with
  |zero=>exact absurd H (by simp [bZ.l0])
  |succ m=>
   rw [bZ.l0] at H
   try simp only [patch,sc0,sc1]
   refine wp_seq<|wp_seq<|region<|rs (vI dB) (aJ rfl)<|rs (vP b1 6) (aH (n:=1) (o':=6) rfl Tryz.runUnderlying56 rfl Tryz.sizeOf54 (by decide) rfl)<|rs (vL jS a0.au.length jT) (aK rfl Tryz.isAgg54 (HS2.look 0 rfl) rfl)<|rs (vI (a0.au.length:Int)) (jJ rfl Tryz.runUnderlying54)<|aI (by simp only [sc0,sc1];rfl) ?_
   refine rs (vB (decide (dB<(a0.au.length:Int)))) (bK rfl rfl rfl) ?_
   try simp only [sc0,sc1]
   refine aA<|ak<|wp_cond_split (t:=(decide (dB<(a0.au.length:Int)))) rfl (fun c1=>?_) (fun c1=>?_)
   ·replace H:=bM H c1
    refine wp_skip<|ak<|wp_seq<|wp_block<|wp_seq<|region<|rs (vP b1 6) (aH (n:=1) (o':=6) rfl Tryz.runUnderlying56 rfl Tryz.sizeOf54 (by decide) rfl)<|rs (vL jS a0.au.length jT) (aK rfl Tryz.isAgg54 (HS2.look 0 rfl) rfl)<|rs (vI dB) (aJ rfl) ?_
    obtain ⟨hi1,H⟩:=eG H
    obtain ⟨ad1,e1,lu⟩:=iM sK hi1.1 hi1.2
    refine rs (Value.pointer (some (Addr.add ad1 (dB.toNat*3)))) (dP (sz:=3) rfl e1 rfl hi1.1 hi1.2 Tryz.runUnderlying54 Tryz.sizeOf129)<|aI (by simp only [sc0,sc1];rfl) ?_
    refine rs (Value.agg #[vS ((rd aj a0.au dB).aQ),vI ((rd aj a0.au dB).vType),vI ((rd aj a0.au dB).vAt)]) (ig rfl Tryz.isAgg129 (lu.sees HS2.sees) Tryz.sizeOf129)<|dU rfl rfl (fA (cs:=#[vS ByteArray.empty,vI 0,vI 0]) Tryz.zeroValue129 rfl) ?_
    rintro w3 _ hE2 ⟨b2,rfl,ge2,hb2⟩
    have HS3:=HS2.new hE2 ge2 hb2
    refine fV (i:=0) (cs:=[vS ByteArray.empty,vI 0,vI 0]) (cs':=[vS ((rd aj a0.au dB).aQ),vI ((rd aj a0.au dB).vType),vI ((rd aj a0.au dB).vAt)]) (vs:=[vS ((rd aj a0.au dB).aQ),vI ((rd aj a0.au dB).vType),vI ((rd aj a0.au dB).vAt)]) (bs':=[(some b2, .cells #[vS ((rd aj a0.au dB).aQ),vI ((rd aj a0.au dB).vType),vI ((rd aj a0.au dB).vAt)] 129 (0,0)),(some b1, .cells #[vI a0.aC,vS a0.aQ,vI a0.bG.aP,vB a0.bG.aN,vI a0.dM,vI a0.vN,vL jS a0.au.length jT] 56 (0,0))]) rfl rfl Tryz.sizeOf129 rfl rfl (by decide) rfl HS3 rfl (Nat.le_of_ble_eq_true rfl) rfl rfl ?_
    intro w4 HS4
    try simp only [sc0,sc1]
    refine aA<|ak<|wp_seq<|wp_seq<|region<|rs (vP b2 2) (aH (n:=1) (o':=2) rfl Tryz.runUnderlying129 rfl Tryz.sizeOf3 (by decide) rfl)<|rs (vI ((rd aj a0.au dB).vAt)) (aK rfl Tryz.isAgg3 (HS4.look 0 rfl) rfl)<|rs (vI aG) (aJ rfl)<|rs (vB (decide ((rd aj a0.au dB).vAt<aG))) (bK rfl rfl rfl)<|aI (by simp only [sc0,sc1];rfl) ?_
    refine rs (vB (decide ((rd aj a0.au dB).vAt<aG))) (aJ rfl)<|rgs (decide ((rd aj a0.au dB).vAt<aG)) true (vP b2 2) rfl rfl rfl rfl (fun hg=>(aH (n:=1) (o':=2) rfl Tryz.runUnderlying129 rfl Tryz.sizeOf3 (by decide) rfl))<|rgs (decide ((rd aj a0.au dB).vAt<aG)) true (vI ((rd aj a0.au dB).vAt)) rfl rfl rfl rfl (fun hg=>(aK (gvt (vP b2 2) hg rfl) Tryz.isAgg3 (HS4.look 0 rfl) rfl))<|rgs (decide ((rd aj a0.au dB).vAt<aG)) true (vP b1 5) rfl rfl rfl rfl (fun hg=>(aH (n:=1) (o':=5) rfl Tryz.runUnderlying56 rfl Tryz.sizeOf3 (by decide) rfl))<|aI (by simp only [sc0,sc1];rfl) ?_
    refine rgs (decide ((rd aj a0.au dB).vAt<aG)) true (vI a0.vN) rfl rfl rfl rfl (fun hg=>(aK (gvt (vP b1 5) hg rfl) Tryz.isAgg3 (HS4.look 1 rfl) rfl))<|rgs (decide ((rd aj a0.au dB).vAt<aG)) true (vB (decide ((rd aj a0.au dB).vAt>a0.vN))) rfl rfl rfl rfl (fun hg=>(bK (gvt (vI ((rd aj a0.au dB).vAt)) hg rfl) (gvt (vI a0.vN) hg rfl) rfl))<|rs (vB ((decide ((rd aj a0.au dB).vAt<aG))||(decide ((rd aj a0.au dB).vAt>a0.vN)))) (dZ rfl rfl (fun hp=>(gvt (vB (decide ((rd aj a0.au dB).vAt>a0.vN))) (gu rfl hp) rfl))) ?_
    try simp only [sc0,sc1]
    refine aA<|ak<|wp_cond_split (t:=((decide ((rd aj a0.au dB).vAt<aG))||(decide ((rd aj a0.au dB).vAt>a0.vN)))) rfl (fun c2=>?_) (fun c2=>?_)
    ·replace H:=bM H c2
     refine wp_seq<|region<|rs (vB false) (aB rfl) ?_
     try simp only [sc0,sc1]
     refine aA<|ak<|wp_ret<|aW<|dn<|aW<|gJ<|aW ?_
     obtain rfl:=Option.some.inj H
     obtain rfl:=Option.some.inj G1
     exact bodyPost_ret (aV rfl (aX rfl)) rfl<|⟨rfl,HS4.toE⟩
    ·replace H:=bW H (nt c2)
     refine wp_skip<|ak ?_
     obtain ⟨hi2,H⟩:=eG H
     obtain ⟨ad2,e2,xw⟩:=rF Gv hi2.1 hi2.2
     refine drawn [.eq (vP b2 2), .eq (vI ((rd aj a0.au dB).vAt)), .eq (vL Dt a1.length Du), .eq (vP b2 1), .eq (vI ((rd aj a0.au dB).vType)), .eq (Value.pointer (some (Addr.add ad2 (((rd aj a0.au dB).vType).toNat*1)))), .eq (vI (rd 0 a1 ((rd aj a0.au dB).vType))), .eq (vI (w64 ((rd aj a0.au dB).vAt+(rd 0 a1 ((rd aj a0.au dB).vType)))))] [31,32,33,34,35,36,37,38] lW (by kernel_rfl) rfl (aS (aS (aS (aS (aS (aS (aS (aS iP)))))))) ⟨aY rfl (fun a' w' hE hk=>by have HSd:=HS4.step hE;exact bI (aH (n:=1) (o':=2) (show _=vP b2 0 from hk 7 rfl) Tryz.runUnderlying129 rfl Tryz.sizeOf3 (by decide) rfl)),aY rfl (fun a' w' hE hk=>by have HSd:=HS4.step hE;exact bI (aK (show _=vP b2 2 from hk 31 rfl) Tryz.isAgg3 (HSd.look 0 rfl) rfl)),aY rfl (fun a' w' hE hk=>by have HSd:=HS4.step hE;exact bI (aJ (show _=vL Dt a1.length Du from hk 1 rfl))),aY rfl (fun a' w' hE hk=>by have HSd:=HS4.step hE;exact bI (aH (n:=1) (o':=1) (show _=vP b2 0 from hk 7 rfl) Tryz.runUnderlying129 rfl Tryz.sizeOf3 (by decide) rfl)),aY rfl (fun a' w' hE hk=>by have HSd:=HS4.step hE;exact bI (aK (show _=vP b2 1 from hk 34 rfl) Tryz.isAgg3 (HSd.look 0 rfl) rfl)),aY rfl (fun a' w' hE hk=>by have HSd:=HS4.step hE;exact bI (dP (sz:=1) (show _=vL Dt a1.length Du from hk 33 rfl) e2 (show _=vI ((rd aj a0.au dB).vType) from hk 35 rfl) hi2.1 hi2.2 Tryz.runUnderlying81 Tryz.sizeOf3)),aY rfl (fun a' w' hE hk=>by have HSd:=HS4.step hE;exact bI (jC (show _=Value.pointer (some (Addr.add ad2 (((rd aj a0.au dB).vType).toNat*1))) from hk 36 rfl) Tryz.isAgg3 (xw.cell0 HSd.sees rfl))),aY rfl (fun a' w' hE hk=>by have HSd:=HS4.step hE;exact bI (bK (show _=vI ((rd aj a0.au dB).vAt) from hk 32 rfl) (show _=vI (rd 0 a1 ((rd aj a0.au dB).vType)) from hk 37 rfl) rfl)),trivial⟩ ?_
     intro w5 hE3
     simp only [List.zip_cons_cons,List.zip_nil_left,List.zip_nil_right,yg,sc0,sc1,List.length_cons,List.length_nil,List.drop_succ_cons,List.drop_zero,Nat.zero_add,Nat.reduceAdd]
     have HS5:=HS4.step hE3
     refine rs (vI (w64 ((rd aj a0.au dB).vAt+(rd 0 a1 ((rd aj a0.au dB).vType))))) (aB rfl) ?_
     try simp only [sc0,sc1]
     refine aA<|dI<|ak<|region<|rs (vI dB) (aJ rfl)<|rs (vI (w64 (dB+1))) (bK rfl rfl rfl)<|rs (vI (w64 (dB+1))) (aB rfl) ?_
     try simp only [sc0,sc1]
     refine aA<|gZ m (Nat.lt_succ_self m) rfl ⟨(w64 ((rd aj a0.au dB).vAt+(rd 0 a1 ((rd aj a0.au dB).vType)))),(w64 (dB+1)),(fit rfl),H,HS5.tail⟩
   ·replace H:=bW H (nt c1)
    refine wp_exit<|eY ?_
    obtain rfl:=Option.some.inj H
    refine iG rfl ⟨_,rfl,(fit rfl),HS2⟩
 ·rintro us w6 ⟨s1,rfl,ni,HS6⟩
  obtain ⟨uo1,rfl⟩:=unj ni
  replace H:=G1
  clear G1
  try simp only [patch,sc0,sc1]
  refine ak<|wp_seq<|region<|rs (vI s1) (aJ rfl)<|rs (vP b1 5) (aH (n:=1) (o':=5) rfl Tryz.runUnderlying56 rfl Tryz.sizeOf3 (by decide) rfl)<|rs (vI a0.vN) (aK rfl Tryz.isAgg3 (HS6.look 0 rfl) rfl)<|rs (vB (decide (s1≤a0.vN))) (bK rfl rfl rfl)<|aI (by simp only [sc0,sc1];rfl) ?_
  refine rs (vB (decide (s1≤a0.vN))) (aB rfl) ?_
  try simp only [sc0,sc1]
  refine aA<|ak<|wp_ret ?_
  obtain rfl:=Option.some.inj H
  exact bodyPost_ret (aV rfl (aX rfl)) rfl<|⟨rfl,HS6.toE⟩

end Go.Proofs.YtecpbadkdpbkpaaGreatDoor
namespace Go.Proofs.YtecpbadkdpbkpaaGreatDoor
open Go.RowKit Go.M
def aO.l1 (a0:aU) (aG:Int):Nat→Int→Option ((Int)⊕(Unit))
 |0,_=>none
 |m+1,kN=>if (decide (kN<aG))=true then (if 0≤aG∧aG<a0.ay.length then ((dW.f (rd ah a0.ay aG)).bind fun v2=>(if (true&&(v2==true))=true→(0≤kN∧kN<a0.ay.length) then (if (true&&(v2==true))=true→(0≤aG∧aG<a0.ay.length) then (if (v2&&(strEq ((rd ah a0.ay kN).aQ) ((rd ah a0.ay aG).aQ)))=true then (some (.inl 80)) else (aO.l1 a0 aG m (IntKind.wrap .i64 (kN+1)))) else none) else none)) else none) else (some (.inr ()))
def aO.l0 (k:Nat) (a0:aU):Nat→Int→Option ((Int)⊕(Unit))
 |0,_=>none
 |m+1,aG=>if (decide (aG<(a0.ay.length:Int)))=true then (if 0≤aG∧aG<a0.ay.length then ((dF.f k a0 (rd ah a0.ay aG)).bind fun v1=>(if (!v1)=true then (some (.inl 80)) else ((aO.l1 a0 aG k 0).bind fun xx2=>(match xx2 with| .inl r=>some (.inl r)| .inr s1=>aO.l0 k a0 m (IntKind.wrap .i64 (aG+1)))))) else none) else (some (.inr ()))
def aO.l2 (k:Nat) (a0:aU) (v3:(List Int)):Nat→Int→Option ((Int)⊕(Unit))
 |0,_=>none
 |m+1,iW=>if (decide (iW<(a0.ay.length:Int)))=true then (if 0≤iW∧iW<v3.length then (if (true&&(((rd 0 v3 iW)==0)==false))=true→(0≤iW∧iW<v3.length) then ((if (true&&((((rd 0 v3 iW)==0)||(decide ((rd 0 v3 iW)>512)))==false))=true then dh.f k a0 iW else some false).bind fun v4=>(if ((((rd 0 v3 iW)==0)||(decide ((rd 0 v3 iW)>512)))||(!v4))=true then (some (.inl 80)) else (if 0≤iW∧iW<a0.ay.length then (if (true&&(((rd ah a0.ay iW).aC==4)==true))=true→(0≤iW∧iW<a0.ay.length) then ((if (true&&(((rd ah a0.ay iW).aC==4)==true))=true then bZ.f k (rd ah a0.ay iW) v3 else some false).bind fun v5=>(if (((rd ah a0.ay iW).aC==4)&&(!v5))=true then (some (.inl 80)) else (aO.l2 k a0 v3 m (IntKind.wrap .i64 (iW+1))))) else none) else none))) else none) else none) else (some (.inr ()))
def aO.f (k:Nat) (a0:aU):Option (Int):=if (decide ((a0.ay.length:Int)>200))=true then (some 80) else ((aO.l0 k a0 k 0).bind fun xx1=>(match xx1 with| .inl r=>some r| .inr s2=>(aT.f k a0).bind fun v3=>((aO.l2 k a0 v3 k 0).bind fun xx3=>(match xx3 with| .inl r=>some r| .inr s3=>some 0))))
set_option maxRecDepth 20000 in
set_option maxHeartbeats 4000000 in
theorem aO.calls (k:Nat) (a0:aU) (bU:Option Addr) (bV:Nat) {h0:View} {w0:World} (hv:jL h0 w0) (fK:Rd dV h0 bU a0.ay) (iw:a0.ay.length≤bV) {r:Int} (H:aO.f k a0=some r):Calls Tryz.prog 38 #[Value.agg #[vL bU a0.ay.length bV]] w0 (fun e w1=>e= .returned (vI r)∧Ext w0 w1):=by
 unfold aO.f at H
 have HS:St [] h0 w0 h0 [] w0:=St.init hv
 go_enter Tryz.func38,Tryz.ntmps38
 refine wp_seq<|region<|dU rfl rfl (dY (cs:=#[vL bU a0.ay.length bV]) rfl rfl) ?_
 rintro w1 _ hE1 ⟨b1,rfl,ge1,hb1⟩
 have HS1:=HS.new hE1 ge1 hb1
 refine rs (vI 0) (aB rfl) ?_
 try simp only [sc0,sc1]
 refine aA<|ak<|wp_seq<|wp_seq<|region<|rs (vP b1 0) (aH (n:=1) (o':=0) rfl Tryz.runUnderlying24 rfl Tryz.sizeOf22 (by decide) rfl)<|rs (vL bU a0.ay.length bV) (aK rfl Tryz.isAgg22 (HS1.look 0 rfl) rfl)<|rs (vI (a0.ay.length:Int)) (jJ rfl Tryz.runUnderlying22)<|rs (vB (decide ((a0.ay.length:Int)>200))) (bK rfl rfl rfl) ?_
 try simp only [sc0,sc1]
 refine aA<|ak<|wp_cond_split (t:=(decide ((a0.ay.length:Int)>200))) rfl (fun c1=>?_) (fun c1=>?_)
 ·replace H:=bM H c1
  refine wp_seq<|region<|rs (vI 80) (aB rfl) ?_
  try simp only [sc0,sc1]
  refine aA<|ak<|wp_ret<|aW ?_
  obtain rfl:=Option.some.inj H
  exact bodyPost_ret (aV rfl (aX rfl)) rfl<|⟨rfl,HS1.toE⟩
 ·replace H:=bW H (nt c1)
  refine wp_skip<|ak<|wp_seq<|wp_seq<|region<|rs (vI 0) (aB rfl) ?_
  try simp only [sc0,sc1]
  refine aA<|ak ?_
  obtain ⟨xx1,H,G1⟩:=bJ H
  refine jm [2,3,4,11,12,13,14,15,16,17,18,19,20,21,22,23,24,25,26,27,28,29,30,31,32,33,34,35,36,37,38,39,40,41,42,43,44,45,46,47,48,49,50,51] (fun m us w'=>∃(aG:Int),Fit us (fun uy1=>[(uy1 0),vI aG,(uy1 2),(uy1 3),(uy1 4),(uy1 5),(uy1 6),(uy1 7),(uy1 8),(uy1 9),(uy1 10),(uy1 11),(uy1 12),(uy1 13),(uy1 14),(uy1 15),(uy1 16),(uy1 17),(uy1 18),(uy1 19),(uy1 20),(uy1 21),(uy1 22),(uy1 23),(uy1 24),(uy1 25),(uy1 26),(uy1 27),(uy1 28),(uy1 29),(uy1 30),(uy1 31),(uy1 32),(uy1 33),(uy1 34),(uy1 35),(uy1 36),(uy1 37),(uy1 38),(uy1 39),(uy1 40),(uy1 41),(uy1 42),(uy1 43)])∧aO.l0 k a0 m aG=some xx1∧St [] h0 w0 h0 [(some b1, .cells #[vL bU a0.ay.length bV] 24 (0,0))] w') (fun us w'=>∃(s2:Unit),xx1= .inr s2∧Fit us (fun uo2=>[(uo2 0),(uo2 1),(uo2 2),(uo2 3),(uo2 4),(uo2 5),(uo2 6),(uo2 7),(uo2 8),(uo2 9),(uo2 10),(uo2 11),(uo2 12),(uo2 13),(uo2 14),(uo2 15),(uo2 16),(uo2 17),(uo2 18),(uo2 19),(uo2 20),(uo2 21),(uo2 22),(uo2 23),(uo2 24),(uo2 25),(uo2 26),(uo2 27),(uo2 28),(uo2 29),(uo2 30),(uo2 31),(uo2 32),(uo2 33),(uo2 34),(uo2 35),(uo2 36),(uo2 37),(uo2 38),(uo2 39),(uo2 40),(uo2 41),(uo2 42),(uo2 43)])∧St [] h0 w0 h0 [(some b1, .cells #[vL bU a0.ay.length bV] 24 (0,0))] w') k ⟨0,(fit rfl),H,HS1⟩ ?_ ?_
  ·rintro m us w2 ⟨aG,ng,H,HS2⟩
   obtain ⟨uy1,rfl⟩:=unj ng
   cases m with
   |zero=>exact absurd H (by simp [aO.l0])
   |succ m=>
    rw [aO.l0] at H
    try simp only [patch,sc0,sc1]
    refine wp_seq<|wp_seq<|region<|rs (vI aG) (aJ rfl)<|rs (vP b1 0) (aH (n:=1) (o':=0) rfl Tryz.runUnderlying24 rfl Tryz.sizeOf22 (by decide) rfl)<|rs (vL bU a0.ay.length bV) (aK rfl Tryz.isAgg22 (HS2.look 0 rfl) rfl)<|rs (vI (a0.ay.length:Int)) (jJ rfl Tryz.runUnderlying22)<|aI (by simp only [sc0,sc1];rfl) ?_
    refine rs (vB (decide (aG<(a0.ay.length:Int)))) (bK rfl rfl rfl) ?_
    try simp only [sc0,sc1]
    refine aA<|ak<|wp_cond_split (t:=(decide (aG<(a0.ay.length:Int)))) rfl (fun c2=>?_) (fun c2=>?_)
    ·replace H:=bM H c2
     refine wp_skip<|ak<|wp_seq<|wp_block<|wp_seq<|wp_seq ?_
     obtain ⟨hi1,H⟩:=eG H
     obtain ⟨ad1,dG,dJ,e1,lu,jQ,iH⟩:=gy fK hi1.1 hi1.2
     obtain ⟨v1,H1,H⟩:=bJ H
     refine drawn [.eq (Value.agg #[vL bU a0.ay.length bV]), .eq (vP b1 0), .eq (vL bU a0.ay.length bV), .eq (vI aG), .eq (Value.pointer (some (Addr.add ad1 (aG.toNat*7)))), .eq (Value.agg #[vI ((rd ah a0.ay aG).aC),vS ((rd ah a0.ay aG).aQ),vI ((rd ah a0.ay aG).bG.aP),vB ((rd ah a0.ay aG).bG.aN),vI ((rd ah a0.ay aG).dM),vI ((rd ah a0.ay aG).vN),vL dG ((rd ah a0.ay aG).au).length dJ]), .eq (vB v1), .eq (vB (!v1))] [18,19,20,21,22,23,24,25] lW (by kernel_rfl) rfl (aS (aS (aS (aS (aS (aS (aS (aS iP)))))))) ⟨aY rfl (fun a' w' hE hk=>by have HSd:=HS2.step hE;exact bI (aZ (n:=1) (vs:=[vL bU a0.ay.length bV]) (show _=vP b1 0 from hk 1 rfl) Tryz.isAgg24 (HSd.look 0 rfl) Tryz.sizeOf24 rfl rfl)),aY rfl (fun a' w' hE hk=>by have HSd:=HS2.step hE;exact bI (aH (n:=1) (o':=0) (show _=vP b1 0 from hk 1 rfl) Tryz.runUnderlying24 rfl Tryz.sizeOf22 (by decide) rfl)),aY rfl (fun a' w' hE hk=>by have HSd:=HS2.step hE;exact bI (aK (show _=vP b1 0 from hk 19 rfl) Tryz.isAgg22 (HSd.look 0 rfl) rfl)),aY rfl (fun a' w' hE hk=>by have HSd:=HS2.step hE;exact bI (aJ (show _=vI aG from hk 3 rfl))),aY rfl (fun a' w' hE hk=>by have HSd:=HS2.step hE;exact bI (dP (sz:=7) (show _=vL bU a0.ay.length bV from hk 20 rfl) e1 (show _=vI aG from hk 21 rfl) hi1.1 hi1.2 Tryz.runUnderlying22 Tryz.sizeOf56)),aY rfl (fun a' w' hE hk=>by have HSd:=HS2.step hE;exact bI (ig (show _=Value.pointer (some (Addr.add ad1 (aG.toNat*7))) from hk 22 rfl) Tryz.isAgg56 (lu.sees HSd.sees) Tryz.sizeOf56)),aY rfl (fun a' w' hE hk=>by have HSd:=HS2.step hE;exact (bf Tryz.call77 rfl (OA (show _=Value.agg #[vL bU a0.ay.length bV] from hk 18 rfl) (show _=Value.agg #[vI ((rd ah a0.ay aG).aC),vS ((rd ah a0.ay aG).aQ),vI ((rd ah a0.ay aG).bG.aP),vB ((rd ah a0.ay aG).bG.aN),vI ((rd ah a0.ay aG).dM),vI ((rd ah a0.ay aG).vN),vL dG ((rd ah a0.ay aG).au).length dJ] from hk 23 rfl)) (dF.calls k a0 (rd ah a0.ay aG) bU bV dG dJ HSd.sees fK iw iH jQ H1))),aY rfl (fun a' w' hE hk=>by have HSd:=HS2.step hE;exact bI (lK (show _=vB v1 from hk 24 rfl))),trivial⟩ ?_
     intro w3 hE2
     simp only [List.zip_cons_cons,List.zip_nil_left,List.zip_nil_right,yg,sc0,sc1,List.length_cons,List.length_nil,List.drop_succ_cons,List.drop_zero,Nat.zero_add,Nat.reduceAdd]
     have HS3:=HS2.step hE2
     refine aA<|ak<|wp_cond_split (t:=(!v1)) rfl (fun c3=>?_) (fun c3=>?_)
     ·replace H:=bM H c3
      refine wp_seq<|region<|rs (vI 80) (aB rfl) ?_
      try simp only [sc0,sc1]
      refine aA<|ak<|wp_ret<|aW<|dn<|aW<|gJ<|aW ?_
      obtain rfl:=Option.some.inj H
      obtain rfl:=Option.some.inj G1
      exact bodyPost_ret (aV rfl (aX rfl)) rfl<|⟨rfl,HS3.toE⟩
     ·replace H:=bW H (nt c3)
      refine wp_skip<|ak<|wp_seq<|region<|rs (vI 0) (aB rfl) ?_
      try simp only [sc0,sc1]
      refine aA<|ak ?_
      obtain ⟨xx2,H,G2⟩:=bJ H
      refine jm [2,4,26,27,28,29,30,31,32,33,34,35,36,37,38,39,40,41,42,43,44,45,46,47,48,49,50,51] (fun m us w'=>∃(kN:Int),Fit us (fun uy2=>[(uy2 0),vI kN,(uy2 2),(uy2 3),(uy2 4),(uy2 5),(uy2 6),(uy2 7),(uy2 8),(uy2 9),(uy2 10),(uy2 11),(uy2 12),(uy2 13),(uy2 14),(uy2 15),(uy2 16),(uy2 17),(uy2 18),(uy2 19),(uy2 20),(uy2 21),(uy2 22),(uy2 23),(uy2 24),(uy2 25),(uy2 26),(uy2 27)])∧aO.l1 a0 aG m kN=some xx2∧St [] h0 w0 h0 [(some b1, .cells #[vL bU a0.ay.length bV] 24 (0,0))] w') (fun us w'=>∃(s1:Unit),xx2= .inr s1∧Fit us (fun uo1=>[(uo1 0),(uo1 1),(uo1 2),(uo1 3),(uo1 4),(uo1 5),(uo1 6),(uo1 7),(uo1 8),(uo1 9),(uo1 10),(uo1 11),(uo1 12),(uo1 13),(uo1 14),(uo1 15),(uo1 16),(uo1 17),(uo1 18),(uo1 19),(uo1 20),(uo1 21),(uo1 22),(uo1 23),(uo1 24),(uo1 25),(uo1 26),(uo1 27)])∧St [] h0 w0 h0 [(some b1, .cells #[vL bU a0.ay.length bV] 24 (0,0))] w') k ⟨0,(fit rfl),H,HS3⟩ ?_ ?_
      ·rintro m us w4 ⟨kN,WW,H,HS4⟩
       obtain ⟨uy2,rfl⟩:=unj WW
       cases m with
       |zero=>exact absurd H (by simp [aO.l1])
       |succ m=>
        rw [aO.l1] at H
        try simp only [patch,sc0,sc1]
        refine wp_seq<|wp_seq<|region<|rs (vI kN) (aJ rfl)<|rs (vI aG) (aJ rfl)<|rs (vB (decide (kN<aG))) (bK rfl rfl rfl) ?_
        try simp only [sc0,sc1]
        refine aA<|ak<|wp_cond_split (t:=(decide (kN<aG))) rfl (fun c4=>?_) (fun c4=>?_)
        ·replace H:=bM H c4
         refine wp_skip<|ak<|wp_seq<|wp_block<|wp_seq ?_
         obtain ⟨hi2,H⟩:=eG H
         obtain ⟨ad2,BD,BF,e2,xw,Dv,Dw⟩:=gy fK hi2.1 hi2.2
         obtain ⟨v2,H2,H⟩:=bJ H
         obtain ⟨hi3,H⟩:=eG H
         obtain ⟨ad3,Zl,Zm,hq1⟩:=gx3 (fun hC:(true&&(v2==true))=true=>gy fK (hi3 hC).1 (hi3 hC).2)
         obtain ⟨hi4,H⟩:=eG H
         obtain ⟨ad4,Zn,Zo,hq2⟩:=gx3 (fun hC:(true&&(v2==true))=true=>gy fK (hi4 hC).1 (hi4 hC).2)
         refine drawn [.eq (vP b1 0), .eq (vL bU a0.ay.length bV), .eq (vI aG), .eq (Value.pointer (some (Addr.add ad2 (aG.toNat*7)))), .eq (Value.agg #[vI ((rd ah a0.ay aG).aC),vS ((rd ah a0.ay aG).aQ),vI ((rd ah a0.ay aG).bG.aP),vB ((rd ah a0.ay aG).bG.aN),vI ((rd ah a0.ay aG).dM),vI ((rd ah a0.ay aG).vN),vL BD ((rd ah a0.ay aG).au).length BF]), .eq (vB v2), .eq (vB v2), .eq (gv (true&&(v2==true)) (vP b1 0)), .eq (gv (true&&(v2==true)) (vL bU a0.ay.length bV)), .eq (gv (true&&(v2==true)) (vI kN)), .eq (gv (true&&(v2==true)) (Value.pointer (some (Addr.add ad3 (kN.toNat*7))))), .eq (gv (true&&(v2==true)) (Value.pointer (some (Addr.add (Addr.add ad3 (kN.toNat*7)) 1)))), .eq (gv (true&&(v2==true)) (vS ((rd ah a0.ay kN).aQ))), .eq (gv (true&&(v2==true)) (vP b1 0)), .eq (gv (true&&(v2==true)) (vL bU a0.ay.length bV)), .eq (gv (true&&(v2==true)) (vI aG)), .eq (gv (true&&(v2==true)) (Value.pointer (some (Addr.add ad4 (aG.toNat*7))))), .eq (gv (true&&(v2==true)) (Value.pointer (some (Addr.add (Addr.add ad4 (aG.toNat*7)) 1)))), .eq (gv (true&&(v2==true)) (vS ((rd ah a0.ay aG).aQ))), .eq (gv (true&&(v2==true)) (vB (strEq ((rd ah a0.ay kN).aQ) ((rd ah a0.ay aG).aQ)))), .eq (vB (v2&&(strEq ((rd ah a0.ay kN).aQ) ((rd ah a0.ay aG).aQ))))] [31,32,33,34,35,36,37,38,39,40,41,42,43,44,45,46,47,48,49,50,51] lW (by kernel_rfl) rfl (aS (aS (aS (aS (aS (aS (aS (aS (aS (aS (aS (aS (aS (aS (aS (aS (aS (aS (aS (aS (aS iP))))))))))))))))))))) ⟨aY rfl (fun a' w' hE hk=>by have HSd:=HS4.step hE;exact bI (aH (n:=1) (o':=0) (show _=vP b1 0 from hk 1 rfl) Tryz.runUnderlying24 rfl Tryz.sizeOf22 (by decide) rfl)),aY rfl (fun a' w' hE hk=>by have HSd:=HS4.step hE;exact bI (aK (show _=vP b1 0 from hk 31 rfl) Tryz.isAgg22 (HSd.look 0 rfl) rfl)),aY rfl (fun a' w' hE hk=>by have HSd:=HS4.step hE;exact bI (aJ (show _=vI aG from hk 3 rfl))),aY rfl (fun a' w' hE hk=>by have HSd:=HS4.step hE;exact bI (dP (sz:=7) (show _=vL bU a0.ay.length bV from hk 32 rfl) e2 (show _=vI aG from hk 33 rfl) hi2.1 hi2.2 Tryz.runUnderlying22 Tryz.sizeOf56)),aY rfl (fun a' w' hE hk=>by have HSd:=HS4.step hE;exact bI (ig (show _=Value.pointer (some (Addr.add ad2 (aG.toNat*7))) from hk 34 rfl) Tryz.isAgg56 (xw.sees HSd.sees) Tryz.sizeOf56)),aY rfl (fun a' w' hE hk=>by have HSd:=HS4.step hE;exact (bf Tryz.call78 rfl (OI (show _=Value.agg #[vI ((rd ah a0.ay aG).aC),vS ((rd ah a0.ay aG).aQ),vI ((rd ah a0.ay aG).bG.aP),vB ((rd ah a0.ay aG).bG.aN),vI ((rd ah a0.ay aG).dM),vI ((rd ah a0.ay aG).vN),vL BD ((rd ah a0.ay aG).au).length BF] from hk 35 rfl)) (dW.calls (rd ah a0.ay aG) BD BF HSd.sees Dw Dv H2))),aY rfl (fun a' w' hE hk=>by have HSd:=HS4.step hE;exact bI (aJ (show _=vB v2 from hk 36 rfl))),kW (b:=v2) (c:=true) rfl rfl (by decide) (fun w' u hu=>hu) (fun a' w' hE hk hg=>by have HSd:=HS4.step hE;exact bI (aH (n:=1) (o':=0) (show _=vP b1 0 from hk 1 rfl) Tryz.runUnderlying24 rfl Tryz.sizeOf22 (by decide) rfl)),kW (b:=v2) (c:=true) rfl rfl (by decide) (fun w' u hu=>hu) (fun a' w' hE hk hg=>by have HSd:=HS4.step hE;exact bI (aK ((show _=gv (true&&(v2==true)) (vP b1 0) from (show _=gv (true&&(v2==true)) (vP b1 0) from hk 38 rfl)).trans (pU hg)) Tryz.isAgg22 (HSd.look 0 rfl) rfl)),kW (b:=v2) (c:=true) rfl rfl (by decide) (fun w' u hu=>hu) (fun a' w' hE hk hg=>by have HSd:=HS4.step hE;exact bI (aJ (show _=vI kN from hk 4 rfl))),kW (b:=v2) (c:=true) rfl rfl (by decide) (fun w' u hu=>hu) (fun a' w' hE hk hg=>by have HSd:=HS4.step hE;exact bI (dP (sz:=7) ((show _=gv (true&&(v2==true)) (vL bU a0.ay.length bV) from (show _=gv (true&&(v2==true)) (vL bU a0.ay.length bV) from hk 39 rfl)).trans (pU hg)) (hq1 hg).1 ((show _=gv (true&&(v2==true)) (vI kN) from (show _=gv (true&&(v2==true)) (vI kN) from hk 40 rfl)).trans (pU hg)) (hi3 hg).1 (hi3 hg).2 Tryz.runUnderlying22 Tryz.sizeOf56)),kW (b:=v2) (c:=true) rfl rfl (by decide) (fun w' u hu=>hu) (fun a' w' hE hk hg=>by have HSd:=HS4.step hE;exact bI (jr (n:=1) (o':=1) ((show _=gv (true&&(v2==true)) (Value.pointer (some (Addr.add ad3 (kN.toNat*7)))) from (show _=gv (true&&(v2==true)) (Value.pointer (some (Addr.add ad3 (kN.toNat*7)))) from hk 41 rfl)).trans (pU hg)) Tryz.runUnderlying56 rfl Tryz.sizeOf9 (by decide) rfl)),kW (b:=v2) (c:=true) rfl rfl (by decide) (fun w' u hu=>hu) (fun a' w' hE hk hg=>by have HSd:=HS4.step hE;exact bI (jC ((show _=gv (true&&(v2==true)) (Value.pointer (some (Addr.add (Addr.add ad3 (kN.toNat*7)) 1))) from (show _=gv (true&&(v2==true)) (Value.pointer (some (Addr.add (Addr.add ad3 (kN.toNat*7)) 1))) from hk 42 rfl)).trans (pU hg)) Tryz.isAgg9 (((hq1 hg).2.1).cell HSd.sees 1 rfl))),kW (b:=v2) (c:=true) rfl rfl (by decide) (fun w' u hu=>hu) (fun a' w' hE hk hg=>by have HSd:=HS4.step hE;exact bI (aH (n:=1) (o':=0) (show _=vP b1 0 from hk 1 rfl) Tryz.runUnderlying24 rfl Tryz.sizeOf22 (by decide) rfl)),kW (b:=v2) (c:=true) rfl rfl (by decide) (fun w' u hu=>hu) (fun a' w' hE hk hg=>by have HSd:=HS4.step hE;exact bI (aK ((show _=gv (true&&(v2==true)) (vP b1 0) from (show _=gv (true&&(v2==true)) (vP b1 0) from hk 44 rfl)).trans (pU hg)) Tryz.isAgg22 (HSd.look 0 rfl) rfl)),kW (b:=v2) (c:=true) rfl rfl (by decide) (fun w' u hu=>hu) (fun a' w' hE hk hg=>by have HSd:=HS4.step hE;exact bI (aJ (show _=vI aG from hk 3 rfl))),kW (b:=v2) (c:=true) rfl rfl (by decide) (fun w' u hu=>hu) (fun a' w' hE hk hg=>by have HSd:=HS4.step hE;exact bI (dP (sz:=7) ((show _=gv (true&&(v2==true)) (vL bU a0.ay.length bV) from (show _=gv (true&&(v2==true)) (vL bU a0.ay.length bV) from hk 45 rfl)).trans (pU hg)) (hq2 hg).1 ((show _=gv (true&&(v2==true)) (vI aG) from (show _=gv (true&&(v2==true)) (vI aG) from hk 46 rfl)).trans (pU hg)) (hi4 hg).1 (hi4 hg).2 Tryz.runUnderlying22 Tryz.sizeOf56)),kW (b:=v2) (c:=true) rfl rfl (by decide) (fun w' u hu=>hu) (fun a' w' hE hk hg=>by have HSd:=HS4.step hE;exact bI (jr (n:=1) (o':=1) ((show _=gv (true&&(v2==true)) (Value.pointer (some (Addr.add ad4 (aG.toNat*7)))) from (show _=gv (true&&(v2==true)) (Value.pointer (some (Addr.add ad4 (aG.toNat*7)))) from hk 47 rfl)).trans (pU hg)) Tryz.runUnderlying56 rfl Tryz.sizeOf9 (by decide) rfl)),kW (b:=v2) (c:=true) rfl rfl (by decide) (fun w' u hu=>hu) (fun a' w' hE hk hg=>by have HSd:=HS4.step hE;exact bI (jC ((show _=gv (true&&(v2==true)) (Value.pointer (some (Addr.add (Addr.add ad4 (aG.toNat*7)) 1))) from (show _=gv (true&&(v2==true)) (Value.pointer (some (Addr.add (Addr.add ad4 (aG.toNat*7)) 1))) from hk 48 rfl)).trans (pU hg)) Tryz.isAgg9 (((hq2 hg).2.1).cell HSd.sees 1 rfl))),kW (b:=v2) (c:=true) rfl rfl (by decide) (fun w' u hu=>hu) (fun a' w' hE hk hg=>by have HSd:=HS4.step hE;exact bI (uT ((show _=gv (true&&(v2==true)) (vS ((rd ah a0.ay kN).aQ)) from (show _=gv (true&&(v2==true)) (vS ((rd ah a0.ay kN).aQ)) from hk 43 rfl)).trans (pU hg)) ((show _=gv (true&&(v2==true)) (vS ((rd ah a0.ay aG).aQ)) from (show _=gv (true&&(v2==true)) (vS ((rd ah a0.ay aG).aQ)) from hk 49 rfl)).trans (pU hg)))),aY rfl (fun a' w' hE hk=>by have HSd:=HS4.step hE;exact bI (dA (show _=vB v2 from hk 37 rfl) (fun hp=>((show _=gv (true&&(v2==true)) (vB (strEq ((rd ah a0.ay kN).aQ) ((rd ah a0.ay aG).aQ))) from (show _=gv (true&&(v2==true)) (vB (strEq ((rd ah a0.ay kN).aQ) ((rd ah a0.ay aG).aQ))) from hk 50 rfl)).trans (pU (gu rfl hp)))) rfl)),trivial⟩ ?_
         intro w5 hE3
         simp only [List.zip_cons_cons,List.zip_nil_left,List.zip_nil_right,yg,sc0,sc1,List.length_cons,List.length_nil,List.drop_succ_cons,List.drop_zero,Nat.zero_add,Nat.reduceAdd]
         have HS5:=HS4.step hE3
         refine aA<|ak<|wp_cond_split (t:=(v2&&(strEq ((rd ah a0.ay kN).aQ) ((rd ah a0.ay aG).aQ)))) rfl (fun c5=>?_) (fun c5=>?_)
         ·replace H:=bM H c5
          refine wp_seq<|region<|rs (vI 80) (aB rfl) ?_
          try simp only [sc0,sc1]
          refine aA<|ak<|wp_ret<|dn<|aW<|gJ<|dn<|aW<|gJ<|aW ?_
          obtain rfl:=Option.some.inj H
          obtain rfl:=Option.some.inj G2
          obtain rfl:=Option.some.inj G1
          exact bodyPost_ret (aV rfl (aX rfl)) rfl<|⟨rfl,HS5.toE⟩
         ·replace H:=bW H (nt c5)
          refine wp_skip<|dI<|ak<|region<|rs (vI kN) (aJ rfl)<|rs (vI (w64 (kN+1))) (bK rfl rfl rfl)<|rs (vI (w64 (kN+1))) (aB rfl) ?_
          try simp only [sc0,sc1]
          refine aA<|gZ m (Nat.lt_succ_self m) rfl ⟨(w64 (kN+1)),(fit rfl),H,HS5⟩
        ·replace H:=bW H (nt c4)
         refine wp_exit<|eY ?_
         obtain rfl:=Option.some.inj H
         refine iG rfl ⟨_,rfl,(fit rfl),HS4⟩
      ·rintro us w6 ⟨s1,rfl,ni,HS6⟩
       obtain ⟨uo1,rfl⟩:=unj ni
       replace H:=G2
       clear G2
       try simp only [patch,sc0,sc1]
       refine dI<|ak<|region<|rs (vI aG) (aJ rfl)<|rs (vI (w64 (aG+1))) (bK rfl rfl rfl)<|rs (vI (w64 (aG+1))) (aB rfl) ?_
       try simp only [sc0,sc1]
       refine aA<|gZ m (Nat.lt_succ_self m) rfl ⟨(w64 (aG+1)),(fit rfl),H,HS6⟩
    ·replace H:=bW H (nt c2)
     refine wp_exit<|eY ?_
     obtain rfl:=Option.some.inj H
     refine iG rfl ⟨_,rfl,(fit rfl),HS2⟩
  ·rintro us w7 ⟨s2,rfl,WY,HS7⟩
   obtain ⟨uo2,rfl⟩:=unj WY
   replace H:=G1
   clear G1
   try simp only [patch,sc0,sc1]
   refine ak<|wp_seq<|region<|rs (Value.agg #[vL bU a0.ay.length bV]) (aZ (n:=1) (vs:=[vL bU a0.ay.length bV]) rfl Tryz.isAgg24 (HS7.look 0 rfl) Tryz.sizeOf24 rfl rfl) ?_
   obtain ⟨v3,H3,H⟩:=bJ H
   refine dU rfl rfl (kP Tryz.call79 rfl (nT (h:=h0) (R:=(fun hx u=>∃(gW:Option Addr) (gX:Nat),u=vL gW v3.length gX∧v3.length≤gX∧Rd (Kd.int .i64) hx gW v3)) (Ext.rfl' w7) ((aT.calls k a0 bU bV HS7.sees fK iw H3).mono ?_)) rfl) ?_
   ·rintro _ _ ⟨h1,gW,gX,rfl,nC,kZ,g,ss,x⟩
    exact ⟨h1,_,rfl,⟨gW,gX,rfl,nC,kZ⟩,g,ss,x⟩
   rintro w8 _ hE4 ⟨h1,⟨gW,gX,rfl,nC,kZ⟩,gr1,se1⟩
   have HS8:=HS7.view hE4 gr1 se1
   refine rs (vL gW v3.length gX) (aB rfl) ?_
   try simp only [sc0,sc1]
   refine aA<|ak<|wp_seq<|wp_seq<|region<|rs (vI 0) (aB rfl) ?_
   try simp only [sc0,sc1]
   refine aA<|ak ?_
   obtain ⟨xx3,H,G3⟩:=bJ H
   refine jm [2,6,54,55,56,57,58,59,60,61,62,63,64,65,66,67,68,69,70,71,72,73,74,75,76,77,78,79,80,81,82,83,84,85,86,87,88,89,90,91,92,93,94,95] (fun m us w'=>∃(iW:Int),Fit us (fun uy3=>[(uy3 0),vI iW,(uy3 2),(uy3 3),(uy3 4),(uy3 5),(uy3 6),(uy3 7),(uy3 8),(uy3 9),(uy3 10),(uy3 11),(uy3 12),(uy3 13),(uy3 14),(uy3 15),(uy3 16),(uy3 17),(uy3 18),(uy3 19),(uy3 20),(uy3 21),(uy3 22),(uy3 23),(uy3 24),(uy3 25),(uy3 26),(uy3 27),(uy3 28),(uy3 29),(uy3 30),(uy3 31),(uy3 32),(uy3 33),(uy3 34),(uy3 35),(uy3 36),(uy3 37),(uy3 38),(uy3 39),(uy3 40),(uy3 41),(uy3 42),(uy3 43)])∧aO.l2 k a0 v3 m iW=some xx3∧St [] h0 w0 h1 [(some b1, .cells #[vL bU a0.ay.length bV] 24 (0,0))] w') (fun us w'=>∃(s3:Unit),xx3= .inr s3∧Fit us (fun uo3=>[(uo3 0),(uo3 1),(uo3 2),(uo3 3),(uo3 4),(uo3 5),(uo3 6),(uo3 7),(uo3 8),(uo3 9),(uo3 10),(uo3 11),(uo3 12),(uo3 13),(uo3 14),(uo3 15),(uo3 16),(uo3 17),(uo3 18),(uo3 19),(uo3 20),(uo3 21),(uo3 22),(uo3 23),(uo3 24),(uo3 25),(uo3 26),(uo3 27),(uo3 28),(uo3 29),(uo3 30),(uo3 31),(uo3 32),(uo3 33),(uo3 34),(uo3 35),(uo3 36),(uo3 37),(uo3 38),(uo3 39),(uo3 40),(uo3 41),(uo3 42),(uo3 43)])∧St [] h0 w0 h1 [(some b1, .cells #[vL bU a0.ay.length bV] 24 (0,0))] w') k ⟨0,(fit rfl),H,HS8⟩ ?_ ?_
   ·rintro m us w9 ⟨iW,aar,H,HS9⟩
    obtain ⟨uy3,rfl⟩:=unj aar
    cases m with
    |zero=>exact absurd H (by simp [aO.l2])
    |succ m=>
     rw [aO.l2] at H
     try simp only [patch,sc0,sc1]
     refine wp_seq<|wp_seq<|region<|rs (vI iW) (aJ rfl)<|rs (vP b1 0) (aH (n:=1) (o':=0) rfl Tryz.runUnderlying24 rfl Tryz.sizeOf22 (by decide) rfl)<|rs (vL bU a0.ay.length bV) (aK rfl Tryz.isAgg22 (HS9.look 0 rfl) rfl)<|rs (vI (a0.ay.length:Int)) (jJ rfl Tryz.runUnderlying22)<|aI (by simp only [sc0,sc1];rfl) ?_
     refine rs (vB (decide (iW<(a0.ay.length:Int)))) (bK rfl rfl rfl) ?_
     try simp only [sc0,sc1]
     refine aA<|ak<|wp_cond_split (t:=(decide (iW<(a0.ay.length:Int)))) rfl (fun c6=>?_) (fun c6=>?_)
     ·replace H:=bM H c6
      refine wp_skip<|ak<|wp_seq<|wp_block<|wp_seq<|wp_seq<|region<|rs (vL gW v3.length gX) (aJ rfl)<|rs (vI iW) (aJ rfl) ?_
      obtain ⟨hi5,H⟩:=eG H
      obtain ⟨ad5,e5,aas⟩:=rF kZ hi5.1 hi5.2
      refine rs (Value.pointer (some (Addr.add ad5 (iW.toNat*1)))) (dP (sz:=1) rfl e5 rfl hi5.1 hi5.2 Tryz.runUnderlying81 Tryz.sizeOf3)<|rs (vI (rd 0 v3 iW)) (jC rfl Tryz.isAgg3 (aas.cell0 HS9.sees rfl))<|aI (by simp only [sc0,sc1];rfl) ?_
      refine rs (vB ((rd 0 v3 iW)==0)) (bK rfl rfl rfl)<|rs (vB ((rd 0 v3 iW)==0)) (aJ rfl)<|rgs ((rd 0 v3 iW)==0) true (vL gW v3.length gX) rfl rfl rfl rfl (fun hg=>(aJ rfl))<|rgs ((rd 0 v3 iW)==0) true (vI iW) rfl rfl rfl rfl (fun hg=>(aJ rfl))<|aI (by simp only [sc0,sc1];rfl) ?_
      obtain ⟨hi6,H⟩:=eG H
      obtain ⟨ad6,hq3⟩:=gx1 (fun hC:(true&&(((rd 0 v3 iW)==0)==false))=true=>rF kZ (hi6 hC).1 (hi6 hC).2)
      refine rgs ((rd 0 v3 iW)==0) true (Value.pointer (some (Addr.add ad6 (iW.toNat*1)))) rfl rfl rfl rfl (fun hg=>(dP (sz:=1) (gvt (vL gW v3.length gX) hg rfl) (hq3 hg).1 (gvt (vI iW) hg rfl) (hi6 hg).1 (hi6 hg).2 Tryz.runUnderlying81 Tryz.sizeOf3))<|rgs ((rd 0 v3 iW)==0) true (vI (rd 0 v3 iW)) rfl rfl rfl rfl (fun hg=>(jC (gvt (Value.pointer (some (Addr.add ad6 (iW.toNat*1)))) hg rfl) Tryz.isAgg3 (((hq3 hg).2).cell0 HS9.sees rfl)))<|rgs ((rd 0 v3 iW)==0) true (vB (decide ((rd 0 v3 iW)>512))) rfl rfl rfl rfl (fun hg=>(bK (gvt (vI (rd 0 v3 iW)) hg rfl) rfl rfl))<|rs (vB (((rd 0 v3 iW)==0)||(decide ((rd 0 v3 iW)>512)))) (dZ rfl rfl (fun hp=>(gvt (vB (decide ((rd 0 v3 iW)>512))) (gu rfl hp) rfl)))<|aI (by simp only [sc0,sc1];rfl) ?_
      refine rs (vB (((rd 0 v3 iW)==0)||(decide ((rd 0 v3 iW)>512)))) (aJ rfl)<|rgs (((rd 0 v3 iW)==0)||(decide ((rd 0 v3 iW)>512))) true (Value.agg #[vL bU a0.ay.length bV]) rfl rfl rfl rfl (fun hg=>(aZ (n:=1) (vs:=[vL bU a0.ay.length bV]) rfl Tryz.isAgg24 (HS9.look 0 rfl) Tryz.sizeOf24 rfl rfl))<|rgs (((rd 0 v3 iW)==0)||(decide ((rd 0 v3 iW)>512))) true (vI iW) rfl rfl rfl rfl (fun hg=>(aJ rfl)) ?_
      obtain ⟨v4,H4,H⟩:=bJ H
      refine xZ (b:=(((rd 0 v3 iW)==0)||(decide ((rd 0 v3 iW)>512)))) (c:=true) (v:=vB v4) rfl rfl rfl rfl (fun hg=>(bf Tryz.call80 rfl (OA (gvt (Value.agg #[vL bU a0.ay.length bV]) hg rfl) (gvt (vI iW) hg rfl)) (dh.calls k a0 iW bU bV HS9.sees (fK.ext HS9.sub) iw (bM H4 hg)))) ?_
      intro w10 hE5
      have ru:=HS9.step hE5
      refine aI (by simp only [sc0,sc1];rfl) ?_
      refine rgs (((rd 0 v3 iW)==0)||(decide ((rd 0 v3 iW)>512))) true (vB (!v4)) rfl rfl rfl rfl (fun hg=>(lK (gvt (vB v4) hg rfl)))<|rs (vB ((((rd 0 v3 iW)==0)||(decide ((rd 0 v3 iW)>512)))||(!v4))) (dZ rfl rfl (fun hp=>(gvt (vB (!v4)) (gu rfl hp) rfl))) ?_
      try simp only [sc0,sc1]
      refine aA<|ak<|wp_cond_split (t:=((((rd 0 v3 iW)==0)||(decide ((rd 0 v3 iW)>512)))||(!v4))) rfl (fun c7=>?_) (fun c7=>?_)
      ·replace H:=bM H c7
       refine wp_seq<|region<|rs (vI 80) (aB rfl) ?_
       try simp only [sc0,sc1]
       refine aA<|ak<|wp_ret<|aW<|dn<|aW<|gJ<|aW ?_
       obtain rfl:=Option.some.inj H
       obtain rfl:=Option.some.inj G3
       exact bodyPost_ret (aV rfl (aX rfl)) rfl<|⟨rfl,ru.toE⟩
      ·replace H:=bW H (nt c7)
       refine wp_skip<|ak<|wp_seq<|region<|rs (vP b1 0) (aH (n:=1) (o':=0) rfl Tryz.runUnderlying24 rfl Tryz.sizeOf22 (by decide) rfl)<|rs (vL bU a0.ay.length bV) (aK rfl Tryz.isAgg22 (ru.look 0 rfl) rfl)<|rs (vI iW) (aJ rfl) ?_
       obtain ⟨hi7,H⟩:=eG H
       obtain ⟨ad7,Zp,Zq,e7,aat,Yy,Yz⟩:=gy (fK.ext ru.sub) hi7.1 hi7.2
       refine rs (Value.pointer (some (Addr.add ad7 (iW.toNat*7)))) (dP (sz:=7) rfl e7 rfl hi7.1 hi7.2 Tryz.runUnderlying22 Tryz.sizeOf56)<|aI (by simp only [sc0,sc1];rfl) ?_
       refine rs (Value.pointer (some (Addr.add (Addr.add ad7 (iW.toNat*7)) 0))) (jr (n:=1) (o':=0) rfl Tryz.runUnderlying56 rfl Tryz.sizeOf3 (by decide) rfl)<|rs (vI ((rd ah a0.ay iW).aC)) (jC rfl Tryz.isAgg3 (aat.cell ru.sees 0 rfl))<|rs (vB ((rd ah a0.ay iW).aC==4)) (bK rfl rfl rfl)<|rs (vB ((rd ah a0.ay iW).aC==4)) (aJ rfl)<|aI (by simp only [sc0,sc1];rfl) ?_
       refine rgs ((rd ah a0.ay iW).aC==4) true (vP b1 0) rfl rfl rfl rfl (fun hg=>(aH (n:=1) (o':=0) rfl Tryz.runUnderlying24 rfl Tryz.sizeOf22 (by decide) rfl))<|rgs ((rd ah a0.ay iW).aC==4) true (vL bU a0.ay.length bV) rfl rfl rfl rfl (fun hg=>(aK (gvt (vP b1 0) hg rfl) Tryz.isAgg22 (ru.look 0 rfl) rfl))<|rgs ((rd ah a0.ay iW).aC==4) true (vI iW) rfl rfl rfl rfl (fun hg=>(aJ rfl)) ?_
       obtain ⟨hi8,H⟩:=eG H
       obtain ⟨ad8,NP,NQ,hq4⟩:=gx3 (fun hC:(true&&(((rd ah a0.ay iW).aC==4)==true))=true=>gy (fK.ext ru.sub) (hi8 hC).1 (hi8 hC).2)
       refine rgs ((rd ah a0.ay iW).aC==4) true (Value.pointer (some (Addr.add ad8 (iW.toNat*7)))) rfl rfl rfl rfl (fun hg=>(dP (sz:=7) (gvt (vL bU a0.ay.length bV) hg rfl) (hq4 hg).1 (gvt (vI iW) hg rfl) (hi8 hg).1 (hi8 hg).2 Tryz.runUnderlying22 Tryz.sizeOf56))<|aI (by simp only [sc0,sc1];rfl) ?_
       refine rgs ((rd ah a0.ay iW).aC==4) true (Value.agg #[vI ((rd ah a0.ay iW).aC),vS ((rd ah a0.ay iW).aQ),vI ((rd ah a0.ay iW).bG.aP),vB ((rd ah a0.ay iW).bG.aN),vI ((rd ah a0.ay iW).dM),vI ((rd ah a0.ay iW).vN),vL NP ((rd ah a0.ay iW).au).length NQ]) rfl rfl rfl rfl (fun hg=>(ig (gvt (Value.pointer (some (Addr.add ad8 (iW.toNat*7)))) hg rfl) Tryz.isAgg56 (((hq4 hg).2.1).sees ru.sees) Tryz.sizeOf56))<|rgs ((rd ah a0.ay iW).aC==4) true (vL gW v3.length gX) rfl rfl rfl rfl (fun hg=>(aJ rfl)) ?_
       obtain ⟨v5,H5,H⟩:=bJ H
       refine xZ (b:=((rd ah a0.ay iW).aC==4)) (c:=true) (v:=vB v5) rfl rfl rfl rfl (fun hg=>(bf Tryz.call81 rfl (OA (gvt (Value.agg #[vI ((rd ah a0.ay iW).aC),vS ((rd ah a0.ay iW).aQ),vI ((rd ah a0.ay iW).bG.aP),vB ((rd ah a0.ay iW).bG.aN),vI ((rd ah a0.ay iW).dM),vI ((rd ah a0.ay iW).vN),vL NP ((rd ah a0.ay iW).au).length NQ]) hg rfl) (gvt (vL gW v3.length gX) hg rfl)) (bZ.calls k (rd ah a0.ay iW) v3 NP NQ gW gX ru.sees ((hq4 hg).2.2.2) ((hq4 hg).2.2.1) kZ nC (bM H5 hg)))) ?_
       intro w11 hE6
       have qw:=ru.step hE6
       refine rgs ((rd ah a0.ay iW).aC==4) true (vB (!v5)) rfl rfl rfl rfl (fun hg=>(lK (gvt (vB v5) hg rfl)))<|aI (by simp only [sc0,sc1];rfl) ?_
       refine rs (vB (((rd ah a0.ay iW).aC==4)&&(!v5))) (dA rfl (fun hp=>(gvt (vB (!v5)) (gu rfl hp) rfl)) rfl) ?_
       try simp only [sc0,sc1]
       refine aA<|ak<|wp_cond_split (t:=(((rd ah a0.ay iW).aC==4)&&(!v5))) rfl (fun c8=>?_) (fun c8=>?_)
       ·replace H:=bM H c8
        refine wp_seq<|region<|rs (vI 80) (aB rfl) ?_
        try simp only [sc0,sc1]
        refine aA<|ak<|wp_ret<|dn<|aW<|gJ<|aW ?_
        obtain rfl:=Option.some.inj H
        obtain rfl:=Option.some.inj G3
        exact bodyPost_ret (aV rfl (aX rfl)) rfl<|⟨rfl,qw.toE⟩
       ·replace H:=bW H (nt c8)
        refine wp_skip<|dI<|ak<|region<|rs (vI iW) (aJ rfl)<|rs (vI (w64 (iW+1))) (bK rfl rfl rfl)<|rs (vI (w64 (iW+1))) (aB rfl) ?_
        try simp only [sc0,sc1]
        refine aA<|gZ m (Nat.lt_succ_self m) rfl ⟨(w64 (iW+1)),(fit rfl),H,qw⟩
     ·replace H:=bW H (nt c6)
      refine wp_exit<|eY ?_
      obtain rfl:=Option.some.inj H
      refine iG rfl ⟨_,rfl,(fit rfl),HS9⟩
   ·rintro us w12 ⟨s3,rfl,aau,uf⟩
    obtain ⟨uo3,rfl⟩:=unj aau
    replace H:=G3
    clear G3
    try simp only [patch,sc0,sc1]
    refine ak<|wp_seq<|region<|rs (vI 0) (aB rfl) ?_
    try simp only [sc0,sc1]
    refine aA<|ak<|wp_ret ?_
    obtain rfl:=Option.some.inj H
    exact bodyPost_ret (aV rfl (aX rfl)) rfl<|⟨rfl,uf.toE⟩

end Go.Proofs.YtecpbadkdpbkpaaGreatDoor
namespace Go.Proofs.YtecpbadkdpbkpaaGreatDoor
open Go.RowKit Go.M
def bQ.f (k:Nat) (a0:aU) (a1:Int):Option (Int):=(aO.f k a0).bind fun v1=>((if (true&&((v1==0)==true))=true then eu.f a0 a1 else some false).bind fun v2=>(((if ((v1==0)&&(!v2))=true then (some 3) else (some v1)):Option (Int)).bind fun xx1=>(some xx1)))
set_option maxRecDepth 20000 in
set_option maxHeartbeats 4000000 in
theorem bQ.calls (k:Nat) (a0:aU) (a1:Int) (bU:Option Addr) (bV:Nat) {h0:View} {w0:World} (hv:jL h0 w0) (fK:Rd dV h0 bU a0.ay) (iw:a0.ay.length≤bV) {r:Int} (H:bQ.f k a0 a1=some r):Calls Tryz.prog 82 #[Value.agg #[vL bU a0.ay.length bV],vI a1] w0 (fun e w1=>e= .returned (vI r)∧Ext w0 w1):=by
 unfold bQ.f at H
 have HS:St [] h0 w0 h0 [] w0:=St.init hv
 go_enter Tryz.func82,Tryz.ntmps82
 refine wp_seq<|region<|dU rfl rfl (dY (cs:=#[vL bU a0.ay.length bV]) rfl rfl) ?_
 rintro w1 _ hE1 ⟨b1,rfl,ge1,hb1⟩
 have HS1:=HS.new hE1 ge1 hb1
 refine rs (vI 0) (aB rfl) ?_
 try simp only [sc0,sc1]
 refine aA<|ak<|wp_seq<|region<|rs (Value.agg #[vL bU a0.ay.length bV]) (aZ (n:=1) (vs:=[vL bU a0.ay.length bV]) rfl Tryz.isAgg24 (HS1.look 0 rfl) Tryz.sizeOf24 rfl rfl) ?_
 obtain ⟨v1,H1,H⟩:=bJ H
 refine run_eq (v:=vI v1) rfl rfl (bf Tryz.call38 rfl rfl (aO.calls k a0 bU bV HS1.sees fK iw H1)) ?_
 intro w2 hE2
 have HS2:=HS1.step hE2
 refine rs (vI v1) (aB rfl) ?_
 try simp only [sc0,sc1]
 refine aA<|ak<|wp_seq<|wp_seq<|region<|rs (vI v1) (aJ rfl)<|rs (vB (v1==0)) (bK rfl rfl rfl)<|rs (vB (v1==0)) (aJ rfl)<|rgs (v1==0) true (Value.agg #[vL bU a0.ay.length bV]) rfl rfl rfl rfl (fun hg=>(aZ (n:=1) (vs:=[vL bU a0.ay.length bV]) rfl Tryz.isAgg24 (HS2.look 0 rfl) Tryz.sizeOf24 rfl rfl))<|aI (by simp only [sc0,sc1];rfl) ?_
 refine rgs (v1==0) true (vI a1) rfl rfl rfl rfl (fun hg=>(aJ rfl)) ?_
 obtain ⟨v2,H2,H⟩:=bJ H
 refine xZ (b:=(v1==0)) (c:=true) (v:=vB v2) rfl rfl rfl rfl (fun hg=>(bf Tryz.call125 rfl (OA (gvt (Value.agg #[vL bU a0.ay.length bV]) hg rfl) (gvt (vI a1) hg rfl)) (eu.calls a0 a1 bU bV HS2.sees fK iw (bM H2 hg)))) ?_
 intro w3 hE3
 have HS3:=HS2.step hE3
 refine rgs (v1==0) true (vB (!v2)) rfl rfl rfl rfl (fun hg=>(lK (gvt (vB v2) hg rfl)))<|rs (vB ((v1==0)&&(!v2))) (dA rfl (fun hp=>(gvt (vB (!v2)) (gu rfl hp) rfl)) rfl) ?_
 try simp only [sc0,sc1]
 refine aA<|ak ?_
 obtain ⟨xx1,H,G1⟩:=bJ H
 refine lX [5] (fun us w'=>Fit us (fun uj1=>[vI xx1])∧St [] h0 w0 h0 [(some b1, .cells #[vL bU a0.ay.length bV] 24 (0,0))] w') ?_ ?_
 ·refine wp_cond_split (t:=((v1==0)&&(!v2))) rfl (fun c1=>?_) (fun c1=>?_)
  ·replace H:=bM H c1
   refine region<|rs (vI 3) (aB rfl) ?_
   try simp only [sc0,sc1]
   refine aA ?_
   obtain rfl:=Option.some.inj H
   refine qM rfl ⟨(fit rfl),HS3⟩
  ·replace H:=bW H (nt c1)
   refine wp_skip ?_
   obtain rfl:=Option.some.inj H
   refine qM rfl ⟨(fit rfl),HS3⟩
 ·rintro us w4 ⟨Qe,HS4⟩
  obtain ⟨uj1,rfl⟩:=unj Qe
  replace H:=G1
  clear G1
  try simp only [patch,sc0,sc1]
  refine wp_seq<|region<|rs (vI xx1) (aJ rfl)<|rs (vI xx1) (aB rfl) ?_
  try simp only [sc0,sc1]
  refine aA<|ak<|wp_ret ?_
  obtain rfl:=Option.some.inj H
  exact bodyPost_ret (aV rfl (aX rfl)) rfl<|⟨rfl,HS4.toE⟩

end Go.Proofs.YtecpbadkdpbkpaaGreatDoor
