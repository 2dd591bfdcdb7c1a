/- Parts of a proof, merged by program: F128 F84 F41 R3 G2 F122 F75 F35 F11 F39 F12 F3 R4 C2 C3. The walks (each function once) and the plain laws; no condition of their own. -/
import Derived.Test.YtecpbadkdpbkpaaGreatDoorMbr6
set_option linter.unusedVariables false
set_option linter.unusedSimpArgs false
set_option maxRecDepth 20000
set_option maxHeartbeats 4000000
namespace Go.Proofs.YtecpbadkdpbkpaaGreatDoor
open Go.RowKit Go.M
def iG.f (a0:eP) (a1:Int):Option (Int):=if (a0.aS==1)=true then (if a0.aO=true then (some (IntKind.wrap .i64 (IntKind.wrap .i8 a1))) else (some (IntKind.wrap .i64 (IntKind.wrap .u8 a1)))) else (if (a0.aS==2)=true then (if a0.aO=true then (some (IntKind.wrap .i64 (IntKind.wrap .i16 a1))) else (some (IntKind.wrap .i64 (IntKind.wrap .u16 a1)))) else (if (a0.aS==4)=true then (if a0.aO=true then (some (IntKind.wrap .i64 (IntKind.wrap .i32 a1))) else (some (IntKind.wrap .i64 (IntKind.wrap .u32 a1)))) else (some a1)))
theorem iG.calls (a0:eP) (a1:Int) {h0:View} {w0:World} (hv:jf h0 w0) {r:Int} (H:iG.f a0 a1=some r):Calls Tryz.prog 128 #[Value.agg #[vI a0.aS,vB a0.aO],vI a1] w0 (fun e w1=>e= .returned (vI r)∧Ext w0 w1):=by
 unfold iG.f at H
 have HS:St [] h0 w0 h0 [] w0:=St.init hv
 go_enter Tryz.func128,Tryz.ntmps128
 refine wp_seq<|region<|dK rfl rfl (dH (cs:=#[vI a0.aS,vB a0.aO]) rfl rfl) ?_
 rintro w1 _ hE1 ⟨b1,rfl,ge1,hb1⟩
 have HS1:=HS.new hE1 ge1 hb1
 refine rs (vI 0) (aC rfl) ?_
 try simp only [sc0,sc1]
 refine aB<|aj<|wp_seq<|wp_seq<|region<|rs (vP b1 0) (aH (n:=1) (o':=0) rfl Tryz.runUnderlying29 rfl Tryz.sizeOf3 (by decide) rfl)<|rs (vI a0.aS) (aN rfl Tryz.isAgg3 (HS1.look 0 rfl) rfl) ?_
 try simp only [sc0,sc1]
 refine aB<|aj<|wp_block<|wp_seq<|region<|rs (vB (a0.aS==1)) (bK rfl rfl rfl)<|rs (vB (a0.aS==1)) (aC rfl) ?_
 try simp only [sc0,sc1]
 refine aB<|aj<|wp_cond_split (t:=(a0.aS==1)) rfl (fun c1=>?_) (fun c1=>?_)
 ·replace H:=bU H c1
  refine wp_seq<|wp_seq<|region<|rs (vP b1 1) (aH (n:=1) (o':=1) rfl Tryz.runUnderlying29 rfl Tryz.sizeOf4 (by decide) rfl)<|rs (vB a0.aO) (aN rfl Tryz.isAgg4 (HS1.look 0 rfl) rfl) ?_
  try simp only [sc0,sc1]
  refine aB<|aj<|wp_cond_split (t:=a0.aO) rfl (fun c2=>?_) (fun c2=>?_)
  ·replace H:=bU H c2
   refine wp_seq<|region<|rs (vI a1) (aK rfl)<|rs (Value.int .i8 (IntKind.wrap .i8 a1)) (jH rfl Tryz.runUnderlying2 Tryz.runUnderlying227)<|rs (vI (w64 (IntKind.wrap .i8 a1))) (jH rfl Tryz.runUnderlying227 Tryz.runUnderlying2)<|rs (vI (w64 (IntKind.wrap .i8 a1))) (aC rfl) ?_
   try simp only [sc0,sc1]
   refine aB<|aj<|wp_ret<|aX<|dn<|aX ?_
   obtain rfl:=Option.some.inj H
   exact bodyPost_ret (aW rfl (aV rfl)) rfl<|⟨rfl,HS1.toE⟩
  ·replace H:=bZ H (nt c2)
   refine wp_skip<|aj<|wp_seq<|region<|rs (vI a1) (aK rfl)<|rs (Value.int .u8 (IntKind.wrap .u8 a1)) (jH rfl Tryz.runUnderlying2 Tryz.runUnderlying5)<|rs (vI (w64 (IntKind.wrap .u8 a1))) (jH rfl Tryz.runUnderlying5 Tryz.runUnderlying2)<|rs (vI (w64 (IntKind.wrap .u8 a1))) (aC rfl) ?_
   try simp only [sc0,sc1]
   refine aB<|aj<|wp_ret<|dn<|aX ?_
   obtain rfl:=Option.some.inj H
   exact bodyPost_ret (aW rfl (aV rfl)) rfl<|⟨rfl,HS1.toE⟩
 ·replace H:=bZ H (nt c1)
  refine wp_seq<|region<|rs (vB (a0.aS==2)) (bK rfl rfl rfl)<|rs (vB (a0.aS==2)) (aC rfl) ?_
  try simp only [sc0,sc1]
  refine aB<|aj<|wp_cond_split (t:=(a0.aS==2)) rfl (fun c3=>?_) (fun c3=>?_)
  ·replace H:=bU H c3
   refine wp_seq<|wp_seq<|region<|rs (vP b1 1) (aH (n:=1) (o':=1) rfl Tryz.runUnderlying29 rfl Tryz.sizeOf4 (by decide) rfl)<|rs (vB a0.aO) (aN rfl Tryz.isAgg4 (HS1.look 0 rfl) rfl) ?_
   try simp only [sc0,sc1]
   refine aB<|aj<|wp_cond_split (t:=a0.aO) rfl (fun c4=>?_) (fun c4=>?_)
   ·replace H:=bU H c4
    refine wp_seq<|region<|rs (vI a1) (aK rfl)<|rs (Value.int .i16 (IntKind.wrap .i16 a1)) (jH rfl Tryz.runUnderlying2 Tryz.runUnderlying228)<|rs (vI (w64 (IntKind.wrap .i16 a1))) (jH rfl Tryz.runUnderlying228 Tryz.runUnderlying2)<|rs (vI (w64 (IntKind.wrap .i16 a1))) (aC rfl) ?_
    try simp only [sc0,sc1]
    refine aB<|aj<|wp_ret<|aX<|dn<|aX ?_
    obtain rfl:=Option.some.inj H
    exact bodyPost_ret (aW rfl (aV rfl)) rfl<|⟨rfl,HS1.toE⟩
   ·replace H:=bZ H (nt c4)
    refine wp_skip<|aj<|wp_seq<|region<|rs (vI a1) (aK rfl)<|rs (Value.int .u16 (IntKind.wrap .u16 a1)) (jH rfl Tryz.runUnderlying2 Tryz.runUnderlying229)<|rs (vI (w64 (IntKind.wrap .u16 a1))) (jH rfl Tryz.runUnderlying229 Tryz.runUnderlying2)<|rs (vI (w64 (IntKind.wrap .u16 a1))) (aC rfl) ?_
    try simp only [sc0,sc1]
    refine aB<|aj<|wp_ret<|dn<|aX ?_
    obtain rfl:=Option.some.inj H
    exact bodyPost_ret (aW rfl (aV rfl)) rfl<|⟨rfl,HS1.toE⟩
  ·replace H:=bZ H (nt c3)
   refine wp_seq<|region<|rs (vB (a0.aS==4)) (bK rfl rfl rfl)<|rs (vB (a0.aS==4)) (aC rfl) ?_
   try simp only [sc0,sc1]
   refine aB<|aj<|wp_cond_split (t:=(a0.aS==4)) rfl (fun c5=>?_) (fun c5=>?_)
   ·replace H:=bU H c5
    refine wp_seq<|wp_seq<|region<|rs (vP b1 1) (aH (n:=1) (o':=1) rfl Tryz.runUnderlying29 rfl Tryz.sizeOf4 (by decide) rfl)<|rs (vB a0.aO) (aN rfl Tryz.isAgg4 (HS1.look 0 rfl) rfl) ?_
    try simp only [sc0,sc1]
    refine aB<|aj<|wp_cond_split (t:=a0.aO) rfl (fun c6=>?_) (fun c6=>?_)
    ·replace H:=bU H c6
     refine wp_seq<|region<|rs (vI a1) (aK rfl)<|rs (Value.int .i32 (IntKind.wrap .i32 a1)) (jH rfl Tryz.runUnderlying2 Tryz.runUnderlying21)<|rs (vI (w64 (IntKind.wrap .i32 a1))) (jH rfl Tryz.runUnderlying21 Tryz.runUnderlying2)<|rs (vI (w64 (IntKind.wrap .i32 a1))) (aC rfl) ?_
     try simp only [sc0,sc1]
     refine aB<|aj<|wp_ret<|aX<|dn<|aX ?_
     obtain rfl:=Option.some.inj H
     exact bodyPost_ret (aW rfl (aV rfl)) rfl<|⟨rfl,HS1.toE⟩
    ·replace H:=bZ H (nt c6)
     refine wp_skip<|aj<|wp_seq<|region<|rs (vI a1) (aK rfl)<|rs (Value.int .u32 (IntKind.wrap .u32 a1)) (jH rfl Tryz.runUnderlying2 Tryz.runUnderlying230)<|rs (vI (w64 (IntKind.wrap .u32 a1))) (jH rfl Tryz.runUnderlying230 Tryz.runUnderlying2)<|rs (vI (w64 (IntKind.wrap .u32 a1))) (aC rfl) ?_
     try simp only [sc0,sc1]
     refine aB<|aj<|wp_ret<|dn<|aX ?_
     obtain rfl:=Option.some.inj H
     exact bodyPost_ret (aW rfl (aV rfl)) rfl<|⟨rfl,HS1.toE⟩
   ·replace H:=bZ H (nt c5)
    refine wp_skip<|dB<|aj<|wp_seq<|region<|rs (vI a1) (aK rfl)<|rs (vI a1) (aC rfl) ?_
    try simp only [sc0,sc1]
    refine aB<|aj<|wp_ret ?_
    obtain rfl:=Option.some.inj H
    exact bodyPost_ret (aW rfl (aV rfl)) rfl<|⟨rfl,HS1.toE⟩
def dA.l0 (a1:List Int):Nat→Int→Int→Option (Int)
 |0,_,_=>none
 |m+1,aG,bH=>if (decide (bH≥0))=true then (if 0≤bH∧bH<a1.length then (dA.l0 a1 m (IntKind.wrap .i64 ((IntKind.wrap .i64 (256*aG))+(IntKind.wrap .i64 (rd 0 a1 bH)))) (IntKind.wrap .i64 (bH-1))) else none) else (some aG)
def dA.f (k:Nat) (a0:eP) (a1:List Int):Option (Int×Int):=(jq.f a0).bind fun v1=>(if (v1 !=0)=true then (some (0,v1)) else (if ((a1.length:Int) !=a0.aS)=true then (some (0,1)) else ((dA.l0 a1 k 0 (IntKind.wrap .i64 ((a1.length:Int)-1))).bind fun xx1=>((iG.f a0 xx1).bind fun v2=>(some (v2,0))))))
theorem dA.calls (k:Nat) (a0:eP) (a1:List Int) (lu:Option Addr) (lC:Nat) {h0:View} {w0:World} (hv:jf h0 w0) (qx:Rd (Kd.int .u8) h0 lu a1) (wY:a1.length≤lC) {r:Int×Int} (H:dA.f k a0 a1=some r):Calls Tryz.prog 84 #[Value.agg #[vI a0.aS,vB a0.aO],vL lu a1.length lC] w0 (fun e w1=>e= .returned (Value.tuple #[vI r.1,vI r.2])∧Ext w0 w1):=by
 unfold dA.f at H
 have HS:St [] h0 w0 h0 [] w0:=St.init hv
 go_enter Tryz.func84,Tryz.ntmps84
 refine wp_seq<|region<|dK rfl rfl (dH (cs:=#[vI a0.aS,vB a0.aO]) rfl rfl) ?_
 rintro w1 _ hE1 ⟨b1,rfl,ge1,hb1⟩
 have HS1:=HS.new hE1 ge1 hb1
 refine rs (vI 0) (aC rfl)<|rs (vI 0) (aC rfl) ?_
 try simp only [sc0,sc1]
 refine aB<|aj<|wp_seq<|wp_seq<|region<|rs (Value.agg #[vI a0.aS,vB a0.aO]) (aY (n:=2) (vs:=[vI a0.aS,vB a0.aO]) rfl Tryz.isAgg29 (HS1.look 0 rfl) Tryz.sizeOf29 rfl rfl) ?_
 obtain ⟨v1,H1,H⟩:=bJ H
 refine run_eq (v:=vI v1) rfl rfl (bC Tryz.call64 rfl rfl (jq.calls a0 HS1.sees H1)) ?_
 intro w2 hE2
 have HS2:=HS1.step hE2
 refine rs (vI v1) (aC rfl) ?_
 try simp only [sc0,sc1]
 refine aB<|aj<|wp_seq<|region<|rs (vI v1) (aK rfl)<|rs (vB (v1 !=0)) (bK rfl rfl rfl) ?_
 try simp only [sc0,sc1]
 refine aB<|aj<|wp_cond_split (t:=(v1 !=0)) rfl (fun c1=>?_) (fun c1=>?_)
 ·replace H:=bU H c1
  refine wp_seq<|region<|rs (vI v1) (aK rfl)<|rs (vI 0) (aC rfl)<|rs (vI v1) (aC rfl) ?_
  try simp only [sc0,sc1]
  refine aB<|aj<|wp_ret<|aX ?_
  obtain rfl:=Option.some.inj H
  exact bodyPost_ret (fO rfl (aV rfl) (aV rfl)) rfl<|⟨rfl,HS2.toE⟩
 ·replace H:=bZ H (nt c1)
  refine wp_skip<|aj<|wp_seq<|wp_seq<|region<|rs (vL lu a1.length lC) (aK rfl)<|rs (vI (a1.length:Int)) (iT rfl Tryz.runUnderlying42)<|rs (vP b1 0) (aH (n:=1) (o':=0) rfl Tryz.runUnderlying29 rfl Tryz.sizeOf3 (by decide) rfl)<|rs (vI a0.aS) (aN rfl Tryz.isAgg3 (HS2.look 0 rfl) rfl)<|aI (by simp only [sc0,sc1];rfl) ?_
  refine rs (vB ((a1.length:Int) !=a0.aS)) (bK rfl rfl rfl) ?_
  try simp only [sc0,sc1]
  refine aB<|aj<|wp_cond_split (t:=((a1.length:Int) !=a0.aS)) rfl (fun c2=>?_) (fun c2=>?_)
  ·replace H:=bU H c2
   refine wp_seq<|region<|rs (vI 0) (aC rfl)<|rs (vI 1) (aC rfl) ?_
   try simp only [sc0,sc1]
   refine aB<|aj<|wp_ret<|aX ?_
   obtain rfl:=Option.some.inj H
   exact bodyPost_ret (fO rfl (aV rfl) (aV rfl)) rfl<|⟨rfl,HS2.toE⟩
  ·replace H:=bZ H (nt c2)
   refine wp_skip<|aj<|wp_seq<|region<|rs (vI 0) (aC rfl) ?_
   try simp only [sc0,sc1]
   refine aB<|aj<|wp_seq<|wp_seq<|region<|rs (vL lu a1.length lC) (aK rfl)<|rs (vI (a1.length:Int)) (iT rfl Tryz.runUnderlying42)<|rs (vI (w64 ((a1.length:Int)-1))) (bK rfl rfl rfl)<|rs (vI (w64 ((a1.length:Int)-1))) (aC rfl) ?_
   try simp only [sc0,sc1]
   refine aB<|aj ?_
   obtain ⟨xx1,H,G1⟩:=bJ H
   refine iW [7,8,22,23,24,25,26,27,28,29,30,31,32,33] (fun m us w'=>∃aG bH:Int,Fit us (fun uy1=>[vI aG,vI bH,(uy1 2),(uy1 3),(uy1 4),(uy1 5),(uy1 6),(uy1 7),(uy1 8),(uy1 9),(uy1 10),(uy1 11),(uy1 12),(uy1 13)])∧dA.l0 a1 m aG bH=some xx1∧St [] h0 w0 h0 [(some b1, .cells #[vI a0.aS,vB a0.aO] 29 (0,0))] w') (fun us w'=>Fit us (fun uo1=>[vI xx1,(uo1 1),(uo1 2),(uo1 3),(uo1 4),(uo1 5),(uo1 6),(uo1 7),(uo1 8),(uo1 9),(uo1 10),(uo1 11),(uo1 12),(uo1 13)])∧St [] h0 w0 h0 [(some b1, .cells #[vI a0.aS,vB a0.aO] 29 (0,0))] w') k ⟨0,(w64 ((a1.length:Int)-1)),(fit rfl),H,HS2⟩ ?_ ?_
   ·rintro m us w3 ⟨aG,bH,lZ,H,HS3⟩
    obtain ⟨uy1,rfl⟩:=unj lZ
    cases m with
    |zero=>exact absurd H (by simp [dA.l0])
    |succ m=>
     rw [dA.l0] at H
     try simp only [patch,sc0,sc1]
     refine wp_seq<|wp_seq<|region<|rs (vI bH) (aK rfl)<|rs (vB (decide (bH≥0))) (bK rfl rfl rfl) ?_
     try simp only [sc0,sc1]
     refine aB<|aj<|wp_cond_split (t:=(decide (bH≥0))) rfl (fun c3=>?_) (fun c3=>?_)
     ·replace H:=bU H c3
      refine wp_skip<|aj<|wp_seq<|wp_block<|region<|rs (vI aG) (aK rfl)<|rs (vI (w64 (256*aG))) (bK rfl rfl rfl)<|rs (vL lu a1.length lC) (aK rfl)<|rs (vI bH) (aK rfl)<|aI (by simp only [sc0,sc1];rfl) ?_
      obtain ⟨hi1,H⟩:=fE H
      obtain ⟨ad1,e1,kX⟩:=oU qx hi1.1 hi1.2
      refine rs (Value.pointer (some (Addr.add ad1 (bH.toNat*1)))) (dQ (sz:=1) rfl e1 rfl hi1.1 hi1.2 Tryz.runUnderlying42 Tryz.sizeOf5)<|rs (Value.int .u8 (rd 0 a1 bH)) (jF rfl Tryz.isAgg5 (kX.cell0 HS3.sees rfl))<|rs (vI (w64 (rd 0 a1 bH))) (jH rfl Tryz.runUnderlying5 Tryz.runUnderlying2)<|rs (vI (w64 ((w64 (256*aG))+(w64 (rd 0 a1 bH))))) (bK rfl rfl rfl)<|aI (by simp only [sc0,sc1];rfl) ?_
      refine rs (vI (w64 ((w64 (256*aG))+(w64 (rd 0 a1 bH))))) (aC rfl) ?_
      try simp only [sc0,sc1]
      refine aB<|dB<|aj<|region<|rs (vI bH) (aK rfl)<|rs (vI (w64 (bH-1))) (bK rfl rfl rfl)<|rs (vI (w64 (bH-1))) (aC rfl) ?_
      try simp only [sc0,sc1]
      refine aB<|gX m (Nat.lt_succ_self m) rfl ⟨(w64 ((w64 (256*aG))+(w64 (rd 0 a1 bH)))),(w64 (bH-1)),(fit rfl),H,HS3⟩
     ·replace H:=bZ H (nt c3)
      refine wp_exit<|fF ?_
      obtain rfl:=Option.some.inj H
      refine iw rfl ⟨(fit rfl),HS3⟩
   ·rintro us w4 ⟨l7,HS4⟩
    obtain ⟨uo1,rfl⟩:=unj l7
    replace H:=G1
    clear G1
    try simp only [patch,sc0,sc1]
    refine aj<|wp_seq<|region<|rs (Value.agg #[vI a0.aS,vB a0.aO]) (aY (n:=2) (vs:=[vI a0.aS,vB a0.aO]) rfl Tryz.isAgg29 (HS4.look 0 rfl) Tryz.sizeOf29 rfl rfl)<|rs (vI xx1) (aK rfl) ?_
    obtain ⟨v2,H2,H⟩:=bJ H
    refine run_eq (v:=vI v2) rfl rfl (bC Tryz.call128 rfl rfl (iG.calls a0 xx1 HS4.sees H2)) ?_
    intro w5 hE3
    have HS5:=HS4.step hE3
    refine rs (vI v2) (aC rfl)<|aI (by simp only [sc0,sc1];rfl) ?_
    refine rs (vI 0) (aC rfl) ?_
    try simp only [sc0,sc1]
    refine aB<|aj<|wp_ret ?_
    obtain rfl:=Option.some.inj H
    exact bodyPost_ret (fO rfl (aV rfl) (aV rfl)) rfl<|⟨rfl,HS5.toE⟩
def iH.f (k:Nat) (a0:dX) (a1:Int) (a2:eP):Option (dZ):=(eG.f k a0 a1 a2.aS).bind fun v1=>(if (!v1.2)=true then (some (⟨0,false,0⟩:dZ)) else ((dA.f k a2 v1.1).bind fun v2=>(some (⟨v2.1,true,0⟩:dZ))))
theorem iH.calls (k:Nat) (a0:dX) (a1:Int) (a2:eP) (bQ:Option Addr) (bT:Nat) {h0:View} {w0:World} (hv:jf h0 w0) (fB:Rd gJ h0 bQ a0.aQ) (gI:a0.aQ.length≤bT) {r:dZ} (H:iH.f k a0 a1 a2=some r):Calls Tryz.prog 41 #[Value.agg #[vL bQ a0.aQ.length bT],vI a1,Value.agg #[vI a2.aS,vB a2.aO]] w0 (fun e w1=>e= .returned (Value.agg #[vI r.vV,vB r.vIs,vI r.vE])∧Ext w0 w1):=by
 unfold iH.f at H
 have HS:St [] h0 w0 h0 [] w0:=St.init hv
 go_enter Tryz.func41,Tryz.ntmps41
 refine wp_seq<|region<|dK rfl rfl (dH (cs:=#[vL bQ a0.aQ.length bT]) rfl rfl) ?_
 rintro w1 _ hE1 ⟨b1,rfl,ge1,hb1⟩
 have HS1:=HS.new hE1 ge1 hb1
 refine dK rfl rfl (dH (cs:=#[vI a2.aS,vB a2.aO]) rfl rfl) ?_
 rintro w2 _ hE2 ⟨b2,rfl,ge2,hb2⟩
 have HS2:=HS1.new hE2 ge2 hb2
 refine dK rfl rfl (fA (cs:=#[vI 0,vB false,vI 0]) Tryz.zeroValue38 rfl) ?_
 rintro w3 _ hE3 ⟨b3,rfl,ge3,hb3⟩
 have HS3:=HS2.new hE3 ge3 hb3
 try simp only [sc0,sc1]
 refine aB<|aj<|wp_seq<|region<|rs (Value.agg #[vL bQ a0.aQ.length bT]) (aY (n:=1) (vs:=[vL bQ a0.aQ.length bT]) rfl Tryz.isAgg27 (HS3.look 2 rfl) Tryz.sizeOf27 rfl rfl)<|rs (vI a1) (aK rfl)<|rs (vP b2 0) (aH (n:=1) (o':=0) rfl Tryz.runUnderlying29 rfl Tryz.sizeOf3 (by decide) rfl)<|rs (vI a2.aS) (aN rfl Tryz.isAgg3 (HS3.look 1 rfl) rfl)<|aI (by simp only [sc0,sc1];rfl) ?_
 obtain ⟨v1,H1,H⟩:=bJ H
 refine dK rfl rfl (lT Tryz.call30 rfl (qB (h:=h0) (R:=(fun hx u=>∃(iO:Option Addr) (iU:Nat),u=Value.tuple #[vL iO v1.1.length iU,vB v1.2]∧v1.1.length≤iU∧Rd (Kd.int .u8) hx iO v1.1)) (Ext.rfl' w3) ((eG.calls k a0 a1 a2.aS bQ bT HS3.sees fB gI H1).mono ?_)) rfl) ?_
 ·rintro _ _ ⟨h1,iO,iU,rfl,nN,jL,g,ss,x⟩
  exact ⟨h1,_,rfl,⟨iO,iU,rfl,nN,jL⟩,g,ss,x⟩
 rintro w4 _ hE4 ⟨h1,⟨iO,iU,rfl,nN,jL⟩,gr1,se1⟩
 have HS4:=HS3.view hE4 gr1 se1
 refine rs (Value.tuple #[vL iO v1.1.length iU,vB v1.2]) (aK rfl)<|rs (vL iO v1.1.length iU) (eU rfl rfl)<|rs (vB v1.2) (eU rfl rfl)<|aI (by simp only [sc0,sc1];rfl) ?_
 refine rs (vL iO v1.1.length iU) (aC rfl)<|rs (vB v1.2) (aC rfl) ?_
 try simp only [sc0,sc1]
 refine aB<|aj<|wp_seq<|wp_seq<|region<|rs (vB v1.2) (aK rfl)<|rs (vB (!v1.2)) (kN rfl) ?_
 try simp only [sc0,sc1]
 refine aB<|aj<|wp_cond_split (t:=(!v1.2)) rfl (fun c1=>?_) (fun c1=>?_)
 ·replace H:=bU H c1
  refine wp_seq<|region<|rs (Value.agg #[vI 0,vB false,vI 0]) (oW (cs:=[vI 0,vB false,vI 0]) Tryz.zeroValue38 Tryz.runUnderlying38 (pl:=#[(0,1),(1,1),(2,1)]) (fun w=>by simp [Tryz.sizeOf2,Tryz.sizeOf34,Tryz.sizeOf4]) rfl) ?_
  refine gq (i:=0) (cs:=[vI 0,vB false,vI 0]) (cs':=[vI 0,vB false,vI 0]) (vs:=[vI 0,vB false,vI 0]) (bs':=[(some b3, .cells #[vI 0,vB false,vI 0] 38 (0,0)),(some b2, .cells #[vI a2.aS,vB a2.aO] 29 (0,0)),(some b1, .cells #[vL bQ a0.aQ.length bT] 27 (0,0))]) rfl rfl Tryz.sizeOf38 rfl rfl (by decide) rfl HS4 rfl (Nat.le_of_ble_eq_true rfl) rfl rfl ?_
  intro w5 HS5
  try simp only [sc0,sc1]
  refine aB<|aj<|wp_ret<|aX ?_
  obtain rfl:=Option.some.inj H
  exact bodyPost_ret (aW rfl (iP rfl Tryz.isAgg38 (HS5.look 0 rfl) Tryz.sizeOf38 rfl)) rfl<|⟨rfl,HS5.toE⟩
 ·replace H:=bZ H (nt c1)
  refine wp_skip<|aj<|wp_seq<|region<|rs (Value.agg #[vI a2.aS,vB a2.aO]) (aY (n:=2) (vs:=[vI a2.aS,vB a2.aO]) rfl Tryz.isAgg29 (HS4.look 1 rfl) Tryz.sizeOf29 rfl rfl)<|rs (vL iO v1.1.length iU) (aK rfl) ?_
  obtain ⟨v2,H2,H⟩:=bJ H
  refine run_eq (v:=Value.tuple #[vI v2.1,vI v2.2]) rfl rfl (bC Tryz.call84 rfl rfl (dA.calls k a2 v1.1 iO iU HS4.sees jL nN H2)) ?_
  intro w6 hE5
  have HS6:=HS4.step hE5
  refine rs (Value.tuple #[vI v2.1,vI v2.2]) (aK rfl)<|aI (by simp only [sc0,sc1];rfl) ?_
  refine rs (vI v2.1) (eU rfl rfl)<|rs (vI v2.2) (eU rfl rfl)<|rs (vI v2.1) (aC rfl)<|rs (vI v2.2) (aC rfl) ?_
  try simp only [sc0,sc1]
  refine aB<|aj<|wp_seq<|region<|rs (vI v2.1) (aK rfl)<|rs (Value.agg #[vI v2.1,vB true,vI 0]) (iF (cs:=[vI v2.1,vB true,vI 0]) (ps:=[(0,vI v2.1),(1,vB true)]) Tryz.zeroValue38 Tryz.runUnderlying38 (pl:=#[(0,1),(1,1),(2,1)]) (fun w=>by simp [Tryz.sizeOf2,Tryz.sizeOf34,Tryz.sizeOf4]) (nT (show _=vI v2.1 from rfl) (show _=vB true from rfl)) rfl) ?_
  refine gq (i:=0) (cs:=[vI 0,vB false,vI 0]) (cs':=[vI v2.1,vB true,vI 0]) (vs:=[vI v2.1,vB true,vI 0]) (bs':=[(some b3, .cells #[vI v2.1,vB true,vI 0] 38 (0,0)),(some b2, .cells #[vI a2.aS,vB a2.aO] 29 (0,0)),(some b1, .cells #[vL bQ a0.aQ.length bT] 27 (0,0))]) rfl rfl Tryz.sizeOf38 rfl rfl (by decide) rfl HS6 rfl (Nat.le_of_ble_eq_true rfl) rfl rfl ?_
  intro w7 HS7
  try simp only [sc0,sc1]
  refine aB<|aj<|wp_ret ?_
  obtain rfl:=Option.some.inj H
  exact bodyPost_ret (aW rfl (iP rfl Tryz.isAgg38 (HS7.look 0 rfl) Tryz.sizeOf38 rfl)) rfl<|⟨rfl,HS7.toE⟩
def Byt (xs:List Int):Prop:=∀b∈xs,0≤b∧b≤255
def zV:List Int→Int
 |[]=>0
 |b::r=>b+256*zV r
theorem OM:∀{xs:List Int},Byt xs→0≤zV xs∧zV xs<256^xs.length
  |[],_=>by simp [zV]
  | b :: r, h => by
    have h1:=h b List.mem_cons_self
    have h2:=OM (xs:=r) (fun c hc=>h c (List.mem_cons_of_mem _ hc))
    rw [zV,List.length_cons,Int.pow_succ]
    omega
theorem EY:∀(xs:List Int) (b:Int),zV (xs++[b])=zV xs+b*256^xs.length
  |[],b=>by simp [zV]
  | c :: r, b => by
    rw [List.cons_append,zV,zV,EY r b,List.length_cons,Int.pow_succ]
    rw [Int.mul_add,←Int.mul_assoc,Int.mul_comm 256 b,Int.mul_assoc b 256,Int.mul_comm 256 (256^r.length)]
    omega
theorem Qz {x y:Int} (h:x%18446744073709551616=y%18446744073709551616):IntKind.wrap .i64 x=IntKind.wrap .i64 y:=by rw [UQ,UQ,h]
theorem IG (x:Int):IntKind.wrap .i64 x%18446744073709551616=x%18446744073709551616:=by
 rw [UQ];split<;>omega
theorem JX {xs:List Int} (hb:Byt xs) (h8:xs.length≤8):∀(i m:Nat) (y:Int),i≤xs.length→i<m→y=IntKind.wrap .i64 (zV (xs.drop i))→
    dA.l0 xs m y ((i:Int)-1)=some (IntKind.wrap .i64 (zV xs)):=by
  intro i
  induction i with
  | zero =>
    intro m y _ hm hy
    obtain ⟨m,rfl⟩:∃q,m=q+1:=⟨m-1,by omega⟩
    rw [dA.l0,if_neg (by simp),hy]
    rfl
  | succ i ih =>
    intro m y hi hm hy
    obtain ⟨m,rfl⟩:∃q,m=q+1:=⟨m-1,by omega⟩
    rw [show ((i+1:Nat):Int)-1=(i:Int) by omega,dA.l0,if_pos (by simp),if_pos (by omega),gG,jC (x:=(i:Int)-1) (by omega) (by omega)]
    refine ih m _ (by omega) (by omega) ?_
    have hd:xs.drop i=xs.getD i 0::xs.drop (i+1):=by rw [←gG];exact Qx 0 xs i (by omega)
    have hbi:=hb _ (getD_mem (z:=0) (j:=i) (xs:=xs) (by omega))
    rw [hd,zV,jC (x:=xs.getD i 0) (by omega) (by omega)]
    refine Qz ?_
    have h1:=IG (256*y)
    have h2:=IG (zV (xs.drop (i+1)))
    rw [←hy] at h2
    omega
theorem WW {x z:Int} {e:Nat} (hx:0≤x∧x<2^e) (hz:0≤z) (hs:z*2^e+x<18446744073709551616):iOr .u64 x (z*2^e)=x+z*2^e:=by
 obtain ⟨a,rfl⟩:∃a:Nat,x=(a:Int):=⟨x.toNat,by omega⟩
 obtain ⟨b,rfl⟩:∃b:Nat,z=(b:Int):=⟨z.toNat,by omega⟩
 have ha:a<2^e:=by have:=hx.2;exact_mod_cast this
 have hs':b*2^e+a<18446744073709551616:=by
  have h:((b*2^e+a:Nat):Int)<18446744073709551616:=by
   rw [Int.natCast_add,Int.natCast_mul,Int.natCast_pow];exact hs
  omega
 have e1:((b:Int)*2^e)=((b*2^e:Nat):Int):=by rw [Int.natCast_mul,Int.natCast_pow];rfl
 unfold iOr
 rw [e1]
 have h1:(BitVec.ofInt 64 (a:Int)|||BitVec.ofInt 64 ((b*2^e:Nat):Int)).toNat=a+b*2^e:=by
  rw [BitVec.toNat_or,BitVec.toNat_ofInt,BitVec.toNat_ofInt]
  have p:(2:Nat)^64=18446744073709551616:=by decide
  have q1:((a:Int)%((2^64:Nat):Int)).toNat=a:=by rw [p];omega
  have q2:(((b*2^e:Nat):Int)%((2^64:Nat):Int)).toNat=b*2^e:=by rw [p];omega
  rw [q1,q2,Nat.or_comm,Nat.mul_comm b,←Nat.two_pow_add_eq_or_of_lt ha,Nat.add_comm]
 show IntKind.wrap .u64 ((BitVec.ofInt 64 (a:Int)|||BitVec.ofInt 64 ((b*2^e:Nat):Int)).toNat:Int)=_
 rw [h1,wu64]
 omega
theorem RN (i:Nat):(256:Int)^i=2^(8*i):=by rw [Int.pow_mul];rfl
theorem UD {xs:List Int} (hb:Byt xs) {b:Int} (hb1:0≤b∧b≤255) (h8:xs.length<8):iOr .u64 (zV xs) (OX .u64 (IntKind.wrap .u64 b) (IntKind.wrap .i64 (8*(xs.length:Int))))=zV (xs++[b]):=by
 have hv:=OM hb
 rw [RN] at hv
 rw [jC (x:=8*(xs.length:Int)) (by omega) (by omega),wu64,EY,RN]
 have hm:min (8*(xs.length:Int)).toNat IntKind.u64.bits=8*xs.length:=by
  have:IntKind.u64.bits=64:=rfl
  omega
 unfold OX
 rw [hm,Int.emod_eq_of_lt (by omega) (by omega)]
 have hle:(2:Int)^(8*xs.length)≤2^56:=by
  have:(2:Nat)^(8*xs.length)≤2^56:=Nat.pow_le_pow_right (by decide) (by omega)
  exact_mod_cast this
 have hpos:(0:Int)<2^(8*xs.length):=by
  have:0<(2:Nat)^(8*xs.length):=Nat.pow_pos (by decide)
  exact_mod_cast this
 have h56:(2:Int)^56=72057594037927936:=by decide
 have hbm:b*2^(8*xs.length)≤255*2^(8*xs.length):=Int.mul_le_mul_of_nonneg_right hb1.2 (by omega)
 have hb0:0≤b*2^(8*xs.length):=Int.mul_nonneg hb1.1 (by omega)
 rw [wu64,Int.emod_eq_of_lt hb0 (by omega)]
 exact WW hv hb1.1 (by omega)
theorem JY {xs:List Int} (hb:Byt xs) (h8:xs.length≤8):∀(d i m:Nat),i+d=xs.length→d<m→fU.l0 xs m (zV (xs.take i)) (i:Int)=some (zV xs):=by
  intro d
  induction d with
  | zero =>
    intro i m hi hm
    obtain ⟨m,rfl⟩:∃q,m=q+1:=⟨m-1,by omega⟩
    rw [fU.l0,if_neg (by simp;omega),List.take_of_length_le (by omega)]
  | succ d ih =>
    intro i m hi hm
    obtain ⟨m,rfl⟩:∃q,m=q+1:=⟨m-1,by omega⟩
    have hl:(xs.take i).length=i:=by rw [List.length_take];omega
    have hbt:Byt (xs.take i):=fun b h=>hb b (List.mem_of_mem_take h)
    have hbi:=hb _ (getD_mem (z:=0) (j:=i) (xs:=xs) (by omega))
    have key:=UD hbt hbi (by omega)
    rw [hl] at key
    rw [fU.l0,if_pos (by simp;omega),if_pos (by omega),if_pos (by rw [jC (by omega) (by omega)];omega),gG,key,fP (n:=300) (by omega) (by omega)]
    have ht:xs.take i++[xs.getD i 0]=xs.take (i+1):=by
      rw [List.take_add_one,List.getElem?_eq_getElem (by omega),List.getD_eq_getElem?_getD,List.getElem?_eq_getElem (by omega)]
      rfl
    rw [ht]
    exact ih (i+1) m (by omega) (by omega)
theorem JZ {t:eP} {v:Int} {n:Nat} (hn:t.aS=(n:Int)) (h:n=1∨n=2∨n=4∨n=8) (hv:In64 v):iG.f t v=some (wrp t v):=by
 unfold iG.f wrp
 rcases h with rfl|rfl|rfl|rfl
 ·simp [hn]
  split<;>rfl
 ·simp [hn]
  split<;>rfl
 ·simp [hn]
  split<;>rfl
 ·simp [hn]
  intro _
  rw [ZT hv]
theorem i64_in (x:Int):In64 (IntKind.wrap .i64 x):=by
 unfold In64
 rw [UQ];split<;>omega
theorem pFrom {t:eP} {n:Nat} {xs:List Int} (hn:t.aS=(n:Int)) (h:n=1∨n=2∨n=4∨n=8) (hx:xs.length=n) (hb:Byt xs) {k:Nat} (hk:9≤k):fU.f k t xs=some (wrp t (IntKind.wrap .i64 (zV xs)),0):=by
 have hok:okI t=true:=by unfold okI;simp [hn];omega
 unfold fU.f kL.f qA.f
 rw [if_pos hok]
 simp only [Option.bind_some]
 have:=JY hb (by omega) xs.length 0 k (by omega) (by omega)
 rw [show ((0:Nat):Int)=0 from rfl,List.take_zero,show zV []=0 from rfl] at this
 rw [if_neg (by decide),if_neg (by rw [hn,hx];simp),this]
 simp only [Option.bind_some]
 rw [if_pos hok]
 rfl
theorem Yp {t:eP} {n:Nat} {xs:List Int} (hn:t.aS=(n:Int)) (h:n=1∨n=2∨n=4∨n=8) (hx:xs.length=n) (hb:Byt xs) {k:Nat} (hk:9≤k):dA.f k t xs=some (wrp t (IntKind.wrap .i64 (zV xs)),0):=by
 unfold dA.f jq.f
 rw [if_neg (by simp [hn];omega)]
 simp only [Option.bind_some]
 rw [if_neg (by decide),if_neg (by rw [hn,hx];simp),jC (x:=(xs.length:Int)-1) (by omega) (by omega),JX hb (by omega) xs.length k 0 (by omega) (by omega) (by rw [List.drop_of_length_le (by omega)];rfl)]
 simp only [Option.bind_some]
 rw [JZ hn h (i64_in _)]
 rfl
def uz (l:List bY):Prop:=∀s∈l,Byt s.bF
theorem EZ:∀{l:List bY} {x b:Int},uz l→byteAt l x=some b→0≤b∧b≤255
  |[],x,b,_,h=>by simp [byteAt] at h
  | s :: r, x, b, hl, h => by
    rw [byteAt] at h
    by_cases hi:oP s x
    · rw [if_pos hi] at h
      obtain rfl:=Option.some.inj h
      unfold oP at hi
      exact hl s List.mem_cons_self _ (getD_mem (by omega))
    · rw [if_neg hi] at h
      exact EZ (fun q hq=>hl q (List.mem_cons_of_mem _ hq)) h
theorem GU {l : List bY} {a : Int} (hl : uz l) : ∀ (d i : Nat) (acc xs : List Int), Byt acc → zM l a d i acc = some xs → Byt xs ∧ xs.length = acc.length + d
  |0,i,acc,xs,ha,h=>by obtain rfl:=Option.some.inj h;exact ⟨ha,rfl⟩
  | d + 1, i, acc, xs, ha, h => by
    rw [zM] at h
    cases hb:byteAt l (a+(i:Int)) with
    |none=>rw [hb] at h;cases h
    | some b =>
      rw [hb] at h
      obtain ⟨h1, h2⟩ := GU hl d (i + 1) (acc ++ [b]) xs (fun c hc => by
        rcases List.mem_append.1 hc with hc|hc
        · exact ha c hc
        · obtain rfl := List.mem_singleton.1 hc; exact EZ hl hb) h
      exact ⟨h1,by rw [h2];simp;omega⟩
def UE (t:eP):Option (List Int)→Int×Bool×Int
 |none=>(0,false,0)
 |some xs=>(wrp t (IntKind.wrap .i64 (zV xs)),true,0)
def DN (x:Int×Bool×Int):dZ:=⟨x.1,x.2.1,x.2.2⟩
theorem Yq {m:dX} {a:Int} {t:eP} {n k:Nat} (hl:m.aQ.length≤200) (hO:OkI m.aQ) (hB:uz m.aQ) (ha:In64 a) (hn:t.aS=(n:Int)) (h:n=1∨n=2∨n=4∨n=8) (hk:300≤k):
    mM.f k m a t=some (UE t (zM m.aQ a n 0 [])):=by
  unfold mM.f
  rw [hn,Yo hl hO ha (by omega) hk]
  simp only [Option.bind_some]
  cases hr:zM m.aQ a n 0 [] with
  |none=>rfl
  | some xs =>
    obtain ⟨h1,h2⟩:=GU hB n 0 [] xs (fun b hb=>by cases hb) hr
    show ((fU.f k t xs).bind fun v2=>some (v2.1,(v2.2==0),v2.2))=_
    rw [pFrom hn h (by simpa using h2) h1 (by omega)]
    rfl
theorem WX {m:dX} {a:Int} {t:eP} {n k:Nat} (hl:m.aQ.length≤200) (hO:OkI m.aQ) (hB:uz m.aQ) (ha:In64 a) (hn:t.aS=(n:Int)) (h:n=1∨n=2∨n=4∨n=8) (hk:4097≤k):
    iH.f k m a t=some (DN (UE t (zM m.aQ a n 0 []))):=by
  unfold iH.f
  rw [hn,Qy hl hO ha (by omega) hk]
  simp only [Option.bind_some]
  cases hr:zM m.aQ a n 0 [] with
  |none=>rfl
  | some xs =>
    obtain ⟨h1,h2⟩:=GU hB n 0 [] xs (fun b hb=>by cases hb) hr
    show ((dA.f k t xs).bind fun v2=>some (⟨v2.1,true,0⟩:dZ))=_
    rw [Yp hn h (by simpa using h2) h1 (by omega)]
    rfl
structure jr where
 vAt:Int
 vN:Int
 vT:eP
 aU:ByteArray
 qm:List ByteArray
def sZ:Kd jr:=Kd.iso (Kd.pair (Kd.int .i64) (Kd.pair (Kd.int .i64) (Kd.pair zu (Kd.pair Kd.str (Kd.slice Kd.str))))) fun x=>(x.vAt,(x.vN,(x.vT,(x.aU,x.qm))))
structure Xm where
 ve0:Int
 ve1:Int
def nK.f (a0:bV) (x0:ByteArray):Option (Bool):=(jJ.f a0).bind fun v1=>(some (v1&&(strEq a0.aU x0)))
theorem nK.calls (a0:bV) (x0:ByteArray) (jU:Option Addr) (jV:Nat) (bx0:Nat) {h0:View} {w0:World} (hv:jf h0 w0) (qM:Rd fM h0 jU a0.au) (uZ:a0.au.length≤jV) (hx0:w0.heap[bx0]?=some (.cells #[vS x0] 9 (0,0))) {r:Bool} (H:nK.f a0 x0=some r):Calls Tryz.prog 122 #[Value.agg #[vI a0.aF,vS a0.aU,vI a0.bW.aS,vB a0.bW.aO,vI a0.dY,vI a0.vN,vL jU a0.au.length jV],vP bx0 0] w0 (fun e w1=>e= .returned (vB r)∧Ext w0 w1):=by
 unfold nK.f at H
 have HS:St [] h0 w0 h0 [] w0:=St.init hv
 go_enter Tryz.func122,Tryz.ntmps122
 refine wp_seq<|region<|dK rfl rfl (dH (cs:=#[vI a0.aF,vS a0.aU,vI a0.bW.aS,vB a0.bW.aO,vI a0.dY,vI a0.vN,vL jU a0.au.length jV]) rfl rfl) ?_
 rintro w1 _ hE1 ⟨b1,rfl,ge1,hb1⟩
 have HS1:=HS.new hE1 ge1 hb1
 refine rs (vB false) (aC rfl) ?_
 try simp only [sc0,sc1]
 refine aB<|aj<|wp_seq<|region<|rs (Value.agg #[vI a0.aF,vS a0.aU,vI a0.bW.aS,vB a0.bW.aO,vI a0.dY,vI a0.vN,vL jU a0.au.length jV]) (aY (n:=7) (vs:=[vI a0.aF,vS a0.aU,vI a0.bW.aS,vB a0.bW.aO,vI a0.dY,vI a0.vN,vL jU a0.au.length jV]) rfl Tryz.isAgg56 (HS1.look 0 rfl) Tryz.sizeOf56 rfl rfl) ?_
 obtain ⟨v1,H1,H⟩:=bJ H
 refine run_eq (v:=vB v1) rfl rfl (bC Tryz.call116 rfl rfl (jJ.calls a0 jU jV HS1.sees qM uZ H1)) ?_
 intro w2 hE2
 have HS2:=HS1.step hE2
 refine rs (vB v1) (aK rfl)<|rgs v1 true (vP b1 1) rfl rfl rfl rfl (fun hg=>(aH (n:=1) (o':=1) rfl Tryz.runUnderlying56 rfl Tryz.sizeOf9 (by decide) rfl))<|aI (by simp only [sc0,sc1];rfl) ?_
 refine rgs v1 true (vS a0.aU) rfl rfl rfl rfl (fun hg=>(aN (gvt (vP b1 1) hg rfl) Tryz.isAgg9 (HS2.look 0 rfl) rfl))<|rgs v1 true (vS x0) rfl rfl rfl rfl (fun hg=>(aN rfl Tryz.isAgg9 (kR hx0 HS2.toE) rfl))<|rgs v1 true (vB (strEq a0.aU x0)) rfl rfl rfl rfl (fun hg=>(sK (gvt (vS a0.aU) hg rfl) (gvt (vS x0) hg rfl)))<|rs (vB (v1&&(strEq a0.aU x0))) (dw rfl (fun hp=>(gvt (vB (strEq a0.aU x0)) (gu rfl hp) rfl)) rfl)<|aI (by simp only [sc0,sc1];rfl) ?_
 refine rs (vB (v1&&(strEq a0.aU x0))) (aC rfl) ?_
 try simp only [sc0,sc1]
 refine aB<|aj<|wp_ret ?_
 obtain rfl:=Option.some.inj H
 exact bodyPost_ret (aW rfl (aV rfl)) rfl<|⟨rfl,HS2.toE⟩
def ou.f (k:Nat) (a0:bf) (a1:ByteArray):Option (Int):=(bG.f k a0.ay (fun z0=>nK.f z0 a1)).bind fun v1=>(some v1)
theorem ou.calls (k:Nat) (a0:bf) (a1:ByteArray) (bQ:Option Addr) (bT:Nat) {h0:View} {w0:World} (hv:jf h0 w0) (fB:Rd eX h0 bQ a0.ay) (gI:a0.ay.length≤bT) {r:Int} (H:ou.f k a0 a1=some r):Calls Tryz.prog 75 #[Value.agg #[vL bQ a0.ay.length bT],vS a1] w0 (fun e w1=>e= .returned (vI r)∧Ext w0 w1):=by
 unfold ou.f at H
 have HS:St [] h0 w0 h0 [] w0:=St.init hv
 go_enter Tryz.func75,Tryz.ntmps75
 refine wp_seq<|region<|dK rfl rfl (dH (cs:=#[vL bQ a0.ay.length bT]) rfl rfl) ?_
 rintro w1 _ hE1 ⟨b1,rfl,ge1,hb1⟩
 have HS1:=HS.new hE1 ge1 hb1
 refine dK rfl rfl (dH (cs:=#[vS a1]) rfl rfl) ?_
 rintro w2 _ hE2 ⟨b2,rfl,ge2,hb2⟩
 have HS2:=HS1.new hE2 ge2 hb2
 refine rs (vI 0) (aC rfl) ?_
 try simp only [sc0,sc1]
 refine aB<|aj<|wp_seq<|region<|rs (vP b1 0) (aH (n:=1) (o':=0) rfl Tryz.runUnderlying24 rfl Tryz.sizeOf22 (by decide) rfl)<|rs (vL bQ a0.ay.length bT) (aN rfl Tryz.isAgg22 (HS2.look 1 rfl) rfl)<|rs (Value.func (.func 122) #[] #[vP b2 0]) (oC (vs:=[vP b2 0]) rfl) ?_
 obtain ⟨v1,H1,H⟩:=bJ H
 refine run_eq (v:=vI v1) rfl rfl (bC Tryz.call121 rfl rfl (bG.calls k a0.ay (fun z0=>nK.f z0 a1) bQ bT 122 [vP b2 0] HS2.sees fB gI Tryz.call122 (fun z0 wW wX h w hE hs hv Gs zB r H=>nK.calls z0 a1 wW wX b2 hv Gs zB (kR (HS2.look 0 rfl) hE) H) H1)) ?_
 intro w3 hE3
 have HS3:=HS2.step hE3
 refine aI (by simp only [sc0,sc1];rfl) ?_
 refine rs (vI v1) (aC rfl) ?_
 try simp only [sc0,sc1]
 refine aB<|aj<|wp_ret ?_
 obtain rfl:=Option.some.inj H
 exact bodyPost_ret (aW rfl (aV rfl)) rfl<|⟨rfl,HS3.toE⟩
def kM.f (k:Nat) (a0:bf) (a1:ByteArray):Option (Int×Int):=(dF.f k a0).bind fun v1=>(if (!v1)=true then (some (0,80)) else ((ou.f k a0 a1).bind fun v2=>(if (decide (v2<0))=true then (some (0,3)) else (some (v2,0)))))
theorem kM.calls (k:Nat) (a0:bf) (a1:ByteArray) (bQ:Option Addr) (bT:Nat) {h0:View} {w0:World} (hv:jf h0 w0) (fB:Rd eX h0 bQ a0.ay) (gI:a0.ay.length≤bT) {r:Int×Int} (H:kM.f k a0 a1=some r):Calls Tryz.prog 35 #[Value.agg #[vL bQ a0.ay.length bT],vS a1] w0 (fun e w1=>e= .returned (Value.tuple #[vI r.1,vI r.2])∧Ext w0 w1):=by
 unfold kM.f at H
 have HS:St [] h0 w0 h0 [] w0:=St.init hv
 go_enter Tryz.func35,Tryz.ntmps35
 refine wp_seq<|region<|dK rfl rfl (dH (cs:=#[vL bQ a0.ay.length bT]) rfl rfl) ?_
 rintro w1 _ hE1 ⟨b1,rfl,ge1,hb1⟩
 have HS1:=HS.new hE1 ge1 hb1
 refine rs (vI 0) (aC rfl)<|rs (vI 0) (aC rfl) ?_
 try simp only [sc0,sc1]
 refine aB<|aj<|wp_seq<|wp_seq<|region<|rs (Value.agg #[vL bQ a0.ay.length bT]) (aY (n:=1) (vs:=[vL bQ a0.ay.length bT]) rfl Tryz.isAgg24 (HS1.look 0 rfl) Tryz.sizeOf24 rfl rfl) ?_
 obtain ⟨v1,H1,H⟩:=bJ H
 refine run_eq (v:=vB v1) rfl rfl (bC Tryz.call74 rfl rfl (dF.calls k a0 bQ bT HS1.sees fB gI H1)) ?_
 intro w2 hE2
 have HS2:=HS1.step hE2
 refine rs (vB (!v1)) (kN rfl) ?_
 try simp only [sc0,sc1]
 refine aB<|aj<|wp_cond_split (t:=(!v1)) rfl (fun c1=>?_) (fun c1=>?_)
 ·replace H:=bU H c1
  refine wp_seq<|region<|rs (vI 0) (aC rfl)<|rs (vI 80) (aC rfl) ?_
  try simp only [sc0,sc1]
  refine aB<|aj<|wp_ret<|aX ?_
  obtain rfl:=Option.some.inj H
  exact bodyPost_ret (fO rfl (aV rfl) (aV rfl)) rfl<|⟨rfl,HS2.toE⟩
 ·replace H:=bZ H (nt c1)
  refine wp_skip<|aj<|wp_seq<|region<|rs (Value.agg #[vL bQ a0.ay.length bT]) (aY (n:=1) (vs:=[vL bQ a0.ay.length bT]) rfl Tryz.isAgg24 (HS2.look 0 rfl) Tryz.sizeOf24 rfl rfl)<|rs (vS a1) (aK rfl) ?_
  obtain ⟨v2,H2,H⟩:=bJ H
  refine run_eq (v:=vI v2) rfl rfl (bC Tryz.call75 rfl rfl (ou.calls k a0 a1 bQ bT HS2.sees fB gI H2)) ?_
  intro w3 hE3
  have HS3:=HS2.step hE3
  refine rs (vI v2) (aC rfl) ?_
  try simp only [sc0,sc1]
  refine aB<|aj<|wp_seq<|wp_seq<|region<|rs (vI v2) (aK rfl)<|rs (vB (decide (v2<0))) (bK rfl rfl rfl) ?_
  try simp only [sc0,sc1]
  refine aB<|aj<|wp_cond_split (t:=(decide (v2<0))) rfl (fun c2=>?_) (fun c2=>?_)
  ·replace H:=bU H c2
   refine wp_seq<|region<|rs (vI 0) (aC rfl)<|rs (vI 3) (aC rfl) ?_
   try simp only [sc0,sc1]
   refine aB<|aj<|wp_ret<|aX ?_
   obtain rfl:=Option.some.inj H
   exact bodyPost_ret (fO rfl (aV rfl) (aV rfl)) rfl<|⟨rfl,HS3.toE⟩
  ·replace H:=bZ H (nt c2)
   refine wp_skip<|aj<|wp_seq<|region<|rs (vI v2) (aK rfl)<|rs (vI v2) (aC rfl)<|rs (vI 0) (aC rfl) ?_
   try simp only [sc0,sc1]
   refine aB<|aj<|wp_ret ?_
   obtain rfl:=Option.some.inj H
   exact bodyPost_ret (fO rfl (aV rfl) (aV rfl)) rfl<|⟨rfl,HS3.toE⟩
def gQ.f (k:Nat) (a0:bf) (a1:dX) (a2:ByteArray) (a3:Int) (a4:List ByteArray):Option (Int×Bool×Int):=(jc.f k a0).bind fun v1=>(if (v1 !=0)=true then (some (0,false,v1)) else ((mD.f a1).bind fun v2=>(if (v2 !=0)=true then (some (0,false,v2)) else ((kM.f k a0 a2).bind fun v3=>(if (v3.2 !=0)=true then (some (0,false,v3.2)) else ((gY.f k a0 v3.1 a4).bind fun v4=>(if (v4.2.2 !=0)=true then (some (0,false,v4.2.2)) else ((jd.f k a0 v4.1).bind fun v5=>(if (!v5.2)=true then (some (0,false,5)) else ((mM.f k a1 (IntKind.wrap .i64 (a3+v4.2.1)) v5.1).bind fun v6=>(some (v6.1,v6.2.1,v6.2.2))))))))))))
theorem gQ.calls (k:Nat) (a0:bf) (a1:dX) (a2:ByteArray) (a3:Int) (a4:List ByteArray) (bQ:Option Addr) (bT:Nat) (lu:Option Addr) (lC:Nat) (QA:Option Addr) (QB:Nat) {h0:View} {w0:World} (hv:jf h0 w0) (fB:Rd eX h0 bQ a0.ay) (gI:a0.ay.length≤bT) (qx:Rd gJ h0 lu a1.aQ) (wY:a1.aQ.length≤lC) (UF:Rd Kd.str h0 QA a4) (UG:a4.length≤QB) {r:Int×Bool×Int} (H:gQ.f k a0 a1 a2 a3 a4=some r):Calls Tryz.prog 11 #[Value.agg #[vL bQ a0.ay.length bT],Value.agg #[vL lu a1.aQ.length lC],vS a2,vI a3,vL QA a4.length QB] w0 (fun e w1=>e= .returned (Value.tuple #[vI r.1,vB r.2.1,vI r.2.2])∧Ext w0 w1):=by
 unfold gQ.f at H
 have HS:St [] h0 w0 h0 [] w0:=St.init hv
 go_enter Tryz.func11,Tryz.ntmps11
 refine wp_seq<|region<|dK rfl rfl (dH (cs:=#[vL bQ a0.ay.length bT]) rfl rfl) ?_
 rintro w1 _ hE1 ⟨b1,rfl,ge1,hb1⟩
 have HS1:=HS.new hE1 ge1 hb1
 refine dK rfl rfl (dH (cs:=#[vL lu a1.aQ.length lC]) rfl rfl) ?_
 rintro w2 _ hE2 ⟨b2,rfl,ge2,hb2⟩
 have HS2:=HS1.new hE2 ge2 hb2
 refine rs (vI 0) (aC rfl)<|rs (vB false) (aC rfl)<|aI (by simp only [sc0,sc1];rfl) ?_
 refine rs (vI 0) (aC rfl) ?_
 try simp only [sc0,sc1]
 refine aB<|aj<|wp_seq<|wp_seq<|region<|rs (Value.agg #[vL bQ a0.ay.length bT]) (aY (n:=1) (vs:=[vL bQ a0.ay.length bT]) rfl Tryz.isAgg24 (HS2.look 1 rfl) Tryz.sizeOf24 rfl rfl) ?_
 obtain ⟨v1,H1,H⟩:=bJ H
 refine run_eq (v:=vI v1) rfl rfl (bC Tryz.call34 rfl rfl (jc.calls k a0 bQ bT HS2.sees fB gI H1)) ?_
 intro w3 hE3
 have HS3:=HS2.step hE3
 refine rs (vI v1) (aC rfl) ?_
 try simp only [sc0,sc1]
 refine aB<|aj<|wp_seq<|region<|rs (vI v1) (aK rfl)<|rs (vB (v1 !=0)) (bK rfl rfl rfl) ?_
 try simp only [sc0,sc1]
 refine aB<|aj<|wp_cond_split (t:=(v1 !=0)) rfl (fun c1=>?_) (fun c1=>?_)
 ·replace H:=bU H c1
  refine wp_seq<|region<|rs (vI v1) (aK rfl)<|rs (vI 0) (aC rfl)<|rs (vB false) (aC rfl)<|rs (vI v1) (aC rfl) ?_
  try simp only [sc0,sc1]
  refine aB<|aj<|wp_ret<|aX ?_
  obtain rfl:=Option.some.inj H
  exact bodyPost_ret (kH rfl (aV rfl) (aV rfl) (aV rfl)) rfl<|⟨rfl,HS3.toE⟩
 ·replace H:=bZ H (nt c1)
  refine wp_skip<|aj<|wp_seq<|wp_seq<|region<|rs (Value.agg #[vL lu a1.aQ.length lC]) (aY (n:=1) (vs:=[vL lu a1.aQ.length lC]) rfl Tryz.isAgg27 (HS3.look 0 rfl) Tryz.sizeOf27 rfl rfl) ?_
  obtain ⟨v2,H2,H⟩:=bJ H
  refine run_eq (v:=vI v2) rfl rfl (bC Tryz.call26 rfl rfl (mD.calls a1 lu lC HS3.sees qx wY H2)) ?_
  intro w4 hE4
  have HS4:=HS3.step hE4
  refine rs (vI v2) (aC rfl) ?_
  try simp only [sc0,sc1]
  refine aB<|aj<|wp_seq<|region<|rs (vI v2) (aK rfl)<|rs (vB (v2 !=0)) (bK rfl rfl rfl) ?_
  try simp only [sc0,sc1]
  refine aB<|aj<|wp_cond_split (t:=(v2 !=0)) rfl (fun c2=>?_) (fun c2=>?_)
  ·replace H:=bU H c2
   refine wp_seq<|region<|rs (vI v2) (aK rfl)<|rs (vI 0) (aC rfl)<|rs (vB false) (aC rfl)<|rs (vI v2) (aC rfl) ?_
   try simp only [sc0,sc1]
   refine aB<|aj<|wp_ret<|aX ?_
   obtain rfl:=Option.some.inj H
   exact bodyPost_ret (kH rfl (aV rfl) (aV rfl) (aV rfl)) rfl<|⟨rfl,HS4.toE⟩
  ·replace H:=bZ H (nt c2)
   refine wp_skip<|aj<|wp_seq<|region<|rs (Value.agg #[vL bQ a0.ay.length bT]) (aY (n:=1) (vs:=[vL bQ a0.ay.length bT]) rfl Tryz.isAgg24 (HS4.look 1 rfl) Tryz.sizeOf24 rfl rfl)<|rs (vS a2) (aK rfl) ?_
   obtain ⟨v3,H3,H⟩:=bJ H
   refine run_eq (v:=Value.tuple #[vI v3.1,vI v3.2]) rfl rfl (bC Tryz.call35 rfl rfl (kM.calls k a0 a2 bQ bT HS4.sees fB gI H3)) ?_
   intro w5 hE5
   have HS5:=HS4.step hE5
   refine rs (Value.tuple #[vI v3.1,vI v3.2]) (aK rfl)<|aI (by simp only [sc0,sc1];rfl) ?_
   refine rs (vI v3.1) (eU rfl rfl)<|rs (vI v3.2) (eU rfl rfl)<|rs (vI v3.1) (aC rfl)<|rs (vI v3.2) (aC rfl) ?_
   try simp only [sc0,sc1]
   refine aB<|aj<|wp_seq<|wp_seq<|region<|rs (vI v3.2) (aK rfl)<|rs (vB (v3.2 !=0)) (bK rfl rfl rfl) ?_
   try simp only [sc0,sc1]
   refine aB<|aj<|wp_cond_split (t:=(v3.2 !=0)) rfl (fun c3=>?_) (fun c3=>?_)
   ·replace H:=bU H c3
    refine wp_seq<|region<|rs (vI v3.2) (aK rfl)<|rs (vI 0) (aC rfl)<|rs (vB false) (aC rfl)<|rs (vI v3.2) (aC rfl) ?_
    try simp only [sc0,sc1]
    refine aB<|aj<|wp_ret<|aX ?_
    obtain rfl:=Option.some.inj H
    exact bodyPost_ret (kH rfl (aV rfl) (aV rfl) (aV rfl)) rfl<|⟨rfl,HS5.toE⟩
   ·replace H:=bZ H (nt c3)
    refine wp_skip<|aj<|wp_seq<|region<|rs (Value.agg #[vL bQ a0.ay.length bT]) (aY (n:=1) (vs:=[vL bQ a0.ay.length bT]) rfl Tryz.isAgg24 (HS5.look 1 rfl) Tryz.sizeOf24 rfl rfl)<|rs (vI v3.1) (aK rfl)<|rs (vL QA a4.length QB) (aK rfl) ?_
    obtain ⟨v4,H4,H⟩:=bJ H
    refine run_eq (v:=Value.tuple #[vI v4.1,vI v4.2.1,vI v4.2.2]) rfl rfl (bC Tryz.call19 rfl rfl (gY.calls k a0 v3.1 a4 bQ bT QA QB HS5.sees fB gI UF UG H4)) ?_
    intro w6 hE6
    have HS6:=HS5.step hE6
    refine aI (by simp only [sc0,sc1];rfl) ?_
    refine rs (Value.tuple #[vI v4.1,vI v4.2.1,vI v4.2.2]) (aK rfl)<|rs (vI v4.1) (eU rfl rfl)<|rs (vI v4.2.1) (eU rfl rfl)<|rs (vI v4.2.2) (eU rfl rfl)<|aI (by simp only [sc0,sc1];rfl) ?_
    refine rs (vI v4.1) (aC rfl)<|rs (vI v4.2.1) (aC rfl)<|rs (vI v4.2.2) (aC rfl) ?_
    try simp only [sc0,sc1]
    refine aB<|aj<|wp_seq<|wp_seq<|region<|rs (vI v4.2.2) (aK rfl)<|rs (vB (v4.2.2 !=0)) (bK rfl rfl rfl) ?_
    try simp only [sc0,sc1]
    refine aB<|aj<|wp_cond_split (t:=(v4.2.2 !=0)) rfl (fun c4=>?_) (fun c4=>?_)
    ·replace H:=bU H c4
     refine wp_seq<|region<|rs (vI v4.2.2) (aK rfl)<|rs (vI 0) (aC rfl)<|rs (vB false) (aC rfl)<|rs (vI v4.2.2) (aC rfl) ?_
     try simp only [sc0,sc1]
     refine aB<|aj<|wp_ret<|aX ?_
     obtain rfl:=Option.some.inj H
     exact bodyPost_ret (kH rfl (aV rfl) (aV rfl) (aV rfl)) rfl<|⟨rfl,HS6.toE⟩
    ·replace H:=bZ H (nt c4)
     refine wp_skip<|aj<|wp_seq<|region<|rs (Value.agg #[vL bQ a0.ay.length bT]) (aY (n:=1) (vs:=[vL bQ a0.ay.length bT]) rfl Tryz.isAgg24 (HS6.look 1 rfl) Tryz.sizeOf24 rfl rfl)<|rs (vI v4.1) (aK rfl) ?_
     obtain ⟨v5,H5,H⟩:=bJ H
     refine run_eq (v:=Value.tuple #[Value.agg #[vI v5.1.aS,vB v5.1.aO],vB v5.2]) rfl rfl (bC Tryz.call36 rfl rfl (jd.calls k a0 v4.1 bQ bT HS6.sees fB gI H5)) ?_
     intro w7 hE7
     have HS7:=HS6.step hE7
     refine rs (Value.tuple #[Value.agg #[vI v5.1.aS,vB v5.1.aO],vB v5.2]) (aK rfl)<|aI (by simp only [sc0,sc1];rfl) ?_
     refine rs (Value.agg #[vI v5.1.aS,vB v5.1.aO]) (eU rfl rfl)<|rs (vB v5.2) (eU rfl rfl)<|dK rfl rfl (fA (cs:=#[vI 0,vB false]) Tryz.zeroValue29 rfl) ?_
     rintro w8 _ hE8 ⟨b3,rfl,ge3,hb3⟩
     have HS8:=HS7.new hE8 ge3 hb3
     refine gq (i:=0) (cs:=[vI 0,vB false]) (cs':=[vI v5.1.aS,vB v5.1.aO]) (vs:=[vI v5.1.aS,vB v5.1.aO]) (bs':=[(some b3, .cells #[vI v5.1.aS,vB v5.1.aO] 29 (0,0)),(some b2, .cells #[vL lu a1.aQ.length lC] 27 (0,0)),(some b1, .cells #[vL bQ a0.ay.length bT] 24 (0,0))]) rfl rfl Tryz.sizeOf29 rfl rfl (by decide) rfl HS8 rfl (Nat.le_of_ble_eq_true rfl) rfl rfl ?_
     intro w9 HS9
     refine aI (by simp only [sc0,sc1];rfl) ?_
     refine rs (vB v5.2) (aC rfl) ?_
     try simp only [sc0,sc1]
     refine aB<|aj<|wp_seq<|wp_seq<|region<|rs (vB v5.2) (aK rfl)<|rs (vB (!v5.2)) (kN rfl) ?_
     try simp only [sc0,sc1]
     refine aB<|aj<|wp_cond_split (t:=(!v5.2)) rfl (fun c5=>?_) (fun c5=>?_)
     ·replace H:=bU H c5
      refine wp_seq<|region<|rs (vI 0) (aC rfl)<|rs (vB false) (aC rfl)<|rs (vI 5) (aC rfl) ?_
      try simp only [sc0,sc1]
      refine aB<|aj<|wp_ret<|aX ?_
      obtain rfl:=Option.some.inj H
      exact bodyPost_ret (kH rfl (aV rfl) (aV rfl) (aV rfl)) rfl<|⟨rfl,HS9.toE⟩
     ·replace H:=bZ H (nt c5)
      refine wp_skip<|aj<|wp_seq<|region<|rs (Value.agg #[vL lu a1.aQ.length lC]) (aY (n:=1) (vs:=[vL lu a1.aQ.length lC]) rfl Tryz.isAgg27 (HS9.look 1 rfl) Tryz.sizeOf27 rfl rfl)<|rs (vI a3) (aK rfl)<|rs (vI v4.2.1) (aK rfl)<|rs (vI (w64 (a3+v4.2.1))) (bK rfl rfl rfl)<|aI (by simp only [sc0,sc1];rfl) ?_
      refine rs (Value.agg #[vI v5.1.aS,vB v5.1.aO]) (aY (n:=2) (vs:=[vI v5.1.aS,vB v5.1.aO]) rfl Tryz.isAgg29 (HS9.look 0 rfl) Tryz.sizeOf29 rfl rfl) ?_
      obtain ⟨v6,H6,H⟩:=bJ H
      refine run_eq (v:=Value.tuple #[vI v6.1,vB v6.2.1,vI v6.2.2]) rfl rfl (bC Tryz.call37 rfl rfl (mM.calls k a1 (w64 (a3+v4.2.1)) v5.1 lu lC HS9.sees qx wY H6)) ?_
      intro w10 hE9
      have qN:=HS9.step hE9
      refine rs (vI v6.1) (eU rfl rfl)<|rs (vB v6.2.1) (eU rfl rfl)<|aI (by simp only [sc0,sc1];rfl) ?_
      refine rs (vI v6.2.2) (eU rfl rfl)<|rs (vI v6.1) (aC rfl)<|rs (vB v6.2.1) (aC rfl)<|rs (vI v6.2.2) (aC rfl) ?_
      try simp only [sc0,sc1]
      refine aB<|aj<|wp_ret ?_
      obtain rfl:=Option.some.inj H
      exact bodyPost_ret (kH rfl (aV rfl) (aV rfl) (aV rfl)) rfl<|⟨rfl,qN.toE⟩
def dL.l0 (a0:bf) (a1:ByteArray):Nat→Int→Option ((Int)⊕(Unit))
 |0,_=>none
 |m+1,aG=>if (decide (aG<(a0.ay.length:Int)))=true then (if 0≤aG∧aG<a0.ay.length then ((dU.f (rd ah a0.ay aG)).bind fun v1=>(if (true&&(v1==true))=true→(0≤aG∧aG<a0.ay.length) then (if (v1&&(strEq ((rd ah a0.ay aG).aU) a1))=true then (some (.inl aG)) else (dL.l0 a0 a1 m (IntKind.wrap .i64 (aG+1)))) else none)) else none) else (some (.inr ()))
def dL.f (k:Nat) (a0:bf) (a1:ByteArray):Option (Int):=(dL.l0 a0 a1 k 0).bind fun xx1=>(match xx1 with| .inl r=>some r| .inr s1=>some (-1))
theorem dL.calls (k:Nat) (a0:bf) (a1:ByteArray) (bQ:Option Addr) (bT:Nat) {h0:View} {w0:World} (hv:jf h0 w0) (fB:Rd eX h0 bQ a0.ay) (gI:a0.ay.length≤bT) {r:Int} (H:dL.f k a0 a1=some r):Calls Tryz.prog 39 #[Value.agg #[vL bQ a0.ay.length bT],vS a1] w0 (fun e w1=>e= .returned (vI r)∧Ext w0 w1):=by
 unfold dL.f at H
 have HS:St [] h0 w0 h0 [] w0:=St.init hv
 go_enter Tryz.func39,Tryz.ntmps39
 refine wp_seq<|region<|dK rfl rfl (dH (cs:=#[vL bQ a0.ay.length bT]) rfl rfl) ?_
 rintro w1 _ hE1 ⟨b1,rfl,ge1,hb1⟩
 have HS1:=HS.new hE1 ge1 hb1
 refine rs (vI 0) (aC rfl) ?_
 try simp only [sc0,sc1]
 refine aB<|aj<|wp_seq<|wp_seq<|region<|rs (vI 0) (aC rfl) ?_
 try simp only [sc0,sc1]
 refine aB<|aj ?_
 obtain ⟨xx1,H,G1⟩:=bJ H
 refine iW [4,5,6,7,8,9,10,11,12,13,14,15,16,17,18,19,20,21,22,23,24,25,26,27,28,29] (fun m us w'=>∃(aG:Int),Fit us (fun uy1=>[(uy1 0),vI aG,(uy1 2),(uy1 3),(uy1 4),(uy1 5),(uy1 6),(uy1 7),(uy1 8),(uy1 9),(uy1 10),(uy1 11),(uy1 12),(uy1 13),(uy1 14),(uy1 15),(uy1 16),(uy1 17),(uy1 18),(uy1 19),(uy1 20),(uy1 21),(uy1 22),(uy1 23),(uy1 24),(uy1 25)])∧dL.l0 a0 a1 m aG=some xx1∧St [] h0 w0 h0 [(some b1, .cells #[vL bQ a0.ay.length bT] 24 (0,0))] w') (fun us w'=>∃(s1:Unit),xx1= .inr s1∧Fit us (fun uo1=>[(uo1 0),(uo1 1),(uo1 2),(uo1 3),(uo1 4),(uo1 5),(uo1 6),(uo1 7),(uo1 8),(uo1 9),(uo1 10),(uo1 11),(uo1 12),(uo1 13),(uo1 14),(uo1 15),(uo1 16),(uo1 17),(uo1 18),(uo1 19),(uo1 20),(uo1 21),(uo1 22),(uo1 23),(uo1 24),(uo1 25)])∧St [] h0 w0 h0 [(some b1, .cells #[vL bQ a0.ay.length bT] 24 (0,0))] w') k ⟨0,(fit rfl),H,HS1⟩ ?_ ?_
 ·rintro m us w2 ⟨aG,lZ,H,HS2⟩
  obtain ⟨uy1,rfl⟩:=unj lZ
  cases m with
  |zero=>exact absurd H (by simp [dL.l0])
  |succ m=>
   rw [dL.l0] at H
   try simp only [patch,sc0,sc1]
   refine wp_seq<|wp_seq<|region<|rs (vI aG) (aK rfl)<|rs (vP b1 0) (aH (n:=1) (o':=0) rfl Tryz.runUnderlying24 rfl Tryz.sizeOf22 (by decide) rfl)<|rs (vL bQ a0.ay.length bT) (aN rfl Tryz.isAgg22 (HS2.look 0 rfl) rfl)<|rs (vI (a0.ay.length:Int)) (iT rfl Tryz.runUnderlying22)<|aI (by simp only [sc0,sc1];rfl) ?_
   refine rs (vB (decide (aG<(a0.ay.length:Int)))) (bK rfl rfl rfl) ?_
   try simp only [sc0,sc1]
   refine aB<|aj<|wp_cond_split (t:=(decide (aG<(a0.ay.length:Int)))) rfl (fun c1=>?_) (fun c1=>?_)
   ·replace H:=bU H c1
    refine wp_skip<|aj<|wp_seq<|wp_block<|wp_seq<|region<|rs (vP b1 0) (aH (n:=1) (o':=0) rfl Tryz.runUnderlying24 rfl Tryz.sizeOf22 (by decide) rfl)<|rs (vL bQ a0.ay.length bT) (aN rfl Tryz.isAgg22 (HS2.look 0 rfl) rfl)<|rs (vI aG) (aK rfl) ?_
    obtain ⟨hi1,H⟩:=fE H
    obtain ⟨ad1,dO,dR,e1,kX,jO,iD⟩:=gU fB hi1.1 hi1.2
    refine rs (Value.pointer (some (Addr.add ad1 (aG.toNat*7)))) (dQ (sz:=7) rfl e1 rfl hi1.1 hi1.2 Tryz.runUnderlying22 Tryz.sizeOf56)<|aI (by simp only [sc0,sc1];rfl) ?_
    refine rs (Value.agg #[vI ((rd ah a0.ay aG).aF),vS ((rd ah a0.ay aG).aU),vI ((rd ah a0.ay aG).bW.aS),vB ((rd ah a0.ay aG).bW.aO),vI ((rd ah a0.ay aG).dY),vI ((rd ah a0.ay aG).vN),vL dO ((rd ah a0.ay aG).au).length dR]) (gK rfl Tryz.isAgg56 (kX.sees HS2.sees) Tryz.sizeOf56) ?_
    obtain ⟨v1,H1,H⟩:=bJ H
    refine run_eq (v:=vB v1) rfl rfl (bC Tryz.call78 rfl rfl (dU.calls (rd ah a0.ay aG) dO dR HS2.sees iD jO H1)) ?_
    intro w3 hE2
    have HS3:=HS2.step hE2
    refine rs (vB v1) (aK rfl)<|rgs v1 true (vP b1 0) rfl rfl rfl rfl (fun hg=>(aH (n:=1) (o':=0) rfl Tryz.runUnderlying24 rfl Tryz.sizeOf22 (by decide) rfl))<|aI (by simp only [sc0,sc1];rfl) ?_
    refine rgs v1 true (vL bQ a0.ay.length bT) rfl rfl rfl rfl (fun hg=>(aN (gvt (vP b1 0) hg rfl) Tryz.isAgg22 (HS3.look 0 rfl) rfl))<|rgs v1 true (vI aG) rfl rfl rfl rfl (fun hg=>(aK rfl)) ?_
    obtain ⟨hi2,H⟩:=fE H
    obtain ⟨ad2,zC,zD,hq1⟩:=gx3 (fun hC:(true&&(v1==true))=true=>gU fB (hi2 hC).1 (hi2 hC).2)
    refine rgs v1 true (Value.pointer (some (Addr.add ad2 (aG.toNat*7)))) rfl rfl rfl rfl (fun hg=>(dQ (sz:=7) (gvt (vL bQ a0.ay.length bT) hg rfl) (hq1 hg).1 (gvt (vI aG) hg rfl) (hi2 hg).1 (hi2 hg).2 Tryz.runUnderlying22 Tryz.sizeOf56))<|rgs v1 true (Value.pointer (some (Addr.add (Addr.add ad2 (aG.toNat*7)) 1))) rfl rfl rfl rfl (fun hg=>(jG (n:=1) (o':=1) (gvt (Value.pointer (some (Addr.add ad2 (aG.toNat*7)))) hg rfl) Tryz.runUnderlying56 rfl Tryz.sizeOf9 (by decide) rfl))<|aI (by simp only [sc0,sc1];rfl) ?_
    refine rgs v1 true (vS ((rd ah a0.ay aG).aU)) rfl rfl rfl rfl (fun hg=>(jF (gvt (Value.pointer (some (Addr.add (Addr.add ad2 (aG.toNat*7)) 1))) hg rfl) Tryz.isAgg9 (((hq1 hg).2.1).cell HS3.sees 1 rfl)))<|rgs v1 true (vS a1) rfl rfl rfl rfl (fun hg=>(aK rfl))<|rgs v1 true (vB (strEq ((rd ah a0.ay aG).aU) a1)) rfl rfl rfl rfl (fun hg=>(sK (gvt (vS ((rd ah a0.ay aG).aU)) hg rfl) (gvt (vS a1) hg rfl)))<|rs (vB (v1&&(strEq ((rd ah a0.ay aG).aU) a1))) (dw rfl (fun hp=>(gvt (vB (strEq ((rd ah a0.ay aG).aU) a1)) (gu rfl hp) rfl)) rfl) ?_
    try simp only [sc0,sc1]
    refine aB<|aj<|wp_cond_split (t:=(v1&&(strEq ((rd ah a0.ay aG).aU) a1))) rfl (fun c2=>?_) (fun c2=>?_)
    ·replace H:=bU H c2
     refine wp_seq<|region<|rs (vI aG) (aK rfl)<|rs (vI aG) (aC rfl) ?_
     try simp only [sc0,sc1]
     refine aB<|aj<|wp_ret<|dn<|aX<|gW<|aX ?_
     obtain rfl:=Option.some.inj H
     obtain rfl:=Option.some.inj G1
     exact bodyPost_ret (aW rfl (aV rfl)) rfl<|⟨rfl,HS3.toE⟩
    ·replace H:=bZ H (nt c2)
     refine wp_skip<|dB<|aj<|region<|rs (vI aG) (aK rfl)<|rs (vI (w64 (aG+1))) (bK rfl rfl rfl)<|rs (vI (w64 (aG+1))) (aC rfl) ?_
     try simp only [sc0,sc1]
     refine aB<|gX m (Nat.lt_succ_self m) rfl ⟨(w64 (aG+1)),(fit rfl),H,HS3⟩
   ·replace H:=bZ H (nt c1)
    refine wp_exit<|fF ?_
    obtain rfl:=Option.some.inj H
    refine iw rfl ⟨_,rfl,(fit rfl),HS2⟩
 ·rintro us w4 ⟨s1,rfl,l7,HS4⟩
  obtain ⟨uo1,rfl⟩:=unj l7
  replace H:=G1
  clear G1
  try simp only [patch,sc0,sc1]
  refine aj<|wp_seq<|region<|rs (vI (-1)) (aC rfl) ?_
  try simp only [sc0,sc1]
  refine aB<|aj<|wp_ret ?_
  obtain rfl:=Option.some.inj H
  exact bodyPost_ret (aW rfl (aV rfl)) rfl<|⟨rfl,HS4.toE⟩
def dN.f (k:Nat) (a0:bf) (a1:dX) (a2:ByteArray) (a3:Int) (a4:List ByteArray):Option (dZ):=(aP.f k a0).bind fun v1=>(((if (v1==0)=true then ((eH.f k a1).bind fun v2=>(some v2)) else (some v1)):Option (Int)).bind fun xx1=>(if (xx1 !=0)=true then (some (⟨0,false,xx1⟩:dZ)) else ((dL.f k a0 a2).bind fun v3=>(if (decide (v3<0))=true then (some (⟨0,false,3⟩:dZ)) else ((cZ.f k a0 v3 a4).bind fun v4=>(if (v4.vE !=0)=true then (some (⟨0,false,v4.vE⟩:dZ)) else ((gy.f k a0 v4.vType).bind fun v5=>(if (!v5.2)=true then (some (⟨0,false,5⟩:dZ)) else (if (decide ((IntKind.wrap .i64 (a3+v4.vAt))<a3))=true then (some (⟨0,false,0⟩:dZ)) else ((iH.f k a1 (IntKind.wrap .i64 (a3+v4.vAt)) v5.1).bind fun v6=>(some v6)))))))))))
theorem dN.calls (k:Nat) (a0:bf) (a1:dX) (a2:ByteArray) (a3:Int) (a4:List ByteArray) (bQ:Option Addr) (bT:Nat) (lu:Option Addr) (lC:Nat) (QA:Option Addr) (QB:Nat) {h0:View} {w0:World} (hv:jf h0 w0) (fB:Rd eX h0 bQ a0.ay) (gI:a0.ay.length≤bT) (qx:Rd gJ h0 lu a1.aQ) (wY:a1.aQ.length≤lC) (UF:Rd Kd.str h0 QA a4) (UG:a4.length≤QB) {r:dZ} (H:dN.f k a0 a1 a2 a3 a4=some r):Calls Tryz.prog 12 #[Value.agg #[vL bQ a0.ay.length bT],Value.agg #[vL lu a1.aQ.length lC],vS a2,vI a3,vL QA a4.length QB] w0 (fun e w1=>e= .returned (Value.agg #[vI r.vV,vB r.vIs,vI r.vE])∧Ext w0 w1):=by
 unfold dN.f at H
 have HS:St [] h0 w0 h0 [] w0:=St.init hv
 go_enter Tryz.func12,Tryz.ntmps12
 refine wp_seq<|region<|dK rfl rfl (dH (cs:=#[vL bQ a0.ay.length bT]) rfl rfl) ?_
 rintro w1 _ hE1 ⟨b1,rfl,ge1,hb1⟩
 have HS1:=HS.new hE1 ge1 hb1
 refine dK rfl rfl (dH (cs:=#[vL lu a1.aQ.length lC]) rfl rfl) ?_
 rintro w2 _ hE2 ⟨b2,rfl,ge2,hb2⟩
 have HS2:=HS1.new hE2 ge2 hb2
 refine dK rfl rfl (fA (cs:=#[vI 0,vB false,vI 0]) Tryz.zeroValue38 rfl) ?_
 rintro w3 _ hE3 ⟨b3,rfl,ge3,hb3⟩
 have HS3:=HS2.new hE3 ge3 hb3
 try simp only [sc0,sc1]
 refine aB<|aj<|wp_seq<|region<|rs (Value.agg #[vL bQ a0.ay.length bT]) (aY (n:=1) (vs:=[vL bQ a0.ay.length bT]) rfl Tryz.isAgg24 (HS3.look 2 rfl) Tryz.sizeOf24 rfl rfl) ?_
 obtain ⟨v1,H1,H⟩:=bJ H
 refine run_eq (v:=vI v1) rfl rfl (bC Tryz.call38 rfl rfl (aP.calls k a0 bQ bT HS3.sees fB gI H1)) ?_
 intro w4 hE4
 have HS4:=HS3.step hE4
 refine rs (vI v1) (aC rfl) ?_
 try simp only [sc0,sc1]
 refine aB<|aj<|wp_seq<|wp_seq<|region<|rs (vI v1) (aK rfl)<|rs (vB (v1==0)) (bK rfl rfl rfl) ?_
 try simp only [sc0,sc1]
 refine aB<|aj ?_
 obtain ⟨xx1,H,G1⟩:=bJ H
 refine lU [11,20,21] (fun us w'=>Fit us (fun uj1=>[vI xx1,(uj1 1),(uj1 2)])∧St [] h0 w0 h0 [(some b3, .cells #[vI 0,vB false,vI 0] 38 (0,0)),(some b2, .cells #[vL lu a1.aQ.length lC] 27 (0,0)),(some b1, .cells #[vL bQ a0.ay.length bT] 24 (0,0))] w') ?_ ?_
 ·refine wp_cond_split (t:=(v1==0)) rfl (fun c1=>?_) (fun c1=>?_)
  ·replace H:=bU H c1
   refine region<|rs (Value.agg #[vL lu a1.aQ.length lC]) (aY (n:=1) (vs:=[vL lu a1.aQ.length lC]) rfl Tryz.isAgg27 (HS4.look 1 rfl) Tryz.sizeOf27 rfl rfl) ?_
   obtain ⟨v2,H2,H⟩:=bJ H
   refine run_eq (v:=vI v2) rfl rfl (bC Tryz.call25 rfl rfl (eH.calls k a1 lu lC HS4.sees qx wY H2)) ?_
   intro w5 hE5
   have HS5:=HS4.step hE5
   refine rs (vI v2) (aC rfl) ?_
   try simp only [sc0,sc1]
   refine aB ?_
   obtain rfl:=Option.some.inj H
   refine pz rfl ⟨(fit rfl),HS5⟩
  ·replace H:=bZ H (nt c1)
   refine wp_skip ?_
   obtain rfl:=Option.some.inj H
   refine pz rfl ⟨(fit rfl),HS4⟩
 ·rintro us w6 ⟨ND,HS6⟩
  obtain ⟨uj1,rfl⟩:=unj ND
  replace H:=G1
  clear G1
  try simp only [patch,sc0,sc1]
  refine wp_seq<|wp_seq<|region<|rs (vI xx1) (aK rfl)<|rs (vB (xx1 !=0)) (bK rfl rfl rfl) ?_
  try simp only [sc0,sc1]
  refine aB<|aj<|wp_cond_split (t:=(xx1 !=0)) rfl (fun c2=>?_) (fun c2=>?_)
  ·replace H:=bU H c2
   refine wp_seq<|region<|rs (vI xx1) (aK rfl)<|rs (Value.agg #[vI 0,vB false,vI xx1]) (iF (cs:=[vI 0,vB false,vI xx1]) (ps:=[(2,vI xx1)]) Tryz.zeroValue38 Tryz.runUnderlying38 (pl:=#[(0,1),(1,1),(2,1)]) (fun w=>by simp [Tryz.sizeOf2,Tryz.sizeOf34,Tryz.sizeOf4]) (jZ (show _=vI xx1 from rfl)) rfl) ?_
   refine gq (i:=0) (cs:=[vI 0,vB false,vI 0]) (cs':=[vI 0,vB false,vI xx1]) (vs:=[vI 0,vB false,vI xx1]) (bs':=[(some b3, .cells #[vI 0,vB false,vI xx1] 38 (0,0)),(some b2, .cells #[vL lu a1.aQ.length lC] 27 (0,0)),(some b1, .cells #[vL bQ a0.ay.length bT] 24 (0,0))]) rfl rfl Tryz.sizeOf38 rfl rfl (by decide) rfl HS6 rfl (Nat.le_of_ble_eq_true rfl) rfl rfl ?_
   intro w7 HS7
   try simp only [sc0,sc1]
   refine aB<|aj<|wp_ret<|aX ?_
   obtain rfl:=Option.some.inj H
   exact bodyPost_ret (aW rfl (iP rfl Tryz.isAgg38 (HS7.look 0 rfl) Tryz.sizeOf38 rfl)) rfl<|⟨rfl,HS7.toE⟩
  ·replace H:=bZ H (nt c2)
   refine wp_skip<|aj<|wp_seq<|region<|rs (Value.agg #[vL bQ a0.ay.length bT]) (aY (n:=1) (vs:=[vL bQ a0.ay.length bT]) rfl Tryz.isAgg24 (HS6.look 2 rfl) Tryz.sizeOf24 rfl rfl)<|rs (vS a2) (aK rfl) ?_
   obtain ⟨v3,H3,H⟩:=bJ H
   refine run_eq (v:=vI v3) rfl rfl (bC Tryz.call39 rfl rfl (dL.calls k a0 a2 bQ bT HS6.sees fB gI H3)) ?_
   intro w8 hE6
   have HS8:=HS6.step hE6
   refine rs (vI v3) (aC rfl) ?_
   try simp only [sc0,sc1]
   refine aB<|aj<|wp_seq<|wp_seq<|region<|rs (vI v3) (aK rfl)<|rs (vB (decide (v3<0))) (bK rfl rfl rfl) ?_
   try simp only [sc0,sc1]
   refine aB<|aj<|wp_cond_split (t:=(decide (v3<0))) rfl (fun c3=>?_) (fun c3=>?_)
   ·replace H:=bU H c3
    refine wp_seq<|region<|rs (Value.agg #[vI 0,vB false,vI 3]) (iF (cs:=[vI 0,vB false,vI 3]) (ps:=[(2,vI 3)]) Tryz.zeroValue38 Tryz.runUnderlying38 (pl:=#[(0,1),(1,1),(2,1)]) (fun w=>by simp [Tryz.sizeOf2,Tryz.sizeOf34,Tryz.sizeOf4]) (jZ (show _=vI 3 from rfl)) rfl) ?_
    refine gq (i:=0) (cs:=[vI 0,vB false,vI 0]) (cs':=[vI 0,vB false,vI 3]) (vs:=[vI 0,vB false,vI 3]) (bs':=[(some b3, .cells #[vI 0,vB false,vI 3] 38 (0,0)),(some b2, .cells #[vL lu a1.aQ.length lC] 27 (0,0)),(some b1, .cells #[vL bQ a0.ay.length bT] 24 (0,0))]) rfl rfl Tryz.sizeOf38 rfl rfl (by decide) rfl HS8 rfl (Nat.le_of_ble_eq_true rfl) rfl rfl ?_
    intro w9 HS9
    try simp only [sc0,sc1]
    refine aB<|aj<|wp_ret<|aX ?_
    obtain rfl:=Option.some.inj H
    exact bodyPost_ret (aW rfl (iP rfl Tryz.isAgg38 (HS9.look 0 rfl) Tryz.sizeOf38 rfl)) rfl<|⟨rfl,HS9.toE⟩
   ·replace H:=bZ H (nt c3)
    refine wp_skip<|aj<|wp_seq<|region<|rs (Value.agg #[vL bQ a0.ay.length bT]) (aY (n:=1) (vs:=[vL bQ a0.ay.length bT]) rfl Tryz.isAgg24 (HS8.look 2 rfl) Tryz.sizeOf24 rfl rfl)<|rs (vI v3) (aK rfl)<|rs (vL QA a4.length QB) (aK rfl) ?_
    obtain ⟨v4,H4,H⟩:=bJ H
    refine run_eq (v:=Value.agg #[vI v4.vType,vI v4.vAt,vI v4.vE]) rfl rfl (bC Tryz.call40 rfl rfl (cZ.calls k a0 v3 a4 bQ bT QA QB HS8.sees fB gI UF UG H4)) ?_
    intro w10 hE7
    have qN:=HS8.step hE7
    refine aI (by simp only [sc0,sc1];rfl) ?_
    refine dK rfl rfl (fA (cs:=#[vI 0,vI 0,vI 0]) Tryz.zeroValue115 rfl) ?_
    rintro w11 _ hE8 ⟨b4,rfl,ge4,hb4⟩
    have wU:=qN.new hE8 ge4 hb4
    refine gq (i:=0) (cs:=[vI 0,vI 0,vI 0]) (cs':=[vI v4.vType,vI v4.vAt,vI v4.vE]) (vs:=[vI v4.vType,vI v4.vAt,vI v4.vE]) (bs':=[(some b4, .cells #[vI v4.vType,vI v4.vAt,vI v4.vE] 115 (0,0)),(some b3, .cells #[vI 0,vB false,vI 0] 38 (0,0)),(some b2, .cells #[vL lu a1.aQ.length lC] 27 (0,0)),(some b1, .cells #[vL bQ a0.ay.length bT] 24 (0,0))]) rfl rfl Tryz.sizeOf115 rfl rfl (by decide) rfl wU rfl (Nat.le_of_ble_eq_true rfl) rfl rfl ?_
    intro w12 sU
    try simp only [sc0,sc1]
    refine aB<|aj<|wp_seq<|wp_seq<|region<|rs (vP b4 2) (aH (n:=1) (o':=2) rfl Tryz.runUnderlying115 rfl Tryz.sizeOf34 (by decide) rfl)<|rs (vI v4.vE) (aN rfl Tryz.isAgg34 (sU.look 0 rfl) rfl)<|rs (vB (v4.vE !=0)) (bK rfl rfl rfl) ?_
    try simp only [sc0,sc1]
    refine aB<|aj<|wp_cond_split (t:=(v4.vE !=0)) rfl (fun c4=>?_) (fun c4=>?_)
    ·replace H:=bU H c4
     refine wp_seq<|region<|rs (vP b4 2) (aH (n:=1) (o':=2) rfl Tryz.runUnderlying115 rfl Tryz.sizeOf34 (by decide) rfl)<|rs (vI v4.vE) (aN rfl Tryz.isAgg34 (sU.look 0 rfl) rfl)<|rs (Value.agg #[vI 0,vB false,vI v4.vE]) (iF (cs:=[vI 0,vB false,vI v4.vE]) (ps:=[(2,vI v4.vE)]) Tryz.zeroValue38 Tryz.runUnderlying38 (pl:=#[(0,1),(1,1),(2,1)]) (fun w=>by simp [Tryz.sizeOf2,Tryz.sizeOf34,Tryz.sizeOf4]) (jZ (show _=vI v4.vE from rfl)) rfl) ?_
     refine gq (i:=1) (cs:=[vI 0,vB false,vI 0]) (cs':=[vI 0,vB false,vI v4.vE]) (vs:=[vI 0,vB false,vI v4.vE]) (bs':=[(some b4, .cells #[vI v4.vType,vI v4.vAt,vI v4.vE] 115 (0,0)),(some b3, .cells #[vI 0,vB false,vI v4.vE] 38 (0,0)),(some b2, .cells #[vL lu a1.aQ.length lC] 27 (0,0)),(some b1, .cells #[vL bQ a0.ay.length bT] 24 (0,0))]) rfl rfl Tryz.sizeOf38 rfl rfl (by decide) rfl sU rfl (Nat.le_of_ble_eq_true rfl) rfl rfl ?_
     intro w13 zy
     try simp only [sc0,sc1]
     refine aB<|aj<|wp_ret<|aX ?_
     obtain rfl:=Option.some.inj H
     exact bodyPost_ret (aW rfl (iP rfl Tryz.isAgg38 (zy.look 1 rfl) Tryz.sizeOf38 rfl)) rfl<|⟨rfl,zy.toE⟩
    ·replace H:=bZ H (nt c4)
     refine wp_skip<|aj<|wp_seq<|region<|rs (Value.agg #[vL bQ a0.ay.length bT]) (aY (n:=1) (vs:=[vL bQ a0.ay.length bT]) rfl Tryz.isAgg24 (sU.look 3 rfl) Tryz.sizeOf24 rfl rfl)<|rs (vP b4 0) (aH (n:=1) (o':=0) rfl Tryz.runUnderlying115 rfl Tryz.sizeOf3 (by decide) rfl)<|rs (vI v4.vType) (aN rfl Tryz.isAgg3 (sU.look 0 rfl) rfl) ?_
     obtain ⟨v5,H5,H⟩:=bJ H
     refine run_eq (v:=Value.tuple #[Value.agg #[vI v5.1.aS,vB v5.1.aO],vB v5.2]) rfl rfl (bC Tryz.call20 rfl rfl (gy.calls k a0 v4.vType bQ bT sU.sees fB gI H5)) ?_
     intro w14 hE9
     have E5:=sU.step hE9
     refine aI (by simp only [sc0,sc1];rfl) ?_
     refine rs (Value.tuple #[Value.agg #[vI v5.1.aS,vB v5.1.aO],vB v5.2]) (aK rfl)<|rs (Value.agg #[vI v5.1.aS,vB v5.1.aO]) (eU rfl rfl)<|rs (vB v5.2) (eU rfl rfl)<|dK rfl rfl (fA (cs:=#[vI 0,vB false]) Tryz.zeroValue29 rfl) ?_
     rintro w15 _ Yc ⟨b5,rfl,ge5,hb5⟩
     have NM:=E5.new Yc ge5 hb5
     refine aI (by simp only [sc0,sc1];rfl) ?_
     refine gq (i:=0) (cs:=[vI 0,vB false]) (cs':=[vI v5.1.aS,vB v5.1.aO]) (vs:=[vI v5.1.aS,vB v5.1.aO]) (bs':=[(some b5, .cells #[vI v5.1.aS,vB v5.1.aO] 29 (0,0)),(some b4, .cells #[vI v4.vType,vI v4.vAt,vI v4.vE] 115 (0,0)),(some b3, .cells #[vI 0,vB false,vI 0] 38 (0,0)),(some b2, .cells #[vL lu a1.aQ.length lC] 27 (0,0)),(some b1, .cells #[vL bQ a0.ay.length bT] 24 (0,0))]) rfl rfl Tryz.sizeOf29 rfl rfl (by decide) rfl NM rfl (Nat.le_of_ble_eq_true rfl) rfl rfl ?_
     intro w16 zT
     refine rs (vB v5.2) (aC rfl) ?_
     try simp only [sc0,sc1]
     refine aB<|aj<|wp_seq<|wp_seq<|region<|rs (vB v5.2) (aK rfl)<|rs (vB (!v5.2)) (kN rfl) ?_
     try simp only [sc0,sc1]
     refine aB<|aj<|wp_cond_split (t:=(!v5.2)) rfl (fun c5=>?_) (fun c5=>?_)
     ·replace H:=bU H c5
      refine wp_seq<|region<|rs (Value.agg #[vI 0,vB false,vI 5]) (iF (cs:=[vI 0,vB false,vI 5]) (ps:=[(2,vI 5)]) Tryz.zeroValue38 Tryz.runUnderlying38 (pl:=#[(0,1),(1,1),(2,1)]) (fun w=>by simp [Tryz.sizeOf2,Tryz.sizeOf34,Tryz.sizeOf4]) (jZ (show _=vI 5 from rfl)) rfl) ?_
      refine gq (i:=2) (cs:=[vI 0,vB false,vI 0]) (cs':=[vI 0,vB false,vI 5]) (vs:=[vI 0,vB false,vI 5]) (bs':=[(some b5, .cells #[vI v5.1.aS,vB v5.1.aO] 29 (0,0)),(some b4, .cells #[vI v4.vType,vI v4.vAt,vI v4.vE] 115 (0,0)),(some b3, .cells #[vI 0,vB false,vI 5] 38 (0,0)),(some b2, .cells #[vL lu a1.aQ.length lC] 27 (0,0)),(some b1, .cells #[vL bQ a0.ay.length bT] 24 (0,0))]) rfl rfl Tryz.sizeOf38 rfl rfl (by decide) rfl zT rfl (Nat.le_of_ble_eq_true rfl) rfl rfl ?_
      intro w17 Ry
      try simp only [sc0,sc1]
      refine aB<|aj<|wp_ret<|aX ?_
      obtain rfl:=Option.some.inj H
      exact bodyPost_ret (aW rfl (iP rfl Tryz.isAgg38 (Ry.look 2 rfl) Tryz.sizeOf38 rfl)) rfl<|⟨rfl,Ry.toE⟩
     ·replace H:=bZ H (nt c5)
      refine wp_skip<|aj<|wp_seq<|wp_seq<|region<|rs (vI a3) (aK rfl)<|rs (vP b4 1) (aH (n:=1) (o':=1) rfl Tryz.runUnderlying115 rfl Tryz.sizeOf3 (by decide) rfl)<|rs (vI v4.vAt) (aN rfl Tryz.isAgg3 (zT.look 1 rfl) rfl)<|rs (vI (w64 (a3+v4.vAt))) (bK rfl rfl rfl)<|aI (by simp only [sc0,sc1];rfl) ?_
      refine rs (vI a3) (aK rfl)<|rs (vB (decide ((w64 (a3+v4.vAt))<a3))) (bK rfl rfl rfl) ?_
      try simp only [sc0,sc1]
      refine aB<|aj<|wp_cond_split (t:=(decide ((w64 (a3+v4.vAt))<a3))) rfl (fun c6=>?_) (fun c6=>?_)
      ·replace H:=bU H c6
       refine wp_seq<|region<|rs (Value.agg #[vI 0,vB false,vI 0]) (oW (cs:=[vI 0,vB false,vI 0]) Tryz.zeroValue38 Tryz.runUnderlying38 (pl:=#[(0,1),(1,1),(2,1)]) (fun w=>by simp [Tryz.sizeOf2,Tryz.sizeOf34,Tryz.sizeOf4]) rfl) ?_
       refine gq (i:=2) (cs:=[vI 0,vB false,vI 0]) (cs':=[vI 0,vB false,vI 0]) (vs:=[vI 0,vB false,vI 0]) (bs':=[(some b5, .cells #[vI v5.1.aS,vB v5.1.aO] 29 (0,0)),(some b4, .cells #[vI v4.vType,vI v4.vAt,vI v4.vE] 115 (0,0)),(some b3, .cells #[vI 0,vB false,vI 0] 38 (0,0)),(some b2, .cells #[vL lu a1.aQ.length lC] 27 (0,0)),(some b1, .cells #[vL bQ a0.ay.length bT] 24 (0,0))]) rfl rfl Tryz.sizeOf38 rfl rfl (by decide) rfl zT rfl (Nat.le_of_ble_eq_true rfl) rfl rfl ?_
       intro w18 Ug
       try simp only [sc0,sc1]
       refine aB<|aj<|wp_ret<|aX ?_
       obtain rfl:=Option.some.inj H
       exact bodyPost_ret (aW rfl (iP rfl Tryz.isAgg38 (Ug.look 2 rfl) Tryz.sizeOf38 rfl)) rfl<|⟨rfl,Ug.toE⟩
      ·replace H:=bZ H (nt c6)
       refine wp_skip<|aj<|wp_seq<|region<|rs (Value.agg #[vL lu a1.aQ.length lC]) (aY (n:=1) (vs:=[vL lu a1.aQ.length lC]) rfl Tryz.isAgg27 (zT.look 3 rfl) Tryz.sizeOf27 rfl rfl)<|rs (vI a3) (aK rfl)<|rs (vP b4 1) (aH (n:=1) (o':=1) rfl Tryz.runUnderlying115 rfl Tryz.sizeOf3 (by decide) rfl)<|rs (vI v4.vAt) (aN rfl Tryz.isAgg3 (zT.look 1 rfl) rfl)<|aI (by simp only [sc0,sc1];rfl) ?_
       refine rs (vI (w64 (a3+v4.vAt))) (bK rfl rfl rfl)<|rs (Value.agg #[vI v5.1.aS,vB v5.1.aO]) (aY (n:=2) (vs:=[vI v5.1.aS,vB v5.1.aO]) rfl Tryz.isAgg29 (zT.look 0 rfl) Tryz.sizeOf29 rfl rfl) ?_
       obtain ⟨v6,H6,H⟩:=bJ H
       refine run_eq (v:=Value.agg #[vI v6.vV,vB v6.vIs,vI v6.vE]) rfl rfl (bC Tryz.call41 rfl rfl (iH.calls k a1 (w64 (a3+v4.vAt)) v5.1 lu lC zT.sees qx wY H6)) ?_
       intro w19 ZW
       have Wu:=zT.step ZW
       refine gq (i:=2) (cs:=[vI 0,vB false,vI 0]) (cs':=[vI v6.vV,vB v6.vIs,vI v6.vE]) (vs:=[vI v6.vV,vB v6.vIs,vI v6.vE]) (bs':=[(some b5, .cells #[vI v5.1.aS,vB v5.1.aO] 29 (0,0)),(some b4, .cells #[vI v4.vType,vI v4.vAt,vI v4.vE] 115 (0,0)),(some b3, .cells #[vI v6.vV,vB v6.vIs,vI v6.vE] 38 (0,0)),(some b2, .cells #[vL lu a1.aQ.length lC] 27 (0,0)),(some b1, .cells #[vL bQ a0.ay.length bT] 24 (0,0))]) rfl rfl Tryz.sizeOf38 rfl rfl (by decide) rfl Wu rfl (Nat.le_of_ble_eq_true rfl) rfl rfl ?_
       intro w20 UO
       try simp only [sc0,sc1]
       refine aB<|aj<|wp_ret ?_
       obtain rfl:=Option.some.inj H
       exact bodyPost_ret (aW rfl (iP rfl Tryz.isAgg38 (UO.look 2 rfl) Tryz.sizeOf38 rfl)) rfl<|⟨rfl,UO.toE⟩
def gZ.f (k:Nat) (a0:bf) (a1:dX) (a2:jr):Option (Bool):=(jW.f).bind fun v1=>((gQ.f k a0 a1 a2.aU a2.vAt a2.qm).bind fun v2=>((dN.f k a0 a1 a2.aU a2.vAt a2.qm).bind fun v3=>(some (((v1&&(v2.1==v3.vV))&&(v2.2.1==v3.vIs))&&(v2.2.2==v3.vE)))))
theorem gZ.calls (k:Nat) (a0:bf) (a1:dX) (a2:jr) (bQ:Option Addr) (bT:Nat) (lu:Option Addr) (lC:Nat) (RP:Option Addr) (RQ:Nat) {h0:View} {w0:World} (hv:jf h0 w0) (ht:Tab w0) (fB:Rd eX h0 bQ a0.ay) (gI:a0.ay.length≤bT) (qx:Rd gJ h0 lu a1.aQ) (wY:a1.aQ.length≤lC) (WY:Rd Kd.str h0 RP a2.qm) (WZ:a2.qm.length≤RQ) {r:Bool} (H:gZ.f k a0 a1 a2=some r):Calls Tryz.prog 3 #[Value.agg #[vL bQ a0.ay.length bT],Value.agg #[vL lu a1.aQ.length lC],Value.agg #[vI a2.vAt,vI a2.vN,vI a2.vT.aS,vB a2.vT.aO,vS a2.aU,vL RP a2.qm.length RQ]] w0 (fun e w1=>e= .returned (vB r)∧Ext w0 w1):=by
 unfold gZ.f at H
 have HS:St [] h0 w0 h0 [] w0:=St.init hv
 go_enter Tryz.func3,Tryz.ntmps3
 refine wp_seq<|region<|dK rfl rfl (dH (cs:=#[vL bQ a0.ay.length bT]) rfl rfl) ?_
 rintro w1 _ hE1 ⟨b1,rfl,ge1,hb1⟩
 have HS1:=HS.new hE1 ge1 hb1
 refine dK rfl rfl (dH (cs:=#[vL lu a1.aQ.length lC]) rfl rfl) ?_
 rintro w2 _ hE2 ⟨b2,rfl,ge2,hb2⟩
 have HS2:=HS1.new hE2 ge2 hb2
 refine dK rfl rfl (dH (cs:=#[vI a2.vAt,vI a2.vN,vI a2.vT.aS,vB a2.vT.aO,vS a2.aU,vL RP a2.qm.length RQ]) rfl rfl) ?_
 rintro w3 _ hE3 ⟨b3,rfl,ge3,hb3⟩
 have HS3:=HS2.new hE3 ge3 hb3
 refine rs (vB false) (aC rfl) ?_
 try simp only [sc0,sc1]
 refine aB<|aj<|wp_seq<|region ?_
 obtain ⟨v1,H1,H⟩:=bJ H
 refine run_eq (v:=vB v1) rfl rfl (bC Tryz.call10 rfl rfl (jW.calls HS3.sees (ht.s HS3) H1)) ?_
 intro w4 hE4
 have HS4:=HS3.step hE4
 refine rs (vB v1) (aC rfl) ?_
 try simp only [sc0,sc1]
 refine aB<|aj<|wp_seq<|region<|rs (Value.agg #[vL bQ a0.ay.length bT]) (aY (n:=1) (vs:=[vL bQ a0.ay.length bT]) rfl Tryz.isAgg24 (HS4.look 2 rfl) Tryz.sizeOf24 rfl rfl)<|rs (Value.agg #[vL lu a1.aQ.length lC]) (aY (n:=1) (vs:=[vL lu a1.aQ.length lC]) rfl Tryz.isAgg27 (HS4.look 1 rfl) Tryz.sizeOf27 rfl rfl)<|rs (vP b3 4) (aH (n:=1) (o':=4) rfl Tryz.runUnderlying32 rfl Tryz.sizeOf9 (by decide) rfl)<|rs (vS a2.aU) (aN rfl Tryz.isAgg9 (HS4.look 0 rfl) rfl)<|aI (by simp only [sc0,sc1];rfl) ?_
 refine rs (vP b3 0) (aH (n:=1) (o':=0) rfl Tryz.runUnderlying32 rfl Tryz.sizeOf2 (by decide) rfl)<|rs (vI a2.vAt) (aN rfl Tryz.isAgg2 (HS4.look 0 rfl) rfl)<|rs (vP b3 5) (aH (n:=1) (o':=5) rfl Tryz.runUnderlying32 rfl Tryz.sizeOf30 (by decide) rfl)<|rs (vL RP a2.qm.length RQ) (aN rfl Tryz.isAgg30 (HS4.look 0 rfl) rfl)<|aI (by simp only [sc0,sc1];rfl) ?_
 obtain ⟨v2,H2,H⟩:=bJ H
 refine run_eq (v:=Value.tuple #[vI v2.1,vB v2.2.1,vI v2.2.2]) rfl rfl (bC Tryz.call11 rfl rfl (gQ.calls k a0 a1 a2.aU a2.vAt a2.qm bQ bT lu lC RP RQ HS4.sees fB gI qx wY WY WZ H2)) ?_
 intro w5 hE5
 have HS5:=HS4.step hE5
 refine rs (Value.tuple #[vI v2.1,vB v2.2.1,vI v2.2.2]) (aK rfl)<|rs (vI v2.1) (eU rfl rfl)<|rs (vB v2.2.1) (eU rfl rfl)<|aI (by simp only [sc0,sc1];rfl) ?_
 refine rs (vI v2.2.2) (eU rfl rfl)<|rs (vI v2.1) (aC rfl)<|rs (vB v2.2.1) (aC rfl)<|rs (vI v2.2.2) (aC rfl) ?_
 try simp only [sc0,sc1]
 refine aB<|aj<|wp_seq<|region<|rs (Value.agg #[vL bQ a0.ay.length bT]) (aY (n:=1) (vs:=[vL bQ a0.ay.length bT]) rfl Tryz.isAgg24 (HS5.look 2 rfl) Tryz.sizeOf24 rfl rfl)<|rs (Value.agg #[vL lu a1.aQ.length lC]) (aY (n:=1) (vs:=[vL lu a1.aQ.length lC]) rfl Tryz.isAgg27 (HS5.look 1 rfl) Tryz.sizeOf27 rfl rfl)<|rs (vP b3 4) (aH (n:=1) (o':=4) rfl Tryz.runUnderlying32 rfl Tryz.sizeOf9 (by decide) rfl)<|rs (vS a2.aU) (aN rfl Tryz.isAgg9 (HS5.look 0 rfl) rfl)<|aI (by simp only [sc0,sc1];rfl) ?_
 refine rs (vP b3 0) (aH (n:=1) (o':=0) rfl Tryz.runUnderlying32 rfl Tryz.sizeOf2 (by decide) rfl)<|rs (vI a2.vAt) (aN rfl Tryz.isAgg2 (HS5.look 0 rfl) rfl)<|rs (vP b3 5) (aH (n:=1) (o':=5) rfl Tryz.runUnderlying32 rfl Tryz.sizeOf30 (by decide) rfl)<|rs (vL RP a2.qm.length RQ) (aN rfl Tryz.isAgg30 (HS5.look 0 rfl) rfl)<|aI (by simp only [sc0,sc1];rfl) ?_
 obtain ⟨v3,H3,H⟩:=bJ H
 refine run_eq (v:=Value.agg #[vI v3.vV,vB v3.vIs,vI v3.vE]) rfl rfl (bC Tryz.call12 rfl rfl (dN.calls k a0 a1 a2.aU a2.vAt a2.qm bQ bT lu lC RP RQ HS5.sees fB gI qx wY WY WZ H3)) ?_
 intro w6 hE6
 have HS6:=HS5.step hE6
 refine dK rfl rfl (fA (cs:=#[vI 0,vB false,vI 0]) Tryz.zeroValue38 rfl) ?_
 rintro w7 _ hE7 ⟨b4,rfl,ge4,hb4⟩
 have HS7:=HS6.new hE7 ge4 hb4
 refine gq (i:=0) (cs:=[vI 0,vB false,vI 0]) (cs':=[vI v3.vV,vB v3.vIs,vI v3.vE]) (vs:=[vI v3.vV,vB v3.vIs,vI v3.vE]) (bs':=[(some b4, .cells #[vI v3.vV,vB v3.vIs,vI v3.vE] 38 (0,0)),(some b3, .cells #[vI a2.vAt,vI a2.vN,vI a2.vT.aS,vB a2.vT.aO,vS a2.aU,vL RP a2.qm.length RQ] 32 (0,0)),(some b2, .cells #[vL lu a1.aQ.length lC] 27 (0,0)),(some b1, .cells #[vL bQ a0.ay.length bT] 24 (0,0))]) rfl rfl Tryz.sizeOf38 rfl rfl (by decide) rfl HS7 rfl (Nat.le_of_ble_eq_true rfl) rfl rfl ?_
 intro w8 HS8
 try simp only [sc0,sc1]
 refine aB<|aj<|wp_seq<|region<|rs (vB v1) (aK rfl)<|rs (vB v1) (aK rfl)<|rgs v1 true (vI v2.1) rfl rfl rfl rfl (fun hg=>(aK rfl))<|rgs v1 true (vP b4 0) rfl rfl rfl rfl (fun hg=>(aH (n:=1) (o':=0) rfl Tryz.runUnderlying38 rfl Tryz.sizeOf2 (by decide) rfl))<|aI (by simp only [sc0,sc1];rfl) ?_
 refine rgs v1 true (vI v3.vV) rfl rfl rfl rfl (fun hg=>(aN (gvt (vP b4 0) hg rfl) Tryz.isAgg2 (HS8.look 0 rfl) rfl))<|rgs v1 true (vB (v2.1==v3.vV)) rfl rfl rfl rfl (fun hg=>(bK (gvt (vI v2.1) hg rfl) (gvt (vI v3.vV) hg rfl) rfl))<|rs (vB (v1&&(v2.1==v3.vV))) (dw rfl (fun hp=>(gvt (vB (v2.1==v3.vV)) (gu rfl hp) rfl)) rfl)<|rs (vB (v1&&(v2.1==v3.vV))) (aK rfl)<|aI (by simp only [sc0,sc1];rfl) ?_
 refine rgs (v1&&(v2.1==v3.vV)) true (vB v2.2.1) rfl rfl rfl rfl (fun hg=>(aK rfl))<|rgs (v1&&(v2.1==v3.vV)) true (vP b4 1) rfl rfl rfl rfl (fun hg=>(aH (n:=1) (o':=1) rfl Tryz.runUnderlying38 rfl Tryz.sizeOf4 (by decide) rfl))<|rgs (v1&&(v2.1==v3.vV)) true (vB v3.vIs) rfl rfl rfl rfl (fun hg=>(aN (gvt (vP b4 1) hg rfl) Tryz.isAgg4 (HS8.look 0 rfl) rfl))<|rgs (v1&&(v2.1==v3.vV)) true (vB (v2.2.1==v3.vIs)) rfl rfl rfl rfl (fun hg=>(Kv (gvt (vB v2.2.1) hg rfl) (gvt (vB v3.vIs) hg rfl) Tryz.runUnderlying4))<|aI (by simp only [sc0,sc1];rfl) ?_
 refine rs (vB ((v1&&(v2.1==v3.vV))&&(v2.2.1==v3.vIs))) (dw rfl (fun hp=>(gvt (vB (v2.2.1==v3.vIs)) (gu rfl hp) rfl)) rfl)<|rs (vB ((v1&&(v2.1==v3.vV))&&(v2.2.1==v3.vIs))) (aK rfl)<|rgs ((v1&&(v2.1==v3.vV))&&(v2.2.1==v3.vIs)) true (vI v2.2.2) rfl rfl rfl rfl (fun hg=>(aK rfl))<|rgs ((v1&&(v2.1==v3.vV))&&(v2.2.1==v3.vIs)) true (vP b4 2) rfl rfl rfl rfl (fun hg=>(aH (n:=1) (o':=2) rfl Tryz.runUnderlying38 rfl Tryz.sizeOf34 (by decide) rfl))<|aI (by simp only [sc0,sc1];rfl) ?_
 refine rgs ((v1&&(v2.1==v3.vV))&&(v2.2.1==v3.vIs)) true (vI v3.vE) rfl rfl rfl rfl (fun hg=>(aN (gvt (vP b4 2) hg rfl) Tryz.isAgg34 (HS8.look 0 rfl) rfl))<|rgs ((v1&&(v2.1==v3.vV))&&(v2.2.1==v3.vIs)) true (vB (v2.2.2==v3.vE)) rfl rfl rfl rfl (fun hg=>(bK (gvt (vI v2.2.2) hg rfl) (gvt (vI v3.vE) hg rfl) rfl))<|rs (vB (((v1&&(v2.1==v3.vV))&&(v2.2.1==v3.vIs))&&(v2.2.2==v3.vE))) (dw rfl (fun hp=>(gvt (vB (v2.2.2==v3.vE)) (gu rfl hp) rfl)) rfl)<|rs (vB (((v1&&(v2.1==v3.vV))&&(v2.2.1==v3.vIs))&&(v2.2.2==v3.vE))) (aC rfl) ?_
 try simp only [sc0,sc1]
 refine aB<|aj<|wp_ret ?_
 obtain rfl:=Option.some.inj H
 exact bodyPost_ret (aW rfl (aV rfl)) rfl<|⟨rfl,HS8.toE⟩
section
variable {t:bf} {l:List Int}
def zN (name:ByteArray) (d:bV):Bool:=mJ d&&strEq d.aU name
def zO (t:bf) (name:ByteArray):Int:=if t.ay.any (zN name)=true then ((t.ay.findIdx (zN name):Nat):Int) else-1
theorem UH (hn:t.ay.length≤200) (name:ByteArray):Ev (fun k=>ou.f k t name) (zO t name):=by
 refine ⟨t.ay.length+1,fun k hk=>?_⟩
 show ou.f k t name=_
 unfold ou.f bG.f zO
 have:=BJ (l:=t.ay) (p:=fun z0=>nK.f z0 name) (q:=zN name) (fun z hz=>rfl) (by omega) t.ay.length 0 k (by omega) (by omega)
 rw [show bG.l0 t.ay _ k 0=_ from this,List.drop_zero]
 cases t.ay.any (zN name)<;>simp
theorem J3 {name:ByteArray} (hl:t.ay.length≤9223372036854775807):∀(d j m:Nat),j+d=t.ay.length→d<m→
    dL.l0 t name m (j:Int)=some (if ((t.ay.drop j).any (zN name))=true then .inl (((j+(t.ay.drop j).findIdx (zN name):Nat)):Int) else .inr ()):=by
  intro d
  induction d with
  | zero =>
    intro j m hj hm
    obtain ⟨m,rfl⟩:∃q,m=q+1:=⟨m-1,by omega⟩
    rw [dL.l0,if_neg (by simp;omega),List.drop_eq_nil_of_le (by omega)]
    rfl
  | succ d ih =>
    intro j m hj hm
    obtain ⟨m,rfl⟩:∃q,m=q+1:=⟨m-1,by omega⟩
    have hlt:j<t.ay.length:=by omega
    rw [dL.l0,if_pos (by simp;omega),if_pos (by omega),gG,je ah hlt]
    simp only [dU.f,Option.bind_some]
    rw [if_pos (fun _=>by omega)]
    show (if zN name (t.ay.getD j ah)=true then _ else _)=_
    cases hb:zN name (t.ay.getD j ah) with
    | true =>
      rw [if_pos rfl]
      simp only [List.any_cons,hb,Bool.true_or,if_true,List.findIdx_cons,cond_true,Nat.add_zero]
    | false =>
      rw [if_neg (by simp),fP hlt hl,ih (j+1) m (by omega) (by omega)]
      simp only [List.any_cons,hb,Bool.false_or,List.findIdx_cons,cond_false]
      split
      · congr 2;omega
      · rfl
theorem QC (hn:t.ay.length≤200) (name:ByteArray):Ev (fun k=>dL.f k t name) (zO t name):=by
 refine ⟨t.ay.length+1,fun k hk=>?_⟩
 show dL.f k t name=_
 unfold dL.f zO
 have:=J3 (t:=t) (name:=name) (by omega) t.ay.length 0 k (by omega) (by omega)
 rw [show dL.l0 t name k 0=_ from this,List.drop_zero]
 cases t.ay.any (zN name)<;>simp
theorem QD (name:ByteArray) (h:¬zO t name<0):∃i:Nat,zO t name=(i:Int)∧i<t.ay.length:=by
  unfold zO at h⊢
  cases hb:t.ay.any (zN name) with
  |false=>rw [hb] at h;simp at h
  | true =>
    refine ⟨t.ay.findIdx (zN name),by rw [if_pos rfl],?_⟩
    obtain ⟨d,hd,hq⟩:=List.any_eq_true.1 hb
    exact List.findIdx_lt_length_of_exists ⟨d,hd,hq⟩
theorem OO (hF:∀d∈t.ay,ER d) (W:Wf t l) (name:ByteArray):Ev (fun k=>dL.f k t name) (zO t name)∧Ev (fun k=>kM.f k t name) (if zO t name<0 then (0,3) else (zO t name,0)):=by
 refine ⟨QC W.few name,?_⟩
 rcases qy hF with ⟨l2,W2,⟨K,hK⟩⟩|⟨hno,_⟩
 ·obtain ⟨K3,hK3⟩:=UH W.few name
  refine ⟨max K K3,fun k hk=>?_⟩
  show kM.f k t name=_
  unfold kM.f
  rw [show dF.f k t=_ from hK k (by omega)]
  simp only [Option.bind_some]
  rw [if_neg (by decide),show ou.f k t name=_ from hK3 k (by omega)]
  simp only [Option.bind_some,decide_eq_true_eq]
  split<;>rfl
 ·exact absurd W (hno l)
def Y2 (m:dX):Prop:=uz m.aQ
theorem GV (hF : ∀ d ∈ t.ay, ER d) {m : dX} (hI : Y2 m) (name : ByteArray) {a : Int} (ha : In64 a) (p : List ByteArray) :
    ∃x:Int×Bool×Int,Ev (fun k=>gQ.f k t m name a p) x∧Ev (fun k=>dN.f k t m name a p) (DN x):=by
  obtain ⟨e,⟨K1,h1⟩,⟨K2,h2⟩⟩:=JQ hF
  by_cases he:e=0
  · subst he
    by_cases hc:RJ m=0
    · obtain ⟨hl, hO⟩ := WU hc
      rcases qy hF with ⟨l,W,hv⟩|⟨hno,⟨K,hK⟩⟩
      · obtain ⟨⟨K3,h3⟩,⟨K4,h4⟩⟩:=OO hF W name
        by_cases hneg:zO t name<0
        · rw [if_pos hneg] at h4
          refine ⟨(0,false,3),⟨max K1 K4,fun k hk=>?_⟩,⟨max (max K2 K3) 201,fun k hk=>?_⟩⟩
          · show gQ.f k t m name a p=_
            unfold gQ.f
            rw [show jc.f k t=_ from h1 k (by omega)]
            simp only [Option.bind_some]
            rw [if_neg (by decide),OH,hc]
            simp only [Option.bind_some]
            rw [if_neg (by decide),show kM.f k t name=_ from h4 k (by omega)]
            rfl
          · show dN.f k t m name a p=_
            unfold dN.f
            rw [show aP.f k t=_ from h2 k (by omega)]
            simp only [Option.bind_some]
            rw [if_pos (by decide),OI m (by omega),hc]
            simp only [Option.bind_some]
            rw [if_neg (by decide),show dL.f k t name=_ from h3 k (by omega)]
            simp only [Option.bind_some]
            rw [if_pos (by simpa using hneg)]
            rfl
        · rw [if_neg hneg] at h4
          obtain ⟨i,hi,hil⟩:=QD name hneg
          rw [hi] at h3 h4
          obtain ⟨x,⟨K5,p1⟩,⟨K6,p2⟩,hx⟩:=Qw hF W hil p
          have hP:∀k,max K1 (max K4 K5)≤k→gQ.f k t m name a p=(if (x.2.2 !=0)=true then (some (0,false,x.2.2)) else ((jd.f k t x.1).bind fun v5=>(if (!v5.2)=true then (some (0,false,5)) else ((mM.f k m (IntKind.wrap .i64 (a+x.2.1)) v5.1).bind fun v6=>(some (v6.1,v6.2.1,v6.2.2)))))):=fun k hk=>by
            unfold gQ.f
            rw [show jc.f k t=_ from h1 k (by omega)]
            simp only [Option.bind_some]
            rw [if_neg (by decide),OH,hc]
            simp only [Option.bind_some]
            rw [if_neg (by decide),show kM.f k t name=_ from h4 k (by omega)]
            simp only [Option.bind_some]
            rw [if_neg (by decide),show gY.f k t (i:Int) p=_ from p1 k (by omega)]
            rfl
          have hR:∀k,max (max K2 K3) (max K6 201)≤k→dN.f k t m name a p=(if (x.2.2 !=0)=true then (some (⟨0,false,x.2.2⟩:dZ)) else ((gy.f k t x.1).bind fun v5=>(if (!v5.2)=true then (some (⟨0,false,5⟩:dZ)) else (if (decide ((IntKind.wrap .i64 (a+x.2.1))<a))=true then (some (⟨0,false,0⟩:dZ)) else ((iH.f k m (IntKind.wrap .i64 (a+x.2.1)) v5.1).bind fun v6=>(some v6)))))):=fun k hk=>by
            unfold dN.f
            rw [show aP.f k t=_ from h2 k (by omega)]
            simp only [Option.bind_some]
            rw [if_pos (by decide),OI m (by omega),hc]
            simp only [Option.bind_some]
            rw [if_neg (by decide),show dL.f k t name=_ from h3 k (by omega)]
            simp only [Option.bind_some]
            rw [if_neg (by simp),show cZ.f k t (i:Int) p=_ from p2 k (by omega)]
            rfl
          by_cases h0:x.2.2=0
          · obtain ⟨y,o,rfl,hy,hyo⟩:=hx h0
            obtain ⟨s,⟨K7,s1⟩,⟨K8,s2⟩,hs⟩:=GN hF W hy
            by_cases hsc:s.2=true
            · obtain ⟨n,hn,hn4,hln⟩:=hs hsc
              have hi2:=Qv W i (by rw [W.sz.len];exact hil)
              have ho:(o:Int)≤512:=by omega
              have hw:In64 (IntKind.wrap .i64 (a+(o:Int))):=i64_in _
              refine ⟨UE s.1 (zM m.aQ (IntKind.wrap .i64 (a+(o:Int))) n 0 []),⟨max (max K1 (max K4 K5)) (max K7 300),fun k hk=>?_⟩,⟨max (max (max K2 K3) (max K6 201)) (max K8 4097),fun k hk=>?_⟩⟩
              · show gQ.f k t m name a p=_
                rw [hP k (by omega),if_neg (by simp),show jd.f k t (y:Int)=_ from s1 k (by omega)]
                simp only [Option.bind_some]
                rw [if_neg (by simp [hsc]),Yq hl hO hI hw hn hn4 (by omega)]
                rfl
              · show dN.f k t m name a p=_
                rw [hR k (by omega),if_neg (by simp),show gy.f k t (y:Int)=_ from s2 k (by omega)]
                simp only [Option.bind_some]
                rw [if_neg (by simp [hsc])]
                by_cases hlt:IntKind.wrap .i64 (a+(o:Int))<a
                · rw [if_pos (by simpa using hlt)]
                  have hbig:IntKind.wrap .i64 (a+(o:Int))<0:=by
                    unfold In64 at ha
                    rw [UQ] at hlt⊢
                    split at hlt<;>rename_i hh
                    · rw [if_pos hh];omega
                    · rw [if_neg hh];omega
                  have hnone:zM m.aQ (IntKind.wrap .i64 (a+(o:Int))) n 0 []=none:=by
                    obtain ⟨n,rfl⟩:∃q,n=q+1:=⟨n-1,by omega⟩
                    rw [zM,DL hO (.inr (by simpa using hbig))]
                  rw [hnone]
                  rfl
                · rw [if_neg (by simpa using hlt),WX hl hO hI hw hn hn4 (by omega)]
                  rfl
            · refine ⟨(0,false,5),⟨max (max K1 (max K4 K5)) K7,fun k hk=>?_⟩,⟨max (max (max K2 K3) (max K6 201)) K8,fun k hk=>?_⟩⟩
              · show gQ.f k t m name a p=_
                rw [hP k (by omega),if_neg (by simp),show jd.f k t (y:Int)=_ from s1 k (by omega)]
                simp only [Option.bind_some]
                rw [if_pos (by simp [hsc])]
              · show dN.f k t m name a p=_
                rw [hR k (by omega),if_neg (by simp),show gy.f k t (y:Int)=_ from s2 k (by omega)]
                simp only [Option.bind_some]
                rw [if_pos (by simp [hsc])]
                rfl
          · refine ⟨(0,false,x.2.2),⟨max K1 (max K4 K5),fun k hk=>?_⟩,⟨max (max K2 K3) (max K6 201),fun k hk=>?_⟩⟩
            · show gQ.f k t m name a p=_
              rw [hP k hk,if_pos (by simp [h0])]
            · show dN.f k t m name a p=_
              rw [hR k hk,if_pos (by simp [h0])]
              rfl
      · have hbad : Ev (fun k => jc.f k t) 80 := ⟨K, fun k hk => by
          show jc.f k t=_
          unfold jc.f
          rw [show dF.f k t=_ from hK k hk]
          rfl⟩
        exact absurd (Ev.uniq ⟨K1,h1⟩ hbad) (by decide)
    · refine ⟨(0,false,RJ m),⟨K1,fun k hk=>?_⟩,⟨max K2 201,fun k hk=>?_⟩⟩
      · show gQ.f k t m name a p=_
        unfold gQ.f
        rw [show jc.f k t=_ from h1 k hk]
        simp only [Option.bind_some]
        rw [if_neg (by decide),OH]
        simp only [Option.bind_some]
        rw [if_pos (by simp [hc])]
      · show dN.f k t m name a p=_
        unfold dN.f
        rw [show aP.f k t=_ from h2 k (by omega)]
        simp only [Option.bind_some]
        rw [if_pos (by decide),OI m (by omega)]
        simp only [Option.bind_some]
        rw [if_pos (by simp [hc])]
        rfl
  · refine ⟨(0,false,e),⟨K1,fun k hk=>?_⟩,⟨K2,fun k hk=>?_⟩⟩
    · show gQ.f k t m name a p=_
      unfold gQ.f
      rw [show jc.f k t=_ from h1 k hk]
      simp only [Option.bind_some]
      rw [if_pos (by simp [he])]
    · show dN.f k t m name a p=_
      unfold dN.f
      rw [show aP.f k t=_ from h2 k hk]
      simp only [Option.bind_some]
      rw [if_neg (by simp [he])]
      simp only [Option.bind_some]
      rw [if_pos (by simp [he])]
      rfl
theorem GX (hF:∀d∈t.ay,ER d) {m:dX} (hI:Y2 m) {x:jr} (ha:In64 x.vAt):∃K,∀k,K≤k→gZ.f k t m x=some true:=by
 obtain ⟨y,⟨K1,h1⟩,⟨K2,h2⟩⟩:=GV hF hI x.aU ha x.qm
 refine ⟨max K1 K2,fun k hk=>?_⟩
 unfold gZ.f
 simp only [jW.f,Option.bind_some]
 rw [show gQ.f k t m x.aU x.vAt x.qm=_ from h1 k (by omega)]
 simp only [Option.bind_some]
 rw [show dN.f k t m x.aU x.vAt x.qm=_ from h2 k (by omega)]
 simp [DN]
end
end Go.Proofs.YtecpbadkdpbkpaaGreatDoor
namespace Go.Proofs.YtecpbadkdpbkpaaGreatDoor
open Go.ChangeShapes Go.WideShapes Go.ChangeAt Go.RowKit Go.M
set_option maxRecDepth 100000
section
variable {H:Type} {enc:TypeId×Value→H} {W:World}
theorem Y3:Opn enc Tryz.prog W 29 zu (fun _=>True):=
 (yL (fun p=>(⟨p.1,p.2⟩:eP)) (fun _=>rfl) (oI Tryz.underlying29 (by kernel_rfl) (lJ op3 rfl (tY op4 rfl)))).weak fun _ _=>trivial
theorem Yr:Opn enc Tryz.prog W 129 fM (fun f=>f.aU.size≤9223372036854775807):=
 (yL (fun p=>(⟨p.1,p.2.1,p.2.2⟩:dP)) (fun _=>rfl) (oI Tryz.underlying129 (by kernel_rfl) (lJ op9 rfl (lJ op3 rfl (tY op3 rfl))))).weak fun _ h=>Jr h.1
theorem ZX:Opn enc Tryz.prog W 56 eX ER:=
 (yL (fun p => (⟨p.1, p.2.1, p.2.2.1, p.2.2.2.1, p.2.2.2.2.1, p.2.2.2.2.2⟩ : bV)) (fun _ => rfl) (oI Tryz.underlying56 (by kernel_rfl)
  (lJ op3 rfl (lJ op9 rfl (lJ Y3 rfl (lJ op3 rfl (lJ op3 rfl (tY (uP Yr Tryz.underlying54 (by kernel_rfl)) rfl)))))))).weak fun _ h => ⟨Jr h.2.1, Jr h.2.2.2.2.2.1, h.2.2.2.2.2.2⟩
def Y4 (t:bf):Prop:=t.ay.length≤9223372036854775807∧∀d∈t.ay,ER d
theorem ZY:Opn enc Tryz.prog W 24 Gl Y4:=
 (yL (fun p=>(⟨p⟩:bf)) (fun _=>rfl) (oI Tryz.underlying24 (by kernel_rfl) (tY (uP ZX Tryz.underlying22 (by kernel_rfl)) rfl))).weak fun _ h=>⟨Jr h.1,h.2⟩
theorem Z4:Opn enc Tryz.prog W 30 (Kd.slice Kd.str) (fun xs=>xs.length≤maxLen∧∀s∈xs,s.size≤maxLen):=uP op9 Tryz.underlying30 (by kernel_rfl)
theorem Yt {b:Nat} {v:Value} {d:DataW H} {p:List MemPlace} (hval:Value.okWide Tryz.prog W .any b 24 v) (h:DataW.Trod enc Tryz.prog W 0 (fun _=>true) true 24 v d p):
  ∃(t:bf) (A:Option Addr) (c:Nat),v= .agg #[.slice A t.ay.length c]∧Rd eX (vw W) A t.ay∧t.ay.length≤c∧Y4 t:=by
 obtain ⟨cs,rfl,_⟩:=okWide_struct Tryz.underlying24 hval
 obtain ⟨fuel,hf⟩:=h
 obtain ⟨t,⟨A,c,hcs,hc,hr⟩,hF⟩:=ZY.open_ _ _ _ hf
 refine ⟨t,A,c,?_,hr,hc,hF⟩
 have:cs.toList=[.slice A t.ay.length c]:=hcs
 rw [←Array.toArray_toList (xs:=cs),this]
end
end Go.Proofs.YtecpbadkdpbkpaaGreatDoor
namespace Go.Proofs.YtecpbadkdpbkpaaGreatDoor
open Go.ChangeShapes Go.WideShapes Go.ChangeAt Go.RowKit Go.M
set_option maxRecDepth 100000
section
variable {H:Type} {enc:TypeId×Value→H} {W:World}
theorem wf8 {n:Int} (h:(Lit.int .u8 n).wf=true):0≤n∧n≤255:=by
 simp [Lit.wf,IntKind.min,IntKind.max,IntKind.bits,IntKind.signed] at h
 omega
theorem op5:Opn enc Tryz.prog W 5 (Kd.int .u8) (fun n=>(Lit.int .u8 n).wf=true):=KI Tryz.underlying5 (by kernel_rfl)
theorem Z5:Opn enc Tryz.prog W 58 gJ (fun s=>s.bF.length≤9223372036854775807∧Byt s.bF):=
 (yL (fun p=>(⟨p.1,p.2⟩:bY)) (fun _=>rfl) (oI Tryz.underlying58 (by kernel_rfl) (lJ op2 rfl (tY (uP op5 Tryz.underlying42 (by kernel_rfl)) rfl)))).weak fun _ h=>⟨Jr h.2.1,fun b hb=>wf8 (h.2.2 b hb)⟩
theorem Z7:Opn enc Tryz.prog W 27 Gm (fun m=>uz m.aQ∧m.aQ.length≤9223372036854775807∧∀s∈m.aQ,s.bF.length≤9223372036854775807):=
 (yL (fun p=>(⟨p⟩:dX)) (fun _=>rfl) (oI Tryz.underlying27 (by kernel_rfl) (tY (uP Z5 Tryz.underlying25 (by kernel_rfl)) rfl))).weak fun _ h=>⟨fun s hs=>(h.2 s hs).2,Jr h.1,fun s hs=>(h.2 s hs).1⟩
theorem Z8:Opn enc Tryz.prog W 32 sZ (fun x=>(-9223372036854775808≤x.vAt∧x.vAt≤9223372036854775807)∧-9223372036854775808≤x.vN∧x.vN≤9223372036854775807):=
 (yL (fun p => (⟨p.1, p.2.1, p.2.2.1, p.2.2.2.1, p.2.2.2.2⟩ : jr)) (fun _ => rfl) (oI Tryz.underlying32 (by kernel_rfl)
  (lJ op2 rfl (lJ op3 rfl (lJ Y3 rfl (lJ op9 rfl (tY Z4 rfl))))))).weak fun _ h => ⟨wf64 h.1, wf64 h.2.1⟩
theorem Yu {b:Nat} {v:Value} {d:DataW H} {p:List MemPlace} (hval:Value.okWide Tryz.prog W .any b 27 v) (h:DataW.Trod enc Tryz.prog W 0 (fun _=>true) true 27 v d p):
  ∃(m:dX) (A:Option Addr) (c:Nat),v= .agg #[.slice A m.aQ.length c]∧Rd gJ (vw W) A m.aQ∧m.aQ.length≤c∧uz m.aQ∧m.aQ.length≤9223372036854775807∧∀s∈m.aQ,s.bF.length≤9223372036854775807:=by
 obtain ⟨cs,rfl,_⟩:=okWide_struct Tryz.underlying27 hval
 obtain ⟨fuel,hf⟩:=h
 obtain ⟨m,⟨A,c,hcs,hc,hr⟩,hF⟩:=Z7.open_ _ _ _ hf
 refine ⟨m,A,c,?_,hr,hc,hF⟩
 have:cs.toList=[.slice A m.aQ.length c]:=hcs
 rw [←Array.toArray_toList (xs:=cs),this]
theorem Yv {b:Nat} {v:Value} {d:DataW H} {p:List MemPlace} (hval:Value.okWide Tryz.prog W .any b 32 v) (h:DataW.Trod enc Tryz.prog W 0 (fun _=>true) true 32 v d p):
    ∃ (x : jr) (A : Option Addr) (c : Nat), v = .agg #[.int .i64 x.vAt, .int .i64 x.vN, .int .i64 x.vT.aS, .bool x.vT.aO, .string x.aU, .slice A x.qm.length c] ∧ Rd Kd.str (vw W) A x.qm ∧ x.qm.length ≤ c ∧
      (-9223372036854775808≤x.vAt∧x.vAt≤9223372036854775807)∧-9223372036854775808≤x.vN∧x.vN≤9223372036854775807:=by
  obtain ⟨cs,rfl,_⟩:=okWide_struct Tryz.underlying32 hval
  obtain ⟨fuel,hf⟩:=h
  obtain ⟨x,hK,hF⟩:=Z8.open_ _ _ _ hf
  obtain ⟨_,_,e1,rfl,⟨_,_,rfl,rfl,⟨_,_,rfl,⟨_,_,rfl,rfl,rfl⟩,⟨_,_,rfl,rfl,⟨A,c,rfl,hc,hr⟩⟩⟩⟩⟩:=hK
  refine ⟨x,A,c,?_,hr,hc,hF⟩
  have:cs.toList=[.int .i64 x.vAt, .int .i64 x.vN, .int .i64 x.vT.aS, .bool x.vT.aO, .string x.aU, .slice A x.qm.length c]:=e1
  rw [←Array.toArray_toList (xs:=cs),this]
end
end Go.Proofs.YtecpbadkdpbkpaaGreatDoor
