/- Parts of a proof, merged by program: F26 R1 R2 F76 F37 F64 F128 F84 F41 R3 G2 F122 F75 F35 F11 F39 F12 F3 R4 F87 F45 F14 F21 F86 F43 F13 L1 F4 L2 R7 F6 R8 C2. The walks (each function once) and the plain laws; no condition of their own. -/
import Derived.Test.YtecpbadkdpbkpaaGreatDoorBak5
set_option linter.unusedVariables false
set_option linter.unusedSimpArgs false
set_option maxRecDepth 20000
set_option maxHeartbeats 4000000
/-image.Check:its loop runs over a function (segments):the iterator's contract,and the walk of the loop's body in a round. -/
namespace Go.Proofs.YtecpbadkdpbkpaaGreatDoor
open Go.RowKit Go.M
/-- what a round keeps: all cells -/
structure Kc (A B:World):Prop where
 os:B.os=A.os
 tape:B.tape=A.tape
 output:B.output=A.output
 size:A.heap.size≤B.heap.size
 cells:∀(k:Nat) (o:Obj),A.heap[k]?=some o→o.isCells=true→B.heap[k]?=some o
theorem Kc.ext {A B:World} (h:Ext A B):Kc A B:=⟨h.os,h.tape,h.output,h.size,fun k o hk _=>(h.block k (Array.getElem?_eq_some_iff.1 hk).1).trans hk⟩
theorem Kc.trans {A B C:World} (h:Kc A B) (k:Kc B C):Kc A C:=
 ⟨k.os.trans h.os,k.tape.trans h.tape,k.output.trans h.output,Nat.le_trans h.size k.size,fun i o hi ho=>k.cells i o (h.cells i o hi ho) ho⟩
theorem Kc.sees {A B:World} {h:View} (k:Kc A B) (hs:Sees h A):Sees h B:=fun a v e=>by
 have hc:=hs a v e
 unfold World.cell? at hc⊢
 cases ho:A.heap[a.block]? with
 |none=>simp [ho] at hc
 |some o=>
  cases o with
  |cells vs t f=>rw [k.cells _ _ ho rfl];rw [ho] at hc;exact hc
  |_=>simp [ho] at hc
theorem Kc.put (W:World) (l:Nat) (o o':Obj) (hl:W.heap[l]?=some o) (hc:o.isCells=false):Kc W (W.putObj l o'):=
 ⟨rfl,rfl,rfl,by simp [World.putObj],fun k p hk hp=>by
  by_cases e:k=l
  ·subst e;rw [hl] at hk;cases hk;rw [hc] at hp;cases hp
  ·exact (World.putObj_heap_other e).trans hk⟩
/-- what a round is handed: where the segment ahead ends, and the segment -/
abbrev SegR (h0:View):={x:Int×api_Segment×Option Addr×Nat//Rd (Kd.int .u8) h0 x.2.2.1 x.2.1.vBytes∧x.2.1.vBytes.length≤x.2.2.2}
def SegR.enc {h0:View} (x:SegR h0):Array Value:=#[.int .i64 x.1.1, .agg #[.int .i64 x.1.2.1.vAt, .slice x.1.2.2.1 x.1.2.1.vBytes.length x.1.2.2.2]]
def SegR.of {h0:View} (x:SegR h0):Int×api_Segment:=(x.1.1,x.1.2.1)
def segEnd (s:api_Segment):Int:=IntKind.wrap .i64 (s.vAt+(s.vBytes.length:Int))
def segPairs:Int→List api_Segment→List (Int×api_Segment)
 |_,[]=>[]
 |f,s::r=>(f,s)::segPairs (segEnd s) r
theorem rd_at {α:Type} (z:α) (xs:List α) (i:Nat) (h:i<xs.length):xs.drop i=rd z xs (i:Int)::xs.drop (i+1):=by
 rw [List.drop_eq_getElem_cons h];congr 1;simp [rd,List.getD,h]
theorem segs_stops {h0:View} (x0:api_Image) (bx0:Nat) (Ax0_0:Option Addr) (cx0_0:Nat) {w0:World} (n:Nat) (hv:Sees h0 w0) (hrx0_0:Rd k_api_Segment h0 Ax0_0 x0.vSegs) (hcx0_0:x0.vSegs.length≤cx0_0) (hx0:w0.heap[bx0]?=some (.cells #[vL Ax0_0 x0.vSegs.length cx0_0] 27 (0,0))) (hN:x0.vSegs.length≤200):
  SeqStopsK Fence.wide n Tryz.prog 94 #[vP bx0 0] (SegR.enc (h0:=h0)) Kc (fun xs=>xs.map SegR.of=segPairs 0 x0.vSegs) (fun pre=>pre.map SegR.of<+:segPairs 0 x0.vSegs) x0.vSegs.length w0:=by
 intro l J Jx W hW hJ hJx hY hJ0
 refine callsIn_wide.2 ?_
 have hE0:Ext w0 W:=hW
 have HS:St [] h0 W h0 [] W:=St.init (hv.ext hE0)
 have JE:∀{A B:World} {pre:List (SegR h0)},J pre A→Ext A B→J pre B:=fun hj hE=>hJ _ _ _ none hj ⟨hE.os,hE.tape,hE.output,hE.size,fun k hk _=>hE.block k hk⟩ (fun r e=>by cases e)
 show Calls Tryz.prog 94 #[.func (.yield l) #[] #[],vP bx0 0] W _
 go_enter Tryz.func94,Tryz.ntmps94
 refine wp_seq<|region<|rs (vI 0) (r_assign rfl) ?_
 try simp only [sc0,sc1]
 refine run_nil<|norm_then<|wp_seq<|region<|rs (vP bx0 0) (r_fieldBox (n:=1) (o':=0) rfl Tryz.runUnderlying27 rfl Tryz.sizeOf25 (by decide) rfl)<|rs (vL Ax0_0 x0.vSegs.length cx0_0) (r_loadBox rfl Tryz.isAgg25 (heap_ext hx0 hE0) rfl)<|rs (vI (x0.vSegs.length:Int)) (r_len rfl Tryz.runUnderlying25)<|rs (vI 0) (r_move rfl) ?_
 try simp only [sc0,sc1]
 refine run_nil<|norm_then ?_
 have key:∀(pre:List (SegR h0)) (y:Int) (i:Nat) (A1:Option Addr) (c1:Nat) (hx:Rd (Kd.int .u8) h0 A1 (rd z_api_Segment x0.vSegs (i:Int)).vBytes∧(rd z_api_Segment x0.vSegs (i:Int)).vBytes.length≤c1),i<x0.vSegs.length→
   pre.map SegR.of++segPairs y (x0.vSegs.drop i)=segPairs 0 x0.vSegs→(pre++[(⟨(y,rd z_api_Segment x0.vSegs (i:Int),A1,c1),hx⟩:SegR h0)]).map SegR.of++segPairs (segEnd (rd z_api_Segment x0.vSegs (i:Int))) (x0.vSegs.drop (i+1))=segPairs 0 x0.vSegs:=by
  intro pre y i A1 c1 hx hi hp
  rw [←hp,rd_at z_api_Segment x0.vSegs i hi]
  simp [segPairs,SegR.of]
 refine loop_j [3,5,9,10,11,12,13,14,15,16,17,18,19,20] (fun m us w'=>∃(y1_0:Int) (i:Nat) (pre:List (SegR h0)),Fit us (fun uy1=>[vI y1_0,(uy1 1),vI (i:Int),(uy1 3),(uy1 4),(uy1 5),(uy1 6),(uy1 7),(uy1 8),(uy1 9),(uy1 10),(uy1 11),(uy1 12),(uy1 13)])∧m+i=x0.vSegs.length+1∧i≤x0.vSegs.length∧pre.length=i∧pre.map SegR.of++segPairs y1_0 (x0.vSegs.drop i)=segPairs 0 x0.vSegs∧J pre w'∧Sees h0 w') (fun us w'=>∃(pre:List (SegR h0)),Fit us (fun uo1=>[(uo1 0),(uo1 1),(uo1 2),(uo1 3),(uo1 4),(uo1 5),(uo1 6),(uo1 7),(uo1 8),(uo1 9),(uo1 10),(uo1 11),(uo1 12),(uo1 13)])∧pre.map SegR.of=segPairs 0 x0.vSegs∧J pre w') (x0.vSegs.length+1) ⟨0,0,[],(fit rfl),rfl,Nat.zero_le _,rfl,rfl,hJ0,HS.sees⟩ ?_ ?_
 ·rintro m us w1 ⟨y1_0,i,pre,huy1,hm,hi,hpl,hp,hj,hs1⟩
  obtain ⟨uy1,rfl⟩:=unj huy1
  cases m with
  |zero=>omega
  |succ m=>
   have HS1:St [] h0 w1 h0 [] w1:=St.init hs1
   try simp only [patch,sc0,sc1]
   refine wp_seq<|region<|rs (vB (decide ((i:Int)<(x0.vSegs.length:Int)))) (r_bin rfl rfl rfl) ?_
   try simp only [sc0,sc1]
   refine run_nil<|norm_then<|wp_seq<|wp_cond_split (t:=(decide ((i:Int)<(x0.vSegs.length:Int)))) rfl (fun c1=>?_) (fun c1=>?_)
   ·have hi1:0≤(i:Int)∧(i:Int)<x0.vSegs.length:=⟨Int.natCast_nonneg i,of_decide_eq_true c1⟩
    have hlt:i<x0.vSegs.length:=by omega
    refine wp_skip<|norm_then<|wp_seq<|wp_block<|wp_seq<|region ?_
    obtain ⟨ad1,Aad1_1,cad1_1,e1,hel1,hcad1_1,hrad1_1⟩:=ld_api_Segment hrx0_0 hi1.1 hi1.2
    refine rs (Value.pointer (some (Addr.add ad1 ((i:Int).toNat*2)))) (r_indexA (sz:=2) rfl e1 rfl hi1.1 hi1.2 Tryz.runUnderlying25 Tryz.sizeOf58)<|rs (Value.agg #[vI ((rd z_api_Segment x0.vSegs (i:Int)).vAt),vL Aad1_1 ((rd z_api_Segment x0.vSegs (i:Int)).vBytes).length cad1_1]) (r_loadAgg rfl Tryz.isAgg58 (hel1.sees HS1.sees) Tryz.sizeOf58)<|run_ex rfl rfl (does_alloc (cs:=#[vI 0,vL none 0 0]) Tryz.zeroValue58 rfl) ?_
    rintro w2 _ hE1 ⟨b1,rfl,ge1,hb1⟩
    have HS2:=HS1.new hE1 ge1 hb1
    refine run_st (i:=0) (cs:=[vI 0,vL none 0 0]) (cs':=[vI ((rd z_api_Segment x0.vSegs (i:Int)).vAt),vL Aad1_1 ((rd z_api_Segment x0.vSegs (i:Int)).vBytes).length cad1_1]) (vs:=[vI ((rd z_api_Segment x0.vSegs (i:Int)).vAt),vL Aad1_1 ((rd z_api_Segment x0.vSegs (i:Int)).vBytes).length cad1_1]) (bs':=[(some b1, .cells #[vI ((rd z_api_Segment x0.vSegs (i:Int)).vAt),vL Aad1_1 ((rd z_api_Segment x0.vSegs (i:Int)).vBytes).length cad1_1] 58 (0,0))]) rfl rfl Tryz.sizeOf58 rfl rfl (by decide) rfl HS2 rfl (Nat.le_of_ble_eq_true rfl) rfl rfl ?_
    intro w3 HS3
    try simp only [sc0,sc1]
    refine run_nil<|norm_then<|wp_seq<|wp_seq<|region_yield_at (by rintro ⟨a,w,⟨⟨v,hv⟩,_⟩⟩;cases hv) n 3 rfl rfl rfl rfl ?_
    simp only [List.take_succ_cons,List.take_zero,List.drop_succ_cons,List.drop_zero]
    refine rs (Value.func (.yield l) #[] #[]) (r_move rfl)<|rs (vI y1_0) (r_move rfl)<|rs (Value.agg #[vI ((rd z_api_Segment x0.vSegs (i:Int)).vAt),vL Aad1_1 ((rd z_api_Segment x0.vSegs (i:Int)).vBytes).length cad1_1]) (r_loadBoxAgg (n:=2) (vs:=[vI ((rd z_api_Segment x0.vSegs (i:Int)).vAt),vL Aad1_1 ((rd z_api_Segment x0.vSegs (i:Int)).vBytes).length cad1_1]) rfl Tryz.isAgg58 (HS3.look 0 rfl) Tryz.sizeOf58 rfl rfl) ?_
    try simp only [sc0,sc1]
    refine run_nil<|norm_then ?_
    obtain ⟨fn,tmps,assign,bd,hy,hR⟩:=hY pre ⟨(y1_0,(rd z_api_Segment x0.vSegs (i:Int)),Aad1_1,cad1_1),hrad1_1,hcad1_1⟩ w3 (JE hj HS3.toE) (by rw [hpl];exact hlt)
    refine ⟨_,rfl,l,fn,tmps,assign,bd,?_,hR.mono ?_⟩
    ·exact r_yield rfl rfl hy
    rintro e w4 (⟨rfl,hj4,hk4⟩|⟨rfl,hx4⟩)
    ·refine ⟨_,rfl,?_⟩
     have hs4:Sees h0 w4:=hk4.sees HS3.sees
     have hb4:w4.heap[b1]?=some (.cells #[vI ((rd z_api_Segment x0.vSegs (i:Int)).vAt),vL Aad1_1 ((rd z_api_Segment x0.vSegs (i:Int)).vBytes).length cad1_1] 58 (0,0)):=hk4.cells _ _ (HS3.look 0 rfl) rfl
     refine rs (vB (!true)) (r_not rfl) ?_
     try simp only [sc0,sc1]
     refine run_nil<|norm_then<|wp_cond_split (t:=(!true)) rfl (fun c2=>?_) (fun c2=>?_)
     ·exact absurd c2 (by simp)
     ·refine wp_skip<|norm_then<|region<|rs (Value.agg #[vI ((rd z_api_Segment x0.vSegs (i:Int)).vAt),vL Aad1_1 ((rd z_api_Segment x0.vSegs (i:Int)).vBytes).length cad1_1]) (r_loadBoxAgg (n:=2) (vs:=[vI ((rd z_api_Segment x0.vSegs (i:Int)).vAt),vL Aad1_1 ((rd z_api_Segment x0.vSegs (i:Int)).vBytes).length cad1_1]) rfl Tryz.isAgg58 (hb4) Tryz.sizeOf58 rfl rfl)<|run_eq (v:=vI (segEnd (rd z_api_Segment x0.vSegs (i:Int)))) rfl rfl (does_call_eq Tryz.call93 rfl rfl (image_end.calls (rd z_api_Segment x0.vSegs (i:Int)) Aad1_1 cad1_1 hs4 hrad1_1 hcad1_1 rfl)) ?_
      intro w5 hE3
      refine rs (vI (segEnd (rd z_api_Segment x0.vSegs (i:Int)))) (r_assign rfl) ?_
      try simp only [sc0,sc1]
      refine run_nil<|norm_block<|norm_then<|region<|rs (vI (w64 ((i:Int)+1))) (r_bin rfl rfl rfl)<|rs (vI (w64 ((i:Int)+1))) (r_move rfl) ?_
      try simp only [sc0,sc1]
      refine run_nil<|again_j m (Nat.lt_succ_self m) rfl ⟨segEnd (rd z_api_Segment x0.vSegs (i:Int)),i+1,pre++[⟨(y1_0,(rd z_api_Segment x0.vSegs (i:Int)),Aad1_1,cad1_1),hrad1_1,hcad1_1⟩],fit ?_,by omega,by omega,by simp [hpl],key _ _ _ _ _ _ hlt hp,JE hj4 hE3,hs4.ext hE3⟩
      have hw:w64 ((i:Int)+1)=((i+1:Nat):Int):=wrap_nat (n:=300) (by omega) (by omega)
      rw [hw];rfl
    ·refine ⟨_,rfl,?_⟩
     refine rs (vB (!false)) (r_not rfl) ?_
     try simp only [sc0,sc1]
     refine run_nil<|norm_then<|wp_cond_split (t:=(!false)) rfl (fun c2=>?_) (fun c2=>?_)
     ·exact wp_ret<|ret_then<|ret_block<|ret_then<|ret_loop<|bodyPost_ret (results_none rfl _ _ _) rfl<|⟨⟨_,rfl⟩, .inr ⟨_,⟨_,key _ _ _ _ _ _ hlt hp⟩,hx4⟩⟩
     ·exact absurd c2 (by simp)
   ·refine wp_exit<|exit_then ?_
    have he:i=x0.vSegs.length:=by have:=of_decide_eq_false c1;omega
    subst he
    refine leave_j rfl ⟨pre,(fit rfl),by simpa [segPairs] using hp,hj⟩
 ·rintro us w6 ⟨pre,huo1,hp,hj⟩
  obtain ⟨uo1,rfl⟩:=unj huo1
  try simp only [patch,sc0,sc1]
  exact bodyPost_end (results_none rfl _ _ _) rfl<|⟨⟨_,rfl⟩, .inl ⟨pre,hp,hj⟩⟩
/-- a bad segment -/
def badSeg (f:Int) (s:api_Segment):Bool:=((((s.vBytes.length:Int)==0)||(decide ((s.vBytes.length:Int)>512)))||(decide (s.vAt<f)))||(decide (s.vAt>1099511627776))
def chkSegs:Int→List api_Segment→Int
 |_,[]=>0
 |f,s::r=>if badSeg f s=true then 90 else chkSegs (segEnd s) r
def image_Check.f (a0:api_Image):Option Int:=if (decide ((a0.vSegs.length:Int)>200))=true then some 90 else some (chkSegs 0 a0.vSegs)
theorem chk_ok:∀(l:List api_Segment) (f:Int),(∀p∈segPairs f l,badSeg p.1 p.2=false)→chkSegs f l=0:=by
 intro l
 induction l with
 |nil=>intro f _;rfl
 |cons s r ih=>
  intro f h
  rw [chkSegs,if_neg (by rw [h (f,s) (by simp [segPairs])];simp)]
  exact ih _ fun p hp=>h p (by simp [segPairs,hp])
theorem chk_bad:∀(q:List (Int×api_Segment)) (l:List api_Segment) (f:Int) (x:Int×api_Segment) (t:List (Int×api_Segment)),segPairs f l=q++x::t→(∀p∈q,badSeg p.1 p.2=false)→badSeg x.1 x.2=true→chkSegs f l=90:=by
 intro q
 induction q with
 |nil=>
  intro l f x t h _ hb
  cases l with
  |nil=>simp [segPairs] at h
  |cons s r=>simp [segPairs] at h;obtain ⟨rfl,_⟩:=h;rw [chkSegs,if_pos hb]
 |cons y q ih=>
  intro l f x t h hg hb
  cases l with
  |nil=>simp [segPairs] at h
  |cons s r=>
   simp [segPairs] at h
   obtain ⟨rfl,h⟩:=h
   rw [chkSegs,if_neg (by rw [hg (f,s) (by simp)];simp)]
   exact ih r _ x t h (fun p hp=>hg p (by simp [hp])) hb
theorem image_segments.calls (a0:api_Image) (A0_0:Option Addr) (c0_0:Nat) {h0:View} {w0:World} (hv:Sees h0 w0):
  Calls Tryz.prog 60 #[Value.agg #[vL A0_0 a0.vSegs.length c0_0]] w0 (fun e w1=>∃v,e= .returned v∧(∃b,v= .func (.func 94) #[] #[.pointer (some ⟨b,0,none⟩)]∧w1.heap[b]?=some (.cells #[vL A0_0 a0.vSegs.length c0_0] 27 (0,0)))∧Ext w0 w1):=by
 have HS:St [] h0 w0 h0 [] w0:=St.init hv
 go_enter Tryz.func60,Tryz.ntmps60
 refine wp_seq<|region<|run_ex rfl rfl (does_box (cs:=#[vL A0_0 a0.vSegs.length c0_0]) rfl rfl) ?_
 rintro w1 _ hE1 ⟨b1,rfl,ge1,hb1⟩
 have HS1:=HS.new hE1 ge1 hb1
 refine rs Value.nilFunc (r_assign rfl) ?_
 try simp only [sc0,sc1]
 refine run_nil<|norm_then<|wp_seq<|region<|rs (Value.func (.func 94) #[] #[.pointer (some ⟨b1,0,none⟩)]) (r_makeFunc rfl)<|rs (Value.func (.func 94) #[] #[.pointer (some ⟨b1,0,none⟩)]) (r_assign rfl) ?_
 try simp only [sc0,sc1]
 exact run_nil<|norm_then<|wp_ret<|bodyPost_ret (results_1 rfl (one_tmp rfl)) rfl<|⟨_,rfl,⟨b1,rfl,hb1⟩,HS1.toE⟩
theorem keepsFrom_ext {B:Nat} {W W':World} (h:Ext W W'):KeepsFrom B W W':=⟨h.size,fun k o _ hk _=>(h.block k (Array.getElem?_eq_some_iff.1 hk).1).trans hk⟩
theorem own_cells {β:Type} {B b:Nat} {vs:Array Value} {t:TypeId} {fr:Nat×Nat}:OwnFrom B (fun (_:β) W=>W.heap[b]?=some (.cells vs t fr)):=fun s W W' row hs hg hr=>by
 refine (hg.block b (Array.getElem?_eq_some_iff.1 hs).1 fun e=>?_).trans hs
 obtain ⟨_,o,ho,hc⟩:=hr b e.symm
 rw [hs] at ho;cases ho;cases hc
theorem St_of {h0:View} {W:World} {b:Nat} {o:Obj} (hs:Sees h0 W) (hb:W.heap[b]?=some o) (hu:∀a:Addr,a.block=b→h0 a=none):St [b] h0 W h0 [(some b,o)] W:=
 ⟨hs,Gr.rfl' _ _,ExtB.rfl' _ _,fun x hx=>by obtain rfl:=List.mem_singleton.1 hx;exact ⟨hb, .inr (by simp),hu⟩,by simp [blocks]⟩
theorem ext_of {w0 W w4:World} {b:Nat} (h:Ext w0 W) (k:ExtB [b] W w4) (hb:w0.heap.size≤b):Ext w0 w4:=
 ⟨k.os.trans h.os,k.tape.trans h.tape,k.output.trans h.output,Nat.le_trans h.size k.size,fun i hi=>(k.block i (Nat.lt_of_lt_of_le hi h.size) (by simp;omega)).trans (h.block i hi)⟩
theorem ext_put {w0 W:World} {D:Nat} {o:Obj} (h:Ext w0 W) (hD:w0.heap.size≤D):Ext w0 (W.putObj D o):=
 ⟨h.os,h.tape,h.output,by simpa [World.putObj] using h.size,fun i hi=>(World.putObj_heap_other (by omega)).trans (h.block i hi)⟩
set_option maxHeartbeats 8000000 in
theorem image_Check.calls (a0:api_Image) (A0_0:Option Addr) (c0_0:Nat) {h0:View} {w0:World} (hv:Sees h0 w0) (hr0_0:Rd k_api_Segment h0 A0_0 a0.vSegs) (hc0_0:a0.vSegs.length≤c0_0) {r:Int} (H:image_Check.f a0=some r):
  Calls Tryz.prog 26 #[Value.agg #[vL A0_0 a0.vSegs.length c0_0]] w0 (fun e w1=>e= .returned (vI r)∧Ext w0 w1):=by
 unfold image_Check.f at H
 have HS:St [] h0 w0 h0 [] w0:=St.init hv
 refine callsIn_wide.1 (callsIn_of_wp_marks (n:=3) Tryz.func26 rfl trivial ?_ rfl)
 simp only [Tryz.ntmps26,List.size_toArray,List.length_cons,List.length_nil,Nat.reduceAdd,Nat.reduceSub,Array.replicate_succ,Array.replicate_zero,List.push_toArray,List.append_toArray,List.nil_append,List.cons_append]
 refine wpIn_wide.2<|wp_seq<|region<|run_ex rfl rfl (does_box (cs:=#[vL A0_0 a0.vSegs.length c0_0]) rfl rfl) ?_
 rintro w1 _ hE1 ⟨b1,rfl,ge1,hb1⟩
 have HS1:=HS.new hE1 ge1 hb1
 refine run_ex rfl rfl (does_alloc (cs:=#[vI 0]) Tryz.zeroValue34 rfl) ?_
 rintro w2 _ hE2 ⟨b2,rfl,ge2,hb2⟩
 have HS2:=HS1.new hE2 ge2 hb2
 try simp only [sc0,sc1]
 refine run_nil<|norm_then<|wp_seq<|wp_seq<|region<|rs (vP b1 0) (r_fieldBox (n:=1) (o':=0) rfl Tryz.runUnderlying27 rfl Tryz.sizeOf25 (by decide) rfl)<|rs (vL A0_0 a0.vSegs.length c0_0) (r_loadBox rfl Tryz.isAgg25 (HS2.look 1 rfl) rfl)<|rs (vI (a0.vSegs.length:Int)) (r_len rfl Tryz.runUnderlying25)<|rs (vB (decide ((a0.vSegs.length:Int)>200))) (r_bin rfl rfl rfl) ?_
 try simp only [sc0,sc1]
 refine run_nil<|norm_then<|wp_cond_split (t:=(decide ((a0.vSegs.length:Int)>200))) rfl (fun c1=>?_) (fun c1=>?_)
 ·replace H:=of_pos H c1
  refine wp_seq<|region<|run_st (i:=0) (cs:=[vI 0]) (cs':=[vI 90]) (vs:=[vI 90]) (bs':=[(some b2, .cells #[vI 90] 34 (0,0)),(some b1, .cells #[vL A0_0 a0.vSegs.length c0_0] 27 (0,0))]) rfl rfl Tryz.sizeOf34 rfl rfl (by decide) rfl HS2 rfl (Nat.le_of_ble_eq_true rfl) rfl rfl ?_
  intro w3 HS3
  try simp only [sc0,sc1]
  refine run_nil<|norm_then<|wp_ret<|ret_then ?_
  obtain rfl:=Option.some.inj H
  exact ⟨_,results_1 rfl (one_cell rfl Tryz.isAgg34 (HS3.look 0 rfl)),rfl,HS3.toE⟩
 ·replace H:=of_neg H (nt c1)
  have hlen:a0.vSegs.length≤200:=by have:=of_decide_eq_false c1;omega
  refine wp_skip<|norm_then<|wp_seq<|wp_seq<|region<|rs (Value.agg #[vL A0_0 a0.vSegs.length c0_0]) (r_loadBoxAgg (n:=1) (vs:=[vL A0_0 a0.vSegs.length c0_0]) rfl Tryz.isAgg27 (HS2.look 1 rfl) Tryz.sizeOf27 rfl rfl)<|run_ex (φ:=fun w1 v=>∃b,v= .func (.func 94) #[] #[.pointer (some ⟨b,0,none⟩)]∧w1.heap[b]?=some (.cells #[vL A0_0 a0.vSegs.length c0_0] 27 (0,0))) rfl rfl (does_call Tryz.call60 rfl (image_segments.calls a0 A0_0 c0_0 HS2.sees) rfl) ?_
  rintro w3 _ hE3 ⟨b3,rfl,hb3⟩
  have HS3:=HS2.step hE3
  try simp only [sc0,sc1]
  refine run_nil<|norm_then<|wp_block ?_
  have hb2':w3.heap[b2]?=some (.cells #[vI 0] 34 (0,0)):=HS3.look 0 rfl
  have hB:Ext w0 w3:=HS3.toE
  have hlt2:b2<w3.heap.size:=(Array.getElem?_eq_some_iff.1 hb2').1
  have hge2:w0.heap.size≤b2:=Nat.le_trans HS1.ext.size ge2
  refine wpIn_wide.1 (wpIn_rangeFunc_ownH (F:=Fence.wide) (n:=3) rfl (by omega) (gf:=94) (lb:=#[vP b3 0]) rfl trivial Tryz.call94
   (segs_stops a0 b3 A0_0 c0_0 (3-1) HS3.sees hr0_0 hc0_0 hb3 hlen) (fun h k=>Kc.trans h k) (fun W l o o' _ h1 h2 _=>Kc.put W l o o' h1 h2) (Below.refl _ _) (fun _=>rfl)
   (fun pre W=>(Below w0.heap.size w0 W∧W.heap[b2]?=some (.cells #[vI 0] 34 (0,0)))∧∀x∈pre,badSeg (SegR.of x).1 (SegR.of x).2=false)
   (fun c pre W=>(Below w0.heap.size w0 W∧W.heap[b2]?=some (.cells #[vI 90] 34 (0,0)))∧c= .ret∧∃q x,pre=q++[x]∧(∀y∈q,badSeg (SegR.of y).1 (SegR.of y).2=false)∧badSeg (SegR.of x).1 (SegR.of x).2=true)
   (((ownFrom_below (Nat.le_refl _) hB.size).and own_cells).and (ownFrom_pure _ _)) (fun c=>((ownFrom_below (Nat.le_refl _) hB.size).and own_cells).and (ownFrom_pure _ _))
   ⟨⟨hB,hb2'⟩,by simp⟩
   (fun x a' W=>(∃b4,W.heap[b4]?=some (.cells #[vI x.1.2.1.vAt,vL x.1.2.2.1 x.1.2.1.vBytes.length x.1.2.2.2] 58 (0,0))∧a'=⟨[Value.agg #[vL A0_0 a0.vSegs.length c0_0],vP b1 0,vP b2 0,vI x.1.1,vP b4 0,vP b1 0,vL A0_0 a0.vSegs.length c0_0,vI (a0.vSegs.length:Int),vB (decide ((a0.vSegs.length:Int)>200)),Value.agg #[vL A0_0 a0.vSegs.length c0_0],Value.func (.func 94) #[] #[.pointer (some ⟨b3,0,none⟩)],vI x.1.1,Value.agg #[vI x.1.2.1.vAt,vL x.1.2.2.1 x.1.2.1.vBytes.length x.1.2.2.2],undef,undef,undef,undef,undef,undef,undef,undef,undef,undef,undef,undef,undef,undef,undef,undef,undef,undef,undef,undef,undef].toArray,[]⟩))
   (fun x a'=>by rintro s W W' row ⟨b4,hb4,rfl⟩ hg hr;exact ⟨b4,own_cells s W W' row hb4 hg hr,rfl⟩) ?assign ?body ?done ?stop)
  case assign=>
   intro l pre x W K hI hK
   have hs:Sees h0 W:=hv.ext hI.1.1
   have HW:St [] h0 W h0 [] W:=St.init hs
   have e:∀(l:List Value),((#[11,12]:Array Tmp).zip (SegR.enc x)).foldl (fun t (p,v)=>t.setIfInBounds p v) l.toArray=((l.set 11 (.int .i64 x.1.1)).set 12 (.agg #[.int .i64 x.1.2.1.vAt, .slice x.1.2.2.1 x.1.2.1.vBytes.length x.1.2.2.2])).toArray:=by
    intro l;simp [SegR.enc]
   rw [e]
   simp only [sc0,sc1]
   refine wpIn_seq<|regionIn (.inr ⟨l,rfl⟩) (by rintro ⟨a,w,h⟩;exact h) (noDefer_of rfl) ?_
   refine rs (vI x.1.1) (r_assign rfl) ?_
   try simp only [sc0,sc1]
   refine run_nil<|norm_then<|norm_then<|regionIn (.inr ⟨l,rfl⟩) (by rintro ⟨a,w,h⟩;exact h) (noDefer_of rfl) ?_
   refine run_ex rfl rfl (does_alloc (cs:=#[vI 0,vL none 0 0]) Tryz.zeroValue58 rfl) ?_
   rintro w4 _ hE4 ⟨b4,rfl,ge4,hb4⟩
   have HS4:=HW.new hE4 ge4 hb4
   refine run_st (i:=0) (cs:=[vI 0,vL none 0 0]) (cs':=[vI x.1.2.1.vAt,vL x.1.2.2.1 x.1.2.1.vBytes.length x.1.2.2.2]) (vs:=[vI x.1.2.1.vAt,vL x.1.2.2.1 x.1.2.1.vBytes.length x.1.2.2.2]) (bs':=[(some b4, .cells #[vI x.1.2.1.vAt,vL x.1.2.2.1 x.1.2.1.vBytes.length x.1.2.2.2] 58 (0,0))]) rfl rfl Tryz.sizeOf58 rfl rfl (by decide) rfl HS4 rfl (Nat.le_of_ble_eq_true rfl) rfl rfl ?_
   intro w5 HS5
   try simp only [sc0,sc1]
   exact run_nil<|norm_then<|norm_then<|hK _ _ (keepsFrom_ext HS5.toE) (Kc.ext HS5.toE) ⟨⟨Ext.then hI.1.1 HS5.toE,heap_ext hI.1.2 HS5.toE⟩,hI.2⟩ ⟨b4,HS5.look 0 rfl,rfl⟩
  case body=>
   rintro l pre x a' W hl ⟨r',hr'⟩ ⟨⟨hB2,hb2W⟩,hpre⟩ ⟨b4,hb4,rfl⟩ hlt
   have hs:Sees h0 W:=hv.ext hB2
   refine wpIn_block<|wpIn_seq<|regionIn (.inr ⟨l,rfl⟩) (by rintro ⟨a,w,h⟩;exact h) (noDefer_of rfl) ?_
   refine rs (vP b4 1) (r_fieldBox (n:=1) (o':=1) rfl Tryz.runUnderlying58 rfl Tryz.sizeOf42 (by decide) rfl)<|rs (vL x.1.2.2.1 (x.1.2.1.vBytes).length x.1.2.2.2) (r_loadBox rfl Tryz.isAgg42 hb4 rfl)<|rs (vI ((x.1.2.1.vBytes).length:Int)) (r_len rfl Tryz.runUnderlying42)<|rs (vB (((x.1.2.1.vBytes).length:Int)==0)) (r_bin rfl rfl rfl)<|run_frame (by simp only [sc0,sc1];rfl) ?_
   refine rs (vB (((x.1.2.1.vBytes).length:Int)==0)) (r_move rfl)<|rgs (((x.1.2.1.vBytes).length:Int)==0) true (vP b4 1) rfl rfl rfl rfl (fun hg=>(r_fieldBox (n:=1) (o':=1) rfl Tryz.runUnderlying58 rfl Tryz.sizeOf42 (by decide) rfl))<|rgs (((x.1.2.1.vBytes).length:Int)==0) true (vL x.1.2.2.1 (x.1.2.1.vBytes).length x.1.2.2.2) rfl rfl rfl rfl (fun hg=>(r_loadBox (gvt (vP b4 1) hg rfl) Tryz.isAgg42 hb4 rfl))<|rgs (((x.1.2.1.vBytes).length:Int)==0) true (vI ((x.1.2.1.vBytes).length:Int)) rfl rfl rfl rfl (fun hg=>(r_len (gvt (vL x.1.2.2.1 (x.1.2.1.vBytes).length x.1.2.2.2) hg rfl) Tryz.runUnderlying42))<|run_frame (by simp only [sc0,sc1];rfl) ?_
   refine rgs (((x.1.2.1.vBytes).length:Int)==0) true (vB (decide (((x.1.2.1.vBytes).length:Int)>512))) rfl rfl rfl rfl (fun hg=>(r_bin (gvt (vI ((x.1.2.1.vBytes).length:Int)) hg rfl) rfl rfl))<|rs (vB ((((x.1.2.1.vBytes).length:Int)==0)||(decide (((x.1.2.1.vBytes).length:Int)>512)))) (r_pick_or rfl rfl (fun hp=>(gvt (vB (decide (((x.1.2.1.vBytes).length:Int)>512))) (and_i rfl hp) rfl)))<|rs (vB ((((x.1.2.1.vBytes).length:Int)==0)||(decide (((x.1.2.1.vBytes).length:Int)>512)))) (r_move rfl)<|rgs ((((x.1.2.1.vBytes).length:Int)==0)||(decide (((x.1.2.1.vBytes).length:Int)>512))) true (vP b4 0) rfl rfl rfl rfl (fun hg=>(r_fieldBox (n:=1) (o':=0) rfl Tryz.runUnderlying58 rfl Tryz.sizeOf2 (by decide) rfl))<|run_frame (by simp only [sc0,sc1];rfl) ?_
   refine rgs ((((x.1.2.1.vBytes).length:Int)==0)||(decide (((x.1.2.1.vBytes).length:Int)>512))) true (vI (x.1.2.1.vAt)) rfl rfl rfl rfl (fun hg=>(r_loadBox (gvt (vP b4 0) hg rfl) Tryz.isAgg2 hb4 rfl))<|rgs ((((x.1.2.1.vBytes).length:Int)==0)||(decide (((x.1.2.1.vBytes).length:Int)>512))) true (vI x.1.1) rfl rfl rfl rfl (fun hg=>(r_move rfl))<|rgs ((((x.1.2.1.vBytes).length:Int)==0)||(decide (((x.1.2.1.vBytes).length:Int)>512))) true (vB (decide (x.1.2.1.vAt<x.1.1))) rfl rfl rfl rfl (fun hg=>(r_bin (gvt (vI (x.1.2.1.vAt)) hg rfl) (gvt (vI x.1.1) hg rfl) rfl))<|rs (vB (((((x.1.2.1.vBytes).length:Int)==0)||(decide (((x.1.2.1.vBytes).length:Int)>512)))||(decide (x.1.2.1.vAt<x.1.1)))) (r_pick_or rfl rfl (fun hp=>(gvt (vB (decide (x.1.2.1.vAt<x.1.1))) (and_i rfl hp) rfl)))<|run_frame (by simp only [sc0,sc1];rfl) ?_
   refine rs (vB (((((x.1.2.1.vBytes).length:Int)==0)||(decide (((x.1.2.1.vBytes).length:Int)>512)))||(decide (x.1.2.1.vAt<x.1.1)))) (r_move rfl)<|rgs (((((x.1.2.1.vBytes).length:Int)==0)||(decide (((x.1.2.1.vBytes).length:Int)>512)))||(decide (x.1.2.1.vAt<x.1.1))) true (vP b4 0) rfl rfl rfl rfl (fun hg=>(r_fieldBox (n:=1) (o':=0) rfl Tryz.runUnderlying58 rfl Tryz.sizeOf2 (by decide) rfl))<|rgs (((((x.1.2.1.vBytes).length:Int)==0)||(decide (((x.1.2.1.vBytes).length:Int)>512)))||(decide (x.1.2.1.vAt<x.1.1))) true (vI (x.1.2.1.vAt)) rfl rfl rfl rfl (fun hg=>(r_loadBox (gvt (vP b4 0) hg rfl) Tryz.isAgg2 hb4 rfl))<|rgs (((((x.1.2.1.vBytes).length:Int)==0)||(decide (((x.1.2.1.vBytes).length:Int)>512)))||(decide (x.1.2.1.vAt<x.1.1))) true (vB (decide (x.1.2.1.vAt>1099511627776))) rfl rfl rfl rfl (fun hg=>(r_bin (gvt (vI (x.1.2.1.vAt)) hg rfl) rfl rfl))<|run_frame (by simp only [sc0,sc1];rfl) ?_
   refine rs (vB ((((((x.1.2.1.vBytes).length:Int)==0)||(decide (((x.1.2.1.vBytes).length:Int)>512)))||(decide (x.1.2.1.vAt<x.1.1)))||(decide (x.1.2.1.vAt>1099511627776)))) (r_pick_or rfl rfl (fun hp=>(gvt (vB (decide (x.1.2.1.vAt>1099511627776))) (and_i rfl hp) rfl))) ?_
   try simp only [sc0,sc1]
   refine run_nil<|norm_then<|norm_then<|wpIn_cond_split (t:=(((((x.1.2.1.vBytes).length:Int)==0)||(decide (((x.1.2.1.vBytes).length:Int)>512)))||(decide (x.1.2.1.vAt<x.1.1)))||(decide (x.1.2.1.vAt>1099511627776))) rfl (fun c2=>?_) (fun c2=>?_)
   ·have HW:St [b2] h0 W h0 [(some b2, .cells #[vI 0] 34 (0,0))] W:=St_of hs hb2W (fun a ha=>unseen hv (by omega))
    refine wpIn_seq<|regionIn (.inr ⟨l,rfl⟩) (by rintro ⟨a,w,h⟩;exact h) (noDefer_of rfl) ?_
    refine run_st (i:=0) (cs:=[vI 0]) (cs':=[vI 90]) (vs:=[vI 90]) (bs':=[(some b2, .cells #[vI 90] 34 (0,0))]) rfl rfl Tryz.sizeOf34 rfl rfl (by decide) rfl HW rfl (Nat.le_of_ble_eq_true rfl) rfl rfl ?_
    intro w4 HS4
    try simp only [sc0,sc1]
    exact run_nil<|norm_then<|norm_then<|wpIn_ret<|⟨⟨HS4.ext.size,fun k o hB hk _=>(HS4.ext.block k (Array.getElem?_eq_some_iff.1 hk).1 (by simp;omega)).trans hk⟩,⟨⟨ext_of hB2 HS4.ext hge2,HS4.look 0 rfl⟩,rfl,pre,x,rfl,hpre,c2⟩⟩
   ·refine wpIn_skip<|⟨KeepsFrom.refl _ _,Kc.ext (Ext.rfl' _),⟨hB2,hb2W⟩,?_⟩
    intro y hy
    rcases List.mem_append.1 hy with h|h
    ·exact hpre y h
    ·obtain rfl:=List.mem_singleton.1 h;exact c2
  case done=>
   rintro D xs W hD hS ⟨⟨hB2,hb2W⟩,hpre⟩ hK
   have hs:Sees h0 W:=hv.ext hB2
   have HW:St [b2] h0 W h0 [(some b2, .cells #[vI 0] 34 (0,0))] W:=St_of hs hb2W (fun a ha=>unseen hv (by omega))
   have h0r:chkSegs 0 a0.vSegs=0:=chk_ok _ _ fun p hp=>by
    rw [←hS] at hp
    obtain ⟨x,hx,rfl⟩:=List.mem_map.1 hp
    exact hpre x hx
   rw [h0r] at H
   obtain rfl:=Option.some.inj H
   refine norm_block<|norm_then<|wp_seq<|region<|run_st (i:=0) (cs:=[vI 0]) (cs':=[vI 0]) (vs:=[vI 0]) (bs':=[(some b2, .cells #[vI 0] 34 (0,0))]) rfl rfl Tryz.sizeOf34 rfl rfl (by decide) rfl HW rfl (Nat.le_of_ble_eq_true rfl) rfl rfl ?_
   intro w5 HS5
   try simp only [sc0,sc1]
   refine run_nil<|norm_then<|wp_ret ?_
   have hD5:w5.heap[D]?=some (.deferred (some [])):=(HS5.ext.block D (Array.getElem?_eq_some_iff.1 hK).1 (by simp;omega)).trans hK
   refine ⟨by simp, .inl ⟨_,_,rfl,run_takeDeferred hD5,?_⟩⟩
   exact ⟨_,results_1 rfl (one_cell rfl Tryz.isAgg34 ((World.putObj_heap_other (by omega)).trans (HS5.look 0 rfl))),rfl,ext_put (ext_of hB2 HS5.ext hge2) (Nat.le_trans hB.size hD)⟩
  case stop=>
   rintro D c pre W hD ⟨t,ht⟩ ⟨⟨hB2,hb2W⟩,rfl,q,x,rfl,hq,hx⟩ hK
   have h90:chkSegs 0 a0.vSegs=90:=chk_bad (q.map SegR.of) _ _ (SegR.of x) t (by rw [←ht];simp) (fun p hp=>by
    obtain ⟨y,hy,rfl⟩:=List.mem_map.1 hp
    exact hq y hy) hx
   rw [h90] at H
   obtain rfl:=Option.some.inj H
   refine wpIn_ret<|ret_block<|ret_then<|⟨by simp, .inl ⟨_,_,rfl,run_takeDeferred hK,?_⟩⟩
   exact ⟨_,results_1 rfl (one_cell rfl Tryz.isAgg34 ((World.putObj_heap_other (by omega)).trans hb2W)),rfl,ext_put hB2 (Nat.le_trans hB.size hD)⟩
end Go.Proofs.YtecpbadkdpbkpaaGreatDoor
namespace Go.Proofs.YtecpbadkdpbkpaaGreatDoor
open Go.RowKit Go.M
def chkV (m:api_Image):Int:=if (decide ((m.vSegs.length:Int)>200))=true then 90 else chkSegs 0 m.vSegs
theorem pCheck (m:api_Image):image_Check.f m=some (chkV m):=by
 unfold image_Check.f chkV
 split<;>rfl
structure OkI (l:List api_Segment):Prop where
 all:∀i,i<l.length→0≤(l.getD i z_api_Segment).vAt∧(l.getD i z_api_Segment).vAt≤1099511627776∧1≤(l.getD i z_api_Segment).vBytes.length∧(l.getD i z_api_Segment).vBytes.length≤512
 ord:∀i j,i<j→j<l.length→(l.getD i z_api_Segment).vAt+(l.getD i z_api_Segment).vBytes.length≤(l.getD j z_api_Segment).vAt
theorem okI_from : ∀ (l : List api_Segment) (f : Int), 0 ≤ f → chkSegs f l = 0 → OkI l ∧ ∀ i, i < l.length → f ≤ (l.getD i z_api_Segment).vAt
  |[],f,_,_=>⟨⟨fun i h=>by simp at h,fun i j _ h=>by simp at h⟩,fun i h=>by simp at h⟩
  | s :: r, f, hf, h => by
    rw [chkSegs] at h
    split at h
    · cases h
    · next hb=>
      unfold badSeg at hb
      simp only [Bool.or_eq_true,beq_iff_eq,decide_eq_true_eq,not_or] at hb
      have he:segEnd s=s.vAt+(s.vBytes.length:Int):=wrap_id (by omega) (by omega)
      rw [he] at h
      obtain ⟨h1,h2⟩:=okI_from r _ (by omega) h
      refine ⟨⟨fun i hi=>?_,fun i j hij hj=>?_⟩,fun i hi=>?_⟩
      · cases i with
        |zero=>exact ⟨by show 0≤s.vAt;omega,by show s.vAt≤_;omega,by show 1≤s.vBytes.length;omega,by show s.vBytes.length≤512;omega⟩
        |succ i=>exact h1.all i (by simpa using hi)
      · cases j with
        |zero=>omega
        | succ j =>
          have hj':j<r.length:=by simpa using hj
          cases i with
          |zero=>exact h2 j hj'
          |succ i=>exact h1.ord i j (by omega) hj'
      · cases i with
        |zero=>show f≤s.vAt;omega
        | succ i =>
          have:=h2 i (by simpa using hi)
          show f≤(r.getD i z_api_Segment).vAt
          omega
theorem okI_of {m:api_Image} (h:chkV m=0):m.vSegs.length≤200∧OkI m.vSegs:=by
 unfold chkV at h
 split at h
 ·cases h
 ·next hn=>
  simp only [decide_eq_true_eq] at hn
  exact ⟨by omega,(okI_from _ 0 (by omega) h).1⟩
def inSeg (s:api_Segment) (x:Int):Prop:=s.vAt≤x∧x-s.vAt<(s.vBytes.length:Int)
instance (s:api_Segment) (x:Int):Decidable (inSeg s x):=by unfold inSeg;exact inferInstance
def byteAt:List api_Segment→Int→Option Int
 |[],_=>none
 |s::r,x=>if inSeg s x then some (s.vBytes.getD (x-s.vAt).toNat 0) else byteAt r x
theorem byteAt_none:∀{l:List api_Segment} {x:Int},(∀i,i<l.length→¬inSeg (l.getD i z_api_Segment) x)→byteAt l x=none
  |[],_,_=>rfl
  | s :: r, x, h => by
    have h0:¬inSeg s x:=h 0 (by simp)
    rw [byteAt,if_neg h0]
    exact byteAt_none fun i hi=>h (i+1) (by simpa using hi)
theorem byteAt_some:∀{l:List api_Segment} {x:Int} (j:Nat),j<l.length→(∀i,i<j→¬inSeg (l.getD i z_api_Segment) x)→inSeg (l.getD j z_api_Segment) x→byteAt l x=some ((l.getD j z_api_Segment).vBytes.getD (x-(l.getD j z_api_Segment).vAt).toNat 0)
  |[],_,j,hj,_,_=>by simp at hj
  | s :: r, x, 0, _, _, h => by
    have h0:inSeg s x:=h
    rw [byteAt,if_pos h0];rfl
  | s :: r, x, j + 1, hj, h, h' => by
    have h0:¬inSeg s x:=h 0 (by omega)
    rw [byteAt,if_neg h0]
    exact byteAt_some j (by simpa using hj) (fun i hi=>h (i+1) (by omega)) h'
def runB (l : List api_Segment) (a : Int) : Nat → Nat → List Int → Option (List Int)
  |0,_,acc=>some acc
  | d + 1, i, acc => match byteAt l (a + (i : Int)) with
    |none=>none
    |some b=>runB l a d (i+1) (acc++[b])
def outL:Option (List Int)→List Int×Bool
 |none=>([],false)
 |some xs=>(xs,true)
theorem big_none {l:List api_Segment} (hO:OkI l) {x:Int} (hx:1099511628288≤x∨x<0):byteAt l x=none:=
 byteAt_none fun i hi h=>by
  have:=hO.all i hi
  unfold inSeg at h
  omega
def segE (s:api_Segment):Int:=s.vAt+(s.vBytes.length:Int)
theorem mid_eq {lo hi:Nat} (h:lo≤hi) (hh:hi≤1000):IntKind.wrap .i64 (iShr .u64 (IntKind.wrap .u64 (IntKind.wrap .i64 ((lo:Int)+(hi:Int)))) 1)=(((lo+hi)/2:Nat):Int):=by
 rw [wrap_id (x:=(lo:Int)+hi) (by omega) (by omega)]
 have e:IntKind.wrap .u64 ((lo:Int)+hi)=((lo+hi:Nat):Int):=by
  simp [IntKind.wrap,IntKind.bits,IntKind.signed];omega
 rw [e]
 have e2:iShr .u64 ((lo+hi:Nat):Int) 1=((lo+hi:Nat):Int)/2:=by
  unfold iShr
  rw [Int.fdiv_eq_ediv_of_nonneg _ (by decide)]
  rfl
 rw [e2,wrap_id (by omega) (by omega)]
 omega
theorem segE_lt {l:List api_Segment} (hO:OkI l) {i j:Nat} (h:i<j) (hj:j<l.length):segE (l.getD i z_api_Segment)<segE (l.getD j z_api_Segment):=by
 have h1:=hO.ord i j h hj
 have h2:=hO.all j hj
 unfold segE;omega
theorem segE_le {l:List api_Segment} (hO:OkI l) {i j:Nat} (h:i≤j) (hj:j<l.length):segE (l.getD i z_api_Segment)≤segE (l.getD j z_api_Segment):=by
 rcases Nat.lt_or_ge i j with h1|h1
 ·have:=segE_lt hO h1 hj;omega
 ·obtain rfl:i=j:=by omega
  omega
theorem cmp_eq {l:List api_Segment} (hO:OkI l) {i:Nat} (hi:i<l.length) (a:Int):image_search_1.f (fun z0=>image_end.f z0) (l.getD i z_api_Segment) a=if segE (l.getD i z_api_Segment)≤a then some (-1) else some 1:=by
 have h:=hO.all i hi
 unfold image_search_1.f image_end.f
 simp only [Option.bind_some,decide_eq_true_eq]
 rw [wrap_id (by omega) (by omega)]
 rfl
theorem search_loop {l : List api_Segment} (hl : l.length ≤ 200) (hO : OkI l) (a : Int) : ∀ (d lo hi m : Nat), hi ≤ lo + d → d < m → lo ≤ hi → hi ≤ l.length → (∀ i, i < lo → segE (l.getD i z_api_Segment) ≤ a) → (∀ i, hi ≤ i → i < l.length → a < segE (l.getD i z_api_Segment)) →
    ∃j:Nat,slices_BinarySearchFunc_api_Segment_api_Segment_int64.l0 l a (fun z0 z1=>image_search_1.f (fun z0=>image_end.f z0) z0 z1) m (lo:Int) (hi:Int)=some (j:Int)∧j≤l.length∧(∀i,i<j→segE (l.getD i z_api_Segment)≤a)∧(∀i,j≤i→i<l.length→a<segE (l.getD i z_api_Segment)):=by
  intro d
  induction d with
  | zero =>
    intro lo hi m h1 hm h2 h3 hA hB
    obtain ⟨m,rfl⟩:∃q,m=q+1:=⟨m-1,by omega⟩
    refine ⟨lo,?_,by omega,hA,fun i hi'=>hB i (by omega)⟩
    rw [slices_BinarySearchFunc_api_Segment_api_Segment_int64.l0,if_neg (by simp;omega)]
  | succ d ih =>
    intro lo hi m h1 hm h2 h3 hA hB
    obtain ⟨m,rfl⟩:∃q,m=q+1:=⟨m-1,by omega⟩
    rw [slices_BinarySearchFunc_api_Segment_api_Segment_int64.l0]
    by_cases hlt:lo<hi
    · have hmid:(lo+hi)/2<l.length:=by omega
      rw [if_pos (by simp;omega),mid_eq h2 (by omega),if_pos (by omega),rd_nat,cmp_eq hO hmid]
      by_cases hc:segE (l.getD ((lo+hi)/2) z_api_Segment)≤a
      · rw [if_pos hc]
        simp only [Option.bind_some]
        rw [if_pos (by decide),wrap_nat (n:=1000) (by omega) (by omega)]
        exact ih _ _ m (by omega) (by omega) (by omega) h3 (fun i hi'=>by have:=segE_le hO (i:=i) (j:=(lo+hi)/2) (by omega) hmid;omega) hB
      · rw [if_neg hc]
        simp only [Option.bind_some]
        rw [if_neg (by decide)]
        exact ih _ _ m (by omega) (by omega) (by omega) (by omega) hA (fun i hi' hi2=>by have:=segE_le hO (i:=(lo+hi)/2) (j:=i) hi' hi2;omega)
    · refine ⟨lo,?_,by omega,hA,fun i hi'=>hB i (by omega)⟩
      rw [if_neg (by simp;omega)]
theorem search_eq {l:List api_Segment} (hl:l.length≤200) (hO:OkI l) (a:Int) {k:Nat} (hk:201≤k):
  ∃j:Nat,image_search_api_Segment_int64.f k l a (fun z0=>image_end.f z0)=some (j:Int)∧j≤l.length∧(∀i,i<j→segE (l.getD i z_api_Segment)≤a)∧(∀i,j≤i→i<l.length→a<segE (l.getD i z_api_Segment)):=by
 obtain ⟨j,h1,h2,h3,h4⟩:=search_loop hl hO a l.length 0 l.length k (by omega) (by omega) (by omega) (by omega) (fun i h=>by omega) (fun i h h'=>by omega)
 refine ⟨j,?_,h2,h3,h4⟩
 unfold image_search_api_Segment_int64.f slices_BinarySearchFunc_api_Segment_api_Segment_int64.f
 rw [show ((0:Nat):Int)=0 from rfl] at h1
 rw [h1]
 simp only [Option.bind_some]
 by_cases hj:j<l.length
 ·rw [if_pos (fun _=>by omega),if_pos (by simp;omega),rd_nat,cmp_eq hO hj,if_neg (by have:=h4 j (by omega) hj;omega)]
  rfl
 ·rw [if_pos (by simp<;>omega),if_neg (by simp<;>omega)]
  rfl
theorem runB_part {l:List api_Segment} {a:Int}:∀(part:List Int) (d c:Nat) (acc:List Int),(∀t,t<part.length→byteAt l (a+((c+t:Nat):Int))=some (part.getD t 0))→runB l a (part.length+d) c acc=runB l a d (c+part.length) (acc++part)
  |[],d,c,acc,_=>by simp
  | b :: part, d, c, acc, h => by
    have h0:=h 0 (by simp)
    rw [show (b::part).length+d=(part.length+d)+1 by simp;omega,runB,show (a+(c:Int))=a+((c+0:Nat):Int) by simp,h0]
    show runB l a (part.length+d) (c+1) (acc++[b])=_
    rw [runB_part part d (c+1) (acc++[b]) (fun t ht=>by have:=h (t+1) (by simpa using ht);rw [show c+1+t=c+(t+1) by omega];exact this)]
    rw [show c+1+part.length=c+(b::part).length by simp;omega,show acc++[b]++part=acc++b::part by simp]
def endB:Option (List Int)→((List Int)×Bool)⊕(List Int)
 |none=> .inl ([],false)
 |some xs=> .inr xs
theorem pread_loop {a0 : api_Image} {a : Int} {n : Nat} (hl : a0.vSegs.length ≤ 200) (hO : OkI a0.vSegs) (ha : -9223372036854775808 ≤ a ∧ a ≤ 9223372036854775807) (hn : n ≤ 4096) : ∀ (d j c m : Nat) (acc : List Int), j + d = a0.vSegs.length → d + 1 < m → acc.length = c → c ≤ n →
    (c=n∨((∀i,i<j→segE (a0.vSegs.getD i z_api_Segment)≤a+(c:Int))∧(∀i,j≤i→i<a0.vSegs.length→a+(c:Int)<segE (a0.vSegs.getD i z_api_Segment))∧a+(c:Int)≤9223372036854775807))→
    image_read.l0 a0 a (n:Int) m (j:Int) acc=some (endB (runB a0.vSegs a (n-c) c acc)):=by
  intro d
  induction d with
  | zero =>
    intro j c m acc hj hm hc hcn hI
    obtain ⟨m,rfl⟩:∃q,m=q+1:=⟨m-1,by omega⟩
    rw [image_read.l0]
    by_cases he:c=n
    · rw [if_neg (by simp;omega),he,Nat.sub_self];rfl
    · rcases hI with h|⟨hA,hB,hC⟩
      · exact absurd h he
      · have hd2:decide ((j:Int)≥(a0.vSegs.length:Int))=true:=by simp;omega
        rw [if_pos (by simp;omega),if_pos (by rw [hd2];simp),if_pos (by rw [hd2];simp)]
        rw [show n - c = (n - c - 1) + 1 by omega, runB, byteAt_none fun i hi h => by
          have:=hA i (by omega)
          unfold inSeg at h; unfold segE at this; omega]
        rfl
  | succ d ih =>
    intro j c m acc hj hm hc hcn hI
    obtain ⟨m,rfl⟩:∃q,m=q+1:=⟨m-1,by omega⟩
    rw [image_read.l0]
    by_cases he:c=n
    · rw [if_neg (by simp;omega),he,Nat.sub_self];rfl
    · rcases hI with h | ⟨hA, hB, hC⟩
      · exact absurd h he
      · have hjl:j<a0.vSegs.length:=by omega
        have hw:IntKind.wrap .i64 (a+((acc.length:Nat):Int))=a+(c:Int):=by rw [hc];exact wrap_id (by omega) hC
        have hs:=hO.all j hjl
        have hBj:=hB j (by omega) hjl
        rw [if_pos (by simp;omega),hw,rd_nat,if_pos (fun _=>by omega)]
        have hnone:a+(c:Int)<0∨a+(c:Int)<(a0.vSegs.getD j z_api_Segment).vAt→byteAt a0.vSegs (a+(c:Int))=none:=fun h=>by
          rcases h with h|h
          · exact big_none hO (.inr h)
          · refine byteAt_none fun i hi h'=>?_
            unfold inSeg at h'
            rcases Nat.lt_or_ge i j with h1|h1
            · have:=hA i h1;unfold segE at this;omega
            · rcases Nat.lt_or_ge j i with h2|h2
              · have:=hO.ord j i h2 hi;omega
              · obtain rfl:i=j:=by omega
                omega
        by_cases hno:a+(c:Int)<0∨a+(c:Int)<(a0.vSegs.getD j z_api_Segment).vAt
        · rw [if_pos (by simp only [Bool.or_eq_true,decide_eq_true_eq];omega),show n-c=(n-c-1)+1 by omega,runB,hnone hno]
          rfl
        · rw [if_neg (by simp only [Bool.or_eq_true,decide_eq_true_eq];omega),if_pos (by omega)]
          generalize hS:a0.vSegs.getD j z_api_Segment=s at*
          unfold segE at hBj
          obtain ⟨F,hF⟩:∃F:Nat,a+(c:Int)-s.vAt=(F:Int):=⟨(a+(c:Int)-s.vAt).toNat,by omega⟩
          have hFl:F<s.vBytes.length:=by omega
          have hmin:iMin (s.vBytes.length:Int) (IntKind.wrap .i64 (IntKind.wrap .i64 ((F:Int)+(n:Int))-((acc.length:Nat):Int)))=((min s.vBytes.length (F+n-c):Nat):Int):=by
            rw [wrap_id (x:=(F:Int)+n) (by omega) (by omega),hc,wrap_id (by omega) (by omega)]
            unfold iMin
            split<;>omega
          rw [hF,wrap_id (x:=(F:Int)) (by omega) (by omega),hmin]
          generalize hH:min s.vBytes.length (F+n-c)=H
          have hpl:(List.drop F (List.take H s.vBytes)).length=H-F:=by rw [List.length_drop,List.length_take];omega
          rw [if_pos (by omega),show ((F:Int)).toNat=F from rfl,show ((H:Int)).toNat=H from rfl,if_pos (by rw [hpl];omega),wrap_nat (n:=300) (by omega) (by omega)]
          rw [ih (j+1) (c+(H-F)) m _ (by omega) (by omega) (by rw [List.length_append,hpl];omega) (by omega) ?_]
          · congr 2
            have := runB_part (l := a0.vSegs) (a := a) (List.drop F (List.take H s.vBytes)) (n - (c + (H - F))) c acc (fun t ht => by
              rw [hpl] at ht
              have hin:inSeg (a0.vSegs.getD j z_api_Segment) (a+((c+t:Nat):Int)):=by rw [hS];unfold inSeg;omega
              rw [byteAt_some j hjl (fun i hi h' => by
                have:=hA i hi
                unfold inSeg at h'; unfold segE at this; omega) hin, hS]
              congr 1
              rw [List.getD_eq_getElem?_getD,List.getD_eq_getElem?_getD,List.getElem?_drop,List.getElem?_take,if_pos (by omega)]
              congr 2
              omega)
            rw [hpl] at this
            rw [show n-c=(H-F)+(n-(c+(H-F))) by omega]
            exact this.symm
          · by_cases hn2:c+(H-F)=n
            · exact .inl hn2
            · have hHl:H=s.vBytes.length:=by omega
              refine .inr ⟨fun i hi=>?_,fun i hi hi2=>?_,by omega⟩
              · rcases Nat.lt_or_ge i j with h1|h1
                · have:=hA i h1;omega
                · obtain rfl:i=j:=by omega
                  rw [hS];unfold segE;omega
              · have h1:=hO.ord j i (by omega) hi2
                have h2:=hO.all i hi2
                rw [hS] at h1
                unfold segE;omega
theorem pRead {a0:api_Image} {a:Int} {n k:Nat} (hl:a0.vSegs.length≤200) (hO:OkI a0.vSegs) (ha: -9223372036854775808≤a∧a≤9223372036854775807) (hn:n≤4096) (hk:300≤k):
  image_read.f k a0 a (n:Int)=some (outL (runB a0.vSegs a n 0 [])):=by
 obtain ⟨j,h1,h2,h3,h4⟩:=search_eq hl hO a (k:=k) (by omega)
 unfold image_read.f
 rw [h1]
 simp only [Option.bind_some]
 rw [pread_loop hl hO ha hn (a0.vSegs.length-j) j 0 k [] (by omega) (by omega) rfl (by omega) (.inr ⟨fun i hi=>by have:=h3 i hi;simpa using this,fun i hi hi2=>by have:=h4 i hi hi2;simpa using this,by simpa using ha.2⟩)]
 simp only [Option.bind_some,Nat.sub_zero]
 cases runB a0.vSegs a n 0 []<;>rfl
def bits_FromBytes.l0 (a1:List Int):Nat→Int→Int→Option (Int)
 |0,_,_=>none
 |m+1,y1_0,y1_1=>if (decide (y1_1<(a1.length:Int)))=true then (if 0≤y1_1∧y1_1<a1.length then (if 0≤(IntKind.wrap .i64 (8*y1_1)) then (bits_FromBytes.l0 a1 m (iOr .u64 y1_0 (iShl .u64 (IntKind.wrap .u64 (rd 0 a1 y1_1)) (IntKind.wrap .i64 (8*y1_1)))) (IntKind.wrap .i64 (y1_1+1))) else none) else none) else (some y1_0)
def bits_FromBytes.f (k:Nat) (a0:api_Int) (a1:List Int):Option (Int×Int):=(bits_Check.f a0).bind fun v1=>(if (v1 !=0)=true then (some (0,v1)) else (if ((a1.length:Int) !=a0.vSize)=true then (some (0,1)) else ((bits_FromBytes.l0 a1 k 0 0).bind fun xx1=>((bits_wrap.f a0 (IntKind.wrap .i64 xx1)).bind fun v2=>(some (v2,0))))))
theorem bits_FromBytes.calls (k:Nat) (a0:api_Int) (a1:List Int) (A1_0:Option Addr) (c1_0:Nat) {h0:View} {w0:World} (hv:Sees h0 w0) (hr1_0:Rd (Kd.int .u8) h0 A1_0 a1) (hc1_0:a1.length≤c1_0) {r:Int×Int} (H:bits_FromBytes.f k a0 a1=some r):Calls Tryz.prog 76 #[Value.agg #[vI a0.vSize,vB a0.vSigned],vL A1_0 a1.length c1_0] w0 (fun e w1=>e= .returned (Value.tuple #[vI r.1,vI r.2])∧Ext w0 w1):=by
 unfold bits_FromBytes.f at H
 have HS:St [] h0 w0 h0 [] w0:=St.init hv
 go_enter Tryz.func76,Tryz.ntmps76
 refine wp_seq<|region<|run_ex rfl rfl (does_box (cs:=#[vI a0.vSize,vB a0.vSigned]) rfl rfl) ?_
 rintro w1 _ hE1 ⟨b1,rfl,ge1,hb1⟩
 have HS1:=HS.new hE1 ge1 hb1
 refine rs (vI 0) (r_assign rfl)<|rs (vI 0) (r_assign rfl) ?_
 try simp only [sc0,sc1]
 refine run_nil<|norm_then<|wp_seq<|wp_seq<|region<|rs (Value.agg #[vI a0.vSize,vB a0.vSigned]) (r_loadBoxAgg (n:=2) (vs:=[vI a0.vSize,vB a0.vSigned]) rfl Tryz.isAgg29 (HS1.look 0 rfl) Tryz.sizeOf29 rfl rfl) ?_
 obtain ⟨v1,H1,H⟩:=of_bind H
 refine run_eq (v:=vI v1) rfl rfl (does_call_eq Tryz.call56 rfl rfl (bits_Check.calls a0 HS1.sees H1)) ?_
 intro w2 hE2
 have HS2:=HS1.step hE2
 refine rs (vI v1) (r_assign rfl) ?_
 try simp only [sc0,sc1]
 refine run_nil<|norm_then<|wp_seq<|region<|rs (vI v1) (r_move rfl)<|rs (vB (v1 !=0)) (r_bin rfl rfl rfl) ?_
 try simp only [sc0,sc1]
 refine run_nil<|norm_then<|wp_cond_split (t:=(v1 !=0)) rfl (fun c1=>?_) (fun c1=>?_)
 ·replace H:=of_pos H c1
  refine wp_seq<|region<|rs (vI v1) (r_move rfl)<|rs (vI 0) (r_assign rfl)<|rs (vI v1) (r_assign rfl) ?_
  try simp only [sc0,sc1]
  refine run_nil<|norm_then<|wp_ret<|ret_then ?_
  obtain rfl:=Option.some.inj H
  exact bodyPost_ret (results_2 rfl (one_tmp rfl) (one_tmp rfl)) rfl<|⟨rfl,HS2.toE⟩
 ·replace H:=of_neg H (nt c1)
  refine wp_skip<|norm_then<|wp_seq<|wp_seq<|region<|rs (vL A1_0 a1.length c1_0) (r_move rfl)<|rs (vI (a1.length:Int)) (r_len rfl Tryz.runUnderlying42)<|rs (vP b1 0) (r_fieldBox (n:=1) (o':=0) rfl Tryz.runUnderlying29 rfl Tryz.sizeOf3 (by decide) rfl)<|rs (vI a0.vSize) (r_loadBox rfl Tryz.isAgg3 (HS2.look 0 rfl) rfl)<|run_frame (by simp only [sc0,sc1];rfl) ?_
  refine rs (vB ((a1.length:Int) !=a0.vSize)) (r_bin rfl rfl rfl) ?_
  try simp only [sc0,sc1]
  refine run_nil<|norm_then<|wp_cond_split (t:=((a1.length:Int) !=a0.vSize)) rfl (fun c2=>?_) (fun c2=>?_)
  ·replace H:=of_pos H c2
   refine wp_seq<|region<|rs (vI 0) (r_assign rfl)<|rs (vI 1) (r_assign rfl) ?_
   try simp only [sc0,sc1]
   refine run_nil<|norm_then<|wp_ret<|ret_then ?_
   obtain rfl:=Option.some.inj H
   exact bodyPost_ret (results_2 rfl (one_tmp rfl) (one_tmp rfl)) rfl<|⟨rfl,HS2.toE⟩
  ·replace H:=of_neg H (nt c2)
   refine wp_skip<|norm_then<|wp_seq<|region<|rs (Value.int .u64 0) (r_assign rfl) ?_
   try simp only [sc0,sc1]
   refine run_nil<|norm_then<|wp_seq<|wp_seq<|region<|rs (vL A1_0 a1.length c1_0) (r_move rfl)<|rs (vI (a1.length:Int)) (r_len rfl Tryz.runUnderlying42)<|rs (vI 0) (r_move rfl) ?_
   try simp only [sc0,sc1]
   refine run_nil<|norm_then ?_
   obtain ⟨xx1,H,G1⟩:=of_bind H
   refine loop_j [7,8,9,22,23,24,25,26,27,28,29,30,31,32,33,34] (fun m us w'=>∃y1_0 y1_1:Int,Fit us (fun uy1=>[Value.int .u64 y1_0,(uy1 1),(uy1 2),vI y1_1,(uy1 4),(uy1 5),(uy1 6),(uy1 7),(uy1 8),(uy1 9),(uy1 10),(uy1 11),(uy1 12),(uy1 13),(uy1 14),(uy1 15)])∧bits_FromBytes.l0 a1 m y1_0 y1_1=some xx1∧St [] h0 w0 h0 [(some b1, .cells #[vI a0.vSize,vB a0.vSigned] 29 (0,0))] w') (fun us w'=>Fit us (fun uo1=>[Value.int .u64 xx1,(uo1 1),(uo1 2),(uo1 3),(uo1 4),(uo1 5),(uo1 6),(uo1 7),(uo1 8),(uo1 9),(uo1 10),(uo1 11),(uo1 12),(uo1 13),(uo1 14),(uo1 15)])∧St [] h0 w0 h0 [(some b1, .cells #[vI a0.vSize,vB a0.vSigned] 29 (0,0))] w') k ⟨0,0,(fit rfl),H,HS2⟩ ?_ ?_
   ·rintro m us w3 ⟨y1_0,y1_1,huy1,H,HS3⟩
    obtain ⟨uy1,rfl⟩:=unj huy1
    cases m with
    |zero=>exact absurd H (by simp [bits_FromBytes.l0])
    |succ m=>
     rw [bits_FromBytes.l0] at H
     try simp only [patch,sc0,sc1]
     refine wp_seq<|region<|rs (vB (decide (y1_1<(a1.length:Int)))) (r_bin rfl rfl rfl) ?_
     try simp only [sc0,sc1]
     refine run_nil<|norm_then<|wp_seq<|wp_cond_split (t:=(decide (y1_1<(a1.length:Int)))) rfl (fun c3=>?_) (fun c3=>?_)
     ·replace H:=of_pos H c3
      refine wp_skip<|norm_then<|wp_seq<|wp_block<|wp_seq<|region<|rs (vI y1_1) (r_move rfl) ?_
      obtain ⟨hi1,H⟩:=of_ite H
      obtain ⟨ad1,e1,hel1⟩:=ld_int hr1_0 hi1.1 hi1.2
      refine rs (Value.pointer (some (Addr.add ad1 (y1_1.toNat*1)))) (r_indexA (sz:=1) rfl e1 rfl hi1.1 hi1.2 Tryz.runUnderlying42 Tryz.sizeOf5)<|rs (Value.int .u8 (rd 0 a1 y1_1)) (r_load rfl Tryz.isAgg5 (hel1.cell0 HS3.sees rfl))<|rs (vI y1_1) (r_assign rfl)<|run_frame (by simp only [sc0,sc1];rfl) ?_
      refine rs (Value.int .u8 (rd 0 a1 y1_1)) (r_assign rfl) ?_
      try simp only [sc0,sc1]
      refine run_nil<|norm_then<|region<|rs (Value.int .u64 y1_0) (r_move rfl)<|rs (Value.int .u8 (rd 0 a1 y1_1)) (r_move rfl)<|rs (Value.int .u64 (IntKind.wrap .u64 (rd 0 a1 y1_1))) (r_conv rfl Tryz.runUnderlying5 Tryz.runUnderlying71)<|rs (vI y1_1) (r_move rfl)<|run_frame (by simp only [sc0,sc1];rfl) ?_
      refine rs (vI (w64 (8*y1_1))) (r_bin rfl rfl rfl) ?_
      obtain ⟨hb2,H⟩:=of_ite H
      refine rs (Value.int .u64 (iShl .u64 (IntKind.wrap .u64 (rd 0 a1 y1_1)) (w64 (8*y1_1)))) (r_shl rfl rfl hb2)<|rs (Value.int .u64 (iOr .u64 y1_0 (iShl .u64 (IntKind.wrap .u64 (rd 0 a1 y1_1)) (w64 (8*y1_1))))) (r_or rfl rfl)<|rs (Value.int .u64 (iOr .u64 y1_0 (iShl .u64 (IntKind.wrap .u64 (rd 0 a1 y1_1)) (w64 (8*y1_1))))) (r_assign rfl) ?_
      try simp only [sc0,sc1]
      refine run_nil<|norm_block<|norm_then<|region<|rs (vI (w64 (y1_1+1))) (r_bin rfl rfl rfl)<|rs (vI (w64 (y1_1+1))) (r_move rfl) ?_
      try simp only [sc0,sc1]
      refine run_nil<|again_j m (Nat.lt_succ_self m) rfl ⟨(iOr .u64 y1_0 (iShl .u64 (IntKind.wrap .u64 (rd 0 a1 y1_1)) (w64 (8*y1_1)))),(w64 (y1_1+1)),(fit rfl),H,HS3⟩
     ·replace H:=of_neg H (nt c3)
      refine wp_exit<|exit_then ?_
      obtain rfl:=Option.some.inj H
      refine leave_j rfl ⟨(fit rfl),HS3⟩
   ·rintro us w4 ⟨huo1,HS4⟩
    obtain ⟨uo1,rfl⟩:=unj huo1
    replace H:=G1
    clear G1
    try simp only [patch,sc0,sc1]
    refine norm_then<|wp_seq<|region<|rs (Value.agg #[vI a0.vSize,vB a0.vSigned]) (r_loadBoxAgg (n:=2) (vs:=[vI a0.vSize,vB a0.vSigned]) rfl Tryz.isAgg29 (HS4.look 0 rfl) Tryz.sizeOf29 rfl rfl)<|rs (Value.int .u64 xx1) (r_move rfl)<|rs (vI (w64 xx1)) (r_conv rfl Tryz.runUnderlying71 Tryz.runUnderlying2) ?_
    obtain ⟨v2,H2,H⟩:=of_bind H
    refine run_eq (v:=vI v2) rfl rfl (does_call_eq Tryz.call57 rfl rfl (bits_wrap.calls a0 (w64 xx1) HS4.sees H2)) ?_
    intro w5 hE3
    have HS5:=HS4.step hE3
    refine run_frame (by simp only [sc0,sc1];rfl) ?_
    refine rs (vI v2) (r_assign rfl)<|rs (vI 0) (r_assign rfl) ?_
    try simp only [sc0,sc1]
    refine run_nil<|norm_then<|wp_ret ?_
    obtain rfl:=Option.some.inj H
    exact bodyPost_ret (results_2 rfl (one_tmp rfl) (one_tmp rfl)) rfl<|⟨rfl,HS5.toE⟩
def image_load.f (k:Nat) (a0:api_Image) (a1:Int) (a2:api_Int):Option (Int×Bool×Int):=(image_read.f k a0 a1 a2.vSize).bind fun v1=>(if (!v1.2)=true then (some (0,false,0)) else ((bits_FromBytes.f k a2 v1.1).bind fun v2=>(some (v2.1,(v2.2==0),v2.2))))
theorem image_load.calls (k:Nat) (a0:api_Image) (a1:Int) (a2:api_Int) (A0_0:Option Addr) (c0_0:Nat) {h0:View} {w0:World} (hv:Sees h0 w0) (hr0_0:Rd k_api_Segment h0 A0_0 a0.vSegs) (hc0_0:a0.vSegs.length≤c0_0) {r:Int×Bool×Int} (H:image_load.f k a0 a1 a2=some r):Calls Tryz.prog 37 #[Value.agg #[vL A0_0 a0.vSegs.length c0_0],vI a1,Value.agg #[vI a2.vSize,vB a2.vSigned]] w0 (fun e w1=>e= .returned (Value.tuple #[vI r.1,vB r.2.1,vI r.2.2])∧Ext w0 w1):=by
 unfold image_load.f at H
 have HS:St [] h0 w0 h0 [] w0:=St.init hv
 go_enter Tryz.func37,Tryz.ntmps37
 refine wp_seq<|region<|run_ex rfl rfl (does_box (cs:=#[vL A0_0 a0.vSegs.length c0_0]) rfl rfl) ?_
 rintro w1 _ hE1 ⟨b1,rfl,ge1,hb1⟩
 have HS1:=HS.new hE1 ge1 hb1
 refine run_ex rfl rfl (does_box (cs:=#[vI a2.vSize,vB a2.vSigned]) rfl rfl) ?_
 rintro w2 _ hE2 ⟨b2,rfl,ge2,hb2⟩
 have HS2:=HS1.new hE2 ge2 hb2
 refine rs (vI 0) (r_assign rfl)<|rs (vB false) (r_assign rfl)<|run_frame (by simp only [sc0,sc1];rfl) ?_
 refine rs (vI 0) (r_assign rfl) ?_
 try simp only [sc0,sc1]
 refine run_nil<|norm_then<|wp_seq<|region<|rs (Value.agg #[vL A0_0 a0.vSegs.length c0_0]) (r_loadBoxAgg (n:=1) (vs:=[vL A0_0 a0.vSegs.length c0_0]) rfl Tryz.isAgg27 (HS2.look 1 rfl) Tryz.sizeOf27 rfl rfl)<|rs (vI a1) (r_move rfl)<|rs (vP b2 0) (r_fieldBox (n:=1) (o':=0) rfl Tryz.runUnderlying29 rfl Tryz.sizeOf3 (by decide) rfl)<|rs (vI a2.vSize) (r_loadBox rfl Tryz.isAgg3 (HS2.look 0 rfl) rfl)<|run_frame (by simp only [sc0,sc1];rfl) ?_
 obtain ⟨v1,H1,H⟩:=of_bind H
 refine run_ex rfl rfl (does_call Tryz.call59 rfl (gives_in (h:=h0) (R:=(fun hx u=>∃(Av1_0_0:Option Addr) (cv1_0_0:Nat),u=Value.tuple #[vL Av1_0_0 v1.1.length cv1_0_0,vB v1.2]∧v1.1.length≤cv1_0_0∧Rd (Kd.int .u8) hx Av1_0_0 v1.1)) (Ext.rfl' w2) ((image_read.calls k a0 a1 a2.vSize A0_0 c0_0 HS2.sees hr0_0 hc0_0 H1).mono ?_)) rfl) ?_
 ·rintro _ _ ⟨h1,Av1_0_0,cv1_0_0,rfl,hcv1_0_0,hrv1_0_0,g,ss,x⟩
  exact ⟨h1,_,rfl,⟨Av1_0_0,cv1_0_0,rfl,hcv1_0_0,hrv1_0_0⟩,g,ss,x⟩
 rintro w3 _ hE3 ⟨h1,⟨Av1_0_0,cv1_0_0,rfl,hcv1_0_0,hrv1_0_0⟩,gr1,se1⟩
 have HS3:=HS2.view hE3 gr1 se1
 refine rs (Value.tuple #[vL Av1_0_0 v1.1.length cv1_0_0,vB v1.2]) (r_move rfl)<|rs (vL Av1_0_0 v1.1.length cv1_0_0) (r_extract rfl rfl)<|rs (vB v1.2) (r_extract rfl rfl)<|run_frame (by simp only [sc0,sc1];rfl) ?_
 refine rs (vL Av1_0_0 v1.1.length cv1_0_0) (r_assign rfl)<|rs (vB v1.2) (r_assign rfl) ?_
 try simp only [sc0,sc1]
 refine run_nil<|norm_then<|wp_seq<|wp_seq<|region<|rs (vB v1.2) (r_move rfl)<|rs (vB (!v1.2)) (r_not rfl) ?_
 try simp only [sc0,sc1]
 refine run_nil<|norm_then<|wp_cond_split (t:=(!v1.2)) rfl (fun c1=>?_) (fun c1=>?_)
 ·replace H:=of_pos H c1
  refine wp_seq<|region<|rs (vI 0) (r_assign rfl)<|rs (vB false) (r_assign rfl)<|rs (vI 0) (r_assign rfl) ?_
  try simp only [sc0,sc1]
  refine run_nil<|norm_then<|wp_ret<|ret_then ?_
  obtain rfl:=Option.some.inj H
  exact bodyPost_ret (results_3 rfl (one_tmp rfl) (one_tmp rfl) (one_tmp rfl)) rfl<|⟨rfl,HS3.toE⟩
 ·replace H:=of_neg H (nt c1)
  refine wp_skip<|norm_then<|wp_seq<|region<|rs (Value.agg #[vI a2.vSize,vB a2.vSigned]) (r_loadBoxAgg (n:=2) (vs:=[vI a2.vSize,vB a2.vSigned]) rfl Tryz.isAgg29 (HS3.look 0 rfl) Tryz.sizeOf29 rfl rfl)<|rs (vL Av1_0_0 v1.1.length cv1_0_0) (r_move rfl) ?_
  obtain ⟨v2,H2,H⟩:=of_bind H
  refine run_eq (v:=Value.tuple #[vI v2.1,vI v2.2]) rfl rfl (does_call_eq Tryz.call76 rfl rfl (bits_FromBytes.calls k a2 v1.1 Av1_0_0 cv1_0_0 HS3.sees hrv1_0_0 hcv1_0_0 H2)) ?_
  intro w4 hE4
  have HS4:=HS3.step hE4
  refine rs (Value.tuple #[vI v2.1,vI v2.2]) (r_move rfl)<|run_frame (by simp only [sc0,sc1];rfl) ?_
  refine rs (vI v2.1) (r_extract rfl rfl)<|rs (vI v2.2) (r_extract rfl rfl)<|rs (vI v2.1) (r_assign rfl)<|rs (vI v2.2) (r_assign rfl) ?_
  try simp only [sc0,sc1]
  refine run_nil<|norm_then<|wp_seq<|region<|rs (vI v2.1) (r_move rfl)<|rs (vI v2.2) (r_move rfl)<|rs (vB (v2.2==0)) (r_bin rfl rfl rfl)<|rs (vI v2.2) (r_move rfl)<|run_frame (by simp only [sc0,sc1];rfl) ?_
  refine rs (vI v2.1) (r_assign rfl)<|rs (vB (v2.2==0)) (r_assign rfl)<|rs (vI v2.2) (r_assign rfl) ?_
  try simp only [sc0,sc1]
  refine run_nil<|norm_then<|wp_ret ?_
  obtain rfl:=Option.some.inj H
  exact bodyPost_ret (results_3 rfl (one_tmp rfl) (one_tmp rfl) (one_tmp rfl)) rfl<|⟨rfl,HS4.toE⟩
def taplineref01_Check.f (a0:api_Int):Option (Int):=if ((((a0.vSize !=1)&&(a0.vSize !=2))&&(a0.vSize !=4))&&(a0.vSize !=8))=true then (some 10) else (some 0)
def Byt (xs:List Int):Prop:=∀b∈xs,0≤b∧b≤255
def valI:List Int→Int
 |[]=>0
 |b::r=>b+256*valI r
theorem valI_in:∀{xs:List Int},Byt xs→0≤valI xs∧valI xs<256^xs.length
  |[],_=>by simp [valI]
  | b :: r, h => by
    have h1:=h b List.mem_cons_self
    have h2:=valI_in (xs:=r) (fun c hc=>h c (List.mem_cons_of_mem _ hc))
    rw [valI,List.length_cons,Int.pow_succ]
    omega
theorem valI_snoc:∀(xs:List Int) (b:Int),valI (xs++[b])=valI xs+b*256^xs.length
  |[],b=>by simp [valI]
  | c :: r, b => by
    rw [List.cons_append,valI,valI,valI_snoc r b,List.length_cons,Int.pow_succ]
    rw [Int.mul_add,←Int.mul_assoc,Int.mul_comm 256 b,Int.mul_assoc b 256,Int.mul_comm 256 (256^r.length)]
    omega
theorem wrap_mod {x y:Int} (h:x%18446744073709551616=y%18446744073709551616):IntKind.wrap .i64 x=IntKind.wrap .i64 y:=by rw [wi64,wi64,h]
theorem or_add {x z:Int} {e:Nat} (hx:0≤x∧x<2^e) (hz:0≤z) (hs:z*2^e+x<18446744073709551616):iOr .u64 x (z*2^e)=x+z*2^e:=by
 obtain ⟨a,rfl⟩:∃a:Nat,x=(a:Int):=⟨x.toNat,by omega⟩
 obtain ⟨b,rfl⟩:∃b:Nat,z=(b:Int):=⟨z.toNat,by omega⟩
 have ha:a<2^e:=by have:=hx.2;exact_mod_cast this
 have hs':b*2^e+a<18446744073709551616:=by
  have h:((b*2^e+a:Nat):Int)<18446744073709551616:=by
   rw [Int.natCast_add,Int.natCast_mul,Int.natCast_pow];exact hs
  omega
 have e1:((b:Int)*2^e)=((b*2^e:Nat):Int):=by rw [Int.natCast_mul,Int.natCast_pow];rfl
 unfold iOr
 rw [e1]
 have h1:(BitVec.ofInt 64 (a:Int)|||BitVec.ofInt 64 ((b*2^e:Nat):Int)).toNat=a+b*2^e:=by
  rw [BitVec.toNat_or,BitVec.toNat_ofInt,BitVec.toNat_ofInt]
  have p:(2:Nat)^64=18446744073709551616:=by decide
  have q1:((a:Int)%((2^64:Nat):Int)).toNat=a:=by rw [p];omega
  have q2:(((b*2^e:Nat):Int)%((2^64:Nat):Int)).toNat=b*2^e:=by rw [p];omega
  rw [q1,q2,Nat.or_comm,Nat.mul_comm b,←Nat.two_pow_add_eq_or_of_lt ha,Nat.add_comm]
 show IntKind.wrap .u64 ((BitVec.ofInt 64 (a:Int)|||BitVec.ofInt 64 ((b*2^e:Nat):Int)).toNat:Int)=_
 rw [h1,wu64]
 omega
theorem pow256 (i:Nat):(256:Int)^i=2^(8*i):=by rw [Int.pow_mul];rfl
theorem or_byte {xs:List Int} (hb:Byt xs) {b:Int} (hb1:0≤b∧b≤255) (h8:xs.length<8):iOr .u64 (valI xs) (iShl .u64 (IntKind.wrap .u64 b) (IntKind.wrap .i64 (8*(xs.length:Int))))=valI (xs++[b]):=by
 have hv:=valI_in hb
 rw [pow256] at hv
 rw [wrap_id (x:=8*(xs.length:Int)) (by omega) (by omega),wu64,valI_snoc,pow256]
 have hm:min (8*(xs.length:Int)).toNat IntKind.u64.bits=8*xs.length:=by
  have:IntKind.u64.bits=64:=rfl
  omega
 unfold iShl
 rw [hm,Int.emod_eq_of_lt (by omega) (by omega)]
 have hle:(2:Int)^(8*xs.length)≤2^56:=by
  have:(2:Nat)^(8*xs.length)≤2^56:=Nat.pow_le_pow_right (by decide) (by omega)
  exact_mod_cast this
 have hpos:(0:Int)<2^(8*xs.length):=by
  have:0<(2:Nat)^(8*xs.length):=Nat.pow_pos (by decide)
  exact_mod_cast this
 have h56:(2:Int)^56=72057594037927936:=by decide
 have hbm:b*2^(8*xs.length)≤255*2^(8*xs.length):=Int.mul_le_mul_of_nonneg_right hb1.2 (by omega)
 have hb0:0≤b*2^(8*xs.length):=Int.mul_nonneg hb1.1 (by omega)
 rw [wu64,Int.emod_eq_of_lt hb0 (by omega)]
 exact or_add hv hb1.1 (by omega)
theorem pfrom_loop {xs:List Int} (hb:Byt xs) (h8:xs.length≤8):∀(d i m:Nat),i+d=xs.length→d<m→bits_FromBytes.l0 xs m (valI (xs.take i)) (i:Int)=some (valI xs):=by
  intro d
  induction d with
  | zero =>
    intro i m hi hm
    obtain ⟨m,rfl⟩:∃q,m=q+1:=⟨m-1,by omega⟩
    rw [bits_FromBytes.l0,if_neg (by simp;omega),List.take_of_length_le (by omega)]
  | succ d ih =>
    intro i m hi hm
    obtain ⟨m,rfl⟩:∃q,m=q+1:=⟨m-1,by omega⟩
    have hl:(xs.take i).length=i:=by rw [List.length_take];omega
    have hbt:Byt (xs.take i):=fun b h=>hb b (List.mem_of_mem_take h)
    have hbi:=hb _ (getD_mem (z:=0) (j:=i) (xs:=xs) (by omega))
    have key:=or_byte hbt hbi (by omega)
    rw [hl] at key
    rw [bits_FromBytes.l0,if_pos (by simp;omega),if_pos (by omega),if_pos (by rw [wrap_id (by omega) (by omega)];omega),rd_nat,key,wrap_nat (n:=300) (by omega) (by omega)]
    have ht:xs.take i++[xs.getD i 0]=xs.take (i+1):=by
      rw [List.take_add_one,List.getElem?_eq_getElem (by omega),List.getD_eq_getElem?_getD,List.getElem?_eq_getElem (by omega)]
      rfl
    rw [ht]
    exact ih (i+1) m (by omega) (by omega)
theorem pFrom {t:api_Int} {n:Nat} {xs:List Int} (hn:t.vSize=(n:Int)) (h:n=1∨n=2∨n=4∨n=8) (hx:xs.length=n) (hb:Byt xs) {k:Nat} (hk:9≤k):bits_FromBytes.f k t xs=some (wrp t (IntKind.wrap .i64 (valI xs)),0):=by
 have hok:okI t=true:=by unfold okI;simp [hn];omega
 unfold bits_FromBytes.f bits_Check.f bits_wrap.f
 rw [if_pos hok]
 simp only [Option.bind_some]
 have:=pfrom_loop hb (by omega) xs.length 0 k (by omega) (by omega)
 rw [show ((0:Nat):Int)=0 from rfl,List.take_zero,show valI []=0 from rfl] at this
 rw [if_neg (by decide),if_neg (by rw [hn,hx];simp),this]
 simp only [Option.bind_some]
 rw [if_pos hok]
 rfl
def BytesOk (l:List api_Segment):Prop:=∀s∈l,Byt s.vBytes
theorem byteAt_ok:∀{l:List api_Segment} {x b:Int},BytesOk l→byteAt l x=some b→0≤b∧b≤255
  |[],x,b,_,h=>by simp [byteAt] at h
  | s :: r, x, b, hl, h => by
    rw [byteAt] at h
    by_cases hi:inSeg s x
    · rw [if_pos hi] at h
      obtain rfl:=Option.some.inj h
      unfold inSeg at hi
      exact hl s List.mem_cons_self _ (getD_mem (by omega))
    · rw [if_neg hi] at h
      exact byteAt_ok (fun q hq=>hl q (List.mem_cons_of_mem _ hq)) h
theorem runB_ok {l : List api_Segment} {a : Int} (hl : BytesOk l) : ∀ (d i : Nat) (acc xs : List Int), Byt acc → runB l a d i acc = some xs → Byt xs ∧ xs.length = acc.length + d
  |0,i,acc,xs,ha,h=>by obtain rfl:=Option.some.inj h;exact ⟨ha,rfl⟩
  | d + 1, i, acc, xs, ha, h => by
    rw [runB] at h
    cases hb:byteAt l (a+(i:Int)) with
    |none=>rw [hb] at h;cases h
    | some b =>
      rw [hb] at h
      obtain ⟨h1, h2⟩ := runB_ok hl d (i + 1) (acc ++ [b]) xs (fun c hc => by
        rcases List.mem_append.1 hc with hc|hc
        · exact ha c hc
        · obtain rfl := List.mem_singleton.1 hc; exact byteAt_ok hl hb) h
      exact ⟨h1,by rw [h2];simp;omega⟩
def loadS (t:api_Int):Option (List Int)→Int×Bool×Int
 |none=>(0,false,0)
 |some xs=>(wrp t (IntKind.wrap .i64 (valI xs)),true,0)
theorem pLoad {m:api_Image} {a:Int} {t:api_Int} {n k:Nat} (hl:m.vSegs.length≤200) (hO:OkI m.vSegs) (hB:BytesOk m.vSegs) (ha:In64 a) (hn:t.vSize=(n:Int)) (h:n=1∨n=2∨n=4∨n=8) (hk:300≤k):
    image_load.f k m a t=some (loadS t (runB m.vSegs a n 0 [])):=by
  unfold image_load.f
  rw [hn,pRead hl hO ha (by omega) hk]
  simp only [Option.bind_some]
  cases hr:runB m.vSegs a n 0 [] with
  |none=>rfl
  | some xs =>
    obtain ⟨h1,h2⟩:=runB_ok hB n 0 [] xs (fun b hb=>by cases hb) hr
    show ((bits_FromBytes.f k t xs).bind fun v2=>some (v2.1,(v2.2==0),v2.2))=_
    rw [pFrom hn h (by simpa using h2) h1 (by omega)]
    rfl
structure taplinelaw09_Asked where
 vAt:Int
 vN:Int
 vT:api_Int
 vName:ByteArray
 vPath:List ByteArray
structure arr2_Int where
 ve0:Int
 ve1:Int
def ctf_find_1.f (a0:api_Def) (x0:ByteArray):Option (Bool):=(ctf_named.f a0).bind fun v1=>(some (v1&&(strEq a0.vName x0)))
theorem ctf_find_1.calls (a0:api_Def) (x0:ByteArray) (A0_6:Option Addr) (c0_6:Nat) (bx0:Nat) {h0:View} {w0:World} (hv:Sees h0 w0) (hr0_6:Rd k_api_Field h0 A0_6 a0.vFields) (hc0_6:a0.vFields.length≤c0_6) (hx0:w0.heap[bx0]?=some (.cells #[vS x0] 9 (0,0))) {r:Bool} (H:ctf_find_1.f a0 x0=some r):Calls Tryz.prog 122 #[Value.agg #[vI a0.vKind,vS a0.vName,vI a0.vInt.vSize,vB a0.vInt.vSigned,vI a0.vRef,vI a0.vN,vL A0_6 a0.vFields.length c0_6],vP bx0 0] w0 (fun e w1=>e= .returned (vB r)∧Ext w0 w1):=by
 unfold ctf_find_1.f at H
 have HS:St [] h0 w0 h0 [] w0:=St.init hv
 go_enter Tryz.func122,Tryz.ntmps122
 refine wp_seq<|region<|run_ex rfl rfl (does_box (cs:=#[vI a0.vKind,vS a0.vName,vI a0.vInt.vSize,vB a0.vInt.vSigned,vI a0.vRef,vI a0.vN,vL A0_6 a0.vFields.length c0_6]) rfl rfl) ?_
 rintro w1 _ hE1 ⟨b1,rfl,ge1,hb1⟩
 have HS1:=HS.new hE1 ge1 hb1
 refine rs (vB false) (r_assign rfl) ?_
 try simp only [sc0,sc1]
 refine run_nil<|norm_then<|wp_seq<|region<|rs (Value.agg #[vI a0.vKind,vS a0.vName,vI a0.vInt.vSize,vB a0.vInt.vSigned,vI a0.vRef,vI a0.vN,vL A0_6 a0.vFields.length c0_6]) (r_loadBoxAgg (n:=7) (vs:=[vI a0.vKind,vS a0.vName,vI a0.vInt.vSize,vB a0.vInt.vSigned,vI a0.vRef,vI a0.vN,vL A0_6 a0.vFields.length c0_6]) rfl Tryz.isAgg56 (HS1.look 0 rfl) Tryz.sizeOf56 rfl rfl) ?_
 obtain ⟨v1,H1,H⟩:=of_bind H
 refine run_eq (v:=vB v1) rfl rfl (does_call_eq Tryz.call116 rfl rfl (ctf_named.calls a0 A0_6 c0_6 HS1.sees hr0_6 hc0_6 H1)) ?_
 intro w2 hE2
 have HS2:=HS1.step hE2
 refine rs (vB v1) (r_move rfl)<|rgs v1 true (vP b1 1) rfl rfl rfl rfl (fun hg=>(r_fieldBox (n:=1) (o':=1) rfl Tryz.runUnderlying56 rfl Tryz.sizeOf9 (by decide) rfl))<|run_frame (by simp only [sc0,sc1];rfl) ?_
 refine rgs v1 true (vS a0.vName) rfl rfl rfl rfl (fun hg=>(r_loadBox (gvt (vP b1 1) hg rfl) Tryz.isAgg9 (HS2.look 0 rfl) rfl))<|rgs v1 true (vS x0) rfl rfl rfl rfl (fun hg=>(r_loadBox rfl Tryz.isAgg9 (heap_ext hx0 HS2.toE) rfl))<|rgs v1 true (vB (strEq a0.vName x0)) rfl rfl rfl rfl (fun hg=>(r_streql (gvt (vS a0.vName) hg rfl) (gvt (vS x0) hg rfl)))<|rs (vB (v1&&(strEq a0.vName x0))) (r_pick_and rfl (fun hp=>(gvt (vB (strEq a0.vName x0)) (and_i rfl hp) rfl)) rfl)<|run_frame (by simp only [sc0,sc1];rfl) ?_
 refine rs (vB (v1&&(strEq a0.vName x0))) (r_assign rfl) ?_
 try simp only [sc0,sc1]
 refine run_nil<|norm_then<|wp_ret ?_
 obtain rfl:=Option.some.inj H
 exact bodyPost_ret (results_1 rfl (one_tmp rfl)) rfl<|⟨rfl,HS2.toE⟩
def ctf_find.f (k:Nat) (a0:api_Types) (a1:ByteArray):Option (Int):=(slices_IndexFunc_api_Def_api_Def.f k a0.vDefs (fun z0=>ctf_find_1.f z0 a1)).bind fun v1=>(some v1)
theorem ctf_find.calls (k:Nat) (a0:api_Types) (a1:ByteArray) (A0_0:Option Addr) (c0_0:Nat) {h0:View} {w0:World} (hv:Sees h0 w0) (hr0_0:Rd k_api_Def h0 A0_0 a0.vDefs) (hc0_0:a0.vDefs.length≤c0_0) {r:Int} (H:ctf_find.f k a0 a1=some r):Calls Tryz.prog 75 #[Value.agg #[vL A0_0 a0.vDefs.length c0_0],vS a1] w0 (fun e w1=>e= .returned (vI r)∧Ext w0 w1):=by
 unfold ctf_find.f at H
 have HS:St [] h0 w0 h0 [] w0:=St.init hv
 go_enter Tryz.func75,Tryz.ntmps75
 refine wp_seq<|region<|run_ex rfl rfl (does_box (cs:=#[vL A0_0 a0.vDefs.length c0_0]) rfl rfl) ?_
 rintro w1 _ hE1 ⟨b1,rfl,ge1,hb1⟩
 have HS1:=HS.new hE1 ge1 hb1
 refine run_ex rfl rfl (does_box (cs:=#[vS a1]) rfl rfl) ?_
 rintro w2 _ hE2 ⟨b2,rfl,ge2,hb2⟩
 have HS2:=HS1.new hE2 ge2 hb2
 refine rs (vI 0) (r_assign rfl) ?_
 try simp only [sc0,sc1]
 refine run_nil<|norm_then<|wp_seq<|region<|rs (vP b1 0) (r_fieldBox (n:=1) (o':=0) rfl Tryz.runUnderlying24 rfl Tryz.sizeOf22 (by decide) rfl)<|rs (vL A0_0 a0.vDefs.length c0_0) (r_loadBox rfl Tryz.isAgg22 (HS2.look 1 rfl) rfl)<|rs (Value.func (.func 122) #[] #[vP b2 0]) (r_makeFunc (vs:=[vP b2 0]) rfl) ?_
 obtain ⟨v1,H1,H⟩:=of_bind H
 refine run_eq (v:=vI v1) rfl rfl (does_call_eq Tryz.call121 rfl rfl (slices_IndexFunc_api_Def_api_Def.calls k a0.vDefs (fun z0=>ctf_find_1.f z0 a1) A0_0 c0_0 122 [vP b2 0] HS2.sees hr0_0 hc0_0 Tryz.call122 (fun z0 Az0_6 cz0_6 h w hE hs hv hz0_6 hzc0_6 r H=>ctf_find_1.calls z0 a1 Az0_6 cz0_6 b2 hv hz0_6 hzc0_6 (heap_ext (HS2.look 0 rfl) hE) H) H1)) ?_
 intro w3 hE3
 have HS3:=HS2.step hE3
 refine run_frame (by simp only [sc0,sc1];rfl) ?_
 refine rs (vI v1) (r_assign rfl) ?_
 try simp only [sc0,sc1]
 refine run_nil<|norm_then<|wp_ret ?_
 obtain rfl:=Option.some.inj H
 exact bodyPost_ret (results_1 rfl (one_tmp rfl)) rfl<|⟨rfl,HS3.toE⟩
def ctf_Lookup.f (k:Nat) (a0:api_Types) (a1:ByteArray):Option (Int×Int):=(ctf_valid.f k a0).bind fun v1=>(if (!v1)=true then (some (0,80)) else ((ctf_find.f k a0 a1).bind fun v2=>(if (decide (v2<0))=true then (some (0,3)) else (some (v2,0)))))
theorem ctf_Lookup.calls (k:Nat) (a0:api_Types) (a1:ByteArray) (A0_0:Option Addr) (c0_0:Nat) {h0:View} {w0:World} (hv:Sees h0 w0) (hr0_0:Rd k_api_Def h0 A0_0 a0.vDefs) (hc0_0:a0.vDefs.length≤c0_0) {r:Int×Int} (H:ctf_Lookup.f k a0 a1=some r):Calls Tryz.prog 35 #[Value.agg #[vL A0_0 a0.vDefs.length c0_0],vS a1] w0 (fun e w1=>e= .returned (Value.tuple #[vI r.1,vI r.2])∧Ext w0 w1):=by
 unfold ctf_Lookup.f at H
 have HS:St [] h0 w0 h0 [] w0:=St.init hv
 go_enter Tryz.func35,Tryz.ntmps35
 refine wp_seq<|region<|run_ex rfl rfl (does_box (cs:=#[vL A0_0 a0.vDefs.length c0_0]) rfl rfl) ?_
 rintro w1 _ hE1 ⟨b1,rfl,ge1,hb1⟩
 have HS1:=HS.new hE1 ge1 hb1
 refine rs (vI 0) (r_assign rfl)<|rs (vI 0) (r_assign rfl) ?_
 try simp only [sc0,sc1]
 refine run_nil<|norm_then<|wp_seq<|wp_seq<|region<|rs (Value.agg #[vL A0_0 a0.vDefs.length c0_0]) (r_loadBoxAgg (n:=1) (vs:=[vL A0_0 a0.vDefs.length c0_0]) rfl Tryz.isAgg24 (HS1.look 0 rfl) Tryz.sizeOf24 rfl rfl) ?_
 obtain ⟨v1,H1,H⟩:=of_bind H
 refine run_eq (v:=vB v1) rfl rfl (does_call_eq Tryz.call74 rfl rfl (ctf_valid.calls k a0 A0_0 c0_0 HS1.sees hr0_0 hc0_0 H1)) ?_
 intro w2 hE2
 have HS2:=HS1.step hE2
 refine rs (vB (!v1)) (r_not rfl) ?_
 try simp only [sc0,sc1]
 refine run_nil<|norm_then<|wp_cond_split (t:=(!v1)) rfl (fun c1=>?_) (fun c1=>?_)
 ·replace H:=of_pos H c1
  refine wp_seq<|region<|rs (vI 0) (r_assign rfl)<|rs (vI 80) (r_assign rfl) ?_
  try simp only [sc0,sc1]
  refine run_nil<|norm_then<|wp_ret<|ret_then ?_
  obtain rfl:=Option.some.inj H
  exact bodyPost_ret (results_2 rfl (one_tmp rfl) (one_tmp rfl)) rfl<|⟨rfl,HS2.toE⟩
 ·replace H:=of_neg H (nt c1)
  refine wp_skip<|norm_then<|wp_seq<|region<|rs (Value.agg #[vL A0_0 a0.vDefs.length c0_0]) (r_loadBoxAgg (n:=1) (vs:=[vL A0_0 a0.vDefs.length c0_0]) rfl Tryz.isAgg24 (HS2.look 0 rfl) Tryz.sizeOf24 rfl rfl)<|rs (vS a1) (r_move rfl) ?_
  obtain ⟨v2,H2,H⟩:=of_bind H
  refine run_eq (v:=vI v2) rfl rfl (does_call_eq Tryz.call75 rfl rfl (ctf_find.calls k a0 a1 A0_0 c0_0 HS2.sees hr0_0 hc0_0 H2)) ?_
  intro w3 hE3
  have HS3:=HS2.step hE3
  refine rs (vI v2) (r_assign rfl) ?_
  try simp only [sc0,sc1]
  refine run_nil<|norm_then<|wp_seq<|wp_seq<|region<|rs (vI v2) (r_move rfl)<|rs (vB (decide (v2<0))) (r_bin rfl rfl rfl) ?_
  try simp only [sc0,sc1]
  refine run_nil<|norm_then<|wp_cond_split (t:=(decide (v2<0))) rfl (fun c2=>?_) (fun c2=>?_)
  ·replace H:=of_pos H c2
   refine wp_seq<|region<|rs (vI 0) (r_assign rfl)<|rs (vI 3) (r_assign rfl) ?_
   try simp only [sc0,sc1]
   refine run_nil<|norm_then<|wp_ret<|ret_then ?_
   obtain rfl:=Option.some.inj H
   exact bodyPost_ret (results_2 rfl (one_tmp rfl) (one_tmp rfl)) rfl<|⟨rfl,HS3.toE⟩
  ·replace H:=of_neg H (nt c2)
   refine wp_skip<|norm_then<|wp_seq<|region<|rs (vI v2) (r_move rfl)<|rs (vI v2) (r_assign rfl)<|rs (vI 0) (r_assign rfl) ?_
   try simp only [sc0,sc1]
   refine run_nil<|norm_then<|wp_ret ?_
   obtain rfl:=Option.some.inj H
   exact bodyPost_ret (results_2 rfl (one_tmp rfl) (one_tmp rfl)) rfl<|⟨rfl,HS3.toE⟩
def image_Member.f (k:Nat) (a0:api_Types) (a1:api_Image) (a2:ByteArray) (a3:Int) (a4:List ByteArray):Option (Int×Bool×Int):=(ctf_Check.f k a0).bind fun v1=>(if (v1 !=0)=true then (some (0,false,v1)) else ((image_Check.f a1).bind fun v2=>(if (v2 !=0)=true then (some (0,false,v2)) else ((ctf_Lookup.f k a0 a2).bind fun v3=>(if (v3.2 !=0)=true then (some (0,false,v3.2)) else ((ctf_Path.f k a0 v3.1 a4).bind fun v4=>(if (v4.2.2 !=0)=true then (some (0,false,v4.2.2)) else ((image_scalar.f k a0 v4.1).bind fun v5=>(if (!v5.2)=true then (some (0,false,5)) else ((image_load.f k a1 (IntKind.wrap .i64 (a3+v4.2.1)) v5.1).bind fun v6=>(some (v6.1,v6.2.1,v6.2.2))))))))))))
theorem image_Member.calls (k:Nat) (a0:api_Types) (a1:api_Image) (a2:ByteArray) (a3:Int) (a4:List ByteArray) (A0_0:Option Addr) (c0_0:Nat) (A1_0:Option Addr) (c1_0:Nat) (A4_0:Option Addr) (c4_0:Nat) {h0:View} {w0:World} (hv:Sees h0 w0) (hr0_0:Rd k_api_Def h0 A0_0 a0.vDefs) (hc0_0:a0.vDefs.length≤c0_0) (hr1_0:Rd k_api_Segment h0 A1_0 a1.vSegs) (hc1_0:a1.vSegs.length≤c1_0) (hr4_0:Rd Kd.str h0 A4_0 a4) (hc4_0:a4.length≤c4_0) {r:Int×Bool×Int} (H:image_Member.f k a0 a1 a2 a3 a4=some r):Calls Tryz.prog 11 #[Value.agg #[vL A0_0 a0.vDefs.length c0_0],Value.agg #[vL A1_0 a1.vSegs.length c1_0],vS a2,vI a3,vL A4_0 a4.length c4_0] w0 (fun e w1=>e= .returned (Value.tuple #[vI r.1,vB r.2.1,vI r.2.2])∧Ext w0 w1):=by
 unfold image_Member.f at H
 have HS:St [] h0 w0 h0 [] w0:=St.init hv
 go_enter Tryz.func11,Tryz.ntmps11
 refine wp_seq<|region<|run_ex rfl rfl (does_box (cs:=#[vL A0_0 a0.vDefs.length c0_0]) rfl rfl) ?_
 rintro w1 _ hE1 ⟨b1,rfl,ge1,hb1⟩
 have HS1:=HS.new hE1 ge1 hb1
 refine run_ex rfl rfl (does_box (cs:=#[vL A1_0 a1.vSegs.length c1_0]) rfl rfl) ?_
 rintro w2 _ hE2 ⟨b2,rfl,ge2,hb2⟩
 have HS2:=HS1.new hE2 ge2 hb2
 refine rs (vI 0) (r_assign rfl)<|rs (vB false) (r_assign rfl)<|run_frame (by simp only [sc0,sc1];rfl) ?_
 refine rs (vI 0) (r_assign rfl) ?_
 try simp only [sc0,sc1]
 refine run_nil<|norm_then<|wp_seq<|wp_seq<|region<|rs (Value.agg #[vL A0_0 a0.vDefs.length c0_0]) (r_loadBoxAgg (n:=1) (vs:=[vL A0_0 a0.vDefs.length c0_0]) rfl Tryz.isAgg24 (HS2.look 1 rfl) Tryz.sizeOf24 rfl rfl) ?_
 obtain ⟨v1,H1,H⟩:=of_bind H
 refine run_eq (v:=vI v1) rfl rfl (does_call_eq Tryz.call34 rfl rfl (ctf_Check.calls k a0 A0_0 c0_0 HS2.sees hr0_0 hc0_0 H1)) ?_
 intro w3 hE3
 have HS3:=HS2.step hE3
 refine rs (vI v1) (r_assign rfl) ?_
 try simp only [sc0,sc1]
 refine run_nil<|norm_then<|wp_seq<|region<|rs (vI v1) (r_move rfl)<|rs (vB (v1 !=0)) (r_bin rfl rfl rfl) ?_
 try simp only [sc0,sc1]
 refine run_nil<|norm_then<|wp_cond_split (t:=(v1 !=0)) rfl (fun c1=>?_) (fun c1=>?_)
 ·replace H:=of_pos H c1
  refine wp_seq<|region<|rs (vI v1) (r_move rfl)<|rs (vI 0) (r_assign rfl)<|rs (vB false) (r_assign rfl)<|rs (vI v1) (r_assign rfl) ?_
  try simp only [sc0,sc1]
  refine run_nil<|norm_then<|wp_ret<|ret_then ?_
  obtain rfl:=Option.some.inj H
  exact bodyPost_ret (results_3 rfl (one_tmp rfl) (one_tmp rfl) (one_tmp rfl)) rfl<|⟨rfl,HS3.toE⟩
 ·replace H:=of_neg H (nt c1)
  refine wp_skip<|norm_then<|wp_seq<|wp_seq<|region<|rs (Value.agg #[vL A1_0 a1.vSegs.length c1_0]) (r_loadBoxAgg (n:=1) (vs:=[vL A1_0 a1.vSegs.length c1_0]) rfl Tryz.isAgg27 (HS3.look 0 rfl) Tryz.sizeOf27 rfl rfl) ?_
  obtain ⟨v2,H2,H⟩:=of_bind H
  refine run_eq (v:=vI v2) rfl rfl (does_call_eq Tryz.call26 rfl rfl (image_Check.calls a1 A1_0 c1_0 HS3.sees hr1_0 hc1_0 H2)) ?_
  intro w4 hE4
  have HS4:=HS3.step hE4
  refine rs (vI v2) (r_assign rfl) ?_
  try simp only [sc0,sc1]
  refine run_nil<|norm_then<|wp_seq<|region<|rs (vI v2) (r_move rfl)<|rs (vB (v2 !=0)) (r_bin rfl rfl rfl) ?_
  try simp only [sc0,sc1]
  refine run_nil<|norm_then<|wp_cond_split (t:=(v2 !=0)) rfl (fun c2=>?_) (fun c2=>?_)
  ·replace H:=of_pos H c2
   refine wp_seq<|region<|rs (vI v2) (r_move rfl)<|rs (vI 0) (r_assign rfl)<|rs (vB false) (r_assign rfl)<|rs (vI v2) (r_assign rfl) ?_
   try simp only [sc0,sc1]
   refine run_nil<|norm_then<|wp_ret<|ret_then ?_
   obtain rfl:=Option.some.inj H
   exact bodyPost_ret (results_3 rfl (one_tmp rfl) (one_tmp rfl) (one_tmp rfl)) rfl<|⟨rfl,HS4.toE⟩
  ·replace H:=of_neg H (nt c2)
   refine wp_skip<|norm_then<|wp_seq<|region<|rs (Value.agg #[vL A0_0 a0.vDefs.length c0_0]) (r_loadBoxAgg (n:=1) (vs:=[vL A0_0 a0.vDefs.length c0_0]) rfl Tryz.isAgg24 (HS4.look 1 rfl) Tryz.sizeOf24 rfl rfl)<|rs (vS a2) (r_move rfl) ?_
   obtain ⟨v3,H3,H⟩:=of_bind H
   refine run_eq (v:=Value.tuple #[vI v3.1,vI v3.2]) rfl rfl (does_call_eq Tryz.call35 rfl rfl (ctf_Lookup.calls k a0 a2 A0_0 c0_0 HS4.sees hr0_0 hc0_0 H3)) ?_
   intro w5 hE5
   have HS5:=HS4.step hE5
   refine rs (Value.tuple #[vI v3.1,vI v3.2]) (r_move rfl)<|run_frame (by simp only [sc0,sc1];rfl) ?_
   refine rs (vI v3.1) (r_extract rfl rfl)<|rs (vI v3.2) (r_extract rfl rfl)<|rs (vI v3.1) (r_assign rfl)<|rs (vI v3.2) (r_assign rfl) ?_
   try simp only [sc0,sc1]
   refine run_nil<|norm_then<|wp_seq<|wp_seq<|region<|rs (vI v3.2) (r_move rfl)<|rs (vB (v3.2 !=0)) (r_bin rfl rfl rfl) ?_
   try simp only [sc0,sc1]
   refine run_nil<|norm_then<|wp_cond_split (t:=(v3.2 !=0)) rfl (fun c3=>?_) (fun c3=>?_)
   ·replace H:=of_pos H c3
    refine wp_seq<|region<|rs (vI v3.2) (r_move rfl)<|rs (vI 0) (r_assign rfl)<|rs (vB false) (r_assign rfl)<|rs (vI v3.2) (r_assign rfl) ?_
    try simp only [sc0,sc1]
    refine run_nil<|norm_then<|wp_ret<|ret_then ?_
    obtain rfl:=Option.some.inj H
    exact bodyPost_ret (results_3 rfl (one_tmp rfl) (one_tmp rfl) (one_tmp rfl)) rfl<|⟨rfl,HS5.toE⟩
   ·replace H:=of_neg H (nt c3)
    refine wp_skip<|norm_then<|wp_seq<|region<|rs (Value.agg #[vL A0_0 a0.vDefs.length c0_0]) (r_loadBoxAgg (n:=1) (vs:=[vL A0_0 a0.vDefs.length c0_0]) rfl Tryz.isAgg24 (HS5.look 1 rfl) Tryz.sizeOf24 rfl rfl)<|rs (vI v3.1) (r_move rfl)<|rs (vL A4_0 a4.length c4_0) (r_move rfl) ?_
    obtain ⟨v4,H4,H⟩:=of_bind H
    refine run_eq (v:=Value.tuple #[vI v4.1,vI v4.2.1,vI v4.2.2]) rfl rfl (does_call_eq Tryz.call19 rfl rfl (ctf_Path.calls k a0 v3.1 a4 A0_0 c0_0 A4_0 c4_0 HS5.sees hr0_0 hc0_0 hr4_0 hc4_0 H4)) ?_
    intro w6 hE6
    have HS6:=HS5.step hE6
    refine run_frame (by simp only [sc0,sc1];rfl) ?_
    refine rs (Value.tuple #[vI v4.1,vI v4.2.1,vI v4.2.2]) (r_move rfl)<|rs (vI v4.1) (r_extract rfl rfl)<|rs (vI v4.2.1) (r_extract rfl rfl)<|rs (vI v4.2.2) (r_extract rfl rfl)<|run_frame (by simp only [sc0,sc1];rfl) ?_
    refine rs (vI v4.1) (r_assign rfl)<|rs (vI v4.2.1) (r_assign rfl)<|rs (vI v4.2.2) (r_assign rfl) ?_
    try simp only [sc0,sc1]
    refine run_nil<|norm_then<|wp_seq<|wp_seq<|region<|rs (vI v4.2.2) (r_move rfl)<|rs (vB (v4.2.2 !=0)) (r_bin rfl rfl rfl) ?_
    try simp only [sc0,sc1]
    refine run_nil<|norm_then<|wp_cond_split (t:=(v4.2.2 !=0)) rfl (fun c4=>?_) (fun c4=>?_)
    ·replace H:=of_pos H c4
     refine wp_seq<|region<|rs (vI v4.2.2) (r_move rfl)<|rs (vI 0) (r_assign rfl)<|rs (vB false) (r_assign rfl)<|rs (vI v4.2.2) (r_assign rfl) ?_
     try simp only [sc0,sc1]
     refine run_nil<|norm_then<|wp_ret<|ret_then ?_
     obtain rfl:=Option.some.inj H
     exact bodyPost_ret (results_3 rfl (one_tmp rfl) (one_tmp rfl) (one_tmp rfl)) rfl<|⟨rfl,HS6.toE⟩
    ·replace H:=of_neg H (nt c4)
     refine wp_skip<|norm_then<|wp_seq<|region<|rs (Value.agg #[vL A0_0 a0.vDefs.length c0_0]) (r_loadBoxAgg (n:=1) (vs:=[vL A0_0 a0.vDefs.length c0_0]) rfl Tryz.isAgg24 (HS6.look 1 rfl) Tryz.sizeOf24 rfl rfl)<|rs (vI v4.1) (r_move rfl) ?_
     obtain ⟨v5,H5,H⟩:=of_bind H
     refine run_eq (v:=Value.tuple #[Value.agg #[vI v5.1.vSize,vB v5.1.vSigned],vB v5.2]) rfl rfl (does_call_eq Tryz.call36 rfl rfl (image_scalar.calls k a0 v4.1 A0_0 c0_0 HS6.sees hr0_0 hc0_0 H5)) ?_
     intro w7 hE7
     have HS7:=HS6.step hE7
     refine rs (Value.tuple #[Value.agg #[vI v5.1.vSize,vB v5.1.vSigned],vB v5.2]) (r_move rfl)<|run_frame (by simp only [sc0,sc1];rfl) ?_
     refine rs (Value.agg #[vI v5.1.vSize,vB v5.1.vSigned]) (r_extract rfl rfl)<|rs (vB v5.2) (r_extract rfl rfl)<|run_ex rfl rfl (does_alloc (cs:=#[vI 0,vB false]) Tryz.zeroValue29 rfl) ?_
     rintro w8 _ hE8 ⟨b3,rfl,ge3,hb3⟩
     have HS8:=HS7.new hE8 ge3 hb3
     refine run_st (i:=0) (cs:=[vI 0,vB false]) (cs':=[vI v5.1.vSize,vB v5.1.vSigned]) (vs:=[vI v5.1.vSize,vB v5.1.vSigned]) (bs':=[(some b3, .cells #[vI v5.1.vSize,vB v5.1.vSigned] 29 (0,0)),(some b2, .cells #[vL A1_0 a1.vSegs.length c1_0] 27 (0,0)),(some b1, .cells #[vL A0_0 a0.vDefs.length c0_0] 24 (0,0))]) rfl rfl Tryz.sizeOf29 rfl rfl (by decide) rfl HS8 rfl (Nat.le_of_ble_eq_true rfl) rfl rfl ?_
     intro w9 HS9
     refine run_frame (by simp only [sc0,sc1];rfl) ?_
     refine rs (vB v5.2) (r_assign rfl) ?_
     try simp only [sc0,sc1]
     refine run_nil<|norm_then<|wp_seq<|wp_seq<|region<|rs (vB v5.2) (r_move rfl)<|rs (vB (!v5.2)) (r_not rfl) ?_
     try simp only [sc0,sc1]
     refine run_nil<|norm_then<|wp_cond_split (t:=(!v5.2)) rfl (fun c5=>?_) (fun c5=>?_)
     ·replace H:=of_pos H c5
      refine wp_seq<|region<|rs (vI 0) (r_assign rfl)<|rs (vB false) (r_assign rfl)<|rs (vI 5) (r_assign rfl) ?_
      try simp only [sc0,sc1]
      refine run_nil<|norm_then<|wp_ret<|ret_then ?_
      obtain rfl:=Option.some.inj H
      exact bodyPost_ret (results_3 rfl (one_tmp rfl) (one_tmp rfl) (one_tmp rfl)) rfl<|⟨rfl,HS9.toE⟩
     ·replace H:=of_neg H (nt c5)
      refine wp_skip<|norm_then<|wp_seq<|region<|rs (Value.agg #[vL A1_0 a1.vSegs.length c1_0]) (r_loadBoxAgg (n:=1) (vs:=[vL A1_0 a1.vSegs.length c1_0]) rfl Tryz.isAgg27 (HS9.look 1 rfl) Tryz.sizeOf27 rfl rfl)<|rs (vI a3) (r_move rfl)<|rs (vI v4.2.1) (r_move rfl)<|rs (vI (w64 (a3+v4.2.1))) (r_bin rfl rfl rfl)<|run_frame (by simp only [sc0,sc1];rfl) ?_
      refine rs (Value.agg #[vI v5.1.vSize,vB v5.1.vSigned]) (r_loadBoxAgg (n:=2) (vs:=[vI v5.1.vSize,vB v5.1.vSigned]) rfl Tryz.isAgg29 (HS9.look 0 rfl) Tryz.sizeOf29 rfl rfl) ?_
      obtain ⟨v6,H6,H⟩:=of_bind H
      refine run_eq (v:=Value.tuple #[vI v6.1,vB v6.2.1,vI v6.2.2]) rfl rfl (does_call_eq Tryz.call37 rfl rfl (image_load.calls k a1 (w64 (a3+v4.2.1)) v5.1 A1_0 c1_0 HS9.sees hr1_0 hc1_0 H6)) ?_
      intro w10 hE9
      have HS10:=HS9.step hE9
      refine rs (vI v6.1) (r_extract rfl rfl)<|rs (vB v6.2.1) (r_extract rfl rfl)<|run_frame (by simp only [sc0,sc1];rfl) ?_
      refine rs (vI v6.2.2) (r_extract rfl rfl)<|rs (vI v6.1) (r_assign rfl)<|rs (vB v6.2.1) (r_assign rfl)<|rs (vI v6.2.2) (r_assign rfl) ?_
      try simp only [sc0,sc1]
      refine run_nil<|norm_then<|wp_ret ?_
      obtain rfl:=Option.some.inj H
      exact bodyPost_ret (results_3 rfl (one_tmp rfl) (one_tmp rfl) (one_tmp rfl)) rfl<|⟨rfl,HS10.toE⟩
def taplineref08_Find.l0 (a0:api_Types) (a1:ByteArray):Nat→Int→Option ((Int)⊕(Unit))
 |0,_=>none
 |m+1,y1_0=>if (decide (y1_0<(a0.vDefs.length:Int)))=true then (if 0≤y1_0∧y1_0<a0.vDefs.length then ((taplineref08_Named.f (rd z_api_Def a0.vDefs y1_0)).bind fun v1=>(if (true&&(v1==true))=true→(0≤y1_0∧y1_0<a0.vDefs.length) then (if (v1&&(strEq ((rd z_api_Def a0.vDefs y1_0).vName) a1))=true then (some (.inl y1_0)) else (taplineref08_Find.l0 a0 a1 m (IntKind.wrap .i64 (y1_0+1)))) else none)) else none) else (some (.inr ()))
def taplineref08_Find.f (k:Nat) (a0:api_Types) (a1:ByteArray):Option (Int):=(taplineref08_Find.l0 a0 a1 k 0).bind fun xx1=>(match xx1 with| .inl r=>some r| .inr s1=>some (-1))
section
variable {t:api_Types} {l:List Int}
def nameQ (name:ByteArray) (d:api_Def):Bool:=namedS d&&strEq d.vName name
def findV (t:api_Types) (name:ByteArray):Int:=if t.vDefs.any (nameQ name)=true then ((t.vDefs.findIdx (nameQ name):Nat):Int) else-1
theorem find_ev (hn:t.vDefs.length≤200) (name:ByteArray):Ev (fun k=>ctf_find.f k t name) (findV t name):=by
 refine ⟨t.vDefs.length+1,fun k hk=>?_⟩
 show ctf_find.f k t name=_
 unfold ctf_find.f slices_IndexFunc_api_Def_api_Def.f findV
 have:=index_loop (l:=t.vDefs) (p:=fun z0=>ctf_find_1.f z0 name) (q:=nameQ name) (fun z hz=>rfl) (by omega) t.vDefs.length 0 k (by omega) (by omega)
 rw [show slices_IndexFunc_api_Def_api_Def.l0 t.vDefs _ k 0=_ from this,List.drop_zero]
 cases t.vDefs.any (nameQ name)<;>simp
theorem rfind_loop {name:ByteArray} (hl:t.vDefs.length≤9223372036854775807):∀(d j m:Nat),j+d=t.vDefs.length→d<m→
    taplineref08_Find.l0 t name m (j:Int)=some (if ((t.vDefs.drop j).any (nameQ name))=true then .inl (((j+(t.vDefs.drop j).findIdx (nameQ name):Nat)):Int) else .inr ()):=by
  intro d
  induction d with
  | zero =>
    intro j m hj hm
    obtain ⟨m,rfl⟩:∃q,m=q+1:=⟨m-1,by omega⟩
    rw [taplineref08_Find.l0,if_neg (by simp;omega),List.drop_eq_nil_of_le (by omega)]
    rfl
  | succ d ih =>
    intro j m hj hm
    obtain ⟨m,rfl⟩:∃q,m=q+1:=⟨m-1,by omega⟩
    have hlt:j<t.vDefs.length:=by omega
    rw [taplineref08_Find.l0,if_pos (by simp;omega),if_pos (by omega),rd_nat,drop_getD z_api_Def hlt]
    simp only [taplineref08_Named.f,Option.bind_some]
    rw [if_pos (fun _=>by omega)]
    show (if nameQ name (t.vDefs.getD j z_api_Def)=true then _ else _)=_
    cases hb:nameQ name (t.vDefs.getD j z_api_Def) with
    | true =>
      rw [if_pos rfl]
      simp only [List.any_cons,hb,Bool.true_or,if_true,List.findIdx_cons,cond_true,Nat.add_zero]
    | false =>
      rw [if_neg (by simp),wrap_nat hlt hl,ih (j+1) m (by omega) (by omega)]
      simp only [List.any_cons,hb,Bool.false_or,List.findIdx_cons,cond_false]
      split
      · congr 2;omega
      · rfl
theorem rfind_ev (hn:t.vDefs.length≤200) (name:ByteArray):Ev (fun k=>taplineref08_Find.f k t name) (findV t name):=by
 refine ⟨t.vDefs.length+1,fun k hk=>?_⟩
 show taplineref08_Find.f k t name=_
 unfold taplineref08_Find.f findV
 have:=rfind_loop (t:=t) (name:=name) (by omega) t.vDefs.length 0 k (by omega) (by omega)
 rw [show taplineref08_Find.l0 t name k 0=_ from this,List.drop_zero]
 cases t.vDefs.any (nameQ name)<;>simp
theorem Find_both (hF:∀d∈t.vDefs,FitD d) (W:Wf t l) (name:ByteArray):Ev (fun k=>taplineref08_Find.f k t name) (findV t name)∧Ev (fun k=>ctf_Lookup.f k t name) (if findV t name<0 then (0,3) else (findV t name,0)):=by
 refine ⟨rfind_ev W.few name,?_⟩
 rcases valid_iff hF with ⟨l2,W2,⟨K,hK⟩⟩|⟨hno,_⟩
 ·obtain ⟨K3,hK3⟩:=find_ev W.few name
  refine ⟨max K K3,fun k hk=>?_⟩
  show ctf_Lookup.f k t name=_
  unfold ctf_Lookup.f
  rw [show ctf_valid.f k t=_ from hK k (by omega)]
  simp only [Option.bind_some]
  rw [if_neg (by decide),show ctf_find.f k t name=_ from hK3 k (by omega)]
  simp only [Option.bind_some,decide_eq_true_eq]
  split<;>rfl
 ·exact absurd W (hno l)
end
def taplineref01_Bytes.l0 (a0:api_Int):Nat→Int→Int→(List Int)→Option ((List Int))
 |0,_,_,_=>none
 |m+1,y1_0,y1_1,y1_2=>if (decide (y1_1<a0.vSize))=true then (if y1_2.length+1≤4294967296 then (taplineref01_Bytes.l0 a0 m (iQuo .i64 (IntKind.wrap .i64 (y1_0-(iAnd .i64 y1_0 255))) 256) (IntKind.wrap .i64 (y1_1+1)) (y1_2++([(IntKind.wrap .u8 (iAnd .i64 y1_0 255))]:List Int))) else none) else (some y1_2)
def taplineref01_Bytes.f (k:Nat) (a0:api_Int) (a1:Int):Option ((List Int)×Int):=(taplineref01_Check.f a0).bind fun v1=>(if (v1 !=0)=true then (some (([]:List Int),v1)) else ((taplineref01_Bytes.l0 a0 k a1 0 ([]:List Int)).bind fun xx1=>(some (xx1,0))))
def taplineref09_put.l0 (a1:Int) (a0:List Int) (v1:(List Int)×Int):Nat→Int→(List Int)→Option ((List Int))
 |0,_,_=>none
 |m+1,y1_0,y1_1=>if (decide (y1_0<(v1.1.length:Int)))=true then (if 0≤y1_0∧y1_0<v1.1.length then (if 0≤(IntKind.wrap .i64 (a1+y1_0))∧(IntKind.wrap .i64 (a1+y1_0))<((a0.length:Nat):Int) then (taplineref09_put.l0 a1 a0 v1 m (IntKind.wrap .i64 (y1_0+1)) (List.set y1_1 (IntKind.wrap .i64 (a1+y1_0)).toNat (rd 0 v1.1 y1_0))) else none) else none) else (some y1_1)
def taplineref09_put.f (k:Nat) (a0:List Int) (a1:Int) (a2:api_Int) (a3:Int):Option ((List Int)):=(taplineref01_Bytes.f k a2 a3).bind fun v1=>((taplineref09_put.l0 a1 a0 v1 k 0 a0).bind fun xx1=>(some xx1))
def taplineref09_Lay.l0 (k:Nat) (a0:api_Types) (a1:Int) (a2:List api_Put):Nat→Int→(List Int)→Option ((taplineref09_Laid)⊕((List Int)))
 |0,_,_=>none
 |m+1,y1_0,y1_1=>if (decide (y1_0<(a2.length:Int)))=true then (if 0≤y1_0∧y1_0<a2.length then ((taplineref08_Path.f k a0 a1 ((rd z_api_Put a2 y1_0).vPath)).bind fun v2=>(if (v2.vE !=0)=true then (some (.inl (⟨[],v2.vE⟩:taplineref09_Laid))) else ((taplineref09_Scalar.f k a0 v2.vType).bind fun v3=>(if (!v3.2)=true then (some (.inl (⟨[],5⟩:taplineref09_Laid))) else (if 0≤y1_0∧y1_0<a2.length then ((taplineref09_put.f k y1_1 v2.vAt v3.1 ((rd z_api_Put a2 y1_0).vV)).bind fun v4=>(taplineref09_Lay.l0 k a0 a1 a2 m (IntKind.wrap .i64 (y1_0+1)) v4)) else none))))) else none) else (some (.inr y1_1))
def taplineref09_Lay.f (k:Nat) (a0:api_Types) (a1:Int) (a2:List api_Put):Option (taplineref09_Laid):=(taplineref08_Size.f k a0 a1).bind fun v1=>(if (v1.vE !=0)=true then (some (⟨[],v1.vE⟩:taplineref09_Laid)) else (if (decide ((a2.length:Int)>100))=true then (some (⟨[],2⟩:taplineref09_Laid)) else (if 0≤v1.vN∧v1.vN≤4294967296 then ((taplineref09_Lay.l0 k a0 a1 a2 k 0 (List.replicate v1.vN.toNat (0:Int))).bind fun xx1=>(match xx1 with| .inl r=>some r| .inr s1=>some (⟨s1,0⟩:taplineref09_Laid))) else none)))
def bits_Wrap.f (a0:api_Int) (a1:Int):Option (Int×Int):=(bits_Check.f a0).bind fun v1=>(if (v1 !=0)=true then (some (0,v1)) else ((bits_wrap.f a0 a1).bind fun v2=>(some (v2,0))))
theorem bits_Wrap.calls (a0:api_Int) (a1:Int) {h0:View} {w0:World} (hv:Sees h0 w0) {r:Int×Int} (H:bits_Wrap.f a0 a1=some r):Calls Tryz.prog 21 #[Value.agg #[vI a0.vSize,vB a0.vSigned],vI a1] w0 (fun e w1=>e= .returned (Value.tuple #[vI r.1,vI r.2])∧Ext w0 w1):=by
 unfold bits_Wrap.f at H
 have HS:St [] h0 w0 h0 [] w0:=St.init hv
 go_enter Tryz.func21,Tryz.ntmps21
 refine wp_seq<|region<|run_ex rfl rfl (does_box (cs:=#[vI a0.vSize,vB a0.vSigned]) rfl rfl) ?_
 rintro w1 _ hE1 ⟨b1,rfl,ge1,hb1⟩
 have HS1:=HS.new hE1 ge1 hb1
 refine rs (vI 0) (r_assign rfl)<|rs (vI 0) (r_assign rfl) ?_
 try simp only [sc0,sc1]
 refine run_nil<|norm_then<|wp_seq<|wp_seq<|region<|rs (Value.agg #[vI a0.vSize,vB a0.vSigned]) (r_loadBoxAgg (n:=2) (vs:=[vI a0.vSize,vB a0.vSigned]) rfl Tryz.isAgg29 (HS1.look 0 rfl) Tryz.sizeOf29 rfl rfl) ?_
 obtain ⟨v1,H1,H⟩:=of_bind H
 refine run_eq (v:=vI v1) rfl rfl (does_call_eq Tryz.call56 rfl rfl (bits_Check.calls a0 HS1.sees H1)) ?_
 intro w2 hE2
 have HS2:=HS1.step hE2
 refine rs (vI v1) (r_assign rfl) ?_
 try simp only [sc0,sc1]
 refine run_nil<|norm_then<|wp_seq<|region<|rs (vI v1) (r_move rfl)<|rs (vB (v1 !=0)) (r_bin rfl rfl rfl) ?_
 try simp only [sc0,sc1]
 refine run_nil<|norm_then<|wp_cond_split (t:=(v1 !=0)) rfl (fun c1=>?_) (fun c1=>?_)
 ·replace H:=of_pos H c1
  refine wp_seq<|region<|rs (vI v1) (r_move rfl)<|rs (vI 0) (r_assign rfl)<|rs (vI v1) (r_assign rfl) ?_
  try simp only [sc0,sc1]
  refine run_nil<|norm_then<|wp_ret<|ret_then ?_
  obtain rfl:=Option.some.inj H
  exact bodyPost_ret (results_2 rfl (one_tmp rfl) (one_tmp rfl)) rfl<|⟨rfl,HS2.toE⟩
 ·replace H:=of_neg H (nt c1)
  refine wp_skip<|norm_then<|wp_seq<|region<|rs (Value.agg #[vI a0.vSize,vB a0.vSigned]) (r_loadBoxAgg (n:=2) (vs:=[vI a0.vSize,vB a0.vSigned]) rfl Tryz.isAgg29 (HS2.look 0 rfl) Tryz.sizeOf29 rfl rfl)<|rs (vI a1) (r_move rfl) ?_
  obtain ⟨v2,H2,H⟩:=of_bind H
  refine run_eq (v:=vI v2) rfl rfl (does_call_eq Tryz.call57 rfl rfl (bits_wrap.calls a0 a1 HS2.sees H2)) ?_
  intro w3 hE3
  have HS3:=HS2.step hE3
  refine rs (vI v2) (r_assign rfl)<|run_frame (by simp only [sc0,sc1];rfl) ?_
  refine rs (vI 0) (r_assign rfl) ?_
  try simp only [sc0,sc1]
  refine run_nil<|norm_then<|wp_ret ?_
  obtain rfl:=Option.some.inj H
  exact bodyPost_ret (results_2 rfl (one_tmp rfl) (one_tmp rfl)) rfl<|⟨rfl,HS3.toE⟩
def bits_Bytes.l0 (a0:api_Int):Nat→Int→Int→(List Int)→Option ((List Int))
 |0,_,_,_=>none
 |m+1,y1_0,y1_1,y1_2=>if (decide (y1_1<a0.vSize))=true then (if y1_2.length+1≤4294967296 then (bits_Bytes.l0 a0 m (iShr .i64 y1_0 8) (IntKind.wrap .i64 (y1_1+1)) (y1_2++([(IntKind.wrap .u8 y1_0)]:List Int))) else none) else (some y1_2)
def bits_Bytes.f (k:Nat) (a0:api_Int) (a1:Int):Option ((List Int)×Int):=(bits_Check.f a0).bind fun v1=>(if (v1 !=0)=true then (some (([]:List Int),v1)) else ((bits_Bytes.l0 a0 k a1 0 ([]:List Int)).bind fun xx1=>(some (xx1,0))))
theorem bits_Bytes.calls (k:Nat) (a0:api_Int) (a1:Int) {h0:View} {w0:World} (hv:Sees h0 w0) {r:(List Int)×Int} (H:bits_Bytes.f k a0 a1=some r):Calls Tryz.prog 86 #[Value.agg #[vI a0.vSize,vB a0.vSigned],vI a1] w0 (fun e w1=>∃(h1:View) (A0_0:Option Addr) (c0_0:Nat),e= .returned (Value.tuple #[vL A0_0 r.1.length c0_0,vI r.2])∧r.1.length≤c0_0∧Rd (Kd.int .u8) h1 A0_0 r.1∧Gr w0.heap.size h0 h1∧Sees h1 w1∧Ext w0 w1):=by
 unfold bits_Bytes.f at H
 have HS:St [] h0 w0 h0 [] w0:=St.init hv
 go_enter Tryz.func86,Tryz.ntmps86
 refine wp_seq<|region<|run_ex rfl rfl (does_box (cs:=#[vI a0.vSize,vB a0.vSigned]) rfl rfl) ?_
 rintro w1 _ hE1 ⟨b1,rfl,ge1,hb1⟩
 have HS1:=HS.new hE1 ge1 hb1
 refine rs (vL none 0 0) (r_assign rfl)<|rs (vI 0) (r_assign rfl) ?_
 try simp only [sc0,sc1]
 refine run_nil<|norm_then<|wp_seq<|wp_seq<|region<|rs (Value.agg #[vI a0.vSize,vB a0.vSigned]) (r_loadBoxAgg (n:=2) (vs:=[vI a0.vSize,vB a0.vSigned]) rfl Tryz.isAgg29 (HS1.look 0 rfl) Tryz.sizeOf29 rfl rfl) ?_
 obtain ⟨v1,H1,H⟩:=of_bind H
 refine run_eq (v:=vI v1) rfl rfl (does_call_eq Tryz.call56 rfl rfl (bits_Check.calls a0 HS1.sees H1)) ?_
 intro w2 hE2
 have HS2:=HS1.step hE2
 refine rs (vI v1) (r_assign rfl) ?_
 try simp only [sc0,sc1]
 refine run_nil<|norm_then<|wp_seq<|region<|rs (vI v1) (r_move rfl)<|rs (vB (v1 !=0)) (r_bin rfl rfl rfl) ?_
 try simp only [sc0,sc1]
 refine run_nil<|norm_then<|wp_cond_split (t:=(v1 !=0)) rfl (fun c1=>?_) (fun c1=>?_)
 ·replace H:=of_pos H c1
  refine wp_seq<|region<|rs (vI v1) (r_move rfl)<|rs (vL none 0 0) (r_assign rfl)<|rs (vI v1) (r_assign rfl) ?_
  try simp only [sc0,sc1]
  refine run_nil<|norm_then<|wp_ret<|ret_then ?_
  obtain rfl:=Option.some.inj H
  exact bodyPost_ret (results_2 rfl (one_tmp rfl) (one_tmp rfl)) rfl<|⟨h0,none,0,rfl,(Nat.le_refl 0),(Rd.nil _ _ _),HS2.gr,HS2.sees,HS2.toE⟩
 ·replace H:=of_neg H (nt c1)
  refine wp_skip<|norm_then<|wp_seq<|region<|rs (vL none 0 0) (r_assign rfl) ?_
  try simp only [sc0,sc1]
  refine run_nil<|norm_then<|wp_seq<|wp_seq<|region<|rs (vP b1 0) (r_fieldBox (n:=1) (o':=0) rfl Tryz.runUnderlying29 rfl Tryz.sizeOf3 (by decide) rfl)<|rs (vI a0.vSize) (r_loadBox rfl Tryz.isAgg3 (HS2.look 0 rfl) rfl)<|rs (vI 0) (r_move rfl) ?_
  try simp only [sc0,sc1]
  refine run_nil<|norm_then ?_
  have HS3:=HS2.nothing (.cells ([]:List Value).toArray 5 (0,0))
  obtain ⟨xx1,H,G1⟩:=of_bind H
  refine loop_j [1,7,15,16,17,18,19,20,21,22,23,24] (fun m us w'=>∃y1_0 y1_1:Int,∃y1_2:List Int,∃(oby1_2:Option Nat) (cy1_2:Nat),∃(csy1_2:List Value),Fit us (fun uy1=>[vI y1_0,vL (rowA oby1_2) y1_2.length cy1_2,vI y1_1,(uy1 3),(uy1 4),(uy1 5),(uy1 6),(uy1 7),(uy1 8),(uy1 9),(uy1 10),(uy1 11)])∧bits_Bytes.l0 a0 m y1_0 y1_1 y1_2=some xx1∧RowOk (Kd.int .u8) h0 y1_2 oby1_2 y1_2.length cy1_2 csy1_2∧St [] h0 w0 h0 [(oby1_2, .cells (csy1_2).toArray 5 (0,0)),(some b1, .cells #[vI a0.vSize,vB a0.vSigned] 29 (0,0))] w') (fun us w'=>∃(obo1_0:Option Nat) (co1_0:Nat),∃(cso1_0:List Value),Fit us (fun uo1=>[(uo1 0),vL (rowA obo1_0) xx1.length co1_0,(uo1 2),(uo1 3),(uo1 4),(uo1 5),(uo1 6),(uo1 7),(uo1 8),(uo1 9),(uo1 10),(uo1 11)])∧RowOk (Kd.int .u8) h0 xx1 obo1_0 xx1.length co1_0 cso1_0∧St [] h0 w0 h0 [(obo1_0, .cells (cso1_0).toArray 5 (0,0)),(some b1, .cells #[vI a0.vSize,vB a0.vSigned] 29 (0,0))] w') k ⟨a1,0,([]:List Int),none,0,([]:List Value),(fit rfl),H,(RowOk.none' (Kd.int .u8) _).norm,HS3⟩ ?_ ?_
  ·rintro m us w3 ⟨y1_0,y1_1,y1_2,oby1_2,cy1_2,csy1_2,huy1,H,hoy1_2,HS4⟩
   obtain ⟨uy1,rfl⟩:=unj huy1
   cases m with
   |zero=>exact absurd H (by simp [bits_Bytes.l0])
   |succ m=>
    rw [bits_Bytes.l0] at H
    try simp only [patch,sc0,sc1]
    refine wp_seq<|region<|rs (vB (decide (y1_1<a0.vSize))) (r_bin rfl rfl rfl) ?_
    try simp only [sc0,sc1]
    refine run_nil<|norm_then<|wp_seq<|wp_cond_split (t:=(decide (y1_1<a0.vSize))) rfl (fun c2=>?_) (fun c2=>?_)
    ·replace H:=of_pos H c2
     refine wp_skip<|norm_then<|wp_seq<|wp_block<|wp_seq<|region<|rs (vL (rowA oby1_2) y1_2.length cy1_2) (r_move rfl)<|rs (vI y1_0) (r_move rfl)<|rs (Value.int .u8 (IntKind.wrap .u8 y1_0)) (r_conv rfl Tryz.runUnderlying2 Tryz.runUnderlying5)<|run_bs (Kd.int .u8) (xs:=([(IntKind.wrap .u8 y1_0)]:List Int)) (n:=1) (cs:=[Value.int .u8 (IntKind.wrap .u8 y1_0)]) Tryz.runUnderlying42 Tryz.typeInfo5 Tryz.zeroValue5 rfl rfl (by decide) (by decide) (by decide) [Value.int .u8 (IntKind.wrap .u8 y1_0)] (parts_any.trans rfl) rfl rfl rfl rfl (elems_cons (qs:=[Value.int .u8 (IntKind.wrap .u8 y1_0)]) rfl (elems_nil (cs:=[]))) HS4 ?_
     intro w4 b2 HS5 ho1
     refine run_frame (by simp only [sc0,sc1];rfl) ?_
     obtain ⟨hl1,H⟩:=of_ite H
     refine run_app (Kd.int .u8) (q:=1) (cs:=csy1_2) rfl rfl Tryz.runUnderlying42 Tryz.typeInfo5 Tryz.zeroValue5 rfl (by decide) rfl (src_row Tryz.runUnderlying42 HS5 (i:=0) rfl ho1 rfl) ho1.len (src_row_elems ho1) hl1 HS5 rfl hoy1_2 ?_
     intro w5 ob1 c3 cs1 HS6 ho2
     refine rs (vL (rowA ob1) (y1_2.length+1) c3) (r_assign rfl) ?_
     try simp only [sc0,sc1]
     refine run_nil<|norm_then<|region<|rs (vI y1_0) (r_move rfl)<|rs (vI (iShr .i64 y1_0 8)) (r_shr rfl rfl (by decide))<|rs (vI (iShr .i64 y1_0 8)) (r_assign rfl) ?_
     try simp only [sc0,sc1]
     refine run_nil<|norm_block<|norm_then<|region<|rs (vI (w64 (y1_1+1))) (r_bin rfl rfl rfl)<|rs (vI (w64 (y1_1+1))) (r_move rfl) ?_
     try simp only [sc0,sc1]
     refine run_nil<|again_j m (Nat.lt_succ_self m) rfl ⟨(iShr .i64 y1_0 8),(w64 (y1_1+1)),(y1_2++([(IntKind.wrap .u8 y1_0)]:List Int)),ob1,c3,cs1,(fit (by first|rfl|(rw [ho2.len];done)|(rw [ho2.len];rfl))),H,ho2.norm,HS6.tail⟩
    ·replace H:=of_neg H (nt c2)
     refine wp_exit<|exit_then ?_
     obtain rfl:=Option.some.inj H
     refine leave_j rfl ⟨oby1_2,cy1_2,csy1_2,(fit rfl),hoy1_2.norm,HS4⟩
  ·rintro us w6 ⟨obo1_0,co1_0,cso1_0,huo1,hoo1_0,HS7⟩
   obtain ⟨uo1,rfl⟩:=unj huo1
   replace H:=G1
   clear G1
   try simp only [patch,sc0,sc1]
   refine norm_then<|wp_seq<|region<|rs (vL (rowA obo1_0) xx1.length co1_0) (r_move rfl)<|rs (vL (rowA obo1_0) xx1.length co1_0) (r_assign rfl)<|rs (vI 0) (r_assign rfl) ?_
   try simp only [sc0,sc1]
   refine run_nil<|norm_then<|wp_ret ?_
   obtain rfl:=Option.some.inj H
   refine bodyPost_ret (results_2 rfl (one_tmp rfl) (one_tmp rfl)) rfl ?_
   obtain ⟨h1,HS8,hs1,rdp1⟩:=row_pub HS7 (i:=0) rfl hoo1_0
   exact ⟨h1,(rowA obo1_0),co1_0,rfl,hoo1_0.cap,rdp1,HS8.gr,HS8.sees,HS8.toE⟩
def image_put.f (k:Nat) (a0:List Int) (a1:Int) (a2:api_Int) (a3:Int):Option ((List Int)):=(bits_Wrap.f a2 a3).bind fun v1=>((bits_Bytes.f k a2 v1.1).bind fun v2=>(if 0≤a1∧a1≤((a0.length:Nat):Int) then (if (a1.toNat)+v2.1.length≤a0.length then (some (splice a0 (a1.toNat) v2.1)) else none) else none))
theorem image_put.calls (k:Nat) (a0:List Int) (a1:Int) (a2:api_Int) (a3:Int) (oba0:Option Nat) (ca0:Nat) (csa0:List Value) {h0:View} {w0:World} {h:View} {w:World} {rest:List Res} (HS:St [] h0 w0 h ((oba0, .cells (csa0).toArray 5 (0,0))::rest) w) (hoa0:RowOk (Kd.int .u8) h a0 oba0 a0.length ca0 csa0) {r:(List Int)} (H:image_put.f k a0 a1 a2 a3=some r):Calls Tryz.prog 43 #[vL (rowA oba0) a0.length ca0,vI a1,Value.agg #[vI a2.vSize,vB a2.vSigned],vI a3] w (fun e w1=>∃h1:View,∃csz_a0:List Value,e= .returned (Value.tuple #[])∧RowOk (Kd.int .u8) h1 r oba0 a0.length ca0 csz_a0∧Sub h h1∧St [] h0 w0 h1 ((oba0, .cells (csz_a0).toArray 5 (0,0))::rest) w1):=by
 unfold image_put.f at H
 have hsub:Sub h h:=Sub.rfl' h
 go_enter Tryz.func43,Tryz.ntmps43
 refine wp_seq<|region<|run_ex rfl rfl (does_box (cs:=#[vI a2.vSize,vB a2.vSigned]) rfl rfl) ?_
 rintro w1 _ hE1 ⟨b1,rfl,ge1,hb1⟩
 have HS1:=HS.new hE1 ge1 hb1
 try simp only [sc0,sc1]
 refine run_nil<|norm_then<|wp_seq<|region<|rs (Value.agg #[vI a2.vSize,vB a2.vSigned]) (r_loadBoxAgg (n:=2) (vs:=[vI a2.vSize,vB a2.vSigned]) rfl Tryz.isAgg29 (HS1.look 0 rfl) Tryz.sizeOf29 rfl rfl)<|rs (vI a3) (r_move rfl) ?_
 obtain ⟨v1,H1,H⟩:=of_bind H
 refine run_eq (v:=Value.tuple #[vI v1.1,vI v1.2]) rfl rfl (does_call_eq Tryz.call21 rfl rfl (bits_Wrap.calls a2 a3 HS1.sees H1)) ?_
 intro w2 hE2
 have HS2:=HS1.step hE2
 refine rs (Value.tuple #[vI v1.1,vI v1.2]) (r_move rfl)<|run_frame (by simp only [sc0,sc1];rfl) ?_
 refine rs (vI v1.1) (r_extract rfl rfl)<|rs (vI v1.2) (r_extract rfl rfl)<|rs (vI v1.1) (r_assign rfl)<|rs (vI v1.2) (r_assign rfl) ?_
 try simp only [sc0,sc1]
 refine run_nil<|norm_then<|wp_seq<|region<|rs (Value.agg #[vI a2.vSize,vB a2.vSigned]) (r_loadBoxAgg (n:=2) (vs:=[vI a2.vSize,vB a2.vSigned]) rfl Tryz.isAgg29 (HS2.look 0 rfl) Tryz.sizeOf29 rfl rfl)<|rs (vI v1.1) (r_move rfl) ?_
 obtain ⟨v2,H2,H⟩:=of_bind H
 refine run_ex rfl rfl (does_call Tryz.call86 rfl (gives_in (h:=h) (R:=(fun hx u=>∃(Av2_0_0:Option Addr) (cv2_0_0:Nat),u=Value.tuple #[vL Av2_0_0 v2.1.length cv2_0_0,vI v2.2]∧v2.1.length≤cv2_0_0∧Rd (Kd.int .u8) hx Av2_0_0 v2.1)) (Ext.rfl' w2) ((bits_Bytes.calls k a2 v1.1 HS2.sees H2).mono ?_)) rfl) ?_
 ·rintro _ _ ⟨h1,Av2_0_0,cv2_0_0,rfl,hcv2_0_0,hrv2_0_0,g,ss,x⟩
  exact ⟨h1,_,rfl,⟨Av2_0_0,cv2_0_0,rfl,hcv2_0_0,hrv2_0_0⟩,g,ss,x⟩
 rintro w3 _ hE3 ⟨h1,⟨Av2_0_0,cv2_0_0,rfl,hcv2_0_0,hrv2_0_0⟩,gr1,se1⟩
 have HS3:=HS2.view hE3 gr1 se1
 replace hsub:Sub h h1:=hsub.then gr1.1
 replace hoa0:=hoa0.view gr1.1
 refine rs (Value.tuple #[vL Av2_0_0 v2.1.length cv2_0_0,vI v2.2]) (r_move rfl)<|run_frame (by simp only [sc0,sc1];rfl) ?_
 refine rs (vL Av2_0_0 v2.1.length cv2_0_0) (r_extract rfl rfl)<|rs (vI v2.2) (r_extract rfl rfl)<|rs (vL Av2_0_0 v2.1.length cv2_0_0) (r_assign rfl)<|rs (vI v2.2) (r_assign rfl) ?_
 try simp only [sc0,sc1]
 refine run_nil<|norm_then<|region<|rs (vL (rowA oba0) a0.length ca0) (r_move rfl)<|rs (vI a1) (r_move rfl) ?_
 obtain ⟨hk1,H⟩:=of_ite H
 refine rs (vL (partA (rowA oba0) ca0 (a1.toNat) 1) (a0.length-(a1.toNat)) (ca0-(a1.toNat))) (r_sliceLo rfl Tryz.runUnderlying42 Tryz.sizeOf5 rfl hk1)<|rs (vL Av2_0_0 v2.1.length cv2_0_0) (r_move rfl)<|run_frame (by simp only [sc0,sc1];rfl) ?_
 obtain ⟨nw1,sr1,hn1⟩:=src_rd (c:=cv2_0_0) one_int Tryz.runUnderlying42 HS3.sees hrv2_0_0
 obtain ⟨hl1,H⟩:=of_ite H
 refine run_cp (Kd.int .u8) (q:=1) (cs:=csa0) (i:=default) rfl rfl Tryz.runUnderlying42 Tryz.sizeOf5 sr1 rfl hn1 hl1 HS3 rfl hoa0 ?_
 intro w4 cs1 HS4 ho1
 try simp only [sc0,sc1]
 refine run_nil ?_
 obtain rfl:=Option.some.inj H
 refine bodyPost_end (results_none rfl _ _ _) rfl ?_
 have HS5:=HS4.d0
 exact ⟨h1,cs1,rfl,ho1,hsub,HS5⟩
def image_Lay.l0 (k:Nat) (a0:api_Types) (a1:Int) (a2:List api_Put):Nat→Int→(List Int)→Option (((List Int)×Int)⊕((List Int)))
 |0,_,_=>none
 |m+1,y1_0,y1_1=>if (decide (y1_0<(a2.length:Int)))=true then (if 0≤y1_0∧y1_0<a2.length then ((ctf_Path.f k a0 a1 ((rd z_api_Put a2 y1_0).vPath)).bind fun v3=>(if (v3.2.2 !=0)=true then (some (.inl (([]:List Int),v3.2.2))) else ((image_scalar.f k a0 v3.1).bind fun v4=>(if (!v4.2)=true then (some (.inl (([]:List Int),5))) else ((image_put.f k y1_1 v3.2.1 v4.1 ((rd z_api_Put a2 y1_0).vV)).bind fun v5=>(image_Lay.l0 k a0 a1 a2 m (IntKind.wrap .i64 (y1_0+1)) v5)))))) else none) else (some (.inr y1_1))
def image_Lay.f (k:Nat) (a0:api_Types) (a1:Int) (a2:List api_Put):Option ((List Int)×Int):=(ctf_Check.f k a0).bind fun v1=>(if (v1 !=0)=true then (some (([]:List Int),v1)) else ((ctf_Size.f k a0 a1).bind fun v2=>(if (v2.2 !=0)=true then (some (([]:List Int),v2.2)) else (if (decide ((a2.length:Int)>100))=true then (some (([]:List Int),2)) else (if 0≤v2.1∧v2.1≤4294967296 then ((image_Lay.l0 k a0 a1 a2 k 0 (List.replicate v2.1.toNat (0:Int))).bind fun xx1=>(match xx1 with| .inl r=>some r| .inr s1=>some (s1,0))) else none)))))
theorem image_Lay.calls (k:Nat) (a0:api_Types) (a1:Int) (a2:List api_Put) (A0_0:Option Addr) (c0_0:Nat) (A2_0:Option Addr) (c2_0:Nat) {h0:View} {w0:World} (hv:Sees h0 w0) (hr0_0:Rd k_api_Def h0 A0_0 a0.vDefs) (hc0_0:a0.vDefs.length≤c0_0) (hr2_0:Rd k_api_Put h0 A2_0 a2) (hc2_0:a2.length≤c2_0) {r:(List Int)×Int} (H:image_Lay.f k a0 a1 a2=some r):Calls Tryz.prog 13 #[Value.agg #[vL A0_0 a0.vDefs.length c0_0],vI a1,vL A2_0 a2.length c2_0] w0 (fun e w1=>∃(h1:View) (A0_0:Option Addr) (c0_0:Nat),e= .returned (Value.tuple #[vL A0_0 r.1.length c0_0,vI r.2])∧r.1.length≤c0_0∧Rd (Kd.int .u8) h1 A0_0 r.1∧Gr w0.heap.size h0 h1∧Sees h1 w1∧Ext w0 w1):=by
 unfold image_Lay.f at H
 have HS:St [] h0 w0 h0 [] w0:=St.init hv
 go_enter Tryz.func13,Tryz.ntmps13
 refine wp_seq<|region<|run_ex rfl rfl (does_box (cs:=#[vL A0_0 a0.vDefs.length c0_0]) rfl rfl) ?_
 rintro w1 _ hE1 ⟨b1,rfl,ge1,hb1⟩
 have HS1:=HS.new hE1 ge1 hb1
 refine rs (vL none 0 0) (r_assign rfl)<|rs (vI 0) (r_assign rfl) ?_
 try simp only [sc0,sc1]
 refine run_nil<|norm_then<|wp_seq<|wp_seq<|region<|rs (Value.agg #[vL A0_0 a0.vDefs.length c0_0]) (r_loadBoxAgg (n:=1) (vs:=[vL A0_0 a0.vDefs.length c0_0]) rfl Tryz.isAgg24 (HS1.look 0 rfl) Tryz.sizeOf24 rfl rfl) ?_
 obtain ⟨v1,H1,H⟩:=of_bind H
 refine run_eq (v:=vI v1) rfl rfl (does_call_eq Tryz.call34 rfl rfl (ctf_Check.calls k a0 A0_0 c0_0 HS1.sees hr0_0 hc0_0 H1)) ?_
 intro w2 hE2
 have HS2:=HS1.step hE2
 refine rs (vI v1) (r_assign rfl) ?_
 try simp only [sc0,sc1]
 refine run_nil<|norm_then<|wp_seq<|region<|rs (vI v1) (r_move rfl)<|rs (vB (v1 !=0)) (r_bin rfl rfl rfl) ?_
 try simp only [sc0,sc1]
 refine run_nil<|norm_then<|wp_cond_split (t:=(v1 !=0)) rfl (fun c1=>?_) (fun c1=>?_)
 ·replace H:=of_pos H c1
  refine wp_seq<|region<|rs (vI v1) (r_move rfl)<|rs (vL none 0 0) (r_assign rfl)<|rs (vI v1) (r_assign rfl) ?_
  try simp only [sc0,sc1]
  refine run_nil<|norm_then<|wp_ret<|ret_then ?_
  obtain rfl:=Option.some.inj H
  exact bodyPost_ret (results_2 rfl (one_tmp rfl) (one_tmp rfl)) rfl<|⟨h0,none,0,rfl,(Nat.le_refl 0),(Rd.nil _ _ _),HS2.gr,HS2.sees,HS2.toE⟩
 ·replace H:=of_neg H (nt c1)
  refine wp_skip<|norm_then<|wp_seq<|region<|rs (Value.agg #[vL A0_0 a0.vDefs.length c0_0]) (r_loadBoxAgg (n:=1) (vs:=[vL A0_0 a0.vDefs.length c0_0]) rfl Tryz.isAgg24 (HS2.look 0 rfl) Tryz.sizeOf24 rfl rfl)<|rs (vI a1) (r_move rfl) ?_
  obtain ⟨v2,H2,H⟩:=of_bind H
  refine run_eq (v:=Value.tuple #[vI v2.1,vI v2.2]) rfl rfl (does_call_eq Tryz.call42 rfl rfl (ctf_Size.calls k a0 a1 A0_0 c0_0 HS2.sees hr0_0 hc0_0 H2)) ?_
  intro w3 hE3
  have HS3:=HS2.step hE3
  refine rs (Value.tuple #[vI v2.1,vI v2.2]) (r_move rfl)<|run_frame (by simp only [sc0,sc1];rfl) ?_
  refine rs (vI v2.1) (r_extract rfl rfl)<|rs (vI v2.2) (r_extract rfl rfl)<|rs (vI v2.1) (r_assign rfl)<|rs (vI v2.2) (r_assign rfl) ?_
  try simp only [sc0,sc1]
  refine run_nil<|norm_then<|wp_seq<|wp_seq<|region<|rs (vI v2.2) (r_move rfl)<|rs (vB (v2.2 !=0)) (r_bin rfl rfl rfl) ?_
  try simp only [sc0,sc1]
  refine run_nil<|norm_then<|wp_cond_split (t:=(v2.2 !=0)) rfl (fun c2=>?_) (fun c2=>?_)
  ·replace H:=of_pos H c2
   refine wp_seq<|region<|rs (vI v2.2) (r_move rfl)<|rs (vL none 0 0) (r_assign rfl)<|rs (vI v2.2) (r_assign rfl) ?_
   try simp only [sc0,sc1]
   refine run_nil<|norm_then<|wp_ret<|ret_then ?_
   obtain rfl:=Option.some.inj H
   exact bodyPost_ret (results_2 rfl (one_tmp rfl) (one_tmp rfl)) rfl<|⟨h0,none,0,rfl,(Nat.le_refl 0),(Rd.nil _ _ _),HS3.gr,HS3.sees,HS3.toE⟩
  ·replace H:=of_neg H (nt c2)
   refine wp_skip<|norm_then<|wp_seq<|wp_seq<|region<|rs (vL A2_0 a2.length c2_0) (r_move rfl)<|rs (vI (a2.length:Int)) (r_len rfl Tryz.runUnderlying41)<|rs (vB (decide ((a2.length:Int)>100))) (r_bin rfl rfl rfl) ?_
   try simp only [sc0,sc1]
   refine run_nil<|norm_then<|wp_cond_split (t:=(decide ((a2.length:Int)>100))) rfl (fun c3=>?_) (fun c3=>?_)
   ·replace H:=of_pos H c3
    refine wp_seq<|region<|rs (vL none 0 0) (r_assign rfl)<|rs (vI 2) (r_assign rfl) ?_
    try simp only [sc0,sc1]
    refine run_nil<|norm_then<|wp_ret<|ret_then ?_
    obtain rfl:=Option.some.inj H
    exact bodyPost_ret (results_2 rfl (one_tmp rfl) (one_tmp rfl)) rfl<|⟨h0,none,0,rfl,(Nat.le_refl 0),(Rd.nil _ _ _),HS3.gr,HS3.sees,HS3.toE⟩
   ·replace H:=of_neg H (nt c3)
    refine wp_skip<|norm_then<|wp_seq<|region<|rs (vI v2.1) (r_move rfl) ?_
    obtain ⟨hk1,H⟩:=of_ite H
    refine run_mk (Kd.int .u8) 0 (zs:=[Value.int .u8 0]) rfl rfl hk1 Tryz.runUnderlying42 Tryz.typeInfo5 (by decide) rfl Tryz.zeroValue5 rfl rfl HS3 ?_
    intro w4 b2 cs1 HS4 ho1
    refine rs (vL (rowA (some b2)) v2.1.toNat v2.1.toNat) (r_assign rfl) ?_
    try simp only [sc0,sc1]
    refine run_nil<|norm_then<|wp_seq<|wp_seq<|region<|rs (vL A2_0 a2.length c2_0) (r_move rfl)<|rs (vI (a2.length:Int)) (r_len rfl Tryz.runUnderlying41)<|rs (vI 0) (r_move rfl) ?_
    try simp only [sc0,sc1]
    refine run_nil<|norm_then ?_
    obtain ⟨xx1,H,G1⟩:=of_bind H
    refine loop_j [6,7,13,14,15,16,17,18,40,41,42,43,44,45,46,47,48,49,50,51,52,53,54,55,56,57,58,59,60,61,62,63,64,65,66,67,68,69,70] (fun m us w'=>∃y1_0:Int,∃y1_1:List Int,∃h1:View,∃csy1_1:List Value,Fit us (fun uy1=>[(uy1 0),(uy1 1),(uy1 2),(uy1 3),(uy1 4),(uy1 5),(uy1 6),(uy1 7),vI y1_0,(uy1 9),(uy1 10),(uy1 11),(uy1 12),(uy1 13),(uy1 14),(uy1 15),(uy1 16),(uy1 17),(uy1 18),(uy1 19),(uy1 20),(uy1 21),(uy1 22),(uy1 23),(uy1 24),(uy1 25),(uy1 26),(uy1 27),(uy1 28),(uy1 29),(uy1 30),(uy1 31),(uy1 32),(uy1 33),(uy1 34),(uy1 35),(uy1 36),(uy1 37),(uy1 38)])∧image_Lay.l0 k a0 a1 a2 m y1_0 y1_1=some xx1∧RowOk (Kd.int .u8) h1 y1_1 (some b2) v2.1.toNat v2.1.toNat csy1_1∧St [] h0 w0 h1 [((some b2), .cells (csy1_1).toArray 5 (0,0)),(some b1, .cells #[vL A0_0 a0.vDefs.length c0_0] 24 (0,0))] w') (fun us w'=>∃(s1:(List Int)),xx1= .inr s1∧∃h3:View,∃cso1_0:List Value,Fit us (fun uo1=>[(uo1 0),(uo1 1),(uo1 2),(uo1 3),(uo1 4),(uo1 5),(uo1 6),(uo1 7),(uo1 8),(uo1 9),(uo1 10),(uo1 11),(uo1 12),(uo1 13),(uo1 14),(uo1 15),(uo1 16),(uo1 17),(uo1 18),(uo1 19),(uo1 20),(uo1 21),(uo1 22),(uo1 23),(uo1 24),(uo1 25),(uo1 26),(uo1 27),(uo1 28),(uo1 29),(uo1 30),(uo1 31),(uo1 32),(uo1 33),(uo1 34),(uo1 35),(uo1 36),(uo1 37),(uo1 38)])∧RowOk (Kd.int .u8) h3 s1 (some b2) v2.1.toNat v2.1.toNat cso1_0∧St [] h0 w0 h3 [((some b2), .cells (cso1_0).toArray 5 (0,0)),(some b1, .cells #[vL A0_0 a0.vDefs.length c0_0] 24 (0,0))] w') k ⟨0,(List.replicate v2.1.toNat (0:Int)),h0,cs1,(fit rfl),H,ho1,HS4⟩ ?_ ?_
    ·rintro m us w5 ⟨y1_0,y1_1,h1,csy1_1,huy1,H,hoy1_1,HS5⟩
     obtain ⟨uy1,rfl⟩:=unj huy1
     cases m with
     |zero=>exact absurd H (by simp [image_Lay.l0])
     |succ m=>
      rw [image_Lay.l0] at H
      try simp only [patch,sc0,sc1]
      refine wp_seq<|region<|rs (vB (decide (y1_0<(a2.length:Int)))) (r_bin rfl rfl rfl) ?_
      try simp only [sc0,sc1]
      refine run_nil<|norm_then<|wp_seq<|wp_cond_split (t:=(decide (y1_0<(a2.length:Int)))) rfl (fun c4=>?_) (fun c4=>?_)
      ·replace H:=of_pos H c4
       refine wp_skip<|norm_then<|wp_seq<|wp_block<|wp_seq<|region ?_
       obtain ⟨hi1,H⟩:=of_ite H
       obtain ⟨ad1,Aad1_0,cad1_0,e1,hel1,hcad1_0,hrad1_0⟩:=ld_api_Put (hr2_0.ext HS5.sub) hi1.1 hi1.2
       refine rs (Value.pointer (some (Addr.add ad1 (y1_0.toNat*2)))) (r_indexA (sz:=2) rfl e1 rfl hi1.1 hi1.2 Tryz.runUnderlying41 Tryz.sizeOf62)<|rs (Value.agg #[vL Aad1_0 ((rd z_api_Put a2 y1_0).vPath).length cad1_0,vI ((rd z_api_Put a2 y1_0).vV)]) (r_loadAgg rfl Tryz.isAgg62 (hel1.sees HS5.sees) Tryz.sizeOf62)<|run_ex rfl rfl (does_alloc (cs:=#[vL none 0 0,vI 0]) Tryz.zeroValue62 rfl) ?_
       rintro w6 _ hE4 ⟨b3,rfl,ge2,hb2⟩
       have HS6:=HS5.new hE4 ge2 hb2
       refine run_st (i:=0) (cs:=[vL none 0 0,vI 0]) (cs':=[vL Aad1_0 ((rd z_api_Put a2 y1_0).vPath).length cad1_0,vI ((rd z_api_Put a2 y1_0).vV)]) (vs:=[vL Aad1_0 ((rd z_api_Put a2 y1_0).vPath).length cad1_0,vI ((rd z_api_Put a2 y1_0).vV)]) (bs':=[(some b3, .cells #[vL Aad1_0 ((rd z_api_Put a2 y1_0).vPath).length cad1_0,vI ((rd z_api_Put a2 y1_0).vV)] 62 (0,0)),((some b2), .cells (csy1_1).toArray 5 (0,0)),(some b1, .cells #[vL A0_0 a0.vDefs.length c0_0] 24 (0,0))]) rfl rfl Tryz.sizeOf62 rfl rfl (by decide) rfl HS6 rfl (Nat.le_of_ble_eq_true rfl) rfl rfl ?_
       intro w7 HS7
       try simp only [sc0,sc1]
       refine run_nil<|norm_then<|wp_seq<|region<|rs (Value.agg #[vL A0_0 a0.vDefs.length c0_0]) (r_loadBoxAgg (n:=1) (vs:=[vL A0_0 a0.vDefs.length c0_0]) rfl Tryz.isAgg24 (HS7.look 2 rfl) Tryz.sizeOf24 rfl rfl)<|rs (vI a1) (r_move rfl)<|rs (vP b3 0) (r_fieldBox (n:=1) (o':=0) rfl Tryz.runUnderlying62 rfl Tryz.sizeOf30 (by decide) rfl)<|rs (vL Aad1_0 ((rd z_api_Put a2 y1_0).vPath).length cad1_0) (r_loadBox rfl Tryz.isAgg30 (HS7.look 0 rfl) rfl)<|run_frame (by simp only [sc0,sc1];rfl) ?_
       obtain ⟨v3,H3,H⟩:=of_bind H
       refine run_eq (v:=Value.tuple #[vI v3.1,vI v3.2.1,vI v3.2.2]) rfl rfl (does_call_eq Tryz.call19 rfl rfl (ctf_Path.calls k a0 a1 ((rd z_api_Put a2 y1_0).vPath) A0_0 c0_0 Aad1_0 cad1_0 HS7.sees (hr0_0.ext HS7.sub) hc0_0 hrad1_0 hcad1_0 H3)) ?_
       intro w8 hE5
       have HS8:=HS7.step hE5
       refine rs (Value.tuple #[vI v3.1,vI v3.2.1,vI v3.2.2]) (r_move rfl)<|rs (vI v3.1) (r_extract rfl rfl)<|rs (vI v3.2.1) (r_extract rfl rfl)<|run_frame (by simp only [sc0,sc1];rfl) ?_
       refine rs (vI v3.2.2) (r_extract rfl rfl)<|rs (vI v3.1) (r_assign rfl)<|rs (vI v3.2.1) (r_assign rfl)<|rs (vI v3.2.2) (r_assign rfl) ?_
       try simp only [sc0,sc1]
       refine run_nil<|norm_then<|wp_seq<|wp_seq<|region<|rs (vI v3.2.2) (r_move rfl)<|rs (vB (v3.2.2 !=0)) (r_bin rfl rfl rfl) ?_
       try simp only [sc0,sc1]
       refine run_nil<|norm_then<|wp_cond_split (t:=(v3.2.2 !=0)) rfl (fun c5=>?_) (fun c5=>?_)
       ·replace H:=of_pos H c5
        refine wp_seq<|region<|rs (vI v3.2.2) (r_move rfl)<|rs (vL none 0 0) (r_assign rfl)<|rs (vI v3.2.2) (r_assign rfl) ?_
        try simp only [sc0,sc1]
        refine run_nil<|norm_then<|wp_ret<|ret_then<|ret_block<|ret_then<|ret_loop<|ret_then ?_
        obtain rfl:=Option.some.inj H
        obtain rfl:=Option.some.inj G1
        exact bodyPost_ret (results_2 rfl (one_tmp rfl) (one_tmp rfl)) rfl<|⟨h1,none,0,rfl,(Nat.le_refl 0),(Rd.nil _ _ _),HS8.gr,HS8.sees,HS8.toE⟩
       ·replace H:=of_neg H (nt c5)
        refine wp_skip<|norm_then<|wp_seq<|region<|rs (Value.agg #[vL A0_0 a0.vDefs.length c0_0]) (r_loadBoxAgg (n:=1) (vs:=[vL A0_0 a0.vDefs.length c0_0]) rfl Tryz.isAgg24 (HS8.look 2 rfl) Tryz.sizeOf24 rfl rfl)<|rs (vI v3.1) (r_move rfl) ?_
        obtain ⟨v4,H4,H⟩:=of_bind H
        refine run_eq (v:=Value.tuple #[Value.agg #[vI v4.1.vSize,vB v4.1.vSigned],vB v4.2]) rfl rfl (does_call_eq Tryz.call36 rfl rfl (image_scalar.calls k a0 v3.1 A0_0 c0_0 HS8.sees (hr0_0.ext HS8.sub) hc0_0 H4)) ?_
        intro w9 hE6
        have HS9:=HS8.step hE6
        refine rs (Value.tuple #[Value.agg #[vI v4.1.vSize,vB v4.1.vSigned],vB v4.2]) (r_move rfl)<|run_frame (by simp only [sc0,sc1];rfl) ?_
        refine rs (Value.agg #[vI v4.1.vSize,vB v4.1.vSigned]) (r_extract rfl rfl)<|rs (vB v4.2) (r_extract rfl rfl)<|run_ex rfl rfl (does_alloc (cs:=#[vI 0,vB false]) Tryz.zeroValue29 rfl) ?_
        rintro w10 _ hE7 ⟨b4,rfl,ge3,hb3⟩
        have HS10:=HS9.new hE7 ge3 hb3
        refine run_st (i:=0) (cs:=[vI 0,vB false]) (cs':=[vI v4.1.vSize,vB v4.1.vSigned]) (vs:=[vI v4.1.vSize,vB v4.1.vSigned]) (bs':=[(some b4, .cells #[vI v4.1.vSize,vB v4.1.vSigned] 29 (0,0)),(some b3, .cells #[vL Aad1_0 ((rd z_api_Put a2 y1_0).vPath).length cad1_0,vI ((rd z_api_Put a2 y1_0).vV)] 62 (0,0)),((some b2), .cells (csy1_1).toArray 5 (0,0)),(some b1, .cells #[vL A0_0 a0.vDefs.length c0_0] 24 (0,0))]) rfl rfl Tryz.sizeOf29 rfl rfl (by decide) rfl HS10 rfl (Nat.le_of_ble_eq_true rfl) rfl rfl ?_
        intro w11 HS11
        refine run_frame (by simp only [sc0,sc1];rfl) ?_
        refine rs (vB v4.2) (r_assign rfl) ?_
        try simp only [sc0,sc1]
        refine run_nil<|norm_then<|wp_seq<|wp_seq<|region<|rs (vB v4.2) (r_move rfl)<|rs (vB (!v4.2)) (r_not rfl) ?_
        try simp only [sc0,sc1]
        refine run_nil<|norm_then<|wp_cond_split (t:=(!v4.2)) rfl (fun c6=>?_) (fun c6=>?_)
        ·replace H:=of_pos H c6
         refine wp_seq<|region<|rs (vL none 0 0) (r_assign rfl)<|rs (vI 5) (r_assign rfl) ?_
         try simp only [sc0,sc1]
         refine run_nil<|norm_then<|wp_ret<|ret_then<|ret_block<|ret_then<|ret_loop<|ret_then ?_
         obtain rfl:=Option.some.inj H
         obtain rfl:=Option.some.inj G1
         exact bodyPost_ret (results_2 rfl (one_tmp rfl) (one_tmp rfl)) rfl<|⟨h1,none,0,rfl,(Nat.le_refl 0),(Rd.nil _ _ _),HS11.gr,HS11.sees,HS11.toE⟩
        ·replace H:=of_neg H (nt c6)
         refine wp_skip<|norm_then<|region<|rs (vL (rowA (some b2)) v2.1.toNat v2.1.toNat) (r_move rfl)<|rs (vI v3.2.1) (r_move rfl)<|rs (Value.agg #[vI v4.1.vSize,vB v4.1.vSigned]) (r_loadBoxAgg (n:=2) (vs:=[vI v4.1.vSize,vB v4.1.vSigned]) rfl Tryz.isAgg29 (HS11.look 0 rfl) Tryz.sizeOf29 rfl rfl)<|rs (vP b3 1) (r_fieldBox (n:=1) (o':=1) rfl Tryz.runUnderlying62 rfl Tryz.sizeOf2 (by decide) rfl)<|run_frame (by simp only [sc0,sc1];rfl) ?_
         refine rs (vI ((rd z_api_Put a2 y1_0).vV)) (r_loadBox rfl Tryz.isAgg2 (HS11.look 1 rfl) rfl) ?_
         obtain ⟨v5,H5,H⟩:=of_bind H
         have ho2:=hoy1_1.norm
         have HS12:=HS11.f2
         refine run_call (vs:=[vL (rowA (some b2)) y1_1.length v2.1.toNat,vI v3.2.1,Value.agg #[vI v4.1.vSize,vB v4.1.vSigned],vI ((rd z_api_Put a2 y1_0).vV)]) (caps:=[]) Tryz.call43 rfl (map4 (show _=vL (rowA (some b2)) y1_1.length v2.1.toNat from by first|rfl|(rw [hoy1_1.len];done)|(rw [hoy1_1.len];rfl)) rfl rfl rfl) (image_put.calls k y1_1 v3.2.1 v4.1 ((rd z_api_Put a2 y1_0).vV) (some b2) v2.1.toNat csy1_1 HS12 ho2 H5) ?_
         rintro _ w12 ⟨h2,csv5_a0,rfl,hov5_a0,hs1,HS13⟩
         refine ⟨_,rfl,?_⟩
         rw [hoy1_1.len] at hov5_a0
         replace hel1:VCells h2 (Addr.add ad1 (y1_0.toNat*2)) [vL Aad1_0 ((rd z_api_Put a2 y1_0).vPath).length cad1_0,vI ((rd z_api_Put a2 y1_0).vV)]:=hel1.sub hs1
         replace hrad1_0:Rd Kd.str h2 Aad1_0 ((rd z_api_Put a2 y1_0).vPath):=hrad1_0.ext hs1
         have HS14:=HS13.f3
         have HS15:=HS14.f1
         have HS16:=HS15.f3
         have HS17:=HS16.f3
         try simp only [sc0,sc1]
         refine run_nil<|norm_block<|norm_then<|region<|rs (vI (w64 (y1_0+1))) (r_bin rfl rfl rfl)<|rs (vI (w64 (y1_0+1))) (r_move rfl) ?_
         try simp only [sc0,sc1]
         refine run_nil<|again_j m (Nat.lt_succ_self m) rfl ⟨(w64 (y1_0+1)),v5,h2,csv5_a0,(fit rfl),H,hov5_a0,HS17.tail.tail⟩
      ·replace H:=of_neg H (nt c4)
       refine wp_exit<|exit_then ?_
       obtain rfl:=Option.some.inj H
       refine leave_j rfl ⟨_,rfl,h1,csy1_1,(fit rfl),hoy1_1,HS5⟩
    ·rintro us w13 ⟨s1,rfl,h3,cso1_0,huo1,hoo1_0,HS18⟩
     obtain ⟨uo1,rfl⟩:=unj huo1
     replace H:=G1
     clear G1
     try simp only [patch,sc0,sc1]
     refine norm_then<|wp_seq<|region<|rs (vL (rowA (some b2)) v2.1.toNat v2.1.toNat) (r_move rfl)<|rs (vL (rowA (some b2)) v2.1.toNat v2.1.toNat) (r_assign rfl)<|rs (vI 0) (r_assign rfl) ?_
     try simp only [sc0,sc1]
     refine run_nil<|norm_then<|wp_ret ?_
     obtain rfl:=Option.some.inj H
     refine bodyPost_ret (results_2 rfl (one_tmp rfl) (one_tmp rfl)) rfl ?_
     obtain ⟨h4,HS19,hs2,rdp1⟩:=row_pub HS18 (i:=0) rfl hoo1_0
     exact ⟨h4,(rowA (some b2)),v2.1.toNat,(by first|rfl|(rw [hoo1_0.len];done)|(rw [hoo1_0.len];rfl)),hoo1_0.cap,rdp1,HS19.gr,HS19.sees,HS19.toE⟩
def byteI (y:Int) (i:Nat):Int:=(y/256^i)%256
def bytesI (n:Nat) (y:Int):List Int:=(List.range n).map (byteI y)
theorem bytesI_length (n:Nat) (y:Int):(bytesI n y).length=n:=by simp [bytesI]
theorem byteI_zero (y:Int):byteI y 0=y%256:=by simp [byteI]
theorem byteI_succ (y:Int) (i:Nat):byteI y (i+1)=byteI (y/256) i:=by
 unfold byteI
 rw [Int.pow_succ,Int.mul_comm,←Int.ediv_ediv_of_nonneg (by omega)]
theorem bytesI_succ (n:Nat) (y:Int):bytesI (n+1) y=(y%256)::bytesI n (y/256):=by
 unfold bytesI
 rw [List.range_succ_eq_map,List.map_cons,List.map_map,byteI_zero]
 congr 1
 apply List.map_congr_left
 intro i _
 exact byteI_succ y i
theorem shr8 (y:Int):iShr .i64 y 8=y/256:=by
 unfold iShr
 rw [Int.fdiv_eq_ediv_of_nonneg _ (by decide)]
 rfl
theorem and8 {y:Int} (h:In64 y):iAnd .i64 y 255=y%256:=by
 unfold In64 at h
 unfold iAnd
 have h1:((BitVec.ofInt 64 y&&&BitVec.ofInt 64 255).toNat:Int)=y%256:=by
  rw [BitVec.toNat_and]
  have e1:(BitVec.ofInt 64 (255:Int)).toNat=2^8-1:=by decide
  rw [e1,Nat.and_two_pow_sub_one_eq_mod,BitVec.toNat_ofInt]
  have:(2:Nat)^64=18446744073709551616:=by decide
  omega
 show IntKind.wrap .i64 ((BitVec.ofInt 64 y&&&BitVec.ofInt 64 255).toNat:Int)=_
 rw [h1,wrap_id (by omega) (by omega)]
theorem quo256 {y:Int} (h:In64 y):iQuo .i64 (IntKind.wrap .i64 (y-y%256)) 256=y/256:=by
 unfold In64 at h
 have e:y-y%256=256*(y/256):=by omega
 unfold iQuo
 rw [e,wrap_id (x:=256*(y/256)) (by omega) (by omega),Int.mul_tdiv_cancel_left _ (by omega),wrap_id (by omega) (by omega)]
theorem div64 {y:Int} (h:In64 y):In64 (y/256):=by unfold In64 at*;omega
theorem pbytes_loop {a0:api_Int} {n:Nat} (hn:a0.vSize=(n:Int)) (h8:n≤8):∀(d j m:Nat) (y:Int) (acc:List Int),j+d=n→d<m→acc.length=j→In64 y→
    bits_Bytes.l0 a0 m y (j:Int) acc=some (acc++bytesI d y):=by
  intro d
  induction d with
  | zero =>
    intro j m y acc hj hm hl hy
    obtain ⟨m,rfl⟩:∃q,m=q+1:=⟨m-1,by omega⟩
    rw [bits_Bytes.l0,if_neg (by simp;omega)]
    simp [bytesI]
  | succ d ih =>
    intro j m y acc hj hm hl hy
    obtain ⟨m,rfl⟩:∃q,m=q+1:=⟨m-1,by omega⟩
    rw [bits_Bytes.l0,if_pos (by simp;omega),if_pos (by omega),shr8,wrap_nat (n:=n) (by omega) (by omega),ih (j+1) m (y/256) _ (by omega) (by omega) (by simp [hl]) (div64 hy),wrap8,bytesI_succ]
    simp
theorem rbytes_loop {a0:api_Int} {n:Nat} (hn:a0.vSize=(n:Int)) (h8:n≤8):∀(d j m:Nat) (y:Int) (acc:List Int),j+d=n→d<m→acc.length=j→In64 y→
    taplineref01_Bytes.l0 a0 m y (j:Int) acc=some (acc++bytesI d y):=by
  intro d
  induction d with
  | zero =>
    intro j m y acc hj hm hl hy
    obtain ⟨m,rfl⟩:∃q,m=q+1:=⟨m-1,by omega⟩
    rw [taplineref01_Bytes.l0,if_neg (by simp;omega)]
    simp [bytesI]
  | succ d ih =>
    intro j m y acc hj hm hl hy
    obtain ⟨m,rfl⟩:∃q,m=q+1:=⟨m-1,by omega⟩
    rw [taplineref01_Bytes.l0,if_pos (by simp;omega),if_pos (by omega),and8 hy,quo256 hy,wrap_nat (n:=n) (by omega) (by omega),ih (j+1) m (y/256) _ (by omega) (by omega) (by simp [hl]) (div64 hy),wrap8,bytesI_succ]
    simp
theorem wrp_bytes {t:api_Int} {v:Int} {n:Nat} (hv:In64 v) (hn:t.vSize=(n:Int)) (h:n=1∨n=2∨n=4∨n=8):bytesI n (wrp t v)=bytesI n v:=by
 have hv':=hv
 unfold In64 at hv'
 unfold wrp
 rcases h with rfl|rfl|rfl|rfl
 ·rw [if_pos (by rw [hn];rfl)]
  split
  ·rw [wi8,wi64]
   simp only [bytesI_succ,show∀y,bytesI 0 y=[] from fun _=>rfl,List.cons.injEq,and_true]
   repeat' split
   all_goals omega
  ·rw [wrap8,wi64]
   simp only [bytesI_succ,show∀y,bytesI 0 y=[] from fun _=>rfl,List.cons.injEq,and_true]
   repeat' split
   all_goals omega
 ·rw [if_neg (by rw [hn];decide),if_pos (by rw [hn];rfl)]
  split
  ·rw [wi16,wrap_id (by split<;>omega) (by split<;>omega)]
   simp only [bytesI_succ,show∀y,bytesI 0 y=[] from fun _=>rfl,List.cons.injEq,and_true]
   refine ⟨?_,?_⟩<;>split<;>omega
  ·rw [wu16,wrap_id (by omega) (by omega)]
   simp only [bytesI_succ,show∀y,bytesI 0 y=[] from fun _=>rfl,List.cons.injEq,and_true]
   refine ⟨?_,?_⟩<;>omega
 ·rw [if_neg (by rw [hn];decide),if_neg (by rw [hn];decide),if_pos (by rw [hn];rfl)]
  split
  ·rw [wi32,wrap_id (by split<;>omega) (by split<;>omega)]
   simp only [bytesI_succ,show∀y,bytesI 0 y=[] from fun _=>rfl,List.cons.injEq,and_true]
   refine ⟨?_,?_,?_,?_⟩<;>split<;>omega
  ·rw [wu32,wrap_id (by omega) (by omega)]
   simp only [bytesI_succ,show∀y,bytesI 0 y=[] from fun _=>rfl,List.cons.injEq,and_true]
   refine ⟨?_,?_,?_,?_⟩<;>omega
 ·rw [if_neg (by rw [hn];decide),if_neg (by rw [hn];decide),if_neg (by rw [hn];decide)]
  split
  ·rfl
  ·rw [w64u hv]
theorem pBytes {t:api_Int} {n:Nat} {v:Int} (hn:t.vSize=(n:Int)) (h:n=1∨n=2∨n=4∨n=8) (hv:In64 v) {k:Nat} (hk:9≤k):bits_Bytes.f k t v=some (bytesI n v,0):=by
 have hok:okI t=true:=by unfold okI;simp [hn];omega
 unfold bits_Bytes.f bits_Check.f
 rw [if_pos hok]
 simp only [Option.bind_some]
 rw [if_neg (by decide),show (0:Int)=((0:Nat):Int) from rfl,pbytes_loop hn (by omega) n 0 k v [] (by omega) (by omega) rfl hv]
 rfl
theorem rBytes {t:api_Int} {n:Nat} {v:Int} (hn:t.vSize=(n:Int)) (h:n=1∨n=2∨n=4∨n=8) (hv:In64 v) {k:Nat} (hk:9≤k):taplineref01_Bytes.f k t v=some (bytesI n v,0):=by
 unfold taplineref01_Bytes.f taplineref01_Check.f
 rw [if_neg (by simp [hn];omega)]
 simp only [Option.bind_some]
 rw [if_neg (by decide),show (0:Int)=((0:Nat):Int) from rfl,rbytes_loop hn (by omega) n 0 k v [] (by omega) (by omega) rfl hv]
 rfl
theorem pWrap {t:api_Int} {n:Nat} {v:Int} (hn:t.vSize=(n:Int)) (h:n=1∨n=2∨n=4∨n=8):bits_Wrap.f t v=some (wrp t v,0):=by
 have hok:okI t=true:=by unfold okI;simp [hn];omega
 unfold bits_Wrap.f bits_Check.f bits_wrap.f
 rw [if_pos hok,if_pos hok]
 rfl
theorem splice_step {xs b:List Int} {o j:Nat} (hj:j<xs.length) (h:o+xs.length≤b.length):(splice b o (xs.take j)).set (o+j) (xs.getD j 0)=splice b o (xs.take (j+1)):=by
 apply List.ext_getElem?
 intro i
 have l1:(xs.take j).length=j:=by rw [List.length_take];omega
 have l2:(xs.take (j+1)).length=j+1:=by rw [List.length_take];omega
 have l3:(splice b o (xs.take j)).length=b.length:=splice_length (by omega)
 rw [List.getElem?_set,splice_get (by omega),splice_get (by omega),l1,l2]
 by_cases he:o+j=i
 ·subst he
  rw [if_pos rfl,if_pos (by omega),if_pos (by omega),Nat.add_sub_cancel_left,List.getElem?_take,if_pos (by omega),List.getD_eq_getElem?_getD,List.getElem?_eq_getElem hj]
  rfl
 ·rw [if_neg he]
  by_cases h1:o≤i∧i<o+j
  ·rw [if_pos h1,if_pos (by omega),List.getElem?_take,List.getElem?_take,if_pos (by omega),if_pos (by omega)]
  ·rw [if_neg h1,if_neg (by omega)]
theorem rput_loop {xs b:List Int} {o:Nat} {e:Int} (h:o+xs.length≤b.length) (hb:b.length≤9223372036854775807):∀(d j m:Nat),j+d=xs.length→d<m→
    taplineref09_put.l0 (o:Int) b (xs,e) m (j:Int) (splice b o (xs.take j))=some (splice b o xs):=by
  intro d
  induction d with
  | zero =>
    intro j m hj hm
    obtain ⟨m,rfl⟩:∃q,m=q+1:=⟨m-1,by omega⟩
    rw [taplineref09_put.l0,if_neg (by simp;omega),List.take_of_length_le (by omega)]
  | succ d ih =>
    intro j m hj hm
    obtain ⟨m,rfl⟩:∃q,m=q+1:=⟨m-1,by omega⟩
    have hjl:j<xs.length:=by omega
    have hw:IntKind.wrap .i64 ((o:Int)+(j:Int))=((o+j:Nat):Int):=by rw [wrap_id (by omega) (by omega)];omega
    rw [taplineref09_put.l0, if_pos (by simp; omega), if_pos (by simp; omega), hw, if_pos (by omega), wrap_nat (n := xs.length) (by omega) (by omega), rd_nat,
      show ((o + j : Nat) : Int).toNat = o + j from rfl]
    rw [splice_step hjl h]
    exact ih (j+1) m (by omega) (by omega)
theorem put_both {t:api_Int} {n o:Nat} {v:Int} {b:List Int} (hn:t.vSize=(n:Int)) (h:n=1∨n=2∨n=4∨n=8) (hv:In64 v) (ho:o+n≤b.length) (hb:b.length≤9223372036854775807) {k:Nat} (hk:9≤k):
  image_put.f k b (o:Int) t v=some (splice b o (bytesI n v))∧taplineref09_put.f k b (o:Int) t v=some (splice b o (bytesI n v)):=by
 constructor
 ·unfold image_put.f
  rw [pWrap hn h]
  simp only [Option.bind_some]
  rw [pBytes hn h (wrp_in hv) hk]
  simp only [Option.bind_some]
  rw [if_pos (by omega),if_pos (by rw [bytesI_length];show o+n≤_;omega),wrp_bytes hv hn h]
  rfl
 ·unfold taplineref09_put.f
  rw [rBytes hn h hv hk]
  simp only [Option.bind_some]
  have:=rput_loop (xs:=bytesI n v) (b:=b) (o:=o) (e:=0) (by rw [bytesI_length];omega) hb (bytesI n v).length 0 k (by omega) (by rw [bytesI_length];omega)
  rw [List.take_zero,show splice b o []=b by simp [splice]] at this
  show ((taplineref09_put.l0 (o:Int) b (bytesI n v,0) k ((0:Nat):Int) b).bind fun xx1=>some xx1)=_
  rw [this]
  rfl
section
variable {t:api_Types} {l:List Int}
def layR (x:List Int×Int⊕List Int):taplineref09_Laid⊕List Int:=match x with
 | .inl r=> .inl ⟨r.1,r.2⟩
 | .inr b=> .inr b
theorem lay_loop (hF : ∀ d ∈ t.vDefs, FitD d) (W : Wf t l) {i : Nat} (hi : i < t.vDefs.length) {q : List api_Put} (hq : ∀ p ∈ q, In64 p.vV) (hql : q.length ≤ 100) : ∀ (d j : Nat) (b : List Int), j + d = q.length → (b.length : Int) = l.getD i 0 →
    ∃x,Ev2 (fun k m=>image_Lay.l0 k t (i:Int) q m (j:Int) b) x∧Ev2 (fun k m=>taplineref09_Lay.l0 k t (i:Int) q m (j:Int) b) (layR x):=by
  intro d
  induction d with
  | zero =>
    intro j b hj hb
    refine ⟨.inr b,Ev2.pure fun k m=>?_,Ev2.pure fun k m=>?_⟩
    · rw [image_Lay.l0,if_neg (by simp;omega)]
    · rw [taplineref09_Lay.l0,if_neg (by simp;omega)];rfl
  | succ d ih =>
    intro j b hj hb
    have hjl:j<q.length:=by omega
    have hbd:0≤(j:Int)∧(j:Int)<(q.length:Int):=by omega
    have hv:=hq _ (getD_mem (z:=z_api_Put) hjl)
    have hrd:rd z_api_Put q (j:Int)=q.getD j z_api_Put:=rd_nat j
    have hw:IntKind.wrap .i64 ((j:Int)+1)=((j+1:Nat):Int):=wrap_nat (n:=q.length) (by omega) (by omega)
    obtain ⟨x,⟨K1,p1⟩,⟨K2,p2⟩,hx⟩:=Path_end hF W hi (q.getD j z_api_Put).vPath
    by_cases h0:x.2.2=0
    · obtain ⟨y,o,rfl,hy,hyo⟩:=hx h0
      obtain ⟨s,⟨K3,s1⟩,⟨K4,s2⟩,hs⟩:=Scalar_both hF W hy
      by_cases hsc:s.2=true
      · obtain ⟨n,hn,hn4,hln⟩:=hs hsc
        have hi2:=sz_in W i (by rw [W.sz.len];exact hi)
        have hroom:o+n≤b.length:=by omega
        obtain ⟨z,⟨K5,z1⟩,⟨K6,z2⟩⟩:=ih (j+1) (splice b o (bytesI n (q.getD j z_api_Put).vV)) (by omega) (by rw [splice_length (by rw [bytesI_length];exact hroom)];exact hb)
        refine ⟨z,⟨max (max K1 K3) (max K5 9)+1,fun k m hk hm=>?_⟩,⟨max (max K2 K4) (max K6 9)+1,fun k m hk hm=>?_⟩⟩
        · obtain ⟨m,rfl⟩:∃r,m=r+1:=⟨m-1,by omega⟩
          have hpb:=(put_both (k:=k) hn hn4 hv hroom (by omega) (by omega)).1
          show image_Lay.l0 k t (i:Int) q (m+1) (j:Int) b=_
          rw [image_Lay.l0,if_pos (by simp;omega),if_pos hbd,hrd,show ctf_Path.f k t (i:Int) (q.getD j z_api_Put).vPath=_ from p1 k (by omega)]
          simp only [Option.bind_some]
          rw [if_neg (by decide),show image_scalar.f k t (y:Int)=_ from s1 k (by omega)]
          simp only [Option.bind_some]
          rw [if_neg (by simp [hsc]),hpb]
          simp only [Option.bind_some]
          rw [hw]
          exact z1 k m (by omega) (by omega)
        · obtain ⟨m,rfl⟩:∃r,m=r+1:=⟨m-1,by omega⟩
          have hpb:=(put_both (k:=k) hn hn4 hv hroom (by omega) (by omega)).2
          show taplineref09_Lay.l0 k t (i:Int) q (m+1) (j:Int) b=_
          rw [taplineref09_Lay.l0,if_pos (by simp;omega),if_pos hbd,hrd,show taplineref08_Path.f k t (i:Int) (q.getD j z_api_Put).vPath=_ from p2 k (by omega)]
          simp only [Option.bind_some,reachedOf]
          rw [if_neg (by decide),show taplineref09_Scalar.f k t (y:Int)=_ from s2 k (by omega)]
          simp only [Option.bind_some]
          rw [if_neg (by simp [hsc]),if_pos hbd,hpb]
          simp only [Option.bind_some]
          rw [hw]
          exact z2 k m (by omega) (by omega)
      · refine ⟨.inl ([],5),⟨max K1 K3+1,fun k m hk hm=>?_⟩,⟨max K2 K4+1,fun k m hk hm=>?_⟩⟩
        · obtain ⟨m,rfl⟩:∃r,m=r+1:=⟨m-1,by omega⟩
          show image_Lay.l0 k t (i:Int) q (m+1) (j:Int) b=_
          rw [image_Lay.l0,if_pos (by simp;omega),if_pos hbd,hrd,show ctf_Path.f k t (i:Int) (q.getD j z_api_Put).vPath=_ from p1 k (by omega)]
          simp only [Option.bind_some]
          rw [if_neg (by decide),show image_scalar.f k t (y:Int)=_ from s1 k (by omega)]
          simp only [Option.bind_some]
          rw [if_pos (by simp [hsc])]
        · obtain ⟨m,rfl⟩:∃r,m=r+1:=⟨m-1,by omega⟩
          show taplineref09_Lay.l0 k t (i:Int) q (m+1) (j:Int) b=_
          rw [taplineref09_Lay.l0,if_pos (by simp;omega),if_pos hbd,hrd,show taplineref08_Path.f k t (i:Int) (q.getD j z_api_Put).vPath=_ from p2 k (by omega)]
          simp only [Option.bind_some,reachedOf]
          rw [if_neg (by decide),show taplineref09_Scalar.f k t (y:Int)=_ from s2 k (by omega)]
          simp only [Option.bind_some]
          rw [if_pos (by simp [hsc])]
          rfl
    · refine ⟨.inl ([],x.2.2),⟨K1+1,fun k m hk hm=>?_⟩,⟨K2+1,fun k m hk hm=>?_⟩⟩
      · obtain ⟨m,rfl⟩:∃r,m=r+1:=⟨m-1,by omega⟩
        show image_Lay.l0 k t (i:Int) q (m+1) (j:Int) b=_
        rw [image_Lay.l0,if_pos (by simp;omega),if_pos hbd,hrd,show ctf_Path.f k t (i:Int) (q.getD j z_api_Put).vPath=_ from p1 k (by omega)]
        simp only [Option.bind_some]
        rw [if_pos (by simp [h0])]
      · obtain ⟨m,rfl⟩:∃r,m=r+1:=⟨m-1,by omega⟩
        show taplineref09_Lay.l0 k t (i:Int) q (m+1) (j:Int) b=_
        rw [taplineref09_Lay.l0,if_pos (by simp;omega),if_pos hbd,hrd,show taplineref08_Path.f k t (i:Int) (q.getD j z_api_Put).vPath=_ from p2 k (by omega)]
        simp only [Option.bind_some,reachedOf]
        rw [if_pos (by simp [h0])]
        rfl
theorem Lay_both (hF : ∀ d ∈ t.vDefs, FitD d) (i : Int) {q : List api_Put} (hq : ∀ p ∈ q, In64 p.vV) :
    ∃b e,Ev (fun k=>image_Lay.f k t i q) (b,e)∧Ev (fun k=>taplineref09_Lay.f k t i q) ⟨b,e⟩:=by
  rcases valid_iff hF with ⟨l,W,hv⟩|⟨hno,hv⟩
  · have hck:Ev (fun k=>ctf_Check.f k t) 0:=by
      obtain ⟨K,hK⟩:=hv
      exact ⟨K, fun k hk => by
        show ctf_Check.f k t=_
        unfold ctf_Check.f
        rw [show ctf_valid.f k t=_ from hK k hk]
        rfl⟩
    obtain ⟨K0,c0⟩:=hck
    obtain ⟨a,e,⟨K1,c1⟩,⟨K2,c2⟩⟩:=Size_both hF i
    by_cases he:e=0
    · subst he
      rcases given_both hF i with ⟨e,he,h1,_⟩|⟨n,l2,rfl,hn,W2,_,_,_,_⟩
      · have:=(Ev.uniq ⟨K1,c1⟩ (Size_err h1 he))
        simp at this
        omega
      · have hu:=Ev.uniq ⟨K1,c1⟩ (Size_ev W.good hv hn)
        have ha:a=l.getD n 0:=congrArg Prod.fst hu
        have hs:=sz_in W n (by rw [W.sz.len];exact hn)
        by_cases hql:q.length≤100
        · obtain ⟨x,⟨K3,x1⟩,⟨K4,x2⟩⟩:=lay_loop hF W hn hq hql q.length 0 (List.replicate a.toNat (0:Int)) (by omega) (by rw [List.length_replicate];omega)
          refine ⟨(match x with| .inl r=>r.1| .inr s=>s),(match x with| .inl r=>r.2| .inr s=>0),⟨max (max K0 K1) K3,fun k hk=>?_⟩,⟨max K2 K4,fun k hk=>?_⟩⟩
          · show image_Lay.f k t (n:Int) q=_
            unfold image_Lay.f
            rw [show ctf_Check.f k t=_ from c0 k (by omega)]
            simp only [Option.bind_some]
            rw [if_neg (by decide),show ctf_Size.f k t (n:Int)=_ from c1 k (by omega)]
            simp only [Option.bind_some]
            rw [if_neg (by decide),if_neg (by simp;omega),if_pos (by omega),show image_Lay.l0 k t (n:Int) q k 0 _=_ from x1 k k (by omega) (by omega)]
            cases x<;>rfl
          · show taplineref09_Lay.f k t (n:Int) q=_
            unfold taplineref09_Lay.f
            rw [show taplineref08_Size.f k t (n:Int)=_ from c2 k (by omega)]
            simp only [Option.bind_some]
            rw [if_neg (by decide),if_neg (by simp;omega),if_pos (by omega),show taplineref09_Lay.l0 k t (n:Int) q k 0 _=_ from x2 k k (by omega) (by omega)]
            cases x<;>rfl
        · refine ⟨[],2,⟨max K0 K1,fun k hk=>?_⟩,⟨K2,fun k hk=>?_⟩⟩
          · show image_Lay.f k t (n:Int) q=_
            unfold image_Lay.f
            rw [show ctf_Check.f k t=_ from c0 k (by omega)]
            simp only [Option.bind_some]
            rw [if_neg (by decide),show ctf_Size.f k t (n:Int)=_ from c1 k (by omega)]
            simp only [Option.bind_some]
            rw [if_neg (by decide),if_pos (by simp;omega)]
          · show taplineref09_Lay.f k t (n:Int) q=_
            unfold taplineref09_Lay.f
            rw [show taplineref08_Size.f k t (n:Int)=_ from c2 k (by omega)]
            simp only [Option.bind_some]
            rw [if_neg (by decide),if_pos (by simp;omega)]
    · refine ⟨[],e,⟨max K0 K1,fun k hk=>?_⟩,⟨K2,fun k hk=>?_⟩⟩
      · show image_Lay.f k t i q=_
        unfold image_Lay.f
        rw [show ctf_Check.f k t=_ from c0 k (by omega)]
        simp only [Option.bind_some]
        rw [if_neg (by decide),show ctf_Size.f k t i=_ from c1 k (by omega)]
        simp only [Option.bind_some]
        rw [if_pos (by simp [he])]
      · show taplineref09_Lay.f k t i q=_
        unfold taplineref09_Lay.f
        rw [show taplineref08_Size.f k t i=_ from c2 k (by omega)]
        simp only [Option.bind_some]
        rw [if_pos (by simp [he])]
  · obtain ⟨K,hK⟩:=hv
    obtain ⟨a,e,h1,⟨K2,c2⟩⟩:=Size_both hF i
    have hu:=h1.uniq (Size_err (given_bad ⟨K,hK⟩ i) (by decide))
    have he:e=80:=congrArg Prod.snd hu
    subst he
    refine ⟨[],80,⟨K,fun k hk=>?_⟩,⟨K2,fun k hk=>?_⟩⟩
    · show image_Lay.f k t i q=_
      unfold image_Lay.f ctf_Check.f
      rw [show ctf_valid.f k t=_ from hK k hk]
      rfl
    · show taplineref09_Lay.f k t i q=_
      unfold taplineref09_Lay.f
      rw [show taplineref08_Size.f k t i=_ from c2 k hk]
      rfl
end
section
variable {t:api_Types} {l:List Int}
theorem defs_names {n : Nat} : ∀ (ns : List ByteArray) (l : List api_Def), defsS n ns l = true → (∀ d ∈ l, namedS d = true → d.vName ∉ ns) ∧ ∀ i j, i < j → j < l.length → namedS (l.getD j z_api_Def) = true → (l.getD i z_api_Def).vName ≠ (l.getD j z_api_Def).vName
  |ns,[],_=>⟨by simp,fun i j _ h=>by simp at h⟩
  | ns, d :: r, h => by
    simp only [defsS,Bool.and_eq_true,Bool.not_eq_true'] at h
    obtain ⟨⟨h1,h2⟩,h3⟩:=h
    obtain ⟨h4,h5⟩:=defs_names _ r h3
    refine ⟨fun x hx hn hm=>?_,fun i j hij hj hn=>?_⟩
    · rcases List.mem_cons.1 hx with rfl|hx
      · rw [hn,Bool.true_and] at h2
        exact absurd (strEq_iff.2 rfl) (List.any_eq_false.1 h2 _ hm)
      · exact h4 x hx hn (List.mem_cons_of_mem _ hm)
    · obtain ⟨j,rfl⟩:∃q,j=q+1:=⟨j-1,by omega⟩
      rw [List.getD_cons_succ] at hn⊢
      cases i with
      | zero =>
        rw [List.getD_cons_zero]
        intro e
        exact h4 _ (getD_mem (by simpa using hj)) hn (by rw [←e];exact List.mem_cons_self)
      | succ i =>
        rw [List.getD_cons_succ]
        exact h5 i j (by omega) (by simpa using hj) hn
theorem findV_self (W:Wf t l) {i:Nat} (hi:i<t.vDefs.length) (h1:namedS (t.vDefs.getD i z_api_Def)=true):findV t (t.vDefs.getD i z_api_Def).vName=(i:Int):=by
 have hq:nameQ (t.vDefs.getD i z_api_Def).vName (t.vDefs.getD i z_api_Def)=true:=by unfold nameQ;rw [h1,strEq_iff.2 rfl];rfl
 have hany:t.vDefs.any (nameQ (t.vDefs.getD i z_api_Def).vName)=true:=List.any_eq_true.2 ⟨_,getD_mem hi,hq⟩
 unfold findV
 rw [if_pos hany]
 have hlt:t.vDefs.findIdx (nameQ (t.vDefs.getD i z_api_Def).vName)<t.vDefs.length:=List.findIdx_lt_length_of_exists ⟨_,getD_mem hi,hq⟩
 have hj:=List.findIdx_getElem (w:=hlt)
 have e:∀(j:Nat) (hj:j<t.vDefs.length),t.vDefs[j]=t.vDefs.getD j z_api_Def:=fun j hj=>by
  rw [List.getD_eq_getElem?_getD,List.getElem?_eq_getElem hj];rfl
 rw [e] at hj
 generalize t.vDefs.findIdx (nameQ (t.vDefs.getD i z_api_Def).vName)=j at hlt hj
 unfold nameQ at hj
 rw [Bool.and_eq_true] at hj
 have hn:=strEq_iff.1 hj.2
 have hu:=(defs_names _ _ W.defs).2
 rcases Nat.lt_trichotomy i j with h|h|h
 ·exact absurd hn.symm (hu i j h hlt hj.1)
 ·rw [h]
 ·exact absurd hn (hu j i h hi h1)
theorem path_lo (W:Wf t l) {mem:Nat→ByteArray→api_Field×Int} (hm:MemOk t mem):∀(p:List ByteArray) (i:Nat) (a:Int),i<t.vDefs.length→0≤a→a+l.getD i 0≤512→(pathV mem p i a).2.2=0→a≤(pathV mem p i a).2.1
  |[],i,a,hi,h0,h2,_=>by simp only [pathV];omega
  | n :: p, i, a, hi, h0, h2, he => by
    simp only [pathV] at he⊢
    by_cases hz:(mem i n).2=0
    · rw [if_neg (fun h=>h hz)] at he⊢
      obtain ⟨h3,h4⟩:=mem_in W hm hi (name:=n) hz
      obtain ⟨h5,h6⟩:=hm.typ i n hi hz
      have h7:=sz_in W (mem i n).1.vType.toNat (by rw [W.sz.len];omega)
      rw [wrap_id (x:=a+(mem i n).1.vAt) (by omega) (by omega)] at he⊢
      have:=path_lo W hm p _ _ (by omega) (by omega) (by omega) he
      omega
    · rw [if_pos hz] at he
      exact absurd he hz
theorem fields_disj {l : List Int} (hl : ∀ j, j < l.length → 0 < l.getD j 0 ∧ l.getD j 0 ≤ 512) : ∀ (fs : List api_Field) (a e : Int), (∀ f ∈ fs, 0 ≤ f.vType ∧ f.vType < l.length) → 0 ≤ a → placedAt l a fs = some e →
    ∀f∈fs,∀g∈fs,f=g∨f.vAt+l.getD f.vType.toNat 0≤g.vAt∨g.vAt+l.getD g.vType.toNat 0≤f.vAt
  |[],_,_,_,_,_=>by simp
  | x :: fs, a, e, hf, ha, h => by
    rw [placedAt] at h
    split at h
    · cases h
    · next hc=>
      simp only [Bool.or_eq_true,decide_eq_true_eq,not_or] at hc
      obtain ⟨h1,h2⟩:=hf x List.mem_cons_self
      obtain ⟨h3,h4⟩:=hl x.vType.toNat (by omega)
      have hrd:rd 0 l x.vType=l.getD x.vType.toNat 0:=rfl
      rw [hrd,wrap_id (by omega) (by omega)] at h
      have hin:=(placedAt_in hl fs _ e (fun g hg=>hf g (List.mem_cons_of_mem _ hg)) (by omega) h).2
      have ih:=fields_disj hl fs _ e (fun g hg=>hf g (List.mem_cons_of_mem _ hg)) (by omega) h
      intro f hf2 g hg2
      rcases List.mem_cons.1 hf2 with hf3|hf3
      · rcases List.mem_cons.1 hg2 with hg3|hg3
        · exact .inl (by rw [hf3,hg3])
        · subst hf3;exact .inr (.inl (hin g hg3).1)
      · rcases List.mem_cons.1 hg2 with hg3|hg3
        · subst hg3;exact .inr (.inr (hin f hf3).1)
        · exact ih f hf3 g hg3
theorem mem_disj (W : Wf t l) {mem : Nat → ByteArray → api_Field × Int} (hm : MemOk t mem) {i : Nat} (hi : i < t.vDefs.length) {m n : ByteArray} (hmn : m ≠ n) (h0 : (mem i m).2 = 0) (h1 : (mem i n).2 = 0) :
    (mem i m).1.vAt+l.getD (mem i m).1.vType.toNat 0≤(mem i n).1.vAt∨(mem i n).1.vAt+l.getD (mem i n).1.vType.toNat 0≤(mem i m).1.vAt:=by
  obtain ⟨r,hr,he,h6,hlr⟩:=resolved_ev W.good i hi
  rw [(hm.ev i m hi).uniq (member_ev W.good hr he)] at h0⊢
  rw [(hm.ev i n hi).uniq (member_ev W.good hr he)] at h1⊢
  unfold memS at h0 h1⊢
  have hd:=W.sh _ (getD_mem (z:=z_api_Def) hr)
  by_cases h4:(t.vDefs.getD r z_api_Def).vKind=4
  · rw [if_neg (fun h=>h h4)] at h0 h1⊢
    rw [if_neg (fun h=>h h4)]
    cases hf:(t.vDefs.getD r z_api_Def).vFields.find? fun f=>strEq f.vName m with
    |none=>rw [hf] at h0;simp at h0
    | some f =>
      cases hg:(t.vDefs.getD r z_api_Def).vFields.find? fun f=>strEq f.vName n with
      |none=>rw [hg] at h1;simp at h1
      | some g =>
        have hp:=W.placed _ (getD_mem (z:=z_api_Def) hr) h4
        unfold placedS at hp
        split at hp
        · cases hp
        · next e he2=>
          rcases fields_disj (sz_in W) _ _ e (fun g hg=>by rw [W.sz.len];exact hd.typ h4 g hg) (by omega) he2 f (List.mem_of_find?_eq_some hf) g (List.mem_of_find?_eq_some hg) with h|h
          · exfalso
            have e1:f.vName=m:=strEq_iff.1 (List.find?_some (p:=fun f:api_Field=>strEq f.vName m) hf)
            have e2:g.vName=n:=strEq_iff.1 (List.find?_some (p:=fun f:api_Field=>strEq f.vName n) hg)
            exact hmn (by rw [←e1,←e2,h])
          · exact h
  · rw [if_pos h4] at h0;simp at h0
theorem path_disj (W : Wf t l) {mem : Nat → ByteArray → api_Field × Int} (hm : MemOk t mem) : ∀ (p q : List ByteArray) (i : Nat) (a : Int), i < t.vDefs.length → 0 ≤ a → a + l.getD i 0 ≤ 512 → (pathV mem p i a).2.2 = 0 → (pathV mem q i a).2.2 = 0 →
    (∀n,(mem (pathV mem p i a).1.toNat n).2≠0)→(∀n,(mem (pathV mem q i a).1.toNat n).2≠0)→
    p=q∨(pathV mem p i a).2.1+l.getD (pathV mem p i a).1.toNat 0≤(pathV mem q i a).2.1∨(pathV mem q i a).2.1+l.getD (pathV mem q i a).1.toNat 0≤(pathV mem p i a).2.1
  |[],[],i,a,_,_,_,_,_,_,_=> .inl rfl
  | [], n :: q, i, a, _, _, _, _, hq, hn, _ => by
    exfalso
    have h:=hn n
    simp only [pathV] at hq h
    rw [show ((i:Nat):Int).toNat=i from rfl] at h
    rw [if_pos h] at hq
    exact h hq
  | m :: p, [], i, a, _, _, _, hp, _, _, hn => by
    exfalso
    have h:=hn m
    simp only [pathV] at hp h
    rw [show ((i:Nat):Int).toNat=i from rfl] at h
    rw [if_pos h] at hp
    exact h hp
  | m :: p, n :: q, i, a, hi, h0, h2, hp, hq, hnp, hnq => by
    simp only [pathV] at hp hq hnp hnq⊢
    by_cases hz:(mem i m).2=0
    · by_cases hy:(mem i n).2=0
      · rw [if_neg (fun h=>h hz)] at hp hnp⊢
        rw [if_neg (fun h=>h hy)] at hq hnq⊢
        obtain ⟨h3,h4⟩:=mem_in W hm hi (name:=m) hz
        obtain ⟨h5,h6⟩:=hm.typ i m hi hz
        have h7:=sz_in W (mem i m).1.vType.toNat (by rw [W.sz.len];omega)
        obtain ⟨g3,g4⟩:=mem_in W hm hi (name:=n) hy
        obtain ⟨g5,g6⟩:=hm.typ i n hi hy
        have g7:=sz_in W (mem i n).1.vType.toNat (by rw [W.sz.len];omega)
        rw [wrap_id (x:=a+(mem i m).1.vAt) (by omega) (by omega)] at hp hnp⊢
        rw [wrap_id (x:=a+(mem i n).1.vAt) (by omega) (by omega)] at hq hnq⊢
        by_cases hmn:m=n
        · subst hmn
          rcases path_disj W hm p q _ _ (by omega) (by omega) (by omega) hp hq hnp hnq with h|h
          · exact .inl (by rw [h])
          · exact .inr h
        · refine .inr ?_
          have hd:=mem_disj W hm hi hmn hz hy
          have lp:=path_lo W hm p _ _ (by omega) (by omega) (by omega) hp
          have lq:=path_lo W hm q _ _ (by omega) (by omega) (by omega) hq
          obtain ⟨y1,o1,e1,_,b1⟩:=path_bound W hm p _ _ (by omega) (by omega) (by omega) (by omega) hp
          obtain ⟨y2,o2,e2,_,b2⟩:=path_bound W hm q _ _ (by omega) (by omega) (by omega) (by omega) hq
          rw [e1] at lp⊢
          rw [e2] at lq⊢
          simp only [Int.toNat_natCast] at lp lq⊢
          omega
      · rw [if_pos hy] at hq
        exact absurd hq hy
    · rw [if_pos hz] at hp
      exact absurd hp hz
theorem valI_bytesI:∀(n:Nat) (v:Int),valI (bytesI n v)=v%256^n
  |0,v=>by simp [bytesI,valI,Int.emod_one]
  | n + 1, v => by
    rw [bytesI_succ,valI,valI_bytesI n (v/256),Int.pow_succ,Int.mul_comm (256^n) 256]
    have hp:(0:Int)<256^n:=by
      have:0<(256:Nat)^n:=Nat.pow_pos (by decide)
      have h2:((256^n:Nat):Int)=(256:Int)^n:=Int.natCast_pow 256 n
      omega
    have e:=Int.emod_emod_of_dvd v (Int.dvd_mul_right 256 (256^n))
    have h1:=Int.emod_def v (256*256^n)
    have h2:=Int.emod_def (v/256) (256^n)
    rw [Int.ediv_ediv_of_nonneg (by decide)] at h2
    have h3:=Int.emod_def v 256
    rw [h1,h2,h3,Int.mul_sub,←Int.mul_assoc]
    omega
theorem wrp_val {s:api_Int} {v:Int} {n:Nat} (hv:In64 v) (hn:s.vSize=(n:Int)) (h:n=1∨n=2∨n=4∨n=8):wrp s (IntKind.wrap .i64 (valI (bytesI n v)))=wrp s v:=by
 rw [valI_bytesI]
 have hv':=hv
 unfold In64 at hv'
 unfold wrp
 rw [hn]
 rcases h with rfl|rfl|rfl|rfl
 ·simp only [show (((1:Nat):Int)==1)=true by decide,if_true]
  rw [show (256:Int)^1=256 by decide,wrap_id (x:=v%256) (by omega) (by omega)]
  rw [wi8,wi8,wrap8,wrap8,Int.emod_emod]
 ·simp only [show (((2:Nat):Int)==1)=false by decide,show (((2:Nat):Int)==2)=true by decide,if_true,Bool.false_eq_true,if_false]
  rw [show (256:Int)^2=65536 by decide,wrap_id (x:=v%65536) (by omega) (by omega)]
  rw [wi16,wi16,wu16,wu16,Int.emod_emod]
 ·simp only [show (((4:Nat):Int)==1)=false by decide,show (((4:Nat):Int)==2)=false by decide,show (((4:Nat):Int)==4)=true by decide,if_true,Bool.false_eq_true,if_false]
  rw [show (256:Int)^4=4294967296 by decide,wrap_id (x:=v%4294967296) (by omega) (by omega)]
  rw [wi32,wi32,wu32,wu32,Int.emod_emod]
 ·rw [show (256:Int)^8=18446744073709551616 by decide,wrap_mod (x:=v%18446744073709551616) (y:=v) (by omega),wrap_id (x:=v) hv'.1 hv'.2]
end
def taplinelaw09_ImageBack.l1 (k:Nat) (a0:api_Types) (a1:Int) (a2:List api_Put) (v3:Int×Int×Int):Nat→Int→Int→Option ((Bool)⊕(Int))
 |0,_,_=>none
 |m+1,y2_0,y2_1=>if (decide (y2_1<(a2.length:Int)))=true then (if 0≤y2_1∧y2_1<a2.length then ((ctf_Path.f k a0 a1 ((rd z_api_Put a2 y2_1).vPath)).bind fun v4=>(if (v4.2.2 !=0)=true then (some (.inl false)) else (if (v4.2.1==v3.2.1)=true then (if 0≤y2_1∧y2_1<a2.length then (taplinelaw09_ImageBack.l1 k a0 a1 a2 v3 m ((rd z_api_Put a2 y2_1).vV) (IntKind.wrap .i64 (y2_1+1))) else none) else (taplinelaw09_ImageBack.l1 k a0 a1 a2 v3 m y2_0 (IntKind.wrap .i64 (y2_1+1)))))) else none) else (some (.inr y2_0))
def taplinelaw09_ImageBack.l0 (k:Nat) (a0:api_Types) (a1:Int) (a2:List api_Put) (v2:(List Int)×Int):Nat→Int→Option ((Bool)⊕(Unit))
 |0,_=>none
 |m+1,y1_0=>if (decide (y1_0<(a2.length:Int)))=true then (if 0≤y1_0∧y1_0<a2.length then ((ctf_Path.f k a0 a1 ((rd z_api_Put a2 y1_0).vPath)).bind fun v3=>(if 0≤y1_0∧y1_0<a2.length then ((taplinelaw09_ImageBack.l1 k a0 a1 a2 v3 k ((rd z_api_Put a2 y1_0).vV) (IntKind.wrap .i64 (y1_0+1))).bind fun xx2=>(match xx2 with| .inl r=>some (.inl r)| .inr s1=>if 0≤y1_0∧y1_0<a2.length then ((image_Member.f k a0 (⟨([(⟨1000,v2.1⟩:api_Segment)]:List api_Segment)⟩:api_Image) ((rd z_api_Def a0.vDefs a1).vName) 1000 ((rd z_api_Put a2 y1_0).vPath)).bind fun v5=>(if (((v3.2.2 !=0)||(v5.2.2 !=0))||(!v5.2.1))=true then (some (.inl false)) else ((taplineref09_Scalar.f k a0 v3.1).bind fun v6=>((bits_Wrap.f v6.1 s1).bind fun v7=>(if (((!v6.2)||(v7.2 !=0))||(v5.1 !=v7.1))=true then (some (.inl false)) else (taplinelaw09_ImageBack.l0 k a0 a1 a2 v2 m (IntKind.wrap .i64 (y1_0+1)))))))) else none)) else none)) else none) else (some (.inr ()))
def taplinelaw09_ImageBack.f (k:Nat) (a0:api_Types) (a1:Int) (a2:List api_Put):Option (Bool):=(taplinelaw09_sane.f).bind fun v1=>((image_Lay.f k a0 a1 a2).bind fun v2=>(if ((v2.2 !=0)||(decide ((v2.1.length:Int)>512)))=true then (some v1) else (if 0≤a1∧a1<a0.vDefs.length then (if (((rd z_api_Def a0.vDefs a1).vKind==2)||((rd z_api_Def a0.vDefs a1).vKind==3))=true then (some v1) else ((taplinelaw09_ImageBack.l0 k a0 a1 a2 v2 k 0).bind fun xx1=>(match xx1 with| .inl r=>some r| .inr s2=>some v1))) else none)))
theorem taplinelaw09_ImageBack.calls (k:Nat) (a0:api_Types) (a1:Int) (a2:List api_Put) (A0_0:Option Addr) (c0_0:Nat) (A2_0:Option Addr) (c2_0:Nat) {h0:View} {w0:World} (hv:Sees h0 w0) (ht:Tab w0) (hr0_0:Rd k_api_Def h0 A0_0 a0.vDefs) (hc0_0:a0.vDefs.length≤c0_0) (hr2_0:Rd k_api_Put h0 A2_0 a2) (hc2_0:a2.length≤c2_0) {r:Bool} (H:taplinelaw09_ImageBack.f k a0 a1 a2=some r):Calls Tryz.prog 6 #[Value.agg #[vL A0_0 a0.vDefs.length c0_0],vI a1,vL A2_0 a2.length c2_0] w0 (fun e w1=>e= .returned (vB r)∧Ext w0 w1):=by
 unfold taplinelaw09_ImageBack.f at H
 have HS:St [] h0 w0 h0 [] w0:=St.init hv
 go_enter Tryz.func6,Tryz.ntmps6
 refine wp_seq<|region<|run_ex rfl rfl (does_box (cs:=#[vL A0_0 a0.vDefs.length c0_0]) rfl rfl) ?_
 rintro w1 _ hE1 ⟨b1,rfl,ge1,hb1⟩
 have HS1:=HS.new hE1 ge1 hb1
 refine rs (vB false) (r_assign rfl) ?_
 try simp only [sc0,sc1]
 refine run_nil<|norm_then<|wp_seq<|region ?_
 obtain ⟨v1,H1,H⟩:=of_bind H
 refine run_eq (v:=vB v1) rfl rfl (does_call_eq Tryz.call10 rfl rfl (taplinelaw09_sane.calls HS1.sees (ht.s HS1) H1)) ?_
 intro w2 hE2
 have HS2:=HS1.step hE2
 refine rs (vB v1) (r_assign rfl) ?_
 try simp only [sc0,sc1]
 refine run_nil<|norm_then<|wp_seq<|region<|rs (Value.agg #[vL A0_0 a0.vDefs.length c0_0]) (r_loadBoxAgg (n:=1) (vs:=[vL A0_0 a0.vDefs.length c0_0]) rfl Tryz.isAgg24 (HS2.look 0 rfl) Tryz.sizeOf24 rfl rfl)<|rs (vI a1) (r_move rfl)<|rs (vL A2_0 a2.length c2_0) (r_move rfl) ?_
 obtain ⟨v2,H2,H⟩:=of_bind H
 refine run_ex rfl rfl (does_call Tryz.call13 rfl (gives_in (h:=h0) (R:=(fun hx u=>∃(Av2_0_0:Option Addr) (cv2_0_0:Nat),u=Value.tuple #[vL Av2_0_0 v2.1.length cv2_0_0,vI v2.2]∧v2.1.length≤cv2_0_0∧Rd (Kd.int .u8) hx Av2_0_0 v2.1)) (Ext.rfl' w2) ((image_Lay.calls k a0 a1 a2 A0_0 c0_0 A2_0 c2_0 HS2.sees hr0_0 hc0_0 hr2_0 hc2_0 H2).mono ?_)) rfl) ?_
 ·rintro _ _ ⟨h1,Av2_0_0,cv2_0_0,rfl,hcv2_0_0,hrv2_0_0,g,ss,x⟩
  exact ⟨h1,_,rfl,⟨Av2_0_0,cv2_0_0,rfl,hcv2_0_0,hrv2_0_0⟩,g,ss,x⟩
 rintro w3 _ hE3 ⟨h1,⟨Av2_0_0,cv2_0_0,rfl,hcv2_0_0,hrv2_0_0⟩,gr1,se1⟩
 have HS3:=HS2.view hE3 gr1 se1
 refine run_frame (by simp only [sc0,sc1];rfl) ?_
 refine rs (Value.tuple #[vL Av2_0_0 v2.1.length cv2_0_0,vI v2.2]) (r_move rfl)<|rs (vL Av2_0_0 v2.1.length cv2_0_0) (r_extract rfl rfl)<|rs (vI v2.2) (r_extract rfl rfl)<|rs (vL Av2_0_0 v2.1.length cv2_0_0) (r_assign rfl)<|run_frame (by simp only [sc0,sc1];rfl) ?_
 refine rs (vI v2.2) (r_assign rfl) ?_
 try simp only [sc0,sc1]
 refine run_nil<|norm_then<|wp_seq<|wp_seq<|region<|rs (vI v2.2) (r_move rfl)<|rs (vB (v2.2 !=0)) (r_bin rfl rfl rfl)<|rs (vB (v2.2 !=0)) (r_move rfl)<|rgs (v2.2 !=0) true (vL Av2_0_0 v2.1.length cv2_0_0) rfl rfl rfl rfl (fun hg=>(r_move rfl))<|run_frame (by simp only [sc0,sc1];rfl) ?_
 refine rgs (v2.2 !=0) true (vI (v2.1.length:Int)) rfl rfl rfl rfl (fun hg=>(r_len (gvt (vL Av2_0_0 v2.1.length cv2_0_0) hg rfl) Tryz.runUnderlying42))<|rgs (v2.2 !=0) true (vB (decide ((v2.1.length:Int)>512))) rfl rfl rfl rfl (fun hg=>(r_bin (gvt (vI (v2.1.length:Int)) hg rfl) rfl rfl))<|rs (vB ((v2.2 !=0)||(decide ((v2.1.length:Int)>512)))) (r_pick_or rfl rfl (fun hp=>(gvt (vB (decide ((v2.1.length:Int)>512))) (and_i rfl hp) rfl))) ?_
 try simp only [sc0,sc1]
 refine run_nil<|norm_then<|wp_cond_split (t:=((v2.2 !=0)||(decide ((v2.1.length:Int)>512)))) rfl (fun c1=>?_) (fun c1=>?_)
 ·replace H:=of_pos H c1
  refine wp_seq<|region<|rs (vB v1) (r_move rfl)<|rs (vB v1) (r_assign rfl) ?_
  try simp only [sc0,sc1]
  refine run_nil<|norm_then<|wp_ret<|ret_then ?_
  obtain rfl:=Option.some.inj H
  exact bodyPost_ret (results_1 rfl (one_tmp rfl)) rfl<|⟨rfl,HS3.toE⟩
 ·replace H:=of_neg H (nt c1)
  refine wp_skip<|norm_then<|wp_seq<|region<|rs (vP b1 0) (r_fieldBox (n:=1) (o':=0) rfl Tryz.runUnderlying24 rfl Tryz.sizeOf22 (by decide) rfl)<|rs (vL A0_0 a0.vDefs.length c0_0) (r_loadBox rfl Tryz.isAgg22 (HS3.look 0 rfl) rfl)<|rs (vI a1) (r_move rfl) ?_
  obtain ⟨hi1,H⟩:=of_ite H
  obtain ⟨ad1,Aad1_6,cad1_6,e1,hel1,hcad1_6,hrad1_6⟩:=ld_api_Def (hr0_0.ext HS3.sub) hi1.1 hi1.2
  refine rs (Value.pointer (some (Addr.add ad1 (a1.toNat*7)))) (r_indexA (sz:=7) rfl e1 rfl hi1.1 hi1.2 Tryz.runUnderlying22 Tryz.sizeOf56)<|run_frame (by simp only [sc0,sc1];rfl) ?_
  refine rs (Value.agg #[vI ((rd z_api_Def a0.vDefs a1).vKind),vS ((rd z_api_Def a0.vDefs a1).vName),vI ((rd z_api_Def a0.vDefs a1).vInt.vSize),vB ((rd z_api_Def a0.vDefs a1).vInt.vSigned),vI ((rd z_api_Def a0.vDefs a1).vRef),vI ((rd z_api_Def a0.vDefs a1).vN),vL Aad1_6 ((rd z_api_Def a0.vDefs a1).vFields).length cad1_6]) (r_loadAgg rfl Tryz.isAgg56 (hel1.sees HS3.sees) Tryz.sizeOf56)<|run_ex rfl rfl (does_alloc (cs:=#[vI 0,vS ByteArray.empty,vI 0,vB false,vI 0,vI 0,vL none 0 0]) Tryz.zeroValue56 rfl) ?_
  rintro w4 _ hE4 ⟨b2,rfl,ge2,hb2⟩
  have HS4:=HS3.new hE4 ge2 hb2
  refine run_st (i:=0) (cs:=[vI 0,vS ByteArray.empty,vI 0,vB false,vI 0,vI 0,vL none 0 0]) (cs':=[vI ((rd z_api_Def a0.vDefs a1).vKind),vS ((rd z_api_Def a0.vDefs a1).vName),vI ((rd z_api_Def a0.vDefs a1).vInt.vSize),vB ((rd z_api_Def a0.vDefs a1).vInt.vSigned),vI ((rd z_api_Def a0.vDefs a1).vRef),vI ((rd z_api_Def a0.vDefs a1).vN),vL Aad1_6 ((rd z_api_Def a0.vDefs a1).vFields).length cad1_6]) (vs:=[vI ((rd z_api_Def a0.vDefs a1).vKind),vS ((rd z_api_Def a0.vDefs a1).vName),vI ((rd z_api_Def a0.vDefs a1).vInt.vSize),vB ((rd z_api_Def a0.vDefs a1).vInt.vSigned),vI ((rd z_api_Def a0.vDefs a1).vRef),vI ((rd z_api_Def a0.vDefs a1).vN),vL Aad1_6 ((rd z_api_Def a0.vDefs a1).vFields).length cad1_6]) (bs':=[(some b2, .cells #[vI ((rd z_api_Def a0.vDefs a1).vKind),vS ((rd z_api_Def a0.vDefs a1).vName),vI ((rd z_api_Def a0.vDefs a1).vInt.vSize),vB ((rd z_api_Def a0.vDefs a1).vInt.vSigned),vI ((rd z_api_Def a0.vDefs a1).vRef),vI ((rd z_api_Def a0.vDefs a1).vN),vL Aad1_6 ((rd z_api_Def a0.vDefs a1).vFields).length cad1_6] 56 (0,0)),(some b1, .cells #[vL A0_0 a0.vDefs.length c0_0] 24 (0,0))]) rfl rfl Tryz.sizeOf56 rfl rfl (by decide) rfl HS4 rfl (Nat.le_of_ble_eq_true rfl) rfl rfl ?_
  intro w5 HS5
  try simp only [sc0,sc1]
  refine run_nil<|norm_then<|wp_seq<|wp_seq<|region<|rs (vP b2 0) (r_fieldBox (n:=1) (o':=0) rfl Tryz.runUnderlying56 rfl Tryz.sizeOf3 (by decide) rfl)<|rs (vI ((rd z_api_Def a0.vDefs a1).vKind)) (r_loadBox rfl Tryz.isAgg3 (HS5.look 0 rfl) rfl)<|rs (vB ((rd z_api_Def a0.vDefs a1).vKind==2)) (r_bin rfl rfl rfl)<|rs (vB ((rd z_api_Def a0.vDefs a1).vKind==2)) (r_move rfl)<|run_frame (by simp only [sc0,sc1];rfl) ?_
  refine rgs ((rd z_api_Def a0.vDefs a1).vKind==2) true (vP b2 0) rfl rfl rfl rfl (fun hg=>(r_fieldBox (n:=1) (o':=0) rfl Tryz.runUnderlying56 rfl Tryz.sizeOf3 (by decide) rfl))<|rgs ((rd z_api_Def a0.vDefs a1).vKind==2) true (vI ((rd z_api_Def a0.vDefs a1).vKind)) rfl rfl rfl rfl (fun hg=>(r_loadBox (gvt (vP b2 0) hg rfl) Tryz.isAgg3 (HS5.look 0 rfl) rfl))<|rgs ((rd z_api_Def a0.vDefs a1).vKind==2) true (vB ((rd z_api_Def a0.vDefs a1).vKind==3)) rfl rfl rfl rfl (fun hg=>(r_bin (gvt (vI ((rd z_api_Def a0.vDefs a1).vKind)) hg rfl) rfl rfl))<|rs (vB (((rd z_api_Def a0.vDefs a1).vKind==2)||((rd z_api_Def a0.vDefs a1).vKind==3))) (r_pick_or rfl rfl (fun hp=>(gvt (vB ((rd z_api_Def a0.vDefs a1).vKind==3)) (and_i rfl hp) rfl))) ?_
  try simp only [sc0,sc1]
  refine run_nil<|norm_then<|wp_cond_split (t:=(((rd z_api_Def a0.vDefs a1).vKind==2)||((rd z_api_Def a0.vDefs a1).vKind==3))) rfl (fun c2=>?_) (fun c2=>?_)
  ·replace H:=of_pos H c2
   refine wp_seq<|region<|rs (vB v1) (r_move rfl)<|rs (vB v1) (r_assign rfl) ?_
   try simp only [sc0,sc1]
   refine run_nil<|norm_then<|wp_ret<|ret_then ?_
   obtain rfl:=Option.some.inj H
   exact bodyPost_ret (results_1 rfl (one_tmp rfl)) rfl<|⟨rfl,HS5.toE⟩
  ·replace H:=of_neg H (nt c2)
   refine wp_skip<|norm_then<|wp_seq<|region<|rs (vL Av2_0_0 v2.1.length cv2_0_0) (r_move rfl)<|rs (Value.agg #[vI 1000,vL Av2_0_0 v2.1.length cv2_0_0]) (r_build (cs:=[vI 1000,vL Av2_0_0 v2.1.length cv2_0_0]) (ps:=[(0,vI 1000),(1,vL Av2_0_0 v2.1.length cv2_0_0)]) Tryz.zeroValue58 Tryz.runUnderlying58 (pl:=#[(0,1),(1,1)]) (fun w=>by simp [Tryz.sizeOf2,Tryz.sizeOf42]) (parts_2 (show _=vI 1000 from rfl) (show _=vL Av2_0_0 v2.1.length cv2_0_0 from rfl)) rfl) ?_
   refine run_bs k_api_Segment (xs:=([(⟨1000,v2.1⟩:api_Segment)]:List api_Segment)) (n:=1) (cs:=[vI 1000,vL Av2_0_0 v2.1.length cv2_0_0]) Tryz.runUnderlying25 Tryz.typeInfo58 Tryz.zeroValue58 rfl rfl (by decide) (by decide) (by decide) [Value.agg #[vI 1000,vL Av2_0_0 v2.1.length cv2_0_0]] (parts_any.trans rfl) rfl rfl rfl rfl (elems_cons (qs:=[vI 1000,vL Av2_0_0 v2.1.length cv2_0_0]) ⟨[vI 1000],[vL Av2_0_0 v2.1.length cv2_0_0],rfl,rfl,⟨Av2_0_0,cv2_0_0,rfl,hcv2_0_0,hrv2_0_0⟩⟩ (elems_nil (cs:=[]))) HS5 ?_
   intro w6 b3 HS6 ho1
   refine rs (Value.agg #[vL (rowA (some b3)) 1 1]) (r_build (cs:=[vL (rowA (some b3)) 1 1]) (ps:=[(0,vL (rowA (some b3)) 1 1)]) Tryz.zeroValue27 Tryz.runUnderlying27 (pl:=#[(0,1)]) (fun w=>by simp [Tryz.sizeOf25]) (parts_1 (show _=vL (rowA (some b3)) 1 1 from rfl)) rfl) ?_
   refine run_frame (by simp only [sc0,sc1];rfl) ?_
   refine run_ex rfl rfl (does_alloc (cs:=#[vL none 0 0]) Tryz.zeroValue27 rfl) ?_
   rintro w7 _ hE5 ⟨b4,rfl,ge3,hb3⟩
   have HS7:=HS6.new hE5 ge3 hb3
   refine run_st (i:=0) (cs:=[vL none 0 0]) (cs':=[vL (rowA (some b3)) 1 1]) (vs:=[vL (rowA (some b3)) 1 1]) (bs':=[(some b4, .cells #[vL (rowA (some b3)) 1 1] 27 (0,0)),((some b3), .cells ([vI 1000,vL Av2_0_0 v2.1.length cv2_0_0]).toArray 58 (0,0)),(some b2, .cells #[vI ((rd z_api_Def a0.vDefs a1).vKind),vS ((rd z_api_Def a0.vDefs a1).vName),vI ((rd z_api_Def a0.vDefs a1).vInt.vSize),vB ((rd z_api_Def a0.vDefs a1).vInt.vSigned),vI ((rd z_api_Def a0.vDefs a1).vRef),vI ((rd z_api_Def a0.vDefs a1).vN),vL Aad1_6 ((rd z_api_Def a0.vDefs a1).vFields).length cad1_6] 56 (0,0)),(some b1, .cells #[vL A0_0 a0.vDefs.length c0_0] 24 (0,0))]) rfl rfl Tryz.sizeOf27 rfl rfl (by decide) rfl HS7 rfl (Nat.le_of_ble_eq_true rfl) rfl rfl ?_
   intro w8 HS8
   try simp only [sc0,sc1]
   refine run_nil<|norm_then<|wp_seq<|wp_seq<|region<|rs (vI 0) (r_assign rfl) ?_
   try simp only [sc0,sc1]
   refine run_nil<|norm_then ?_
   have HS9:St [] h0 w0 h1 [(some b4, .cells #[vL (rowA (some b3)) (([(⟨1000,v2.1⟩:api_Segment)]:List api_Segment).length) 1] 27 (0,0)),((some b3), .cells ([vI 1000,vL Av2_0_0 v2.1.length cv2_0_0]).toArray 58 (0,0)),(some b2, .cells #[vI ((rd z_api_Def a0.vDefs a1).vKind),vS ((rd z_api_Def a0.vDefs a1).vName),vI ((rd z_api_Def a0.vDefs a1).vInt.vSize),vB ((rd z_api_Def a0.vDefs a1).vInt.vSigned),vI ((rd z_api_Def a0.vDefs a1).vRef),vI ((rd z_api_Def a0.vDefs a1).vN),vL Aad1_6 ((rd z_api_Def a0.vDefs a1).vFields).length cad1_6] 56 (0,0)),(some b1, .cells #[vL A0_0 a0.vDefs.length c0_0] 24 (0,0))] w8:=HS8.cast (by first|rfl|(rw [ho1.len];done)|(rw [ho1.len];rfl))
   have ho2:=ho1.norm
   obtain ⟨h2,HS10,hs1,rdp1⟩:=row_pub HS9 (i:=1) rfl ho2
   have HS11:St [] h0 w0 h2 [(some b4, .cells #[vL (rowA (some b3)) ([(⟨1000,v2.1⟩:api_Segment)]:List api_Segment).length 1] 27 (0,0)),(some b2, .cells #[vI ((rd z_api_Def a0.vDefs a1).vKind),vS ((rd z_api_Def a0.vDefs a1).vName),vI ((rd z_api_Def a0.vDefs a1).vInt.vSize),vB ((rd z_api_Def a0.vDefs a1).vInt.vSigned),vI ((rd z_api_Def a0.vDefs a1).vRef),vI ((rd z_api_Def a0.vDefs a1).vN),vL Aad1_6 ((rd z_api_Def a0.vDefs a1).vFields).length cad1_6] 56 (0,0)),(some b1, .cells #[vL A0_0 a0.vDefs.length c0_0] 24 (0,0))] w8:=HS10
   replace hrv2_0_0:Rd (Kd.int .u8) h2 Av2_0_0 v2.1:=hrv2_0_0.ext hs1
   replace hel1:VCells h2 (Addr.add ad1 (a1.toNat*7)) [vI ((rd z_api_Def a0.vDefs a1).vKind),vS ((rd z_api_Def a0.vDefs a1).vName),vI ((rd z_api_Def a0.vDefs a1).vInt.vSize),vB ((rd z_api_Def a0.vDefs a1).vInt.vSigned),vI ((rd z_api_Def a0.vDefs a1).vRef),vI ((rd z_api_Def a0.vDefs a1).vN),vL Aad1_6 ((rd z_api_Def a0.vDefs a1).vFields).length cad1_6]:=hel1.sub hs1
   replace hrad1_6:Rd k_api_Field h2 Aad1_6 ((rd z_api_Def a0.vDefs a1).vFields):=hrad1_6.ext hs1
   obtain ⟨xx1,H,G1⟩:=of_bind H
   refine loop_j [6,12,13,14,15,16,17,18,19,20,21,22,23,24,25,26,27,62,63,64,65,66,67,68,69,70,71,72,73,74,75,76,77,78,79,80,81,82,83,84,85,86,87,88,89,90,91,92,93,94,95,96,97,98,99,100,101,102,103,104,105,106,107,108,109,110,111,112,113,114,115,116,117,118,119,120,121,122,123,124,125,126,127,128,129,130,131,132,133,134,135,136,137,138,139,140,141,142,143,144,145,146,147,148,149,150,151,152,153,154,155,156,157,158,159,160,161] (fun m us w'=>∃(y1_0:Int),Fit us (fun uy1=>[(uy1 0),vI y1_0,(uy1 2),(uy1 3),(uy1 4),(uy1 5),(uy1 6),(uy1 7),(uy1 8),(uy1 9),(uy1 10),(uy1 11),(uy1 12),(uy1 13),(uy1 14),(uy1 15),(uy1 16),(uy1 17),(uy1 18),(uy1 19),(uy1 20),(uy1 21),(uy1 22),(uy1 23),(uy1 24),(uy1 25),(uy1 26),(uy1 27),(uy1 28),(uy1 29),(uy1 30),(uy1 31),(uy1 32),(uy1 33),(uy1 34),(uy1 35),(uy1 36),(uy1 37),(uy1 38),(uy1 39),(uy1 40),(uy1 41),(uy1 42),(uy1 43),(uy1 44),(uy1 45),(uy1 46),(uy1 47),(uy1 48),(uy1 49),(uy1 50),(uy1 51),(uy1 52),(uy1 53),(uy1 54),(uy1 55),(uy1 56),(uy1 57),(uy1 58),(uy1 59),(uy1 60),(uy1 61),(uy1 62),(uy1 63),(uy1 64),(uy1 65),(uy1 66),(uy1 67),(uy1 68),(uy1 69),(uy1 70),(uy1 71),(uy1 72),(uy1 73),(uy1 74),(uy1 75),(uy1 76),(uy1 77),(uy1 78),(uy1 79),(uy1 80),(uy1 81),(uy1 82),(uy1 83),(uy1 84),(uy1 85),(uy1 86),(uy1 87),(uy1 88),(uy1 89),(uy1 90),(uy1 91),(uy1 92),(uy1 93),(uy1 94),(uy1 95),(uy1 96),(uy1 97),(uy1 98),(uy1 99),(uy1 100),(uy1 101),(uy1 102),(uy1 103),(uy1 104),(uy1 105),(uy1 106),(uy1 107),(uy1 108),(uy1 109),(uy1 110),(uy1 111),(uy1 112),(uy1 113),(uy1 114),(uy1 115),(uy1 116)])∧taplinelaw09_ImageBack.l0 k a0 a1 a2 v2 m y1_0=some xx1∧St [] h0 w0 h2 [(some b4, .cells #[vL (rowA (some b3)) ([(⟨1000,v2.1⟩:api_Segment)]:List api_Segment).length 1] 27 (0,0)),(some b2, .cells #[vI ((rd z_api_Def a0.vDefs a1).vKind),vS ((rd z_api_Def a0.vDefs a1).vName),vI ((rd z_api_Def a0.vDefs a1).vInt.vSize),vB ((rd z_api_Def a0.vDefs a1).vInt.vSigned),vI ((rd z_api_Def a0.vDefs a1).vRef),vI ((rd z_api_Def a0.vDefs a1).vN),vL Aad1_6 ((rd z_api_Def a0.vDefs a1).vFields).length cad1_6] 56 (0,0)),(some b1, .cells #[vL A0_0 a0.vDefs.length c0_0] 24 (0,0))] w') (fun us w'=>∃(s2:Unit),xx1= .inr s2∧Fit us (fun uo2=>[(uo2 0),(uo2 1),(uo2 2),(uo2 3),(uo2 4),(uo2 5),(uo2 6),(uo2 7),(uo2 8),(uo2 9),(uo2 10),(uo2 11),(uo2 12),(uo2 13),(uo2 14),(uo2 15),(uo2 16),(uo2 17),(uo2 18),(uo2 19),(uo2 20),(uo2 21),(uo2 22),(uo2 23),(uo2 24),(uo2 25),(uo2 26),(uo2 27),(uo2 28),(uo2 29),(uo2 30),(uo2 31),(uo2 32),(uo2 33),(uo2 34),(uo2 35),(uo2 36),(uo2 37),(uo2 38),(uo2 39),(uo2 40),(uo2 41),(uo2 42),(uo2 43),(uo2 44),(uo2 45),(uo2 46),(uo2 47),(uo2 48),(uo2 49),(uo2 50),(uo2 51),(uo2 52),(uo2 53),(uo2 54),(uo2 55),(uo2 56),(uo2 57),(uo2 58),(uo2 59),(uo2 60),(uo2 61),(uo2 62),(uo2 63),(uo2 64),(uo2 65),(uo2 66),(uo2 67),(uo2 68),(uo2 69),(uo2 70),(uo2 71),(uo2 72),(uo2 73),(uo2 74),(uo2 75),(uo2 76),(uo2 77),(uo2 78),(uo2 79),(uo2 80),(uo2 81),(uo2 82),(uo2 83),(uo2 84),(uo2 85),(uo2 86),(uo2 87),(uo2 88),(uo2 89),(uo2 90),(uo2 91),(uo2 92),(uo2 93),(uo2 94),(uo2 95),(uo2 96),(uo2 97),(uo2 98),(uo2 99),(uo2 100),(uo2 101),(uo2 102),(uo2 103),(uo2 104),(uo2 105),(uo2 106),(uo2 107),(uo2 108),(uo2 109),(uo2 110),(uo2 111),(uo2 112),(uo2 113),(uo2 114),(uo2 115),(uo2 116)])∧St [] h0 w0 h2 [(some b4, .cells #[vL (rowA (some b3)) ([(⟨1000,v2.1⟩:api_Segment)]:List api_Segment).length 1] 27 (0,0)),(some b2, .cells #[vI ((rd z_api_Def a0.vDefs a1).vKind),vS ((rd z_api_Def a0.vDefs a1).vName),vI ((rd z_api_Def a0.vDefs a1).vInt.vSize),vB ((rd z_api_Def a0.vDefs a1).vInt.vSigned),vI ((rd z_api_Def a0.vDefs a1).vRef),vI ((rd z_api_Def a0.vDefs a1).vN),vL Aad1_6 ((rd z_api_Def a0.vDefs a1).vFields).length cad1_6] 56 (0,0)),(some b1, .cells #[vL A0_0 a0.vDefs.length c0_0] 24 (0,0))] w') k ⟨0,(fit rfl),H,HS11⟩ ?_ ?_
   ·rintro m us w9 ⟨y1_0,huy1,H,HS12⟩
    obtain ⟨uy1,rfl⟩:=unj huy1
    cases m with
    |zero=>exact absurd H (by simp [taplinelaw09_ImageBack.l0])
    |succ m=>
     rw [taplinelaw09_ImageBack.l0] at H
     try simp only [patch,sc0,sc1]
     refine wp_seq<|wp_seq<|region<|rs (vI y1_0) (r_move rfl)<|rs (vL A2_0 a2.length c2_0) (r_move rfl)<|rs (vI (a2.length:Int)) (r_len rfl Tryz.runUnderlying41)<|rs (vB (decide (y1_0<(a2.length:Int)))) (r_bin rfl rfl rfl) ?_
     try simp only [sc0,sc1]
     refine run_nil<|norm_then<|wp_cond_split (t:=(decide (y1_0<(a2.length:Int)))) rfl (fun c3=>?_) (fun c3=>?_)
     ·replace H:=of_pos H c3
      refine wp_skip<|norm_then<|wp_seq<|wp_block<|wp_seq ?_
      obtain ⟨hi2,H⟩:=of_ite H
      obtain ⟨ad2,Aad2_0,cad2_0,e2,hel2,hcad2_0,hrad2_0⟩:=ld_api_Put (hr2_0.ext HS12.sub) hi2.1 hi2.2
      obtain ⟨v3,H3,H⟩:=of_bind H
      refine drawn [.eq (Value.agg #[vL A0_0 a0.vDefs.length c0_0]), .eq (vI a1), .eq (vL A2_0 a2.length c2_0), .eq (vI y1_0), .eq (Value.pointer (some (Addr.add ad2 (y1_0.toNat*2)))), .eq (Value.pointer (some (Addr.add (Addr.add ad2 (y1_0.toNat*2)) 0))), .eq (vL Aad2_0 ((rd z_api_Put a2 y1_0).vPath).length cad2_0), .eq (Value.tuple #[vI v3.1,vI v3.2.1,vI v3.2.2]), .eq (Value.tuple #[vI v3.1,vI v3.2.1,vI v3.2.2]), .eq (vI v3.1), .eq (vI v3.2.1), .eq (vI v3.2.2), .eq (vI v3.1), .eq (vI v3.2.1)] [69,70,71,72,73,74,75,76,68,77,78,79,13,14] hmix (by kernel_rfl) rfl (stable_eq (stable_eq (stable_eq (stable_eq (stable_eq (stable_eq (stable_eq (stable_eq (stable_eq (stable_eq (stable_eq (stable_eq (stable_eq (stable_eq stable_nil)))))))))))))) ⟨ob_plain rfl (fun a' w' hE hk=>by have HSd:=HS12.step hE;exact does_eq (r_loadBoxAgg (n:=1) (vs:=[vL A0_0 a0.vDefs.length c0_0]) (show _=vP b1 0 from hk 3 rfl) Tryz.isAgg24 (HSd.look 2 rfl) Tryz.sizeOf24 rfl rfl)),ob_plain rfl (fun a' w' hE hk=>by have HSd:=HS12.step hE;exact does_eq (r_move (show _=vI a1 from hk 1 rfl))),ob_plain rfl (fun a' w' hE hk=>by have HSd:=HS12.step hE;exact does_eq (r_move (show _=vL A2_0 a2.length c2_0 from hk 2 rfl))),ob_plain rfl (fun a' w' hE hk=>by have HSd:=HS12.step hE;exact does_eq (r_move (show _=vI y1_0 from hk 12 rfl))),ob_plain rfl (fun a' w' hE hk=>by have HSd:=HS12.step hE;exact does_eq (r_indexA (sz:=2) (show _=vL A2_0 a2.length c2_0 from hk 71 rfl) e2 (show _=vI y1_0 from hk 72 rfl) hi2.1 hi2.2 Tryz.runUnderlying41 Tryz.sizeOf62)),ob_plain rfl (fun a' w' hE hk=>by have HSd:=HS12.step hE;exact does_eq (r_fieldEl (n:=1) (o':=0) (show _=Value.pointer (some (Addr.add ad2 (y1_0.toNat*2))) from hk 73 rfl) Tryz.runUnderlying62 rfl Tryz.sizeOf30 (by decide) rfl)),ob_plain rfl (fun a' w' hE hk=>by have HSd:=HS12.step hE;exact does_eq (r_load (show _=Value.pointer (some (Addr.add (Addr.add ad2 (y1_0.toNat*2)) 0)) from hk 74 rfl) Tryz.isAgg30 (hel2.cell HSd.sees 0 rfl))),ob_plain rfl (fun a' w' hE hk=>by have HSd:=HS12.step hE;exact (does_call_eq Tryz.call19 rfl (map3 (show _=Value.agg #[vL A0_0 a0.vDefs.length c0_0] from hk 69 rfl) (show _=vI a1 from hk 70 rfl) (show _=vL Aad2_0 ((rd z_api_Put a2 y1_0).vPath).length cad2_0 from hk 75 rfl)) (ctf_Path.calls k a0 a1 ((rd z_api_Put a2 y1_0).vPath) A0_0 c0_0 Aad2_0 cad2_0 HSd.sees (hr0_0.ext HS12.sub) hc0_0 hrad2_0 hcad2_0 H3))),ob_plain rfl (fun a' w' hE hk=>by have HSd:=HS12.step hE;exact does_eq (r_move (show _=Value.tuple #[vI v3.1,vI v3.2.1,vI v3.2.2] from hk 76 rfl))),ob_plain rfl (fun a' w' hE hk=>by have HSd:=HS12.step hE;exact does_eq (r_extract (show _=Value.tuple #[vI v3.1,vI v3.2.1,vI v3.2.2] from hk 68 rfl) rfl)),ob_plain rfl (fun a' w' hE hk=>by have HSd:=HS12.step hE;exact does_eq (r_extract (show _=Value.tuple #[vI v3.1,vI v3.2.1,vI v3.2.2] from hk 68 rfl) rfl)),ob_plain rfl (fun a' w' hE hk=>by have HSd:=HS12.step hE;exact does_eq (r_extract (show _=Value.tuple #[vI v3.1,vI v3.2.1,vI v3.2.2] from hk 68 rfl) rfl)),ob_plain rfl (fun a' w' hE hk=>by have HSd:=HS12.step hE;exact does_eq (r_assign (show _=vI v3.1 from hk 77 rfl))),ob_plain rfl (fun a' w' hE hk=>by have HSd:=HS12.step hE;exact does_eq (r_assign (show _=vI v3.2.1 from hk 78 rfl))),trivial⟩ ?_
      intro w10 hE6
      simp only [List.zip_cons_cons,List.zip_nil_left,List.zip_nil_right,finL,sc0,sc1,List.length_cons,List.length_nil,List.drop_succ_cons,List.drop_zero,Nat.zero_add,Nat.reduceAdd]
      have HS13:=HS12.step hE6
      refine rs (vI v3.2.2) (r_assign rfl) ?_
      try simp only [sc0,sc1]
      refine run_nil<|norm_then<|wp_seq<|region<|rs (vL A2_0 a2.length c2_0) (r_move rfl)<|rs (vI y1_0) (r_move rfl) ?_
      obtain ⟨hi3,H⟩:=of_ite H
      obtain ⟨ad3,Aad3_0,cad3_0,e3,hel3,hcad3_0,hrad3_0⟩:=ld_api_Put (hr2_0.ext HS13.sub) hi3.1 hi3.2
      refine rs (Value.pointer (some (Addr.add ad3 (y1_0.toNat*2)))) (r_indexA (sz:=2) rfl e3 rfl hi3.1 hi3.2 Tryz.runUnderlying41 Tryz.sizeOf62)<|rs (Value.pointer (some (Addr.add (Addr.add ad3 (y1_0.toNat*2)) 1))) (r_fieldEl (n:=1) (o':=1) rfl Tryz.runUnderlying62 rfl Tryz.sizeOf2 (by decide) rfl)<|run_frame (by simp only [sc0,sc1];rfl) ?_
      refine rs (vI ((rd z_api_Put a2 y1_0).vV)) (r_load rfl Tryz.isAgg2 (hel3.cell HS13.sees 1 rfl))<|rs (vI ((rd z_api_Put a2 y1_0).vV)) (r_assign rfl) ?_
      try simp only [sc0,sc1]
      refine run_nil<|norm_then<|wp_seq<|wp_seq<|region<|rs (vI y1_0) (r_move rfl)<|rs (vI (w64 (y1_0+1))) (r_bin rfl rfl rfl)<|rs (vI (w64 (y1_0+1))) (r_assign rfl) ?_
      try simp only [sc0,sc1]
      refine run_nil<|norm_then ?_
      obtain ⟨xx2,H,G2⟩:=of_bind H
      refine loop_j [6,16,17,18,19,20,87,88,89,90,91,92,93,94,95,96,97,98,99,100,101,102,103,104,105,106,107,108,109,110,111,112,113,114] (fun m us w'=>∃y2_0 y2_1:Int,Fit us (fun uy2=>[(uy2 0),vI y2_0,vI y2_1,(uy2 3),(uy2 4),(uy2 5),(uy2 6),(uy2 7),(uy2 8),(uy2 9),(uy2 10),(uy2 11),(uy2 12),(uy2 13),(uy2 14),(uy2 15),(uy2 16),(uy2 17),(uy2 18),(uy2 19),(uy2 20),(uy2 21),(uy2 22),(uy2 23),(uy2 24),(uy2 25),(uy2 26),(uy2 27),(uy2 28),(uy2 29),(uy2 30),(uy2 31),(uy2 32),(uy2 33)])∧taplinelaw09_ImageBack.l1 k a0 a1 a2 v3 m y2_0 y2_1=some xx2∧St [] h0 w0 h2 [(some b4, .cells #[vL (rowA (some b3)) ([(⟨1000,v2.1⟩:api_Segment)]:List api_Segment).length 1] 27 (0,0)),(some b2, .cells #[vI ((rd z_api_Def a0.vDefs a1).vKind),vS ((rd z_api_Def a0.vDefs a1).vName),vI ((rd z_api_Def a0.vDefs a1).vInt.vSize),vB ((rd z_api_Def a0.vDefs a1).vInt.vSigned),vI ((rd z_api_Def a0.vDefs a1).vRef),vI ((rd z_api_Def a0.vDefs a1).vN),vL Aad1_6 ((rd z_api_Def a0.vDefs a1).vFields).length cad1_6] 56 (0,0)),(some b1, .cells #[vL A0_0 a0.vDefs.length c0_0] 24 (0,0))] w') (fun us w'=>∃(s1:Int),xx2= .inr s1∧Fit us (fun uo1=>[(uo1 0),vI s1,(uo1 2),(uo1 3),(uo1 4),(uo1 5),(uo1 6),(uo1 7),(uo1 8),(uo1 9),(uo1 10),(uo1 11),(uo1 12),(uo1 13),(uo1 14),(uo1 15),(uo1 16),(uo1 17),(uo1 18),(uo1 19),(uo1 20),(uo1 21),(uo1 22),(uo1 23),(uo1 24),(uo1 25),(uo1 26),(uo1 27),(uo1 28),(uo1 29),(uo1 30),(uo1 31),(uo1 32),(uo1 33)])∧St [] h0 w0 h2 [(some b4, .cells #[vL (rowA (some b3)) ([(⟨1000,v2.1⟩:api_Segment)]:List api_Segment).length 1] 27 (0,0)),(some b2, .cells #[vI ((rd z_api_Def a0.vDefs a1).vKind),vS ((rd z_api_Def a0.vDefs a1).vName),vI ((rd z_api_Def a0.vDefs a1).vInt.vSize),vB ((rd z_api_Def a0.vDefs a1).vInt.vSigned),vI ((rd z_api_Def a0.vDefs a1).vRef),vI ((rd z_api_Def a0.vDefs a1).vN),vL Aad1_6 ((rd z_api_Def a0.vDefs a1).vFields).length cad1_6] 56 (0,0)),(some b1, .cells #[vL A0_0 a0.vDefs.length c0_0] 24 (0,0))] w') k ⟨(rd z_api_Put a2 y1_0).vV,(w64 (y1_0+1)),(fit rfl),H,HS13⟩ ?_ ?_
      ·rintro m us w11 ⟨y2_0,y2_1,huy2,H,HS14⟩
       obtain ⟨uy2,rfl⟩:=unj huy2
       cases m with
       |zero=>exact absurd H (by simp [taplinelaw09_ImageBack.l1])
       |succ m=>
        rw [taplinelaw09_ImageBack.l1] at H
        try simp only [patch,sc0,sc1]
        refine wp_seq<|wp_seq<|region<|rs (vI y2_1) (r_move rfl)<|rs (vL A2_0 a2.length c2_0) (r_move rfl)<|rs (vI (a2.length:Int)) (r_len rfl Tryz.runUnderlying41)<|rs (vB (decide (y2_1<(a2.length:Int)))) (r_bin rfl rfl rfl) ?_
        try simp only [sc0,sc1]
        refine run_nil<|norm_then<|wp_cond_split (t:=(decide (y2_1<(a2.length:Int)))) rfl (fun c4=>?_) (fun c4=>?_)
        ·replace H:=of_pos H c4
         refine wp_skip<|norm_then<|wp_seq<|wp_block<|wp_seq ?_
         obtain ⟨hi4,H⟩:=of_ite H
         obtain ⟨ad4,Aad4_0,cad4_0,e4,hel4,hcad4_0,hrad4_0⟩:=ld_api_Put (hr2_0.ext HS14.sub) hi4.1 hi4.2
         obtain ⟨v4,H4,H⟩:=of_bind H
         refine drawn [.eq (Value.agg #[vL A0_0 a0.vDefs.length c0_0]), .eq (vI a1), .eq (vL A2_0 a2.length c2_0), .eq (vI y2_1), .eq (Value.pointer (some (Addr.add ad4 (y2_1.toNat*2)))), .eq (Value.pointer (some (Addr.add (Addr.add ad4 (y2_1.toNat*2)) 0))), .eq (vL Aad4_0 ((rd z_api_Put a2 y2_1).vPath).length cad4_0), .eq (Value.tuple #[vI v4.1,vI v4.2.1,vI v4.2.2]), .eq (Value.tuple #[vI v4.1,vI v4.2.1,vI v4.2.2]), .eq (vI v4.1), .eq (vI v4.2.1), .eq (vI v4.2.2), .eq (vI v4.1), .eq (vI v4.2.1)] [94,95,96,97,98,99,100,101,93,102,103,104,18,19] hmix (by kernel_rfl) rfl (stable_eq (stable_eq (stable_eq (stable_eq (stable_eq (stable_eq (stable_eq (stable_eq (stable_eq (stable_eq (stable_eq (stable_eq (stable_eq (stable_eq stable_nil)))))))))))))) ⟨ob_plain rfl (fun a' w' hE hk=>by have HSd:=HS14.step hE;exact does_eq (r_loadBoxAgg (n:=1) (vs:=[vL A0_0 a0.vDefs.length c0_0]) (show _=vP b1 0 from hk 3 rfl) Tryz.isAgg24 (HSd.look 2 rfl) Tryz.sizeOf24 rfl rfl)),ob_plain rfl (fun a' w' hE hk=>by have HSd:=HS14.step hE;exact does_eq (r_move (show _=vI a1 from hk 1 rfl))),ob_plain rfl (fun a' w' hE hk=>by have HSd:=HS14.step hE;exact does_eq (r_move (show _=vL A2_0 a2.length c2_0 from hk 2 rfl))),ob_plain rfl (fun a' w' hE hk=>by have HSd:=HS14.step hE;exact does_eq (r_move (show _=vI y2_1 from hk 17 rfl))),ob_plain rfl (fun a' w' hE hk=>by have HSd:=HS14.step hE;exact does_eq (r_indexA (sz:=2) (show _=vL A2_0 a2.length c2_0 from hk 96 rfl) e4 (show _=vI y2_1 from hk 97 rfl) hi4.1 hi4.2 Tryz.runUnderlying41 Tryz.sizeOf62)),ob_plain rfl (fun a' w' hE hk=>by have HSd:=HS14.step hE;exact does_eq (r_fieldEl (n:=1) (o':=0) (show _=Value.pointer (some (Addr.add ad4 (y2_1.toNat*2))) from hk 98 rfl) Tryz.runUnderlying62 rfl Tryz.sizeOf30 (by decide) rfl)),ob_plain rfl (fun a' w' hE hk=>by have HSd:=HS14.step hE;exact does_eq (r_load (show _=Value.pointer (some (Addr.add (Addr.add ad4 (y2_1.toNat*2)) 0)) from hk 99 rfl) Tryz.isAgg30 (hel4.cell HSd.sees 0 rfl))),ob_plain rfl (fun a' w' hE hk=>by have HSd:=HS14.step hE;exact (does_call_eq Tryz.call19 rfl (map3 (show _=Value.agg #[vL A0_0 a0.vDefs.length c0_0] from hk 94 rfl) (show _=vI a1 from hk 95 rfl) (show _=vL Aad4_0 ((rd z_api_Put a2 y2_1).vPath).length cad4_0 from hk 100 rfl)) (ctf_Path.calls k a0 a1 ((rd z_api_Put a2 y2_1).vPath) A0_0 c0_0 Aad4_0 cad4_0 HSd.sees (hr0_0.ext HS14.sub) hc0_0 hrad4_0 hcad4_0 H4))),ob_plain rfl (fun a' w' hE hk=>by have HSd:=HS14.step hE;exact does_eq (r_move (show _=Value.tuple #[vI v4.1,vI v4.2.1,vI v4.2.2] from hk 101 rfl))),ob_plain rfl (fun a' w' hE hk=>by have HSd:=HS14.step hE;exact does_eq (r_extract (show _=Value.tuple #[vI v4.1,vI v4.2.1,vI v4.2.2] from hk 93 rfl) rfl)),ob_plain rfl (fun a' w' hE hk=>by have HSd:=HS14.step hE;exact does_eq (r_extract (show _=Value.tuple #[vI v4.1,vI v4.2.1,vI v4.2.2] from hk 93 rfl) rfl)),ob_plain rfl (fun a' w' hE hk=>by have HSd:=HS14.step hE;exact does_eq (r_extract (show _=Value.tuple #[vI v4.1,vI v4.2.1,vI v4.2.2] from hk 93 rfl) rfl)),ob_plain rfl (fun a' w' hE hk=>by have HSd:=HS14.step hE;exact does_eq (r_assign (show _=vI v4.1 from hk 102 rfl))),ob_plain rfl (fun a' w' hE hk=>by have HSd:=HS14.step hE;exact does_eq (r_assign (show _=vI v4.2.1 from hk 103 rfl))),trivial⟩ ?_
         intro w12 hE7
         simp only [List.zip_cons_cons,List.zip_nil_left,List.zip_nil_right,finL,sc0,sc1,List.length_cons,List.length_nil,List.drop_succ_cons,List.drop_zero,Nat.zero_add,Nat.reduceAdd]
         have HS15:=HS14.step hE7
         refine rs (vI v4.2.2) (r_assign rfl) ?_
         try simp only [sc0,sc1]
         refine run_nil<|norm_then<|wp_seq<|wp_seq<|region<|rs (vI v4.2.2) (r_move rfl)<|rs (vB (v4.2.2 !=0)) (r_bin rfl rfl rfl) ?_
         try simp only [sc0,sc1]
         refine run_nil<|norm_then<|wp_cond_split (t:=(v4.2.2 !=0)) rfl (fun c5=>?_) (fun c5=>?_)
         ·replace H:=of_pos H c5
          refine wp_seq<|region<|rs (vB false) (r_assign rfl) ?_
          try simp only [sc0,sc1]
          refine run_nil<|norm_then<|wp_ret<|ret_then<|ret_block<|ret_then<|ret_loop<|ret_then<|ret_block<|ret_then<|ret_loop ?_
          refine ret_then ?_
          obtain rfl:=Option.some.inj H
          obtain rfl:=Option.some.inj G2
          obtain rfl:=Option.some.inj G1
          exact bodyPost_ret (results_1 rfl (one_tmp rfl)) rfl<|⟨rfl,HS15.toE⟩
         ·replace H:=of_neg H (nt c5)
          refine wp_skip<|norm_then<|wp_seq<|region<|rs (vI v4.2.1) (r_move rfl)<|rs (vI v3.2.1) (r_move rfl)<|rs (vB (v4.2.1==v3.2.1)) (r_bin rfl rfl rfl) ?_
          try simp only [sc0,sc1]
          refine run_nil<|norm_then<|wp_cond_split (t:=(v4.2.1==v3.2.1)) rfl (fun c6=>?_) (fun c6=>?_)
          ·replace H:=of_pos H c6
           refine region<|rs (vL A2_0 a2.length c2_0) (r_move rfl)<|rs (vI y2_1) (r_move rfl) ?_
           obtain ⟨hi5,H⟩:=of_ite H
           obtain ⟨ad5,Aad5_0,cad5_0,e5,hel5,hcad5_0,hrad5_0⟩:=ld_api_Put (hr2_0.ext HS15.sub) hi5.1 hi5.2
           refine rs (Value.pointer (some (Addr.add ad5 (y2_1.toNat*2)))) (r_indexA (sz:=2) rfl e5 rfl hi5.1 hi5.2 Tryz.runUnderlying41 Tryz.sizeOf62)<|rs (Value.pointer (some (Addr.add (Addr.add ad5 (y2_1.toNat*2)) 1))) (r_fieldEl (n:=1) (o':=1) rfl Tryz.runUnderlying62 rfl Tryz.sizeOf2 (by decide) rfl)<|run_frame (by simp only [sc0,sc1];rfl) ?_
           refine rs (vI ((rd z_api_Put a2 y2_1).vV)) (r_load rfl Tryz.isAgg2 (hel5.cell HS15.sees 1 rfl))<|rs (vI ((rd z_api_Put a2 y2_1).vV)) (r_assign rfl) ?_
           try simp only [sc0,sc1]
           refine run_nil<|norm_block<|norm_then<|region<|rs (vI y2_1) (r_move rfl)<|rs (vI (w64 (y2_1+1))) (r_bin rfl rfl rfl)<|rs (vI (w64 (y2_1+1))) (r_assign rfl) ?_
           try simp only [sc0,sc1]
           refine run_nil<|again_j m (Nat.lt_succ_self m) rfl ⟨(rd z_api_Put a2 y2_1).vV,(w64 (y2_1+1)),(fit rfl),H,HS15⟩
          ·replace H:=of_neg H (nt c6)
           refine wp_skip<|norm_block<|norm_then<|region<|rs (vI y2_1) (r_move rfl)<|rs (vI (w64 (y2_1+1))) (r_bin rfl rfl rfl)<|rs (vI (w64 (y2_1+1))) (r_assign rfl) ?_
           try simp only [sc0,sc1]
           refine run_nil<|again_j m (Nat.lt_succ_self m) rfl ⟨y2_0,(w64 (y2_1+1)),(fit rfl),H,HS15⟩
        ·replace H:=of_neg H (nt c4)
         refine wp_exit<|exit_then ?_
         obtain rfl:=Option.some.inj H
         refine leave_j rfl ⟨_,rfl,(fit rfl),HS14⟩
      ·rintro us w13 ⟨s1,rfl,huo1,HS16⟩
       obtain ⟨uo1,rfl⟩:=unj huo1
       replace H:=G2
       clear G2
       try simp only [patch,sc0,sc1]
       refine norm_then<|wp_seq ?_
       obtain ⟨hi6,H⟩:=of_ite H
       obtain ⟨ad6,Aad6_0,cad6_0,e6,hel6,hcad6_0,hrad6_0⟩:=ld_api_Put (hr2_0.ext HS16.sub) hi6.1 hi6.2
       obtain ⟨v5,H5,H⟩:=of_bind H
       refine drawn [.eq (Value.agg #[vL A0_0 a0.vDefs.length c0_0]), .eq (Value.agg #[vL (rowA (some b3)) ([(⟨1000,v2.1⟩:api_Segment)]:List api_Segment).length 1]), .eq (vP b2 1), .eq (vS ((rd z_api_Def a0.vDefs a1).vName)), .eq (vL A2_0 a2.length c2_0), .eq (vI y1_0), .eq (Value.pointer (some (Addr.add ad6 (y1_0.toNat*2)))), .eq (Value.pointer (some (Addr.add (Addr.add ad6 (y1_0.toNat*2)) 0))), .eq (vL Aad6_0 ((rd z_api_Put a2 y1_0).vPath).length cad6_0), .eq (Value.tuple #[vI v5.1,vB v5.2.1,vI v5.2.2]), .eq (Value.tuple #[vI v5.1,vB v5.2.1,vI v5.2.2]), .eq (vI v5.1), .eq (vB v5.2.1), .eq (vI v5.2.2), .eq (vI v5.1), .eq (vB v5.2.1)] [116,117,118,119,120,121,122,123,124,125,115,126,127,128,21,22] hmix (by kernel_rfl) rfl (stable_eq (stable_eq (stable_eq (stable_eq (stable_eq (stable_eq (stable_eq (stable_eq (stable_eq (stable_eq (stable_eq (stable_eq (stable_eq (stable_eq (stable_eq (stable_eq stable_nil)))))))))))))))) ⟨ob_plain rfl (fun a' w' hE hk=>by have HSd:=HS16.step hE;exact does_eq (r_loadBoxAgg (n:=1) (vs:=[vL A0_0 a0.vDefs.length c0_0]) (show _=vP b1 0 from hk 3 rfl) Tryz.isAgg24 (HSd.look 2 rfl) Tryz.sizeOf24 rfl rfl)),ob_plain rfl (fun a' w' hE hk=>by have HSd:=HS16.step hE;exact does_eq (r_loadBoxAgg (n:=1) (vs:=[vL (rowA (some b3)) ([(⟨1000,v2.1⟩:api_Segment)]:List api_Segment).length 1]) (show _=vP b4 0 from hk 11 rfl) Tryz.isAgg27 (HSd.look 0 rfl) Tryz.sizeOf27 rfl rfl)),ob_plain rfl (fun a' w' hE hk=>by have HSd:=HS16.step hE;exact does_eq (r_fieldBox (n:=1) (o':=1) (show _=vP b2 0 from hk 10 rfl) Tryz.runUnderlying56 rfl Tryz.sizeOf9 (by decide) rfl)),ob_plain rfl (fun a' w' hE hk=>by have HSd:=HS16.step hE;exact does_eq (r_loadBox (show _=vP b2 1 from hk 118 rfl) Tryz.isAgg9 (HSd.look 1 rfl) rfl)),ob_plain rfl (fun a' w' hE hk=>by have HSd:=HS16.step hE;exact does_eq (r_move (show _=vL A2_0 a2.length c2_0 from hk 2 rfl))),ob_plain rfl (fun a' w' hE hk=>by have HSd:=HS16.step hE;exact does_eq (r_move (show _=vI y1_0 from hk 12 rfl))),ob_plain rfl (fun a' w' hE hk=>by have HSd:=HS16.step hE;exact does_eq (r_indexA (sz:=2) (show _=vL A2_0 a2.length c2_0 from hk 120 rfl) e6 (show _=vI y1_0 from hk 121 rfl) hi6.1 hi6.2 Tryz.runUnderlying41 Tryz.sizeOf62)),ob_plain rfl (fun a' w' hE hk=>by have HSd:=HS16.step hE;exact does_eq (r_fieldEl (n:=1) (o':=0) (show _=Value.pointer (some (Addr.add ad6 (y1_0.toNat*2))) from hk 122 rfl) Tryz.runUnderlying62 rfl Tryz.sizeOf30 (by decide) rfl)),ob_plain rfl (fun a' w' hE hk=>by have HSd:=HS16.step hE;exact does_eq (r_load (show _=Value.pointer (some (Addr.add (Addr.add ad6 (y1_0.toNat*2)) 0)) from hk 123 rfl) Tryz.isAgg30 (hel6.cell HSd.sees 0 rfl))),ob_plain rfl (fun a' w' hE hk=>by have HSd:=HS16.step hE;exact (does_call_eq Tryz.call11 rfl (map5 (show _=Value.agg #[vL A0_0 a0.vDefs.length c0_0] from hk 116 rfl) (show _=Value.agg #[vL (rowA (some b3)) ([(⟨1000,v2.1⟩:api_Segment)]:List api_Segment).length 1] from hk 117 rfl) (show _=vS ((rd z_api_Def a0.vDefs a1).vName) from hk 119 rfl) rfl (show _=vL Aad6_0 ((rd z_api_Put a2 y1_0).vPath).length cad6_0 from hk 124 rfl)) (image_Member.calls k a0 (⟨([(⟨1000,v2.1⟩:api_Segment)]:List api_Segment)⟩:api_Image) ((rd z_api_Def a0.vDefs a1).vName) 1000 ((rd z_api_Put a2 y1_0).vPath) A0_0 c0_0 (rowA (some b3)) 1 Aad6_0 cad6_0 HSd.sees (hr0_0.ext HS16.sub) hc0_0 rdp1 ho2.cap hrad6_0 hcad6_0 H5))),ob_plain rfl (fun a' w' hE hk=>by have HSd:=HS16.step hE;exact does_eq (r_move (show _=Value.tuple #[vI v5.1,vB v5.2.1,vI v5.2.2] from hk 125 rfl))),ob_plain rfl (fun a' w' hE hk=>by have HSd:=HS16.step hE;exact does_eq (r_extract (show _=Value.tuple #[vI v5.1,vB v5.2.1,vI v5.2.2] from hk 115 rfl) rfl)),ob_plain rfl (fun a' w' hE hk=>by have HSd:=HS16.step hE;exact does_eq (r_extract (show _=Value.tuple #[vI v5.1,vB v5.2.1,vI v5.2.2] from hk 115 rfl) rfl)),ob_plain rfl (fun a' w' hE hk=>by have HSd:=HS16.step hE;exact does_eq (r_extract (show _=Value.tuple #[vI v5.1,vB v5.2.1,vI v5.2.2] from hk 115 rfl) rfl)),ob_plain rfl (fun a' w' hE hk=>by have HSd:=HS16.step hE;exact does_eq (r_assign (show _=vI v5.1 from hk 126 rfl))),ob_plain rfl (fun a' w' hE hk=>by have HSd:=HS16.step hE;exact does_eq (r_assign (show _=vB v5.2.1 from hk 127 rfl))),trivial⟩ ?_
       intro w14 hE8
       simp only [List.zip_cons_cons,List.zip_nil_left,List.zip_nil_right,finL,sc0,sc1,List.length_cons,List.length_nil,List.drop_succ_cons,List.drop_zero,Nat.zero_add,Nat.reduceAdd]
       have HS17:=HS16.step hE8
       refine rs (vI v5.2.2) (r_assign rfl) ?_
       try simp only [sc0,sc1]
       refine run_nil<|norm_then<|wp_seq<|wp_seq<|region<|rs (vI v3.2.2) (r_move rfl)<|rs (vB (v3.2.2 !=0)) (r_bin rfl rfl rfl)<|rs (vB (v3.2.2 !=0)) (r_move rfl)<|rgs (v3.2.2 !=0) true (vI v5.2.2) rfl rfl rfl rfl (fun hg=>(r_move rfl))<|run_frame (by simp only [sc0,sc1];rfl) ?_
       refine rgs (v3.2.2 !=0) true (vB (v5.2.2 !=0)) rfl rfl rfl rfl (fun hg=>(r_bin (gvt (vI v5.2.2) hg rfl) rfl rfl))<|rs (vB ((v3.2.2 !=0)||(v5.2.2 !=0))) (r_pick_or rfl rfl (fun hp=>(gvt (vB (v5.2.2 !=0)) (and_i rfl hp) rfl)))<|rs (vB ((v3.2.2 !=0)||(v5.2.2 !=0))) (r_move rfl)<|rgs ((v3.2.2 !=0)||(v5.2.2 !=0)) true (vB v5.2.1) rfl rfl rfl rfl (fun hg=>(r_move rfl))<|run_frame (by simp only [sc0,sc1];rfl) ?_
       refine rgs ((v3.2.2 !=0)||(v5.2.2 !=0)) true (vB (!v5.2.1)) rfl rfl rfl rfl (fun hg=>(r_not (gvt (vB v5.2.1) hg rfl)))<|rs (vB (((v3.2.2 !=0)||(v5.2.2 !=0))||(!v5.2.1))) (r_pick_or rfl rfl (fun hp=>(gvt (vB (!v5.2.1)) (and_i rfl hp) rfl))) ?_
       try simp only [sc0,sc1]
       refine run_nil<|norm_then<|wp_cond_split (t:=(((v3.2.2 !=0)||(v5.2.2 !=0))||(!v5.2.1))) rfl (fun c7=>?_) (fun c7=>?_)
       ·replace H:=of_pos H c7
        refine wp_seq<|region<|rs (vB false) (r_assign rfl) ?_
        try simp only [sc0,sc1]
        refine run_nil<|norm_then<|wp_ret<|ret_then<|ret_block<|ret_then<|ret_loop<|ret_then ?_
        obtain rfl:=Option.some.inj H
        obtain rfl:=Option.some.inj G1
        exact bodyPost_ret (results_1 rfl (one_tmp rfl)) rfl<|⟨rfl,HS17.toE⟩
       ·replace H:=of_neg H (nt c7)
        refine wp_skip<|norm_then<|wp_seq<|region<|rs (Value.agg #[vL A0_0 a0.vDefs.length c0_0]) (r_loadBoxAgg (n:=1) (vs:=[vL A0_0 a0.vDefs.length c0_0]) rfl Tryz.isAgg24 (HS17.look 2 rfl) Tryz.sizeOf24 rfl rfl)<|rs (vI v3.1) (r_move rfl) ?_
        obtain ⟨v6,H6,H⟩:=of_bind H
        refine run_eq (v:=Value.tuple #[Value.agg #[vI v6.1.vSize,vB v6.1.vSigned],vB v6.2]) rfl rfl (does_call_eq Tryz.call20 rfl rfl (taplineref09_Scalar.calls k a0 v3.1 A0_0 c0_0 HS17.sees (hr0_0.ext HS17.sub) hc0_0 H6)) ?_
        intro w15 hE9
        have HS18:=HS17.step hE9
        refine rs (Value.tuple #[Value.agg #[vI v6.1.vSize,vB v6.1.vSigned],vB v6.2]) (r_move rfl)<|run_frame (by simp only [sc0,sc1];rfl) ?_
        refine rs (Value.agg #[vI v6.1.vSize,vB v6.1.vSigned]) (r_extract rfl rfl)<|rs (vB v6.2) (r_extract rfl rfl)<|run_ex rfl rfl (does_alloc (cs:=#[vI 0,vB false]) Tryz.zeroValue29 rfl) ?_
        rintro w16 _ hE10 ⟨b5,rfl,ge4,hb4⟩
        have HS19:=HS18.new hE10 ge4 hb4
        refine run_st (i:=0) (cs:=[vI 0,vB false]) (cs':=[vI v6.1.vSize,vB v6.1.vSigned]) (vs:=[vI v6.1.vSize,vB v6.1.vSigned]) (bs':=[(some b5, .cells #[vI v6.1.vSize,vB v6.1.vSigned] 29 (0,0)),(some b4, .cells #[vL (rowA (some b3)) ([(⟨1000,v2.1⟩:api_Segment)]:List api_Segment).length 1] 27 (0,0)),(some b2, .cells #[vI ((rd z_api_Def a0.vDefs a1).vKind),vS ((rd z_api_Def a0.vDefs a1).vName),vI ((rd z_api_Def a0.vDefs a1).vInt.vSize),vB ((rd z_api_Def a0.vDefs a1).vInt.vSigned),vI ((rd z_api_Def a0.vDefs a1).vRef),vI ((rd z_api_Def a0.vDefs a1).vN),vL Aad1_6 ((rd z_api_Def a0.vDefs a1).vFields).length cad1_6] 56 (0,0)),(some b1, .cells #[vL A0_0 a0.vDefs.length c0_0] 24 (0,0))]) rfl rfl Tryz.sizeOf29 rfl rfl (by decide) rfl HS19 rfl (Nat.le_of_ble_eq_true rfl) rfl rfl ?_
        intro w17 HS20
        refine run_frame (by simp only [sc0,sc1];rfl) ?_
        refine rs (vB v6.2) (r_assign rfl) ?_
        try simp only [sc0,sc1]
        refine run_nil<|norm_then<|wp_seq<|region<|rs (Value.agg #[vI v6.1.vSize,vB v6.1.vSigned]) (r_loadBoxAgg (n:=2) (vs:=[vI v6.1.vSize,vB v6.1.vSigned]) rfl Tryz.isAgg29 (HS20.look 0 rfl) Tryz.sizeOf29 rfl rfl)<|rs (vI s1) (r_move rfl) ?_
        obtain ⟨v7,H7,H⟩:=of_bind H
        refine run_eq (v:=Value.tuple #[vI v7.1,vI v7.2]) rfl rfl (does_call_eq Tryz.call21 rfl rfl (bits_Wrap.calls v6.1 s1 HS20.sees H7)) ?_
        intro w18 hE11
        have HS21:=HS20.step hE11
        refine rs (Value.tuple #[vI v7.1,vI v7.2]) (r_move rfl)<|run_frame (by simp only [sc0,sc1];rfl) ?_
        refine rs (vI v7.1) (r_extract rfl rfl)<|rs (vI v7.2) (r_extract rfl rfl)<|rs (vI v7.1) (r_assign rfl)<|rs (vI v7.2) (r_assign rfl) ?_
        try simp only [sc0,sc1]
        refine run_nil<|norm_then<|wp_seq<|region<|rs (vB v6.2) (r_move rfl)<|rs (vB (!v6.2)) (r_not rfl)<|rs (vB (!v6.2)) (r_move rfl)<|rgs (!v6.2) true (vI v7.2) rfl rfl rfl rfl (fun hg=>(r_move rfl))<|run_frame (by simp only [sc0,sc1];rfl) ?_
        refine rgs (!v6.2) true (vB (v7.2 !=0)) rfl rfl rfl rfl (fun hg=>(r_bin (gvt (vI v7.2) hg rfl) rfl rfl))<|rs (vB ((!v6.2)||(v7.2 !=0))) (r_pick_or rfl rfl (fun hp=>(gvt (vB (v7.2 !=0)) (and_i rfl hp) rfl)))<|rs (vB ((!v6.2)||(v7.2 !=0))) (r_move rfl)<|rgs ((!v6.2)||(v7.2 !=0)) true (vI v5.1) rfl rfl rfl rfl (fun hg=>(r_move rfl))<|run_frame (by simp only [sc0,sc1];rfl) ?_
        refine rgs ((!v6.2)||(v7.2 !=0)) true (vI v7.1) rfl rfl rfl rfl (fun hg=>(r_move rfl))<|rgs ((!v6.2)||(v7.2 !=0)) true (vB (v5.1 !=v7.1)) rfl rfl rfl rfl (fun hg=>(r_bin (gvt (vI v5.1) hg rfl) (gvt (vI v7.1) hg rfl) rfl))<|rs (vB (((!v6.2)||(v7.2 !=0))||(v5.1 !=v7.1))) (r_pick_or rfl rfl (fun hp=>(gvt (vB (v5.1 !=v7.1)) (and_i rfl hp) rfl))) ?_
        try simp only [sc0,sc1]
        refine run_nil<|norm_then<|wp_cond_split (t:=(((!v6.2)||(v7.2 !=0))||(v5.1 !=v7.1))) rfl (fun c8=>?_) (fun c8=>?_)
        ·replace H:=of_pos H c8
         refine wp_seq<|region<|rs (vB false) (r_assign rfl) ?_
         try simp only [sc0,sc1]
         refine run_nil<|norm_then<|wp_ret<|ret_block<|ret_then<|ret_loop<|ret_then ?_
         obtain rfl:=Option.some.inj H
         obtain rfl:=Option.some.inj G1
         exact bodyPost_ret (results_1 rfl (one_tmp rfl)) rfl<|⟨rfl,HS21.toE⟩
        ·replace H:=of_neg H (nt c8)
         refine wp_skip<|norm_block<|norm_then<|region<|rs (vI y1_0) (r_move rfl)<|rs (vI (w64 (y1_0+1))) (r_bin rfl rfl rfl)<|rs (vI (w64 (y1_0+1))) (r_assign rfl) ?_
         try simp only [sc0,sc1]
         refine run_nil<|again_j m (Nat.lt_succ_self m) rfl ⟨(w64 (y1_0+1)),(fit rfl),H,HS21.tail⟩
     ·replace H:=of_neg H (nt c3)
      refine wp_exit<|exit_then ?_
      obtain rfl:=Option.some.inj H
      refine leave_j rfl ⟨_,rfl,(fit rfl),HS12⟩
   ·rintro us w19 ⟨s2,rfl,huo2,HS22⟩
    obtain ⟨uo2,rfl⟩:=unj huo2
    replace H:=G1
    clear G1
    try simp only [patch,sc0,sc1]
    refine norm_then<|wp_seq<|region<|rs (vB v1) (r_move rfl)<|rs (vB v1) (r_assign rfl) ?_
    try simp only [sc0,sc1]
    refine run_nil<|norm_then<|wp_ret ?_
    obtain rfl:=Option.some.inj H
    exact bodyPost_ret (results_1 rfl (one_tmp rfl)) rfl<|⟨rfl,HS22.toE⟩
section
variable {t:api_Types} {l:List Int}
theorem Scalar_val (hF:∀d∈t.vDefs,FitD d) (W:Wf t l) {mem:Nat→ByteArray→api_Field×Int} (hm:MemOk t mem) {i:Nat} (hi:i<t.vDefs.length) {s:api_Int×Bool} (hs:Ev (fun k=>image_scalar.f k t (i:Int)) s) (h:s.2=true):∀n,(mem i n).2≠0:=by
 obtain ⟨r,hr,he,h6,hlr⟩:=resolved_ev W.good i hi
 intro n
 rw [(hm.ev i n hi).uniq (member_ev W.good hr he)]
 rcases valid_iff hF with ⟨l2,W2,hv⟩|⟨hno,_⟩
 ·obtain ⟨K,hK⟩:=Resolve_ev hv hi he
  have key : Ev (fun k => image_scalar.f k t (i : Int)) (scal (t.vDefs.getD r z_api_Def)) := ⟨K, fun k hk => by
   show image_scalar.f k t (i:Int)=_
   unfold image_scalar.f
   rw [show ctf_Resolve.f k t (i:Int)=_ from hK k hk]
   simp only [Option.bind_some]
   rw [if_neg (by decide),if_pos (by omega),rd_nat]
   unfold scal
   simp only [beq_iff_eq]
   repeat' split
   all_goals rfl⟩
  rw [hs.uniq key] at h
  unfold memS
  by_cases h4:(t.vDefs.getD r z_api_Def).vKind=4
  ·unfold scal at h
   rw [if_neg (by omega),if_neg (by omega),if_neg (by omega)] at h
   cases h
  ·rw [if_pos h4];simp
 ·exact absurd W (hno l)
section puts
variable (l:List Int) (mem:Nat→ByteArray→api_Field×Int) (i:Nat)
def pv (p:api_Put):Int×Int×Int:=pathV mem p.vPath i 0
def offP (p:api_Put):Nat:=(pv mem i p).2.1.toNat
def typP (p:api_Put):Nat:=(pv mem i p).1.toNat
def sizP (p:api_Put):Nat:=(l.getD (typP mem i p) 0).toNat
def putAll (qs:List api_Put) (b:List Int):List Int:=qs.foldl (fun b p=>splice b (offP mem i p) (bytesI (sizP l mem i p) p.vV)) b
def lastV (o:Nat) (w:Int) (qs:List api_Put):Int:=qs.foldl (fun w p=>if offP mem i p=o then p.vV else w) w
structure Tgt (t:api_Types) (p:api_Put):Prop where
 path:Ev (fun k=>ctf_Path.f k t (i:Int) p.vPath) ((typP mem i p:Int),(offP mem i p:Int),0)
 err:(pv mem i p).2.2=0
 eq1:(pv mem i p).1=(typP mem i p:Int)
 eq2:(pv mem i p).2.1=(offP mem i p:Int)
 ns:∀n,(mem (typP mem i p) n).2≠0
 tl:typP mem i p<t.vDefs.length
 sc:∃s:api_Int,s.vSize=(sizP l mem i p:Int)∧Ev (fun k=>image_scalar.f k t (typP mem i p:Int)) (s,true)∧Ev (fun k=>taplineref09_Scalar.f k t (typP mem i p:Int)) (s,true)
 n4:sizP l mem i p=1∨sizP l mem i p=2∨sizP l mem i p=4∨sizP l mem i p=8
 ln:l.getD (typP mem i p) 0=(sizP l mem i p:Int)
 room:((offP mem i p+sizP l mem i p:Nat):Int)≤l.getD i 0
end puts
variable {mem:Nat→ByteArray→api_Field×Int} {i:Nat}
theorem putAll_length:∀{qs:List api_Put} {b:List Int},(∀p∈qs,offP mem i p+sizP l mem i p≤b.length)→(putAll l mem i qs b).length=b.length
  |[],b,_=>rfl
  | p :: qs, b, h => by
    have h1:=h p List.mem_cons_self
    have h2:(splice b (offP mem i p) (bytesI (sizP l mem i p) p.vV)).length=b.length:=splice_length (by rw [bytesI_length];exact h1)
    show (putAll l mem i qs (splice b (offP mem i p) (bytesI (sizP l mem i p) p.vV))).length=_
    rw [putAll_length (fun q hq=>by rw [h2];exact h q (List.mem_cons_of_mem _ hq)),h2]
theorem bytesI_byt (n:Nat) (v:Int):Byt (bytesI n v):=fun b hb=>by
 unfold bytesI at hb
 obtain ⟨j,_,rfl⟩:=List.mem_map.1 hb
 unfold byteI
 omega
theorem splice_byt {b xs:List Int} {o:Nat} (hb:Byt b) (hx:Byt xs):Byt (splice b o xs):=fun c hc=>by
 unfold splice at hc
 rcases List.mem_append.1 hc with hc|hc
 ·rcases List.mem_append.1 hc with hc|hc
  ·exact hb c (List.mem_of_mem_take hc)
  ·exact hx c hc
 ·exact hb c (List.mem_of_mem_drop hc)
theorem putAll_byt:∀{qs:List api_Put} {b:List Int},Byt b→Byt (putAll l mem i qs b)
 |[],b,h=>h
 |p::qs,b,h=>putAll_byt (qs:=qs) (splice_byt h (bytesI_byt _ _))
theorem final_bytes:∀{qs:List api_Put} {b:List Int} {o n:Nat} {w:Int},(∀p∈qs,offP mem i p=o→sizP l mem i p=n)→(∀p∈qs,offP mem i p≠o→offP mem i p+sizP l mem i p≤o∨o+n≤offP mem i p)→(∀p∈qs,offP mem i p+sizP l mem i p≤b.length)→o+n≤b.length→
    (∀j,j<n→b[o+j]?=(bytesI n w)[j]?)→∀j,j<n→(putAll l mem i qs b)[o+j]?=(bytesI n (lastV mem i o w qs))[j]?
  |[],b,o,n,w,_,_,_,_,h,j,hj=>h j hj
  | p :: qs, b, o, n, w, h1, h2, h3, h4, h5, j, hj => by
    have h3p:=h3 p List.mem_cons_self
    have hl:(bytesI (sizP l mem i p) p.vV).length=sizP l mem i p:=bytesI_length _ _
    have hsl:(splice b (offP mem i p) (bytesI (sizP l mem i p) p.vV)).length=b.length:=splice_length (by rw [hl];exact h3p)
    show (putAll l mem i qs (splice b (offP mem i p) (bytesI (sizP l mem i p) p.vV)))[o+j]?=(bytesI n (lastV mem i o (if offP mem i p=o then p.vV else w) qs))[j]?
    refine final_bytes (fun q hq=>h1 q (List.mem_cons_of_mem _ hq)) (fun q hq=>h2 q (List.mem_cons_of_mem _ hq)) (fun q hq=>by rw [hsl];exact h3 q (List.mem_cons_of_mem _ hq)) (by rw [hsl];exact h4) ?_ j hj
    intro j hj
    rw [splice_get (by rw [hl];exact h3p),hl]
    by_cases ho:offP mem i p=o
    · have hn:=h1 p List.mem_cons_self ho
      rw [if_pos ho,if_pos (by omega),hn]
      congr 1
      omega
    · have hd:=h2 p List.mem_cons_self ho
      rw [if_neg ho,if_neg (by omega)]
      exact h5 j hj
theorem disj (W:Wf t l) (hm:MemOk t mem) (hi:i<t.vDefs.length) {p q:api_Put} (hp:Tgt l mem i t p) (hq:Tgt l mem i t q):(offP mem i q=offP mem i p→sizP l mem i q=sizP l mem i p)∧(offP mem i q≠offP mem i p→offP mem i q+sizP l mem i q≤offP mem i p∨offP mem i p+sizP l mem i p≤offP mem i q):=by
 have hsz:=sz_in W i (by rw [W.sz.len];exact hi)
 have h:=path_disj W hm p.vPath q.vPath i 0 hi (by omega) (by omega) hp.err hq.err hp.ns hq.ns
 have e1:(pathV mem p.vPath i 0).2.1=(offP mem i p:Int):=hp.eq2
 have e2:(pathV mem q.vPath i 0).2.1=(offP mem i q:Int):=hq.eq2
 have e3:l.getD (pathV mem p.vPath i 0).1.toNat 0=(sizP l mem i p:Int):=hp.ln
 have e4:l.getD (pathV mem q.vPath i 0).1.toNat 0=(sizP l mem i q:Int):=hq.ln
 rw [e1,e2,e3,e4] at h
 have n1:=hp.n4
 have n2:=hq.n4
 rcases h with h|h
 ·have e5:sizP l mem i q=sizP l mem i p:=by unfold sizP typP pv;rw [h]
  have e6:offP mem i q=offP mem i p:=by unfold offP pv;rw [h]
  exact ⟨fun _=>e5,fun hne=>absurd e6 hne⟩
 ·exact ⟨fun he=>by omega,fun _=>by omega⟩
theorem lay_val (hF : ∀ d ∈ t.vDefs, FitD d) (W : Wf t l) (hv : Ev (fun k => ctf_valid.f k t) true) (hm : MemOk t mem) (hi : i < t.vDefs.length) {q : List api_Put} (hq : ∀ p ∈ q, In64 p.vV) (hql : q.length ≤ 100) : ∀ (d j : Nat) (b : List Int), j + d = q.length → (b.length : Int) = l.getD i 0 →
    (∃r e,e≠0∧Ev2 (fun k m=>image_Lay.l0 k t (i:Int) q m (j:Int) b) (.inl (r,e)))∨((∀p∈q.drop j,Tgt l mem i t p)∧Ev2 (fun k m=>image_Lay.l0 k t (i:Int) q m (j:Int) b) (.inr (putAll l mem i (q.drop j) b))):=by
  intro d
  induction d with
  | zero =>
    intro j b hj hb
    refine .inr ⟨by rw [List.drop_of_length_le (by omega)];simp,Ev2.pure fun k m=>?_⟩
    rw [image_Lay.l0,if_neg (by simp;omega),List.drop_of_length_le (by omega)]
    rfl
  | succ d ih =>
    intro j b hj hb
    have hjl:j<q.length:=by omega
    have hbd:0≤(j:Int)∧(j:Int)<(q.length:Int):=by omega
    have hV:=hq _ (getD_mem (z:=z_api_Put) hjl)
    have hrd:rd z_api_Put q (j:Int)=q.getD j z_api_Put:=rd_nat j
    have hw:IntKind.wrap .i64 ((j:Int)+1)=((j+1:Nat):Int):=wrap_nat (n:=q.length) (by omega) (by omega)
    have hdrop:q.drop j=q.getD j z_api_Put::q.drop (j+1):=by rw [←hrd];exact rd_at z_api_Put q j hjl
    obtain ⟨x,⟨K1,p1⟩,_,hx⟩:=Path_end hF W hi (q.getD j z_api_Put).vPath
    by_cases h0:x.2.2=0
    · obtain ⟨y,o,hxy,hy,hyo⟩:=hx h0
      have hlen:(q.getD j z_api_Put).vPath.length≤16:=by
        by_cases hp:(q.getD j z_api_Put).vPath.length≤16
        · exact hp
        · exfalso
          obtain ⟨K,hK⟩:=given_in hv hi
          have : Ev (fun k => ctf_Path.f k t (i : Int) (q.getD j z_api_Put).vPath) (0, 0, 2) := ⟨K, fun k hk => by
            show ctf_Path.f k t (i:Int) _=_
            unfold ctf_Path.f
            rw [show ctf_given.f k t (i:Int)=_ from hK k hk]
            simp only [Option.bind_some]
            rw [if_neg (by decide), if_pos (decide_eq_true (by omega))]⟩
          have hu:=Ev.uniq ⟨K1,p1⟩ this
          rw [hu] at h0
          cases h0
      have hpv:x=pv mem i (q.getD j z_api_Put):=Ev.uniq ⟨K1,p1⟩ (Path_ev hm hv hi hlen).1
      have ht:typP mem i (q.getD j z_api_Put)=y:=by unfold typP;rw [←hpv,hxy];rfl
      have ho:offP mem i (q.getD j z_api_Put)=o:=by unfold offP;rw [←hpv,hxy];rfl
      obtain ⟨s,⟨K3,s1⟩,⟨K4,s2⟩,hs⟩:=Scalar_both hF W hy
      by_cases hsc:s.2=true
      · obtain ⟨n,hn,hn4,hln⟩:=hs hsc
        have hz:sizP l mem i (q.getD j z_api_Put)=n:=by unfold sizP;rw [ht,hln];rfl
        have hi2:=sz_in W i (by rw [W.sz.len];exact hi)
        have hroom:o+n≤b.length:=by omega
        have hse:s=(s.1,true):=by rw [←hsc]
        have hT:Tgt l mem i t (q.getD j z_api_Put):=
          { path := by rw [ht, ho, ← hxy]; exact ⟨K1, p1⟩
            err:=by rw [←hpv];exact h0
            eq1:=by rw [←hpv,hxy,ht]
            eq2:=by rw [←hpv,hxy,ho]
            ns:=by rw [ht];exact Scalar_val hF W hm hy ⟨K3,s1⟩ hsc
            tl:=by rw [ht];exact hy
            sc:=⟨s.1,by rw [hz];exact hn,by rw [ht,←hse];exact ⟨K3,s1⟩,by rw [ht,←hse];exact ⟨K4,s2⟩⟩
            n4:=by rw [hz];exact hn4
            ln:=by rw [ht,hz];exact hln
            room := by rw [ho, hz]; omega }
        have step:∀z,Ev2 (fun k m=>image_Lay.l0 k t (i:Int) q m ((j+1:Nat):Int) (splice b o (bytesI n (q.getD j z_api_Put).vV))) z→Ev2 (fun k m=>image_Lay.l0 k t (i:Int) q m (j:Int) b) z:=by
          rintro z ⟨K5,z1⟩
          refine ⟨max (max K1 K3) (max K5 9)+1,fun k m hk hm=>?_⟩
          obtain ⟨m,rfl⟩:∃r,m=r+1:=⟨m-1,by omega⟩
          have hpb:=(put_both (k:=k) hn hn4 hV hroom (by omega) (by omega)).1
          show image_Lay.l0 k t (i:Int) q (m+1) (j:Int) b=_
          rw [image_Lay.l0,if_pos (by simp;omega),if_pos hbd,hrd,show ctf_Path.f k t (i:Int) (q.getD j z_api_Put).vPath=_ from p1 k (by omega),hxy]
          simp only [Option.bind_some]
          rw [if_neg (by simp),show image_scalar.f k t (y:Int)=_ from s1 k (by omega)]
          simp only [Option.bind_some]
          rw [if_neg (by simp [hsc]),hpb]
          simp only [Option.bind_some]
          rw [hw]
          exact z1 k m (by omega) (by omega)
        rcases ih (j+1) (splice b o (bytesI n (q.getD j z_api_Put).vV)) (by omega) (by rw [splice_length (by rw [bytesI_length];exact hroom)];exact hb) with ⟨r,e,he,hE⟩|⟨hA,hE⟩
        · exact .inl ⟨r,e,he,step _ hE⟩
        · refine .inr ⟨fun p hp=>?_,?_⟩
          · rw [hdrop] at hp
            rcases List.mem_cons.1 hp with rfl|hp
            · exact hT
            · exact hA p hp
          · rw [hdrop]
            show Ev2 (fun k m=>image_Lay.l0 k t (i:Int) q m (j:Int) b) (.inr (putAll l mem i (q.drop (j+1)) (splice b (offP mem i (q.getD j z_api_Put)) (bytesI (sizP l mem i (q.getD j z_api_Put)) (q.getD j z_api_Put).vV))))
            rw [ho,hz]
            exact step _ hE
      · refine .inl ⟨[],5,by decide,max K1 K3+1,fun k m hk hm=>?_⟩
        obtain ⟨m,rfl⟩:∃r,m=r+1:=⟨m-1,by omega⟩
        show image_Lay.l0 k t (i:Int) q (m+1) (j:Int) b=_
        rw [image_Lay.l0,if_pos (by simp;omega),if_pos hbd,hrd,show ctf_Path.f k t (i:Int) (q.getD j z_api_Put).vPath=_ from p1 k (by omega),hxy]
        simp only [Option.bind_some]
        rw [if_neg (by simp),show image_scalar.f k t (y:Int)=_ from s1 k (by omega)]
        simp only [Option.bind_some]
        rw [if_pos (by simp [hsc])]
    · refine .inl ⟨[],x.2.2,h0,K1+1,fun k m hk hm=>?_⟩
      obtain ⟨m,rfl⟩:∃r,m=r+1:=⟨m-1,by omega⟩
      show image_Lay.l0 k t (i:Int) q (m+1) (j:Int) b=_
      rw [image_Lay.l0,if_pos (by simp;omega),if_pos hbd,hrd,show ctf_Path.f k t (i:Int) (q.getD j z_api_Put).vPath=_ from p1 k (by omega)]
      simp only [Option.bind_some]
      rw [if_pos (by simp [h0])]
theorem chk1 {b:List Int} (h1:1≤b.length) (h2:b.length≤512):chkV ⟨[⟨1000,b⟩]⟩=0:=by
 unfold chkV
 rw [if_neg (by simp)]
 show (if badSeg 0 ⟨1000,b⟩=true then (90:Int) else 0)=0
 rw [if_neg]
 unfold badSeg
 simp only [Bool.or_eq_true,beq_iff_eq,decide_eq_true_eq]
 omega
theorem run1 {b xs:List Int} {o:Nat} (h:o+xs.length≤b.length) (hx:∀j,j<xs.length→b[o+j]?=xs[j]?):runB [(⟨1000,b⟩:api_Segment)] (1000+(o:Int)) xs.length 0 []=some xs:=by
 have := runB_part (l := [(⟨1000, b⟩ : api_Segment)]) (a := 1000 + (o : Int)) xs 0 0 [] (fun j hj => by
  have hin:inSeg (⟨1000,b⟩:api_Segment) (1000+(o:Int)+((0+j:Nat):Int)):=by
   unfold inSeg
   show 1000≤_∧_-1000<(b.length:Int)
   omega
  rw [byteAt,if_pos hin]
  show some (b.getD (1000+(o:Int)+((0+j:Nat):Int)-1000).toNat 0)=some (xs.getD j 0)
  rw [show (1000 + (o : Int) + ((0 + j : Nat) : Int) - 1000).toNat = o + j by omega, List.getD_eq_getElem?_getD, List.getD_eq_getElem?_getD, hx j hj])
 simpa [runB] using this
theorem member_val (hF:∀d∈t.vDefs,FitD d) (W:Wf t l) (hv:Ev (fun k=>ctf_valid.f k t) true) (hi:i<t.vDefs.length) (hnm:namedS (t.vDefs.getD i z_api_Def)=true) {b:List Int} (hb:Byt b) (h1:1≤b.length) (h2:b.length≤512) (hbl:(b.length:Int)=l.getD i 0)
  {p:api_Put} (hT:Tgt l mem i t p) {s:api_Int} (hs:s.vSize=(sizP l mem i p:Int)) (hsc:Ev (fun k=>image_scalar.f k t (typP mem i p:Int)) (s,true)) {w:Int} (hw:In64 w)
  (hx:∀j,j<sizP l mem i p→b[offP mem i p+j]?=(bytesI (sizP l mem i p) w)[j]?):
  Ev (fun k=>image_Member.f k t ⟨[⟨1000,b⟩]⟩ (t.vDefs.getD i z_api_Def).vName 1000 p.vPath) (wrp s w,true,0):=by
 obtain ⟨K1,h1'⟩:=hv
 obtain ⟨_,⟨K2,h2'⟩⟩:=Find_both hF W (t.vDefs.getD i z_api_Def).vName
 rw [findV_self W hi hnm,if_neg (by omega)] at h2'
 obtain ⟨K3,h3⟩:=hT.path
 obtain ⟨K4,h4⟩:=hsc
 have hc:=chk1 h1 h2
 obtain ⟨hl,hO⟩:=okI_of hc
 have hroom:=hT.room
 refine ⟨max (max K1 K2) (max (max K3 K4) 300),fun k hk=>?_⟩
 show image_Member.f k t _ _ 1000 _=_
 unfold image_Member.f ctf_Check.f
 rw [show ctf_valid.f k t=_ from h1' k (by omega)]
 simp only [Option.bind_some]
 rw [if_neg (c:=(!true)=true) (by decide)]
 simp only [Option.bind_some]
 rw [if_neg (by decide),pCheck,hc]
 simp only [Option.bind_some]
 rw [if_neg (by decide),show ctf_Lookup.f k t _=_ from h2' k (by omega)]
 simp only [Option.bind_some]
 rw [if_neg (by decide),show ctf_Path.f k t (i:Int) p.vPath=_ from h3 k (by omega)]
 simp only [Option.bind_some]
 rw [if_neg (by simp),show image_scalar.f k t (typP mem i p:Int)=_ from h4 k (by omega)]
 simp only [Option.bind_some]
 rw [if_neg (by simp),wrap_id (x:=1000+(offP mem i p:Int)) (by omega) (by omega),pLoad (m:=⟨[⟨1000,b⟩]⟩) hl hO (fun s hs=>by obtain rfl:=List.mem_singleton.1 hs;exact hb) (by unfold In64;omega) hs hT.n4 (by omega)]
 have hr:=run1 (b:=b) (xs:=bytesI (sizP l mem i p) w) (o:=offP mem i p) (by rw [bytesI_length];omega) (by rw [bytesI_length];exact hx)
 rw [bytesI_length] at hr
 rw [show runB (⟨[⟨1000,b⟩]⟩:api_Image).vSegs (1000+(offP mem i p:Int)) (sizP l mem i p) 0 []=_ from hr]
 show some (wrp s (IntKind.wrap .i64 (valI (bytesI (sizP l mem i p) w))),true,(0:Int))=_
 rw [wrp_val hw hs hT.n4]
theorem lastV_in {o:Nat}:∀{qs:List api_Put} {w:Int},In64 w→(∀p∈qs,In64 p.vV)→In64 (lastV mem i o w qs)
  |[],w,h,_=>h
  | p :: qs, w, h, hq => by
    show In64 (lastV mem i o (if offP mem i p=o then p.vV else w) qs)
    refine lastV_in ?_ (fun q hq'=>hq q (List.mem_cons_of_mem _ hq'))
    split
    · exact hq p List.mem_cons_self
    · exact h
theorem back_inner {q:List api_Put} (hT:∀p∈q,Tgt l mem i t p) (hql:q.length≤100) {y:Int} {o:Nat}:∀(d j:Nat) (w:Int),j+d=q.length→
    Ev2 (fun k m=>taplinelaw09_ImageBack.l1 k t (i:Int) q (y,(o:Int),0) m w (j:Int)) (.inr (lastV mem i o w (q.drop j))):=by
  intro d
  induction d with
  | zero =>
    intro j w hj
    refine Ev2.pure fun k m=>?_
    rw [taplinelaw09_ImageBack.l1,if_neg (by simp;omega),List.drop_of_length_le (by omega)]
    rfl
  | succ d ih =>
    intro j w hj
    have hjl:j<q.length:=by omega
    have hbd:0≤(j:Int)∧(j:Int)<(q.length:Int):=by omega
    have hrd:rd z_api_Put q (j:Int)=q.getD j z_api_Put:=rd_nat j
    have hw:IntKind.wrap .i64 ((j:Int)+1)=((j+1:Nat):Int):=wrap_nat (n:=q.length) (by omega) (by omega)
    have hdrop:q.drop j=q.getD j z_api_Put::q.drop (j+1):=by rw [←hrd];exact rd_at z_api_Put q j hjl
    obtain ⟨K1,p1⟩:=(hT _ (getD_mem (z:=z_api_Put) hjl)).path
    obtain ⟨K2,h2⟩:=ih (j+1) (if offP mem i (q.getD j z_api_Put)=o then (q.getD j z_api_Put).vV else w) (by omega)
    refine ⟨max K1 K2+1,fun k m hk hm=>?_⟩
    obtain ⟨m,rfl⟩:∃r,m=r+1:=⟨m-1,by omega⟩
    show taplinelaw09_ImageBack.l1 k t (i:Int) q (y,(o:Int),0) (m+1) w (j:Int)=_
    rw [taplinelaw09_ImageBack.l1,if_pos (by simp;omega),if_pos hbd,hrd,show ctf_Path.f k t (i:Int) (q.getD j z_api_Put).vPath=_ from p1 k (by omega)]
    simp only [Option.bind_some]
    rw [if_neg (by simp),if_pos hbd,hw,hdrop]
    have hk2:=h2 k m (by omega) (by omega)
    show _=some (Sum.inr (lastV mem i o (if offP mem i (q.getD j z_api_Put)=o then (q.getD j z_api_Put).vV else w) (q.drop (j+1))))
    rw [←hk2]
    by_cases ho:offP mem i (q.getD j z_api_Put)=o
    · rw [if_pos (show ((offP mem i (q.getD j z_api_Put):Int)==(o:Int))=true by rw [ho];exact beq_self_eq_true _),if_pos ho]
    · rw [if_neg (show¬((offP mem i (q.getD j z_api_Put):Int)==(o:Int))=true by rw [beq_iff_eq];omega),if_neg ho]
theorem back_loop (hF : ∀ d ∈ t.vDefs, FitD d) (W : Wf t l) (hv : Ev (fun k => ctf_valid.f k t) true) (hm : MemOk t mem) (hi : i < t.vDefs.length) (hnm : namedS (t.vDefs.getD i z_api_Def) = true) {q : List api_Put} (hT : ∀ p ∈ q, Tgt l mem i t p) (hq : ∀ p ∈ q, In64 p.vV) (hql : q.length ≤ 100) {z : List Int} (hz : Byt z) (hzl : (z.length : Int) = l.getD i 0) (h512 : z.length ≤ 512) {e : Int} : ∀ (d j : Nat), j + d = q.length →
    Ev2 (fun k m=>taplinelaw09_ImageBack.l0 k t (i:Int) q (putAll l mem i q z,e) m (j:Int)) (.inr ()):=by
  have hroom:∀p∈q,offP mem i p+sizP l mem i p≤z.length:=fun p hp=>by have:=(hT p hp).room;omega
  have hlen:(putAll l mem i q z).length=z.length:=putAll_length hroom
  have h1:1≤z.length:=by have:=sz_in W i (by rw [W.sz.len];exact hi);omega
  intro d
  induction d with
  | zero =>
    intro j hj
    refine Ev2.pure fun k m=>?_
    rw [taplinelaw09_ImageBack.l0,if_neg (by simp;omega)]
  | succ d ih =>
    intro j hj
    have hjl:j<q.length:=by omega
    have hbd:0≤(j:Int)∧(j:Int)<(q.length:Int):=by omega
    have hrd:rd z_api_Put q (j:Int)=q.getD j z_api_Put:=rd_nat j
    have hw:IntKind.wrap .i64 ((j:Int)+1)=((j+1:Nat):Int):=wrap_nat (n:=q.length) (by omega) (by omega)
    have hmemj:=getD_mem (z:=z_api_Put) hjl
    have hTj:=hT _ hmemj
    have hsplit:q=q.take j++q.getD j z_api_Put::q.drop (j+1):=by
      conv=>lhs;rw [←List.take_append_drop j q]
      rw [←hrd,←rd_at z_api_Put q j hjl]
    have hdmem:∀p∈q.drop (j+1),p∈q:=fun p hp=>List.mem_of_mem_drop hp
    obtain ⟨s,hs,hsc,⟨K6,h6⟩⟩:=hTj.sc
    have hwin:=lastV_in (mem:=mem) (i:=i) (o:=offP mem i (q.getD j z_api_Put)) (hq _ hmemj) (fun p hp=>hq p (hdmem p hp))
    have hx:∀a,a<sizP l mem i (q.getD j z_api_Put)→(putAll l mem i q z)[offP mem i (q.getD j z_api_Put)+a]?=(bytesI (sizP l mem i (q.getD j z_api_Put)) (lastV mem i (offP mem i (q.getD j z_api_Put)) (q.getD j z_api_Put).vV (q.drop (j+1))))[a]?:=by
      have hzl1:(putAll l mem i (q.take j) z).length=z.length:=putAll_length fun p hp=>hroom p (List.mem_of_mem_take hp)
      have e1:putAll l mem i q z=putAll l mem i (q.drop (j+1)) (splice (putAll l mem i (q.take j) z) (offP mem i (q.getD j z_api_Put)) (bytesI (sizP l mem i (q.getD j z_api_Put)) (q.getD j z_api_Put).vV)):=by
        conv=>lhs;rw [hsplit]
        unfold putAll
        rw [List.foldl_append,List.foldl_cons]
      rw [e1]
      have hrj:=hroom _ hmemj
      have hsl:(splice (putAll l mem i (q.take j) z) (offP mem i (q.getD j z_api_Put)) (bytesI (sizP l mem i (q.getD j z_api_Put)) (q.getD j z_api_Put).vV)).length=z.length:=by
        rw [splice_length (by rw [bytesI_length,hzl1];exact hrj),hzl1]
      refine final_bytes (fun p hp he=>(disj W hm hi hTj (hT p (hdmem p hp))).1 he) (fun p hp he=>(disj W hm hi hTj (hT p (hdmem p hp))).2 he) (fun p hp=>by rw [hsl];exact hroom p (hdmem p hp)) (by rw [hsl];exact hrj) ?_
      intro a ha
      rw [splice_get (by rw [bytesI_length,hzl1];exact hrj),bytesI_length,if_pos (by omega)]
      congr 1
      omega
    obtain ⟨K1,p1⟩:=hTj.path
    obtain ⟨K2,p2⟩:=(back_inner (t:=t) hT hql (y:=(typP mem i (q.getD j z_api_Put):Int)) (o:=offP mem i (q.getD j z_api_Put)) (q.length-(j+1)) (j+1) (q.getD j z_api_Put).vV (by omega)).diag
    obtain ⟨K3,p3⟩:=member_val hF W hv hi hnm (b:=putAll l mem i q z) (putAll_byt hz) (by rw [hlen];exact h1) (by rw [hlen];exact h512) (by rw [hlen];exact hzl) hTj hs hsc hwin hx
    obtain ⟨K4,p4⟩:=ih (j+1) (by omega)
    refine ⟨max (max K1 K2) (max (max K3 K4) K6)+1,fun k m hk hm=>?_⟩
    obtain ⟨m,rfl⟩:∃r,m=r+1:=⟨m-1,by omega⟩
    show taplinelaw09_ImageBack.l0 k t (i:Int) q (putAll l mem i q z,e) (m+1) (j:Int)=_
    rw [taplinelaw09_ImageBack.l0,if_pos (by simp;omega),if_pos hbd,hrd,show ctf_Path.f k t (i:Int) (q.getD j z_api_Put).vPath=_ from p1 k (by omega)]
    simp only [Option.bind_some]
    rw [if_pos hbd,hw,show taplinelaw09_ImageBack.l1 k t (i:Int) q _ k _ _=_ from p2 k (by omega)]
    simp only [Option.bind_some]
    rw [if_pos hbd,rd_nat i,show image_Member.f k t _ _ 1000 _=_ from p3 k (by omega)]
    simp only [Option.bind_some]
    rw [if_neg (by simp),show taplineref09_Scalar.f k t (typP mem i (q.getD j z_api_Put):Int)=_ from h6 k (by omega)]
    simp only [Option.bind_some]
    rw [pWrap hs hTj.n4]
    simp only [Option.bind_some]
    rw [if_neg (by simp)]
    exact p4 k m (by omega) (by omega)
theorem back_ok (hF : ∀ d ∈ t.vDefs, FitD d) (a : Int) {q : List api_Put} (hq : ∀ p ∈ q, In64 p.vV) : ∃ K, ∀ k, K ≤ k → taplinelaw09_ImageBack.f k t a q = some true := by
  have err:∀r e,e≠0→Ev (fun k=>image_Lay.f k t a q) (r,e)→∃K,∀k,K≤k→taplinelaw09_ImageBack.f k t a q=some true:=by
    rintro r e he ⟨K,hK⟩
    refine ⟨K,fun k hk=>?_⟩
    unfold taplinelaw09_ImageBack.f
    simp only [taplinelaw09_sane.f,Option.bind_some]
    rw [show image_Lay.f k t a q=_ from hK k hk]
    simp only [Option.bind_some]
    rw [if_pos (by simp [he])]
  obtain ⟨b0,e0,hL,_⟩:=Lay_both hF a hq
  by_cases he0:e0=0
  · subst he0
    rcases valid_iff hF with ⟨l,W,hv⟩|⟨hno,hv⟩
    · have hck:Ev (fun k=>ctf_Check.f k t) 0:=by
        obtain ⟨K,hK⟩:=hv
        exact ⟨K, fun k hk => by
          show ctf_Check.f k t=_
          unfold ctf_Check.f
          rw [show ctf_valid.f k t=_ from hK k hk]
          rfl⟩
      obtain ⟨K0,c0⟩:=hck
      obtain ⟨sz,e,⟨K1,c1⟩,_⟩:=Size_both hF a
      have fin:∀x,Ev (fun k=>image_Lay.f k t a q) x→x=(b0,0):=fun x hx=>hx.uniq hL
      by_cases he:e=0
      · subst he
        rcases given_both hF a with ⟨e,he,h1,_⟩|⟨n,l2,rfl,hn,W2,_,_,_,_⟩
        · have:=(Ev.uniq ⟨K1,c1⟩ (Size_err h1 he))
          simp at this
          omega
        · have hu:=Ev.uniq ⟨K1,c1⟩ (Size_ev W.good hv hn)
          have ha:sz=l.getD n 0:=congrArg Prod.fst hu
          have hs:=sz_in W n (by rw [W.sz.len];exact hn)
          obtain ⟨mem,hm⟩:=mem_ok W.good
          have hzb:Byt (List.replicate sz.toNat (0:Int)):=fun c hc=>by obtain rfl:=(List.mem_replicate.1 hc).2;omega
          have hzl:((List.replicate sz.toNat (0:Int)).length:Int)=l.getD n 0:=by rw [List.length_replicate];omega
          have hql:q.length≤100:=by
            by_cases h:q.length≤100
            · exact h
            · have : Ev (fun k => image_Lay.f k t (n : Int) q) ([], 2) := ⟨max K0 K1, fun k hk => by
                show image_Lay.f k t (n:Int) q=_
                unfold image_Lay.f
                rw [show ctf_Check.f k t=_ from c0 k (by omega)]
                simp only [Option.bind_some]
                rw [if_neg (by decide),show ctf_Size.f k t (n:Int)=_ from c1 k (by omega)]
                simp only [Option.bind_some]
                rw [if_neg (by decide), if_pos (by simp; omega)]⟩
              have:=fin _ this
              simp at this
          have hlay:∀x,Ev2 (fun k m=>image_Lay.l0 k t (n:Int) q m ((0:Nat):Int) (List.replicate sz.toNat (0:Int))) x→Ev (fun k=>image_Lay.f k t (n:Int) q) (match x with| .inl r=>r| .inr s=>(s,0)):=by
            rintro x ⟨K3,x1⟩
            refine ⟨max (max K0 K1) K3,fun k hk=>?_⟩
            show image_Lay.f k t (n:Int) q=_
            unfold image_Lay.f
            rw [show ctf_Check.f k t=_ from c0 k (by omega)]
            simp only [Option.bind_some]
            rw [if_neg (by decide),show ctf_Size.f k t (n:Int)=_ from c1 k (by omega)]
            simp only [Option.bind_some]
            rw [if_neg (by decide),if_neg (by simp;omega),if_pos (by omega),show image_Lay.l0 k t (n:Int) q k 0 _=_ from x1 k k (by omega) (by omega)]
            cases x<;>rfl
          rcases lay_val hF W hv hm hn hq hql q.length 0 (List.replicate sz.toNat (0:Int)) (by omega) hzl with ⟨r,e,he,hE⟩|⟨hT,hE⟩
          · have:=fin _ (hlay _ hE)
            exact absurd (congrArg Prod.snd this) he
          · rw [List.drop_zero] at hT hE
            obtain ⟨K5,h5⟩:=hlay _ hE
            by_cases hk:(t.vDefs.getD n z_api_Def).vKind=2∨(t.vDefs.getD n z_api_Def).vKind=3
            · refine ⟨K5,fun k hk'=>?_⟩
              unfold taplinelaw09_ImageBack.f
              simp only [taplinelaw09_sane.f,Option.bind_some]
              rw [show image_Lay.f k t (n:Int) q=_ from h5 k hk']
              simp only [Option.bind_some]
              split
              · rfl
              · rw [if_pos (by omega),rd_nat,if_pos (by simpa using hk)]
            · have hnm:namedS (t.vDefs.getD n z_api_Def)=true:=by
                unfold namedS
                simp only [Bool.and_eq_true,bne_iff_ne,ne_eq]
                omega
              obtain ⟨K6,h6⟩:=(back_loop hF W hv hm hn hnm hT hq hql hzb hzl (by rw [List.length_replicate];omega) (e:=0) q.length 0 (by omega)).diag
              refine ⟨max K5 K6,fun k hk'=>?_⟩
              unfold taplinelaw09_ImageBack.f
              simp only [taplinelaw09_sane.f,Option.bind_some]
              rw [show image_Lay.f k t (n:Int) q=_ from h5 k (by omega)]
              simp only [Option.bind_some]
              split
              · rfl
              · rw [if_pos (by omega),rd_nat,if_neg (by simpa using hk),show taplinelaw09_ImageBack.l0 k t (n:Int) q _ k 0=_ from h6 k (by omega)]
                rfl
      · refine err [] e he ⟨max K0 K1,fun k hk=>?_⟩
        show image_Lay.f k t a q=_
        unfold image_Lay.f
        rw [show ctf_Check.f k t=_ from c0 k (by omega)]
        simp only [Option.bind_some]
        rw [if_neg (by decide),show ctf_Size.f k t a=_ from c1 k (by omega)]
        simp only [Option.bind_some]
        rw [if_pos (by simp [he])]
    · obtain ⟨K,hK⟩:=hv
      refine err [] 80 (by decide) ⟨K,fun k hk=>?_⟩
      show image_Lay.f k t a q=_
      unfold image_Lay.f ctf_Check.f
      rw [show ctf_valid.f k t=_ from hK k hk]
      rfl
  · exact err b0 e0 he0 hL
end
end Go.Proofs.YtecpbadkdpbkpaaGreatDoor
namespace Go.Proofs.YtecpbadkdpbkpaaGreatDoor
open Go.ChangeShapes Go.WideShapes Go.ChangeAt Go.RowKit Go.M
set_option maxRecDepth 100000
section
variable {H:Type} {enc:TypeId×Value→H} {W:World}
theorem op29:Opn enc Tryz.prog W 29 k_api_Int (fun _=>True):=
 (op_iso (fun p=>(⟨p.1,p.2⟩:api_Int)) (fun _=>rfl) (op_struct Tryz.underlying29 (by kernel_rfl) (opf_cons op3 rfl (opf_one op4 rfl)))).weak fun _ _=>trivial
theorem op129:Opn enc Tryz.prog W 129 k_api_Field (fun f=>f.vName.size≤9223372036854775807):=
 (op_iso (fun p=>(⟨p.1,p.2.1,p.2.2⟩:api_Field)) (fun _=>rfl) (op_struct Tryz.underlying129 (by kernel_rfl) (opf_cons op9 rfl (opf_cons op3 rfl (opf_one op3 rfl))))).weak fun _ h=>max63 h.1
theorem op56:Opn enc Tryz.prog W 56 k_api_Def FitD:=
 (op_iso (fun p => (⟨p.1, p.2.1, p.2.2.1, p.2.2.2.1, p.2.2.2.2.1, p.2.2.2.2.2⟩ : api_Def)) (fun _ => rfl) (op_struct Tryz.underlying56 (by kernel_rfl)
  (opf_cons op3 rfl (opf_cons op9 rfl (opf_cons op29 rfl (opf_cons op3 rfl (opf_cons op3 rfl (opf_one (op_slice op129 Tryz.underlying54 (by kernel_rfl)) rfl)))))))).weak fun _ h => ⟨max63 h.2.1, max63 h.2.2.2.2.2.1, h.2.2.2.2.2.2⟩
def FitT (t:api_Types):Prop:=t.vDefs.length≤9223372036854775807∧∀d∈t.vDefs,FitD d
theorem op24:Opn enc Tryz.prog W 24 k_api_Types FitT:=
 (op_iso (fun p=>(⟨p⟩:api_Types)) (fun _=>rfl) (op_struct Tryz.underlying24 (by kernel_rfl) (opf_one (op_slice op56 Tryz.underlying22 (by kernel_rfl)) rfl))).weak fun _ h=>⟨max63 h.1,h.2⟩
theorem op30:Opn enc Tryz.prog W 30 (Kd.slice Kd.str) (fun xs=>xs.length≤maxLen∧∀s∈xs,s.size≤maxLen):=op_slice op9 Tryz.underlying30 (by kernel_rfl)
def FitP (p:api_Put):Prop:=p.vPath.length≤9223372036854775807∧-9223372036854775808≤p.vV∧p.vV≤9223372036854775807
theorem op62:Opn enc Tryz.prog W 62 k_api_Put FitP:=
 (op_iso (fun p=>(⟨p.1,p.2⟩:api_Put)) (fun _=>rfl) (op_struct Tryz.underlying62 (by kernel_rfl) (opf_cons op30 rfl (opf_one op2 rfl)))).weak fun _ h=>⟨max63 h.1.1,wf64 h.2⟩
theorem op41:Opn enc Tryz.prog W 41 (Kd.slice k_api_Put) (fun xs=>xs.length≤maxLen∧∀s∈xs,FitP s):=op_slice op62 Tryz.underlying41 (by kernel_rfl)
theorem arg24 {b:Nat} {v:Value} {d:DataW H} {p:List MemPlace} (hval:Value.okWide Tryz.prog W .any b 24 v) (h:DataW.Trod enc Tryz.prog W 0 (fun _=>true) true 24 v d p):
  ∃(t:api_Types) (A:Option Addr) (c:Nat),v= .agg #[.slice A t.vDefs.length c]∧Rd k_api_Def (vw W) A t.vDefs∧t.vDefs.length≤c∧FitT t:=by
 obtain ⟨cs,rfl,_⟩:=okWide_struct Tryz.underlying24 hval
 obtain ⟨fuel,hf⟩:=h
 obtain ⟨t,⟨A,c,hcs,hc,hr⟩,hF⟩:=op24.open_ _ _ _ hf
 refine ⟨t,A,c,?_,hr,hc,hF⟩
 have:cs.toList=[.slice A t.vDefs.length c]:=hcs
 rw [←Array.toArray_toList (xs:=cs),this]
theorem arg3 {b:Nat} {v:Value} {d:DataW H} {p:List MemPlace} (hval:Value.okWide Tryz.prog W .any b 3 v) (h:DataW.Trod enc Tryz.prog W 0 (fun _=>true) true 3 v d p):∃n:Int,v= .int .i64 n∧(Lit.int .i64 n).wf=true:=by
 obtain ⟨n,rfl⟩:=okWide_int Tryz.underlying3 hval
 obtain ⟨fuel,hf⟩:=h
 obtain ⟨m,hK,hF⟩:=op3.open_ _ _ _ hf
 have:[Value.int .i64 n]=[Value.int .i64 m]:=hK
 injection this with this
 injection this with _ this
 subst this
 exact ⟨n,rfl,hF⟩
theorem arg41 {b:Nat} {v:Value} {d:DataW H} {p:List MemPlace} (hval:Value.okWide Tryz.prog W .any b 41 v) (h:DataW.Trod enc Tryz.prog W 0 (fun _=>true) true 41 v d p):
  ∃(xs:List api_Put) (A:Option Addr) (c:Nat),v= .slice A xs.length c∧Rd k_api_Put (vw W) A xs∧xs.length≤c∧xs.length≤maxLen∧∀s∈xs,FitP s:=by
 obtain ⟨a,len,cap,rfl⟩:=okWide_slice Tryz.underlying41 hval
 obtain ⟨fuel,hf⟩:=h
 obtain ⟨xs,⟨A,c,hcs,hc,hr⟩,hF⟩:=op41.open_ _ _ _ hf
 have:[Value.slice a len cap]=[Value.slice A xs.length c]:=hcs
 injection this with this
 injection this with h1 h2 h3
 subst h1 h2 h3
 exact ⟨xs,_,_,rfl,hr,hc,hF⟩
end
end Go.Proofs.YtecpbadkdpbkpaaGreatDoor
