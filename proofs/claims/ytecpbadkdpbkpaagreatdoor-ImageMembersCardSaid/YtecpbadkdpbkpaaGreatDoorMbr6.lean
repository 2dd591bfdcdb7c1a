/- Parts of a proof, merged by program: P3 P4 P5 P8 PN1 P10 P11 P12 P13 F135 F136 F137 F138 F139 F140 F141 F142 F57 L0 S1 F143 F92 F93 F59 F65 F30 F25 F26 R1 R2 F76 F37 F64. The walks (each function once) and the plain laws; no condition of their own. -/
import Derived.Test.YtecpbadkdpbkpaaGreatDoorMbr5
set_option linter.unusedVariables false
set_option linter.unusedSimpArgs false
set_option maxRecDepth 20000
set_option maxHeartbeats 4000000
namespace Go.Proofs.YtecpbadkdpbkpaaGreatDoor
open Go.RowKit Go.M
def nval (d:bV) (inner:Int):Int:=
 if d.aF=1 then d.bW.aS else if d.aF=2 then 8 else if d.aF=3 then IntKind.wrap .i64 (d.vN*inner) else if d.aF=4 then d.vN else if d.aF=5 then 4 else if d.aF=6 then inner else 0
theorem N7 (d:bV) (inner:Int):((bM ieq (fJ ieq (fJ ieq (fJ ieq (fJ ieq (fJ ieq (fJ ieq ([]:List (Int×Int)) 1 d.bW.aS) 2 8) 3 (IntKind.wrap .i64 (d.vN*inner))) 4 d.vN) 5 4) 6 inner) d.aF).getD 0)=nval d inner:=by
 simp only [fJ,ieq,Int.reduceBEq,Bool.false_eq_true,if_false,bM,beq_iff_eq,nval]
 repeat' split
 all_goals rfl
structure ShD (d:bV) (n:Nat):Prop where
 kind:1≤d.aF∧d.aF≤6
 ref:d.aF=2∨d.aF=3∨d.aF=6→0≤d.dY∧d.dY<n
 num:d.aF=3∨d.aF=4→1≤d.vN∧d.vN≤512
 int:d.aF=1→d.bW.aS=1∨d.bW.aS=2∨d.bW.aS=4∨d.bW.aS=8
 few:d.au.length≤32
 typ:d.aF=4→∀f∈d.au,0≤f.vType∧f.vType<n
 names:(d.au.map (·.aU)).Nodup
theorem fields_of {d : bV} {n : Int} : ∀ (ns : List ByteArray) (l : List dP), qR d n ns l = true → (∀ f ∈ l, qY f.aU = true ∧ lD d n f = true ∧ f.aU ∉ ns) ∧ (l.map (·.aU)).Nodup
  |_,[],_=>⟨by simp,by simp⟩
  | ns, f :: r, h => by
    simp only [qR,Bool.and_eq_true,Bool.not_eq_true'] at h
    obtain ⟨⟨⟨h1,h2⟩,h3⟩,h4⟩:=h
    obtain ⟨h5,h6⟩:=fields_of _ r h4
    have hn:f.aU∉ns:=fun hm=>by
      have:=List.any_eq_false.1 h2 f.aU hm
      exact this (kZ.2 rfl)
    refine ⟨fun g hg=>?_,?_⟩
    · rcases List.mem_cons.1 hg with rfl|hg
      · exact ⟨h1,h3,hn⟩
      · obtain ⟨a,b,c⟩:=h5 g hg
        exact ⟨a,b,fun hm=>c (List.mem_cons_of_mem _ hm)⟩
    · rw [List.map_cons,List.nodup_cons]
      refine ⟨fun hm=>?_,h6⟩
      obtain ⟨g,hg,e⟩:=List.mem_map.1 hm
      exact (h5 g hg).2.2 (by rw [e];exact List.mem_cons_self)
theorem N8 {d:bV} {n:Nat} (h:oM d (n:Int)=true):ShD d n:=by
  unfold oM at h
  cases hs:shp d.aF with
  |none=>rw [hs] at h;cases h
  | some s =>
    rw [hs] at h
    simp only [Bool.and_eq_true,decide_eq_true_eq] at h
    obtain ⟨⟨⟨⟨⟨⟨h1,h2⟩,h3⟩,h4⟩,h5⟩,h6⟩,h7⟩:=h
    obtain ⟨h8,h9⟩:=fields_of _ _ h7
    unfold shp at hs
    refine ⟨?_,?_,?_,?_,h6,?_,h9⟩
    · repeat' split at hs
      all_goals first|(cases hs;done)|omega
    · intro hk
      repeat' split at hs
      all_goals first|(cases hs;done)|(injection hs with hs;subst hs;simp at h3;omega)|omega
    · intro hk
      repeat' split at hs
      all_goals first|(cases hs;done)|(injection hs with hs;subst hs;simp at h4;omega)|omega
    · intro hk
      rw [if_pos hk] at hs
      injection hs with hs
      subst hs
      simp only [if_true] at h2
      simp only [okI,Bool.or_eq_true,beq_iff_eq] at h2
      omega
    · intro hk f hf
      have:=(h8 f hf).2.1
      simp only [lD,hk] at this
      simp at this
      omega
theorem oG {d:bV} {n:Nat} (h:ShD d n):∀c∈cont d,0≤c∧c<n:=by
 intro c hc
 unfold cont at hc
 split at hc
 ·rename_i hk
  simp only [Bool.or_eq_true,beq_iff_eq] at hk
  obtain rfl:=List.mem_singleton.1 hc
  exact h.ref (by omega)
 ·split at hc
  ·rename_i hk
   simp only [beq_iff_eq] at hk
   obtain ⟨f,hf,rfl⟩:=List.mem_map.1 hc
   exact h.typ hk f hf
  ·cases hc
def cnt (l:List Bool):Nat:=(l.filter fun b=> !b).length
theorem cnt_le:∀(a b:List Bool),a.length=b.length→(∀j,a.getD j false=true→b.getD j false=true)→cnt b≤cnt a
  |[],[],_,_=>Nat.le_refl _
  |[],_::_,h,_=>by simp at h
  |_::_,[],h,_=>by simp at h
  | x :: a, y :: b, h, hj => by
    have h1:=cnt_le a b (by simpa using h) (fun j hh=>by simpa using hj (j+1) (by simpa using hh))
    have h2:=hj 0
    simp only [List.getD_cons_zero] at h2
    unfold cnt at*
    cases x<;>cases y<;>simp_all<;>omega
theorem N9:∀(a:List Bool) (i:Nat),i<a.length→a.getD i false=false→cnt (a.set i true)+1=cnt a
  |[],i,h,_=>by simp at h
  | x :: a, 0, h, hi => by
    simp only [List.getD_cons_zero] at hi
    subst hi
    simp [cnt]
  | x :: a, i + 1, h, hi => by
    have:=N9 a i (by simpa using h) (by simpa using hi)
    unfold cnt at*
    cases x<;>simp_all<;>omega
theorem ny {α:Type} {z v:α} {l:List α} {i j:Nat} (hi:i<l.length):(l.set i v).getD j z=if i=j then v else l.getD j z:=by
 by_cases h:i=j
 ·subst h;simp [List.getD_eq_getElem?_getD,hi]
 ·simp [List.getD_eq_getElem?_getD,List.getElem?_set_ne h,h]
section
variable (defs:List bV)
def inner (out:List Int) (d:bV):Int:=(cont d).foldl (fun _ c=>out.getD c.toNat 0) 0
def Jn (out:List Int):Prop:=∃(rk:Nat→Nat) (B:Nat),∀j,j<defs.length→0<out.getD j 0→
 rk j<B∧out.getD j 0≤512∧(∀c∈cont (defs.getD j ah),0<out.getD c.toNat 0∧rk c.toNat<rk j)∧out.getD j 0=nval (defs.getD j ah) (inner out (defs.getD j ah))
structure Post (out:List Int) (ok:Bool) (bg:List Bool) (out':List Int) (ok':Bool) (bg':List Bool):Prop where
 lo:out'.length=defs.length
 lb:bg'.length=defs.length
 bgm:∀j,bg.getD j false=true→bg'.getD j false=true
 okm:ok'=true→ok=true
 keep:ok'=true→∀j,0<out.getD j 0→out'.getD j 0=out.getD j 0
 stack:ok'=true→∀j,bg.getD j false=true→out.getD j 0≤0→out'.getD j 0≤0
 jn:ok'=true→Jn defs out→Jn defs out'
variable {defs}
theorem Post.rfl' {out:List Int} {ok:Bool} {bg:List Bool} (h1:out.length=defs.length) (h2:bg.length=defs.length):Post defs out ok bg out ok bg:=
 ⟨h1,h2,fun _ h=>h,fun h=>h,fun _ _ _=>rfl,fun _ _ _ h=>h,fun _ h=>h⟩
theorem Post.trans {o1 o2 o3:List Int} {k1 k2 k3:Bool} {b1 b2 b3:List Bool} (h:Post defs o1 k1 b1 o2 k2 b2) (g:Post defs o2 k2 b2 o3 k3 b3):Post defs o1 k1 b1 o3 k3 b3:=by
 refine ⟨g.lo,g.lb,fun j hj=>g.bgm j (h.bgm j hj),fun hk=>h.okm (g.okm hk),fun hk j hj=>?_,fun hk j hb ho=>?_,fun hk hJ=>g.jn hk (h.jn (g.okm hk) hJ)⟩
 ·have:=h.keep (g.okm hk) j hj
  rw [g.keep hk j (by rw [this];exact hj),this]
 ·exact g.stack hk j (h.bgm j hb) (h.stack (g.okm hk) j hb ho)
def kQ (i:Nat) (out:List Int) (ok:Bool) (bg:List Bool):Prop:=∃r out' ok' bg',Ev (fun k=>dG.f k (i:Int) out ok bg defs) (r,out',ok',bg')∧Post defs out ok bg out' ok' bg'∧(ok'=true→Jn defs out→0<r∧r=out'.getD i 0)
theorem Jz {c0 : Nat} (v1 : List Int) (hv : ∀ c ∈ v1, 0 ≤ c ∧ c < (defs.length : Int)) (hvl : v1.length ≤ 9223372036854775807)
    (hc:∀i out ok bg,i<defs.length→out.length=defs.length→bg.length=defs.length→cnt bg<c0→kQ (defs:=defs) i out ok bg):
    ∀(e j:Nat) (inn:Int) (out:List Int) (ok:Bool) (bg:List Bool),j+e=v1.length→out.length=defs.length→bg.length=defs.length→cnt bg<c0→
    ∃ Xj out' ok' bg', (∃ K, ∀ k m, K ≤ k → K ≤ m → dG.l0 (dG.f k) defs v1 m inn (j : Int) ok out bg = some (Xj, ok', out', bg')) ∧ Post defs out ok bg out' ok' bg' ∧
      (ok'=true→Jn defs out→(∀c∈v1.drop j,0<out'.getD c.toNat 0)∧Xj=(v1.drop j).foldl (fun _ c=>out'.getD c.toNat 0) inn):=by
  intro e
  induction e with
  | zero =>
    intro j inn out ok bg hj h1 h2 h3
    refine ⟨inn,out,ok,bg,⟨1,fun k m _ hm=>?_⟩,Post.rfl' h1 h2,fun _ _=>?_⟩
    · obtain ⟨m,rfl⟩:∃q,m=q+1:=⟨m-1,by omega⟩
      rw [dG.l0,if_neg (by simp;omega)]
    · rw [List.drop_eq_nil_of_le (by omega)];simp
  | succ e ih =>
    intro j inn out ok bg hj h1 h2 h3
    have hlt:j<v1.length:=by omega
    have hm:=hv _ (getD_mem (z:=0) hlt)
    obtain ⟨i,hi⟩:∃i:Nat,v1.getD j 0=(i:Int):=⟨(v1.getD j 0).toNat,by omega⟩
    obtain ⟨r,o1,k1,b1,⟨K1,hK1⟩,hP1,hr1⟩:=hc i out ok bg (by omega) h1 h2 h3
    have hcl:=cnt_le bg b1 (by rw [h2,hP1.lb]) hP1.bgm
    obtain ⟨Xj,o2,k2,b2,⟨K2,hK2⟩,hP2,hr2⟩:=ih (j+1) r o1 k1 b1 (by omega) hP1.lo hP1.lb (by omega)
    refine ⟨Xj,o2,k2,b2,⟨max K1 K2+1,fun k m hk hm'=>?_⟩,hP1.trans hP2,fun hok hJ=>?_⟩
    · obtain ⟨m,rfl⟩:∃q,m=q+1:=⟨m-1,by omega⟩
      rw [dG.l0,if_pos (by simp;omega),if_pos (by omega),gG,hi,show dG.f k _ _ _ _ _=_ from hK1 k (by omega)]
      simp only [Option.bind_some]
      rw [fP hlt hvl]
      exact hK2 k m (by omega) (by omega)
    · obtain ⟨h5,h6⟩:=hr2 hok (hP1.jn (hP2.okm hok) hJ)
      obtain ⟨h7,h8⟩:=hr1 (hP2.okm hok) hJ
      have h9:=hP2.keep hok i (by rw [←h8];exact h7)
      rw [je 0 hlt,hi]
      refine ⟨fun c hc'=>?_,?_⟩
      · rcases List.mem_cons.1 hc' with rfl|hc'
        · simp only [Int.toNat_natCast]
          rw [h9,←h8];exact h7
        · exact h5 c hc'
      · rw [List.foldl_cons,h6]
        simp only [Int.toNat_natCast]
        rw [h9,←h8]
theorem JA (hS : ∀ d ∈ defs, ShD d defs.length) : ∀ (c : Nat) (i : Nat) (out : List Int) (ok : Bool) (bg : List Bool), i < defs.length → out.length = defs.length → bg.length = defs.length → cnt bg = c → kQ (defs := defs) i out ok bg := by
  intro c
  induction c using Nat.strongRecOn with
  | _ c ihc =>
    intro i out ok bg hi h1 h2 hcnt
    by_cases hA:0<out.getD i 0∨ok=false
    · refine ⟨out.getD i 0,out,ok,bg,⟨1,fun k hk=>?_⟩,Post.rfl' h1 h2,fun hk _=>?_⟩
      · obtain ⟨k,rfl⟩:∃q,k=q+1:=⟨k-1,by omega⟩
        show dG.f (k+1) _ _ _ _ _=_
        rw [dG.f, if_pos (by omega), gG, if_pos (by
          rcases hA with h|h
          · simp only [Bool.or_eq_true,decide_eq_true_eq];exact .inl h
          · simp [h]), if_pos (by omega)]
      · rcases hA with h|h
        · exact ⟨h,rfl⟩
        · rw [h] at hk;cases hk
    · have hA1:¬0<out.getD i 0:=fun h=>hA (.inl h)
      have hok:ok=true:=by cases ok with
        |true=>rfl
        |false=>exact absurd (.inr rfl) hA
      subst hok
      cases hb:bg.getD i false with
      | true =>
        refine ⟨0,out,false,bg,⟨1,fun k hk=>?_⟩,⟨h1,h2,fun _ h=>h,(fun h=>by cases h),(fun h=>by cases h),(fun h=>by cases h),(fun h=>by cases h)⟩,(fun h _=>by cases h)⟩
        obtain ⟨k,rfl⟩:∃q,k=q+1:=⟨k-1,by omega⟩
        show dG.f (k+1) _ _ _ _ _=_
        rw [dG.f,if_pos (by omega),gG,if_neg (by simp only [Bool.not_true,Bool.or_false,decide_eq_true_eq];exact hA1),if_pos (by omega),gG,if_pos hb]
      | false =>
        have hd:=hS _ (getD_mem (z:=ah) hi)
        have hcr:=oG hd
        have hcs:=N9 bg i (by omega) hb
        have Yf:(cont (defs.getD i ah)).length≤9223372036854775807:=by
          have:=hd.few
          unfold cont
          split
          · simp
          · split
            · rw [List.length_map];omega
            · simp
        obtain ⟨Kc,hKc⟩:=xK (d:=defs.getD i ah) (by have:=hd.few;omega)
        obtain ⟨inn,o1,k1,b1,⟨K1,hK1⟩,hP,hr⟩:=Jz (defs:=defs) (c0:=c) (cont (defs.getD i ah)) hcr Yf (fun i' out' ok' bg' a b c' d=>ihc (cnt bg') d i' out' ok' bg' a b c' rfl)
          (cont (defs.getD i ah)).length 0 0 out true (bg.set i true) (by omega) h1 (by simpa using h2) (by omega)
        rw [List.drop_zero] at hr
        have hb1:(bg.set i true).getD i false=true:=by rw [ny (by omega),if_pos rfl]
        have hbm:∀j,bg.getD j false=true→(bg.set i true).getD j false=true:=fun j hj=>by
          rw [ny (by omega)]
          split
          · rfl
          · exact hj
        have fin : Jn defs out → (k1 && decide (nval (defs.getD i ah) inn ≤ 512)) = true → 0 < nval (defs.getD i ah) inn ∧ Jn defs (o1.set i (nval (defs.getD i ah) inn)) := by
          intro hJ hk
          simp only [Bool.and_eq_true,decide_eq_true_eq] at hk
          obtain ⟨hk1,Yg⟩:=hk
          obtain ⟨hr1,hr2⟩:=hr hk1 hJ
          have hi0:=hP.stack hk1 i hb1 (by omega)
          have hJ1:=hP.jn hk1 hJ
          have YX:inn=inner o1 (defs.getD i ah):=hr2
          have Yh:0<nval (defs.getD i ah) inn:=by
            obtain ⟨rk,B,hB⟩:=hJ1
            have href:(defs.getD i ah).aF=3∨(defs.getD i ah).aF=6→0<inn∧inn≤512:=by
              intro hk
              have hcd:cont (defs.getD i ah)=[(defs.getD i ah).dY]:=by
                unfold cont
                rw [if_pos (by simp only [Bool.or_eq_true,beq_iff_eq];exact hk)]
              rw [hcd] at hr1 hcr
              have h5:=hr1 _ (List.mem_singleton.2 rfl)
              have h6:=hcr _ (List.mem_singleton.2 rfl)
              have h7:=hB (defs.getD i ah).dY.toNat (by omega) h5
              rw [YX]
              unfold inner
              rw [hcd]
              simp only [List.foldl_cons,List.foldl_nil]
              exact ⟨h5,h7.2.1⟩
            have hkd:=hd.kind
            have hnum:=hd.num
            have hint:=hd.int
            unfold nval
            by_cases e1:(defs.getD i ah).aF=1
            · rw [if_pos e1];have:=hint e1;omega
            · rw [if_neg e1]
              by_cases e2:(defs.getD i ah).aF=2
              · rw [if_pos e2];decide
              · rw [if_neg e2]
                by_cases e3:(defs.getD i ah).aF=3
                · rw [if_pos e3]
                  obtain ⟨h5,h6⟩:=href (.inl e3)
                  obtain ⟨h7,h8⟩:=hnum (.inl e3)
                  have h9:(defs.getD i ah).vN*inn≤512*512:=Int.mul_le_mul h8 h6 (by omega) (by omega)
                  have h10:0<(defs.getD i ah).vN*inn:=Int.mul_pos (by omega) h5
                  rw [jC (by omega) (by omega)]
                  exact h10
                · rw [if_neg e3]
                  by_cases e4:(defs.getD i ah).aF=4
                  · rw [if_pos e4];have:=hnum (.inr e4);omega
                  · rw [if_neg e4]
                    by_cases e5:(defs.getD i ah).aF=5
                    · rw [if_pos e5];decide
                    · rw [if_neg e5,if_pos (by omega)]
                      exact (href (.inr (by omega))).1
          refine ⟨Yh,?_⟩
          obtain ⟨rk,B,hB⟩:=hJ1
          have hne:∀c:Int,0<o1.getD c.toNat 0→¬i=c.toNat:=fun c hc e=>by rw [←e] at hc;omega
          have hset:∀j,¬i=j→(o1.set i (nval (defs.getD i ah) inn)).getD j 0=o1.getD j 0:=fun j hj=>by rw [ny (by rw [hP.lo];exact hi),if_neg hj]
          have hin:∀d:bV,(∀c∈cont d,0<o1.getD c.toNat 0)→inner (o1.set i (nval (defs.getD i ah) inn)) d=inner o1 d:=by
            intro d hcd
            have key:∀(l:List Int) (z0:Int),(∀c∈l,0<o1.getD c.toNat 0)→l.foldl (fun _ c=>(o1.set i (nval (defs.getD i ah) inn)).getD c.toNat 0) z0=l.foldl (fun _ c=>o1.getD c.toNat 0) z0:=by
              intro l
              induction l with
              |nil=>intro _ _;rfl
              | cons c l ihl =>
                intro z0 hcd
                rw [List.foldl_cons,List.foldl_cons,hset _ (hne c (hcd c List.mem_cons_self))]
                exact ihl _ (fun c hc=>hcd c (List.mem_cons_of_mem _ hc))
            exact key _ _ hcd
          refine ⟨fun j=>if i=j then B else rk j,B+1,fun j hj hpos=>?_⟩
          show (if i=j then B else rk j)<B+1∧_∧(∀c:Int,c∈cont (defs.getD j ah)→_∧(if i=c.toNat then B else rk c.toNat)<(if i=j then B else rk j))∧_
          by_cases hij:i=j
          · subst hij
            rw [ny (by rw [hP.lo];exact hi),if_pos rfl,if_pos rfl]
            refine ⟨by omega,Yg,fun c hc=>?_,?_⟩
            · have h5:=hr1 c hc
              have h6:=hcr c hc
              rw [hset _ (hne c h5),if_neg (hne c h5)]
              exact ⟨h5,(hB c.toNat (by omega) h5).1⟩
            · rw [hin _ hr1,←YX]
          · rw [hset j hij] at hpos⊢
            obtain ⟨h5,h6,h7,h8⟩:=hB j hj hpos
            rw [if_neg hij]
            refine ⟨by omega,h6,fun c hc=>?_,?_⟩
            · obtain ⟨h9,h10⟩:=h7 c hc
              rw [hset _ (hne c h9),if_neg (hne c h9)]
              exact ⟨h9,h10⟩
            · rw [hin _ (fun c hc=>(h7 c hc).1)];exact h8
        refine ⟨nval (defs.getD i ah) inn,o1.set i (nval (defs.getD i ah) inn),k1&&decide (nval (defs.getD i ah) inn≤512),b1,⟨max Kc K1+1,fun k hk=>?_⟩,?_,?_⟩
        · obtain ⟨k,rfl⟩:∃q,k=q+1:=⟨k-1,by omega⟩
          show dG.f (k+1) _ _ _ _ _=_
          rw [dG.f,if_pos (by omega),gG,if_neg (by simp only [Bool.not_true,Bool.or_false,decide_eq_true_eq];exact hA1),if_pos (by omega),gG,if_neg (by rw [hb];simp),if_pos (by omega),if_pos (by omega),gG,show fQ.f k _=_ from hKc k (by omega)]
          simp only [Option.bind_some,Int.toNat_natCast]
          rw [show dG.l0 (dG.f k) defs _ k 0 0 true out _=_ from hK1 k k (by omega) (by omega)]
          simp only [Option.bind_some]
          rw [if_pos (by rw [hP.lo];omega)]
          simp only [N7]
        · refine ⟨by simp [hP.lo],hP.lb,fun j hj=>hP.bgm j (hbm j hj),fun _=>rfl,fun hk j hj=>?_,fun hk j hj ho=>?_,fun hk hJ=>?_⟩
          · have hk1:k1=true:=by simp only [Bool.and_eq_true] at hk;exact hk.1
            rw [ny (by rw [hP.lo];exact hi),if_neg (fun e=>hA1 (by subst e;exact hj))]
            exact hP.keep hk1 j hj
          · have hk1:k1=true:=by simp only [Bool.and_eq_true] at hk;exact hk.1
            rw [ny (by rw [hP.lo];exact hi),if_neg (fun e=>by subst e;rw [hb] at hj;cases hj)]
            exact hP.stack hk1 j (hbm j hj) ho
          · exact (fin hJ hk).2
        · intro hk hJ
          refine ⟨(fin hJ hk).1,?_⟩
          rw [ny (by rw [hP.lo];exact hi),if_pos rfl]
end
theorem Jn.zero {defs : List bV} {n : Nat} : Jn defs (List.replicate n 0) := ⟨fun _ => 0, 0, fun j hj h => by
 exfalso
 rw [List.getD_eq_getElem?_getD,List.getElem?_replicate] at h
 split at h <;> simp at h⟩
theorem Qj {t : bf} (hS : ∀ d ∈ t.ay, ShD d t.ay.length) (hn : t.ay.length ≤ 9223372036854775807) : ∀ (e j : Nat) (ok : Bool) (bg : List Bool) (out : List Int), j + e = t.ay.length → out.length = t.ay.length → bg.length = t.ay.length →
    ∃ok' bg' out',Ev2 (fun k m=>fK.l0 k t m (j:Int) ok bg out) (ok',bg',out')∧Post t.ay out ok bg out' ok' bg'∧(ok'=true→Jn t.ay out→∀q,j≤q→q<t.ay.length→0<out'.getD q 0):=by
  intro e
  induction e with
  | zero =>
    intro j ok bg out hj h1 h2
    refine ⟨ok,bg,out,Ev2.pure (fun k m=>?_),Post.rfl' h1 h2,fun _ _ q hq hq2=>by omega⟩
    rw [fK.l0,if_neg (by simp;omega)]
  | succ e ih =>
    intro j ok bg out hj h1 h2
    have hlt:j<t.ay.length:=by omega
    obtain ⟨r,o1,k1,b1,hE,hP1,hr1⟩:=JA hS (cnt bg) j out ok bg hlt h1 h2 rfl
    obtain ⟨ok',bg',out',hE2,hP2,hr2⟩:=ih (j+1) k1 b1 o1 (by omega) hP1.lo hP1.lb
    refine ⟨ok',bg',out',Ev2.step hE (r:=fun k m (v1:Int×List Int×Bool×List Bool)=>fK.l0 k t m (IntKind.wrap .i64 ((j:Int)+1)) v1.2.2.1 v1.2.2.2 v1.2.1) ?_ (fun k m=>?_),hP1.trans hP2,fun hok hJ q hq hq2=>?_⟩
    · simp only
      rw [fP hlt hn]
      exact hE2
    · rw [fK.l0,if_pos (by simp;omega)]
    · by_cases hqj:q=j
      · subst hqj
        obtain ⟨h3,h4⟩:=hr1 (hP2.okm hok) hJ
        rw [hP2.keep hok q (by rw [←h4];exact h3),←h4]
        exact h3
      · exact hr2 hok (hP1.jn (hP2.okm hok) hJ) q (by omega) hq2
theorem Qk {t:bf} (hS:∀d∈t.ay,ShD d t.ay.length) (hn:t.ay.length≤200):∃out ok,Ev (fun k=>fK.f k t) (out,ok)∧out.length=t.ay.length∧(ok=true→Jn t.ay out∧∀q,q<t.ay.length→0<out.getD q 0):=by
 obtain ⟨ok,bg,out,hE,hP,hr⟩:=Qj hS (by omega) t.ay.length 0 true (List.replicate t.ay.length false) (List.replicate t.ay.length 0) (by omega) (by simp) (by simp)
 obtain ⟨K,hK⟩:=hE.diag
 refine ⟨out,ok,⟨K,fun k hk=>?_⟩,hP.lo,fun hok=>⟨hP.jn hok Jn.zero,fun q hq=>hr hok Jn.zero q (by omega) hq⟩⟩
 show fK.f k t=_
 unfold fK.f
 rw [if_pos (by omega),if_pos (by omega)]
 simp only [Int.toNat_natCast]
 rw [show fK.l0 k t k 0 true _ _=_ from hK k hk]
 rfl
def lN (l:List Int):Int→List dP→Option Int
 |at_,[]=>some at_
 |at_,f::r=>if ((decide (f.vAt<at_))||(decide (f.vAt>512)))=true then none else lN l (IntKind.wrap .i64 (f.vAt+rd 0 l f.vType)) r
def sF (d:bV) (l:List Int):Bool:=match lN l 0 d.au with|none=>false|some e=>decide (e≤d.vN)
theorem Gv {d:bV} {l:List Int} (hl:d.au.length≤9223372036854775807) (ht:∀f∈d.au,0≤f.vType∧f.vType<l.length):∀(e j m:Nat) (at_:Int),j+e=d.au.length→e<m→
    iJ.l0 d l m at_ (j:Int)=some (match lN l at_ (d.au.drop j) with|none=> .inl false|some a=> .inr a):=by
  intro e
  induction e with
  | zero =>
    intro j m at_ hj hm
    obtain ⟨m,rfl⟩:∃q,m=q+1:=⟨m-1,by omega⟩
    rw [iJ.l0,if_neg (by simp;omega),List.drop_eq_nil_of_le (by omega)]
    rfl
  | succ e ih =>
    intro j m at_ hj hm
    obtain ⟨m,rfl⟩:∃q,m=q+1:=⟨m-1,by omega⟩
    have hlt:j<d.au.length:=by omega
    have hf:=ht _ (getD_mem (z:=ak) hlt)
    rw [iJ.l0,if_pos (by simp;omega),if_pos (by omega),gG,je ak hlt]
    simp only [lN]
    by_cases hc:((decide ((d.au.getD j ak).vAt<at_))||(decide ((d.au.getD j ak).vAt>512)))=true
    · rw [if_pos hc,if_pos hc]
    · rw [if_neg hc,if_neg hc,if_pos hf,fP hlt hl,ih (j+1) m _ (by omega) (by omega)]
theorem EP {d:bV} {l:List Int} (hl:d.au.length≤9223372036854775807) (ht:∀f∈d.au,0≤f.vType∧f.vType<l.length):Ev (fun k=>iJ.f k d l) (sF d l):=by
 refine ⟨d.au.length+1,fun k hk=>?_⟩
 show iJ.f k d l=_
 unfold iJ.f sF
 rw [show iJ.l0 d l k 0 0=_ from Gv hl ht d.au.length 0 k 0 (by omega) (by omega),List.drop_zero]
 cases lN l 0 d.au<;>rfl
def mJ (d:bV):Bool:=(d.aF !=2)&&(d.aF !=3)
def uo (defs:List bV):Nat→bV→Bool
 |0,d=> !mJ d
 |m+1,d=>if mJ d=true then false else uo defs m (rd ah defs d.dY)
theorem Oa {t : bf} (hS : ∀ d ∈ t.ay, ShD d t.ay.length) (hn : t.ay.length ≤ 9223372036854775807) : ∀ (e j m : Nat) (d : bV), d ∈ t.ay → j + e = t.ay.length → e < m →
    ((iI.l0 t m (j:Int) d.aF d.aU d.bW.aS d.bW.aO d.dY d.vN d.au).bind fun xx1=>(match xx1 with| .inl r=>some r| .inr s1=>(jJ.f (⟨s1.1,s1.2.1,(⟨s1.2.2.1,s1.2.2.2.1⟩:eP),s1.2.2.2.2.1,s1.2.2.2.2.2.1,s1.2.2.2.2.2.2⟩:bV)).bind fun v2=>(some (!v2))))=some (uo t.ay e d):=by
  intro e
  induction e with
  | zero =>
    intro j m d hd hj hm
    obtain ⟨m,rfl⟩:∃q,m=q+1:=⟨m-1,by omega⟩
    rw [iI.l0,if_neg (by simp;omega)]
    rfl
  | succ e ih =>
    intro j m d hd hj hm
    obtain ⟨m,rfl⟩:∃q,m=q+1:=⟨m-1,by omega⟩
    rw [iI.l0,if_pos (by simp;omega)]
    simp only [jJ.f,Option.bind_some,uo]
    show (Option.bind (if mJ d=true then _ else _) _)=_
    by_cases hnm:mJ d=true
    · rw [if_pos hnm,if_pos hnm];rfl
    · rw [if_neg hnm,if_neg hnm]
      have hk:d.aF=2∨d.aF=3:=by
        unfold mJ at hnm
        by_cases h2:d.aF=2
        · exact .inl h2
        · by_cases h3:d.aF=3
          · exact .inr h3
          · exact absurd (by simp [h2,h3]) hnm
      have hr:=(hS d hd).ref (by omega)
      rw [if_pos hr,fP (show j<t.ay.length by omega) hn]
      have:=ih (j+1) m (rd ah t.ay d.dY) (Rq hr.1 hr.2) (by omega) (by omega)
      simp only [jJ.f,Option.bind_some] at this
      exact this
theorem Oc {t:bf} (hS:∀d∈t.ay,ShD d t.ay.length) (hn:t.ay.length≤200):Ev (fun k=>og.f k t) (!(t.ay.any (uo t.ay t.ay.length))):=by
 have h := um (l := t.ay) (p := fun k z0 => iI.f k z0 t) (q := uo t.ay t.ay.length) (fun z hz => ⟨t.ay.length + 1, fun k hk => by
  show iI.f k z t=_
  unfold iI.f
  exact Oa hS (by omega) t.ay.length 0 k z hz (by omega) (by omega)⟩) (by omega)
 exact (h.bind (g:=fun k v1=>some (!v1)) (Ev.pure fun _=>rfl)).congr fun k=>rfl
def zG (n:Nat):List ByteArray→List bV→Bool
 |_,[]=>true
 |ns,d::r=>oM d (n:Int)&& !(mJ d&&ns.any (strEq d.aU))&&zG n (d.aU::ns) r
structure ER (d:bV):Prop where
 name:d.aU.size≤9223372036854775807
 len:d.au.length≤9223372036854775807
 names:∀f∈d.au,f.aU.size≤9223372036854775807
theorem BK {t : bf} (hF : ∀ d ∈ t.ay, ER d) (hn : t.ay.length ≤ 9223372036854775807) : ∀ (e j : Nat) (m : List (ByteArray × Bool)) (ns : List ByteArray), j + e = t.ay.length → tN m ns →
    ∃v,Ev2 (fun k q=>dF.l0 k t q (j:Int) m) v∧(match v with| .inl b=>b=false∧zG t.ay.length ns (t.ay.drop j)=false| .inr _=>zG t.ay.length ns (t.ay.drop j)=true):=by
  intro e
  induction e with
  | zero =>
    intro j m ns hj hm
    refine ⟨.inr m,Ev2.pure (fun k q=>?_),?_⟩
    · rw [dF.l0,if_neg (by simp;omega)]
    · rw [List.drop_eq_nil_of_le (by omega)];rfl
  | succ e ih =>
    intro j m ns hj hm
    have hlt:j<t.ay.length:=by omega
    have hmem:=getD_mem (z:=ah) hlt
    have hFd:=hF _ hmem
    obtain ⟨v,hv,hp⟩:=ih (j+1) (fJ strEq m (t.ay.getD j ah).aU true) ((t.ay.getD j ah).aU::ns) (by omega) (hm.put _)
    have hs:=NZ (n:=(t.ay.length:Int)) hFd.len hFd.names hFd.name
    rw [je ah hlt]
    have hstep:∀k q,dF.l0 k t (q+1) (j:Int) m=(gB.f k (t.ay.getD j ah) (t.ay.length:Int)).bind fun v1=>
        if ((!v1)||(mJ (t.ay.getD j ah)&&ns.any (strEq (t.ay.getD j ah).aU)))=true then some (.inl false) else dF.l0 k t q ((j+1:Nat):Int) (fJ strEq m (t.ay.getD j ah).aU true):=by
      intro k q
      rw [dF.l0,if_pos (by simp;omega),if_pos (by omega),gG,fP hlt hn,hm]
      congr 1
      funext v1
      simp only [jJ.f]
      cases v1 with
      |false=>simp
      |true=>rfl
    simp only [zG]
    generalize hf:t.ay.getD j ah=d at*
    by_cases hc:(oM d (t.ay.length:Int)&& !(mJ d&&ns.any (strEq d.aU)))=true
    · refine ⟨v,Ev2.step hs (r:=fun k q v1=>if ((!v1)||(mJ d&&ns.any (strEq d.aU)))=true then some (.inl false) else dF.l0 k t q ((j+1:Nat):Int) (fJ strEq m d.aU true)) ?_ hstep,?_⟩
      · obtain ⟨K,hK⟩:=hv
        refine ⟨K,fun k q hk hq=>?_⟩
        simp only [Bool.and_eq_true,Bool.not_eq_true'] at hc
        show (if _ then _ else _)=_
        rw [hc.1,hc.2]
        simpa using hK k q hk hq
      · rw [hc]
        cases v with
        |inl b=>simpa using hp
        |inr b=>simpa using hp
    · rw [Bool.not_eq_true] at hc
      refine ⟨.inl false,Ev2.step hs (r:=fun k q v1=>if ((!v1)||(mJ d&&ns.any (strEq d.aU)))=true then some (.inl false) else dF.l0 k t q ((j+1:Nat):Int) (fJ strEq m d.aU true)) ⟨0,fun k q _ _=>?_⟩ hstep,rfl,by rw [hc];rfl⟩
      show (if _ then _ else _)=_
      rw [if_pos]
      cases h1:oM d (t.ay.length:Int) with
      |false=>rfl
      |true=>rw [h1] at hc;simpa using hc
theorem Dz {n:Nat}:∀(ns:List ByteArray) (l:List bV),zG n ns l=true→∀d∈l,ShD d n
  |_,[],_=>by simp
  | ns, d :: r, h => by
    simp only [zG,Bool.and_eq_true] at h
    intro x hx
    rcases List.mem_cons.1 hx with rfl|hx
    · exact N8 h.1.1
    · exact Dz _ r h.2 x hx
structure DC (t:bf) (l:List Int):Prop where
 few:t.ay.length≤200
 sh:∀d∈t.ay,ShD d t.ay.length
 sizes:Ev (fun k=>fK.f k t) (l,true)
 len:l.length=t.ay.length
 jn:Jn t.ay l
 pos:∀q,q<t.ay.length→0<l.getD q 0
 ends:∀d∈t.ay,uo t.ay t.ay.length d=false
 placed:∀d∈t.ay,d.aF=4→sF d l=true
 defs:zG t.ay.length [] t.ay=true
theorem Ql {t : bf} (hF : ∀ d ∈ t.ay, ER d) : ∃ b, Ev (fun k => dF.f k t) b ∧ (b = true → ∃ l, DC t l) := by
  by_cases hn:(t.ay.length:Int)>200
  · refine ⟨false,Ev.pure (fun k=>?_),fun h=>by cases h⟩
    unfold dF.f
    rw [if_pos (by simpa using hn)]
  · have hn : t.ay.length ≤ 200 := by omega
    have hcond:¬decide ((t.ay.length:Int)>200)=true:=by simp;omega
    obtain ⟨v,hv,hp⟩:=BK hF (by omega) t.ay.length 0 [] [] (by omega) tN.nil
    rw [List.drop_zero] at hp
    cases v with
    | inl b =>
      simp only at hp
      obtain ⟨rfl,hp⟩:=hp
      obtain ⟨K,hK⟩:=hv.diag
      refine ⟨false,⟨K,fun k hk=>?_⟩,fun h=>by cases h⟩
      show dF.f k t=_
      unfold dF.f
      rw [if_neg hcond,show dF.l0 k t k 0 []=_ from hK k hk]
      rfl
    | inr m =>
      simp only at hp
      have hS:=Dz _ _ hp
      obtain ⟨out,ok,hsz,hlen,hok⟩:=Qk hS hn
      obtain ⟨K,hK⟩:=hv.diag
      obtain ⟨K2,hK2⟩:=hsz
      cases ok with
      | false =>
        refine ⟨false,⟨max K K2,fun k hk=>?_⟩,fun h=>by cases h⟩
        show dF.f k t=_
        unfold dF.f
        rw [if_neg hcond,show dF.l0 k t k 0 []=_ from hK k (by omega)]
        simp only [Option.bind_some]
        rw [show fK.f k t=_ from hK2 k (by omega)]
        simp
      | true =>
        obtain ⟨hJ,hpos⟩:=hok rfl
        obtain ⟨K3,hK3⟩:=Oc hS hn
        obtain ⟨K4, hK4⟩ := um (l := t.ay) (p := fun k z0 => jy.f k z0 out) (q := fun d => (d.aF == 4) && !(sF d out)) (fun d hd => by
          by_cases h4:d.aF=4
          · have:=EP (d:=d) (l:=out) (hF d hd).len (fun f hf=>by have:=(hS d hd).typ h4 f hf;rw [hlen];exact this)
            exact (this.bind (g:=fun k v1=>some ((d.aF==4)&&(!v1))) (Ev.pure fun _=>rfl)).congr fun k=>by
              unfold jy.f
              rw [if_pos (by simp [h4])]
          · refine Ev.pure fun k=>?_
            unfold jy.f
            rw [if_neg (by simp [h4])]
            simp [h4]) (by omega)
        cases he:t.ay.any (uo t.ay t.ay.length) with
        | true =>
          refine ⟨false,⟨max (max K K2) K3,fun k hk=>?_⟩,fun h=>by cases h⟩
          show dF.f k t=_
          unfold dF.f
          rw [if_neg hcond,show dF.l0 k t k 0 []=_ from hK k (by omega)]
          simp only [Option.bind_some]
          rw [show fK.f k t=_ from hK2 k (by omega)]
          simp only [Option.bind_some]
          rw [show og.f k t=_ from hK3 k (by omega),he]
          simp
        | false =>
          refine ⟨!(t.ay.any fun d=>(d.aF==4)&& !(sF d out)),⟨max (max K K2) (max K3 K4),fun k hk=>?_⟩,fun h=>⟨out,hn,hS,⟨K2,hK2⟩,hlen,hJ,hpos,fun d hd=>?_,fun d hd h4=>?_,hp⟩⟩
          · show dF.f k t=_
            unfold dF.f
            rw [if_neg hcond,show dF.l0 k t k 0 []=_ from hK k (by omega)]
            simp only [Option.bind_some]
            rw [show fK.f k t=_ from hK2 k (by omega)]
            simp only [Option.bind_some]
            rw [show og.f k t=_ from hK3 k (by omega),he]
            simp only [Bool.not_true,Bool.not_false,beq_self_eq_true,Bool.and_self,if_true,Option.bind_some,Bool.or_self,Bool.false_eq_true,if_false]
            rw [show cO.f k t.ay _=_ from hK4 k (by omega)]
            rfl
          · have:=List.any_eq_false.1 he d hd
            simpa using this
          · simp only [Bool.not_eq_true'] at h
            have:=List.any_eq_false.1 h d hd
            simpa [h4] using this
theorem ZO {x y:Int} (h:x=y):(x==y)=true:=beq_iff_eq.2 h
theorem ZP {x y:Int} (h:x≠y):¬(x==y)=true:=fun e=>h (beq_iff_eq.1 e)
theorem Yi {x y:Int} (h:x≠y):(x !=y)=true:=by simpa using h
theorem Yj {x y:Int} (h:x=y):¬(x !=y)=true:=by simp [h]
theorem ZQ {p:Prop} [Decidable p] (h:p):decide p=true:=decide_eq_true h
theorem ZR {p:Prop} [Decidable p] (h:¬p):¬decide p=true:=fun e=>h (of_decide_eq_true e)
section
variable {t:bf} {l:List Int}
theorem BL {d:bV} (h:d.aF=6):cont d=[d.dY]:=by
 unfold cont
 rw [if_pos (by simp [h])]
theorem uq (G : DC t l) : ∀ i, i < t.ay.length → ∃ r, r < t.ay.length ∧ Ev (fun k => eF.f k t (i : Int)) (r : Int) ∧ (t.ay.getD r ah).aF ≠ 6 ∧ l.getD r 0 = l.getD i 0 := by
  obtain ⟨rk,B,hB⟩:=G.jn
  suffices h:∀(c i:Nat),rk i=c→i<t.ay.length→∃r,r<t.ay.length∧(∃K,∀m,K≤m→eF.l0 t m (i:Int)=some (r:Int))∧(t.ay.getD r ah).aF≠6∧l.getD r 0=l.getD i 0 by
    intro i hi
    obtain ⟨r,h1,⟨K,hK⟩,h3,h4⟩:=h _ i rfl hi
    refine ⟨r,h1,⟨K,fun k hk=>?_⟩,h3,h4⟩
    show eF.f k t (i:Int)=_
    unfold eF.f
    rw [hK k hk]
    rfl
  intro c
  induction c using Nat.strongRecOn with
  | _ c ih =>
    intro i hc hi
    by_cases h6:(t.ay.getD i ah).aF=6
    · have hd:=G.sh _ (getD_mem (z:=ah) hi)
      obtain ⟨h7,h8,h9,h10⟩:=hB i hi (G.pos i hi)
      rw [BL h6] at h9
      have hr:=hd.ref (.inr (.inr h6))
      obtain ⟨h11,h12⟩:=h9 _ (List.mem_singleton.2 rfl)
      obtain ⟨r,h1,⟨K,hK⟩,h3,h4⟩:=ih _ (by rw [←hc];exact h12) (t.ay.getD i ah).dY.toNat rfl (by omega)
      refine ⟨r,h1,⟨K+1,fun m hm=>?_⟩,h3,?_⟩
      · obtain ⟨m,rfl⟩:∃q,m=q+1:=⟨m-1,by omega⟩
        rw [eF.l0,if_pos (by omega),gG,if_pos (ZO h6)]
        rw [if_pos (by omega)]
        have:=hK m (by omega)
        rwa [show (((t.ay.getD i ah).dY.toNat:Nat):Int)=(t.ay.getD i ah).dY by omega] at this
      · rw [h4,h10]
        unfold nval inner
        rw [BL h6,if_neg (by omega),if_neg (by omega),if_neg (by omega),if_neg (by omega),if_neg (by omega),if_pos h6]
        rfl
    · refine ⟨i,hi,⟨1,fun m hm=>?_⟩,h6,rfl⟩
      obtain ⟨m,rfl⟩:∃q,m=q+1:=⟨m-1,by omega⟩
      rw [eF.l0,if_pos (by omega),gG,if_neg (ZP h6)]
def Xk (d:bV) (name:ByteArray):dP×Int:=
 if d.aF≠4 then (⟨ByteArray.empty,0,0⟩,5) else match d.au.find? fun f=>strEq f.aU name with|some f=>(f,0)|none=>(⟨ByteArray.empty,0,0⟩,3)
theorem Gw {name:ByteArray} {r:Nat} (hl:(t.ay.getD r ah).au.length≤9223372036854775807):∀(e j m:Nat),j+e=(t.ay.getD r ah).au.length→e<m→
    fZ.l0 t name (r:Int) m (j:Int)=some (match ((t.ay.getD r ah).au.drop j).find? fun f=>strEq f.aU name with|some f=> .inl (f,0)|none=> .inr ()):=by
  intro e
  induction e with
  | zero =>
    intro j m hj hm
    obtain ⟨m,rfl⟩:∃q,m=q+1:=⟨m-1,by omega⟩
    rw [fZ.l0,gG,if_neg (ZR (by omega)),List.drop_eq_nil_of_le (by omega)]
    rfl
  | succ e ih =>
    intro j m hj hm
    obtain ⟨m,rfl⟩:∃q,m=q+1:=⟨m-1,by omega⟩
    have hlt:j<(t.ay.getD r ah).au.length:=by omega
    rw [fZ.l0,gG,if_pos (ZQ (by omega)),if_pos (by omega),gG,je ak hlt,List.find?_cons]
    cases hb:strEq ((t.ay.getD r ah).au.getD j ak).aU name with
    |true=>rw [if_pos rfl]
    |false=>rw [if_neg (by simp),fP hlt hl];exact ih (j+1) m (by omega) (by omega)
theorem ES {i r:Nat} {name:ByteArray} (G:DC t l) (hr:r<t.ay.length) (he:Ev (fun k=>eF.f k t (i:Int)) (r:Int)):Ev (fun k=>fZ.f k t (i:Int) name) (Xk (t.ay.getD r ah) name):=by
 have hd:=G.sh _ (getD_mem (z:=ah) hr)
 obtain ⟨K,hK⟩:=he
 refine ⟨max K ((t.ay.getD r ah).au.length+1),fun k hk=>?_⟩
 show fZ.f k t (i:Int) name=_
 unfold fZ.f Xk
 rw [show eF.f k t (i:Int)=_ from hK k (by omega)]
 simp only [Option.bind_some]
 rw [if_pos (by omega),gG]
 by_cases h4:(t.ay.getD r ah).aF=4
 ·rw [if_neg (Yj h4),if_neg (fun h=>h h4),show fZ.l0 t name (r:Int) k 0=_ from Gw (by have:=hd.few;omega) _ 0 k (Nat.zero_add _) (by omega),List.drop_zero]
  cases (t.ay.getD r ah).au.find? fun f=>strEq f.aU name<;>rfl
 ·rw [if_pos (Yi h4),if_pos h4]
theorem BM (hv:Ev (fun k=>dF.f k t) true) (i:Int):Ev (fun k=>iC.f k t i) (if 0≤i∧i<t.ay.length then 0 else 3):=by
 obtain ⟨K,hK⟩:=hv
 refine ⟨K,fun k hk=>?_⟩
 show iC.f k t i=_
 unfold iC.f
 rw [show dF.f k t=_ from hK k hk]
 simp only [Option.bind_some,Bool.not_true,Bool.false_eq_true,if_false]
 by_cases h:0≤i∧i<t.ay.length
 ·rw [if_pos h,if_neg (by simp;omega)]
 ·rw [if_neg h,if_pos (by simp;omega)]
theorem Oe (hv:Ev (fun k=>dF.f k t) false) (i:Int):Ev (fun k=>iC.f k t i) 80:=by
 obtain ⟨K,hK⟩:=hv
 refine ⟨K,fun k hk=>?_⟩
 show iC.f k t i=_
 unfold iC.f
 rw [show dF.f k t=_ from hK k hk]
 rfl
theorem yg (hv:Ev (fun k=>dF.f k t) true) {i:Nat} (hi:i<t.ay.length):Ev (fun k=>iC.f k t (i:Int)) 0:=by
 have:=BM hv (i:Int)
 rwa [if_pos (by omega)] at this
theorem JB {r:Nat} (hv:Ev (fun k=>dF.f k t) true) {i:Nat} (hi:i<t.ay.length) (hr:Ev (fun k=>eF.f k t (i:Int)) (r:Int)):Ev (fun k=>kD.f k t (i:Int)) ((r:Int),0):=by
 obtain ⟨K,hK⟩:=yg hv hi
 obtain ⟨K2,hK2⟩:=hr
 refine ⟨max K K2,fun k hk=>?_⟩
 show kD.f k t _=_
 unfold kD.f
 rw [show iC.f k t (i:Int)=_ from hK k (by omega)]
 simp only [Option.bind_some]
 rw [if_neg (by simp),show eF.f k t _=_ from hK2 k (by omega)]
 rfl
def nC (mem:Nat→ByteArray→dP×Int):List ByteArray→Nat→Int→Int×Int×Int
 |[],i,a=>((i:Int),a,0)
 |n::r,i,a=>if (mem i n).2≠0 then (0,0,(mem i n).2) else nC mem r (mem i n).1.vType.toNat (IntKind.wrap .i64 (a+(mem i n).1.vAt))
structure JC (t:bf) (mem:Nat→ByteArray→dP×Int):Prop where
 ev:∀i name,i<t.ay.length→Ev (fun k=>fZ.f k t (i:Int) name) (mem i name)
 typ:∀i name,i<t.ay.length→(mem i name).2=0→0≤(mem i name).1.vType∧(mem i name).1.vType<t.ay.length
theorem RH (G : DC t l) : ∃ mem, JC t mem := by
  have key:∀(i:Nat) (name:ByteArray),∃v:dP×Int,i<t.ay.length→Ev (fun k=>fZ.f k t (i:Int) name) v∧(v.2=0→0≤v.1.vType∧v.1.vType<t.ay.length):=by
    intro i name
    by_cases hi:i<t.ay.length
    · obtain ⟨r,h1,h2,h3,h4⟩:=uq G i hi
      refine ⟨_,fun _=>⟨ES G h1 h2,?_⟩⟩
      unfold Xk
      by_cases hk:(t.ay.getD r ah).aF=4
      · rw [if_neg (fun h=>h hk)]
        cases hf:(t.ay.getD r ah).au.find? fun f=>strEq f.aU name with
        |none=>intro h;cases h
        |some f=>intro _;exact (G.sh _ (getD_mem h1)).typ hk f (List.mem_of_find?_eq_some hf)
      · rw [if_pos hk];intro h;cases h
    · exact ⟨(⟨ByteArray.empty,0,0⟩,0),fun h=>absurd h hi⟩
  refine ⟨fun i name=>Classical.choose (key i name),fun i name hi=>(Classical.choose_spec (key i name) hi).1,fun i name hi=>(Classical.choose_spec (key i name) hi).2⟩
theorem Og {mem:Nat→ByteArray→dP×Int} (hm:JC t mem) {p:List ByteArray} (hp:p.length≤9223372036854775807):∀(e j i:Nat) (a:Int),j+e=p.length→i<t.ay.length→
    Ev2 (fun k m=>gY.l0 k t p m (i:Int) a (j:Int)) (if (nC mem (p.drop j) i a).2.2≠0 then .inl (nC mem (p.drop j) i a) else .inr ((nC mem (p.drop j) i a).1,(nC mem (p.drop j) i a).2.1))∧
      ((nC mem (p.drop j) i a).2.2=0→0≤(nC mem (p.drop j) i a).1∧(nC mem (p.drop j) i a).1<t.ay.length):=by
  intro e
  induction e with
  | zero =>
    intro j i a hj hi
    rw [List.drop_eq_nil_of_le (by omega)]
    refine ⟨Ev2.pure fun k m=>?_,fun _=>?_⟩
    · rw [gY.l0,if_neg (by simp;omega)]
      simp [nC]
    · simp only [nC];omega
  | succ e ih =>
    intro j i a hj hi
    have hlt:j<p.length:=by omega
    rw [je ByteArray.empty hlt]
    have hev:=hm.ev i (p.getD j ByteArray.empty) hi
    have hty:=hm.typ i (p.getD j ByteArray.empty) hi
    have hstep:∀k m,gY.l0 k t p (m+1) (i:Int) a (j:Int)=(fZ.f k t (i:Int) (p.getD j ByteArray.empty)).bind fun v2=>if (v2.2 !=0)=true then some (.inl (0,0,v2.2)) else gY.l0 k t p m v2.1.vType (IntKind.wrap .i64 (a+v2.1.vAt)) (((j+1:Nat)):Int):=by
      intro k m
      rw [gY.l0,if_pos (by simp;omega),if_pos (by omega),gG,fP hlt hp]
    have hpv:nC mem (p.getD j ByteArray.empty::p.drop (j+1)) i a=if (mem i (p.getD j ByteArray.empty)).2≠0 then (0,0,(mem i (p.getD j ByteArray.empty)).2) else nC mem (p.drop (j+1)) (mem i (p.getD j ByteArray.empty)).1.vType.toNat (IntKind.wrap .i64 (a+(mem i (p.getD j ByteArray.empty)).1.vAt)):=rfl
    by_cases h0:(mem i (p.getD j ByteArray.empty)).2=0
    · obtain ⟨h1,h2⟩:=hty h0
      obtain ⟨h3,h4⟩:=ih (j+1) (mem i (p.getD j ByteArray.empty)).1.vType.toNat (IntKind.wrap .i64 (a+(mem i (p.getD j ByteArray.empty)).1.vAt)) (by omega) (by omega)
      rw [if_neg (fun h=>h h0)] at hpv
      rw [hpv]
      refine ⟨Ev2.step hev ?_ hstep,h4⟩
      obtain ⟨K,hK⟩:=h3
      refine ⟨K,fun k m hk hm=>?_⟩
      show (if _ then _ else _)=_
      rw [if_neg (Yj h0)]
      have:=hK k m hk hm
      rwa [show (((mem i (p.getD j ByteArray.empty)).1.vType.toNat:Nat):Int)=(mem i (p.getD j ByteArray.empty)).1.vType by omega] at this
    · rw [if_pos h0] at hpv
      rw [hpv]
      refine ⟨Ev2.step hev ⟨0,fun k m _ _=>?_⟩ hstep,fun h=>absurd h h0⟩
      show (if _ then _ else _)=_
      rw [if_pos (Yi h0),if_pos h0]
theorem Oh {mem:Nat→ByteArray→dP×Int} (hm:JC t mem) (hv:Ev (fun k=>dF.f k t) true) {i:Nat} (hi:i<t.ay.length) {p:List ByteArray} (hp:p.length≤16):
  Ev (fun k=>gY.f k t (i:Int) p) (nC mem p i 0)∧((nC mem p i 0).2.2=0→0≤(nC mem p i 0).1∧(nC mem p i 0).1<t.ay.length):=by
 obtain ⟨h1,h2⟩:=Og hm (p:=p) (by omega) p.length 0 i 0 (by omega) hi
 rw [List.drop_zero] at h1 h2
 refine ⟨?_,h2⟩
 obtain ⟨K,hK⟩:=yg hv hi
 obtain ⟨K2,hK2⟩:=h1.diag
 refine ⟨max K K2,fun k hk=>?_⟩
 show gY.f k t _ _=_
 unfold gY.f
 rw [show iC.f k t (i:Int)=_ from hK k (by omega)]
 simp only [Option.bind_some]
 rw [if_neg (by simp),if_neg (by simp;omega),show gY.l0 k t p k (i:Int) 0 0=_ from hK2 k (by omega)]
 simp only [Option.bind_some]
 generalize nC mem p i 0=v
 by_cases h0:v.2.2=0
 ·rw [if_neg (by simp [h0])]
  obtain ⟨a,b,c⟩:=v
  simp only at h0
  subst h0
  rfl
 ·rw [if_pos h0]
end
theorem Oi (s:ByteArray) (i:Int):byteAt s i=rd 0 (bytesOf s) i:=by
 unfold byteAt rd bytesOf
 rw [List.getD_eq_getElem?_getD,List.getD_eq_getElem?_getD,List.getElem?_map]
 cases s.data.toList[i.toNat]?<;>rfl
theorem JD {s:ByteArray} (hl:s.size≤9223372036854775807):∀(d j m:Nat),j+d=s.size→d<m→
    dW.l0 s m (j:Int)=some (if xJ j ((bytesOf s).drop j)=true then .inr () else .inl false):=by
  have hb:=bytesOf_length s
  intro d
  induction d with
  | zero =>
    intro j m hj hm
    obtain ⟨m,rfl⟩:∃q,m=q+1:=⟨m-1,by omega⟩
    rw [dW.l0,if_neg (by simp;omega),List.drop_eq_nil_of_le (by omega)]
    rfl
  | succ d ih =>
    intro j m hj hm
    obtain ⟨m,rfl⟩:∃q,m=q+1:=⟨m-1,by omega⟩
    have hlt:j<s.size:=by omega
    have h1:=zF (s:=s) (by omega) (d+1) j (m+1) (by omega) (by omega)
    rw [gV.l0,if_pos (by simp;omega),if_pos (by omega)] at h1
    rw [dW.l0,if_pos (by simp;omega),if_pos (by omega),Oi]
    rw [←h1]
    split
    · rfl
    · rw [fP hlt hl,ih (j+1) m (by omega) (by omega),zF (by omega) d (j+1) m (by omega) (by omega)]
theorem Oj (s:ByteArray):strEq s ByteArray.empty=decide (s.size=0):=by
 by_cases h:s.size=0
 ·have:s=ByteArray.empty:=by
   cases s with|mk d=>
   have:d=#[]:=Array.size_eq_zero_iff.1 h
   subst this;rfl
  rw [decide_eq_true h];exact kZ.2 this
 ·rw [decide_eq_false h]
  cases hs:strEq s ByteArray.empty with
  |false=>rfl
  |true=>exact absurd (by rw [kZ.1 hs];rfl) h
theorem IB {s:ByteArray} (hs:s.size≤9223372036854775807):Ev (fun k=>dW.f k s) (qY s):=by
 refine ⟨s.size+1,fun k hk=>?_⟩
 show dW.f k s=_
 unfold dW.f qY
 rw [Oj]
 by_cases h0:s.size=0
 ·rw [if_pos (by simp [h0])];simp [h0]
 ·by_cases h1:(s.size:Int)≤31
  ·rw [if_neg (by simp only [Bool.or_eq_true,beq_iff_eq,decide_eq_true_eq];omega),show (0:Int)=((0:Nat):Int) from rfl,JD hs s.size 0 k (by omega) (by omega),List.drop_zero]
   cases xJ 0 (bytesOf s)<;>simp [h0,h1]
  ·rw [if_pos (by simp only [Bool.or_eq_true,beq_iff_eq,decide_eq_true_eq];omega)];simp [h1]
def tV:List ByteArray→List dP→Bool
 |_,[]=>true
 |ns,f::r=>qY f.aU&& !(ns.any (strEq f.aU))&&tV (f.aU::ns) r
theorem BN (d:bV) (n:Int):∀(l:List dP) (ns:List ByteArray),qR d n ns l=(tV ns l&&l.all (lD d n))
  |[],ns=>rfl
  | f :: r, ns => by
    simp only [qR,tV,BN d n r,List.all_cons]
    cases qY f.aU<;>cases (ns.any (strEq f.aU))<;>cases (lD d n f)<;>cases (tV (f.aU::ns) r)<;>rfl
theorem Ol {l:List dP} (hl:l.length≤9223372036854775807) {i:Nat} (hi:i<l.length):∀(e j m:Nat),j+e=i→e<m→
    bP.l1 l (i:Int) m (j:Int)=some (if (((l.take i).drop j).any fun f=>strEq f.aU (l.getD i ak).aU)=true then .inl false else .inr ()):=by
  intro e
  induction e with
  | zero =>
    intro j m hj hm
    obtain ⟨m,rfl⟩:∃q,m=q+1:=⟨m-1,by omega⟩
    rw [bP.l1,if_neg (by simp;omega),List.drop_eq_nil_of_le (by simp;omega)]
    rfl
  | succ e ih =>
    intro j m hj hm
    obtain ⟨m,rfl⟩:∃q,m=q+1:=⟨m-1,by omega⟩
    have hlt:j<l.length:=by omega
    have hd:(l.take i).drop j=l.getD j ak::(l.take i).drop (j+1):=by
      rw [je ak (by simp;omega)]
      congr 1
      rw [List.getD_eq_getElem?_getD,List.getD_eq_getElem?_getD,List.getElem?_take,if_pos (by omega)]
    rw [bP.l1,if_pos (by simp;omega),if_pos (by omega),if_pos (by omega),gG,gG,hd,List.any_cons]
    by_cases h:strEq (l.getD j ak).aU (l.getD i ak).aU=true
    · rw [if_pos h,h];rfl
    · rw [if_neg h,fP hlt hl,ih (j+1) m (by omega) (by omega)]
      rw [Bool.not_eq_true] at h
      rw [h,Bool.false_or]
theorem Uu (l:List dP) (s:ByteArray):((l.map (·.aU)).reverse.any (strEq s))=l.any fun f=>strEq f.aU s:=by
 rw [List.any_reverse,List.any_map]
 congr 1
 funext f
 exact wZ _ _
theorem Gx {l : List dP} (hl : l.length ≤ 9223372036854775807) (hz : ∀ f ∈ l, f.aU.size ≤ 9223372036854775807) : ∀ (e j : Nat), j + e = l.length →
    Ev2 (fun k m=>bP.l0 k l m (j:Int)) (if tV ((l.take j).map (·.aU)).reverse (l.drop j)=true then .inr () else .inl false):=by
  intro e
  induction e with
  | zero =>
    intro j hj
    refine Ev2.pure fun k m=>?_
    rw [bP.l0,if_neg (by simp;omega),List.drop_eq_nil_of_le (by omega)]
    rfl
  | succ e ih =>
    intro j hj
    have hlt:j<l.length:=by omega
    have hmem:=getD_mem (z:=ak) hlt
    have h1:=IB (hz _ hmem)
    have h2:=ih (j+1) (by omega)
    have ht:((l.take (j+1)).map (·.aU)).reverse=(l.getD j ak).aU::((l.take j).map (·.aU)).reverse:=by
      rw [List.take_add_one,List.map_append,List.reverse_append]
      rw [List.getD_eq_getElem?_getD,List.getElem?_eq_getElem hlt]
      rfl
    rw [ht] at h2
    rw [je ak hlt,tV]
    refine Ev2.step h1 (r:=fun k m v1=>if (!v1)=true then (some (.inl false)) else ((bP.l1 l (j:Int) k 0).bind fun xx2=>(match xx2 with| .inl r=>some (.inl r)| .inr s1=>bP.l0 k l m ((j+1:Nat):Int)))) ?_ (fun k m=>?_)
    · rcases Bool.eq_false_or_eq_true (qY (l.getD j ak).aU) with hn|hn
      · obtain ⟨K,hK⟩:=h2
        rw [hn]
        refine ⟨max K (j+1),fun k m hk hm=>?_⟩
        have h3:=Ol hl hlt j 0 k (by omega) (by omega)
        rw [List.drop_zero] at h3
        simp only [Bool.not_true,Bool.false_eq_true,if_false,Bool.true_and]
        rw [show bP.l1 l (j:Int) k 0=_ from h3,Uu]
        cases ha:(l.take j).any fun f=>strEq f.aU (l.getD j ak).aU with
        |true=>simp
        |false=>simpa using hK k m (by omega) (by omega)
      · exact ⟨0,fun k m _ _=>by rw [hn];rfl⟩
    · rw [bP.l0,if_pos (by simp;omega),if_pos (by omega),gG,fP hlt hl]
      try rfl
theorem Om {l:List dP} (hl:l.length≤9223372036854775807) (hz:∀f∈l,f.aU.size≤9223372036854775807):
  Ev (fun k=>bP.f k l) (decide (0<l.length)&&decide (l.length≤32)&&tV [] l):=by
 by_cases h:l.length=0∨32<l.length
 ·refine Ev.pure fun k=>?_
  unfold bP.f
  rw [if_pos (by simp only [Bool.or_eq_true,beq_iff_eq,decide_eq_true_eq];omega)]
  rcases h with h|h
  ·simp [h]
  ·rw [decide_eq_false (p:=l.length≤32) (by omega)];simp
 ·obtain ⟨K,hK⟩:=(Gx hl hz l.length 0 (by omega)).diag
  refine ⟨K,fun k hk=>?_⟩
  show bP.f k l=_
  unfold bP.f
  rw [if_neg (by simp only [Bool.or_eq_true,beq_iff_eq,decide_eq_true_eq];omega),show bP.l0 k l k 0=_ from hK k hk,decide_eq_true (p:=0<l.length) (by omega),decide_eq_true (p:=l.length≤32) (by omega)]
  simp only [List.take_zero,List.map_nil,List.reverse_nil,List.drop_zero]
  cases tV [] l<;>rfl
theorem ET {t : bf} {d : bV} (hl : d.au.length ≤ 9223372036854775807) : ∀ (e j m : Nat), j + e = d.au.length → e < m →
    dM.l0 t d m (j:Int)=some (if (d.au.drop j).all (lD d (t.ay.length:Int))=true then .inr () else .inl false):=by
  intro e
  induction e with
  | zero =>
    intro j m hj hm
    obtain ⟨m,rfl⟩:∃q,m=q+1:=⟨m-1,by omega⟩
    rw [dM.l0,if_neg (by simp;omega),List.drop_eq_nil_of_le (by omega)]
    rfl
  | succ e ih =>
    intro j m hj hm
    obtain ⟨m,rfl⟩:∃q,m=q+1:=⟨m-1,by omega⟩
    have hlt:j<d.au.length:=by omega
    rw [dM.l0,if_pos (by simp;omega),if_pos (by omega),gG,je ak hlt,fP hlt hl,ih (j+1) m (by omega) (by omega),List.all_cons]
    generalize d.au.getD j ak=f
    unfold lD fG.f
    by_cases h4:d.aF=4
    · have h5:(d.aF==5)=false:=by simp [h4]
      by_cases ha:f.vType<0
      · simp [h4,h5,ha]
        intro h;omega
      · by_cases hb:f.vType<(t.ay.length:Int)
        · have h0:(0:Int)≤f.vType:=by omega
          have h1:¬((t.ay.length:Int)≤f.vType):=by omega
          simp [h4,h5,ha,hb,h0,h1]
        · have h1:(t.ay.length:Int)≤f.vType:=by omega
          simp [h4,h5,ha,hb,h1]
    · by_cases h5:d.aF=5
      · cases hx:((f.vType !=0)||(decide (f.vAt<(-2147483648))))||(decide (f.vAt>2147483647))<;>simp [h5,hx]
      · simp [h4,h5]
theorem zH {d:bV} {n:Int} (h4:d.aF≠4) (h5:d.aF≠5) (l:List dP):l.all (lD d n)=true:=by
 rw [List.all_eq_true]
 intro f _
 unfold lD
 simp [h4,h5]
theorem JF {t:bf} {d:bV} (hl:d.au.length≤9223372036854775807) (hz:∀f∈d.au,f.aU.size≤9223372036854775807) (hz0:d.aU.size≤9223372036854775807):
  Ev (fun k=>dM.f k t d) (oM d (t.ay.length:Int)):=by
 obtain ⟨Kn,hKn⟩:=IB hz0
 obtain ⟨Kf,hKf⟩:=Om hl hz
 have hw:strEq d.aU ByteArray.empty=true→qY d.aU=false:=by
  intro h;unfold qY;rw [h];simp
 refine ⟨max (max Kn Kf) (d.au.length+1),fun k hk=>?_⟩
 show dM.f k t d=_
 have h1:=hKn k (by omega)
 have h2:=hKf k (by omega)
 have h3:=ET (t:=t) (d:=d) hl d.au.length 0 k (by omega) (by omega)
 rw [List.drop_zero] at h3
 unfold dM.f iV.f dU.f fG.f oM shp
 simp only [h1,h2,show dM.l0 t d k 0=_ from h3,BN]
 have hlen:∀n:Nat,((n:Int)==0)=decide (n=0):=by intro n;by_cases h:n=0<;>simp [h]
 have hpos:∀n:Nat,decide (0<n)= !decide (n=0):=by intro n;by_cases h:n=0<;>simp [h];omega
 rw [hlen,hpos]
 have hnil:decide (d.au.length=0)=true→tV [] d.au=true:=by
  intro h
  have:d.au=[]:=List.length_eq_zero_iff.1 (of_decide_eq_true h)
  rw [this];rfl
 have hz32:decide (d.au.length=0)=true→decide (d.au.length≤32)=true:=by
  intro h
  exact decide_eq_true (by have:=of_decide_eq_true h;omega)
 have h55:∀x:Int,(x==0)=decide (x=0):=by intro x;by_cases h:x=0<;>simp [h]
 have hcase:d.aF<1∨d.aF>6∨d.aF=1∨d.aF=2∨d.aF=3∨d.aF=4∨d.aF=5∨d.aF=6:=by omega
 have hall:=fun a b=>zH (d:=d) (n:=(t.ay.length:Int)) a b d.au
 generalize d.au.all (lD d (t.ay.length:Int))=F at*
 generalize qY d.aU=A at*
 generalize strEq d.aU ByteArray.empty=B at*
 generalize decide (d.au.length=0)=C at*
 generalize decide (d.au.length≤32)=D at*
 generalize tV [] d.au=E at*
 generalize d.aF=K at*
 generalize d.bW=I at*
 generalize d.vN=N at*
 generalize d.dY=R at*
 clear h1 h2 h3 hKn hKf hl hz hz0
 have hI:(I.aO==false)= !I.aO:=by cases I.aO<;>rfl
 have hge:decide (R≥0)=decide (0≤R):=rfl
 have hgN:decide (N≥1)=decide (1≤N):=rfl
 rcases hcase with h|h|rfl|rfl|rfl|rfl|rfl|rfl
 ·simp only [show¬K=1 from by omega,show¬K=2 from by omega,show¬K=3 from by omega,show¬K=4 from by omega,show¬K=5 from by omega,show¬K=6 from by omega,if_false,decide_eq_true h]
  simp
 ·simp only [show¬K=1 from by omega,show¬K=2 from by omega,show¬K=3 from by omega,show¬K=4 from by omega,show¬K=5 from by omega,show¬K=6 from by omega,if_false,decide_eq_true h]
  simp
 ·rw [hall (by omega) (by omega)]
  simp only [okI,hI,hge,hgN,Int.reduceBEq,Int.reduceBNe,Int.reduceLT,Int.reduceGT,Int.reduceEq,bne,eq_self,Bool.false_eq_true,Bool.not_true,Bool.not_false,Bool.true_and,Bool.false_and,Bool.and_true,Bool.and_false,Bool.or_self,Bool.or_false,Bool.false_or,Bool.true_or,Option.bind_some,if_true,if_false,decide_true,decide_false]
  generalize (I.aS==1||I.aS==2||I.aS==4||I.aS==8)=a at*
  generalize (I.aS==0)=a0 at*
  generalize I.aO=b at*
  generalize (R==0)=r at*
  generalize (N==0)=n at*
  revert hw hz32 hnil
  clear hall hlen hpos h55 hI hge hgN
  clear a0 b
  revert A B C D E a r n
  decide
 ·rw [hall (by omega) (by omega)]
  simp only [okI,hI,hge,hgN,Int.reduceBEq,Int.reduceBNe,Int.reduceLT,Int.reduceGT,Int.reduceEq,bne,eq_self,Bool.false_eq_true,Bool.not_true,Bool.not_false,Bool.true_and,Bool.false_and,Bool.and_true,Bool.and_false,Bool.or_self,Bool.or_false,Bool.false_or,Bool.true_or,Option.bind_some,if_true,if_false,decide_true,decide_false]
  generalize (I.aS==0)=a at*
  generalize I.aO=b at*
  generalize decide (0≤R)=r at*
  generalize decide (R<(t.ay.length:Int))=r2 at*
  generalize (N==0)=n at*
  revert hw hz32 hnil
  clear hall hlen hpos h55 hI hge hgN
  revert A B C D E a b r r2 n
  decide
 ·rw [hall (by omega) (by omega)]
  simp only [okI,hI,hge,hgN,Int.reduceBEq,Int.reduceBNe,Int.reduceLT,Int.reduceGT,Int.reduceEq,bne,eq_self,Bool.false_eq_true,Bool.not_true,Bool.not_false,Bool.true_and,Bool.false_and,Bool.and_true,Bool.and_false,Bool.or_self,Bool.or_false,Bool.false_or,Bool.true_or,Option.bind_some,if_true,if_false,decide_true,decide_false]
  generalize (I.aS==0)=a at*
  generalize I.aO=b at*
  generalize decide (0≤R)=r at*
  generalize decide (R<(t.ay.length:Int))=r2 at*
  generalize decide (1≤N)=n at*
  generalize decide (N≤512)=n2 at*
  revert hw hz32 hnil
  clear hall hlen hpos h55 hI hge hgN
  revert A B C D E a b r r2 n n2
  decide
 ·simp only [okI,hI,hge,hgN,Int.reduceBEq,Int.reduceBNe,Int.reduceLT,Int.reduceGT,Int.reduceEq,bne,eq_self,Bool.false_eq_true,Bool.not_true,Bool.not_false,Bool.true_and,Bool.false_and,Bool.and_true,Bool.and_false,Bool.or_self,Bool.or_false,Bool.false_or,Bool.true_or,Option.bind_some,if_true,if_false,decide_true,decide_false]
  generalize (I.aS==0)=a at*
  generalize I.aO=b at*
  generalize (R==0)=r at*
  generalize decide (1≤N)=n at*
  generalize decide (N≤512)=n2 at*
  revert hw hz32 hnil
  clear hall hlen hpos h55 hI hge hgN
  revert A B C D E F a b r n n2
  decide
 ·simp only [okI,hI,hge,hgN,Int.reduceBEq,Int.reduceBNe,Int.reduceLT,Int.reduceGT,Int.reduceEq,bne,eq_self,Bool.false_eq_true,Bool.not_true,Bool.not_false,Bool.true_and,Bool.false_and,Bool.and_true,Bool.and_false,Bool.or_self,Bool.or_false,Bool.false_or,Bool.true_or,Option.bind_some,if_true,if_false,decide_true,decide_false]
  generalize (I.aS==0)=a at*
  generalize I.aO=b at*
  generalize (R==0)=r at*
  generalize (N==0)=n at*
  generalize decide (1≤N)=n1 at*
  generalize decide (N≤512)=n2 at*
  revert hw hz32 hnil
  clear hall hlen hpos h55 hI hge hgN
  clear n1 n2
  revert A B C D E F a b r n
  decide
 ·rw [hall (by omega) (by omega)]
  simp only [okI,hI,hge,hgN,Int.reduceBEq,Int.reduceBNe,Int.reduceLT,Int.reduceGT,Int.reduceEq,bne,eq_self,Bool.false_eq_true,Bool.not_true,Bool.not_false,Bool.true_and,Bool.false_and,Bool.and_true,Bool.and_false,Bool.or_self,Bool.or_false,Bool.false_or,Bool.true_or,Option.bind_some,if_true,if_false,decide_true,decide_false]
  generalize (I.aS==0)=a at*
  generalize I.aO=b at*
  generalize decide (0≤R)=r at*
  generalize decide (R<(t.ay.length:Int))=r2 at*
  generalize (N==0)=n at*
  revert hw hz32 hnil
  clear hall hlen hpos h55 hI hge hgN
  revert A B C D E a b r r2 n
  decide
structure BO (defs:List bV) (g:List Int):Prop where
 len:g.length=defs.length
 ex:∃rk:Nat→Nat,∀j,j<defs.length→0<g.getD j 0∧g.getD j 0≤512∧(∀c∈cont (defs.getD j ah),rk c.toNat<rk j)∧g.getD j 0=nval (defs.getD j ah) (inner g (defs.getD j ah))
theorem DC.good {t:bf} {l:List Int} (G:DC t l):BO t.ay l:=by
 refine ⟨G.len,?_⟩
 obtain ⟨rk,B,h⟩:=G.jn
 exact ⟨rk, fun j hj => by
  obtain ⟨h1,h2,h3,h4⟩:=h j hj (G.pos j hj)
  exact ⟨G.pos j hj, h2, fun c hc => (h3 c hc).2, h4⟩⟩
section
variable {defs:List bV} {g:List Int} {rk:Nat→Nat}
structure Mid (defs:List bV) (g:List Int) (out:List Int) (bg:List Bool) (out':List Int) (bg':List Bool):Prop where
 lo:out'.length=defs.length
 lb:bg'.length=defs.length
 val:∀j,j<defs.length→out'.getD j 0=0∨out'.getD j 0=g.getD j 0
 keep:∀j,0<out.getD j 0→out'.getD j 0=out.getD j 0
 stk:∀j,bg'.getD j false=true→out'.getD j 0=0→bg.getD j false=true∧out.getD j 0=0
theorem Mid.trans {o1 o2 o3:List Int} {b1 b2 b3:List Bool} (h:Mid defs g o1 b1 o2 b2) (k:Mid defs g o2 b2 o3 b3):Mid defs g o1 b1 o3 b3:=
 ⟨k.lo, k.lb, k.val, fun j hj => by rw [k.keep j (by rw [h.keep j hj]; exact hj), h.keep j hj], fun j hb ho => by
  obtain ⟨h1,h2⟩:=k.stk j hb ho
  exact h.stk j h1 h2⟩
def WJ (defs:List bV) (g:List Int) (i:Nat) (out:List Int) (bg:List Bool):Prop:=∃out' bg',Ev (fun k=>dG.f k (i:Int) out true bg defs) (g.getD i 0,out',true,bg')∧Mid defs g out bg out' bg'∧out'.getD i 0=g.getD i 0
theorem Oo {R:Nat} (v1:List Int) (hv:∀c∈v1,0≤c∧c<(defs.length:Int)) (hvl:v1.length≤9223372036854775807) (hr:∀c∈v1,rk c.toNat<R)
    (hc:∀(i:Nat) (out:List Int) (bg:List Bool),i<defs.length→rk i<R→out.length=defs.length→bg.length=defs.length→(∀j,j<defs.length→out.getD j 0=0∨out.getD j 0=g.getD j 0)→(∀j,bg.getD j false=true→out.getD j 0=0→rk i<rk j)→WJ defs g i out bg):
    ∀(e j:Nat) (inn:Int) (out:List Int) (bg:List Bool),j+e=v1.length→out.length=defs.length→bg.length=defs.length→(∀j,j<defs.length→out.getD j 0=0∨out.getD j 0=g.getD j 0)→(∀j,bg.getD j false=true→out.getD j 0=0→R≤rk j)→
    ∃out' bg',(∃K,∀k m,K≤k→K≤m→dG.l0 (dG.f k) defs v1 m inn (j:Int) true out bg=some ((v1.drop j).foldl (fun _ c=>g.getD c.toNat 0) inn,true,out',bg'))∧Mid defs g out bg out' bg':=by
  intro e
  induction e with
  | zero =>
    intro j inn out bg hj h1 h2 h3 h4
    refine ⟨out,bg,⟨1,fun k m _ hm=>?_⟩,h1,h2,h3,fun _ _=>rfl,fun j a b=>⟨a,b⟩⟩
    obtain ⟨m,rfl⟩:∃q,m=q+1:=⟨m-1,by omega⟩
    rw [dG.l0,if_neg (by simp;omega),List.drop_eq_nil_of_le (by omega)]
    rfl
  | succ e ih =>
    intro j inn out bg hj h1 h2 h3 h4
    have hlt:j<v1.length:=by omega
    have hmem:=getD_mem (z:=0) hlt
    have hm:=hv _ hmem
    obtain ⟨i,hi⟩:∃i:Nat,v1.getD j 0=(i:Int):=⟨(v1.getD j 0).toNat,by omega⟩
    have hri:rk i<R:=by have:=hr _ hmem;rw [hi] at this;exact this
    obtain ⟨o1,b1,⟨K1,hK1⟩,hM1,hv1⟩:=hc i out bg (by omega) hri h1 h2 h3 (fun q a b=>by have:=h4 q a b;omega)
    obtain ⟨o2, b2, ⟨K2, hK2⟩, hM2⟩ := ih (j + 1) (g.getD i 0) o1 b1 (by omega) hM1.lo hM1.lb hM1.val (fun q a b => by
      obtain ⟨x,y⟩:=hM1.stk q a b
      exact h4 q x y)
    refine ⟨o2,b2,⟨max K1 K2+1,fun k m hk hm'=>?_⟩,hM1.trans hM2⟩
    obtain ⟨m,rfl⟩:∃q,m=q+1:=⟨m-1,by omega⟩
    rw [dG.l0,if_pos (by simp;omega),if_pos (by omega),gG,hi,show dG.f k _ _ _ _ _=_ from hK1 k (by omega)]
    simp only [Option.bind_some]
    rw [fP hlt hvl,je 0 hlt,hi]
    exact hK2 k m (by omega) (by omega)
theorem Qm {d:bV} {n:Nat} (hd:ShD d n):(cont d).length≤9223372036854775807:=by
 have:=hd.few
 unfold cont
 split
 ·simp
 ·split
  ·rw [List.length_map];omega
  ·simp
theorem Oq (hS : ∀ d ∈ defs, ShD d defs.length) (hg : ∀ j, j < defs.length → 0 < g.getD j 0 ∧ g.getD j 0 ≤ 512 ∧ (∀ c ∈ cont (defs.getD j ah), rk c.toNat < rk j) ∧ g.getD j 0 = nval (defs.getD j ah) (inner g (defs.getD j ah))) :
    ∀(R i:Nat) (out:List Int) (bg:List Bool),rk i=R→i<defs.length→out.length=defs.length→bg.length=defs.length→(∀j,j<defs.length→out.getD j 0=0∨out.getD j 0=g.getD j 0)→(∀j,bg.getD j false=true→out.getD j 0=0→rk i<rk j)→WJ defs g i out bg:=by
  intro R
  induction R using Nat.strongRecOn with
  | _ R ihR =>
    intro i out bg hR hi h1 h2 h3 h4
    obtain ⟨g1,g2,g3,g4⟩:=hg i hi
    rcases h3 i hi with h0|h0
    · have hb:bg.getD i false=false:=by
        cases hb:bg.getD i false with
        |false=>rfl
        |true=>exact absurd (h4 i hb h0) (by omega)
      have hd:=hS _ (getD_mem (z:=ah) hi)
      obtain ⟨Kc,hKc⟩:=xK (d:=defs.getD i ah) (by have:=hd.few;omega)
      obtain ⟨o1,b1,⟨K1,hK1⟩,hM⟩:=Oo (defs:=defs) (g:=g) (rk:=rk) (R:=R) (cont (defs.getD i ah)) (oG hd) (Qm hd) (fun c hc=>by have:=g3 c hc;omega)
        (fun i' o b a1 a2 a3 a4 a5 a6 => ihR (rk i') a2 i' o b rfl a1 a3 a4 a5 a6) (cont (defs.getD i ah)).length 0 0 out (bg.set i true) (by omega) h1 (by simpa using h2) h3 (fun j a b => by
          rw [ny (by omega)] at a
          split at a
          · next e=>subst e;omega
          · have := h4 j a b; omega)
      rw [List.drop_zero] at hK1
      have hset:∀j,(o1.set i (g.getD i 0)).getD j 0=if i=j then g.getD i 0 else o1.getD j 0:=fun j=>ny (by rw [hM.lo];exact hi)
      refine ⟨o1.set i (g.getD i 0),b1,⟨max Kc K1+1,fun k hk=>?_⟩,⟨by simp [hM.lo],hM.lb,fun j hj=>?_,fun j hj=>?_,fun j hb' ho=>?_⟩,by rw [hset,if_pos rfl]⟩
      · obtain ⟨k,rfl⟩:∃q,k=q+1:=⟨k-1,by omega⟩
        show dG.f (k+1) _ _ _ _ _=_
        rw [dG.f,if_pos (by omega),gG,if_neg (by simp only [Bool.not_true,Bool.or_false,decide_eq_true_eq];omega),if_pos (by omega),gG,if_neg (by rw [hb];simp),if_pos (by omega),if_pos (by omega),gG,show fQ.f k _=_ from hKc k (by omega)]
        simp only [Option.bind_some,Int.toNat_natCast]
        rw [show dG.l0 (dG.f k) defs _ k 0 0 true out _=_ from hK1 k k (by omega) (by omega)]
        simp only [Option.bind_some]
        rw [if_pos (by rw [hM.lo];omega)]
        simp only [N7]
        rw [show nval (defs.getD i ah) (List.foldl (fun x c=>g.getD c.toNat 0) 0 (cont (defs.getD i ah)))=g.getD i 0 from g4.symm,decide_eq_true g2]
        rfl
      · rw [hset]
        split
        · next e=>subst e;exact .inr rfl
        · exact hM.val j hj
      · rw [hset,if_neg (fun e=>by subst e;omega)]
        exact hM.keep j hj
      · rw [hset] at ho
        split at ho
        · omega
        · next hne=>
          obtain ⟨x,y⟩:=hM.stk j hb' ho
          rw [ny (by omega),if_neg hne] at x
          exact ⟨x,y⟩
    · refine ⟨out,bg,⟨1,fun k hk=>?_⟩,⟨h1,h2,h3,fun _ _=>rfl,fun j a b=>⟨a,b⟩⟩,h0⟩
      obtain ⟨k,rfl⟩:∃q,k=q+1:=⟨k-1,by omega⟩
      show dG.f (k+1) _ _ _ _ _=_
      rw [dG.f,if_pos (by omega),gG,if_pos (by simp only [Bool.or_eq_true,decide_eq_true_eq];exact .inl (by omega)),if_pos (by omega),h0]
end
theorem IC {g h:List Int} (hl:g.length=h.length) (he:∀j,j<g.length→g.getD j 0=h.getD j 0):g=h:=by
 apply List.ext_getElem hl
 intro j h1 h2
 have:=he j h1
 rw [List.getD_eq_getElem?_getD,List.getD_eq_getElem?_getD,List.getElem?_eq_getElem h1,List.getElem?_eq_getElem h2] at this
 exact this
theorem Qn {t : bf} {g : List Int} {rk : Nat → Nat} (hS : ∀ d ∈ t.ay, ShD d t.ay.length) (hn : t.ay.length ≤ 9223372036854775807)
    (hg:∀j,j<t.ay.length→0<g.getD j 0∧g.getD j 0≤512∧(∀c∈cont (t.ay.getD j ah),rk c.toNat<rk j)∧g.getD j 0=nval (t.ay.getD j ah) (inner g (t.ay.getD j ah))):
    ∀(e j:Nat) (bg:List Bool) (out:List Int),j+e=t.ay.length→out.length=t.ay.length→bg.length=t.ay.length→(∀q,q<t.ay.length→out.getD q 0=0∨out.getD q 0=g.getD q 0)→(∀q,bg.getD q false=true→out.getD q 0=0→False)→(∀q,q<j→out.getD q 0=g.getD q 0)→
    ∃bg' out',Ev2 (fun k m=>fK.l0 k t m (j:Int) true bg out) (true,bg',out')∧out'.length=t.ay.length∧∀q,q<t.ay.length→out'.getD q 0=g.getD q 0:=by
  intro e
  induction e with
  | zero =>
    intro j bg out hj h1 h2 h3 h4 h5
    refine ⟨bg,out,Ev2.pure (fun k m=>?_),h1,fun q hq=>h5 q (by omega)⟩
    rw [fK.l0,if_neg (by simp;omega)]
  | succ e ih =>
    intro j bg out hj h1 h2 h3 h4 h5
    have hlt:j<t.ay.length:=by omega
    obtain ⟨o1,b1,hE,hM,hv⟩:=Oq hS hg (rk j) j out bg rfl hlt h1 h2 h3 (fun q a b=>(h4 q a b).elim)
    obtain ⟨bg', out', hE2, h6, h7⟩ := ih (j + 1) b1 o1 (by omega) hM.lo hM.lb hM.val (fun q a b => by
      obtain ⟨x,y⟩:=hM.stk q a b
      exact h4 q x y) (fun q hq=>by
      by_cases hqj:q=j
      · subst hqj;exact hv
      · have h8:=h5 q (by omega)
        have h9:=(hg q (by omega)).1
        rw [hM.keep q (by omega), h8])
    refine ⟨bg',out',Ev2.step hE (r:=fun k m (v1:Int×List Int×Bool×List Bool)=>fK.l0 k t m (IntKind.wrap .i64 ((j:Int)+1)) v1.2.2.1 v1.2.2.2 v1.2.1) ?_ (fun k m=>?_),h6,h7⟩
    · simp only
      rw [fP hlt hn]
      exact hE2
    · rw [fK.l0,if_pos (by simp;omega)]
theorem BP {t:bf} {g:List Int} (hS:∀d∈t.ay,ShD d t.ay.length) (hn:t.ay.length≤200) (G:BO t.ay g):Ev (fun k=>fK.f k t) (g,true):=by
 obtain ⟨rk,hg⟩:=G.ex
 have hrep:∀(n q:Nat),(List.replicate n (0:Int)).getD q 0=0:=fun n q=>by
  rw [List.getD_eq_getElem?_getD,List.getElem?_replicate]
  split<;>rfl
 have Yk:∀(n q:Nat),(List.replicate n false).getD q false=false:=fun n q=>by
  rw [List.getD_eq_getElem?_getD,List.getElem?_replicate]
  split<;>rfl
 obtain ⟨bg,out,hE,h1,h2⟩:=Qn hS (by omega) hg t.ay.length 0 (List.replicate t.ay.length false) (List.replicate t.ay.length 0) (by omega) (by simp) (by simp) (fun q _=> .inl (hrep _ _)) (fun q a _=>by rw [Yk] at a;cases a) (fun q hq=>by omega)
 have hog:out=g:=IC (by rw [h1,G.len]) (fun j hj=>h2 j (by omega))
 subst hog
 obtain ⟨K,hK⟩:=hE.diag
 refine ⟨K,fun k hk=>?_⟩
 show fK.f k t=_
 unfold fK.f
 rw [if_pos (by omega),if_pos (by omega)]
 simp only [Int.toNat_natCast]
 rw [show fK.l0 k t k 0 true _ _=_ from hK k hk]
 rfl
theorem vK {d:bV} {known:List Int} (hk:d.aF=3∨d.aF=6):inner known d=rd 0 known d.dY∧cont d=[d.dY]:=by
 have hcd:cont d=[d.dY]:=by
  unfold cont
  rw [if_pos (by simp only [Bool.or_eq_true,beq_iff_eq];exact hk)]
 refine ⟨?_,hcd⟩
 unfold inner
 rw [hcd]
 rfl
theorem Ot {d:bV} {c:Int} (h:c∈cont d):d.aF=3∨d.aF=4∨d.aF=6:=by
 unfold cont at h
 split at h
 ·next h2=>simp only [Bool.or_eq_true,beq_iff_eq] at h2;omega
 ·split at h
  ·next h2=>simp only [beq_iff_eq] at h2;omega
  ·cases h
theorem uw {d:bV} {a b:List Int} (h:∀c∈cont d,a.getD c.toNat 0=b.getD c.toNat 0):inner a d=inner b d:=by
  unfold inner
  have key:∀(l:List Int) (z0:Int),(∀c∈l,a.getD c.toNat 0=b.getD c.toNat 0)→l.foldl (fun _ c=>a.getD c.toNat 0) z0=l.foldl (fun _ c=>b.getD c.toNat 0) z0:=by
    intro l
    induction l with
    |nil=>intro _ _;rfl
    | cons c l ih =>
      intro z0 hc
      rw [List.foldl_cons,List.foldl_cons,hc c List.mem_cons_self]
      exact ih _ (fun c hc'=>hc c (List.mem_cons_of_mem _ hc'))
  exact key _ _ h
theorem Gy {d:bV} (e:d.aF=4):cont d=d.au.map (·.vType):=by
 unfold cont
 rw [if_neg (by simp [e]),if_pos (by simp [e])]
structure Wf (t:bf) (l:List Int):Prop where
 few:t.ay.length≤200
 defs:zG t.ay.length [] t.ay=true
 sz:BO t.ay l
 ends:∀d∈t.ay,uo t.ay t.ay.length d=false
 placed:∀d∈t.ay,d.aF=4→sF d l=true
theorem DC.wf {t:bf} {l:List Int} (G:DC t l):Wf t l:=⟨G.few,G.defs,G.good,G.ends,G.placed⟩
theorem Wf.sh {t:bf} {l:List Int} (W:Wf t l):∀d∈t.ay,ShD d t.ay.length:=Dz _ _ W.defs
theorem Wf.good {t:bf} {l:List Int} (W:Wf t l):DC t l:=by
  obtain ⟨rk,h⟩:=W.sz.ex
  have hB:∀n,∃B,∀j,j<n→rk j<B:=by
    intro n
    induction n with
    |zero=>exact ⟨0,fun j hj=>by omega⟩
    | succ n ih =>
      obtain ⟨B,hB⟩:=ih
      refine ⟨max B (rk n+1),fun j hj=>?_⟩
      by_cases e:j=n
      · subst e;omega
      · have:=hB j (by omega);omega
  obtain ⟨B,hB⟩:=hB t.ay.length
  refine ⟨W.few,W.sh,BP W.sh W.few W.sz,W.sz.len,⟨rk,B,fun j hj _=>?_⟩,fun q hq=>(h q hq).1,W.ends,W.placed,W.defs⟩
  obtain ⟨h1,h2,h3,h4⟩:=h j hj
  refine ⟨hB j hj,h2,fun c hc=>⟨?_,h3 c hc⟩,h4⟩
  have:=oG (W.sh _ (getD_mem (z:=ah) hj)) c hc
  exact (h c.toNat (by omega)).1
theorem Qo {t : bf} {l : List Int} (hF : ∀ d ∈ t.ay, ER d) (W : Wf t l) : Ev (fun k => dF.f k t) true := by
  have hn:=W.few
  have hS:=W.sh
  have hcond:¬decide ((t.ay.length:Int)>200)=true:=by simp;omega
  obtain ⟨v,hv,hp⟩:=BK hF (by omega) t.ay.length 0 [] [] (by omega) tN.nil
  rw [List.drop_zero] at hp
  obtain ⟨K,hK⟩:=hv.diag
  obtain ⟨K2,hK2⟩:=BP hS hn W.sz
  obtain ⟨K3,hK3⟩:=Oc hS hn
  have he:t.ay.any (uo t.ay t.ay.length)=false:=List.any_eq_false.2 fun d hd=>by rw [W.ends d hd];simp
  obtain ⟨K4, hK4⟩ := um (l := t.ay) (p := fun k z0 => jy.f k z0 l) (q := fun _ => false) (fun d hd => by
    by_cases h4:d.aF=4
    · have:=EP (d:=d) (l:=l) (hF d hd).len (fun f hf=>by have:=(hS d hd).typ h4 f hf;rw [W.sz.len];exact this)
      rw [W.placed d hd h4] at this
      exact (this.bind (g:=fun k v1=>some ((d.aF==4)&&(!v1))) (b:=false) (Ev.pure fun _=>by simp)).congr fun k=>by
        unfold jy.f
        rw [if_pos (by simp [h4])]
    · refine Ev.pure fun k=>?_
      unfold jy.f
      rw [if_neg (by simp [h4])]
      simp [h4]) (by omega)
  cases v with
  |inl b=>rw [W.defs] at hp;exact absurd hp.2 (by simp)
  | inr m =>
    refine ⟨max (max K K2) (max K3 K4),fun k hk=>?_⟩
    show dF.f k t=_
    unfold dF.f
    rw [if_neg hcond,show dF.l0 k t k 0 []=_ from hK k (by omega)]
    simp only [Option.bind_some]
    rw [show fK.f k t=_ from hK2 k (by omega)]
    simp only [Option.bind_some]
    rw [show og.f k t=_ from hK3 k (by omega),he]
    simp only [Bool.not_true,Bool.not_false,beq_self_eq_true,Bool.and_self,if_true,Option.bind_some,Bool.or_self,Bool.false_eq_true,if_false]
    rw [show cO.f k t.ay _=_ from hK4 k (by omega)]
    simp
theorem qy {t:bf} (hF:∀d∈t.ay,ER d):(∃l,Wf t l∧Ev (fun k=>dF.f k t) true)∨((∀l,¬Wf t l)∧Ev (fun k=>dF.f k t) false):=by
  obtain ⟨b,hE,hb⟩:=Ql hF
  cases b with
  | true =>
    obtain ⟨l,G⟩:=hb rfl
    exact .inl ⟨l,G.wf,hE⟩
  | false =>
    refine .inr ⟨fun l W=>?_,hE⟩
    have:=hE.uniq (Qo hF W)
    cases this
def oN (d:bV) (known:List Int):Int:=if d.aF=4∧(d.au.any fun f=>rd 0 known f.vType==0)=true then 0 else nval d (inner known d)
theorem JG {d:bV} {known:List Int} (hl:d.au.length≤9223372036854775807) (ht:∀f∈d.au,0≤f.vType∧f.vType<known.length):∀(e j m:Nat),j+e=d.au.length→e<m→
    eu.l0 d known m (j:Int)=some (if ((d.au.drop j).any fun f=>rd 0 known f.vType==0)=true then .inl 0 else .inr ()):=by
  intro e
  induction e with
  | zero =>
    intro j m hj hm
    obtain ⟨m,rfl⟩:∃q,m=q+1:=⟨m-1,by omega⟩
    rw [eu.l0,if_neg (by simp;omega),List.drop_eq_nil_of_le (by omega)]
    rfl
  | succ e ih =>
    intro j m hj hm
    obtain ⟨m,rfl⟩:∃q,m=q+1:=⟨m-1,by omega⟩
    have hlt:j<d.au.length:=by omega
    have hf:=ht _ (getD_mem (z:=ak) hlt)
    rw [eu.l0,if_pos (by simp;omega),if_pos (by omega),gG,if_pos hf,je ak hlt,List.any_cons]
    by_cases hc:(rd 0 known (d.au.getD j ak).vType==0)=true
    · rw [if_pos hc,hc];rfl
    · rw [if_neg hc,fP hlt hl,ih (j+1) m (by omega) (by omega)]
      rw [Bool.not_eq_true] at hc
      rw [hc,Bool.false_or]
theorem Qp {d : bV} {known : List Int} {n : Nat} (hd : ShD d n) (hn : known.length = n) : Ev (fun k => eu.f k d known) (oN d known) := by
  have hfew:=hd.few
  have hkind:=hd.kind
  refine ⟨d.au.length+1,fun k hk=>?_⟩
  show eu.f k d known=_
  unfold eu.f oN nval
  simp only [beq_iff_eq]
  by_cases e1:d.aF=1
  · rw [if_pos e1,if_neg (by omega),if_pos e1]
  · rw [if_neg e1]
    by_cases e2:d.aF=2
    · rw [if_pos e2,if_neg (by omega),if_neg e1,if_pos e2]
    · rw [if_neg e2]
      by_cases e3:d.aF=3
      · have hr:=hd.ref (by omega)
        rw [if_pos e3,if_pos (by omega),if_neg (by omega),if_neg e1,if_neg e2,if_pos e3,(vK (.inl e3)).1]
      · rw [if_neg e3]
        by_cases e5:d.aF=5
        · rw [if_pos e5,if_neg (by omega),if_neg e1,if_neg e2,if_neg e3,if_neg (by omega),if_pos e5]
        · rw [if_neg e5]
          by_cases e6:d.aF=6
          · have hr:=hd.ref (by omega)
            rw [if_pos e6,if_pos (by omega),if_neg (by omega),if_neg e1,if_neg e2,if_neg e3,if_neg (by omega),if_neg e5,if_pos e6,(vK (.inr e6)).1]
          · have e4:d.aF=4:=by omega
            have ht:=hd.typ e4
            rw [if_neg e6,show eu.l0 d known k 0=_ from JG (by omega) (fun f hf=>by have:=ht f hf;omega) d.au.length 0 k (by omega) (by omega),List.drop_zero]
            rw [if_neg e1,if_neg e2,if_neg e3,if_pos e4]
            cases hany:d.au.any fun f=>rd 0 known f.vType==0 with
            |true=>simp [e4]
            |false=>simp [e4]
structure Inv (defs:List bV) (known:List Int):Prop where
 len:known.length=defs.length
 rng:∀j,j<defs.length→0≤known.getD j 0∧known.getD j 0≤513
 ex:∃(rk:Nat→Nat) (B:Nat),∀j,j<defs.length→known.getD j 0≠0→rk j<B∧(∀c∈cont (defs.getD j ah),known.getD c.toNat 0≠0∧rk c.toNat<rk j)∧known.getD j 0=tu (nval (defs.getD j ah) (inner known (defs.getD j ah))) 513
theorem Ou {d : bV} {known : List Int} {n : Nat} (hd : ShD d n) (h : 0 < oN d known) : 0 < nval d (inner known d) ∧ oN d known = nval d (inner known d) ∧ ∀ c ∈ cont d, known.getD c.toNat 0 ≠ 0 := by
  unfold oN at h⊢
  split at h
  · omega
  · next hc=>
    rw [if_neg hc]
    refine ⟨h,rfl,fun c hcm=>?_⟩
    rcases Ot hcm with e|e|e
    · obtain ⟨h1,h2⟩:=vK (known:=known) (.inl e)
      rw [h2] at hcm
      rw [List.mem_singleton.1 hcm]
      intro h0
      unfold nval at h
      rw [h1,show rd 0 known d.dY=0 from h0,Int.mul_zero,if_neg (by omega),if_neg (by omega),if_pos e] at h
      exact absurd h (by decide)
    · have hcd:cont d=d.au.map (·.vType):=by
        unfold cont
        rw [if_neg (by simp [e]),if_pos (by simp [e])]
      rw [hcd] at hcm
      obtain ⟨f,hf,rfl⟩:=List.mem_map.1 hcm
      intro h0
      exact hc ⟨e,List.any_eq_true.2 ⟨f,hf,by rw [beq_iff_eq];exact h0⟩⟩
    · obtain ⟨h1,h2⟩:=vK (known:=known) (.inr e)
      rw [h2] at hcm
      rw [List.mem_singleton.1 hcm]
      intro h0
      unfold nval at h
      rw [h1,show rd 0 known d.dY=0 from h0,if_neg (by omega),if_neg (by omega),if_neg (by omega),if_neg (by omega),if_neg (by omega),if_pos e] at h
      omega
def zer (l:List Int):Nat:=(l.filter fun x=>x==0).length
theorem Ov:∀(a:List Int) (i:Nat) (v:Int),i<a.length→a.getD i 0=0→v≠0→zer (a.set i v)+1=zer a
  |[],i,v,h,_,_=>by simp at h
  | x :: a, 0, v, h, hi, hv => by
    simp only [List.getD_cons_zero] at hi
    subst hi
    simp [zer,hv]
  | x :: a, i + 1, v, h, hi, hv => by
    have:=Ov a i v (by simpa using h) (by simpa using hi) hv
    unfold zer at*
    rw [List.set_cons_succ,List.filter_cons,List.filter_cons]
    by_cases hx:(x==0)=true
    · rw [if_pos hx,if_pos hx,List.length_cons,List.length_cons];omega
    · rw [if_neg hx,if_neg hx];exact this
theorem Uw {defs : List bV} {known : List Int} (hS : ∀ d ∈ defs, ShD d defs.length) (I : Inv defs known) {i : Nat} (hi : i < defs.length) (h0 : known.getD i 0 = 0) (hp : 0 < oN (defs.getD i ah) known) :
    Inv defs (known.set i (tu (oN (defs.getD i ah) known) 513))∧tu (oN (defs.getD i ah) known) 513≠0:=by
  obtain ⟨hp1,hp2,hp3⟩:=Ou (hS _ (getD_mem hi)) hp
  obtain ⟨rk,B,hB⟩:=I.ex
  have hv:0<tu (oN (defs.getD i ah) known) 513∧tu (oN (defs.getD i ah) known) 513≤513:=by
    unfold tu
    split<;>omega
  generalize hV:tu (oN (defs.getD i ah) known) 513=V at*
  have hset:∀j,(known.set i V).getD j 0=if i=j then V else known.getD j 0:=fun j=>ny (by rw [I.len];exact hi)
  have hne:∀c:Int,known.getD c.toNat 0≠0→¬i=c.toNat:=fun c hc e=>by rw [←e] at hc;exact hc h0
  refine ⟨⟨by simp [I.len],fun j hj=>?_,fun j=>if i=j then B else rk j,B+1,fun j hj hj0=>?_⟩,by omega⟩
  · rw [hset]
    split
    · omega
    · exact I.rng j hj
  · show (if i=j then B else rk j)<B+1∧(∀c:Int,c∈cont (defs.getD j ah)→_∧(if i=c.toNat then B else rk c.toNat)<(if i=j then B else rk j))∧_
    by_cases hij:i=j
    · subst hij
      rw [if_pos rfl]
      refine ⟨by omega,fun c hc=>?_,?_⟩
      · have h5:=hp3 c hc
        have h6:=oG (hS _ (getD_mem (z:=ah) hi)) c hc
        rw [hset,if_neg (hne c h5),if_neg (hne c h5)]
        exact ⟨h5,(hB c.toNat (by omega) h5).1⟩
      · rw [hp2] at hV
        refine (hset i).trans ?_
        rw [if_pos rfl]
        refine hV.symm.trans ?_
        congr 2
        exact uw (fun c hc=>by rw [hset,if_neg (hne c (hp3 c hc))])
    · rw [hset,if_neg hij] at hj0
      obtain ⟨h5,h7,h8⟩:=hB j hj hj0
      rw [if_neg hij,hset,if_neg hij]
      refine ⟨by omega,fun c hc=>?_,?_⟩
      · obtain ⟨h9,h10⟩:=h7 c hc
        rw [hset,if_neg (hne c h9),if_neg (hne c h9)]
        exact ⟨h9,h10⟩
      · rw [h8]
        congr 2
        exact uw (fun c hc=>by rw [hset,if_neg (hne c (h7 c hc).1)])
theorem Ox {t : bf} (hS : ∀ d ∈ t.ay, ShD d t.ay.length) (hn : t.ay.length ≤ 9223372036854775807) : ∀ (e j : Nat) (more : Bool) (known : List Int), j + e = t.ay.length → Inv t.ay known →
    ∃ more' known', Ev2 (fun k m => aZ.l1 k t m more (j : Int) known) (more', known') ∧ Inv t.ay known' ∧ (more' = false → more = false ∧ known' = known ∧ ∀ q, j ≤ q → q < t.ay.length → known.getD q 0 = 0 → oN (t.ay.getD q ah) known ≤ 0) ∧
      zer known'≤zer known∧(more'=true→more=true∨zer known'<zer known):=by
  intro e
  induction e with
  | zero =>
    intro j more known hj I
    refine ⟨more,known,Ev2.pure (fun k m=>?_),I,fun h=>⟨h,rfl,fun q _ _=>by omega⟩,Nat.le_refl _,fun h=> .inl h⟩
    rw [aZ.l1,if_neg (by simp;omega)]
  | succ e ih =>
    intro j more known hj I
    have hlt:j<t.ay.length:=by omega
    have hd:=hS _ (getD_mem (z:=ah) hlt)
    by_cases h0:known.getD j 0=0
    · have hs:=Qp hd I.len
      by_cases hp:0<oN (t.ay.getD j ah) known
      · obtain ⟨I2,hv⟩:=Uw hS I hlt h0 hp
        have hz:=Ov known j _ (by rw [I.len];exact hlt) h0 hv
        obtain ⟨more',known',hE,I3,h1,h2,h3⟩:=ih (j+1) true _ (by omega) I2
        refine ⟨more',known',Ev2.step hs (r:=fun k m v1=>if (decide (v1>0))=true then (if 0≤(j:Int)∧(j:Int)<(((t.ay.length:Int).toNat:Nat):Int) then (aZ.l1 k t m true (IntKind.wrap .i64 ((j:Int)+1)) (List.set known j (tu v1 513))) else none) else (aZ.l1 k t m more (IntKind.wrap .i64 ((j:Int)+1)) known)) ?_ (fun k m=>?_),I3,?_,by omega,fun _=> .inr (by omega)⟩
        · obtain ⟨K,hK⟩:=hE
          refine ⟨K,fun k m hk hm=>?_⟩
          show (if _ then _ else _)=_
          rw [if_pos (decide_eq_true hp),if_pos (by omega),fP hlt hn]
          exact hK k m hk hm
        · rw [aZ.l1,if_pos (by simp;omega),if_pos (by omega),gG,if_neg (by rw [h0];decide),if_pos (by omega),gG]
          simp only [Int.toNat_natCast]
        · intro h;have:=(h1 h).1;cases this
      · obtain ⟨more',known',hE,I3,h1,h2,h3⟩:=ih (j+1) more known (by omega) I
        refine ⟨more',known',Ev2.step hs (r:=fun k m v1=>if (decide (v1>0))=true then (if 0≤(j:Int)∧(j:Int)<(((t.ay.length:Int).toNat:Nat):Int) then (aZ.l1 k t m true (IntKind.wrap .i64 ((j:Int)+1)) (List.set known j (tu v1 513))) else none) else (aZ.l1 k t m more (IntKind.wrap .i64 ((j:Int)+1)) known)) ?_ (fun k m=>?_),I3,?_,h2,h3⟩
        · obtain ⟨K,hK⟩:=hE
          refine ⟨K,fun k m hk hm=>?_⟩
          show (if _ then _ else _)=_
          rw [if_neg (by simpa using hp),fP hlt hn]
          exact hK k m hk hm
        · rw [aZ.l1,if_pos (by simp;omega),if_pos (by omega),gG,if_neg (by rw [h0];decide),if_pos (by omega),gG]
          simp only [Int.toNat_natCast]
        · intro h
          obtain ⟨a,b,c⟩:=h1 h
          refine ⟨a,b,fun q hq hq2 hq0=>?_⟩
          by_cases hqj:q=j
          · subst hqj;omega
          · exact c q (by omega) hq2 hq0
    · obtain ⟨more',known',hE,I3,h1,h2,h3⟩:=ih (j+1) more known (by omega) I
      refine ⟨more',known',Ev2.next (r:=fun k m=>aZ.l1 k t m more ((j+1:Nat):Int) known) hE (fun k m=>?_),I3,?_,h2,h3⟩
      · rw [aZ.l1,if_pos (by simp;omega),if_pos (by omega),gG,if_pos (by simpa using h0),fP hlt hn]
      · intro h
        obtain ⟨a,b,c⟩:=h1 h
        refine ⟨a,b,fun q hq hq2 hq0=>?_⟩
        by_cases hqj:q=j
        · subst hqj;exact absurd hq0 h0
        · exact c q (by omega) hq2 hq0
def Fin (defs:List bV) (known:List Int):Prop:=∀q,q<defs.length→known.getD q 0=0→oN (defs.getD q ah) known≤0
theorem rounds {t : bf} (hS : ∀ d ∈ t.ay, ShD d t.ay.length) (hn : t.ay.length ≤ 9223372036854775807) : ∀ (z : Nat) (known : List Int), zer known = z → Inv t.ay known →
    ∃known',Ev2 (fun k m=>aZ.l0 k t m true known) known'∧Inv t.ay known'∧Fin t.ay known':=by
  intro z
  induction z using Nat.strongRecOn with
  | _ z ih =>
    intro known hz I
    obtain ⟨more',known',hE,I2,h1,h2,h3⟩:=Ox hS hn t.ay.length 0 false known (by omega) I
    cases more' with
    | false =>
      obtain ⟨_,rfl,hf⟩:=h1 rfl
      refine ⟨known',Ev2.step hE.diag (r:=fun k m (x:Bool×List Int)=>aZ.l0 k t m x.1 x.2) (Ev2.pure fun k m=>?_) (fun k m=>?_),I2,fun q hq h0=>hf q (by omega) hq h0⟩
      · show aZ.l0 k t (m+1) false known'=_
        rw [aZ.l0,if_neg (by simp)]
      · rw [aZ.l0,if_pos rfl]
        rfl
    | true =>
      have hlt:zer known'<z:=by
        rcases h3 rfl with h|h
        · cases h
        · omega
      obtain ⟨k3,hE3,I3,F3⟩:=ih (zer known') hlt known' rfl I2
      refine ⟨k3,Ev2.step hE.diag (r:=fun k m (x:Bool×List Int)=>aZ.l0 k t m x.1 x.2) hE3 (fun k m=>?_),I3,F3⟩
      rw [aZ.l0,if_pos rfl]
      rfl
theorem Oy {t:bf} (hS:∀d∈t.ay,ShD d t.ay.length) (hn:t.ay.length≤200):∃known,Ev (fun k=>aZ.f k t) known∧Inv t.ay known∧Fin t.ay known:=by
 have hrep:∀(n q:Nat),(List.replicate n (0:Int)).getD q 0=0:=fun n q=>by
  rw [List.getD_eq_getElem?_getD,List.getElem?_replicate]
  split<;>rfl
 obtain ⟨known,hE,I,F⟩:=rounds hS (by omega) _ (List.replicate t.ay.length (0:Int)) rfl ⟨by simp,fun j hj=>by rw [hrep];omega,fun _=>0,0,fun j hj h=>absurd (hrep _ _) h⟩
 obtain ⟨K,hK⟩:=hE.diag
 refine ⟨known,⟨K,fun k hk=>?_⟩,I,F⟩
 show aZ.f k t=_
 unfold aZ.f
 rw [if_pos (by omega)]
 simp only [Int.toNat_natCast]
 rw [show aZ.l0 k t k true _=_ from hK k hk]
 rfl
theorem Qq {x:Int} (h:tu x 513≤512):tu x 513=x:=by
 unfold tu at*
 split
 ·next h2=>rw [if_pos h2] at h;omega
 ·rfl
theorem Gz {defs : List bV} {known g : List Int} (hS : ∀ d ∈ defs, ShD d defs.length) (I : Inv defs known) (F : Fin defs known) (G : BO defs g) : known = g := by
  obtain ⟨rk,hg⟩:=G.ex
  refine IC (by rw [I.len,G.len]) (fun j hj=>?_)
  rw [I.len] at hj
  obtain ⟨rk2,B,hB⟩:=I.ex
  have key:∀(R q:Nat),rk q=R→q<defs.length→known.getD q 0=g.getD q 0:=by
    intro R
    induction R using Nat.strongRecOn with
    | _ R ih =>
      intro q hR hq
      obtain ⟨g1,g2,g3,g4⟩:=hg q hq
      have hd:=hS _ (getD_mem (z:=ah) hq)
      have hch:∀c∈cont (defs.getD q ah),known.getD c.toNat 0=g.getD c.toNat 0:=fun c hc=>by
        have h6:=oG hd c hc
        exact ih _ (by have:=g3 c hc;omega) c.toNat rfl (by omega)
      have hin:=uw hch
      by_cases h0:known.getD q 0=0
      · exfalso
        have h1:=F q hq h0
        unfold oN at h1
        rw [if_neg,hin,←g4] at h1
        · omega
        · rintro ⟨e4,ha⟩
          obtain ⟨f,hf,hf0⟩:=List.any_eq_true.1 ha
          have hcm:f.vType∈cont (defs.getD q ah):=by
            rw [Gy e4]
            exact List.mem_map.2 ⟨f,hf,rfl⟩
          have h2:=hch _ hcm
          have h6:=oG hd _ hcm
          have h3:=(hg f.vType.toNat (by omega)).1
          rw [beq_iff_eq] at hf0
          rw [show known.getD f.vType.toNat 0=0 from hf0] at h2
          omega
      · obtain ⟨_,_,h3⟩:=hB q hq h0
        rw [hin,←g4] at h3
        rw [h3]
        unfold tu
        rw [if_neg (by omega)]
  exact key (rk j) j rfl hj
theorem GH {defs:List bV} {known:List Int} (I:Inv defs known) (h:∀j,j<defs.length→known.getD j 0≠0∧known.getD j 0≤512):BO defs known:=by
 obtain ⟨rk,B,hB⟩:=I.ex
 refine ⟨I.len,rk,fun j hj=>?_⟩
 obtain ⟨h1,h2⟩:=h j hj
 have h3:=I.rng j hj
 obtain ⟨_,h4,h5⟩:=hB j hj h1
 refine ⟨by omega,h2,fun c hc=>(h4 c hc).2,?_⟩
 rw [h5] at h2⊢
 exact Qq h2
theorem JH {t : bf} (hS : ∀ d ∈ t.ay, ShD d t.ay.length) (hn : t.ay.length ≤ 9223372036854775000) : ∀ (e j m : Nat) (i : Int), 0 ≤ i → i < t.ay.length → j + e = t.ay.length → e + 1 < m →
    ((dJ.l0 t m i (j:Int)).bind fun xx1=>(match xx1 with| .inl r=>some r| .inr s1=>some false))=some (!uo t.ay e (rd ah t.ay i)):=by
  intro e
  induction e with
  | zero =>
    intro j m i h0 h1 hj hm
    obtain ⟨m,rfl⟩:∃q,m=q+1:=⟨m-1,by omega⟩
    obtain ⟨m,rfl⟩:∃q,m=q+1:=⟨m-1,by omega⟩
    rw [dJ.l0,if_pos (by simp;omega),if_pos ⟨h0,h1⟩]
    simp only [dU.f,Option.bind_some,uo]
    show (Option.bind (if mJ _=true then _ else _) _)=_
    by_cases hnm:mJ (rd ah t.ay i)=true
    · rw [if_pos hnm,hnm];rfl
    · rw [if_neg hnm,if_pos ⟨h0,h1⟩,jC (by omega) (by omega),dJ.l0,if_neg (by simp;omega)]
      rw [Bool.not_eq_true] at hnm
      rw [hnm];rfl
  | succ e ih =>
    intro j m i h0 h1 hj hm
    obtain ⟨m,rfl⟩:∃q,m=q+1:=⟨m-1,by omega⟩
    rw [dJ.l0,if_pos (by simp;omega),if_pos ⟨h0,h1⟩]
    simp only [dU.f,Option.bind_some,uo]
    show (Option.bind (if mJ _=true then _ else _) _)=_
    by_cases hnm:mJ (rd ah t.ay i)=true
    · rw [if_pos hnm,if_pos hnm];rfl
    · rw [if_neg hnm,if_neg hnm,if_pos ⟨h0,h1⟩]
      have hk:(rd ah t.ay i).aF=2∨(rd ah t.ay i).aF=3:=by
        unfold mJ at hnm
        by_cases h2:(rd ah t.ay i).aF=2
        · exact .inl h2
        · by_cases h3:(rd ah t.ay i).aF=3
          · exact .inr h3
          · exact absurd (by simp [h2,h3]) hnm
      have hr:=(hS _ (Rq (z:=ah) h0 h1)).ref (by omega)
      rw [fP (show j<t.ay.length by omega) (by omega)]
      exact ih (j+1) m _ hr.1 hr.2 (by omega) (by omega)
theorem Qr {t:bf} (hS:∀d∈t.ay,ShD d t.ay.length) (hn:t.ay.length≤200) {i:Nat} (hi:i<t.ay.length):Ev (fun k=>dJ.f k t (i:Int)) (!uo t.ay t.ay.length (t.ay.getD i ah)):=
 ⟨t.ay.length + 2, fun k hk => by
  show dJ.f k t _=_
  unfold dJ.f
  have:=JH hS (by omega) t.ay.length 0 k (i:Int) (by omega) (by omega) (by omega) (by omega)
  rw [gG] at this
  exact this⟩
def oO (l:List Int) (N:Int):Int→List dP→Option Int
 |at_,[]=>some at_
 |at_,f::r=>if ((decide (f.vAt<at_))||(decide (f.vAt>N)))=true then none else oO l N (IntKind.wrap .i64 (f.vAt+rd 0 l f.vType)) r
def sV (d:bV) (l:List Int):Bool:=match oO l d.vN 0 d.au with|none=>false|some e=>decide (e≤d.vN)
theorem EU {d:bV} {l:List Int} (hl:d.au.length≤9223372036854775807) (ht:∀f∈d.au,0≤f.vType∧f.vType<l.length):∀(e j m:Nat) (at_:Int),j+e=d.au.length→e<m→
    dD.l0 d l m at_ (j:Int)=some (match oO l d.vN at_ (d.au.drop j) with|none=> .inl false|some a=> .inr a):=by
  intro e
  induction e with
  | zero =>
    intro j m at_ hj hm
    obtain ⟨m,rfl⟩:∃q,m=q+1:=⟨m-1,by omega⟩
    rw [dD.l0,if_neg (by simp;omega),List.drop_eq_nil_of_le (by omega)]
    rfl
  | succ e ih =>
    intro j m at_ hj hm
    obtain ⟨m,rfl⟩:∃q,m=q+1:=⟨m-1,by omega⟩
    have hlt:j<d.au.length:=by omega
    have hf:=ht _ (getD_mem (z:=ak) hlt)
    rw [dD.l0,if_pos (by simp;omega),if_pos (by omega),gG,je ak hlt]
    simp only [oO]
    by_cases hc:((decide ((d.au.getD j ak).vAt<at_))||(decide ((d.au.getD j ak).vAt>d.vN)))=true
    · rw [if_pos hc,if_pos hc]
    · rw [if_neg hc,if_neg hc,if_pos hf,fP hlt hl,ih (j+1) m _ (by omega) (by omega)]
theorem BQ {d:bV} {l:List Int} (hl:d.au.length≤9223372036854775807) (ht:∀f∈d.au,0≤f.vType∧f.vType<l.length):Ev (fun k=>dD.f k d l) (sV d l):=by
 refine ⟨d.au.length+1,fun k hk=>?_⟩
 show dD.f k d l=_
 unfold dD.f sV
 rw [show dD.l0 d l k 0 0=_ from EU hl ht d.au.length 0 k 0 (by omega) (by omega),List.drop_zero]
 cases oO l d.vN 0 d.au<;>rfl
theorem GI {l:List Int} {N:Int} (hN:0≤N):∀(fs:List dP) (a:Int),N<a→a≤1024→(∀f∈fs,0<rd 0 l f.vType∧rd 0 l f.vType≤512)→(match lN l a fs with|none=>false|some e=>decide (e≤N))=false:=by
  intro fs
  induction fs with
  |nil=>intro a h1 h2 _;simp only [lN];exact decide_eq_false (by omega)
  | cons f r ih =>
    intro a h1 h2 hf
    have h3:=hf f List.mem_cons_self
    simp only [lN]
    by_cases hc:((decide (f.vAt<a))||(decide (f.vAt>512)))=true
    · rw [if_pos hc]
    · rw [if_neg hc]
      simp only [Bool.or_eq_true,decide_eq_true_eq,not_or] at hc
      rw [jC (by omega) (by omega)]
      exact ih _ (by omega) (by omega) (fun g hg=>hf g (List.mem_cons_of_mem _ hg))
theorem GK {l : List Int} {N : Int} (hN : 0 ≤ N) (hN2 : N ≤ 512) : ∀ (fs : List dP) (a : Int), 0 ≤ a → (∀ f ∈ fs, 0 < rd 0 l f.vType ∧ rd 0 l f.vType ≤ 512) →
    (match oO l N a fs with|none=>false|some e=>decide (e≤N))=(match lN l a fs with|none=>false|some e=>decide (e≤N)):=by
  intro fs
  induction fs with
  |nil=>intro a _ _;rfl
  | cons f r ih =>
    intro a h0 hf
    have h3:=hf f List.mem_cons_self
    simp only [lN,oO]
    by_cases hc:((decide (f.vAt<a))||(decide (f.vAt>N)))=true
    · rw [if_pos hc]
      by_cases hc2:((decide (f.vAt<a))||(decide (f.vAt>512)))=true
      · rw [if_pos hc2]
      · rw [if_neg hc2]
        simp only [Bool.or_eq_true,decide_eq_true_eq,not_or] at hc hc2
        rw [jC (by omega) (by omega)]
        exact (GI hN r _ (by omega) (by omega) (fun g hg=>hf g (List.mem_cons_of_mem _ hg))).symm
    · rw [if_neg hc,if_neg]
      · simp only [Bool.or_eq_true,decide_eq_true_eq,not_or] at hc
        rw [jC (by omega) (by omega)]
        exact ih _ (by omega) (fun g hg=>hf g (List.mem_cons_of_mem _ hg))
      · simp only [Bool.or_eq_true,decide_eq_true_eq,not_or] at hc⊢
        omega
theorem xM {defs:List bV} {l:List Int} (G:BO defs l) (hS:∀d∈defs,ShD d defs.length) {d:bV} (hd:d∈defs) (h4:d.aF=4):sV d l=sF d l:=by
 obtain ⟨rk,h⟩:=G.ex
 have h1:=(hS d hd).num (.inr h4)
 have h2:=(hS d hd).typ h4
 exact GK (by omega) h1.2 _ _ (by omega) (fun f hf => by
  have h3:=h2 f hf
  have:=h f.vType.toNat (by omega)
  exact ⟨this.1, this.2.1⟩)
theorem JI {t:bf} (hl:t.ay.length≤9223372036854775807) {i:Nat} (hi:i<t.ay.length):∀(e j m:Nat),j+e=i→e<m→
    aP.l1 t (i:Int) m (j:Int)=some (if (mJ (t.ay.getD i ah)&&(((t.ay.take i).drop j).any fun f=>strEq f.aU (t.ay.getD i ah).aU))=true then .inl 80 else .inr ()):=by
  intro e
  induction e with
  | zero =>
    intro j m hj hm
    obtain ⟨m,rfl⟩:∃q,m=q+1:=⟨m-1,by omega⟩
    rw [aP.l1,if_neg (by simp;omega),List.drop_eq_nil_of_le (by simp;omega)]
    simp
  | succ e ih =>
    intro j m hj hm
    obtain ⟨m,rfl⟩:∃q,m=q+1:=⟨m-1,by omega⟩
    have hlt:j<t.ay.length:=by omega
    have hd:(t.ay.take i).drop j=t.ay.getD j ah::(t.ay.take i).drop (j+1):=by
      rw [je ah (by simp;omega)]
      congr 1
      rw [List.getD_eq_getElem?_getD,List.getD_eq_getElem?_getD,List.getElem?_take,if_pos (by omega)]
    rw [aP.l1,if_pos (by simp;omega),if_pos (by omega),gG,gG,hd,List.any_cons]
    simp only [dU.f,Option.bind_some]
    rw [if_pos (fun _=>by omega),if_pos (fun _=>by omega),fP hlt hl,ih (j+1) m (by omega) (by omega)]
    show (if (mJ (t.ay.getD i ah)&&_)=true then _ else _)=_
    cases mJ (t.ay.getD i ah)<;>cases (strEq (t.ay.getD j ah).aU (t.ay.getD i ah).aU)<;>cases (((t.ay.take i).drop (j+1)).any fun f=>strEq f.aU (t.ay.getD i ah).aU)<;>rfl
theorem Qs (l:List bV) (s:ByteArray):((l.map (·.aU)).reverse.any (strEq s))=l.any fun f=>strEq f.aU s:=by
 rw [List.any_reverse,List.any_map]
 congr 1
 funext f
 exact wZ _ _
theorem JJ {t : bf} (hF : ∀ d ∈ t.ay, ER d) (hl : t.ay.length ≤ 9223372036854775807) : ∀ (e j : Nat), j + e = t.ay.length →
    Ev2 (fun k m=>aP.l0 k t m (j:Int)) (if zG t.ay.length ((t.ay.take j).map (·.aU)).reverse (t.ay.drop j)=true then .inr () else .inl 80):=by
  intro e
  induction e with
  | zero =>
    intro j hj
    refine Ev2.pure fun k m=>?_
    rw [aP.l0,if_neg (by simp;omega),List.drop_eq_nil_of_le (by omega)]
    rfl
  | succ e ih =>
    intro j hj
    have hlt:j<t.ay.length:=by omega
    have hmem:=getD_mem (z:=ah) hlt
    have hFd:=hF _ hmem
    have h1:=JF (t:=t) hFd.len hFd.names hFd.name
    have h2:=ih (j+1) (by omega)
    have ht:((t.ay.take (j+1)).map (·.aU)).reverse=(t.ay.getD j ah).aU::((t.ay.take j).map (·.aU)).reverse:=by
      rw [List.take_add_one,List.map_append,List.reverse_append]
      rw [List.getD_eq_getElem?_getD,List.getElem?_eq_getElem hlt]
      rfl
    rw [ht] at h2
    rw [je ah hlt,zG]
    refine Ev2.step h1 (r:=fun k m v1=>if (!v1)=true then (some (.inl 80)) else ((aP.l1 t (j:Int) k 0).bind fun xx2=>(match xx2 with| .inl r=>some (.inl r)| .inr s1=>aP.l0 k t m ((j+1:Nat):Int)))) ?_ (fun k m=>?_)
    · rcases Bool.eq_false_or_eq_true (oM (t.ay.getD j ah) (t.ay.length:Int)) with hn|hn
      · obtain ⟨K,hK⟩:=h2
        rw [hn]
        refine ⟨max K (j+1),fun k m hk hm=>?_⟩
        have h3:=JI hl hlt j 0 k (by omega) (by omega)
        rw [List.drop_zero] at h3
        simp only [Bool.not_true,Bool.false_eq_true,if_false,Bool.true_and]
        rw [show aP.l1 t (j:Int) k 0=_ from h3,Qs]
        cases ha:mJ (t.ay.getD j ah)&&(t.ay.take j).any fun f=>strEq f.aU (t.ay.getD j ah).aU with
        |true=>simp
        |false=>simpa using hK k m (by omega) (by omega)
      · exact ⟨0,fun k m _ _=>by rw [hn];rfl⟩
    · rw [aP.l0,if_pos (by simp;omega),if_pos (by omega),gG,fP hlt hl]
      try rfl
def Ux (t:bf) (known:List Int) (q:Nat):Prop:=known.getD q 0≠0∧known.getD q 0≤512∧uo t.ay t.ay.length (t.ay.getD q ah)=false∧((t.ay.getD q ah).aF=4→sV (t.ay.getD q ah) known=true)
theorem JK {t : bf} {known : List Int} (hF : ∀ d ∈ t.ay, ER d) (hS : ∀ d ∈ t.ay, ShD d t.ay.length) (hn : t.ay.length ≤ 200) (hk : known.length = t.ay.length) : ∀ (e j : Nat), j + e = t.ay.length →
    ∃v,Ev2 (fun k m=>aP.l2 k t known m (j:Int)) v∧((v= .inr ()∧∀q,j≤q→q<t.ay.length→Ux t known q)∨(v= .inl 80∧¬∀q,j≤q→q<t.ay.length→Ux t known q)):=by
  intro e
  induction e with
  | zero =>
    intro j hj
    refine ⟨.inr (),Ev2.pure fun k m=>?_, .inl ⟨rfl,fun q _ _=>by omega⟩⟩
    rw [aP.l2,if_neg (by simp;omega)]
  | succ e ih =>
    intro j hj
    have hlt:j<t.ay.length:=by omega
    have hmem:=getD_mem (z:=ah) hlt
    have he:=Qr hS hn hlt
    obtain ⟨v,hv,hp⟩:=ih (j+1) (by omega)
    by_cases hc:Ux t known j
    · obtain ⟨c1,c2,c3,c4⟩:=hc
      refine ⟨v,?_,?_⟩
      · obtain ⟨K1,hK1⟩:=he
        obtain ⟨K2,hK2⟩:=hv
        by_cases h4:(t.ay.getD j ah).aF=4
        · obtain ⟨K3,hK3⟩:=BQ (d:=t.ay.getD j ah) (l:=known) (hF _ hmem).len (fun f hf=>by have:=(hS _ hmem).typ h4 f hf;rw [hk];exact this)
          refine ⟨max (max K1 K2) K3+1,fun k m hk1 hm1=>?_⟩
          obtain ⟨m,rfl⟩:∃q,m=q+1:=⟨m-1,by omega⟩
          show aP.l2 k t known (m+1) (j:Int)=_
          rw [aP.l2,if_pos (by simp;omega),if_pos (by omega),if_pos (fun _=>by omega),gG,gG,show dJ.f k t (j:Int)=_ from hK1 k (by omega),c3]
          rw [show (known.getD j 0==0)=false from by simpa using c1,show decide (known.getD j 0>512)=false from decide_eq_false (by omega)]
          simp only [Bool.or_self,beq_self_eq_true,Bool.and_self,if_true,Bool.not_false,Option.bind_some,Bool.not_true,Bool.false_eq_true,if_false]
          rw [if_pos (by omega),if_pos (fun _=>by omega),show ((t.ay.getD j ah).aF==4)=true from by simpa using h4]
          simp only [Bool.true_and,beq_self_eq_true,if_true]
          rw [show dD.f k _ known=_ from hK3 k (by omega),c4 h4]
          simp only [Option.bind_some,Bool.not_true,Bool.false_eq_true,if_false]
          rw [fP hlt (by omega)]
          exact hK2 k m (by omega) (by omega)
        · refine ⟨max K1 K2+1,fun k m hk1 hm1=>?_⟩
          obtain ⟨m,rfl⟩:∃q,m=q+1:=⟨m-1,by omega⟩
          show aP.l2 k t known (m+1) (j:Int)=_
          rw [aP.l2,if_pos (by simp;omega),if_pos (by omega),if_pos (fun _=>by omega),gG,gG,show dJ.f k t (j:Int)=_ from hK1 k (by omega),c3]
          rw [show (known.getD j 0==0)=false from by simpa using c1,show decide (known.getD j 0>512)=false from decide_eq_false (by omega)]
          simp only [Bool.or_self,beq_self_eq_true,Bool.and_self,if_true,Bool.not_false,Option.bind_some,Bool.not_true,Bool.false_eq_true,if_false]
          rw [if_pos (by omega),if_pos (fun _=>by omega),show ((t.ay.getD j ah).aF==4)=false from by simpa using h4]
          simp only [Bool.true_and,Bool.false_and,Bool.false_eq_true,if_false,Option.bind_some,show (false==true)=false from rfl]
          rw [fP hlt (by omega)]
          exact hK2 k m (by omega) (by omega)
      · rcases hp with ⟨a,b⟩|⟨a,b⟩
        · refine .inl ⟨a,fun q hq hq2=>?_⟩
          by_cases hqj:q=j
          · subst hqj;exact ⟨c1,c2,c3,c4⟩
          · exact b q (by omega) hq2
        · exact .inr ⟨a,fun h=>b (fun q hq hq2=>h q (by omega) hq2)⟩
    · refine ⟨.inl 80,?_, .inr ⟨rfl,fun h=>hc (h j (by omega) hlt)⟩⟩
      obtain ⟨K1,hK1⟩:=he
      by_cases c1:known.getD j 0=0
      · refine ⟨K1+1,fun k m hk1 hm1=>?_⟩
        obtain ⟨m,rfl⟩:∃q,m=q+1:=⟨m-1,by omega⟩
        show aP.l2 k t known (m+1) (j:Int)=_
        rw [aP.l2,if_pos (by simp;omega),if_pos (by omega),if_pos (fun _=>by omega),gG,c1]
        rfl
      · by_cases c2:known.getD j 0≤512
        · cases c3:uo t.ay t.ay.length (t.ay.getD j ah) with
          | true =>
            refine ⟨K1+1,fun k m hk1 hm1=>?_⟩
            obtain ⟨m,rfl⟩:∃q,m=q+1:=⟨m-1,by omega⟩
            show aP.l2 k t known (m+1) (j:Int)=_
            rw [aP.l2,if_pos (by simp;omega),if_pos (by omega),if_pos (fun _=>by omega),gG,show dJ.f k t (j:Int)=_ from hK1 k (by omega),c3]
            rw [show (known.getD j 0==0)=false from by simpa using c1,show decide (known.getD j 0>512)=false from decide_eq_false (by omega)]
            rfl
          | false =>
            have h4:(t.ay.getD j ah).aF=4:=Classical.byContradiction fun h=>hc ⟨c1,c2,c3,fun h2=>absurd h2 h⟩
            have hpf:sV (t.ay.getD j ah) known=false:=by
              cases hpp:sV (t.ay.getD j ah) known with
              |false=>rfl
              |true=>exact absurd ⟨c1,c2,c3,fun _=>hpp⟩ hc
            obtain ⟨K3,hK3⟩:=BQ (d:=t.ay.getD j ah) (l:=known) (hF _ hmem).len (fun f hf=>by have:=(hS _ hmem).typ h4 f hf;rw [hk];exact this)
            refine ⟨max K1 K3+1,fun k m hk1 hm1=>?_⟩
            obtain ⟨m,rfl⟩:∃q,m=q+1:=⟨m-1,by omega⟩
            show aP.l2 k t known (m+1) (j:Int)=_
            rw [aP.l2,if_pos (by simp;omega),if_pos (by omega),if_pos (fun _=>by omega),gG,gG,show dJ.f k t (j:Int)=_ from hK1 k (by omega),c3]
            rw [show (known.getD j 0==0)=false from by simpa using c1,show decide (known.getD j 0>512)=false from decide_eq_false (by omega)]
            simp only [Bool.or_self,beq_self_eq_true,Bool.and_self,if_true,Bool.not_false,Option.bind_some,Bool.not_true,Bool.false_eq_true,if_false]
            rw [if_pos (by omega),if_pos (fun _=>by omega),show ((t.ay.getD j ah).aF==4)=true from by simpa using h4]
            simp only [Bool.true_and,beq_self_eq_true,if_true]
            rw [show dD.f k _ known=_ from hK3 k (by omega),hpf]
            rfl
        · refine ⟨K1+1,fun k m hk1 hm1=>?_⟩
          obtain ⟨m,rfl⟩:∃q,m=q+1:=⟨m-1,by omega⟩
          show aP.l2 k t known (m+1) (j:Int)=_
          rw [aP.l2,if_pos (by simp;omega),if_pos (by omega),if_pos (fun _=>by omega),gG]
          rw [show (known.getD j 0==0)=false from by simpa using c1,show decide (known.getD j 0>512)=true from decide_eq_true (by omega)]
          rfl
theorem sW {t : bf} (hF : ∀ d ∈ t.ay, ER d) : (∃ l, Wf t l ∧ Ev (fun k => aZ.f k t) l ∧ Ev (fun k => aP.f k t) 0) ∨ ((∀ l, ¬ Wf t l) ∧ Ev (fun k => aP.f k t) 80) := by
  by_cases hn:(t.ay.length:Int)>200
  · refine .inr ⟨fun l W=>by have:=W.few;omega,Ev.pure fun k=>?_⟩
    unfold aP.f
    rw [if_pos (by simpa using hn)]
  · have hn:t.ay.length≤200:=by omega
    have hcond:¬decide ((t.ay.length:Int)>200)=true:=by simp;omega
    obtain ⟨K,hK⟩:=(JJ hF (by omega) t.ay.length 0 (by omega)).diag
    simp only [List.take_zero,List.map_nil,List.reverse_nil,List.drop_zero] at hK
    cases hd:zG t.ay.length [] t.ay with
    | false =>
      rw [hd] at hK
      refine .inr ⟨fun l W=>(by have:=W.defs;rw [hd] at this;cases this),⟨K,fun k hk=>?_⟩⟩
      show aP.f k t=_
      unfold aP.f
      rw [if_neg hcond,show aP.l0 k t k 0=_ from hK k hk]
      rfl
    | true =>
      rw [hd] at hK
      have hS:=Dz _ _ hd
      obtain ⟨known,hsz,I,F⟩:=Oy hS hn
      obtain ⟨v,hv,hp⟩:=JK hF hS hn I.len t.ay.length 0 (by omega)
      obtain ⟨K2,hK2⟩:=hv.diag
      obtain ⟨K3,hK3⟩:=hsz
      rcases hp with ⟨rfl,hp⟩|⟨rfl,hp⟩
      · have hg:=GH I (fun j hj=>⟨(hp j (by omega) hj).1,(hp j (by omega) hj).2.1⟩)
        have hidx:∀d∈t.ay,∃q,q<t.ay.length∧t.ay.getD q ah=d:=fun d hd=>by
          obtain ⟨q,hq,e⟩:=List.mem_iff_getElem.1 hd
          exact ⟨q,hq,by rw [List.getD_eq_getElem?_getD,List.getElem?_eq_getElem hq];exact e⟩
        refine .inl ⟨known,⟨hn,hd,hg,fun d hd=>?_,fun d hd h4=>?_⟩,⟨K3,hK3⟩,⟨max (max K K2) K3,fun k hk=>?_⟩⟩
        · obtain ⟨q,hq,rfl⟩:=hidx d hd
          exact (hp q (by omega) hq).2.2.1
        · rw [←xM hg hS hd h4]
          obtain ⟨q,hq,rfl⟩:=hidx d hd
          exact (hp q (by omega) hq).2.2.2 h4
        · show aP.f k t=_
          unfold aP.f
          rw [if_neg hcond,show aP.l0 k t k 0=_ from hK k (by omega)]
          simp only [if_true,Option.bind_some]
          rw [show aZ.f k t=_ from hK3 k (by omega)]
          simp only [Option.bind_some]
          rw [show aP.l2 k t known k 0=_ from hK2 k (by omega)]
          rfl
      · refine .inr ⟨fun l W=>?_,⟨max (max K K2) K3,fun k hk=>?_⟩⟩
        · have hkl:=Gz hS I F W.sz
          subst hkl
          refine hp fun q _ hq=>?_
          obtain ⟨rk,h⟩:=W.sz.ex
          have hm:=getD_mem (z:=ah) hq
          refine ⟨by have:=(h q hq).1;omega,(h q hq).2.1,W.ends _ hm,fun h4=>?_⟩
          rw [xM W.sz hS hm h4]
          exact W.placed _ hm h4
        · show aP.f k t=_
          unfold aP.f
          rw [if_neg hcond,show aP.l0 k t k 0=_ from hK k (by omega)]
          simp only [if_true,Option.bind_some]
          rw [show aZ.f k t=_ from hK3 k (by omega)]
          simp only [Option.bind_some]
          rw [show aP.l2 k t known k 0=_ from hK2 k (by omega)]
          rfl
section
variable {t:bf} {l:List Int}
theorem GL (hc:Ev (fun k=>aP.f k t) 0) (i:Int):Ev (fun k=>dh.f k t i) (if 0≤i∧i<t.ay.length then 0 else 3):=by
 obtain ⟨K,hK⟩:=hc
 refine ⟨K,fun k hk=>?_⟩
 show dh.f k t i=_
 unfold dh.f fG.f
 rw [show aP.f k t=_ from hK k hk]
 by_cases h0:0≤i
 ·by_cases h1:i<(t.ay.length:Int)
  ·rw [if_pos ⟨h0,h1⟩];simp [h0,h1]
  ·rw [if_neg (fun h=>h1 h.2)];simp [h0,h1]
 ·rw [if_neg (fun h=>h0 h.1)];simp [h0]
theorem JL (hc:Ev (fun k=>aP.f k t) 80) (i:Int):Ev (fun k=>dh.f k t i) 80:=by
 obtain ⟨K,hK⟩:=hc
 refine ⟨K,fun k hk=>?_⟩
 show dh.f k t i=_
 unfold dh.f
 rw [show aP.f k t=_ from hK k hk]
 rfl
theorem BR (hF : ∀ d ∈ t.ay, ER d) (i : Int) : (∃ e, e ≠ 0 ∧ Ev (fun k => iC.f k t i) e ∧ Ev (fun k => dh.f k t i) e) ∨
    (∃(n:Nat) (l:List Int),i=(n:Int)∧n<t.ay.length∧Wf t l∧Ev (fun k=>dF.f k t) true∧Ev (fun k=>aZ.f k t) l∧Ev (fun k=>iC.f k t i) 0∧Ev (fun k=>dh.f k t i) 0):=by
  rcases qy hF with ⟨l,W,hv⟩|⟨hno,hv⟩
  · rcases sW hF with ⟨l2,W2,hs,hc⟩|⟨hno,hc⟩
    · have h1:=BM hv i
      have h2:=GL hc i
      by_cases h:0≤i∧i<t.ay.length
      · rw [if_pos h] at h1 h2
        exact .inr ⟨i.toNat,l2,by omega,by omega,W2,hv,hs,h1,h2⟩
      · rw [if_neg h] at h1 h2
        exact .inl ⟨3,by decide,h1,h2⟩
    · exact absurd W (hno l)
  · rcases sW hF with ⟨l2,W2,hs,hc⟩|⟨hno,hc⟩
    · exact absurd W2 (hno l2)
    · exact .inl ⟨80,by decide,Oe hv i,JL hc i⟩
end
section
variable {t:bf} {l:List Int}
theorem qU (t:bf):∀(m:Nat) (i:Int),dI.l0 t m i=eF.l0 t m i
 |0,i=>rfl
 |m+1,i=>by rw [dI.l0,eF.l0,qU t m]
def partOf (x:dP×Int):iK:=⟨x.1,x.2⟩
theorem xO {name : ByteArray} {v : Int} : ∀ (m : Nat) (y : Int), dS.l0 t name v m y = (fZ.l0 t name v m y).map (fun x => match x with | .inl r => .inl (partOf r) | .inr s => .inr s)
  |0,y=>rfl
  | m + 1, y => by
    rw [dS.l0,fZ.l0]
    by_cases h1:decide (y<(((rd ah t.ay v).au).length:Int))=true
    · rw [if_pos h1,if_pos h1]
      by_cases h2:0≤y∧y<((rd ah t.ay v).au).length
      · by_cases h3:strEq (rd ak (rd ah t.ay v).au y).aU name=true
        · simp only [if_pos h2,if_pos h3];rfl
        · simp only [if_pos h2,if_neg h3];exact xO m _
      · rw [if_neg h2,if_neg h2];rfl
    · rw [if_neg h1,if_neg h1];rfl
theorem JM {n : Nat} {name : ByteArray} {x : dP × Int} (hg : Ev (fun k => dh.f k t (n : Int)) 0) (hx : Ev (fun k => fZ.f k t (n : Int) name) x) : Ev (fun k => dS.f k t (n : Int) name) (partOf x) := by
  obtain ⟨K,hK⟩:=hg
  obtain ⟨K2,hK2⟩:=hx
  refine ⟨max K K2,fun k hk=>?_⟩
  show dS.f k t (n:Int) name=_
  unfold dS.f
  rw [show dh.f k t (n:Int)=_ from hK k (by omega)]
  simp only [Option.bind_some]
  have h2:fZ.f k t (n:Int) name=_:=hK2 k (by omega)
  unfold fZ.f eF.f at h2
  rw [if_neg (by decide)]
  unfold dI.f
  rw [qU]
  cases hr:eF.l0 t k (n:Int) with
  |none=>rw [hr] at h2;cases h2
  | some v =>
    rw [hr] at h2
    simp only [Option.bind_some] at h2⊢
    by_cases h3:0≤v∧v<t.ay.length
    · rw [if_pos h3] at h2⊢
      by_cases h4:((rd ah t.ay v).aF !=4)=true
      · rw [if_pos h4] at h2⊢
        rw [←Option.some.inj h2];rfl
      · rw [if_neg h4] at h2⊢
        rw [xO]
        cases hm:fZ.l0 t name v k 0 with
        |none=>rw [hm] at h2;cases h2
        | some y =>
          rw [hm] at h2
          cases y with
          | inl r =>
            simp only [Option.bind_some,Option.map_some] at h2⊢
            rw [←Option.some.inj h2]
          | inr s =>
            simp only [Option.bind_some,Option.map_some] at h2⊢
            rw [←Option.some.inj h2];rfl
    · rw [if_neg h3] at h2;cases h2
def vM (x:Int×Int×Int):iq:=⟨x.1,x.2.1,x.2.2⟩
theorem JO {mem:Nat→ByteArray→dP×Int} (hm:JC t mem) (hg:∀n:Nat,n<t.ay.length→Ev (fun k=>dh.f k t (n:Int)) 0) {p:List ByteArray} (hp:p.length≤9223372036854775807):∀(e j i:Nat) (a:Int),j+e=p.length→i<t.ay.length→
    Ev2 (fun k m=>cZ.l0 k t p m (i:Int) a (j:Int)) (if (nC mem (p.drop j) i a).2.2≠0 then .inl (vM (nC mem (p.drop j) i a)) else .inr ((nC mem (p.drop j) i a).1,(nC mem (p.drop j) i a).2.1)):=by
  intro e
  induction e with
  | zero =>
    intro j i a hj hi
    rw [List.drop_eq_nil_of_le (by omega)]
    refine Ev2.pure fun k m=>?_
    rw [cZ.l0,if_neg (by simp;omega)]
    simp [nC]
  | succ e ih =>
    intro j i a hj hi
    have hlt:j<p.length:=by omega
    rw [je ByteArray.empty hlt]
    have hev:=JM (hg i hi) (hm.ev i (p.getD j ByteArray.empty) hi)
    have hty:=hm.typ i (p.getD j ByteArray.empty) hi
    have hstep:∀k m,cZ.l0 k t p (m+1) (i:Int) a (j:Int)=(dS.f k t (i:Int) (p.getD j ByteArray.empty)).bind fun v2=>if (v2.vE !=0)=true then some (.inl (⟨0,0,v2.vE⟩:iq)) else cZ.l0 k t p m v2.vF.vType (IntKind.wrap .i64 (a+v2.vF.vAt)) (((j+1:Nat)):Int):=by
      intro k m
      rw [cZ.l0,if_pos (by simp;omega),if_pos (by omega),gG,fP hlt hp]
    have hpv:nC mem (p.getD j ByteArray.empty::p.drop (j+1)) i a=if (mem i (p.getD j ByteArray.empty)).2≠0 then (0,0,(mem i (p.getD j ByteArray.empty)).2) else nC mem (p.drop (j+1)) (mem i (p.getD j ByteArray.empty)).1.vType.toNat (IntKind.wrap .i64 (a+(mem i (p.getD j ByteArray.empty)).1.vAt)):=rfl
    by_cases h0:(mem i (p.getD j ByteArray.empty)).2=0
    · obtain ⟨h1,h2⟩:=hty h0
      have h3:=ih (j+1) (mem i (p.getD j ByteArray.empty)).1.vType.toNat (IntKind.wrap .i64 (a+(mem i (p.getD j ByteArray.empty)).1.vAt)) (by omega) (by omega)
      rw [if_neg (fun h=>h h0)] at hpv
      rw [hpv]
      refine Ev2.step hev ?_ hstep
      obtain ⟨K,hK⟩:=h3
      refine ⟨K,fun k m hk hm=>?_⟩
      show (if _ then _ else _)=_
      rw [if_neg (Yj (show (partOf (mem i (p.getD j ByteArray.empty))).vE=0 from h0))]
      have:=hK k m hk hm
      rwa [show (((mem i (p.getD j ByteArray.empty)).1.vType.toNat:Nat):Int)=(mem i (p.getD j ByteArray.empty)).1.vType by omega] at this
    · rw [if_pos h0] at hpv
      rw [hpv]
      refine Ev2.step hev ⟨0,fun k m _ _=>?_⟩ hstep
      show (if _ then _ else _)=_
      rw [if_pos (Yi (show (partOf (mem i (p.getD j ByteArray.empty))).vE≠0 from h0)),if_pos h0]
      rfl
theorem Oz (hF : ∀ d ∈ t.ay, ER d) (i : Int) (p : List ByteArray) : ∃ x : Int × Int × Int, Ev (fun k => gY.f k t i p) x ∧ Ev (fun k => cZ.f k t i p) (vM x) := by
  rcases BR hF i with ⟨e,he,⟨K,hK⟩,⟨K2,hK2⟩⟩|⟨n,l,rfl,hn,W,hv,hs,h1,⟨K2,hK2⟩⟩
  · refine ⟨(0,0,e),⟨K,fun k hk=>?_⟩,⟨K2,fun k hk=>?_⟩⟩
    · show gY.f k t i p=_
      unfold gY.f
      rw [show iC.f k t i=_ from hK k hk]
      simp [he]
    · show cZ.f k t i p=_
      unfold cZ.f
      rw [show dh.f k t i=_ from hK2 k hk]
      simp [he,vM]
  · by_cases hp:p.length≤16
    · obtain ⟨mem,hm⟩:=RH W.good
      obtain ⟨h3,_⟩:=Oh hm hv hn hp
      refine ⟨_,h3,?_⟩
      have hg:∀n:Nat,n<t.ay.length→Ev (fun k=>dh.f k t (n:Int)) 0:=fun q hq=>by
        rcases BR hF (q:Int) with ⟨e,he,h5,h6⟩|⟨_,_,_,_,_,_,_,_,h6⟩
        · exact absurd (h5.uniq (yg hv hq)) he
        · exact h6
      obtain ⟨K3,hK3⟩:=(JO hm hg (p:=p) (by omega) p.length 0 n 0 (by omega) hn).diag
      rw [List.drop_zero] at hK3
      refine ⟨max K2 K3,fun k hk=>?_⟩
      show cZ.f k t (n:Int) p=_
      unfold cZ.f
      rw [show dh.f k t (n:Int)=_ from hK2 k (by omega)]
      simp only [Option.bind_some]
      rw [show decide ((p.length:Int)>16)=false from decide_eq_false (by omega)]
      simp only [Bool.and_false,Bool.false_eq_true,if_false,Option.bind_some]
      rw [if_neg (by decide),show cZ.l0 k t p k (n:Int) 0 0=_ from hK3 k (by omega)]
      simp only [Option.bind_some]
      generalize nC mem p n 0=v
      by_cases h0:v.2.2=0
      · rw [if_neg (by simp [h0])]
        obtain ⟨a,b,c⟩:=v
        simp only at h0
        subst h0
        rfl
      · rw [if_pos h0]
    · obtain ⟨K,hK⟩:=h1
      refine ⟨(0,0,2),⟨K,fun k hk=>?_⟩,⟨K2,fun k hk=>?_⟩⟩
      · show gY.f k t (n:Int) p=_
        unfold gY.f
        rw [show iC.f k t (n:Int)=_ from hK k hk]
        simp only [Option.bind_some]
        rw [if_neg (by decide),if_pos (decide_eq_true (by omega))]
      · show cZ.f k t (n:Int) p=_
        unfold cZ.f
        rw [show dh.f k t (n:Int)=_ from hK2 k hk]
        simp only [Option.bind_some]
        rw [show decide ((p.length:Int)>16)=true from decide_eq_true (by omega)]
        rfl
theorem JQ (hF : ∀ d ∈ t.ay, ER d) : ∃ e, Ev (fun k => jc.f k t) e ∧ Ev (fun k => aP.f k t) e := by
  rcases qy hF with ⟨l,W,⟨K,hK⟩⟩|⟨hno,⟨K,hK⟩⟩
  · rcases sW hF with ⟨l2,W2,_,h2⟩|⟨hno,_⟩
    · exact ⟨0, ⟨K, fun k hk => by
        show jc.f k t=_
        unfold jc.f
        rw [show dF.f k t=_ from hK k hk]
        rfl⟩, h2⟩
    · exact absurd W (hno l)
  · rcases sW hF with ⟨l2,W2,_,h2⟩|⟨_,h2⟩
    · exact absurd W2 (hno l2)
    · exact ⟨80, ⟨K, fun k hk => by
        show jc.f k t=_
        unfold jc.f
        rw [show dF.f k t=_ from hK k hk]
        rfl⟩, h2⟩
end
def lQ.f (a0:Int):Option (Int):=some (IntKind.wrap .i64 (IntKind.wrap .i8 a0))
theorem lQ.calls (a0:Int) {h0:View} {w0:World} (hv:jf h0 w0) {r:Int} (H:lQ.f a0=some r):Calls Tryz.prog 135 #[vI a0] w0 (fun e w1=>e= .returned (vI r)∧Ext w0 w1):=by
 unfold lQ.f at H
 have HS:St [] h0 w0 h0 [] w0:=St.init hv
 go_enter Tryz.func135,Tryz.ntmps135
 refine wp_seq<|region<|rs (vI 0) (aC rfl) ?_
 try simp only [sc0,sc1]
 refine aB<|aj<|wp_seq<|region<|rs (vI a0) (aK rfl)<|rs (Value.int .i8 (IntKind.wrap .i8 a0)) (jH rfl Tryz.runUnderlying2 Tryz.runUnderlying227)<|rs (vI (w64 (IntKind.wrap .i8 a0))) (jH rfl Tryz.runUnderlying227 Tryz.runUnderlying2)<|rs (vI (w64 (IntKind.wrap .i8 a0))) (aC rfl) ?_
 try simp only [sc0,sc1]
 refine aB<|aj<|wp_ret ?_
 obtain rfl:=Option.some.inj H
 exact bodyPost_ret (aW rfl (aV rfl)) rfl<|⟨rfl,HS.toE⟩
def kS.f (a0:Int):Option (Int):=some (IntKind.wrap .i64 (IntKind.wrap .u8 a0))
theorem kS.calls (a0:Int) {h0:View} {w0:World} (hv:jf h0 w0) {r:Int} (H:kS.f a0=some r):Calls Tryz.prog 136 #[vI a0] w0 (fun e w1=>e= .returned (vI r)∧Ext w0 w1):=by
 unfold kS.f at H
 have HS:St [] h0 w0 h0 [] w0:=St.init hv
 go_enter Tryz.func136,Tryz.ntmps136
 refine wp_seq<|region<|rs (vI 0) (aC rfl) ?_
 try simp only [sc0,sc1]
 refine aB<|aj<|wp_seq<|region<|rs (vI a0) (aK rfl)<|rs (Value.int .u8 (IntKind.wrap .u8 a0)) (jH rfl Tryz.runUnderlying2 Tryz.runUnderlying5)<|rs (vI (w64 (IntKind.wrap .u8 a0))) (jH rfl Tryz.runUnderlying5 Tryz.runUnderlying2)<|rs (vI (w64 (IntKind.wrap .u8 a0))) (aC rfl) ?_
 try simp only [sc0,sc1]
 refine aB<|aj<|wp_ret ?_
 obtain rfl:=Option.some.inj H
 exact bodyPost_ret (aW rfl (aV rfl)) rfl<|⟨rfl,HS.toE⟩
def kT.f (a0:Int):Option (Int):=some (IntKind.wrap .i64 (IntKind.wrap .i16 a0))
theorem kT.calls (a0:Int) {h0:View} {w0:World} (hv:jf h0 w0) {r:Int} (H:kT.f a0=some r):Calls Tryz.prog 137 #[vI a0] w0 (fun e w1=>e= .returned (vI r)∧Ext w0 w1):=by
 unfold kT.f at H
 have HS:St [] h0 w0 h0 [] w0:=St.init hv
 go_enter Tryz.func137,Tryz.ntmps137
 refine wp_seq<|region<|rs (vI 0) (aC rfl) ?_
 try simp only [sc0,sc1]
 refine aB<|aj<|wp_seq<|region<|rs (vI a0) (aK rfl)<|rs (Value.int .i16 (IntKind.wrap .i16 a0)) (jH rfl Tryz.runUnderlying2 Tryz.runUnderlying228)<|rs (vI (w64 (IntKind.wrap .i16 a0))) (jH rfl Tryz.runUnderlying228 Tryz.runUnderlying2)<|rs (vI (w64 (IntKind.wrap .i16 a0))) (aC rfl) ?_
 try simp only [sc0,sc1]
 refine aB<|aj<|wp_ret ?_
 obtain rfl:=Option.some.inj H
 exact bodyPost_ret (aW rfl (aV rfl)) rfl<|⟨rfl,HS.toE⟩
def kE.f (a0:Int):Option (Int):=some (IntKind.wrap .i64 (IntKind.wrap .u16 a0))
theorem kE.calls (a0:Int) {h0:View} {w0:World} (hv:jf h0 w0) {r:Int} (H:kE.f a0=some r):Calls Tryz.prog 138 #[vI a0] w0 (fun e w1=>e= .returned (vI r)∧Ext w0 w1):=by
 unfold kE.f at H
 have HS:St [] h0 w0 h0 [] w0:=St.init hv
 go_enter Tryz.func138,Tryz.ntmps138
 refine wp_seq<|region<|rs (vI 0) (aC rfl) ?_
 try simp only [sc0,sc1]
 refine aB<|aj<|wp_seq<|region<|rs (vI a0) (aK rfl)<|rs (Value.int .u16 (IntKind.wrap .u16 a0)) (jH rfl Tryz.runUnderlying2 Tryz.runUnderlying229)<|rs (vI (w64 (IntKind.wrap .u16 a0))) (jH rfl Tryz.runUnderlying229 Tryz.runUnderlying2)<|rs (vI (w64 (IntKind.wrap .u16 a0))) (aC rfl) ?_
 try simp only [sc0,sc1]
 refine aB<|aj<|wp_ret ?_
 obtain rfl:=Option.some.inj H
 exact bodyPost_ret (aW rfl (aV rfl)) rfl<|⟨rfl,HS.toE⟩
def kU.f (a0:Int):Option (Int):=some (IntKind.wrap .i64 (IntKind.wrap .i32 a0))
theorem kU.calls (a0:Int) {h0:View} {w0:World} (hv:jf h0 w0) {r:Int} (H:kU.f a0=some r):Calls Tryz.prog 139 #[vI a0] w0 (fun e w1=>e= .returned (vI r)∧Ext w0 w1):=by
 unfold kU.f at H
 have HS:St [] h0 w0 h0 [] w0:=St.init hv
 go_enter Tryz.func139,Tryz.ntmps139
 refine wp_seq<|region<|rs (vI 0) (aC rfl) ?_
 try simp only [sc0,sc1]
 refine aB<|aj<|wp_seq<|region<|rs (vI a0) (aK rfl)<|rs (Value.int .i32 (IntKind.wrap .i32 a0)) (jH rfl Tryz.runUnderlying2 Tryz.runUnderlying21)<|rs (vI (w64 (IntKind.wrap .i32 a0))) (jH rfl Tryz.runUnderlying21 Tryz.runUnderlying2)<|rs (vI (w64 (IntKind.wrap .i32 a0))) (aC rfl) ?_
 try simp only [sc0,sc1]
 refine aB<|aj<|wp_ret ?_
 obtain rfl:=Option.some.inj H
 exact bodyPost_ret (aW rfl (aV rfl)) rfl<|⟨rfl,HS.toE⟩
def kF.f (a0:Int):Option (Int):=some (IntKind.wrap .i64 (IntKind.wrap .u32 a0))
theorem kF.calls (a0:Int) {h0:View} {w0:World} (hv:jf h0 w0) {r:Int} (H:kF.f a0=some r):Calls Tryz.prog 140 #[vI a0] w0 (fun e w1=>e= .returned (vI r)∧Ext w0 w1):=by
 unfold kF.f at H
 have HS:St [] h0 w0 h0 [] w0:=St.init hv
 go_enter Tryz.func140,Tryz.ntmps140
 refine wp_seq<|region<|rs (vI 0) (aC rfl) ?_
 try simp only [sc0,sc1]
 refine aB<|aj<|wp_seq<|region<|rs (vI a0) (aK rfl)<|rs (Value.int .u32 (IntKind.wrap .u32 a0)) (jH rfl Tryz.runUnderlying2 Tryz.runUnderlying230)<|rs (vI (w64 (IntKind.wrap .u32 a0))) (jH rfl Tryz.runUnderlying230 Tryz.runUnderlying2)<|rs (vI (w64 (IntKind.wrap .u32 a0))) (aC rfl) ?_
 try simp only [sc0,sc1]
 refine aB<|aj<|wp_ret ?_
 obtain rfl:=Option.some.inj H
 exact bodyPost_ret (aW rfl (aV rfl)) rfl<|⟨rfl,HS.toE⟩
def kV.f (a0:Int):Option (Int):=some a0
theorem kV.calls (a0:Int) {h0:View} {w0:World} (hv:jf h0 w0) {r:Int} (H:kV.f a0=some r):Calls Tryz.prog 141 #[vI a0] w0 (fun e w1=>e= .returned (vI r)∧Ext w0 w1):=by
 unfold kV.f at H
 have HS:St [] h0 w0 h0 [] w0:=St.init hv
 go_enter Tryz.func141,Tryz.ntmps141
 refine wp_seq<|region<|rs (vI 0) (aC rfl) ?_
 try simp only [sc0,sc1]
 refine aB<|aj<|wp_seq<|region<|rs (vI a0) (aK rfl)<|rs (vI a0) (aC rfl) ?_
 try simp only [sc0,sc1]
 refine aB<|aj<|wp_ret ?_
 obtain rfl:=Option.some.inj H
 exact bodyPost_ret (aW rfl (aV rfl)) rfl<|⟨rfl,HS.toE⟩
def kG.f (a0:Int):Option (Int):=some (IntKind.wrap .i64 (IntKind.wrap .u64 a0))
theorem kG.calls (a0:Int) {h0:View} {w0:World} (hv:jf h0 w0) {r:Int} (H:kG.f a0=some r):Calls Tryz.prog 142 #[vI a0] w0 (fun e w1=>e= .returned (vI r)∧Ext w0 w1):=by
 unfold kG.f at H
 have HS:St [] h0 w0 h0 [] w0:=St.init hv
 go_enter Tryz.func142,Tryz.ntmps142
 refine wp_seq<|region<|rs (vI 0) (aC rfl) ?_
 try simp only [sc0,sc1]
 refine aB<|aj<|wp_seq<|region<|rs (vI a0) (aK rfl)<|rs (Value.int .u64 (IntKind.wrap .u64 a0)) (jH rfl Tryz.runUnderlying2 Tryz.runUnderlying71)<|rs (vI (w64 (IntKind.wrap .u64 a0))) (jH rfl Tryz.runUnderlying71 Tryz.runUnderlying2)<|rs (vI (w64 (IntKind.wrap .u64 a0))) (aC rfl) ?_
 try simp only [sc0,sc1]
 refine aB<|aj<|wp_ret ?_
 obtain rfl:=Option.some.inj H
 exact bodyPost_ret (aW rfl (aV rfl)) rfl<|⟨rfl,HS.toE⟩
end Go.Proofs.YtecpbadkdpbkpaaGreatDoor
/-bits.wrap:a number wrapped to a valid type,by the function that the map of conversions leads to. -/
namespace Go.Proofs.YtecpbadkdpbkpaaGreatDoor
open Go.RowKit Go.M
/-- a number wrapped to a type -/
def wrp (k:eP) (v:Int):Int:=if k.aS==1 then (if k.aO then IntKind.wrap .i64 (IntKind.wrap .i8 v) else IntKind.wrap .i64 (IntKind.wrap .u8 v)) else if k.aS==2 then (if k.aO then IntKind.wrap .i64 (IntKind.wrap .i16 v) else IntKind.wrap .i64 (IntKind.wrap .u16 v))
 else if k.aS==4 then (if k.aO then IntKind.wrap .i64 (IntKind.wrap .i32 v) else IntKind.wrap .i64 (IntKind.wrap .u32 v)) else (if k.aO then v else IntKind.wrap .i64 (IntKind.wrap .u64 v))
theorem Qu (k:eP):∀args w,(callFunc (thr k) args).run Tryz.prog w= .ok (.enter (thr k) args) w:=by
 unfold thr
 split
 ·split
  ·exact Tryz.call135
  ·exact Tryz.call136
 ·split
  ·split
   ·exact Tryz.call137
   ·exact Tryz.call138
  ·split
   ·split
    ·exact Tryz.call139
    ·exact Tryz.call140
   ·split
    ·exact Tryz.call141
    ·exact Tryz.call142
theorem OA (k:eP) (v:Int) {h0:View} {w0:World} (hv:jf h0 w0):Calls Tryz.prog (thr k) #[vI v] w0 (fun e w1=>e= .returned (vI (wrp k v))∧Ext w0 w1):=by
 unfold thr wrp
 split
 ·split
  ·exact lQ.calls v hv rfl
  ·exact kS.calls v hv rfl
 ·split
  ·split
   ·exact kT.calls v hv rfl
   ·exact kE.calls v hv rfl
  ·split
   ·split
    ·exact kU.calls v hv rfl
    ·exact kF.calls v hv rfl
   ·split
    ·exact kV.calls v hv rfl
    ·exact kG.calls v hv rfl
def qA.f (a0:eP) (a1:Int):Option Int:=if okI a0=true then some (wrp a0 a1) else none
theorem OB {P:Program} {ρ:Operand→Value} {w:World} {dst:Option Tmp} {ty:TypeId} {pos:String} {after:Array Edge} {guard:Option (Nat×Bool)} {xt:TypeId} {x y:Operand} {b:Nat} {k v:Value} (hx:ρ x= .map (some b)) (hy:ρ y=k)
  (h:(Instr.lookup xt (.map (some b)) k false).run P w= .ok v w):(execOp ρ ⟨dst, .lookup xt x y false,ty,pos,after,guard⟩).run P w= .ok (.value v) w:=by
 simp [execOp,hx,hy,h]
theorem qA.calls (a0:eP) (a1:Int) {h0:View} {w0:World} (hv:jf h0 w0) {r:Int} (H:qA.f a0 a1=some r):Calls Tryz.prog 57 #[Value.agg #[vI a0.aS,vB a0.aO],vI a1] w0 (fun e w1=>e= .returned (vI r)∧Ext w0 w1):=by
 unfold qA.f at H
 obtain ⟨hk0,H⟩:=fE H
 obtain rfl:=Option.some.inj H
 have HS:St [] h0 w0 h0 [] w0:=St.init hv
 go_enter Tryz.func57,Tryz.ntmps57
 refine wp_seq<|region<|dK rfl rfl (dH (cs:=#[vI a0.aS,vB a0.aO]) rfl rfl) ?_
 rintro w1 _ hE1 ⟨b1,rfl,ge1,hb1⟩
 have HS1:=HS.new hE1 ge1 hb1
 refine rs (vI 0) (aC rfl) ?_
 try simp only [sc0,sc1]
 refine aB<|aj<|wp_seq<|yH [([6,8],[1,3]),([7],[1,2,3]),([4],[5])] [0,4] [[],[],[0,1],[],[0,1,2,3],[0,1,2,3,4]] nD (by kernel_rfl) ?_
 intro w2 hE2
 have HS2:=HS1.step hE2
 refine yI [jS a0,vI a1] ?_ rfl rfl ?_
 ·simp only [patch,sc0,sc1]
  exact jP (jQ (v:=jS a0) rfl rfl rfl rfl (aY (n:=2) (vs:=[vI a0.aS,vB a0.aO]) rfl Tryz.isAgg29 (HS2.look 0 rfl) Tryz.sizeOf29 rfl rfl)) (jP (jQ rfl rfl rfl rfl (aK rfl)) uO)
 simp only [patch,sc0,sc1]
 refine uN (vs:=[]) (caps:=[]) Tryz.call90 rfl rfl qW.calls ?_
 rintro _ w3 ⟨b2,es,cl,ks,rfl,hge,hb,hk,hok,hE3⟩
 refine ⟨_,rfl,?_⟩
 refine KH ?_
 try simp only [sc0,sc1]
 have HS3:=HS2.step hE3
 have hlk:=Po X3 (fun a b h=>Dt.1 h) a0 hk Tryz.runUnderlying178 hb (by rw [hok a0];exact hk0)
 refine yI [fvI a0] ?_ rfl rfl ?_
 ·simp only [patch,sc0,sc1]
  exact jP (jQ (v:=jS a0) rfl rfl rfl rfl (aY (n:=2) (vs:=[vI a0.aS,vB a0.aO]) rfl Tryz.isAgg29 (HS3.look 0 rfl) Tryz.sizeOf29 rfl rfl)) (jP (jQ (v:=fvI a0) rfl rfl rfl rfl (OB rfl rfl hlk)) (jP (jQ rfl rfl rfl rfl (aK rfl)) uO))
 simp only [patch,sc0,sc1]
 refine uN (vs:=[vI a1]) (caps:=[]) (Qu a0) rfl rfl (OA a0 a1 HS3.sees) ?_
 rintro _ w4 ⟨rfl,hE4⟩
 refine ⟨_,rfl,?_⟩
 refine KH ?_
 try simp only [sc0,sc1]
 have HS4:=HS3.step hE4
 refine Ap [vI (wrp a0 a1)] ?_ ?_
 ·simp only [patch,sc0,sc1]
  exact jP (jQ rfl rfl rfl rfl (aC rfl)) uO
 simp only [patch,sc0,sc1]
 exact aj<|wp_ret<|bodyPost_ret (aW rfl (aV rfl)) rfl<|⟨rfl,HS4.toE⟩
end Go.Proofs.YtecpbadkdpbkpaaGreatDoor
namespace Go.Proofs.YtecpbadkdpbkpaaGreatDoor
open Go.RowKit Go.M
def In64 (y:Int):Prop:= -9223372036854775808≤y∧y≤9223372036854775807
theorem UQ (x:Int):IntKind.wrap .i64 x=if 9223372036854775808≤x%18446744073709551616 then x%18446744073709551616-18446744073709551616 else x%18446744073709551616:=by
 simp [IntKind.wrap,IntKind.bits,IntKind.signed]
theorem wu64 (x:Int):IntKind.wrap .u64 x=x%18446744073709551616:=by simp [IntKind.wrap,IntKind.bits,IntKind.signed]
theorem ZT {v:Int} (hv:In64 v):IntKind.wrap .i64 (IntKind.wrap .u64 v)=v:=by
 unfold In64 at hv
 rw [UQ,wu64]
 split<;>omega
section
variable {t:bf} {l:List Int}
theorem zI {l : List Int} (hl : ∀ j, j < l.length → 0 < l.getD j 0 ∧ l.getD j 0 ≤ 512) : ∀ (fs : List dP) (a e : Int), (∀ f ∈ fs, 0 ≤ f.vType ∧ f.vType < l.length) → 0 ≤ a → lN l a fs = some e →
    a≤e∧∀f∈fs,a≤f.vAt∧f.vAt+l.getD f.vType.toNat 0≤e
  | [], a, e, _, _, h => by
    simp only [lN,Option.some.injEq] at h
    exact ⟨by omega,by simp⟩
  | f :: fs, a, e, hf, ha, h => by
    rw [lN] at h
    split at h
    · cases h
    · next hc=>
      simp only [Bool.or_eq_true,decide_eq_true_eq,not_or] at hc
      obtain ⟨h1,h2⟩:=hf f List.mem_cons_self
      obtain ⟨h3,h4⟩:=hl f.vType.toNat (by omega)
      have hrd:rd 0 l f.vType=l.getD f.vType.toNat 0:=rfl
      rw [hrd,jC (by omega) (by omega)] at h
      obtain ⟨h5,h6⟩:=zI hl fs _ e (fun g hg=>hf g (List.mem_cons_of_mem _ hg)) (by omega) h
      refine ⟨by omega,fun g hg=>?_⟩
      rcases List.mem_cons.1 hg with rfl|hg
      · exact ⟨by omega,h5⟩
      · obtain ⟨h7,h8⟩:=h6 g hg
        exact ⟨by omega,h8⟩
theorem Qv (W:Wf t l):∀j,j<l.length→0<l.getD j 0∧l.getD j 0≤512:=fun j hj=>by
 obtain ⟨rk,h⟩:=W.sz.ex
 obtain ⟨h1,h2,_⟩:=h j (by rw [←W.sz.len];exact hj)
 exact ⟨h1,h2⟩
theorem WL (W : Wf t l) {mem : Nat → ByteArray → dP × Int} (hm : JC t mem) {i : Nat} (hi : i < t.ay.length) {name : ByteArray} (h0 : (mem i name).2 = 0) :
    0≤(mem i name).1.vAt∧(mem i name).1.vAt+l.getD (mem i name).1.vType.toNat 0≤l.getD i 0:=by
  obtain ⟨r,hr,he,h6,hlr⟩:=uq W.good i hi
  have hu:=(hm.ev i name hi).uniq (ES W.good hr he)
  rw [hu] at h0⊢
  unfold Xk at h0⊢
  have hd:=W.sh _ (getD_mem (z:=ah) hr)
  obtain ⟨rk,hsz⟩:=W.sz.ex
  obtain ⟨_,_,_,hnv⟩:=hsz r hr
  by_cases h4:(t.ay.getD r ah).aF=4
  · rw [if_neg (fun h=>h h4)] at h0⊢
    cases hf:(t.ay.getD r ah).au.find? fun f=>strEq f.aU name with
    |none=>rw [hf] at h0;simp at h0
    | some f =>
      have hmem:=List.mem_of_find?_eq_some hf
      have hp:=W.placed _ (getD_mem (z:=ah) hr) h4
      unfold sF at hp
      split at hp
      · cases hp
      · next e he2=>
        obtain ⟨_,h8⟩:=zI (Qv W) _ _ e (fun g hg=>by rw [W.sz.len];exact hd.typ h4 g hg) (by omega) he2
        obtain ⟨h9,h10⟩:=h8 f hmem
        have:l.getD r 0=(t.ay.getD r ah).vN:=by
          rw [hnv];unfold nval
          rw [if_neg (by omega),if_neg (by omega),if_neg (by omega),if_pos h4]
        have hp:=of_decide_eq_true hp
        exact ⟨h9,by show f.vAt+l.getD f.vType.toNat 0≤l.getD i 0;omega⟩
  · rw [if_pos h4] at h0;simp at h0
theorem BU (W:Wf t l) {mem:Nat→ByteArray→dP×Int} (hm:JC t mem):∀(p:List ByteArray) (i:Nat) (a:Int),i<t.ay.length→0≤a→a≤512→a+l.getD i 0≤512→(nC mem p i a).2.2=0→
    ∃y o:Nat,nC mem p i a=((y:Int),(o:Int),0)∧y<t.ay.length∧(o:Int)+l.getD y 0≤a+l.getD i 0
  |[],i,a,hi,h0,h1,h2,_=>⟨i,a.toNat,by simp only [nC];rw [show ((a.toNat:Nat):Int)=a by omega],hi,by omega⟩
  | n :: p, i, a, hi, h0, h1, h2, he => by
    simp only [nC] at he⊢
    by_cases hz:(mem i n).2=0
    · rw [if_neg (fun h=>h hz)] at he⊢
      obtain ⟨h3,h4⟩:=WL W hm hi (name:=n) hz
      obtain ⟨h5,h6⟩:=hm.typ i n hi hz
      have h7:=Qv W (mem i n).1.vType.toNat (by rw [W.sz.len];omega)
      rw [jC (by omega) (by omega)] at he⊢
      obtain ⟨y,o,h8,h9,h10⟩:=BU W hm p _ _ (by omega) (by omega) (by omega) (by omega) he
      exact ⟨y,o,h8,h9,by omega⟩
    · rw [if_pos hz] at he
      exact absurd he hz
theorem Qw (hF : ∀ d ∈ t.ay, ER d) (W : Wf t l) {i : Nat} (hi : i < t.ay.length) (p : List ByteArray) :
    ∃x:Int×Int×Int,Ev (fun k=>gY.f k t (i:Int) p) x∧Ev (fun k=>cZ.f k t (i:Int) p) (vM x)∧(x.2.2=0→∃y o:Nat,x=((y:Int),(o:Int),0)∧y<t.ay.length∧(o:Int)+l.getD y 0≤l.getD i 0):=by
  obtain ⟨x,h1,h2⟩:=Oz hF (i:Int) p
  refine ⟨x,h1,h2,fun h0=>?_⟩
  rcases qy hF with ⟨l2,W2,hv⟩|⟨hno,_⟩
  · obtain ⟨mem,hm⟩:=RH W.good
    by_cases hp:p.length≤16
    · have hu:=h1.uniq (Oh hm hv hi hp).1
      rw [hu] at h0
      have h3:=Qv W i (by rw [W.sz.len];exact hi)
      obtain ⟨y,o,h4,h5,h6⟩:=BU W hm p i 0 hi (by omega) (by omega) (by omega) h0
      exact ⟨y,o,by rw [hu,h4],h5,by omega⟩
    · obtain ⟨K,hK⟩:=yg hv hi
      have : Ev (fun k => gY.f k t (i : Int) p) (0, 0, 2) := ⟨K, fun k hk => by
        show gY.f k t (i:Int) p=_
        unfold gY.f
        rw [show iC.f k t (i:Int)=_ from hK k hk]
        simp only [Option.bind_some]
        rw [if_neg (by decide), if_pos (decide_eq_true (by omega))]⟩
      rw [h1.uniq this] at h0
      simp at h0
  · exact absurd W (hno l)
def Xl (d:bV):eP×Bool:=if d.aF=1 then (d.bW,true) else if d.aF=5 then (⟨4,true⟩,true) else if d.aF=2 then (⟨8,false⟩,true) else (⟨0,false⟩,false)
theorem GN (hF : ∀ d ∈ t.ay, ER d) (W : Wf t l) {i : Nat} (hi : i < t.ay.length) :
    ∃s:eP×Bool,Ev (fun k=>jd.f k t (i:Int)) s∧Ev (fun k=>gy.f k t (i:Int)) s∧(s.2=true→∃n:Nat,s.1.aS=(n:Int)∧(n=1∨n=2∨n=4∨n=8)∧l.getD i 0=(n:Int)):=by
  obtain ⟨r,hr,he,h6,hlr⟩:=uq W.good i hi
  rcases qy hF with ⟨l2,W2,hv⟩|⟨hno,_⟩
  · obtain ⟨K,hK⟩:=JB hv hi he
    obtain ⟨K2,hK2⟩:=he
    have hd:=W.sh _ (getD_mem (z:=ah) hr)
    obtain ⟨rk,hsz⟩:=W.sz.ex
    obtain ⟨_,_,_,hnv⟩:=hsz r hr
    have key:(if ((t.ay.getD r ah).aF==1)=true then some ((t.ay.getD r ah).bW,true) else if ((t.ay.getD r ah).aF==5)=true then some ((⟨4,true⟩:eP),true) else if ((t.ay.getD r ah).aF==2)=true then some ((⟨8,false⟩:eP),true) else some ((⟨0,false⟩:eP),false))=some (Xl (t.ay.getD r ah)):=by
      unfold Xl
      simp only [beq_iff_eq]
      repeat' split
      all_goals rfl
    refine ⟨Xl (t.ay.getD r ah),⟨K,fun k hk=>?_⟩,⟨K2,fun k hk=>?_⟩,fun h=>?_⟩
    · show jd.f k t (i:Int)=_
      unfold jd.f
      rw [show kD.f k t (i:Int)=_ from hK k hk]
      simp only [Option.bind_some]
      rw [if_neg (by decide),if_pos (by omega),gG]
      exact key
    · show gy.f k t (i:Int)=_
      unfold gy.f dI.f
      have:=hK2 k hk
      simp only [eF.f] at this
      rw [qU,this]
      simp only [Option.bind_some]
      rw [if_pos (by omega),gG]
      exact key
    · rw [← hlr, hnv]
      unfold Xl at h⊢
      unfold nval
      by_cases k1:(t.ay.getD r ah).aF=1
      · have:=hd.int k1
        rw [if_pos k1,if_pos k1]
        exact ⟨(t.ay.getD r ah).bW.aS.toNat,by show (t.ay.getD r ah).bW.aS=_;omega,by omega,by omega⟩
      · by_cases k5:(t.ay.getD r ah).aF=5
        · rw [if_neg k1,if_pos k5,if_neg k1,if_neg (by omega),if_neg (by omega),if_neg (by omega),if_pos k5]
          exact ⟨4,rfl,by omega,rfl⟩
        · by_cases k2:(t.ay.getD r ah).aF=2
          · rw [if_neg k1,if_neg k5,if_pos k2,if_neg k1,if_pos k2]
            exact ⟨8,rfl,by omega,rfl⟩
          · rw [if_neg k1,if_neg k5,if_neg k2] at h
            cases h
  · exact absurd W (hno l)
end
def aT.l0 (a0:List bY) (a1:Int) (a2:(bY→Int→Option Int)):Nat→Int→Int→Option (Int)
 |0,_,_=>none
 |m+1,aG,bH=>if (decide (aG<bH))=true then (if 0≤(IntKind.wrap .i64 (vY .u64 (IntKind.wrap .u64 (IntKind.wrap .i64 (aG+bH))) 1))∧(IntKind.wrap .i64 (vY .u64 (IntKind.wrap .u64 (IntKind.wrap .i64 (aG+bH))) 1))<a0.length then ((a2 (rd aA a0 (IntKind.wrap .i64 (vY .u64 (IntKind.wrap .u64 (IntKind.wrap .i64 (aG+bH))) 1))) a1).bind fun v1=>(if (decide (v1<0))=true then (aT.l0 a0 a1 a2 m (IntKind.wrap .i64 ((IntKind.wrap .i64 (vY .u64 (IntKind.wrap .u64 (IntKind.wrap .i64 (aG+bH))) 1))+1)) bH) else (aT.l0 a0 a1 a2 m aG (IntKind.wrap .i64 (vY .u64 (IntKind.wrap .u64 (IntKind.wrap .i64 (aG+bH))) 1))))) else none) else (some aG)
def aT.f (k:Nat) (a0:List bY) (a1:Int) (a2:bY→Int→Option Int):Option (Int×Bool):=(aT.l0 a0 a1 a2 k 0 (a0.length:Int)).bind fun xx1=>(if (true&&((decide (xx1<(a0.length:Int)))==true))=true→(0≤xx1∧xx1<a0.length) then ((if (true&&((decide (xx1<(a0.length:Int)))==true))=true then a2 (rd aA a0 xx1) a1 else some 0).bind fun v2=>(some (xx1,((decide (xx1<(a0.length:Int)))&&(v2==0))))) else none)
theorem aT.calls (k:Nat) (a0:List bY) (a1:Int) (a2:bY→Int→Option Int) (bQ:Option Addr) (bT:Nat) (zU:Nat) (cap2:List Value) {h0:View} {w0:World} (hv:jf h0 w0) (fB:Rd gJ h0 bQ a0) (gI:a0.length≤bT) (JR:∀args w,(callFunc zU args).run Tryz.prog w= .ok (.enter zU args) w) (UR:∀(z0:bY) (DF:Option Addr) (DJ:Nat) (z1:Int) (h:View) (w:World),Ext w0 w→Sub h0 h→jf h w→Rd (Kd.int .u8) h DF z0.bF→z0.bF.length≤DJ→∀(r:Int),a2 z0 z1=some r→Calls Tryz.prog zU ([Value.agg #[vI z0.vAt,vL DF z0.bF.length DJ],vI z1]++cap2).toArray w (fun e w1=>e= .returned (vI r)∧Ext w w1)) {r:Int×Bool} (H:aT.f k a0 a1 a2=some r):Calls Tryz.prog 143 #[vL bQ a0.length bT,vI a1,Value.func (.func zU) #[] cap2.toArray] w0 (fun e w1=>e= .returned (Value.tuple #[vI r.1,vB r.2])∧Ext w0 w1):=by
 unfold aT.f at H
 have HS:St [] h0 w0 h0 [] w0:=St.init hv
 go_enter Tryz.func143,Tryz.ntmps143
 refine wp_seq<|region<|rs (vI 0) (aC rfl)<|rs (vB false) (aC rfl) ?_
 try simp only [sc0,sc1]
 refine aB<|aj<|wp_seq<|region<|rs (vL bQ a0.length bT) (aK rfl)<|rs (vI (a0.length:Int)) (iT rfl Tryz.runUnderlying25)<|rs (vI (a0.length:Int)) (aC rfl) ?_
 try simp only [sc0,sc1]
 refine aB<|aj<|wp_seq<|region<|rs (vI (a0.length:Int)) (aK rfl)<|rs (vI 0) (aC rfl)<|rs (vI (a0.length:Int)) (aC rfl) ?_
 try simp only [sc0,sc1]
 refine aB<|aj<|wp_seq ?_
 obtain ⟨xx1,H,G1⟩:=bJ H
 refine iW [9,10,11,15,16,17,18,19,20,21,22,23,24,25,26,27,28,29,30,31,32,33,34] (fun m us w'=>∃aG bH:Int,Fit us (fun uy1=>[vI aG,vI bH,(uy1 2),(uy1 3),(uy1 4),(uy1 5),(uy1 6),(uy1 7),(uy1 8),(uy1 9),(uy1 10),(uy1 11),(uy1 12),(uy1 13),(uy1 14),(uy1 15),(uy1 16),(uy1 17),(uy1 18),(uy1 19),(uy1 20),(uy1 21),(uy1 22)])∧aT.l0 a0 a1 a2 m aG bH=some xx1∧St [] h0 w0 h0 [] w') (fun us w'=>Fit us (fun uo1=>[vI xx1,(uo1 1),(uo1 2),(uo1 3),(uo1 4),(uo1 5),(uo1 6),(uo1 7),(uo1 8),(uo1 9),(uo1 10),(uo1 11),(uo1 12),(uo1 13),(uo1 14),(uo1 15),(uo1 16),(uo1 17),(uo1 18),(uo1 19),(uo1 20),(uo1 21),(uo1 22)])∧St [] h0 w0 h0 [] w') k ⟨0,(a0.length:Int),(fit rfl),H,HS⟩ ?_ ?_
 ·rintro m us w1 ⟨aG,bH,lZ,H,HS1⟩
  obtain ⟨uy1,rfl⟩:=unj lZ
  cases m with
  |zero=>exact absurd H (by simp [aT.l0])
  |succ m=>
   rw [aT.l0] at H
   try simp only [patch,sc0,sc1]
   refine wp_seq<|wp_seq<|region<|rs (vI aG) (aK rfl)<|rs (vI bH) (aK rfl)<|rs (vB (decide (aG<bH))) (bK rfl rfl rfl) ?_
   try simp only [sc0,sc1]
   refine aB<|aj<|wp_cond_split (t:=(decide (aG<bH))) rfl (fun c1=>?_) (fun c1=>?_)
   ·replace H:=bU H c1
    refine wp_skip<|aj<|wp_block<|wp_seq<|region<|rs (vI aG) (aK rfl)<|rs (vI bH) (aK rfl)<|rs (vI (w64 (aG+bH))) (bK rfl rfl rfl)<|rs (Value.int .u64 (IntKind.wrap .u64 (w64 (aG+bH)))) (jH rfl Tryz.runUnderlying3 Tryz.runUnderlying220)<|aI (by simp only [sc0,sc1];rfl) ?_
    refine rs (Value.int .u64 (vY .u64 (IntKind.wrap .u64 (w64 (aG+bH))) 1)) (Xo rfl rfl (by decide))<|rs (vI (w64 (vY .u64 (IntKind.wrap .u64 (w64 (aG+bH))) 1))) (jH rfl Tryz.runUnderlying220 Tryz.runUnderlying3)<|rs (vI (w64 (vY .u64 (IntKind.wrap .u64 (w64 (aG+bH))) 1))) (aC rfl) ?_
    try simp only [sc0,sc1]
    refine aB<|aj<|wp_seq<|region<|rs (Value.func (.func zU) #[] cap2.toArray) (aK rfl)<|rs (vL bQ a0.length bT) (aK rfl)<|rs (vI (w64 (vY .u64 (IntKind.wrap .u64 (w64 (aG+bH))) 1))) (aK rfl) ?_
    obtain ⟨hi1,H⟩:=fE H
    obtain ⟨ad1,jl,jm,e1,kX,uy,sG⟩:=jT fB hi1.1 hi1.2
    refine rs (Value.pointer (some (Addr.add ad1 ((w64 (vY .u64 (IntKind.wrap .u64 (w64 (aG+bH))) 1)).toNat*2)))) (dQ (sz:=2) rfl e1 rfl hi1.1 hi1.2 Tryz.runUnderlying25 Tryz.sizeOf58)<|aI (by simp only [sc0,sc1];rfl) ?_
    refine rs (Value.agg #[vI ((rd aA a0 (w64 (vY .u64 (IntKind.wrap .u64 (w64 (aG+bH))) 1))).vAt),vL jl ((rd aA a0 (w64 (vY .u64 (IntKind.wrap .u64 (w64 (aG+bH))) 1))).bF).length jm]) (gK rfl Tryz.isAgg58 (kX.sees HS1.sees) Tryz.sizeOf58)<|rs (vI a1) (aK rfl) ?_
    obtain ⟨v1,H1,H⟩:=bJ H
    refine run_eq (v:=vI v1) rfl rfl (sN (vs:=[Value.agg #[vI ((rd aA a0 (w64 (vY .u64 (IntKind.wrap .u64 (w64 (aG+bH))) 1))).vAt),vL jl ((rd aA a0 (w64 (vY .u64 (IntKind.wrap .u64 (w64 (aG+bH))) 1))).bF).length jm],vI a1]) (caps:=cap2) JR rfl rfl (UR (rd aA a0 (w64 (vY .u64 (IntKind.wrap .u64 (w64 (aG+bH))) 1))) jl jm a1 _ _ HS1.toE HS1.sub HS1.sees sG uy _ H1)) ?_
    intro w2 hE1
    have HS2:=HS1.step hE1
    refine rs (vB (decide (v1<0))) (bK rfl rfl rfl) ?_
    try simp only [sc0,sc1]
    refine aB<|aj<|wp_cond_split (t:=(decide (v1<0))) rfl (fun c2=>?_) (fun c2=>?_)
    ·replace H:=bU H c2
     refine region<|rs (vI (w64 (vY .u64 (IntKind.wrap .u64 (w64 (aG+bH))) 1))) (aK rfl)<|rs (vI (w64 ((w64 (vY .u64 (IntKind.wrap .u64 (w64 (aG+bH))) 1))+1))) (bK rfl rfl rfl)<|rs (vI (w64 ((w64 (vY .u64 (IntKind.wrap .u64 (w64 (aG+bH))) 1))+1))) (aC rfl) ?_
     try simp only [sc0,sc1]
     refine aB<|dB<|gX m (Nat.lt_succ_self m) rfl ⟨(w64 ((w64 (vY .u64 (IntKind.wrap .u64 (w64 (aG+bH))) 1))+1)),bH,(fit rfl),H,HS2⟩
    ·replace H:=bZ H (nt c2)
     refine region<|rs (vI (w64 (vY .u64 (IntKind.wrap .u64 (w64 (aG+bH))) 1))) (aK rfl)<|rs (vI (w64 (vY .u64 (IntKind.wrap .u64 (w64 (aG+bH))) 1))) (aC rfl) ?_
     try simp only [sc0,sc1]
     refine aB<|dB<|gX m (Nat.lt_succ_self m) rfl ⟨aG,(w64 (vY .u64 (IntKind.wrap .u64 (w64 (aG+bH))) 1)),(fit rfl),H,HS2⟩
   ·replace H:=bZ H (nt c1)
    refine wp_exit<|fF ?_
    obtain rfl:=Option.some.inj H
    refine iw rfl ⟨(fit rfl),HS1⟩
 ·rintro us w3 ⟨l7,HS3⟩
  obtain ⟨uo1,rfl⟩:=unj l7
  replace H:=G1
  clear G1
  try simp only [patch,sc0,sc1]
  refine aj<|wp_seq<|region<|rs (vI xx1) (aK rfl)<|rs (vI xx1) (aK rfl)<|rs (vI (a0.length:Int)) (aK rfl)<|rs (vB (decide (xx1<(a0.length:Int)))) (bK rfl rfl rfl)<|aI (by simp only [sc0,sc1];rfl) ?_
  refine rs (vB (decide (xx1<(a0.length:Int)))) (aK rfl)<|rgs (decide (xx1<(a0.length:Int))) true (Value.func (.func zU) #[] cap2.toArray) rfl rfl rfl rfl (fun hg=>(aK rfl))<|rgs (decide (xx1<(a0.length:Int))) true (vL bQ a0.length bT) rfl rfl rfl rfl (fun hg=>(aK rfl))<|rgs (decide (xx1<(a0.length:Int))) true (vI xx1) rfl rfl rfl rfl (fun hg=>(aK rfl))<|aI (by simp only [sc0,sc1];rfl) ?_
  obtain ⟨hi2,H⟩:=fE H
  obtain ⟨ad2,qX,pq,hq1⟩:=gx3 (fun hC:(true&&((decide (xx1<(a0.length:Int)))==true))=true=>jT fB (hi2 hC).1 (hi2 hC).2)
  refine rgs (decide (xx1<(a0.length:Int))) true (Value.pointer (some (Addr.add ad2 (xx1.toNat*2)))) rfl rfl rfl rfl (fun hg=>(dQ (sz:=2) (gvt (vL bQ a0.length bT) hg rfl) (hq1 hg).1 (gvt (vI xx1) hg rfl) (hi2 hg).1 (hi2 hg).2 Tryz.runUnderlying25 Tryz.sizeOf58))<|rgs (decide (xx1<(a0.length:Int))) true (Value.agg #[vI ((rd aA a0 xx1).vAt),vL qX ((rd aA a0 xx1).bF).length pq]) rfl rfl rfl rfl (fun hg=>(gK (gvt (Value.pointer (some (Addr.add ad2 (xx1.toNat*2)))) hg rfl) Tryz.isAgg58 (((hq1 hg).2.1).sees HS3.sees) Tryz.sizeOf58))<|rgs (decide (xx1<(a0.length:Int))) true (vI a1) rfl rfl rfl rfl (fun hg=>(aK rfl)) ?_
  obtain ⟨v2,H2,H⟩:=bJ H
  refine vU (b:=(decide (xx1<(a0.length:Int)))) (c:=true) (v:=vI v2) rfl rfl rfl rfl (fun hg=>(sN (vs:=[Value.agg #[vI ((rd aA a0 xx1).vAt),vL qX ((rd aA a0 xx1).bF).length pq],vI a1]) (caps:=cap2) JR (gvt (Value.func (.func zU) #[] cap2.toArray) hg rfl) (Kt (gvt (Value.agg #[vI ((rd aA a0 xx1).vAt),vL qX ((rd aA a0 xx1).bF).length pq]) hg rfl) (gvt (vI a1) hg rfl)) (UR (rd aA a0 xx1) qX pq a1 _ _ HS3.toE HS3.sub HS3.sees ((hq1 hg).2.2.2) ((hq1 hg).2.2.1) _ (bU H2 hg)))) ?_
  intro w4 hE2
  have HS4:=HS3.step hE2
  refine aI (by simp only [sc0,sc1];rfl) ?_
  refine rgs (decide (xx1<(a0.length:Int))) true (vB (v2==0)) rfl rfl rfl rfl (fun hg=>(bK (gvt (vI v2) hg rfl) rfl rfl))<|rs (vB ((decide (xx1<(a0.length:Int)))&&(v2==0))) (dw rfl (fun hp=>(gvt (vB (v2==0)) (gu rfl hp) rfl)) rfl)<|rs (vI xx1) (aC rfl)<|rs (vB ((decide (xx1<(a0.length:Int)))&&(v2==0))) (aC rfl) ?_
  try simp only [sc0,sc1]
  refine aB<|aj<|wp_ret ?_
  obtain rfl:=Option.some.inj H
  exact bodyPost_ret (fO rfl (aV rfl) (aV rfl)) rfl<|⟨rfl,HS4.toE⟩
end Go.Proofs.YtecpbadkdpbkpaaGreatDoor
/-image.search:a binary search whose comparison is a closure over a function value. -/
namespace Go.Proofs.YtecpbadkdpbkpaaGreatDoor
open Go.RowKit Go.M
def iZ.f (a2:bY→Option Int) (x:bY) (n:Int):Option Int:=(a2 x).bind fun v=>if (decide (v≤n))=true then some (-1) else some 1
def WM (a2:bY→Option Int) (zU:Nat) (cap2:List Value) (h0:View) (w0:World):Prop:=
 ∀(z0:bY) (DF:Option Addr) (DJ:Nat) (h:View) (w:World),Ext w0 w→Sub h0 h→jf h w→Rd (Kd.int .u8) h DF z0.bF→z0.bF.length≤DJ→∀(r:Int),a2 z0=some r→Calls Tryz.prog zU ([Value.agg #[vI z0.vAt,vL DF z0.bF.length DJ]]++cap2).toArray w (fun e w1=>e= .returned (vI r)∧Ext w w1)
theorem iZ.calls (a2:bY→Option Int) (zU:Nat) (cap2:List Value) (x:bY) (J8:Option Addr) (J9:Nat) (n:Int) (bx:Nat) {h0:View} {w0:World} (hv:jf h0 w0) (WO:Rd (Kd.int .u8) h0 J8 x.bF) (WQ:x.bF.length≤J9)
  (JR:∀args w,(callFunc zU args).run Tryz.prog w= .ok (.enter zU args) w) (UR:WM a2 zU cap2 h0 w0) (hbx:w0.heap[bx]?=some (.cells #[Value.func (.func zU) #[] cap2.toArray] 182 (0,0))) {r:Int} (H:iZ.f a2 x n=some r):
  Calls Tryz.prog 144 #[Value.agg #[vI x.vAt,vL J8 x.bF.length J9],vI n,vP bx 0] w0 (fun e w1=>e= .returned (vI r)∧Ext w0 w1):=by
 unfold iZ.f at H
 have HS:St [] h0 w0 h0 [] w0:=St.init hv
 go_enter Tryz.func144,Tryz.ntmps144
 refine wp_seq<|region<|dK rfl rfl (dH (cs:=#[vI x.vAt,vL J8 x.bF.length J9]) rfl rfl) ?_
 rintro w1 _ hE1 ⟨b1,rfl,ge1,hb1⟩
 have HS1:=HS.new hE1 ge1 hb1
 refine rs (vI 0) (aC rfl) ?_
 try simp only [sc0,sc1]
 refine aB<|aj<|wp_seq<|wp_seq<|region<|rs (Value.func (.func zU) #[] cap2.toArray) (aN rfl Tryz.isAgg182 (kR hbx HS1.toE) rfl)<|rs (Value.agg #[vI x.vAt,vL J8 x.bF.length J9]) (aY (n:=2) (vs:=[vI x.vAt,vL J8 x.bF.length J9]) rfl Tryz.isAgg58 (HS1.look 0 rfl) Tryz.sizeOf58 rfl rfl) ?_
 obtain ⟨v1,H1,H⟩:=bJ H
 refine run_eq (v:=vI v1) rfl rfl (sN (vs:=[Value.agg #[vI x.vAt,vL J8 x.bF.length J9]]) (caps:=cap2) JR rfl rfl (UR x J8 J9 _ _ HS1.toE HS1.sub HS1.sees WO WQ _ H1)) ?_
 intro w2 hE2
 have HS2:=HS1.step hE2
 refine rs (vI n) (aK rfl)<|aI (by simp only [sc0,sc1];rfl) ?_
 refine rs (vB (decide (v1≤n))) (bK rfl rfl rfl) ?_
 try simp only [sc0,sc1]
 refine aB<|aj<|wp_cond_split (t:=(decide (v1≤n))) rfl (fun c1=>?_) (fun c1=>?_)
 ·replace H:=bU H c1
  refine wp_seq<|region<|rs (vI (-1)) (aC rfl) ?_
  try simp only [sc0,sc1]
  refine aB<|aj<|wp_ret<|aX ?_
  obtain rfl:=Option.some.inj H
  exact bodyPost_ret (aW rfl (aV rfl)) rfl<|⟨rfl,HS2.toE⟩
 ·replace H:=bZ H (nt c1)
  refine wp_skip<|aj<|wp_seq<|region<|rs (vI 1) (aC rfl) ?_
  try simp only [sc0,sc1]
  refine aB<|aj<|wp_ret ?_
  obtain rfl:=Option.some.inj H
  exact bodyPost_ret (aW rfl (aV rfl)) rfl<|⟨rfl,HS2.toE⟩
def fH.f (k:Nat) (a0:List bY) (a1:Int) (a2:bY→Option Int):Option Int:=
 (aT.f k a0 a1 (fun z0 z1=>iZ.f a2 z0 z1)).bind fun v1=>some v1.1
theorem fH.calls (k:Nat) (a0:List bY) (a1:Int) (a2:bY→Option Int) (bQ:Option Addr) (bT:Nat) (zU:Nat) (cap2:List Value) {h0:View} {w0:World} (hv:jf h0 w0) (fB:Rd gJ h0 bQ a0) (gI:a0.length≤bT)
  (JR:∀args w,(callFunc zU args).run Tryz.prog w= .ok (.enter zU args) w) (UR:WM a2 zU cap2 h0 w0) {r:Int} (H:fH.f k a0 a1 a2=some r):
  Calls Tryz.prog 92 #[vL bQ a0.length bT,vI a1,Value.func (.func zU) #[] cap2.toArray] w0 (fun e w1=>e= .returned (vI r)∧Ext w0 w1):=by
 unfold fH.f at H
 have HS:St [] h0 w0 h0 [] w0:=St.init hv
 go_enter Tryz.func92,Tryz.ntmps92
 refine wp_seq<|region<|dK rfl rfl (dH (cs:=#[Value.func (.func zU) #[] cap2.toArray]) rfl rfl) ?_
 rintro w1 _ hE1 ⟨b1,rfl,ge1,hb1⟩
 have HS1:=HS.new hE1 ge1 hb1
 refine rs (vI 0) (aC rfl) ?_
 try simp only [sc0,sc1]
 refine aB<|aj<|wp_seq<|region<|rs (vL bQ a0.length bT) (aK rfl)<|rs (vI a1) (aK rfl)<|rs (Value.func (.func 144) #[] #[vP b1 0]) (oC (vs:=[vP b1 0]) rfl) ?_
 obtain ⟨v1,H1,H⟩:=bJ H
 refine run_eq (v:=Value.tuple #[vI v1.1,vB v1.2]) rfl rfl (bC Tryz.call143 rfl rfl (aT.calls k a0 a1 (fun z0 z1=>iZ.f a2 z0 z1) bQ bT 144 [vP b1 0] HS1.sees fB gI Tryz.call144
  (fun z0 DF DJ z1 h w hE hs hv hz hzc r H=>iZ.calls a2 zU cap2 z0 DF DJ z1 b1 hv hz hzc JR (fun y A c h' w' hE' hs'=>UR y A c h' w' (Ext.then (Ext.then HS1.toE hE) hE') (fun a v e=>hs' a v (hs a v e))) (kR (HS1.look 0 rfl) hE) H) H1)) ?_
 intro w2 hE2
 have HS2:=HS1.step hE2
 refine aI (by simp only [sc0,sc1];rfl) ?_
 refine rs (Value.tuple #[vI v1.1,vB v1.2]) (aK rfl)<|rs (vI v1.1) (eU (vs:=#[vI v1.1,vB v1.2]) rfl rfl)<|rs (vB v1.2) (eU (vs:=#[vI v1.1,vB v1.2]) rfl rfl)<|aI (by simp only [sc0,sc1];rfl) ?_
 refine rs (vI v1.1) (aC rfl)<|rs (vB v1.2) (aC rfl) ?_
 try simp only [sc0,sc1]
 refine aB<|aj<|wp_seq<|region<|rs (vI v1.1) (aK rfl)<|rs (vI v1.1) (aC rfl) ?_
 try simp only [sc0,sc1]
 refine aB<|aj<|wp_ret ?_
 obtain rfl:=Option.some.inj H
 exact bodyPost_ret (aW rfl (aV rfl)) rfl<|⟨rfl,HS2.toE⟩
end Go.Proofs.YtecpbadkdpbkpaaGreatDoor
namespace Go.Proofs.YtecpbadkdpbkpaaGreatDoor
open Go.RowKit Go.M
def lF.f (a0:bY):Option (Int):=some (IntKind.wrap .i64 (a0.vAt+(a0.bF.length:Int)))
theorem lF.calls (a0:bY) (J8:Option Addr) (J9:Nat) {h0:View} {w0:World} (hv:jf h0 w0) (WO:Rd (Kd.int .u8) h0 J8 a0.bF) (WQ:a0.bF.length≤J9) {r:Int} (H:lF.f a0=some r):Calls Tryz.prog 93 #[Value.agg #[vI a0.vAt,vL J8 a0.bF.length J9]] w0 (fun e w1=>e= .returned (vI r)∧Ext w0 w1):=by
 unfold lF.f at H
 have HS:St [] h0 w0 h0 [] w0:=St.init hv
 go_enter Tryz.func93,Tryz.ntmps93
 refine wp_seq<|region<|dK rfl rfl (dH (cs:=#[vI a0.vAt,vL J8 a0.bF.length J9]) rfl rfl) ?_
 rintro w1 _ hE1 ⟨b1,rfl,ge1,hb1⟩
 have HS1:=HS.new hE1 ge1 hb1
 refine rs (vI 0) (aC rfl) ?_
 try simp only [sc0,sc1]
 refine aB<|aj<|wp_seq<|region<|rs (vP b1 0) (aH (n:=1) (o':=0) rfl Tryz.runUnderlying58 rfl Tryz.sizeOf2 (by decide) rfl)<|rs (vI a0.vAt) (aN rfl Tryz.isAgg2 (HS1.look 0 rfl) rfl)<|rs (vP b1 1) (aH (n:=1) (o':=1) rfl Tryz.runUnderlying58 rfl Tryz.sizeOf42 (by decide) rfl)<|rs (vL J8 a0.bF.length J9) (aN rfl Tryz.isAgg42 (HS1.look 0 rfl) rfl)<|aI (by simp only [sc0,sc1];rfl) ?_
 refine rs (vI (a0.bF.length:Int)) (iT rfl Tryz.runUnderlying42)<|rs (vI (w64 (a0.vAt+(a0.bF.length:Int)))) (bK rfl rfl rfl)<|rs (vI (w64 (a0.vAt+(a0.bF.length:Int)))) (aC rfl) ?_
 try simp only [sc0,sc1]
 refine aB<|aj<|wp_ret ?_
 obtain rfl:=Option.some.inj H
 exact bodyPost_ret (aW rfl (aV rfl)) rfl<|⟨rfl,HS1.toE⟩
def iQ.l0 (a0:dX) (a1:Int) (a2:Int):Nat→Int→(List Int)→Option (((List Int)×Bool)⊕((List Int)))
 |0,_,_=>none
 |m+1,aG,bH=>if (decide (((bH.length:Nat):Int)<a2))=true then (if (true&&(((decide ((IntKind.wrap .i64 (a1+((bH.length:Nat):Int)))<0))||(decide (aG≥(a0.aQ.length:Int))))==false))=true→(0≤aG∧aG<a0.aQ.length) then (if (((decide ((IntKind.wrap .i64 (a1+((bH.length:Nat):Int)))<0))||(decide (aG≥(a0.aQ.length:Int))))||(decide ((rd aA a0.aQ aG).vAt>(IntKind.wrap .i64 (a1+((bH.length:Nat):Int))))))=true then (some (.inl (([]:List Int),false))) else (if 0≤aG∧aG<a0.aQ.length then (if 0≤(IntKind.wrap .i64 ((IntKind.wrap .i64 (a1+((bH.length:Nat):Int)))-((rd aA a0.aQ aG).vAt)))∧(IntKind.wrap .i64 ((IntKind.wrap .i64 (a1+((bH.length:Nat):Int)))-((rd aA a0.aQ aG).vAt)))≤(tu (((rd aA a0.aQ aG).bF).length:Int) (IntKind.wrap .i64 ((IntKind.wrap .i64 ((IntKind.wrap .i64 ((IntKind.wrap .i64 (a1+((bH.length:Nat):Int)))-((rd aA a0.aQ aG).vAt)))+a2))-((bH.length:Nat):Int))))∧(tu (((rd aA a0.aQ aG).bF).length:Int) (IntKind.wrap .i64 ((IntKind.wrap .i64 ((IntKind.wrap .i64 ((IntKind.wrap .i64 (a1+((bH.length:Nat):Int)))-((rd aA a0.aQ aG).vAt)))+a2))-((bH.length:Nat):Int))))≤(((rd aA a0.aQ aG).bF).length:Int) then (if bH.length+(List.drop (IntKind.wrap .i64 ((IntKind.wrap .i64 (a1+((bH.length:Nat):Int)))-((rd aA a0.aQ aG).vAt))).toNat (List.take (tu (((rd aA a0.aQ aG).bF).length:Int) (IntKind.wrap .i64 ((IntKind.wrap .i64 ((IntKind.wrap .i64 ((IntKind.wrap .i64 (a1+((bH.length:Nat):Int)))-((rd aA a0.aQ aG).vAt)))+a2))-((bH.length:Nat):Int)))).toNat ((rd aA a0.aQ aG).bF))).length≤4294967296 then (iQ.l0 a0 a1 a2 m (IntKind.wrap .i64 (aG+1)) (bH++(List.drop (IntKind.wrap .i64 ((IntKind.wrap .i64 (a1+((bH.length:Nat):Int)))-((rd aA a0.aQ aG).vAt))).toNat (List.take (tu (((rd aA a0.aQ aG).bF).length:Int) (IntKind.wrap .i64 ((IntKind.wrap .i64 ((IntKind.wrap .i64 ((IntKind.wrap .i64 (a1+((bH.length:Nat):Int)))-((rd aA a0.aQ aG).vAt)))+a2))-((bH.length:Nat):Int)))).toNat ((rd aA a0.aQ aG).bF))))) else none) else none) else none)) else none) else (some (.inr bH))
def iQ.f (k:Nat) (a0:dX) (a1:Int) (a2:Int):Option ((List Int)×Bool):=(fH.f k a0.aQ a1 (fun z0=>lF.f z0)).bind fun v1=>((iQ.l0 a0 a1 a2 k v1 ([]:List Int)).bind fun xx1=>(match xx1 with| .inl r=>some r| .inr s1=>some (s1,true)))
theorem iQ.calls (k:Nat) (a0:dX) (a1:Int) (a2:Int) (bQ:Option Addr) (bT:Nat) {h0:View} {w0:World} (hv:jf h0 w0) (fB:Rd gJ h0 bQ a0.aQ) (gI:a0.aQ.length≤bT) {r:(List Int)×Bool} (H:iQ.f k a0 a1 a2=some r):Calls Tryz.prog 59 #[Value.agg #[vL bQ a0.aQ.length bT],vI a1,vI a2] w0 (fun e w1=>∃(h1:View) (bQ:Option Addr) (bT:Nat),e= .returned (Value.tuple #[vL bQ r.1.length bT,vB r.2])∧r.1.length≤bT∧Rd (Kd.int .u8) h1 bQ r.1∧Gr w0.heap.size h0 h1∧jf h1 w1∧Ext w0 w1):=by
 unfold iQ.f at H
 have HS:St [] h0 w0 h0 [] w0:=St.init hv
 go_enter Tryz.func59,Tryz.ntmps59
 refine wp_seq<|region<|dK rfl rfl (dH (cs:=#[vL bQ a0.aQ.length bT]) rfl rfl) ?_
 rintro w1 _ hE1 ⟨b1,rfl,ge1,hb1⟩
 have HS1:=HS.new hE1 ge1 hb1
 refine rs (vL none 0 0) (aC rfl)<|rs (vB false) (aC rfl) ?_
 try simp only [sc0,sc1]
 refine aB<|aj<|wp_seq<|region<|rs (vL none 0 0) (aC rfl) ?_
 try simp only [sc0,sc1]
 refine aB<|aj<|wp_seq<|wp_seq<|region<|rs (vP b1 0) (aH (n:=1) (o':=0) rfl Tryz.runUnderlying27 rfl Tryz.sizeOf25 (by decide) rfl)<|rs (vL bQ a0.aQ.length bT) (aN rfl Tryz.isAgg25 (HS1.look 0 rfl) rfl)<|rs (vI a1) (aK rfl) ?_
 obtain ⟨v1,H1,H⟩:=bJ H
 refine run_eq (v:=vI v1) rfl rfl (bC Tryz.call92 rfl rfl (fH.calls k a0.aQ a1 (fun z0=>lF.f z0) bQ bT 93 [] HS1.sees fB gI Tryz.call93 (fun z0 DF DJ h w hE hs hv Yl WR r H=>lF.calls z0 DF DJ hv Yl WR H) H1)) ?_
 intro w2 hE2
 have HS2:=HS1.step hE2
 refine aI (by simp only [sc0,sc1];rfl) ?_
 refine rs (vI v1) (aC rfl) ?_
 try simp only [sc0,sc1]
 refine aB<|aj ?_
 have HS3:=HS2.nothing (.cells ([]:List Value).toArray 5 (0,0))
 obtain ⟨xx1,H,G1⟩:=bJ H
 refine iW [6,7,8,9,10,11,12,17,18,19,20,21,22,23,24,25,26,27,28,29,30,31,32,33,34,35,36,37,38,39,40,41,42,43,44,45,46,47,48,49,50,51,52,53,54,55,56,57,58,59,60,61,62,63,64,65,66,67,68,69,70] (fun m us w'=>∃aG:Int,∃bH:List Int,∃(kJ:Option Nat) (qo:Nat),∃(kK:List Value),Fit us (fun uy1=>[(uy1 0),(uy1 1),vL (rowA kJ) bH.length qo,vI aG,(uy1 4),(uy1 5),(uy1 6),(uy1 7),(uy1 8),(uy1 9),(uy1 10),(uy1 11),(uy1 12),(uy1 13),(uy1 14),(uy1 15),(uy1 16),(uy1 17),(uy1 18),(uy1 19),(uy1 20),(uy1 21),(uy1 22),(uy1 23),(uy1 24),(uy1 25),(uy1 26),(uy1 27),(uy1 28),(uy1 29),(uy1 30),(uy1 31),(uy1 32),(uy1 33),(uy1 34),(uy1 35),(uy1 36),(uy1 37),(uy1 38),(uy1 39),(uy1 40),(uy1 41),(uy1 42),(uy1 43),(uy1 44),(uy1 45),(uy1 46),(uy1 47),(uy1 48),(uy1 49),(uy1 50),(uy1 51),(uy1 52),(uy1 53),(uy1 54),(uy1 55),(uy1 56),(uy1 57),(uy1 58),(uy1 59),(uy1 60)])∧iQ.l0 a0 a1 a2 m aG bH=some xx1∧iY (Kd.int .u8) h0 bH kJ bH.length qo kK∧St [] h0 w0 h0 [(kJ, .cells (kK).toArray 5 (0,0)),(some b1, .cells #[vL bQ a0.aQ.length bT] 27 (0,0))] w') (fun us w'=>∃(s1:(List Int)),xx1= .inr s1∧∃(lq:Option Nat) (qp:Nat),∃(rX:List Value),Fit us (fun uo1=>[(uo1 0),(uo1 1),vL (rowA lq) s1.length qp,(uo1 3),(uo1 4),(uo1 5),(uo1 6),(uo1 7),(uo1 8),(uo1 9),(uo1 10),(uo1 11),(uo1 12),(uo1 13),(uo1 14),(uo1 15),(uo1 16),(uo1 17),(uo1 18),(uo1 19),(uo1 20),(uo1 21),(uo1 22),(uo1 23),(uo1 24),(uo1 25),(uo1 26),(uo1 27),(uo1 28),(uo1 29),(uo1 30),(uo1 31),(uo1 32),(uo1 33),(uo1 34),(uo1 35),(uo1 36),(uo1 37),(uo1 38),(uo1 39),(uo1 40),(uo1 41),(uo1 42),(uo1 43),(uo1 44),(uo1 45),(uo1 46),(uo1 47),(uo1 48),(uo1 49),(uo1 50),(uo1 51),(uo1 52),(uo1 53),(uo1 54),(uo1 55),(uo1 56),(uo1 57),(uo1 58),(uo1 59),(uo1 60)])∧iY (Kd.int .u8) h0 s1 lq s1.length qp rX∧St [] h0 w0 h0 [(lq, .cells (rX).toArray 5 (0,0)),(some b1, .cells #[vL bQ a0.aQ.length bT] 27 (0,0))] w') k ⟨v1,([]:List Int),none,0,([]:List Value),(fit rfl),H,(iY.none' (Kd.int .u8) _).norm,HS3⟩ ?_ ?_
 ·rintro m us w3 ⟨aG,bH,kJ,qo,kK,lZ,H,ng,HS4⟩
  obtain ⟨uy1,rfl⟩:=unj lZ
  cases m with
  |zero=>exact absurd H (by simp [iQ.l0])
  |succ m=>
   rw [iQ.l0] at H
   try simp only [patch,sc0,sc1]
   refine wp_seq<|wp_seq<|region<|rs (vL (rowA kJ) bH.length qo) (aK rfl)<|rs (vI ((bH.length:Nat):Int)) (Cm rfl Tryz.runUnderlying42)<|rs (vI a2) (aK rfl)<|rs (vB (decide (((bH.length:Nat):Int)<a2))) (bK rfl rfl rfl) ?_
   try simp only [sc0,sc1]
   refine aB<|aj<|wp_cond_split (t:=(decide (((bH.length:Nat):Int)<a2))) rfl (fun c1=>?_) (fun c1=>?_)
   ·replace H:=bU H c1
    refine wp_skip<|aj<|wp_seq<|wp_block<|wp_seq<|region<|rs (vI a1) (aK rfl)<|rs (vL (rowA kJ) bH.length qo) (aK rfl)<|rs (vI ((bH.length:Nat):Int)) (Cm rfl Tryz.runUnderlying42)<|rs (vI (w64 (a1+((bH.length:Nat):Int)))) (bK rfl rfl rfl)<|aI (by simp only [sc0,sc1];rfl) ?_
    refine rs (vI (w64 (a1+((bH.length:Nat):Int)))) (aC rfl) ?_
    try simp only [sc0,sc1]
    refine aB<|aj<|wp_seq<|wp_seq<|region<|rs (vI (w64 (a1+((bH.length:Nat):Int)))) (aK rfl)<|rs (vB (decide ((w64 (a1+((bH.length:Nat):Int)))<0))) (bK rfl rfl rfl)<|rs (vB (decide ((w64 (a1+((bH.length:Nat):Int)))<0))) (aK rfl)<|rgs (decide ((w64 (a1+((bH.length:Nat):Int)))<0)) true (vI aG) rfl rfl rfl rfl (fun hg=>(aK rfl))<|aI (by simp only [sc0,sc1];rfl) ?_
    refine rgs (decide ((w64 (a1+((bH.length:Nat):Int)))<0)) true (vP b1 0) rfl rfl rfl rfl (fun hg=>(aH (n:=1) (o':=0) rfl Tryz.runUnderlying27 rfl Tryz.sizeOf25 (by decide) rfl))<|rgs (decide ((w64 (a1+((bH.length:Nat):Int)))<0)) true (vL bQ a0.aQ.length bT) rfl rfl rfl rfl (fun hg=>(aN (gvt (vP b1 0) hg rfl) Tryz.isAgg25 (HS4.look 1 rfl) rfl))<|rgs (decide ((w64 (a1+((bH.length:Nat):Int)))<0)) true (vI (a0.aQ.length:Int)) rfl rfl rfl rfl (fun hg=>(iT (gvt (vL bQ a0.aQ.length bT) hg rfl) Tryz.runUnderlying25))<|rgs (decide ((w64 (a1+((bH.length:Nat):Int)))<0)) true (vB (decide (aG≥(a0.aQ.length:Int)))) rfl rfl rfl rfl (fun hg=>(bK (gvt (vI aG) hg rfl) (gvt (vI (a0.aQ.length:Int)) hg rfl) rfl))<|aI (by simp only [sc0,sc1];rfl) ?_
    refine rs (vB ((decide ((w64 (a1+((bH.length:Nat):Int)))<0))||(decide (aG≥(a0.aQ.length:Int))))) (dV rfl rfl (fun hp=>(gvt (vB (decide (aG≥(a0.aQ.length:Int)))) (gu rfl hp) rfl)))<|rs (vB ((decide ((w64 (a1+((bH.length:Nat):Int)))<0))||(decide (aG≥(a0.aQ.length:Int))))) (aK rfl)<|rgs ((decide ((w64 (a1+((bH.length:Nat):Int)))<0))||(decide (aG≥(a0.aQ.length:Int)))) true (vP b1 0) rfl rfl rfl rfl (fun hg=>(aH (n:=1) (o':=0) rfl Tryz.runUnderlying27 rfl Tryz.sizeOf25 (by decide) rfl))<|rgs ((decide ((w64 (a1+((bH.length:Nat):Int)))<0))||(decide (aG≥(a0.aQ.length:Int)))) true (vL bQ a0.aQ.length bT) rfl rfl rfl rfl (fun hg=>(aN (gvt (vP b1 0) hg rfl) Tryz.isAgg25 (HS4.look 1 rfl) rfl))<|aI (by simp only [sc0,sc1];rfl) ?_
    refine rgs ((decide ((w64 (a1+((bH.length:Nat):Int)))<0))||(decide (aG≥(a0.aQ.length:Int)))) true (vI aG) rfl rfl rfl rfl (fun hg=>(aK rfl)) ?_
    obtain ⟨hi1,H⟩:=fE H
    obtain ⟨ad1,jl,jm,hq1⟩:=gx3 (fun hC:(true&&(((decide ((w64 (a1+((bH.length:Nat):Int)))<0))||(decide (aG≥(a0.aQ.length:Int))))==false))=true=>jT fB (hi1 hC).1 (hi1 hC).2)
    refine rgs ((decide ((w64 (a1+((bH.length:Nat):Int)))<0))||(decide (aG≥(a0.aQ.length:Int)))) true (Value.pointer (some (Addr.add ad1 (aG.toNat*2)))) rfl rfl rfl rfl (fun hg=>(dQ (sz:=2) (gvt (vL bQ a0.aQ.length bT) hg rfl) (hq1 hg).1 (gvt (vI aG) hg rfl) (hi1 hg).1 (hi1 hg).2 Tryz.runUnderlying25 Tryz.sizeOf58))<|rgs ((decide ((w64 (a1+((bH.length:Nat):Int)))<0))||(decide (aG≥(a0.aQ.length:Int)))) true (Value.pointer (some (Addr.add (Addr.add ad1 (aG.toNat*2)) 0))) rfl rfl rfl rfl (fun hg=>(jG (n:=1) (o':=0) (gvt (Value.pointer (some (Addr.add ad1 (aG.toNat*2)))) hg rfl) Tryz.runUnderlying58 rfl Tryz.sizeOf2 (by decide) rfl))<|rgs ((decide ((w64 (a1+((bH.length:Nat):Int)))<0))||(decide (aG≥(a0.aQ.length:Int)))) true (vI ((rd aA a0.aQ aG).vAt)) rfl rfl rfl rfl (fun hg=>(jF (gvt (Value.pointer (some (Addr.add (Addr.add ad1 (aG.toNat*2)) 0))) hg rfl) Tryz.isAgg2 (((hq1 hg).2.1).cell HS4.sees 0 rfl)))<|aI (by simp only [sc0,sc1];rfl) ?_
    refine rgs ((decide ((w64 (a1+((bH.length:Nat):Int)))<0))||(decide (aG≥(a0.aQ.length:Int)))) true (vI (w64 (a1+((bH.length:Nat):Int)))) rfl rfl rfl rfl (fun hg=>(aK rfl))<|rgs ((decide ((w64 (a1+((bH.length:Nat):Int)))<0))||(decide (aG≥(a0.aQ.length:Int)))) true (vB (decide ((rd aA a0.aQ aG).vAt>(w64 (a1+((bH.length:Nat):Int)))))) rfl rfl rfl rfl (fun hg=>(bK (gvt (vI ((rd aA a0.aQ aG).vAt)) hg rfl) (gvt (vI (w64 (a1+((bH.length:Nat):Int)))) hg rfl) rfl))<|rs (vB (((decide ((w64 (a1+((bH.length:Nat):Int)))<0))||(decide (aG≥(a0.aQ.length:Int))))||(decide ((rd aA a0.aQ aG).vAt>(w64 (a1+((bH.length:Nat):Int))))))) (dV rfl rfl (fun hp=>(gvt (vB (decide ((rd aA a0.aQ aG).vAt>(w64 (a1+((bH.length:Nat):Int)))))) (gu rfl hp) rfl))) ?_
    try simp only [sc0,sc1]
    refine aB<|aj<|wp_cond_split (t:=(((decide ((w64 (a1+((bH.length:Nat):Int)))<0))||(decide (aG≥(a0.aQ.length:Int))))||(decide ((rd aA a0.aQ aG).vAt>(w64 (a1+((bH.length:Nat):Int))))))) rfl (fun c2=>?_) (fun c2=>?_)
    ·replace H:=bU H c2
     refine wp_seq<|region<|rs (vL none 0 0) (aC rfl)<|rs (vB false) (aC rfl) ?_
     try simp only [sc0,sc1]
     refine aB<|aj<|wp_ret<|aX<|dn<|aX<|gW<|aX ?_
     obtain rfl:=Option.some.inj H
     obtain rfl:=Option.some.inj G1
     exact bodyPost_ret (fO rfl (aV rfl) (aV rfl)) rfl<|⟨h0,none,0,rfl,(Nat.le_refl 0),(Rd.nil _ _ _),HS4.gr,HS4.sees,HS4.toE⟩
    ·replace H:=bZ H (nt c2)
     refine wp_skip<|aj<|wp_seq<|region<|rs (vP b1 0) (aH (n:=1) (o':=0) rfl Tryz.runUnderlying27 rfl Tryz.sizeOf25 (by decide) rfl)<|rs (vL bQ a0.aQ.length bT) (aN rfl Tryz.isAgg25 (HS4.look 1 rfl) rfl)<|rs (vI aG) (aK rfl) ?_
     obtain ⟨hi2,H⟩:=fE H
     obtain ⟨ad2,qX,pq,e2,wV,OC,Uy⟩:=jT fB hi2.1 hi2.2
     refine rs (Value.pointer (some (Addr.add ad2 (aG.toNat*2)))) (dQ (sz:=2) rfl e2 rfl hi2.1 hi2.2 Tryz.runUnderlying25 Tryz.sizeOf58)<|aI (by simp only [sc0,sc1];rfl) ?_
     refine rs (Value.agg #[vI ((rd aA a0.aQ aG).vAt),vL qX ((rd aA a0.aQ aG).bF).length pq]) (gK rfl Tryz.isAgg58 (wV.sees HS4.sees) Tryz.sizeOf58)<|dK rfl rfl (fA (cs:=#[vI 0,vL none 0 0]) Tryz.zeroValue58 rfl) ?_
     rintro w4 _ hE3 ⟨b2,rfl,ge2,hb2⟩
     have HS5:=HS4.new hE3 ge2 hb2
     refine gq (i:=0) (cs:=[vI 0,vL none 0 0]) (cs':=[vI ((rd aA a0.aQ aG).vAt),vL qX ((rd aA a0.aQ aG).bF).length pq]) (vs:=[vI ((rd aA a0.aQ aG).vAt),vL qX ((rd aA a0.aQ aG).bF).length pq]) (bs':=[(some b2, .cells #[vI ((rd aA a0.aQ aG).vAt),vL qX ((rd aA a0.aQ aG).bF).length pq] 58 (0,0)),(kJ, .cells (kK).toArray 5 (0,0)),(some b1, .cells #[vL bQ a0.aQ.length bT] 27 (0,0))]) rfl rfl Tryz.sizeOf58 rfl rfl (by decide) rfl HS5 rfl (Nat.le_of_ble_eq_true rfl) rfl rfl ?_
     intro w5 HS6
     try simp only [sc0,sc1]
     refine aB<|aj<|wp_seq<|region<|rs (vI (w64 (a1+((bH.length:Nat):Int)))) (aK rfl)<|rs (vP b2 0) (aH (n:=1) (o':=0) rfl Tryz.runUnderlying58 rfl Tryz.sizeOf2 (by decide) rfl)<|rs (vI ((rd aA a0.aQ aG).vAt)) (aN rfl Tryz.isAgg2 (HS6.look 0 rfl) rfl)<|rs (vI (w64 ((w64 (a1+((bH.length:Nat):Int)))-((rd aA a0.aQ aG).vAt)))) (bK rfl rfl rfl)<|aI (by simp only [sc0,sc1];rfl) ?_
     refine rs (vI (w64 ((w64 (a1+((bH.length:Nat):Int)))-((rd aA a0.aQ aG).vAt)))) (aC rfl) ?_
     try simp only [sc0,sc1]
     refine aB<|aj<|region<|rs (vL (rowA kJ) bH.length qo) (aK rfl)<|rs (vP b2 1) (aH (n:=1) (o':=1) rfl Tryz.runUnderlying58 rfl Tryz.sizeOf42 (by decide) rfl)<|rs (vL qX ((rd aA a0.aQ aG).bF).length pq) (aN rfl Tryz.isAgg42 (HS6.look 0 rfl) rfl)<|rs (vI (w64 ((w64 (a1+((bH.length:Nat):Int)))-((rd aA a0.aQ aG).vAt)))) (aK rfl)<|aI (by simp only [sc0,sc1];rfl) ?_
     refine rs (vP b2 1) (aH (n:=1) (o':=1) rfl Tryz.runUnderlying58 rfl Tryz.sizeOf42 (by decide) rfl)<|rs (vL qX ((rd aA a0.aQ aG).bF).length pq) (aN rfl Tryz.isAgg42 (HS6.look 0 rfl) rfl)<|rs (vI (((rd aA a0.aQ aG).bF).length:Int)) (iT rfl Tryz.runUnderlying42)<|rs (vI (w64 ((w64 (a1+((bH.length:Nat):Int)))-((rd aA a0.aQ aG).vAt)))) (aK rfl)<|aI (by simp only [sc0,sc1];rfl) ?_
     refine rs (vI a2) (aK rfl)<|rs (vI (w64 ((w64 ((w64 (a1+((bH.length:Nat):Int)))-((rd aA a0.aQ aG).vAt)))+a2))) (bK rfl rfl rfl)<|rs (vL (rowA kJ) bH.length qo) (aK rfl)<|rs (vI ((bH.length:Nat):Int)) (Cm rfl Tryz.runUnderlying42)<|aI (by simp only [sc0,sc1];rfl) ?_
     refine rs (vI (w64 ((w64 ((w64 ((w64 (a1+((bH.length:Nat):Int)))-((rd aA a0.aQ aG).vAt)))+a2))-((bH.length:Nat):Int)))) (bK rfl rfl rfl)<|rs (vI (tu (((rd aA a0.aQ aG).bF).length:Int) (w64 ((w64 ((w64 ((w64 (a1+((bH.length:Nat):Int)))-((rd aA a0.aQ aG).vAt)))+a2))-((bH.length:Nat):Int))))) (UZ rfl rfl) ?_
     obtain ⟨hk1,H⟩:=fE H
     obtain ⟨Ym,ZU⟩:=Rd.Xp Uy OC hk1
     refine rs (vL (Fj qX pq (w64 ((w64 (a1+((bH.length:Nat):Int)))-((rd aA a0.aQ aG).vAt))).toNat 1) (List.drop (w64 ((w64 (a1+((bH.length:Nat):Int)))-((rd aA a0.aQ aG).vAt))).toNat (List.take (tu (((rd aA a0.aQ aG).bF).length:Int) (w64 ((w64 ((w64 ((w64 (a1+((bH.length:Nat):Int)))-((rd aA a0.aQ aG).vAt)))+a2))-((bH.length:Nat):Int)))).toNat ((rd aA a0.aQ aG).bF))).length (pq-(w64 ((w64 (a1+((bH.length:Nat):Int)))-((rd aA a0.aQ aG).vAt))).toNat)) (RX rfl OC Tryz.runUnderlying42 Tryz.sizeOf5 rfl rfl hk1) ?_
     obtain ⟨nw1,sr1,hn1⟩:=U5 (c:=(pq-(w64 ((w64 (a1+((bH.length:Nat):Int)))-((rd aA a0.aQ aG).vAt))).toNat)) Sm Tryz.runUnderlying42 HS6.sees Ym
     obtain ⟨hl1,H⟩:=fE H
     refine Fg (Kd.int .u8) (q:=1) (cs:=kK) rfl rfl Tryz.runUnderlying42 Tryz.typeInfo5 Tryz.zeroValue5 rfl (by decide) rfl sr1 rfl hn1 hl1 HS6 rfl ng ?_
     intro w6 ob1 c3 cs1 HS7 ho1
     refine aI (by simp only [sc0,sc1];rfl) ?_
     refine rs (vL (rowA ob1) (bH.length+(List.drop (w64 ((w64 (a1+((bH.length:Nat):Int)))-((rd aA a0.aQ aG).vAt))).toNat (List.take (tu (((rd aA a0.aQ aG).bF).length:Int) (w64 ((w64 ((w64 ((w64 (a1+((bH.length:Nat):Int)))-((rd aA a0.aQ aG).vAt)))+a2))-((bH.length:Nat):Int)))).toNat ((rd aA a0.aQ aG).bF))).length) c3) (aC rfl) ?_
     try simp only [sc0,sc1]
     refine aB<|dB<|aj<|region<|rs (vI aG) (aK rfl)<|rs (vI (w64 (aG+1))) (bK rfl rfl rfl)<|rs (vI (w64 (aG+1))) (aC rfl) ?_
     try simp only [sc0,sc1]
     refine aB<|gX m (Nat.lt_succ_self m) rfl ⟨(w64 (aG+1)),(bH++(List.drop (w64 ((w64 (a1+((bH.length:Nat):Int)))-((rd aA a0.aQ aG).vAt))).toNat (List.take (tu (((rd aA a0.aQ aG).bF).length:Int) (w64 ((w64 ((w64 ((w64 (a1+((bH.length:Nat):Int)))-((rd aA a0.aQ aG).vAt)))+a2))-((bH.length:Nat):Int)))).toNat ((rd aA a0.aQ aG).bF)))),ob1,c3,cs1,(fit (by first|rfl|(rw [ho1.len];done)|(rw [ho1.len];rfl))),H,ho1.norm,HS7.tail⟩
   ·replace H:=bZ H (nt c1)
    refine wp_exit<|fF ?_
    obtain rfl:=Option.some.inj H
    refine iw rfl ⟨_,rfl,kJ,qo,kK,(fit rfl),ng.norm,HS4⟩
 ·rintro us w7 ⟨s1,rfl,lq,qp,rX,l7,tJ,HS8⟩
  obtain ⟨uo1,rfl⟩:=unj l7
  replace H:=G1
  clear G1
  try simp only [patch,sc0,sc1]
  refine aj<|wp_seq<|region<|rs (vL (rowA lq) s1.length qp) (aK rfl)<|rs (vL (rowA lq) s1.length qp) (aC rfl)<|rs (vB true) (aC rfl) ?_
  try simp only [sc0,sc1]
  refine aB<|aj<|wp_ret ?_
  obtain rfl:=Option.some.inj H
  refine bodyPost_ret (fO rfl (aV rfl) (aV rfl)) rfl ?_
  obtain ⟨h1,HS9,hs1,Qh⟩:=vZ HS8 (i:=0) rfl tJ
  exact ⟨h1,(rowA lq),qp,rfl,tJ.cap,Qh,HS9.gr,HS9.sees,HS9.toE⟩
def fD.l0 (a0:dX) (a1:Int):Nat→Int→Option ((Int×Bool)⊕(Unit))
 |0,_=>none
 |m+1,aG=>if (decide (aG<(a0.aQ.length:Int)))=true then (if 0≤aG∧aG<a0.aQ.length then (if ((decide (a1≥(rd aA a0.aQ aG).vAt))&&(decide ((IntKind.wrap .i64 (a1-((rd aA a0.aQ aG).vAt)))<(((rd aA a0.aQ aG).bF).length:Int))))=true then (if 0≤(IntKind.wrap .i64 (a1-((rd aA a0.aQ aG).vAt)))∧(IntKind.wrap .i64 (a1-((rd aA a0.aQ aG).vAt)))<((rd aA a0.aQ aG).bF).length then (some (.inl ((rd 0 ((rd aA a0.aQ aG).bF) (IntKind.wrap .i64 (a1-((rd aA a0.aQ aG).vAt)))),true))) else none) else (fD.l0 a0 a1 m (IntKind.wrap .i64 (aG+1)))) else none) else (some (.inr ()))
def fD.f (k:Nat) (a0:dX) (a1:Int):Option (Int×Bool):=(fD.l0 a0 a1 k 0).bind fun xx1=>(match xx1 with| .inl r=>some r| .inr s1=>some (0,false))
theorem fD.calls (k:Nat) (a0:dX) (a1:Int) (bQ:Option Addr) (bT:Nat) {h0:View} {w0:World} (hv:jf h0 w0) (fB:Rd gJ h0 bQ a0.aQ) (gI:a0.aQ.length≤bT) {r:Int×Bool} (H:fD.f k a0 a1=some r):Calls Tryz.prog 65 #[Value.agg #[vL bQ a0.aQ.length bT],vI a1] w0 (fun e w1=>e= .returned (Value.tuple #[Value.int .u8 r.1,vB r.2])∧Ext w0 w1):=by
 unfold fD.f at H
 have HS:St [] h0 w0 h0 [] w0:=St.init hv
 go_enter Tryz.func65,Tryz.ntmps65
 refine wp_seq<|region<|dK rfl rfl (dH (cs:=#[vL bQ a0.aQ.length bT]) rfl rfl) ?_
 rintro w1 _ hE1 ⟨b1,rfl,ge1,hb1⟩
 have HS1:=HS.new hE1 ge1 hb1
 refine rs (Value.int .u8 0) (aC rfl)<|rs (vB false) (aC rfl) ?_
 try simp only [sc0,sc1]
 refine aB<|aj<|wp_seq<|wp_seq<|region<|rs (vI 0) (aC rfl) ?_
 try simp only [sc0,sc1]
 refine aB<|aj ?_
 obtain ⟨xx1,H,G1⟩:=bJ H
 refine iW [4,5,6,7,8,9,10,11,12,13,14,15,16,17,18,19,20,21,22,23,24,25,26,27,28,29,30,31,32,33,34,35,36,37,38,39,40,41] (fun m us w'=>∃(aG:Int),Fit us (fun uy1=>[(uy1 0),(uy1 1),vI aG,(uy1 3),(uy1 4),(uy1 5),(uy1 6),(uy1 7),(uy1 8),(uy1 9),(uy1 10),(uy1 11),(uy1 12),(uy1 13),(uy1 14),(uy1 15),(uy1 16),(uy1 17),(uy1 18),(uy1 19),(uy1 20),(uy1 21),(uy1 22),(uy1 23),(uy1 24),(uy1 25),(uy1 26),(uy1 27),(uy1 28),(uy1 29),(uy1 30),(uy1 31),(uy1 32),(uy1 33),(uy1 34),(uy1 35),(uy1 36),(uy1 37)])∧fD.l0 a0 a1 m aG=some xx1∧St [] h0 w0 h0 [(some b1, .cells #[vL bQ a0.aQ.length bT] 27 (0,0))] w') (fun us w'=>∃(s1:Unit),xx1= .inr s1∧Fit us (fun uo1=>[(uo1 0),(uo1 1),(uo1 2),(uo1 3),(uo1 4),(uo1 5),(uo1 6),(uo1 7),(uo1 8),(uo1 9),(uo1 10),(uo1 11),(uo1 12),(uo1 13),(uo1 14),(uo1 15),(uo1 16),(uo1 17),(uo1 18),(uo1 19),(uo1 20),(uo1 21),(uo1 22),(uo1 23),(uo1 24),(uo1 25),(uo1 26),(uo1 27),(uo1 28),(uo1 29),(uo1 30),(uo1 31),(uo1 32),(uo1 33),(uo1 34),(uo1 35),(uo1 36),(uo1 37)])∧St [] h0 w0 h0 [(some b1, .cells #[vL bQ a0.aQ.length bT] 27 (0,0))] w') k ⟨0,(fit rfl),H,HS1⟩ ?_ ?_
 ·rintro m us w2 ⟨aG,lZ,H,HS2⟩
  obtain ⟨uy1,rfl⟩:=unj lZ
  cases m with
  |zero=>exact absurd H (by simp [fD.l0])
  |succ m=>
   rw [fD.l0] at H
   try simp only [patch,sc0,sc1]
   refine wp_seq<|wp_seq<|region<|rs (vI aG) (aK rfl)<|rs (vP b1 0) (aH (n:=1) (o':=0) rfl Tryz.runUnderlying27 rfl Tryz.sizeOf25 (by decide) rfl)<|rs (vL bQ a0.aQ.length bT) (aN rfl Tryz.isAgg25 (HS2.look 0 rfl) rfl)<|rs (vI (a0.aQ.length:Int)) (iT rfl Tryz.runUnderlying25)<|aI (by simp only [sc0,sc1];rfl) ?_
   refine rs (vB (decide (aG<(a0.aQ.length:Int)))) (bK rfl rfl rfl) ?_
   try simp only [sc0,sc1]
   refine aB<|aj<|wp_cond_split (t:=(decide (aG<(a0.aQ.length:Int)))) rfl (fun c1=>?_) (fun c1=>?_)
   ·replace H:=bU H c1
    refine wp_skip<|aj<|wp_seq<|wp_block<|wp_seq<|region<|rs (vP b1 0) (aH (n:=1) (o':=0) rfl Tryz.runUnderlying27 rfl Tryz.sizeOf25 (by decide) rfl)<|rs (vL bQ a0.aQ.length bT) (aN rfl Tryz.isAgg25 (HS2.look 0 rfl) rfl)<|rs (vI aG) (aK rfl) ?_
    obtain ⟨hi1,H⟩:=fE H
    obtain ⟨ad1,jl,jm,e1,kX,uy,sG⟩:=jT fB hi1.1 hi1.2
    refine rs (Value.pointer (some (Addr.add ad1 (aG.toNat*2)))) (dQ (sz:=2) rfl e1 rfl hi1.1 hi1.2 Tryz.runUnderlying25 Tryz.sizeOf58)<|aI (by simp only [sc0,sc1];rfl) ?_
    refine rs (Value.agg #[vI ((rd aA a0.aQ aG).vAt),vL jl ((rd aA a0.aQ aG).bF).length jm]) (gK rfl Tryz.isAgg58 (kX.sees HS2.sees) Tryz.sizeOf58)<|dK rfl rfl (fA (cs:=#[vI 0,vL none 0 0]) Tryz.zeroValue58 rfl) ?_
    rintro w3 _ hE2 ⟨b2,rfl,ge2,hb2⟩
    have HS3:=HS2.new hE2 ge2 hb2
    refine gq (i:=0) (cs:=[vI 0,vL none 0 0]) (cs':=[vI ((rd aA a0.aQ aG).vAt),vL jl ((rd aA a0.aQ aG).bF).length jm]) (vs:=[vI ((rd aA a0.aQ aG).vAt),vL jl ((rd aA a0.aQ aG).bF).length jm]) (bs':=[(some b2, .cells #[vI ((rd aA a0.aQ aG).vAt),vL jl ((rd aA a0.aQ aG).bF).length jm] 58 (0,0)),(some b1, .cells #[vL bQ a0.aQ.length bT] 27 (0,0))]) rfl rfl Tryz.sizeOf58 rfl rfl (by decide) rfl HS3 rfl (Nat.le_of_ble_eq_true rfl) rfl rfl ?_
    intro w4 HS4
    try simp only [sc0,sc1]
    refine aB<|aj<|wp_seq<|region<|rs (vI a1) (aK rfl)<|rs (vP b2 0) (aH (n:=1) (o':=0) rfl Tryz.runUnderlying58 rfl Tryz.sizeOf2 (by decide) rfl)<|rs (vI ((rd aA a0.aQ aG).vAt)) (aN rfl Tryz.isAgg2 (HS4.look 0 rfl) rfl)<|rs (vB (decide (a1≥(rd aA a0.aQ aG).vAt))) (bK rfl rfl rfl)<|aI (by simp only [sc0,sc1];rfl) ?_
    refine rs (vB (decide (a1≥(rd aA a0.aQ aG).vAt))) (aK rfl)<|rgs (decide (a1≥(rd aA a0.aQ aG).vAt)) true (vI a1) rfl rfl rfl rfl (fun hg=>(aK rfl))<|rgs (decide (a1≥(rd aA a0.aQ aG).vAt)) true (vP b2 0) rfl rfl rfl rfl (fun hg=>(aH (n:=1) (o':=0) rfl Tryz.runUnderlying58 rfl Tryz.sizeOf2 (by decide) rfl))<|rgs (decide (a1≥(rd aA a0.aQ aG).vAt)) true (vI ((rd aA a0.aQ aG).vAt)) rfl rfl rfl rfl (fun hg=>(aN (gvt (vP b2 0) hg rfl) Tryz.isAgg2 (HS4.look 0 rfl) rfl))<|aI (by simp only [sc0,sc1];rfl) ?_
    refine rgs (decide (a1≥(rd aA a0.aQ aG).vAt)) true (vI (w64 (a1-((rd aA a0.aQ aG).vAt)))) rfl rfl rfl rfl (fun hg=>(bK (gvt (vI a1) hg rfl) (gvt (vI ((rd aA a0.aQ aG).vAt)) hg rfl) rfl))<|rgs (decide (a1≥(rd aA a0.aQ aG).vAt)) true (vP b2 1) rfl rfl rfl rfl (fun hg=>(aH (n:=1) (o':=1) rfl Tryz.runUnderlying58 rfl Tryz.sizeOf42 (by decide) rfl))<|rgs (decide (a1≥(rd aA a0.aQ aG).vAt)) true (vL jl ((rd aA a0.aQ aG).bF).length jm) rfl rfl rfl rfl (fun hg=>(aN (gvt (vP b2 1) hg rfl) Tryz.isAgg42 (HS4.look 0 rfl) rfl))<|rgs (decide (a1≥(rd aA a0.aQ aG).vAt)) true (vI (((rd aA a0.aQ aG).bF).length:Int)) rfl rfl rfl rfl (fun hg=>(iT (gvt (vL jl ((rd aA a0.aQ aG).bF).length jm) hg rfl) Tryz.runUnderlying42))<|aI (by simp only [sc0,sc1];rfl) ?_
    refine rgs (decide (a1≥(rd aA a0.aQ aG).vAt)) true (vB (decide ((w64 (a1-((rd aA a0.aQ aG).vAt)))<(((rd aA a0.aQ aG).bF).length:Int)))) rfl rfl rfl rfl (fun hg=>(bK (gvt (vI (w64 (a1-((rd aA a0.aQ aG).vAt)))) hg rfl) (gvt (vI (((rd aA a0.aQ aG).bF).length:Int)) hg rfl) rfl))<|rs (vB ((decide (a1≥(rd aA a0.aQ aG).vAt))&&(decide ((w64 (a1-((rd aA a0.aQ aG).vAt)))<(((rd aA a0.aQ aG).bF).length:Int))))) (dw rfl (fun hp=>(gvt (vB (decide ((w64 (a1-((rd aA a0.aQ aG).vAt)))<(((rd aA a0.aQ aG).bF).length:Int)))) (gu rfl hp) rfl)) rfl) ?_
    try simp only [sc0,sc1]
    refine aB<|aj<|wp_cond_split (t:=((decide (a1≥(rd aA a0.aQ aG).vAt))&&(decide ((w64 (a1-((rd aA a0.aQ aG).vAt)))<(((rd aA a0.aQ aG).bF).length:Int))))) rfl (fun c2=>?_) (fun c2=>?_)
    ·replace H:=bU H c2
     refine wp_seq<|region<|rs (vP b2 1) (aH (n:=1) (o':=1) rfl Tryz.runUnderlying58 rfl Tryz.sizeOf42 (by decide) rfl)<|rs (vL jl ((rd aA a0.aQ aG).bF).length jm) (aN rfl Tryz.isAgg42 (HS4.look 0 rfl) rfl)<|rs (vI a1) (aK rfl)<|rs (vP b2 0) (aH (n:=1) (o':=0) rfl Tryz.runUnderlying58 rfl Tryz.sizeOf2 (by decide) rfl)<|aI (by simp only [sc0,sc1];rfl) ?_
     refine rs (vI ((rd aA a0.aQ aG).vAt)) (aN rfl Tryz.isAgg2 (HS4.look 0 rfl) rfl)<|rs (vI (w64 (a1-((rd aA a0.aQ aG).vAt)))) (bK rfl rfl rfl) ?_
     obtain ⟨hi2,H⟩:=fE H
     obtain ⟨ad2,e2,wV⟩:=oU sG hi2.1 hi2.2
     refine rs (Value.pointer (some (Addr.add ad2 ((w64 (a1-((rd aA a0.aQ aG).vAt))).toNat*1)))) (dQ (sz:=1) rfl e2 rfl hi2.1 hi2.2 Tryz.runUnderlying42 Tryz.sizeOf5)<|rs (Value.int .u8 (rd 0 ((rd aA a0.aQ aG).bF) (w64 (a1-((rd aA a0.aQ aG).vAt))))) (jF rfl Tryz.isAgg5 (wV.cell0 HS4.sees rfl))<|aI (by simp only [sc0,sc1];rfl) ?_
     refine rs (Value.int .u8 (rd 0 ((rd aA a0.aQ aG).bF) (w64 (a1-((rd aA a0.aQ aG).vAt))))) (aC rfl)<|rs (vB true) (aC rfl) ?_
     try simp only [sc0,sc1]
     refine aB<|aj<|wp_ret<|dn<|aX<|gW<|aX ?_
     obtain rfl:=Option.some.inj H
     obtain rfl:=Option.some.inj G1
     exact bodyPost_ret (fO rfl (aV rfl) (aV rfl)) rfl<|⟨rfl,HS4.toE⟩
    ·replace H:=bZ H (nt c2)
     refine wp_skip<|dB<|aj<|region<|rs (vI aG) (aK rfl)<|rs (vI (w64 (aG+1))) (bK rfl rfl rfl)<|rs (vI (w64 (aG+1))) (aC rfl) ?_
     try simp only [sc0,sc1]
     refine aB<|gX m (Nat.lt_succ_self m) rfl ⟨(w64 (aG+1)),(fit rfl),H,HS4.tail⟩
   ·replace H:=bZ H (nt c1)
    refine wp_exit<|fF ?_
    obtain rfl:=Option.some.inj H
    refine iw rfl ⟨_,rfl,(fit rfl),HS2⟩
 ·rintro us w5 ⟨s1,rfl,l7,HS5⟩
  obtain ⟨uo1,rfl⟩:=unj l7
  replace H:=G1
  clear G1
  try simp only [patch,sc0,sc1]
  refine aj<|wp_seq<|region<|rs (Value.int .u8 0) (aC rfl)<|rs (vB false) (aC rfl) ?_
  try simp only [sc0,sc1]
  refine aB<|aj<|wp_ret ?_
  obtain rfl:=Option.some.inj H
  exact bodyPost_ret (fO rfl (aV rfl) (aV rfl)) rfl<|⟨rfl,HS5.toE⟩
def eG.l0 (k:Nat) (a0:dX) (a1:Int) (a2:Int):Nat→Int→(List Int)→Option (((List Int)×Bool)⊕((List Int)))
 |0,_,_=>none
 |m+1,aG,bH=>if (decide (aG<a2))=true then ((fD.f k a0 (IntKind.wrap .i64 (a1+aG))).bind fun v1=>(if ((!v1.2)||(decide ((IntKind.wrap .i64 (a1+aG))<a1)))=true then (some (.inl (([]:List Int),false))) else (if bH.length+1≤4294967296 then (eG.l0 k a0 a1 a2 m (IntKind.wrap .i64 (aG+1)) (bH++([v1.1]:List Int))) else none))) else (some (.inr bH))
def eG.f (k:Nat) (a0:dX) (a1:Int) (a2:Int):Option ((List Int)×Bool):=(eG.l0 k a0 a1 a2 k 0 ([]:List Int)).bind fun xx1=>(match xx1 with| .inl r=>some r| .inr s1=>some (s1,true))
theorem eG.calls (k:Nat) (a0:dX) (a1:Int) (a2:Int) (bQ:Option Addr) (bT:Nat) {h0:View} {w0:World} (hv:jf h0 w0) (fB:Rd gJ h0 bQ a0.aQ) (gI:a0.aQ.length≤bT) {r:(List Int)×Bool} (H:eG.f k a0 a1 a2=some r):Calls Tryz.prog 30 #[Value.agg #[vL bQ a0.aQ.length bT],vI a1,vI a2] w0 (fun e w1=>∃(h1:View) (bQ:Option Addr) (bT:Nat),e= .returned (Value.tuple #[vL bQ r.1.length bT,vB r.2])∧r.1.length≤bT∧Rd (Kd.int .u8) h1 bQ r.1∧Gr w0.heap.size h0 h1∧jf h1 w1∧Ext w0 w1):=by
 unfold eG.f at H
 have HS:St [] h0 w0 h0 [] w0:=St.init hv
 go_enter Tryz.func30,Tryz.ntmps30
 refine wp_seq<|region<|dK rfl rfl (dH (cs:=#[vL bQ a0.aQ.length bT]) rfl rfl) ?_
 rintro w1 _ hE1 ⟨b1,rfl,ge1,hb1⟩
 have HS1:=HS.new hE1 ge1 hb1
 refine rs (vL none 0 0) (aC rfl)<|rs (vB false) (aC rfl) ?_
 try simp only [sc0,sc1]
 refine aB<|aj<|wp_seq<|region<|rs (vL none 0 0) (aC rfl) ?_
 try simp only [sc0,sc1]
 refine aB<|aj<|wp_seq<|wp_seq<|region<|rs (vI 0) (aC rfl) ?_
 try simp only [sc0,sc1]
 refine aB<|aj ?_
 have HS2:=HS1.nothing (.cells ([]:List Value).toArray 5 (0,0))
 obtain ⟨xx1,H,G1⟩:=bJ H
 refine iW [6,7,8,9,10,11,12,13,14,15,16,17,18,19,20,21,22,23,24,25,26,27,28,29,30,31,32,33,34,35,36,37] (fun m us w'=>∃aG:Int,∃bH:List Int,∃(kJ:Option Nat) (qo:Nat),∃(kK:List Value),Fit us (fun uy1=>[(uy1 0),(uy1 1),vL (rowA kJ) bH.length qo,vI aG,(uy1 4),(uy1 5),(uy1 6),(uy1 7),(uy1 8),(uy1 9),(uy1 10),(uy1 11),(uy1 12),(uy1 13),(uy1 14),(uy1 15),(uy1 16),(uy1 17),(uy1 18),(uy1 19),(uy1 20),(uy1 21),(uy1 22),(uy1 23),(uy1 24),(uy1 25),(uy1 26),(uy1 27),(uy1 28),(uy1 29),(uy1 30),(uy1 31)])∧eG.l0 k a0 a1 a2 m aG bH=some xx1∧iY (Kd.int .u8) h0 bH kJ bH.length qo kK∧St [] h0 w0 h0 [(kJ, .cells (kK).toArray 5 (0,0)),(some b1, .cells #[vL bQ a0.aQ.length bT] 27 (0,0))] w') (fun us w'=>∃(s1:(List Int)),xx1= .inr s1∧∃(lq:Option Nat) (qp:Nat),∃(rX:List Value),Fit us (fun uo1=>[(uo1 0),(uo1 1),vL (rowA lq) s1.length qp,(uo1 3),(uo1 4),(uo1 5),(uo1 6),(uo1 7),(uo1 8),(uo1 9),(uo1 10),(uo1 11),(uo1 12),(uo1 13),(uo1 14),(uo1 15),(uo1 16),(uo1 17),(uo1 18),(uo1 19),(uo1 20),(uo1 21),(uo1 22),(uo1 23),(uo1 24),(uo1 25),(uo1 26),(uo1 27),(uo1 28),(uo1 29),(uo1 30),(uo1 31)])∧iY (Kd.int .u8) h0 s1 lq s1.length qp rX∧St [] h0 w0 h0 [(lq, .cells (rX).toArray 5 (0,0)),(some b1, .cells #[vL bQ a0.aQ.length bT] 27 (0,0))] w') k ⟨0,([]:List Int),none,0,([]:List Value),(fit rfl),H,(iY.none' (Kd.int .u8) _).norm,HS2⟩ ?_ ?_
 ·rintro m us w2 ⟨aG,bH,kJ,qo,kK,lZ,H,ng,HS3⟩
  obtain ⟨uy1,rfl⟩:=unj lZ
  cases m with
  |zero=>exact absurd H (by simp [eG.l0])
  |succ m=>
   rw [eG.l0] at H
   try simp only [patch,sc0,sc1]
   refine wp_seq<|wp_seq<|region<|rs (vI aG) (aK rfl)<|rs (vI a2) (aK rfl)<|rs (vB (decide (aG<a2))) (bK rfl rfl rfl) ?_
   try simp only [sc0,sc1]
   refine aB<|aj<|wp_cond_split (t:=(decide (aG<a2))) rfl (fun c1=>?_) (fun c1=>?_)
   ·replace H:=bU H c1
    refine wp_skip<|aj<|wp_seq<|wp_block<|wp_seq<|region<|rs (Value.agg #[vL bQ a0.aQ.length bT]) (aY (n:=1) (vs:=[vL bQ a0.aQ.length bT]) rfl Tryz.isAgg27 (HS3.look 1 rfl) Tryz.sizeOf27 rfl rfl)<|rs (vI a1) (aK rfl)<|rs (vI aG) (aK rfl)<|rs (vI (w64 (a1+aG))) (bK rfl rfl rfl)<|aI (by simp only [sc0,sc1];rfl) ?_
    obtain ⟨v1,H1,H⟩:=bJ H
    refine run_eq (v:=Value.tuple #[Value.int .u8 v1.1,vB v1.2]) rfl rfl (bC Tryz.call65 rfl rfl (fD.calls k a0 (w64 (a1+aG)) bQ bT HS3.sees fB gI H1)) ?_
    intro w3 hE2
    have HS4:=HS3.step hE2
    refine rs (Value.tuple #[Value.int .u8 v1.1,vB v1.2]) (aK rfl)<|rs (Value.int .u8 v1.1) (eU rfl rfl)<|rs (vB v1.2) (eU rfl rfl)<|aI (by simp only [sc0,sc1];rfl) ?_
    refine rs (Value.int .u8 v1.1) (aC rfl)<|rs (vB v1.2) (aC rfl) ?_
    try simp only [sc0,sc1]
    refine aB<|aj<|wp_seq<|wp_seq<|region<|rs (vB v1.2) (aK rfl)<|rs (vB (!v1.2)) (kN rfl)<|rs (vB (!v1.2)) (aK rfl)<|rgs (!v1.2) true (vI a1) rfl rfl rfl rfl (fun hg=>(aK rfl))<|aI (by simp only [sc0,sc1];rfl) ?_
    refine rgs (!v1.2) true (vI aG) rfl rfl rfl rfl (fun hg=>(aK rfl))<|rgs (!v1.2) true (vI (w64 (a1+aG))) rfl rfl rfl rfl (fun hg=>(bK (gvt (vI a1) hg rfl) (gvt (vI aG) hg rfl) rfl))<|rgs (!v1.2) true (vI a1) rfl rfl rfl rfl (fun hg=>(aK rfl))<|rgs (!v1.2) true (vB (decide ((w64 (a1+aG))<a1))) rfl rfl rfl rfl (fun hg=>(bK (gvt (vI (w64 (a1+aG))) hg rfl) (gvt (vI a1) hg rfl) rfl))<|aI (by simp only [sc0,sc1];rfl) ?_
    refine rs (vB ((!v1.2)||(decide ((w64 (a1+aG))<a1)))) (dV rfl rfl (fun hp=>(gvt (vB (decide ((w64 (a1+aG))<a1))) (gu rfl hp) rfl))) ?_
    try simp only [sc0,sc1]
    refine aB<|aj<|wp_cond_split (t:=((!v1.2)||(decide ((w64 (a1+aG))<a1)))) rfl (fun c2=>?_) (fun c2=>?_)
    ·replace H:=bU H c2
     refine wp_seq<|region<|rs (vL none 0 0) (aC rfl)<|rs (vB false) (aC rfl) ?_
     try simp only [sc0,sc1]
     refine aB<|aj<|wp_ret<|aX<|dn<|aX<|gW<|aX ?_
     obtain rfl:=Option.some.inj H
     obtain rfl:=Option.some.inj G1
     exact bodyPost_ret (fO rfl (aV rfl) (aV rfl)) rfl<|⟨h0,none,0,rfl,(Nat.le_refl 0),(Rd.nil _ _ _),HS4.gr,HS4.sees,HS4.toE⟩
    ·replace H:=bZ H (nt c2)
     refine wp_skip<|aj<|region<|rs (vL (rowA kJ) bH.length qo) (aK rfl)<|rs (Value.int .u8 v1.1) (aK rfl)<|KA (Kd.int .u8) (xs:=([v1.1]:List Int)) (n:=1) (cs:=[Value.int .u8 v1.1]) Tryz.runUnderlying42 Tryz.typeInfo5 Tryz.zeroValue5 rfl rfl (by decide) (by decide) (by decide) [Value.int .u8 v1.1] (yB.trans rfl) rfl rfl rfl rfl (wo (qs:=[Value.int .u8 v1.1]) rfl (yA (cs:=[]))) HS4 ?_
     intro w4 b2 HS5 ho1
     obtain ⟨hl1,H⟩:=fE H
     refine Fg (Kd.int .u8) (q:=1) (cs:=kK) rfl rfl Tryz.runUnderlying42 Tryz.typeInfo5 Tryz.zeroValue5 rfl (by decide) rfl (KC Tryz.runUnderlying42 HS5 (i:=0) rfl ho1 rfl) ho1.len (uJ ho1) hl1 HS5 rfl ng ?_
     intro w5 ob1 c3 cs1 HS6 ho2
     refine aI (by simp only [sc0,sc1];rfl) ?_
     refine rs (vL (rowA ob1) (bH.length+1) c3) (aC rfl) ?_
     try simp only [sc0,sc1]
     refine aB<|dB<|aj<|region<|rs (vI aG) (aK rfl)<|rs (vI (w64 (aG+1))) (bK rfl rfl rfl)<|rs (vI (w64 (aG+1))) (aC rfl) ?_
     try simp only [sc0,sc1]
     refine aB<|gX m (Nat.lt_succ_self m) rfl ⟨(w64 (aG+1)),(bH++([v1.1]:List Int)),ob1,c3,cs1,(fit (by first|rfl|(rw [ho2.len];done)|(rw [ho2.len];rfl))),H,ho2.norm,HS6.tail⟩
   ·replace H:=bZ H (nt c1)
    refine wp_exit<|fF ?_
    obtain rfl:=Option.some.inj H
    refine iw rfl ⟨_,rfl,kJ,qo,kK,(fit rfl),ng.norm,HS3⟩
 ·rintro us w6 ⟨s1,rfl,lq,qp,rX,l7,tJ,HS7⟩
  obtain ⟨uo1,rfl⟩:=unj l7
  replace H:=G1
  clear G1
  try simp only [patch,sc0,sc1]
  refine aj<|wp_seq<|region<|rs (vL (rowA lq) s1.length qp) (aK rfl)<|rs (vL (rowA lq) s1.length qp) (aC rfl)<|rs (vB true) (aC rfl) ?_
  try simp only [sc0,sc1]
  refine aB<|aj<|wp_ret ?_
  obtain rfl:=Option.some.inj H
  refine bodyPost_ret (fO rfl (aV rfl) (aV rfl)) rfl ?_
  obtain ⟨h1,HS8,hs1,Qh⟩:=vZ HS7 (i:=0) rfl tJ
  exact ⟨h1,(rowA lq),qp,rfl,tJ.cap,Qh,HS8.gr,HS8.sees,HS8.toE⟩
def eH.l0 (a0:dX):Nat→Int→Int→Option ((Int)⊕(Unit))
 |0,_,_=>none
 |m+1,aG,bH=>if (decide (bH<(a0.aQ.length:Int)))=true then (if 0≤bH∧bH<a0.aQ.length then (if ((((decide ((((rd aA a0.aQ bH).bF).length:Int)<1))||(decide ((((rd aA a0.aQ bH).bF).length:Int)>512)))||(decide ((rd aA a0.aQ bH).vAt<aG)))||(decide ((rd aA a0.aQ bH).vAt>1099511627776)))=true then (some (.inl 90)) else (eH.l0 a0 m (IntKind.wrap .i64 ((rd aA a0.aQ bH).vAt+(((rd aA a0.aQ bH).bF).length:Int))) (IntKind.wrap .i64 (bH+1)))) else none) else (some (.inr ()))
def eH.f (k:Nat) (a0:dX):Option (Int):=if (decide ((a0.aQ.length:Int)>200))=true then (some 90) else ((eH.l0 a0 k 0 0).bind fun xx1=>(match xx1 with| .inl r=>some r| .inr s1=>some 0))
theorem eH.calls (k:Nat) (a0:dX) (bQ:Option Addr) (bT:Nat) {h0:View} {w0:World} (hv:jf h0 w0) (fB:Rd gJ h0 bQ a0.aQ) (gI:a0.aQ.length≤bT) {r:Int} (H:eH.f k a0=some r):Calls Tryz.prog 25 #[Value.agg #[vL bQ a0.aQ.length bT]] w0 (fun e w1=>e= .returned (vI r)∧Ext w0 w1):=by
 unfold eH.f at H
 have HS:St [] h0 w0 h0 [] w0:=St.init hv
 go_enter Tryz.func25,Tryz.ntmps25
 refine wp_seq<|region<|dK rfl rfl (dH (cs:=#[vL bQ a0.aQ.length bT]) rfl rfl) ?_
 rintro w1 _ hE1 ⟨b1,rfl,ge1,hb1⟩
 have HS1:=HS.new hE1 ge1 hb1
 refine rs (vI 0) (aC rfl) ?_
 try simp only [sc0,sc1]
 refine aB<|aj<|wp_seq<|wp_seq<|region<|rs (vP b1 0) (aH (n:=1) (o':=0) rfl Tryz.runUnderlying27 rfl Tryz.sizeOf25 (by decide) rfl)<|rs (vL bQ a0.aQ.length bT) (aN rfl Tryz.isAgg25 (HS1.look 0 rfl) rfl)<|rs (vI (a0.aQ.length:Int)) (iT rfl Tryz.runUnderlying25)<|rs (vB (decide ((a0.aQ.length:Int)>200))) (bK rfl rfl rfl) ?_
 try simp only [sc0,sc1]
 refine aB<|aj<|wp_cond_split (t:=(decide ((a0.aQ.length:Int)>200))) rfl (fun c1=>?_) (fun c1=>?_)
 ·replace H:=bU H c1
  refine wp_seq<|region<|rs (vI 90) (aC rfl) ?_
  try simp only [sc0,sc1]
  refine aB<|aj<|wp_ret<|aX ?_
  obtain rfl:=Option.some.inj H
  exact bodyPost_ret (aW rfl (aV rfl)) rfl<|⟨rfl,HS1.toE⟩
 ·replace H:=bZ H (nt c1)
  refine wp_skip<|aj<|wp_seq<|region<|rs (vI 0) (aC rfl) ?_
  try simp only [sc0,sc1]
  refine aB<|aj<|wp_seq<|wp_seq<|region<|rs (vI 0) (aC rfl) ?_
  try simp only [sc0,sc1]
  refine aB<|aj ?_
  obtain ⟨xx1,H,G1⟩:=bJ H
  refine iW [2,3,4,5,10,11,12,13,14,15,16,17,18,19,20,21,22,23,24,25,26,27,28,29,30,31,32,33,34,35,36,37,38,39,40,41,42,43,44,45,46,47,48] (fun m us w'=>∃aG bH:Int,Fit us (fun uy1=>[(uy1 0),vI aG,vI bH,(uy1 3),(uy1 4),(uy1 5),(uy1 6),(uy1 7),(uy1 8),(uy1 9),(uy1 10),(uy1 11),(uy1 12),(uy1 13),(uy1 14),(uy1 15),(uy1 16),(uy1 17),(uy1 18),(uy1 19),(uy1 20),(uy1 21),(uy1 22),(uy1 23),(uy1 24),(uy1 25),(uy1 26),(uy1 27),(uy1 28),(uy1 29),(uy1 30),(uy1 31),(uy1 32),(uy1 33),(uy1 34),(uy1 35),(uy1 36),(uy1 37),(uy1 38),(uy1 39),(uy1 40),(uy1 41),(uy1 42)])∧eH.l0 a0 m aG bH=some xx1∧St [] h0 w0 h0 [(some b1, .cells #[vL bQ a0.aQ.length bT] 27 (0,0))] w') (fun us w'=>∃(s1:Unit),xx1= .inr s1∧Fit us (fun uo1=>[(uo1 0),(uo1 1),(uo1 2),(uo1 3),(uo1 4),(uo1 5),(uo1 6),(uo1 7),(uo1 8),(uo1 9),(uo1 10),(uo1 11),(uo1 12),(uo1 13),(uo1 14),(uo1 15),(uo1 16),(uo1 17),(uo1 18),(uo1 19),(uo1 20),(uo1 21),(uo1 22),(uo1 23),(uo1 24),(uo1 25),(uo1 26),(uo1 27),(uo1 28),(uo1 29),(uo1 30),(uo1 31),(uo1 32),(uo1 33),(uo1 34),(uo1 35),(uo1 36),(uo1 37),(uo1 38),(uo1 39),(uo1 40),(uo1 41),(uo1 42)])∧St [] h0 w0 h0 [(some b1, .cells #[vL bQ a0.aQ.length bT] 27 (0,0))] w') k ⟨0,0,(fit rfl),H,HS1⟩ ?_ ?_
  ·rintro m us w2 ⟨aG,bH,lZ,H,HS2⟩
   obtain ⟨uy1,rfl⟩:=unj lZ
   cases m with
   |zero=>exact absurd H (by simp [eH.l0])
   |succ m=>
    rw [eH.l0] at H
    try simp only [patch,sc0,sc1]
    refine wp_seq<|wp_seq<|region<|rs (vI bH) (aK rfl)<|rs (vP b1 0) (aH (n:=1) (o':=0) rfl Tryz.runUnderlying27 rfl Tryz.sizeOf25 (by decide) rfl)<|rs (vL bQ a0.aQ.length bT) (aN rfl Tryz.isAgg25 (HS2.look 0 rfl) rfl)<|rs (vI (a0.aQ.length:Int)) (iT rfl Tryz.runUnderlying25)<|aI (by simp only [sc0,sc1];rfl) ?_
    refine rs (vB (decide (bH<(a0.aQ.length:Int)))) (bK rfl rfl rfl) ?_
    try simp only [sc0,sc1]
    refine aB<|aj<|wp_cond_split (t:=(decide (bH<(a0.aQ.length:Int)))) rfl (fun c2=>?_) (fun c2=>?_)
    ·replace H:=bU H c2
     refine wp_skip<|aj<|wp_seq<|wp_block<|wp_seq<|region<|rs (vP b1 0) (aH (n:=1) (o':=0) rfl Tryz.runUnderlying27 rfl Tryz.sizeOf25 (by decide) rfl)<|rs (vL bQ a0.aQ.length bT) (aN rfl Tryz.isAgg25 (HS2.look 0 rfl) rfl)<|rs (vI bH) (aK rfl) ?_
     obtain ⟨hi1,H⟩:=fE H
     obtain ⟨ad1,jl,jm,e1,kX,uy,sG⟩:=jT fB hi1.1 hi1.2
     refine rs (Value.pointer (some (Addr.add ad1 (bH.toNat*2)))) (dQ (sz:=2) rfl e1 rfl hi1.1 hi1.2 Tryz.runUnderlying25 Tryz.sizeOf58)<|aI (by simp only [sc0,sc1];rfl) ?_
     refine rs (Value.agg #[vI ((rd aA a0.aQ bH).vAt),vL jl ((rd aA a0.aQ bH).bF).length jm]) (gK rfl Tryz.isAgg58 (kX.sees HS2.sees) Tryz.sizeOf58)<|dK rfl rfl (fA (cs:=#[vI 0,vL none 0 0]) Tryz.zeroValue58 rfl) ?_
     rintro w3 _ hE2 ⟨b2,rfl,ge2,hb2⟩
     have HS3:=HS2.new hE2 ge2 hb2
     refine gq (i:=0) (cs:=[vI 0,vL none 0 0]) (cs':=[vI ((rd aA a0.aQ bH).vAt),vL jl ((rd aA a0.aQ bH).bF).length jm]) (vs:=[vI ((rd aA a0.aQ bH).vAt),vL jl ((rd aA a0.aQ bH).bF).length jm]) (bs':=[(some b2, .cells #[vI ((rd aA a0.aQ bH).vAt),vL jl ((rd aA a0.aQ bH).bF).length jm] 58 (0,0)),(some b1, .cells #[vL bQ a0.aQ.length bT] 27 (0,0))]) rfl rfl Tryz.sizeOf58 rfl rfl (by decide) rfl HS3 rfl (Nat.le_of_ble_eq_true rfl) rfl rfl ?_
     intro w4 HS4
     try simp only [sc0,sc1]
     refine aB<|aj<|wp_seq<|wp_seq<|region<|rs (vP b2 1) (aH (n:=1) (o':=1) rfl Tryz.runUnderlying58 rfl Tryz.sizeOf42 (by decide) rfl)<|rs (vL jl ((rd aA a0.aQ bH).bF).length jm) (aN rfl Tryz.isAgg42 (HS4.look 0 rfl) rfl)<|rs (vI (((rd aA a0.aQ bH).bF).length:Int)) (iT rfl Tryz.runUnderlying42)<|rs (vB (decide ((((rd aA a0.aQ bH).bF).length:Int)<1))) (bK rfl rfl rfl)<|aI (by simp only [sc0,sc1];rfl) ?_
     refine rs (vB (decide ((((rd aA a0.aQ bH).bF).length:Int)<1))) (aK rfl)<|rgs (decide ((((rd aA a0.aQ bH).bF).length:Int)<1)) true (vP b2 1) rfl rfl rfl rfl (fun hg=>(aH (n:=1) (o':=1) rfl Tryz.runUnderlying58 rfl Tryz.sizeOf42 (by decide) rfl))<|rgs (decide ((((rd aA a0.aQ bH).bF).length:Int)<1)) true (vL jl ((rd aA a0.aQ bH).bF).length jm) rfl rfl rfl rfl (fun hg=>(aN (gvt (vP b2 1) hg rfl) Tryz.isAgg42 (HS4.look 0 rfl) rfl))<|rgs (decide ((((rd aA a0.aQ bH).bF).length:Int)<1)) true (vI (((rd aA a0.aQ bH).bF).length:Int)) rfl rfl rfl rfl (fun hg=>(iT (gvt (vL jl ((rd aA a0.aQ bH).bF).length jm) hg rfl) Tryz.runUnderlying42))<|aI (by simp only [sc0,sc1];rfl) ?_
     refine rgs (decide ((((rd aA a0.aQ bH).bF).length:Int)<1)) true (vB (decide ((((rd aA a0.aQ bH).bF).length:Int)>512))) rfl rfl rfl rfl (fun hg=>(bK (gvt (vI (((rd aA a0.aQ bH).bF).length:Int)) hg rfl) rfl rfl))<|rs (vB ((decide ((((rd aA a0.aQ bH).bF).length:Int)<1))||(decide ((((rd aA a0.aQ bH).bF).length:Int)>512)))) (dV rfl rfl (fun hp=>(gvt (vB (decide ((((rd aA a0.aQ bH).bF).length:Int)>512))) (gu rfl hp) rfl)))<|rs (vB ((decide ((((rd aA a0.aQ bH).bF).length:Int)<1))||(decide ((((rd aA a0.aQ bH).bF).length:Int)>512)))) (aK rfl)<|rgs ((decide ((((rd aA a0.aQ bH).bF).length:Int)<1))||(decide ((((rd aA a0.aQ bH).bF).length:Int)>512))) true (vP b2 0) rfl rfl rfl rfl (fun hg=>(aH (n:=1) (o':=0) rfl Tryz.runUnderlying58 rfl Tryz.sizeOf2 (by decide) rfl))<|aI (by simp only [sc0,sc1];rfl) ?_
     refine rgs ((decide ((((rd aA a0.aQ bH).bF).length:Int)<1))||(decide ((((rd aA a0.aQ bH).bF).length:Int)>512))) true (vI ((rd aA a0.aQ bH).vAt)) rfl rfl rfl rfl (fun hg=>(aN (gvt (vP b2 0) hg rfl) Tryz.isAgg2 (HS4.look 0 rfl) rfl))<|rgs ((decide ((((rd aA a0.aQ bH).bF).length:Int)<1))||(decide ((((rd aA a0.aQ bH).bF).length:Int)>512))) true (vI aG) rfl rfl rfl rfl (fun hg=>(aK rfl))<|rgs ((decide ((((rd aA a0.aQ bH).bF).length:Int)<1))||(decide ((((rd aA a0.aQ bH).bF).length:Int)>512))) true (vB (decide ((rd aA a0.aQ bH).vAt<aG))) rfl rfl rfl rfl (fun hg=>(bK (gvt (vI ((rd aA a0.aQ bH).vAt)) hg rfl) (gvt (vI aG) hg rfl) rfl))<|rs (vB (((decide ((((rd aA a0.aQ bH).bF).length:Int)<1))||(decide ((((rd aA a0.aQ bH).bF).length:Int)>512)))||(decide ((rd aA a0.aQ bH).vAt<aG)))) (dV rfl rfl (fun hp=>(gvt (vB (decide ((rd aA a0.aQ bH).vAt<aG))) (gu rfl hp) rfl)))<|aI (by simp only [sc0,sc1];rfl) ?_
     refine rs (vB (((decide ((((rd aA a0.aQ bH).bF).length:Int)<1))||(decide ((((rd aA a0.aQ bH).bF).length:Int)>512)))||(decide ((rd aA a0.aQ bH).vAt<aG)))) (aK rfl)<|rgs (((decide ((((rd aA a0.aQ bH).bF).length:Int)<1))||(decide ((((rd aA a0.aQ bH).bF).length:Int)>512)))||(decide ((rd aA a0.aQ bH).vAt<aG))) true (vP b2 0) rfl rfl rfl rfl (fun hg=>(aH (n:=1) (o':=0) rfl Tryz.runUnderlying58 rfl Tryz.sizeOf2 (by decide) rfl))<|rgs (((decide ((((rd aA a0.aQ bH).bF).length:Int)<1))||(decide ((((rd aA a0.aQ bH).bF).length:Int)>512)))||(decide ((rd aA a0.aQ bH).vAt<aG))) true (vI ((rd aA a0.aQ bH).vAt)) rfl rfl rfl rfl (fun hg=>(aN (gvt (vP b2 0) hg rfl) Tryz.isAgg2 (HS4.look 0 rfl) rfl))<|rgs (((decide ((((rd aA a0.aQ bH).bF).length:Int)<1))||(decide ((((rd aA a0.aQ bH).bF).length:Int)>512)))||(decide ((rd aA a0.aQ bH).vAt<aG))) true (vB (decide ((rd aA a0.aQ bH).vAt>1099511627776))) rfl rfl rfl rfl (fun hg=>(bK (gvt (vI ((rd aA a0.aQ bH).vAt)) hg rfl) rfl rfl))<|aI (by simp only [sc0,sc1];rfl) ?_
     refine rs (vB ((((decide ((((rd aA a0.aQ bH).bF).length:Int)<1))||(decide ((((rd aA a0.aQ bH).bF).length:Int)>512)))||(decide ((rd aA a0.aQ bH).vAt<aG)))||(decide ((rd aA a0.aQ bH).vAt>1099511627776)))) (dV rfl rfl (fun hp=>(gvt (vB (decide ((rd aA a0.aQ bH).vAt>1099511627776))) (gu rfl hp) rfl))) ?_
     try simp only [sc0,sc1]
     refine aB<|aj<|wp_cond_split (t:=((((decide ((((rd aA a0.aQ bH).bF).length:Int)<1))||(decide ((((rd aA a0.aQ bH).bF).length:Int)>512)))||(decide ((rd aA a0.aQ bH).vAt<aG)))||(decide ((rd aA a0.aQ bH).vAt>1099511627776)))) rfl (fun c3=>?_) (fun c3=>?_)
     ·replace H:=bU H c3
      refine wp_seq<|region<|rs (vI 90) (aC rfl) ?_
      try simp only [sc0,sc1]
      refine aB<|aj<|wp_ret<|aX<|dn<|aX<|gW<|aX ?_
      obtain rfl:=Option.some.inj H
      obtain rfl:=Option.some.inj G1
      exact bodyPost_ret (aW rfl (aV rfl)) rfl<|⟨rfl,HS4.toE⟩
     ·replace H:=bZ H (nt c3)
      refine wp_skip<|aj<|region<|rs (vP b2 0) (aH (n:=1) (o':=0) rfl Tryz.runUnderlying58 rfl Tryz.sizeOf2 (by decide) rfl)<|rs (vI ((rd aA a0.aQ bH).vAt)) (aN rfl Tryz.isAgg2 (HS4.look 0 rfl) rfl)<|rs (vP b2 1) (aH (n:=1) (o':=1) rfl Tryz.runUnderlying58 rfl Tryz.sizeOf42 (by decide) rfl)<|rs (vL jl ((rd aA a0.aQ bH).bF).length jm) (aN rfl Tryz.isAgg42 (HS4.look 0 rfl) rfl)<|aI (by simp only [sc0,sc1];rfl) ?_
      refine rs (vI (((rd aA a0.aQ bH).bF).length:Int)) (iT rfl Tryz.runUnderlying42)<|rs (vI (w64 ((rd aA a0.aQ bH).vAt+(((rd aA a0.aQ bH).bF).length:Int)))) (bK rfl rfl rfl)<|rs (vI (w64 ((rd aA a0.aQ bH).vAt+(((rd aA a0.aQ bH).bF).length:Int)))) (aC rfl) ?_
      try simp only [sc0,sc1]
      refine aB<|dB<|aj<|region<|rs (vI bH) (aK rfl)<|rs (vI (w64 (bH+1))) (bK rfl rfl rfl)<|rs (vI (w64 (bH+1))) (aC rfl) ?_
      try simp only [sc0,sc1]
      refine aB<|gX m (Nat.lt_succ_self m) rfl ⟨(w64 ((rd aA a0.aQ bH).vAt+(((rd aA a0.aQ bH).bF).length:Int))),(w64 (bH+1)),(fit rfl),H,HS4.tail⟩
    ·replace H:=bZ H (nt c2)
     refine wp_exit<|fF ?_
     obtain rfl:=Option.some.inj H
     refine iw rfl ⟨_,rfl,(fit rfl),HS2⟩
  ·rintro us w5 ⟨s1,rfl,l7,HS5⟩
   obtain ⟨uo1,rfl⟩:=unj l7
   replace H:=G1
   clear G1
   try simp only [patch,sc0,sc1]
   refine aj<|wp_seq<|region<|rs (vI 0) (aC rfl) ?_
   try simp only [sc0,sc1]
   refine aB<|aj<|wp_ret ?_
   obtain rfl:=Option.some.inj H
   exact bodyPost_ret (aW rfl (aV rfl)) rfl<|⟨rfl,HS5.toE⟩
end Go.Proofs.YtecpbadkdpbkpaaGreatDoor
/-image.Check:its loop runs over a function (segments):the iterator's contract,and the walk of the loop's body in a round. -/
namespace Go.Proofs.YtecpbadkdpbkpaaGreatDoor
open Go.RowKit Go.M
/-- what a round keeps: all cells -/
structure Kc (A B:World):Prop where
 os:B.os=A.os
 tape:B.tape=A.tape
 output:B.output=A.output
 size:A.heap.size≤B.heap.size
 cells:∀(k:Nat) (o:Obj),A.heap[k]?=some o→o.isCells=true→B.heap[k]?=some o
theorem Kc.ext {A B:World} (h:Ext A B):Kc A B:=⟨h.os,h.tape,h.output,h.size,fun k o hk _=>(h.block k (Array.getElem?_eq_some_iff.1 hk).1).trans hk⟩
theorem Kc.trans {A B C:World} (h:Kc A B) (k:Kc B C):Kc A C:=
 ⟨k.os.trans h.os,k.tape.trans h.tape,k.output.trans h.output,Nat.le_trans h.size k.size,fun i o hi ho=>k.cells i o (h.cells i o hi ho) ho⟩
theorem Kc.sees {A B:World} {h:View} (k:Kc A B) (hs:jf h A):jf h B:=fun a v e=>by
 have hc:=hs a v e
 unfold World.cell? at hc⊢
 cases ho:A.heap[a.block]? with
 |none=>simp [ho] at hc
 |some o=>
  cases o with
  |cells vs t f=>rw [k.cells _ _ ho rfl];rw [ho] at hc;exact hc
  |_=>simp [ho] at hc
theorem Kc.put (W:World) (l:Nat) (o o':Obj) (hl:W.heap[l]?=some o) (hc:o.isCells=false):Kc W (W.putObj l o'):=
 ⟨rfl,rfl,rfl,by simp [World.putObj],fun k p hk hp=>by
  by_cases e:k=l
  ·subst e;rw [hl] at hk;cases hk;rw [hc] at hp;cases hp
  ·exact (World.putObj_heap_other e).trans hk⟩
/-- what a round is handed: where the segment ahead ends, and the segment -/
abbrev xg (h0:View):={x:Int×bY×Option Addr×Nat//Rd (Kd.int .u8) h0 x.2.2.1 x.2.1.bF∧x.2.1.bF.length≤x.2.2.2}
def xg.enc {h0:View} (x:xg h0):Array Value:=#[.int .i64 x.1.1, .agg #[.int .i64 x.1.2.1.vAt, .slice x.1.2.2.1 x.1.2.1.bF.length x.1.2.2.2]]
def xg.of {h0:View} (x:xg h0):Int×bY:=(x.1.1,x.1.2.1)
def zJ (s:bY):Int:=IntKind.wrap .i64 (s.vAt+(s.bF.length:Int))
def jo:Int→List bY→List (Int×bY)
 |_,[]=>[]
 |f,s::r=>(f,s)::jo (zJ s) r
theorem Qx {α:Type} (z:α) (xs:List α) (i:Nat) (h:i<xs.length):xs.drop i=rd z xs (i:Int)::xs.drop (i+1):=by
 rw [List.drop_eq_getElem_cons h];congr 1;simp [rd,List.getD,h]
theorem JU {h0:View} (x0:dX) (bx0:Nat) (vC:Option Addr) (vG:Nat) {w0:World} (n:Nat) (hv:jf h0 w0) (EM:Rd gJ h0 vC x0.aQ) (NT:x0.aQ.length≤vG) (hx0:w0.heap[bx0]?=some (.cells #[vL vC x0.aQ.length vG] 27 (0,0))) (hN:x0.aQ.length≤200):
  SeqStopsK Fence.wide n Tryz.prog 94 #[vP bx0 0] (xg.enc (h0:=h0)) Kc (fun xs=>xs.map xg.of=jo 0 x0.aQ) (fun pre=>pre.map xg.of<+:jo 0 x0.aQ) x0.aQ.length w0:=by
 intro l J Jx W hW hJ hJx hY hJ0
 refine callsIn_wide.2 ?_
 have hE0:Ext w0 W:=hW
 have HS:St [] h0 W h0 [] W:=St.init (hv.ext hE0)
 have JE:∀{A B:World} {pre:List (xg h0)},J pre A→Ext A B→J pre B:=fun hj hE=>hJ _ _ _ none hj ⟨hE.os,hE.tape,hE.output,hE.size,fun k hk _=>hE.block k hk⟩ (fun r e=>by cases e)
 show Calls Tryz.prog 94 #[.func (.yield l) #[] #[],vP bx0 0] W _
 go_enter Tryz.func94,Tryz.ntmps94
 refine wp_seq<|region<|rs (vI 0) (aC rfl) ?_
 try simp only [sc0,sc1]
 refine aB<|aj<|wp_seq<|region<|rs (vP bx0 0) (aH (n:=1) (o':=0) rfl Tryz.runUnderlying27 rfl Tryz.sizeOf25 (by decide) rfl)<|rs (vL vC x0.aQ.length vG) (aN rfl Tryz.isAgg25 (kR hx0 hE0) rfl)<|rs (vI (x0.aQ.length:Int)) (iT rfl Tryz.runUnderlying25)<|rs (vI 0) (aK rfl) ?_
 try simp only [sc0,sc1]
 refine aB<|aj ?_
 have key:∀(pre:List (xg h0)) (y:Int) (i:Nat) (A1:Option Addr) (c1:Nat) (hx:Rd (Kd.int .u8) h0 A1 (rd aA x0.aQ (i:Int)).bF∧(rd aA x0.aQ (i:Int)).bF.length≤c1),i<x0.aQ.length→
   pre.map xg.of++jo y (x0.aQ.drop i)=jo 0 x0.aQ→(pre++[(⟨(y,rd aA x0.aQ (i:Int),A1,c1),hx⟩:xg h0)]).map xg.of++jo (zJ (rd aA x0.aQ (i:Int))) (x0.aQ.drop (i+1))=jo 0 x0.aQ:=by
  intro pre y i A1 c1 hx hi hp
  rw [←hp,Qx aA x0.aQ i hi]
  simp [jo,xg.of]
 refine iW [3,5,9,10,11,12,13,14,15,16,17,18,19,20] (fun m us w'=>∃(aG:Int) (i:Nat) (pre:List (xg h0)),Fit us (fun uy1=>[vI aG,(uy1 1),vI (i:Int),(uy1 3),(uy1 4),(uy1 5),(uy1 6),(uy1 7),(uy1 8),(uy1 9),(uy1 10),(uy1 11),(uy1 12),(uy1 13)])∧m+i=x0.aQ.length+1∧i≤x0.aQ.length∧pre.length=i∧pre.map xg.of++jo aG (x0.aQ.drop i)=jo 0 x0.aQ∧J pre w'∧jf h0 w') (fun us w'=>∃(pre:List (xg h0)),Fit us (fun uo1=>[(uo1 0),(uo1 1),(uo1 2),(uo1 3),(uo1 4),(uo1 5),(uo1 6),(uo1 7),(uo1 8),(uo1 9),(uo1 10),(uo1 11),(uo1 12),(uo1 13)])∧pre.map xg.of=jo 0 x0.aQ∧J pre w') (x0.aQ.length+1) ⟨0,0,[],(fit rfl),rfl,Nat.zero_le _,rfl,rfl,hJ0,HS.sees⟩ ?_ ?_
 ·rintro m us w1 ⟨aG,i,pre,lZ,hm,hi,hpl,hp,hj,hs1⟩
  obtain ⟨uy1,rfl⟩:=unj lZ
  cases m with
  |zero=>omega
  |succ m=>
   have HS1:St [] h0 w1 h0 [] w1:=St.init hs1
   try simp only [patch,sc0,sc1]
   refine wp_seq<|region<|rs (vB (decide ((i:Int)<(x0.aQ.length:Int)))) (bK rfl rfl rfl) ?_
   try simp only [sc0,sc1]
   refine aB<|aj<|wp_seq<|wp_cond_split (t:=(decide ((i:Int)<(x0.aQ.length:Int)))) rfl (fun c1=>?_) (fun c1=>?_)
   ·have hi1:0≤(i:Int)∧(i:Int)<x0.aQ.length:=⟨Int.natCast_nonneg i,of_decide_eq_true c1⟩
    have hlt:i<x0.aQ.length:=by omega
    refine wp_skip<|aj<|wp_seq<|wp_block<|wp_seq<|region ?_
    obtain ⟨ad1,jl,jm,e1,kX,uy,sG⟩:=jT EM hi1.1 hi1.2
    refine rs (Value.pointer (some (Addr.add ad1 ((i:Int).toNat*2)))) (dQ (sz:=2) rfl e1 rfl hi1.1 hi1.2 Tryz.runUnderlying25 Tryz.sizeOf58)<|rs (Value.agg #[vI ((rd aA x0.aQ (i:Int)).vAt),vL jl ((rd aA x0.aQ (i:Int)).bF).length jm]) (gK rfl Tryz.isAgg58 (kX.sees HS1.sees) Tryz.sizeOf58)<|dK rfl rfl (fA (cs:=#[vI 0,vL none 0 0]) Tryz.zeroValue58 rfl) ?_
    rintro w2 _ hE1 ⟨b1,rfl,ge1,hb1⟩
    have HS2:=HS1.new hE1 ge1 hb1
    refine gq (i:=0) (cs:=[vI 0,vL none 0 0]) (cs':=[vI ((rd aA x0.aQ (i:Int)).vAt),vL jl ((rd aA x0.aQ (i:Int)).bF).length jm]) (vs:=[vI ((rd aA x0.aQ (i:Int)).vAt),vL jl ((rd aA x0.aQ (i:Int)).bF).length jm]) (bs':=[(some b1, .cells #[vI ((rd aA x0.aQ (i:Int)).vAt),vL jl ((rd aA x0.aQ (i:Int)).bF).length jm] 58 (0,0))]) rfl rfl Tryz.sizeOf58 rfl rfl (by decide) rfl HS2 rfl (Nat.le_of_ble_eq_true rfl) rfl rfl ?_
    intro w3 HS3
    try simp only [sc0,sc1]
    refine aB<|aj<|wp_seq<|wp_seq<|yM (by rintro ⟨a,w,⟨⟨v,hv⟩,_⟩⟩;cases hv) n 3 rfl rfl rfl rfl ?_
    simp only [List.take_succ_cons,List.take_zero,List.drop_succ_cons,List.drop_zero]
    refine rs (Value.func (.yield l) #[] #[]) (aK rfl)<|rs (vI aG) (aK rfl)<|rs (Value.agg #[vI ((rd aA x0.aQ (i:Int)).vAt),vL jl ((rd aA x0.aQ (i:Int)).bF).length jm]) (aY (n:=2) (vs:=[vI ((rd aA x0.aQ (i:Int)).vAt),vL jl ((rd aA x0.aQ (i:Int)).bF).length jm]) rfl Tryz.isAgg58 (HS3.look 0 rfl) Tryz.sizeOf58 rfl rfl) ?_
    try simp only [sc0,sc1]
    refine aB<|aj ?_
    obtain ⟨fn,tmps,assign,bd,hy,hR⟩:=hY pre ⟨(aG,(rd aA x0.aQ (i:Int)),jl,jm),sG,uy⟩ w3 (JE hj HS3.toE) (by rw [hpl];exact hlt)
    refine ⟨_,rfl,l,fn,tmps,assign,bd,?_,hR.mono ?_⟩
    ·exact Sz rfl rfl hy
    rintro e w4 (⟨rfl,hj4,hk4⟩|⟨rfl,hx4⟩)
    ·refine ⟨_,rfl,?_⟩
     have hs4:jf h0 w4:=hk4.sees HS3.sees
     have hb4:w4.heap[b1]?=some (.cells #[vI ((rd aA x0.aQ (i:Int)).vAt),vL jl ((rd aA x0.aQ (i:Int)).bF).length jm] 58 (0,0)):=hk4.cells _ _ (HS3.look 0 rfl) rfl
     refine rs (vB (!true)) (kN rfl) ?_
     try simp only [sc0,sc1]
     refine aB<|aj<|wp_cond_split (t:=(!true)) rfl (fun c2=>?_) (fun c2=>?_)
     ·exact absurd c2 (by simp)
     ·refine wp_skip<|aj<|region<|rs (Value.agg #[vI ((rd aA x0.aQ (i:Int)).vAt),vL jl ((rd aA x0.aQ (i:Int)).bF).length jm]) (aY (n:=2) (vs:=[vI ((rd aA x0.aQ (i:Int)).vAt),vL jl ((rd aA x0.aQ (i:Int)).bF).length jm]) rfl Tryz.isAgg58 (hb4) Tryz.sizeOf58 rfl rfl)<|run_eq (v:=vI (zJ (rd aA x0.aQ (i:Int)))) rfl rfl (bC Tryz.call93 rfl rfl (lF.calls (rd aA x0.aQ (i:Int)) jl jm hs4 sG uy rfl)) ?_
      intro w5 hE3
      refine rs (vI (zJ (rd aA x0.aQ (i:Int)))) (aC rfl) ?_
      try simp only [sc0,sc1]
      refine aB<|dB<|aj<|region<|rs (vI (w64 ((i:Int)+1))) (bK rfl rfl rfl)<|rs (vI (w64 ((i:Int)+1))) (aK rfl) ?_
      try simp only [sc0,sc1]
      refine aB<|gX m (Nat.lt_succ_self m) rfl ⟨zJ (rd aA x0.aQ (i:Int)),i+1,pre++[⟨(aG,(rd aA x0.aQ (i:Int)),jl,jm),sG,uy⟩],fit ?_,by omega,by omega,by simp [hpl],key _ _ _ _ _ _ hlt hp,JE hj4 hE3,hs4.ext hE3⟩
      have hw:w64 ((i:Int)+1)=((i+1:Nat):Int):=fP (n:=300) (by omega) (by omega)
      rw [hw];rfl
    ·refine ⟨_,rfl,?_⟩
     refine rs (vB (!false)) (kN rfl) ?_
     try simp only [sc0,sc1]
     refine aB<|aj<|wp_cond_split (t:=(!false)) rfl (fun c2=>?_) (fun c2=>?_)
     ·exact wp_ret<|aX<|dn<|aX<|gW<|bodyPost_ret (results_none rfl _ _ _) rfl<|⟨⟨_,rfl⟩, .inr ⟨_,⟨_,key _ _ _ _ _ _ hlt hp⟩,hx4⟩⟩
     ·exact absurd c2 (by simp)
   ·refine wp_exit<|fF ?_
    have he:i=x0.aQ.length:=by have:=of_decide_eq_false c1;omega
    subst he
    refine iw rfl ⟨pre,(fit rfl),by simpa [jo] using hp,hj⟩
 ·rintro us w6 ⟨pre,l7,hp,hj⟩
  obtain ⟨uo1,rfl⟩:=unj l7
  try simp only [patch,sc0,sc1]
  exact bodyPost_end (results_none rfl _ _ _) rfl<|⟨⟨_,rfl⟩, .inl ⟨pre,hp,hj⟩⟩
/-- a bad segment -/
def sH (f:Int) (s:bY):Bool:=((((s.bF.length:Int)==0)||(decide ((s.bF.length:Int)>512)))||(decide (s.vAt<f)))||(decide (s.vAt>1099511627776))
def lG:Int→List bY→Int
 |_,[]=>0
 |f,s::r=>if sH f s=true then 90 else lG (zJ s) r
def mD.f (a0:dX):Option Int:=if (decide ((a0.aQ.length:Int)>200))=true then some 90 else some (lG 0 a0.aQ)
theorem WS:∀(l:List bY) (f:Int),(∀p∈jo f l,sH p.1 p.2=false)→lG f l=0:=by
 intro l
 induction l with
 |nil=>intro f _;rfl
 |cons s r ih=>
  intro f h
  rw [lG,if_neg (by rw [h (f,s) (by simp [jo])];simp)]
  exact ih _ fun p hp=>h p (by simp [jo,hp])
theorem Uz:∀(q:List (Int×bY)) (l:List bY) (f:Int) (x:Int×bY) (t:List (Int×bY)),jo f l=q++x::t→(∀p∈q,sH p.1 p.2=false)→sH x.1 x.2=true→lG f l=90:=by
 intro q
 induction q with
 |nil=>
  intro l f x t h _ hb
  cases l with
  |nil=>simp [jo] at h
  |cons s r=>simp [jo] at h;obtain ⟨rfl,_⟩:=h;rw [lG,if_pos hb]
 |cons y q ih=>
  intro l f x t h hg hb
  cases l with
  |nil=>simp [jo] at h
  |cons s r=>
   simp [jo] at h
   obtain ⟨rfl,h⟩:=h
   rw [lG,if_neg (by rw [hg (f,s) (by simp)];simp)]
   exact ih r _ x t h (fun p hp=>hg p (by simp [hp])) hb
theorem Ac.calls (a0:dX) (bQ:Option Addr) (bT:Nat) {h0:View} {w0:World} (hv:jf h0 w0):
  Calls Tryz.prog 60 #[Value.agg #[vL bQ a0.aQ.length bT]] w0 (fun e w1=>∃v,e= .returned v∧(∃b,v= .func (.func 94) #[] #[.pointer (some ⟨b,0,none⟩)]∧w1.heap[b]?=some (.cells #[vL bQ a0.aQ.length bT] 27 (0,0)))∧Ext w0 w1):=by
 have HS:St [] h0 w0 h0 [] w0:=St.init hv
 go_enter Tryz.func60,Tryz.ntmps60
 refine wp_seq<|region<|dK rfl rfl (dH (cs:=#[vL bQ a0.aQ.length bT]) rfl rfl) ?_
 rintro w1 _ hE1 ⟨b1,rfl,ge1,hb1⟩
 have HS1:=HS.new hE1 ge1 hb1
 refine rs Value.nilFunc (aC rfl) ?_
 try simp only [sc0,sc1]
 refine aB<|aj<|wp_seq<|region<|rs (Value.func (.func 94) #[] #[.pointer (some ⟨b1,0,none⟩)]) (oC rfl)<|rs (Value.func (.func 94) #[] #[.pointer (some ⟨b1,0,none⟩)]) (aC rfl) ?_
 try simp only [sc0,sc1]
 exact aB<|aj<|wp_ret<|bodyPost_ret (aW rfl (aV rfl)) rfl<|⟨_,rfl,⟨b1,rfl,hb1⟩,HS1.toE⟩
theorem DK {B:Nat} {W W':World} (h:Ext W W'):KeepsFrom B W W':=⟨h.size,fun k o _ hk _=>(h.block k (Array.getElem?_eq_some_iff.1 hk).1).trans hk⟩
theorem zK {β:Type} {B b:Nat} {vs:Array Value} {t:TypeId} {fr:Nat×Nat}:OwnFrom B (fun (_:β) W=>W.heap[b]?=some (.cells vs t fr)):=fun s W W' row hs hg hr=>by
 refine (hg.block b (Array.getElem?_eq_some_iff.1 hs).1 fun e=>?_).trans hs
 obtain ⟨_,o,ho,hc⟩:=hr b e.symm
 rw [hs] at ho;cases ho;cases hc
theorem WT {h0:View} {W:World} {b:Nat} {o:Obj} (hs:jf h0 W) (hb:W.heap[b]?=some o) (hu:∀a:Addr,a.block=b→h0 a=none):St [b] h0 W h0 [(some b,o)] W:=
 ⟨hs,Gr.rfl' _ _,E8.rfl' _ _,fun x hx=>by obtain rfl:=List.mem_singleton.1 hx;exact ⟨hb, .inr (by simp),hu⟩,by simp [blocks]⟩
theorem RI {w0 W w4:World} {b:Nat} (h:Ext w0 W) (k:E8 [b] W w4) (hb:w0.heap.size≤b):Ext w0 w4:=
 ⟨k.os.trans h.os,k.tape.trans h.tape,k.output.trans h.output,Nat.le_trans h.size k.size,fun i hi=>(k.block i (Nat.lt_of_lt_of_le hi h.size) (by simp;omega)).trans (h.block i hi)⟩
theorem OD {w0 W:World} {D:Nat} {o:Obj} (h:Ext w0 W) (hD:w0.heap.size≤D):Ext w0 (W.putObj D o):=
 ⟨h.os,h.tape,h.output,by simpa [World.putObj] using h.size,fun i hi=>(World.putObj_heap_other (by omega)).trans (h.block i hi)⟩
set_option maxHeartbeats 8000000 in
theorem mD.calls (a0:dX) (bQ:Option Addr) (bT:Nat) {h0:View} {w0:World} (hv:jf h0 w0) (fB:Rd gJ h0 bQ a0.aQ) (gI:a0.aQ.length≤bT) {r:Int} (H:mD.f a0=some r):
  Calls Tryz.prog 26 #[Value.agg #[vL bQ a0.aQ.length bT]] w0 (fun e w1=>e= .returned (vI r)∧Ext w0 w1):=by
 unfold mD.f at H
 have HS:St [] h0 w0 h0 [] w0:=St.init hv
 refine callsIn_wide.1 (callsIn_of_wp_marks (n:=3) Tryz.func26 rfl trivial ?_ rfl)
 simp only [Tryz.ntmps26,List.size_toArray,List.length_cons,List.length_nil,Nat.reduceAdd,Nat.reduceSub,Array.replicate_succ,Array.replicate_zero,List.push_toArray,List.append_toArray,List.nil_append,List.cons_append]
 refine wpIn_wide.2<|wp_seq<|region<|dK rfl rfl (dH (cs:=#[vL bQ a0.aQ.length bT]) rfl rfl) ?_
 rintro w1 _ hE1 ⟨b1,rfl,ge1,hb1⟩
 have HS1:=HS.new hE1 ge1 hb1
 refine dK rfl rfl (fA (cs:=#[vI 0]) Tryz.zeroValue34 rfl) ?_
 rintro w2 _ hE2 ⟨b2,rfl,ge2,hb2⟩
 have HS2:=HS1.new hE2 ge2 hb2
 try simp only [sc0,sc1]
 refine aB<|aj<|wp_seq<|wp_seq<|region<|rs (vP b1 0) (aH (n:=1) (o':=0) rfl Tryz.runUnderlying27 rfl Tryz.sizeOf25 (by decide) rfl)<|rs (vL bQ a0.aQ.length bT) (aN rfl Tryz.isAgg25 (HS2.look 1 rfl) rfl)<|rs (vI (a0.aQ.length:Int)) (iT rfl Tryz.runUnderlying25)<|rs (vB (decide ((a0.aQ.length:Int)>200))) (bK rfl rfl rfl) ?_
 try simp only [sc0,sc1]
 refine aB<|aj<|wp_cond_split (t:=(decide ((a0.aQ.length:Int)>200))) rfl (fun c1=>?_) (fun c1=>?_)
 ·replace H:=bU H c1
  refine wp_seq<|region<|gq (i:=0) (cs:=[vI 0]) (cs':=[vI 90]) (vs:=[vI 90]) (bs':=[(some b2, .cells #[vI 90] 34 (0,0)),(some b1, .cells #[vL bQ a0.aQ.length bT] 27 (0,0))]) rfl rfl Tryz.sizeOf34 rfl rfl (by decide) rfl HS2 rfl (Nat.le_of_ble_eq_true rfl) rfl rfl ?_
  intro w3 HS3
  try simp only [sc0,sc1]
  refine aB<|aj<|wp_ret<|aX ?_
  obtain rfl:=Option.some.inj H
  exact ⟨_,aW rfl (one_cell rfl Tryz.isAgg34 (HS3.look 0 rfl)),rfl,HS3.toE⟩
 ·replace H:=bZ H (nt c1)
  have hlen:a0.aQ.length≤200:=by have:=of_decide_eq_false c1;omega
  refine wp_skip<|aj<|wp_seq<|wp_seq<|region<|rs (Value.agg #[vL bQ a0.aQ.length bT]) (aY (n:=1) (vs:=[vL bQ a0.aQ.length bT]) rfl Tryz.isAgg27 (HS2.look 1 rfl) Tryz.sizeOf27 rfl rfl)<|dK (φ:=fun w1 v=>∃b,v= .func (.func 94) #[] #[.pointer (some ⟨b,0,none⟩)]∧w1.heap[b]?=some (.cells #[vL bQ a0.aQ.length bT] 27 (0,0))) rfl rfl (lT Tryz.call60 rfl (Ac.calls a0 bQ bT HS2.sees) rfl) ?_
  rintro w3 _ hE3 ⟨b3,rfl,hb3⟩
  have HS3:=HS2.step hE3
  try simp only [sc0,sc1]
  refine aB<|aj<|wp_block ?_
  have hb2':w3.heap[b2]?=some (.cells #[vI 0] 34 (0,0)):=HS3.look 0 rfl
  have hB:Ext w0 w3:=HS3.toE
  have hlt2:b2<w3.heap.size:=(Array.getElem?_eq_some_iff.1 hb2').1
  have YZ:w0.heap.size≤b2:=Nat.le_trans HS1.ext.size ge2
  refine wpIn_wide.1 (wpIn_rangeFunc_ownH (F:=Fence.wide) (n:=3) rfl (by omega) (gf:=94) (lb:=#[vP b3 0]) rfl trivial Tryz.call94
   (JU a0 b3 bQ bT (3-1) HS3.sees fB gI hb3 hlen) (fun h k=>Kc.trans h k) (fun W l o o' _ h1 h2 _=>Kc.put W l o o' h1 h2) (Below.refl _ _) (fun _=>rfl)
   (fun pre W=>(Below w0.heap.size w0 W∧W.heap[b2]?=some (.cells #[vI 0] 34 (0,0)))∧∀x∈pre,sH (xg.of x).1 (xg.of x).2=false)
   (fun c pre W=>(Below w0.heap.size w0 W∧W.heap[b2]?=some (.cells #[vI 90] 34 (0,0)))∧c= .ret∧∃q x,pre=q++[x]∧(∀y∈q,sH (xg.of y).1 (xg.of y).2=false)∧sH (xg.of x).1 (xg.of x).2=true)
   (((ownFrom_below (Nat.le_refl _) hB.size).and zK).and (ownFrom_pure _ _)) (fun c=>((ownFrom_below (Nat.le_refl _) hB.size).and zK).and (ownFrom_pure _ _))
   ⟨⟨hB,hb2'⟩,by simp⟩
   (fun x a' W=>(∃b4,W.heap[b4]?=some (.cells #[vI x.1.2.1.vAt,vL x.1.2.2.1 x.1.2.1.bF.length x.1.2.2.2] 58 (0,0))∧a'=⟨[Value.agg #[vL bQ a0.aQ.length bT],vP b1 0,vP b2 0,vI x.1.1,vP b4 0,vP b1 0,vL bQ a0.aQ.length bT,vI (a0.aQ.length:Int),vB (decide ((a0.aQ.length:Int)>200)),Value.agg #[vL bQ a0.aQ.length bT],Value.func (.func 94) #[] #[.pointer (some ⟨b3,0,none⟩)],vI x.1.1,Value.agg #[vI x.1.2.1.vAt,vL x.1.2.2.1 x.1.2.1.bF.length x.1.2.2.2],undef,undef,undef,undef,undef,undef,undef,undef,undef,undef,undef,undef,undef,undef,undef,undef,undef,undef,undef,undef,undef].toArray,[]⟩))
   (fun x a'=>by rintro s W W' row ⟨b4,hb4,rfl⟩ hg hr;exact ⟨b4,zK s W W' row hb4 hg hr,rfl⟩) ?assign ?body ?done ?stop)
  case assign=>
   intro l pre x W K hI hK
   have hs:jf h0 W:=hv.ext hI.1.1
   have HW:St [] h0 W h0 [] W:=St.init hs
   have e:∀(l:List Value),((#[11,12]:Array Tmp).zip (xg.enc x)).foldl (fun t (p,v)=>t.setIfInBounds p v) l.toArray=((l.set 11 (.int .i64 x.1.1)).set 12 (.agg #[.int .i64 x.1.2.1.vAt, .slice x.1.2.2.1 x.1.2.1.bF.length x.1.2.2.2])).toArray:=by
    intro l;simp [xg.enc]
   rw [e]
   simp only [sc0,sc1]
   refine wpIn_seq<|xY (.inr ⟨l,rfl⟩) (by rintro ⟨a,w,h⟩;exact h) (pU rfl) ?_
   refine rs (vI x.1.1) (aC rfl) ?_
   try simp only [sc0,sc1]
   refine aB<|aj<|aj<|xY (.inr ⟨l,rfl⟩) (by rintro ⟨a,w,h⟩;exact h) (pU rfl) ?_
   refine dK rfl rfl (fA (cs:=#[vI 0,vL none 0 0]) Tryz.zeroValue58 rfl) ?_
   rintro w4 _ hE4 ⟨b4,rfl,ge4,hb4⟩
   have HS4:=HW.new hE4 ge4 hb4
   refine gq (i:=0) (cs:=[vI 0,vL none 0 0]) (cs':=[vI x.1.2.1.vAt,vL x.1.2.2.1 x.1.2.1.bF.length x.1.2.2.2]) (vs:=[vI x.1.2.1.vAt,vL x.1.2.2.1 x.1.2.1.bF.length x.1.2.2.2]) (bs':=[(some b4, .cells #[vI x.1.2.1.vAt,vL x.1.2.2.1 x.1.2.1.bF.length x.1.2.2.2] 58 (0,0))]) rfl rfl Tryz.sizeOf58 rfl rfl (by decide) rfl HS4 rfl (Nat.le_of_ble_eq_true rfl) rfl rfl ?_
   intro w5 HS5
   try simp only [sc0,sc1]
   exact aB<|aj<|aj<|hK _ _ (DK HS5.toE) (Kc.ext HS5.toE) ⟨⟨Ext.then hI.1.1 HS5.toE,kR hI.1.2 HS5.toE⟩,hI.2⟩ ⟨b4,HS5.look 0 rfl,rfl⟩
  case body=>
   rintro l pre x a' W hl ⟨r',hr'⟩ ⟨⟨hB2,UU⟩,hpre⟩ ⟨b4,hb4,rfl⟩ hlt
   have hs:jf h0 W:=hv.ext hB2
   refine wpIn_block<|wpIn_seq<|xY (.inr ⟨l,rfl⟩) (by rintro ⟨a,w,h⟩;exact h) (pU rfl) ?_
   refine rs (vP b4 1) (aH (n:=1) (o':=1) rfl Tryz.runUnderlying58 rfl Tryz.sizeOf42 (by decide) rfl)<|rs (vL x.1.2.2.1 (x.1.2.1.bF).length x.1.2.2.2) (aN rfl Tryz.isAgg42 hb4 rfl)<|rs (vI ((x.1.2.1.bF).length:Int)) (iT rfl Tryz.runUnderlying42)<|rs (vB (((x.1.2.1.bF).length:Int)==0)) (bK rfl rfl rfl)<|aI (by simp only [sc0,sc1];rfl) ?_
   refine rs (vB (((x.1.2.1.bF).length:Int)==0)) (aK rfl)<|rgs (((x.1.2.1.bF).length:Int)==0) true (vP b4 1) rfl rfl rfl rfl (fun hg=>(aH (n:=1) (o':=1) rfl Tryz.runUnderlying58 rfl Tryz.sizeOf42 (by decide) rfl))<|rgs (((x.1.2.1.bF).length:Int)==0) true (vL x.1.2.2.1 (x.1.2.1.bF).length x.1.2.2.2) rfl rfl rfl rfl (fun hg=>(aN (gvt (vP b4 1) hg rfl) Tryz.isAgg42 hb4 rfl))<|rgs (((x.1.2.1.bF).length:Int)==0) true (vI ((x.1.2.1.bF).length:Int)) rfl rfl rfl rfl (fun hg=>(iT (gvt (vL x.1.2.2.1 (x.1.2.1.bF).length x.1.2.2.2) hg rfl) Tryz.runUnderlying42))<|aI (by simp only [sc0,sc1];rfl) ?_
   refine rgs (((x.1.2.1.bF).length:Int)==0) true (vB (decide (((x.1.2.1.bF).length:Int)>512))) rfl rfl rfl rfl (fun hg=>(bK (gvt (vI ((x.1.2.1.bF).length:Int)) hg rfl) rfl rfl))<|rs (vB ((((x.1.2.1.bF).length:Int)==0)||(decide (((x.1.2.1.bF).length:Int)>512)))) (dV rfl rfl (fun hp=>(gvt (vB (decide (((x.1.2.1.bF).length:Int)>512))) (gu rfl hp) rfl)))<|rs (vB ((((x.1.2.1.bF).length:Int)==0)||(decide (((x.1.2.1.bF).length:Int)>512)))) (aK rfl)<|rgs ((((x.1.2.1.bF).length:Int)==0)||(decide (((x.1.2.1.bF).length:Int)>512))) true (vP b4 0) rfl rfl rfl rfl (fun hg=>(aH (n:=1) (o':=0) rfl Tryz.runUnderlying58 rfl Tryz.sizeOf2 (by decide) rfl))<|aI (by simp only [sc0,sc1];rfl) ?_
   refine rgs ((((x.1.2.1.bF).length:Int)==0)||(decide (((x.1.2.1.bF).length:Int)>512))) true (vI (x.1.2.1.vAt)) rfl rfl rfl rfl (fun hg=>(aN (gvt (vP b4 0) hg rfl) Tryz.isAgg2 hb4 rfl))<|rgs ((((x.1.2.1.bF).length:Int)==0)||(decide (((x.1.2.1.bF).length:Int)>512))) true (vI x.1.1) rfl rfl rfl rfl (fun hg=>(aK rfl))<|rgs ((((x.1.2.1.bF).length:Int)==0)||(decide (((x.1.2.1.bF).length:Int)>512))) true (vB (decide (x.1.2.1.vAt<x.1.1))) rfl rfl rfl rfl (fun hg=>(bK (gvt (vI (x.1.2.1.vAt)) hg rfl) (gvt (vI x.1.1) hg rfl) rfl))<|rs (vB (((((x.1.2.1.bF).length:Int)==0)||(decide (((x.1.2.1.bF).length:Int)>512)))||(decide (x.1.2.1.vAt<x.1.1)))) (dV rfl rfl (fun hp=>(gvt (vB (decide (x.1.2.1.vAt<x.1.1))) (gu rfl hp) rfl)))<|aI (by simp only [sc0,sc1];rfl) ?_
   refine rs (vB (((((x.1.2.1.bF).length:Int)==0)||(decide (((x.1.2.1.bF).length:Int)>512)))||(decide (x.1.2.1.vAt<x.1.1)))) (aK rfl)<|rgs (((((x.1.2.1.bF).length:Int)==0)||(decide (((x.1.2.1.bF).length:Int)>512)))||(decide (x.1.2.1.vAt<x.1.1))) true (vP b4 0) rfl rfl rfl rfl (fun hg=>(aH (n:=1) (o':=0) rfl Tryz.runUnderlying58 rfl Tryz.sizeOf2 (by decide) rfl))<|rgs (((((x.1.2.1.bF).length:Int)==0)||(decide (((x.1.2.1.bF).length:Int)>512)))||(decide (x.1.2.1.vAt<x.1.1))) true (vI (x.1.2.1.vAt)) rfl rfl rfl rfl (fun hg=>(aN (gvt (vP b4 0) hg rfl) Tryz.isAgg2 hb4 rfl))<|rgs (((((x.1.2.1.bF).length:Int)==0)||(decide (((x.1.2.1.bF).length:Int)>512)))||(decide (x.1.2.1.vAt<x.1.1))) true (vB (decide (x.1.2.1.vAt>1099511627776))) rfl rfl rfl rfl (fun hg=>(bK (gvt (vI (x.1.2.1.vAt)) hg rfl) rfl rfl))<|aI (by simp only [sc0,sc1];rfl) ?_
   refine rs (vB ((((((x.1.2.1.bF).length:Int)==0)||(decide (((x.1.2.1.bF).length:Int)>512)))||(decide (x.1.2.1.vAt<x.1.1)))||(decide (x.1.2.1.vAt>1099511627776)))) (dV rfl rfl (fun hp=>(gvt (vB (decide (x.1.2.1.vAt>1099511627776))) (gu rfl hp) rfl))) ?_
   try simp only [sc0,sc1]
   refine aB<|aj<|aj<|wpIn_cond_split (t:=(((((x.1.2.1.bF).length:Int)==0)||(decide (((x.1.2.1.bF).length:Int)>512)))||(decide (x.1.2.1.vAt<x.1.1)))||(decide (x.1.2.1.vAt>1099511627776))) rfl (fun c2=>?_) (fun c2=>?_)
   ·have HW:St [b2] h0 W h0 [(some b2, .cells #[vI 0] 34 (0,0))] W:=WT hs UU (fun a ha=>unseen hv (by omega))
    refine wpIn_seq<|xY (.inr ⟨l,rfl⟩) (by rintro ⟨a,w,h⟩;exact h) (pU rfl) ?_
    refine gq (i:=0) (cs:=[vI 0]) (cs':=[vI 90]) (vs:=[vI 90]) (bs':=[(some b2, .cells #[vI 90] 34 (0,0))]) rfl rfl Tryz.sizeOf34 rfl rfl (by decide) rfl HW rfl (Nat.le_of_ble_eq_true rfl) rfl rfl ?_
    intro w4 HS4
    try simp only [sc0,sc1]
    exact aB<|aj<|aj<|wpIn_ret<|⟨⟨HS4.ext.size,fun k o hB hk _=>(HS4.ext.block k (Array.getElem?_eq_some_iff.1 hk).1 (by simp;omega)).trans hk⟩,⟨⟨RI hB2 HS4.ext YZ,HS4.look 0 rfl⟩,rfl,pre,x,rfl,hpre,c2⟩⟩
   ·refine wpIn_skip<|⟨KeepsFrom.refl _ _,Kc.ext (Ext.rfl' _),⟨hB2,UU⟩,?_⟩
    intro y hy
    rcases List.mem_append.1 hy with h|h
    ·exact hpre y h
    ·obtain rfl:=List.mem_singleton.1 h;exact c2
  case done=>
   rintro D xs W hD hS ⟨⟨hB2,UU⟩,hpre⟩ hK
   have hs:jf h0 W:=hv.ext hB2
   have HW:St [b2] h0 W h0 [(some b2, .cells #[vI 0] 34 (0,0))] W:=WT hs UU (fun a ha=>unseen hv (by omega))
   have h0r:lG 0 a0.aQ=0:=WS _ _ fun p hp=>by
    rw [←hS] at hp
    obtain ⟨x,hx,rfl⟩:=List.mem_map.1 hp
    exact hpre x hx
   rw [h0r] at H
   obtain rfl:=Option.some.inj H
   refine dB<|aj<|wp_seq<|region<|gq (i:=0) (cs:=[vI 0]) (cs':=[vI 0]) (vs:=[vI 0]) (bs':=[(some b2, .cells #[vI 0] 34 (0,0))]) rfl rfl Tryz.sizeOf34 rfl rfl (by decide) rfl HW rfl (Nat.le_of_ble_eq_true rfl) rfl rfl ?_
   intro w5 HS5
   try simp only [sc0,sc1]
   refine aB<|aj<|wp_ret ?_
   have hD5:w5.heap[D]?=some (.deferred (some [])):=(HS5.ext.block D (Array.getElem?_eq_some_iff.1 hK).1 (by simp;omega)).trans hK
   refine ⟨by simp, .inl ⟨_,_,rfl,run_takeDeferred hD5,?_⟩⟩
   exact ⟨_,aW rfl (one_cell rfl Tryz.isAgg34 ((World.putObj_heap_other (by omega)).trans (HS5.look 0 rfl))),rfl,OD (RI hB2 HS5.ext YZ) (Nat.le_trans hB.size hD)⟩
  case stop=>
   rintro D c pre W hD ⟨t,ht⟩ ⟨⟨hB2,UU⟩,rfl,q,x,rfl,hq,hx⟩ hK
   have h90:lG 0 a0.aQ=90:=Uz (q.map xg.of) _ _ (xg.of x) t (by rw [←ht];simp) (fun p hp=>by
    obtain ⟨y,hy,rfl⟩:=List.mem_map.1 hp
    exact hq y hy) hx
   rw [h90] at H
   obtain rfl:=Option.some.inj H
   refine wpIn_ret<|dn<|aX<|⟨by simp, .inl ⟨_,_,rfl,run_takeDeferred hK,?_⟩⟩
   exact ⟨_,aW rfl (one_cell rfl Tryz.isAgg34 ((World.putObj_heap_other (by omega)).trans UU)),rfl,OD hB2 (Nat.le_trans hB.size hD)⟩
end Go.Proofs.YtecpbadkdpbkpaaGreatDoor
namespace Go.Proofs.YtecpbadkdpbkpaaGreatDoor
open Go.RowKit Go.M
theorem UA (f:Int) (s:bY):((((decide ((s.bF.length:Int)<1))||(decide ((s.bF.length:Int)>512)))||(decide (s.vAt<f)))||(decide (s.vAt>1099511627776)))=sH f s:=by
 unfold sH
 rw [show decide ((s.bF.length:Int)<1)=((s.bF.length:Int)==0) by rw [Bool.eq_iff_iff,decide_eq_true_eq,beq_iff_eq];omega]
theorem OE:∀(l:List bY) (f:Int),lG f l=0∨lG f l=90
  |[],_=> .inl rfl
  | s :: r, f => by
    rw [lG]
    split
    · exact .inr rfl
    · exact OE r _
theorem OG {a0:dX} (hl:a0.aQ.length≤200):∀(d i m:Nat) (y:Int),i+d=a0.aQ.length→d<m→
    eH.l0 a0 m y (i:Int)=some (if lG y (a0.aQ.drop i)=0 then .inr () else .inl 90):=by
  intro d
  induction d with
  | zero =>
    intro i m y hi hm
    obtain ⟨m,rfl⟩:∃q,m=q+1:=⟨m-1,by omega⟩
    rw [eH.l0,if_neg (by simp;omega),List.drop_of_length_le (by omega)]
    rfl
  | succ d ih =>
    intro i m y hi hm
    obtain ⟨m,rfl⟩:∃q,m=q+1:=⟨m-1,by omega⟩
    rw [eH.l0,if_pos (by simp;omega),if_pos (by omega),UA,Qx aA a0.aQ i (by omega),lG]
    by_cases hb:sH y (rd aA a0.aQ (i:Int))=true
    · rw [if_pos hb,if_pos hb];rfl
    · rw [if_neg hb,if_neg hb,fP (n:=300) (by omega) (by omega)]
      exact ih (i+1) m _ (by omega) (by omega)
def RJ (m:dX):Int:=if (decide ((m.aQ.length:Int)>200))=true then 90 else lG 0 m.aQ
theorem OH (m:dX):mD.f m=some (RJ m):=by
 unfold mD.f RJ
 split<;>rfl
theorem OI (m:dX) {k:Nat} (hk:201≤k):eH.f k m=some (RJ m):=by
 unfold eH.f RJ
 split
 ·rfl
 ·next h=>
  have hl:m.aQ.length≤200:=by
   simp only [decide_eq_true_eq] at h;omega
  have:=OG hl m.aQ.length 0 k 0 (by omega) (by omega)
  rw [show ((0:Nat):Int)=0 from rfl] at this
  rw [this,List.drop_zero]
  simp only [Option.bind_some]
  rcases OE m.aQ 0 with h0|h0
  ·rw [h0];rfl
  ·rw [h0];rfl
structure OkI (l:List bY):Prop where
 all:∀i,i<l.length→0≤(l.getD i aA).vAt∧(l.getD i aA).vAt≤1099511627776∧1≤(l.getD i aA).bF.length∧(l.getD i aA).bF.length≤512
 ord:∀i j,i<j→j<l.length→(l.getD i aA).vAt+(l.getD i aA).bF.length≤(l.getD j aA).vAt
theorem IE : ∀ (l : List bY) (f : Int), 0 ≤ f → lG f l = 0 → OkI l ∧ ∀ i, i < l.length → f ≤ (l.getD i aA).vAt
  |[],f,_,_=>⟨⟨fun i h=>by simp at h,fun i j _ h=>by simp at h⟩,fun i h=>by simp at h⟩
  | s :: r, f, hf, h => by
    rw [lG] at h
    split at h
    · cases h
    · next hb=>
      unfold sH at hb
      simp only [Bool.or_eq_true,beq_iff_eq,decide_eq_true_eq,not_or] at hb
      have he:zJ s=s.vAt+(s.bF.length:Int):=jC (by omega) (by omega)
      rw [he] at h
      obtain ⟨h1,h2⟩:=IE r _ (by omega) h
      refine ⟨⟨fun i hi=>?_,fun i j hij hj=>?_⟩,fun i hi=>?_⟩
      · cases i with
        |zero=>exact ⟨by show 0≤s.vAt;omega,by show s.vAt≤_;omega,by show 1≤s.bF.length;omega,by show s.bF.length≤512;omega⟩
        |succ i=>exact h1.all i (by simpa using hi)
      · cases j with
        |zero=>omega
        | succ j =>
          have hj':j<r.length:=by simpa using hj
          cases i with
          |zero=>exact h2 j hj'
          |succ i=>exact h1.ord i j (by omega) hj'
      · cases i with
        |zero=>show f≤s.vAt;omega
        | succ i =>
          have:=h2 i (by simpa using hi)
          show f≤(r.getD i aA).vAt
          omega
theorem WU {m:dX} (h:RJ m=0):m.aQ.length≤200∧OkI m.aQ:=by
 unfold RJ at h
 split at h
 ·cases h
 ·next hn=>
  simp only [decide_eq_true_eq] at hn
  exact ⟨by omega,(IE _ 0 (by omega) h).1⟩
def oP (s:bY) (x:Int):Prop:=s.vAt≤x∧x-s.vAt<(s.bF.length:Int)
instance (s:bY) (x:Int):Decidable (oP s x):=by unfold oP;exact inferInstance
def byteAt:List bY→Int→Option Int
 |[],_=>none
 |s::r,x=>if oP s x then some (s.bF.getD (x-s.vAt).toNat 0) else byteAt r x
theorem qV:∀{l:List bY} {x:Int},(∀i,i<l.length→¬oP (l.getD i aA) x)→byteAt l x=none
  |[],_,_=>rfl
  | s :: r, x, h => by
    have h0:¬oP s x:=h 0 (by simp)
    rw [byteAt,if_neg h0]
    exact qV fun i hi=>h (i+1) (by simpa using hi)
theorem zL:∀{l:List bY} {x:Int} (j:Nat),j<l.length→(∀i,i<j→¬oP (l.getD i aA) x)→oP (l.getD j aA) x→byteAt l x=some ((l.getD j aA).bF.getD (x-(l.getD j aA).vAt).toNat 0)
  |[],_,j,hj,_,_=>by simp at hj
  | s :: r, x, 0, _, _, h => by
    have h0:oP s x:=h
    rw [byteAt,if_pos h0];rfl
  | s :: r, x, j + 1, hj, h, h' => by
    have h0:¬oP s x:=h 0 (by omega)
    rw [byteAt,if_neg h0]
    exact zL j (by simpa using hj) (fun i hi=>h (i+1) (by omega)) h'
def Y0:Option Int→Int×Bool
 |none=>(0,false)
 |some b=>(b,true)
theorem JV {a0 : dX} {x : Int} (hl : a0.aQ.length ≤ 200) (hO : OkI a0.aQ) (hx : -9223372036854775808 ≤ x ∧ x ≤ 9223372036854775807) : ∀ (d i m : Nat), i + d = a0.aQ.length → d < m →
    fD.l0 a0 x m (i:Int)=some (match byteAt (a0.aQ.drop i) x with|none=> .inr ()|some b=> .inl (b,true)):=by
  intro d
  induction d with
  | zero =>
    intro i m hi hm
    obtain ⟨m,rfl⟩:∃q,m=q+1:=⟨m-1,by omega⟩
    rw [fD.l0,if_neg (by simp;omega),List.drop_of_length_le (by omega)]
    rfl
  | succ d ih =>
    intro i m hi hm
    obtain ⟨m,rfl⟩:∃q,m=q+1:=⟨m-1,by omega⟩
    have h:=hO.all i (by omega)
    rw [←gG] at h
    rw [fD.l0,if_pos (by simp;omega),if_pos (by omega),Qx aA a0.aQ i (by omega),byteAt]
    generalize rd aA a0.aQ (i:Int)=s at h⊢
    by_cases hb:oP s x
    · unfold oP at hb
      have hw:IntKind.wrap .i64 (x-s.vAt)=x-s.vAt:=jC (by omega) (by omega)
      rw [hw,if_pos (by simp;omega),if_pos (by omega),if_pos (show oP s x from hb)]
      rfl
    · rw [if_neg (c:=oP s x) hb]
      unfold oP at hb
      rw [if_neg (by
        simp only [Bool.and_eq_true,decide_eq_true_eq]
        rintro ⟨h1,h2⟩
        rw [jC (by omega) (by omega)] at h2
        omega), fP (n := 300) (by omega) (by omega)]
      exact ih (i+1) m (by omega) (by omega)
theorem Yn {a0:dX} {x:Int} (hl:a0.aQ.length≤200) (hO:OkI a0.aQ) (hx: -9223372036854775808≤x∧x≤9223372036854775807) {k:Nat} (hk:201≤k):fD.f k a0 x=some (Y0 (byteAt a0.aQ x)):=by
 unfold fD.f
 have:=JV hl hO hx a0.aQ.length 0 k (by omega) (by omega)
 rw [show ((0:Nat):Int)=0 from rfl,List.drop_zero] at this
 rw [this]
 cases byteAt a0.aQ x<;>rfl
def zM (l : List bY) (a : Int) : Nat → Nat → List Int → Option (List Int)
  |0,_,acc=>some acc
  | d + 1, i, acc => match byteAt l (a + (i : Int)) with
    |none=>none
    |some b=>zM l a d (i+1) (acc++[b])
def Y1:Option (List Int)→List Int×Bool
 |none=>([],false)
 |some xs=>(xs,true)
theorem DL {l:List bY} (hO:OkI l) {x:Int} (hx:1099511628288≤x∨x<0):byteAt l x=none:=
 qV fun i hi h=>by
  have:=hO.all i hi
  unfold oP at h
  omega
theorem EW {a0 : dX} {a : Int} {n k : Nat} (hl : a0.aQ.length ≤ 200) (hO : OkI a0.aQ) (ha : -9223372036854775808 ≤ a ∧ a ≤ 9223372036854775807) (hn : n ≤ 4096) (hk : 201 ≤ k) : ∀ (d i m : Nat) (acc : List Int), i + d = n → d < m → acc.length = i →
    eG.l0 k a0 a (n:Int) m (i:Int) acc=some (match zM a0.aQ a d i acc with|none=> .inl ([],false)|some xs=> .inr xs):=by
  intro d
  induction d with
  | zero =>
    intro i m acc hi hm hc
    obtain ⟨m,rfl⟩:∃q,m=q+1:=⟨m-1,by omega⟩
    rw [eG.l0,if_neg (by simp;omega)]
    rfl
  | succ d ih =>
    intro i m acc hi hm hc
    obtain ⟨m,rfl⟩:∃q,m=q+1:=⟨m-1,by omega⟩
    rw [eG.l0,if_pos (by simp;omega)]
    have hwi: -9223372036854775808≤IntKind.wrap .i64 (a+(i:Int))∧IntKind.wrap .i64 (a+(i:Int))≤9223372036854775807:=by
      simp [IntKind.wrap,IntKind.bits,IntKind.signed]
      split<;>omega
    rw [Yn hl hO hwi hk,zM]
    simp only [Option.bind_some]
    by_cases ho:a+(i:Int)≤9223372036854775807
    · rw [jC (x:=a+(i:Int)) (by omega) ho]
      cases hb:byteAt a0.aQ (a+(i:Int)) with
      |none=>rfl
      | some b =>
        rw [if_neg (by simp [Y0];omega),if_pos (by omega),fP (n:=5000) (by omega) (by omega)]
        exact ih (i+1) m _ (by omega) (by omega) (by simp [hc])
    · rw [if_pos (by
        simp only [Bool.or_eq_true,decide_eq_true_eq]
        right
        simp [IntKind.wrap,IntKind.bits,IntKind.signed]
        split <;> omega), DL hO (.inl (by omega))]
theorem Qy {a0:dX} {a:Int} {n k:Nat} (hl:a0.aQ.length≤200) (hO:OkI a0.aQ) (ha: -9223372036854775808≤a∧a≤9223372036854775807) (hn:n≤4096) (hk:4097≤k):
  eG.f k a0 a (n:Int)=some (Y1 (zM a0.aQ a n 0 [])):=by
 unfold eG.f
 have:=EW hl hO ha hn (k:=k) (by omega) n 0 k [] (by omega) (by omega) rfl
 rw [show ((0:Nat):Int)=0 from rfl] at this
 rw [this]
 cases zM a0.aQ a n 0 []<;>rfl
def Ad (s:bY):Int:=s.vAt+(s.bF.length:Int)
theorem WV {lo hi:Nat} (h:lo≤hi) (hh:hi≤1000):IntKind.wrap .i64 (vY .u64 (IntKind.wrap .u64 (IntKind.wrap .i64 ((lo:Int)+(hi:Int)))) 1)=(((lo+hi)/2:Nat):Int):=by
 rw [jC (x:=(lo:Int)+hi) (by omega) (by omega)]
 have e:IntKind.wrap .u64 ((lo:Int)+hi)=((lo+hi:Nat):Int):=by
  simp [IntKind.wrap,IntKind.bits,IntKind.signed];omega
 rw [e]
 have e2:vY .u64 ((lo+hi:Nat):Int) 1=((lo+hi:Nat):Int)/2:=by
  unfold vY
  rw [Int.fdiv_eq_ediv_of_nonneg _ (by decide)]
  rfl
 rw [e2,jC (by omega) (by omega)]
 omega
theorem UC {l:List bY} (hO:OkI l) {i j:Nat} (h:i<j) (hj:j<l.length):Ad (l.getD i aA)<Ad (l.getD j aA):=by
 have h1:=hO.ord i j h hj
 have h2:=hO.all j hj
 unfold Ad;omega
theorem OJ {l:List bY} (hO:OkI l) {i j:Nat} (h:i≤j) (hj:j<l.length):Ad (l.getD i aA)≤Ad (l.getD j aA):=by
 rcases Nat.lt_or_ge i j with h1|h1
 ·have:=UC hO h1 hj;omega
 ·obtain rfl:i=j:=by omega
  omega
theorem cmp_eq {l:List bY} (hO:OkI l) {i:Nat} (hi:i<l.length) (a:Int):iZ.f (fun z0=>lF.f z0) (l.getD i aA) a=if Ad (l.getD i aA)≤a then some (-1) else some 1:=by
 have h:=hO.all i hi
 unfold iZ.f lF.f
 simp only [Option.bind_some,decide_eq_true_eq]
 rw [jC (by omega) (by omega)]
 rfl
theorem GR {l : List bY} (hl : l.length ≤ 200) (hO : OkI l) (a : Int) : ∀ (d lo hi m : Nat), hi ≤ lo + d → d < m → lo ≤ hi → hi ≤ l.length → (∀ i, i < lo → Ad (l.getD i aA) ≤ a) → (∀ i, hi ≤ i → i < l.length → a < Ad (l.getD i aA)) →
    ∃j:Nat,aT.l0 l a (fun z0 z1=>iZ.f (fun z0=>lF.f z0) z0 z1) m (lo:Int) (hi:Int)=some (j:Int)∧j≤l.length∧(∀i,i<j→Ad (l.getD i aA)≤a)∧(∀i,j≤i→i<l.length→a<Ad (l.getD i aA)):=by
  intro d
  induction d with
  | zero =>
    intro lo hi m h1 hm h2 h3 hA hB
    obtain ⟨m,rfl⟩:∃q,m=q+1:=⟨m-1,by omega⟩
    refine ⟨lo,?_,by omega,hA,fun i hi'=>hB i (by omega)⟩
    rw [aT.l0,if_neg (by simp;omega)]
  | succ d ih =>
    intro lo hi m h1 hm h2 h3 hA hB
    obtain ⟨m,rfl⟩:∃q,m=q+1:=⟨m-1,by omega⟩
    rw [aT.l0]
    by_cases hlt:lo<hi
    · have hmid:(lo+hi)/2<l.length:=by omega
      rw [if_pos (by simp;omega),WV h2 (by omega),if_pos (by omega),gG,cmp_eq hO hmid]
      by_cases hc:Ad (l.getD ((lo+hi)/2) aA)≤a
      · rw [if_pos hc]
        simp only [Option.bind_some]
        rw [if_pos (by decide),fP (n:=1000) (by omega) (by omega)]
        exact ih _ _ m (by omega) (by omega) (by omega) h3 (fun i hi'=>by have:=OJ hO (i:=i) (j:=(lo+hi)/2) (by omega) hmid;omega) hB
      · rw [if_neg hc]
        simp only [Option.bind_some]
        rw [if_neg (by decide)]
        exact ih _ _ m (by omega) (by omega) (by omega) (by omega) hA (fun i hi' hi2=>by have:=OJ hO (i:=(lo+hi)/2) (j:=i) hi' hi2;omega)
    · refine ⟨lo,?_,by omega,hA,fun i hi'=>hB i (by omega)⟩
      rw [if_neg (by simp;omega)]
theorem OL {l:List bY} (hl:l.length≤200) (hO:OkI l) (a:Int) {k:Nat} (hk:201≤k):
  ∃j:Nat,fH.f k l a (fun z0=>lF.f z0)=some (j:Int)∧j≤l.length∧(∀i,i<j→Ad (l.getD i aA)≤a)∧(∀i,j≤i→i<l.length→a<Ad (l.getD i aA)):=by
 obtain ⟨j,h1,h2,h3,h4⟩:=GR hl hO a l.length 0 l.length k (by omega) (by omega) (by omega) (by omega) (fun i h=>by omega) (fun i h h'=>by omega)
 refine ⟨j,?_,h2,h3,h4⟩
 unfold fH.f aT.f
 rw [show ((0:Nat):Int)=0 from rfl] at h1
 rw [h1]
 simp only [Option.bind_some]
 by_cases hj:j<l.length
 ·rw [if_pos (fun _=>by omega),if_pos (by simp;omega),gG,cmp_eq hO hj,if_neg (by have:=h4 j (by omega) hj;omega)]
  rfl
 ·rw [if_pos (by simp<;>omega),if_neg (by simp<;>omega)]
  rfl
theorem EX {l:List bY} {a:Int}:∀(part:List Int) (d c:Nat) (acc:List Int),(∀t,t<part.length→byteAt l (a+((c+t:Nat):Int))=some (part.getD t 0))→zM l a (part.length+d) c acc=zM l a d (c+part.length) (acc++part)
  |[],d,c,acc,_=>by simp
  | b :: part, d, c, acc, h => by
    have h0:=h 0 (by simp)
    rw [show (b::part).length+d=(part.length+d)+1 by simp;omega,zM,show (a+(c:Int))=a+((c+0:Nat):Int) by simp,h0]
    show zM l a (part.length+d) (c+1) (acc++[b])=_
    rw [EX part d (c+1) (acc++[b]) (fun t ht=>by have:=h (t+1) (by simpa using ht);rw [show c+1+t=c+(t+1) by omega];exact this)]
    rw [show c+1+part.length=c+(b::part).length by simp;omega,show acc++[b]++part=acc++b::part by simp]
def ZV:Option (List Int)→((List Int)×Bool)⊕(List Int)
 |none=> .inl ([],false)
 |some xs=> .inr xs
theorem JW {a0 : dX} {a : Int} {n : Nat} (hl : a0.aQ.length ≤ 200) (hO : OkI a0.aQ) (ha : -9223372036854775808 ≤ a ∧ a ≤ 9223372036854775807) (hn : n ≤ 4096) : ∀ (d j c m : Nat) (acc : List Int), j + d = a0.aQ.length → d + 1 < m → acc.length = c → c ≤ n →
    (c=n∨((∀i,i<j→Ad (a0.aQ.getD i aA)≤a+(c:Int))∧(∀i,j≤i→i<a0.aQ.length→a+(c:Int)<Ad (a0.aQ.getD i aA))∧a+(c:Int)≤9223372036854775807))→
    iQ.l0 a0 a (n:Int) m (j:Int) acc=some (ZV (zM a0.aQ a (n-c) c acc)):=by
  intro d
  induction d with
  | zero =>
    intro j c m acc hj hm hc hcn hI
    obtain ⟨m,rfl⟩:∃q,m=q+1:=⟨m-1,by omega⟩
    rw [iQ.l0]
    by_cases he:c=n
    · rw [if_neg (by simp;omega),he,Nat.sub_self];rfl
    · rcases hI with h|⟨hA,hB,hC⟩
      · exact absurd h he
      · have hd2:decide ((j:Int)≥(a0.aQ.length:Int))=true:=by simp;omega
        rw [if_pos (by simp;omega),if_pos (by rw [hd2];simp),if_pos (by rw [hd2];simp)]
        rw [show n - c = (n - c - 1) + 1 by omega, zM, qV fun i hi h => by
          have:=hA i (by omega)
          unfold oP at h; unfold Ad at this; omega]
        rfl
  | succ d ih =>
    intro j c m acc hj hm hc hcn hI
    obtain ⟨m,rfl⟩:∃q,m=q+1:=⟨m-1,by omega⟩
    rw [iQ.l0]
    by_cases he:c=n
    · rw [if_neg (by simp;omega),he,Nat.sub_self];rfl
    · rcases hI with h | ⟨hA, hB, hC⟩
      · exact absurd h he
      · have hjl:j<a0.aQ.length:=by omega
        have hw:IntKind.wrap .i64 (a+((acc.length:Nat):Int))=a+(c:Int):=by rw [hc];exact jC (by omega) hC
        have hs:=hO.all j hjl
        have hBj:=hB j (by omega) hjl
        rw [if_pos (by simp;omega),hw,gG,if_pos (fun _=>by omega)]
        have hnone:a+(c:Int)<0∨a+(c:Int)<(a0.aQ.getD j aA).vAt→byteAt a0.aQ (a+(c:Int))=none:=fun h=>by
          rcases h with h|h
          · exact DL hO (.inr h)
          · refine qV fun i hi h'=>?_
            unfold oP at h'
            rcases Nat.lt_or_ge i j with h1|h1
            · have:=hA i h1;unfold Ad at this;omega
            · rcases Nat.lt_or_ge j i with h2|h2
              · have:=hO.ord j i h2 hi;omega
              · obtain rfl:i=j:=by omega
                omega
        by_cases hno:a+(c:Int)<0∨a+(c:Int)<(a0.aQ.getD j aA).vAt
        · rw [if_pos (by simp only [Bool.or_eq_true,decide_eq_true_eq];omega),show n-c=(n-c-1)+1 by omega,zM,hnone hno]
          rfl
        · rw [if_neg (by simp only [Bool.or_eq_true,decide_eq_true_eq];omega),if_pos (by omega)]
          generalize hS:a0.aQ.getD j aA=s at*
          unfold Ad at hBj
          obtain ⟨F,hF⟩:∃F:Nat,a+(c:Int)-s.vAt=(F:Int):=⟨(a+(c:Int)-s.vAt).toNat,by omega⟩
          have hFl:F<s.bF.length:=by omega
          have hmin:tu (s.bF.length:Int) (IntKind.wrap .i64 (IntKind.wrap .i64 ((F:Int)+(n:Int))-((acc.length:Nat):Int)))=((min s.bF.length (F+n-c):Nat):Int):=by
            rw [jC (x:=(F:Int)+n) (by omega) (by omega),hc,jC (by omega) (by omega)]
            unfold tu
            split<;>omega
          rw [hF,jC (x:=(F:Int)) (by omega) (by omega),hmin]
          generalize hH:min s.bF.length (F+n-c)=H
          have hpl:(List.drop F (List.take H s.bF)).length=H-F:=by rw [List.length_drop,List.length_take];omega
          rw [if_pos (by omega),show ((F:Int)).toNat=F from rfl,show ((H:Int)).toNat=H from rfl,if_pos (by rw [hpl];omega),fP (n:=300) (by omega) (by omega)]
          rw [ih (j+1) (c+(H-F)) m _ (by omega) (by omega) (by rw [List.length_append,hpl];omega) (by omega) ?_]
          · congr 2
            have := EX (l := a0.aQ) (a := a) (List.drop F (List.take H s.bF)) (n - (c + (H - F))) c acc (fun t ht => by
              rw [hpl] at ht
              have hin:oP (a0.aQ.getD j aA) (a+((c+t:Nat):Int)):=by rw [hS];unfold oP;omega
              rw [zL j hjl (fun i hi h' => by
                have:=hA i hi
                unfold oP at h'; unfold Ad at this; omega) hin, hS]
              congr 1
              rw [List.getD_eq_getElem?_getD,List.getD_eq_getElem?_getD,List.getElem?_drop,List.getElem?_take,if_pos (by omega)]
              congr 2
              omega)
            rw [hpl] at this
            rw [show n-c=(H-F)+(n-(c+(H-F))) by omega]
            exact this.symm
          · by_cases hn2:c+(H-F)=n
            · exact .inl hn2
            · have hHl:H=s.bF.length:=by omega
              refine .inr ⟨fun i hi=>?_,fun i hi hi2=>?_,by omega⟩
              · rcases Nat.lt_or_ge i j with h1|h1
                · have:=hA i h1;omega
                · obtain rfl:i=j:=by omega
                  rw [hS];unfold Ad;omega
              · have h1:=hO.ord j i (by omega) hi2
                have h2:=hO.all i hi2
                rw [hS] at h1
                unfold Ad;omega
theorem Yo {a0:dX} {a:Int} {n k:Nat} (hl:a0.aQ.length≤200) (hO:OkI a0.aQ) (ha: -9223372036854775808≤a∧a≤9223372036854775807) (hn:n≤4096) (hk:300≤k):
  iQ.f k a0 a (n:Int)=some (Y1 (zM a0.aQ a n 0 [])):=by
 obtain ⟨j,h1,h2,h3,h4⟩:=OL hl hO a (k:=k) (by omega)
 unfold iQ.f
 rw [h1]
 simp only [Option.bind_some]
 rw [JW hl hO ha hn (a0.aQ.length-j) j 0 k [] (by omega) (by omega) rfl (by omega) (.inr ⟨fun i hi=>by have:=h3 i hi;simpa using this,fun i hi hi2=>by have:=h4 i hi hi2;simpa using this,by simpa using ha.2⟩)]
 simp only [Option.bind_some,Nat.sub_zero]
 cases zM a0.aQ a n 0 []<;>rfl
def fU.l0 (a1:List Int):Nat→Int→Int→Option (Int)
 |0,_,_=>none
 |m+1,aG,bH=>if (decide (bH<(a1.length:Int)))=true then (if 0≤bH∧bH<a1.length then (if 0≤(IntKind.wrap .i64 (8*bH)) then (fU.l0 a1 m (iOr .u64 aG (OX .u64 (IntKind.wrap .u64 (rd 0 a1 bH)) (IntKind.wrap .i64 (8*bH)))) (IntKind.wrap .i64 (bH+1))) else none) else none) else (some aG)
def fU.f (k:Nat) (a0:eP) (a1:List Int):Option (Int×Int):=(kL.f a0).bind fun v1=>(if (v1 !=0)=true then (some (0,v1)) else (if ((a1.length:Int) !=a0.aS)=true then (some (0,1)) else ((fU.l0 a1 k 0 0).bind fun xx1=>((qA.f a0 (IntKind.wrap .i64 xx1)).bind fun v2=>(some (v2,0))))))
theorem fU.calls (k:Nat) (a0:eP) (a1:List Int) (lu:Option Addr) (lC:Nat) {h0:View} {w0:World} (hv:jf h0 w0) (qx:Rd (Kd.int .u8) h0 lu a1) (wY:a1.length≤lC) {r:Int×Int} (H:fU.f k a0 a1=some r):Calls Tryz.prog 76 #[Value.agg #[vI a0.aS,vB a0.aO],vL lu a1.length lC] w0 (fun e w1=>e= .returned (Value.tuple #[vI r.1,vI r.2])∧Ext w0 w1):=by
 unfold fU.f at H
 have HS:St [] h0 w0 h0 [] w0:=St.init hv
 go_enter Tryz.func76,Tryz.ntmps76
 refine wp_seq<|region<|dK rfl rfl (dH (cs:=#[vI a0.aS,vB a0.aO]) rfl rfl) ?_
 rintro w1 _ hE1 ⟨b1,rfl,ge1,hb1⟩
 have HS1:=HS.new hE1 ge1 hb1
 refine rs (vI 0) (aC rfl)<|rs (vI 0) (aC rfl) ?_
 try simp only [sc0,sc1]
 refine aB<|aj<|wp_seq<|wp_seq<|region<|rs (Value.agg #[vI a0.aS,vB a0.aO]) (aY (n:=2) (vs:=[vI a0.aS,vB a0.aO]) rfl Tryz.isAgg29 (HS1.look 0 rfl) Tryz.sizeOf29 rfl rfl) ?_
 obtain ⟨v1,H1,H⟩:=bJ H
 refine run_eq (v:=vI v1) rfl rfl (bC Tryz.call56 rfl rfl (kL.calls a0 HS1.sees H1)) ?_
 intro w2 hE2
 have HS2:=HS1.step hE2
 refine rs (vI v1) (aC rfl) ?_
 try simp only [sc0,sc1]
 refine aB<|aj<|wp_seq<|region<|rs (vI v1) (aK rfl)<|rs (vB (v1 !=0)) (bK rfl rfl rfl) ?_
 try simp only [sc0,sc1]
 refine aB<|aj<|wp_cond_split (t:=(v1 !=0)) rfl (fun c1=>?_) (fun c1=>?_)
 ·replace H:=bU H c1
  refine wp_seq<|region<|rs (vI v1) (aK rfl)<|rs (vI 0) (aC rfl)<|rs (vI v1) (aC rfl) ?_
  try simp only [sc0,sc1]
  refine aB<|aj<|wp_ret<|aX ?_
  obtain rfl:=Option.some.inj H
  exact bodyPost_ret (fO rfl (aV rfl) (aV rfl)) rfl<|⟨rfl,HS2.toE⟩
 ·replace H:=bZ H (nt c1)
  refine wp_skip<|aj<|wp_seq<|wp_seq<|region<|rs (vL lu a1.length lC) (aK rfl)<|rs (vI (a1.length:Int)) (iT rfl Tryz.runUnderlying42)<|rs (vP b1 0) (aH (n:=1) (o':=0) rfl Tryz.runUnderlying29 rfl Tryz.sizeOf3 (by decide) rfl)<|rs (vI a0.aS) (aN rfl Tryz.isAgg3 (HS2.look 0 rfl) rfl)<|aI (by simp only [sc0,sc1];rfl) ?_
  refine rs (vB ((a1.length:Int) !=a0.aS)) (bK rfl rfl rfl) ?_
  try simp only [sc0,sc1]
  refine aB<|aj<|wp_cond_split (t:=((a1.length:Int) !=a0.aS)) rfl (fun c2=>?_) (fun c2=>?_)
  ·replace H:=bU H c2
   refine wp_seq<|region<|rs (vI 0) (aC rfl)<|rs (vI 1) (aC rfl) ?_
   try simp only [sc0,sc1]
   refine aB<|aj<|wp_ret<|aX ?_
   obtain rfl:=Option.some.inj H
   exact bodyPost_ret (fO rfl (aV rfl) (aV rfl)) rfl<|⟨rfl,HS2.toE⟩
  ·replace H:=bZ H (nt c2)
   refine wp_skip<|aj<|wp_seq<|region<|rs (Value.int .u64 0) (aC rfl) ?_
   try simp only [sc0,sc1]
   refine aB<|aj<|wp_seq<|wp_seq<|region<|rs (vL lu a1.length lC) (aK rfl)<|rs (vI (a1.length:Int)) (iT rfl Tryz.runUnderlying42)<|rs (vI 0) (aK rfl) ?_
   try simp only [sc0,sc1]
   refine aB<|aj ?_
   obtain ⟨xx1,H,G1⟩:=bJ H
   refine iW [7,8,9,22,23,24,25,26,27,28,29,30,31,32,33,34] (fun m us w'=>∃aG bH:Int,Fit us (fun uy1=>[Value.int .u64 aG,(uy1 1),(uy1 2),vI bH,(uy1 4),(uy1 5),(uy1 6),(uy1 7),(uy1 8),(uy1 9),(uy1 10),(uy1 11),(uy1 12),(uy1 13),(uy1 14),(uy1 15)])∧fU.l0 a1 m aG bH=some xx1∧St [] h0 w0 h0 [(some b1, .cells #[vI a0.aS,vB a0.aO] 29 (0,0))] w') (fun us w'=>Fit us (fun uo1=>[Value.int .u64 xx1,(uo1 1),(uo1 2),(uo1 3),(uo1 4),(uo1 5),(uo1 6),(uo1 7),(uo1 8),(uo1 9),(uo1 10),(uo1 11),(uo1 12),(uo1 13),(uo1 14),(uo1 15)])∧St [] h0 w0 h0 [(some b1, .cells #[vI a0.aS,vB a0.aO] 29 (0,0))] w') k ⟨0,0,(fit rfl),H,HS2⟩ ?_ ?_
   ·rintro m us w3 ⟨aG,bH,lZ,H,HS3⟩
    obtain ⟨uy1,rfl⟩:=unj lZ
    cases m with
    |zero=>exact absurd H (by simp [fU.l0])
    |succ m=>
     rw [fU.l0] at H
     try simp only [patch,sc0,sc1]
     refine wp_seq<|region<|rs (vB (decide (bH<(a1.length:Int)))) (bK rfl rfl rfl) ?_
     try simp only [sc0,sc1]
     refine aB<|aj<|wp_seq<|wp_cond_split (t:=(decide (bH<(a1.length:Int)))) rfl (fun c3=>?_) (fun c3=>?_)
     ·replace H:=bU H c3
      refine wp_skip<|aj<|wp_seq<|wp_block<|wp_seq<|region<|rs (vI bH) (aK rfl) ?_
      obtain ⟨hi1,H⟩:=fE H
      obtain ⟨ad1,e1,kX⟩:=oU qx hi1.1 hi1.2
      refine rs (Value.pointer (some (Addr.add ad1 (bH.toNat*1)))) (dQ (sz:=1) rfl e1 rfl hi1.1 hi1.2 Tryz.runUnderlying42 Tryz.sizeOf5)<|rs (Value.int .u8 (rd 0 a1 bH)) (jF rfl Tryz.isAgg5 (kX.cell0 HS3.sees rfl))<|rs (vI bH) (aC rfl)<|aI (by simp only [sc0,sc1];rfl) ?_
      refine rs (Value.int .u8 (rd 0 a1 bH)) (aC rfl) ?_
      try simp only [sc0,sc1]
      refine aB<|aj<|region<|rs (Value.int .u64 aG) (aK rfl)<|rs (Value.int .u8 (rd 0 a1 bH)) (aK rfl)<|rs (Value.int .u64 (IntKind.wrap .u64 (rd 0 a1 bH))) (jH rfl Tryz.runUnderlying5 Tryz.runUnderlying71)<|rs (vI bH) (aK rfl)<|aI (by simp only [sc0,sc1];rfl) ?_
      refine rs (vI (w64 (8*bH))) (bK rfl rfl rfl) ?_
      obtain ⟨hb2,H⟩:=fE H
      refine rs (Value.int .u64 (OX .u64 (IntKind.wrap .u64 (rd 0 a1 bH)) (w64 (8*bH)))) (Xn rfl rfl hb2)<|rs (Value.int .u64 (iOr .u64 aG (OX .u64 (IntKind.wrap .u64 (rd 0 a1 bH)) (w64 (8*bH))))) (Y6 rfl rfl)<|rs (Value.int .u64 (iOr .u64 aG (OX .u64 (IntKind.wrap .u64 (rd 0 a1 bH)) (w64 (8*bH))))) (aC rfl) ?_
      try simp only [sc0,sc1]
      refine aB<|dB<|aj<|region<|rs (vI (w64 (bH+1))) (bK rfl rfl rfl)<|rs (vI (w64 (bH+1))) (aK rfl) ?_
      try simp only [sc0,sc1]
      refine aB<|gX m (Nat.lt_succ_self m) rfl ⟨(iOr .u64 aG (OX .u64 (IntKind.wrap .u64 (rd 0 a1 bH)) (w64 (8*bH)))),(w64 (bH+1)),(fit rfl),H,HS3⟩
     ·replace H:=bZ H (nt c3)
      refine wp_exit<|fF ?_
      obtain rfl:=Option.some.inj H
      refine iw rfl ⟨(fit rfl),HS3⟩
   ·rintro us w4 ⟨l7,HS4⟩
    obtain ⟨uo1,rfl⟩:=unj l7
    replace H:=G1
    clear G1
    try simp only [patch,sc0,sc1]
    refine aj<|wp_seq<|region<|rs (Value.agg #[vI a0.aS,vB a0.aO]) (aY (n:=2) (vs:=[vI a0.aS,vB a0.aO]) rfl Tryz.isAgg29 (HS4.look 0 rfl) Tryz.sizeOf29 rfl rfl)<|rs (Value.int .u64 xx1) (aK rfl)<|rs (vI (w64 xx1)) (jH rfl Tryz.runUnderlying71 Tryz.runUnderlying2) ?_
    obtain ⟨v2,H2,H⟩:=bJ H
    refine run_eq (v:=vI v2) rfl rfl (bC Tryz.call57 rfl rfl (qA.calls a0 (w64 xx1) HS4.sees H2)) ?_
    intro w5 hE3
    have HS5:=HS4.step hE3
    refine aI (by simp only [sc0,sc1];rfl) ?_
    refine rs (vI v2) (aC rfl)<|rs (vI 0) (aC rfl) ?_
    try simp only [sc0,sc1]
    refine aB<|aj<|wp_ret ?_
    obtain rfl:=Option.some.inj H
    exact bodyPost_ret (fO rfl (aV rfl) (aV rfl)) rfl<|⟨rfl,HS5.toE⟩
def mM.f (k:Nat) (a0:dX) (a1:Int) (a2:eP):Option (Int×Bool×Int):=(iQ.f k a0 a1 a2.aS).bind fun v1=>(if (!v1.2)=true then (some (0,false,0)) else ((fU.f k a2 v1.1).bind fun v2=>(some (v2.1,(v2.2==0),v2.2))))
theorem mM.calls (k:Nat) (a0:dX) (a1:Int) (a2:eP) (bQ:Option Addr) (bT:Nat) {h0:View} {w0:World} (hv:jf h0 w0) (fB:Rd gJ h0 bQ a0.aQ) (gI:a0.aQ.length≤bT) {r:Int×Bool×Int} (H:mM.f k a0 a1 a2=some r):Calls Tryz.prog 37 #[Value.agg #[vL bQ a0.aQ.length bT],vI a1,Value.agg #[vI a2.aS,vB a2.aO]] w0 (fun e w1=>e= .returned (Value.tuple #[vI r.1,vB r.2.1,vI r.2.2])∧Ext w0 w1):=by
 unfold mM.f at H
 have HS:St [] h0 w0 h0 [] w0:=St.init hv
 go_enter Tryz.func37,Tryz.ntmps37
 refine wp_seq<|region<|dK rfl rfl (dH (cs:=#[vL bQ a0.aQ.length bT]) rfl rfl) ?_
 rintro w1 _ hE1 ⟨b1,rfl,ge1,hb1⟩
 have HS1:=HS.new hE1 ge1 hb1
 refine dK rfl rfl (dH (cs:=#[vI a2.aS,vB a2.aO]) rfl rfl) ?_
 rintro w2 _ hE2 ⟨b2,rfl,ge2,hb2⟩
 have HS2:=HS1.new hE2 ge2 hb2
 refine rs (vI 0) (aC rfl)<|rs (vB false) (aC rfl)<|aI (by simp only [sc0,sc1];rfl) ?_
 refine rs (vI 0) (aC rfl) ?_
 try simp only [sc0,sc1]
 refine aB<|aj<|wp_seq<|region<|rs (Value.agg #[vL bQ a0.aQ.length bT]) (aY (n:=1) (vs:=[vL bQ a0.aQ.length bT]) rfl Tryz.isAgg27 (HS2.look 1 rfl) Tryz.sizeOf27 rfl rfl)<|rs (vI a1) (aK rfl)<|rs (vP b2 0) (aH (n:=1) (o':=0) rfl Tryz.runUnderlying29 rfl Tryz.sizeOf3 (by decide) rfl)<|rs (vI a2.aS) (aN rfl Tryz.isAgg3 (HS2.look 0 rfl) rfl)<|aI (by simp only [sc0,sc1];rfl) ?_
 obtain ⟨v1,H1,H⟩:=bJ H
 refine dK rfl rfl (lT Tryz.call59 rfl (qB (h:=h0) (R:=(fun hx u=>∃(iO:Option Addr) (iU:Nat),u=Value.tuple #[vL iO v1.1.length iU,vB v1.2]∧v1.1.length≤iU∧Rd (Kd.int .u8) hx iO v1.1)) (Ext.rfl' w2) ((iQ.calls k a0 a1 a2.aS bQ bT HS2.sees fB gI H1).mono ?_)) rfl) ?_
 ·rintro _ _ ⟨h1,iO,iU,rfl,nN,jL,g,ss,x⟩
  exact ⟨h1,_,rfl,⟨iO,iU,rfl,nN,jL⟩,g,ss,x⟩
 rintro w3 _ hE3 ⟨h1,⟨iO,iU,rfl,nN,jL⟩,gr1,se1⟩
 have HS3:=HS2.view hE3 gr1 se1
 refine rs (Value.tuple #[vL iO v1.1.length iU,vB v1.2]) (aK rfl)<|rs (vL iO v1.1.length iU) (eU rfl rfl)<|rs (vB v1.2) (eU rfl rfl)<|aI (by simp only [sc0,sc1];rfl) ?_
 refine rs (vL iO v1.1.length iU) (aC rfl)<|rs (vB v1.2) (aC rfl) ?_
 try simp only [sc0,sc1]
 refine aB<|aj<|wp_seq<|wp_seq<|region<|rs (vB v1.2) (aK rfl)<|rs (vB (!v1.2)) (kN rfl) ?_
 try simp only [sc0,sc1]
 refine aB<|aj<|wp_cond_split (t:=(!v1.2)) rfl (fun c1=>?_) (fun c1=>?_)
 ·replace H:=bU H c1
  refine wp_seq<|region<|rs (vI 0) (aC rfl)<|rs (vB false) (aC rfl)<|rs (vI 0) (aC rfl) ?_
  try simp only [sc0,sc1]
  refine aB<|aj<|wp_ret<|aX ?_
  obtain rfl:=Option.some.inj H
  exact bodyPost_ret (kH rfl (aV rfl) (aV rfl) (aV rfl)) rfl<|⟨rfl,HS3.toE⟩
 ·replace H:=bZ H (nt c1)
  refine wp_skip<|aj<|wp_seq<|region<|rs (Value.agg #[vI a2.aS,vB a2.aO]) (aY (n:=2) (vs:=[vI a2.aS,vB a2.aO]) rfl Tryz.isAgg29 (HS3.look 0 rfl) Tryz.sizeOf29 rfl rfl)<|rs (vL iO v1.1.length iU) (aK rfl) ?_
  obtain ⟨v2,H2,H⟩:=bJ H
  refine run_eq (v:=Value.tuple #[vI v2.1,vI v2.2]) rfl rfl (bC Tryz.call76 rfl rfl (fU.calls k a2 v1.1 iO iU HS3.sees jL nN H2)) ?_
  intro w4 hE4
  have HS4:=HS3.step hE4
  refine rs (Value.tuple #[vI v2.1,vI v2.2]) (aK rfl)<|aI (by simp only [sc0,sc1];rfl) ?_
  refine rs (vI v2.1) (eU rfl rfl)<|rs (vI v2.2) (eU rfl rfl)<|rs (vI v2.1) (aC rfl)<|rs (vI v2.2) (aC rfl) ?_
  try simp only [sc0,sc1]
  refine aB<|aj<|wp_seq<|region<|rs (vI v2.1) (aK rfl)<|rs (vI v2.2) (aK rfl)<|rs (vB (v2.2==0)) (bK rfl rfl rfl)<|rs (vI v2.2) (aK rfl)<|aI (by simp only [sc0,sc1];rfl) ?_
  refine rs (vI v2.1) (aC rfl)<|rs (vB (v2.2==0)) (aC rfl)<|rs (vI v2.2) (aC rfl) ?_
  try simp only [sc0,sc1]
  refine aB<|aj<|wp_ret ?_
  obtain rfl:=Option.some.inj H
  exact bodyPost_ret (kH rfl (aV rfl) (aV rfl) (aV rfl)) rfl<|⟨rfl,HS4.toE⟩
def jq.f (a0:eP):Option (Int):=if ((((a0.aS !=1)&&(a0.aS !=2))&&(a0.aS !=4))&&(a0.aS !=8))=true then (some 10) else (some 0)
theorem jq.calls (a0:eP) {h0:View} {w0:World} (hv:jf h0 w0) {r:Int} (H:jq.f a0=some r):Calls Tryz.prog 64 #[Value.agg #[vI a0.aS,vB a0.aO]] w0 (fun e w1=>e= .returned (vI r)∧Ext w0 w1):=by
 unfold jq.f at H
 have HS:St [] h0 w0 h0 [] w0:=St.init hv
 go_enter Tryz.func64,Tryz.ntmps64
 refine wp_seq<|region<|dK rfl rfl (dH (cs:=#[vI a0.aS,vB a0.aO]) rfl rfl) ?_
 rintro w1 _ hE1 ⟨b1,rfl,ge1,hb1⟩
 have HS1:=HS.new hE1 ge1 hb1
 refine rs (vI 0) (aC rfl) ?_
 try simp only [sc0,sc1]
 refine aB<|aj<|wp_seq<|wp_seq<|region<|rs (vP b1 0) (aH (n:=1) (o':=0) rfl Tryz.runUnderlying29 rfl Tryz.sizeOf3 (by decide) rfl)<|rs (vI a0.aS) (aN rfl Tryz.isAgg3 (HS1.look 0 rfl) rfl)<|rs (vB (a0.aS !=1)) (bK rfl rfl rfl)<|rs (vB (a0.aS !=1)) (aK rfl)<|aI (by simp only [sc0,sc1];rfl) ?_
 refine rgs (a0.aS !=1) true (vP b1 0) rfl rfl rfl rfl (fun hg=>(aH (n:=1) (o':=0) rfl Tryz.runUnderlying29 rfl Tryz.sizeOf3 (by decide) rfl))<|rgs (a0.aS !=1) true (vI a0.aS) rfl rfl rfl rfl (fun hg=>(aN (gvt (vP b1 0) hg rfl) Tryz.isAgg3 (HS1.look 0 rfl) rfl))<|rgs (a0.aS !=1) true (vB (a0.aS !=2)) rfl rfl rfl rfl (fun hg=>(bK (gvt (vI a0.aS) hg rfl) rfl rfl))<|rs (vB ((a0.aS !=1)&&(a0.aS !=2))) (dw rfl (fun hp=>(gvt (vB (a0.aS !=2)) (gu rfl hp) rfl)) rfl)<|aI (by simp only [sc0,sc1];rfl) ?_
 refine rs (vB ((a0.aS !=1)&&(a0.aS !=2))) (aK rfl)<|rgs ((a0.aS !=1)&&(a0.aS !=2)) true (vP b1 0) rfl rfl rfl rfl (fun hg=>(aH (n:=1) (o':=0) rfl Tryz.runUnderlying29 rfl Tryz.sizeOf3 (by decide) rfl))<|rgs ((a0.aS !=1)&&(a0.aS !=2)) true (vI a0.aS) rfl rfl rfl rfl (fun hg=>(aN (gvt (vP b1 0) hg rfl) Tryz.isAgg3 (HS1.look 0 rfl) rfl))<|rgs ((a0.aS !=1)&&(a0.aS !=2)) true (vB (a0.aS !=4)) rfl rfl rfl rfl (fun hg=>(bK (gvt (vI a0.aS) hg rfl) rfl rfl))<|aI (by simp only [sc0,sc1];rfl) ?_
 refine rs (vB (((a0.aS !=1)&&(a0.aS !=2))&&(a0.aS !=4))) (dw rfl (fun hp=>(gvt (vB (a0.aS !=4)) (gu rfl hp) rfl)) rfl)<|rs (vB (((a0.aS !=1)&&(a0.aS !=2))&&(a0.aS !=4))) (aK rfl)<|rgs (((a0.aS !=1)&&(a0.aS !=2))&&(a0.aS !=4)) true (vP b1 0) rfl rfl rfl rfl (fun hg=>(aH (n:=1) (o':=0) rfl Tryz.runUnderlying29 rfl Tryz.sizeOf3 (by decide) rfl))<|rgs (((a0.aS !=1)&&(a0.aS !=2))&&(a0.aS !=4)) true (vI a0.aS) rfl rfl rfl rfl (fun hg=>(aN (gvt (vP b1 0) hg rfl) Tryz.isAgg3 (HS1.look 0 rfl) rfl))<|aI (by simp only [sc0,sc1];rfl) ?_
 refine rgs (((a0.aS !=1)&&(a0.aS !=2))&&(a0.aS !=4)) true (vB (a0.aS !=8)) rfl rfl rfl rfl (fun hg=>(bK (gvt (vI a0.aS) hg rfl) rfl rfl))<|rs (vB ((((a0.aS !=1)&&(a0.aS !=2))&&(a0.aS !=4))&&(a0.aS !=8))) (dw rfl (fun hp=>(gvt (vB (a0.aS !=8)) (gu rfl hp) rfl)) rfl) ?_
 try simp only [sc0,sc1]
 refine aB<|aj<|wp_cond_split (t:=((((a0.aS !=1)&&(a0.aS !=2))&&(a0.aS !=4))&&(a0.aS !=8))) rfl (fun c1=>?_) (fun c1=>?_)
 ·replace H:=bU H c1
  refine wp_seq<|region<|rs (vI 10) (aC rfl) ?_
  try simp only [sc0,sc1]
  refine aB<|aj<|wp_ret<|aX ?_
  obtain rfl:=Option.some.inj H
  exact bodyPost_ret (aW rfl (aV rfl)) rfl<|⟨rfl,HS1.toE⟩
 ·replace H:=bZ H (nt c1)
  refine wp_skip<|aj<|wp_seq<|region<|rs (vI 0) (aC rfl) ?_
  try simp only [sc0,sc1]
  refine aB<|aj<|wp_ret ?_
  obtain rfl:=Option.some.inj H
  exact bodyPost_ret (aW rfl (aV rfl)) rfl<|⟨rfl,HS1.toE⟩
end Go.Proofs.YtecpbadkdpbkpaaGreatDoor
