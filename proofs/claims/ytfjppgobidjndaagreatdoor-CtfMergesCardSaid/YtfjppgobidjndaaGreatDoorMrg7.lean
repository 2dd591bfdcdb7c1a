/- Parts of a proof, merged by program: Q10 Q11 Q12 N4 Z1 Z2 Z3. The walks (each function once) and the plain laws; no condition of their own. -/
import Derived.Test.YtfjppgobidjndaaGreatDoorMrg6
set_option linter.unusedVariables false
set_option linter.unusedSimpArgs false
set_option maxRecDepth 20000
set_option maxHeartbeats 4000000
namespace Go.Proofs.YtfjppgobidjndaaGreatDoor
open Go.RowKit Go.M
def uN (d:aZ) (known:List Int):Int:=if d.aA=4∧(d.ak.any fun f=>rd 0 known f.vType==0)=true then 0 else nval d (inner known d)
theorem Lp {d:aZ} {known:List Int} (hl:d.ak.length≤9223372036854775807) (ht:∀f∈d.ak,0≤f.vType∧f.vType<known.length):∀(e j m:Nat),j+e=d.ak.length→e<m→
    gW.l0 d known m (j:Int)=some (if ((d.ak.drop j).any fun f=>rd 0 known f.vType==0)=true then .inl 0 else .inr ()):=by
  intro e
  induction e with
  | zero =>
    intro j m hj hm
    obtain ⟨m,rfl⟩:∃q,m=q+1:=⟨m-1,by omega⟩
    rw [gW.l0,if_neg (by simp;omega),List.drop_eq_nil_of_le (by omega)]
    rfl
  | succ e ih =>
    intro j m hj hm
    obtain ⟨m,rfl⟩:∃q,m=q+1:=⟨m-1,by omega⟩
    have hlt:j<d.ak.length:=by omega
    have hf:=ht _ (getD_mem (z:=aj) hlt)
    rw [gW.l0,if_pos (by simp;omega),if_pos (by omega),ig,if_pos hf,jV aj hlt,List.any_cons]
    by_cases hc:(rd 0 known (d.ak.getD j aj).vType==0)=true
    · rw [if_pos hc,hc];rfl
    · rw [if_neg hc,fF hlt hl,ih (j+1) m (by omega) (by omega)]
      rw [Bool.not_eq_true] at hc
      rw [hc,Bool.false_or]
theorem QT {d : aZ} {known : List Int} {n : Nat} (hd : ShD d n) (hn : known.length = n) : Ev (fun k => gW.f k d known) (uN d known) := by
  have hfew:=hd.few
  have hkind:=hd.kind
  refine ⟨d.ak.length+1,fun k hk=>?_⟩
  show gW.f k d known=_
  unfold gW.f uN nval
  simp only [beq_iff_eq]
  by_cases e1:d.aA=1
  · rw [if_pos e1,if_neg (by omega),if_pos e1]
  · rw [if_neg e1]
    by_cases e2:d.aA=2
    · rw [if_pos e2,if_neg (by omega),if_neg e1,if_pos e2]
    · rw [if_neg e2]
      by_cases e3:d.aA=3
      · have hr:=hd.ref (by omega)
        rw [if_pos e3,if_pos (by omega),if_neg (by omega),if_neg e1,if_neg e2,if_pos e3,(lH (.inl e3)).1]
      · rw [if_neg e3]
        by_cases e5:d.aA=5
        · rw [if_pos e5,if_neg (by omega),if_neg e1,if_neg e2,if_neg e3,if_neg (by omega),if_pos e5]
        · rw [if_neg e5]
          by_cases e6:d.aA=6
          · have hr:=hd.ref (by omega)
            rw [if_pos e6,if_pos (by omega),if_neg (by omega),if_neg e1,if_neg e2,if_neg e3,if_neg (by omega),if_neg e5,if_pos e6,(lH (.inr e6)).1]
          · have e4:d.aA=4:=by omega
            have ht:=hd.typ e4
            rw [if_neg e6,show gW.l0 d known k 0=_ from Lp (by omega) (fun f hf=>by have:=ht f hf;omega) d.ak.length 0 k (by omega) (by omega),List.drop_zero]
            rw [if_neg e1,if_neg e2,if_neg e3,if_pos e4]
            cases hany:d.ak.any fun f=>rd 0 known f.vType==0 with
            |true=>simp [e4]
            |false=>simp [e4]
structure Inv (defs:List aZ) (known:List Int):Prop where
 len:known.length=defs.length
 rng:∀j,j<defs.length→0≤known.getD j 0∧known.getD j 0≤513
 ex:∃(rk:Nat→Nat) (B:Nat),∀j,j<defs.length→known.getD j 0≠0→rk j<B∧(∀c∈cont (defs.getD j ah),known.getD c.toNat 0≠0∧rk c.toNat<rk j)∧known.getD j 0=D7 (nval (defs.getD j ah) (inner known (defs.getD j ah))) 513
theorem OV {d : aZ} {known : List Int} {n : Nat} (hd : ShD d n) (h : 0 < uN d known) : 0 < nval d (inner known d) ∧ uN d known = nval d (inner known d) ∧ ∀ c ∈ cont d, known.getD c.toNat 0 ≠ 0 := by
  unfold uN at h⊢
  split at h
  · omega
  · next hc=>
    rw [if_neg hc]
    refine ⟨h,X,fun c hcm=>?_⟩
    rcases Af hcm with e|e|e
    · obtain ⟨h1,h2⟩:=lH (known:=known) (.inl e)
      rw [h2] at hcm
      rw [List.mem_singleton.1 hcm]
      intro h0
      unfold nval at h
      rw [h1,show rd 0 known d.bY=0 from h0,Int.mul_zero,if_neg (by omega),if_neg (by omega),if_pos e] at h
      exact absurd h (by decide)
    · have hcd:cont d=d.ak.map (·.vType):=by
        unfold cont
        rw [if_neg (by simp [e]),if_pos (by simp [e])]
      rw [hcd] at hcm
      obtain ⟨f,hf,rfl⟩:=List.mem_map.1 hcm
      intro h0
      exact hc ⟨e,List.any_eq_true.2 ⟨f,hf,by rw [beq_iff_eq];exact h0⟩⟩
    · obtain ⟨h1,h2⟩:=lH (known:=known) (.inr e)
      rw [h2] at hcm
      rw [List.mem_singleton.1 hcm]
      intro h0
      unfold nval at h
      rw [h1,show rd 0 known d.bY=0 from h0,if_neg (by omega),if_neg (by omega),if_neg (by omega),if_neg (by omega),if_neg (by omega),if_pos e] at h
      omega
def zer (l:List Int):Nat:=(l.filter fun x=>x==0).length
theorem OW:∀(a:List Int) (i:Nat) (v:Int),i<a.length→a.getD i 0=0→v≠0→zer (a.set i v)+1=zer a
  |[],i,v,h,_,_=>by simp at h
  | x :: a, 0, v, h, hi, hv => by
    simp only [List.getD_cons_zero] at hi
    subst hi
    simp [zer,hv]
  | x :: a, i + 1, v, h, hi, hv => by
    have:=OW a i v (by simpa using h) (by simpa using hi) hv
    unfold zer at*
    rw [List.set_cons_succ,List.filter_cons,List.filter_cons]
    by_cases hx:(x==0)=true
    · rw [if_pos hx,if_pos hx,List.length_cons,List.length_cons];omega
    · rw [if_neg hx,if_neg hx];exact this
theorem Uf {defs : List aZ} {known : List Int} (hS : ∀ d ∈ defs, ShD d defs.length) (I : Inv defs known) {i : Nat} (hi : i < defs.length) (h0 : known.getD i 0 = 0) (hp : 0 < uN (defs.getD i ah) known) :
    Inv defs (known.set i (D7 (uN (defs.getD i ah) known) 513))∧D7 (uN (defs.getD i ah) known) 513≠0:=by
  obtain ⟨hp1,hp2,hp3⟩:=OV (hS _ (getD_mem hi)) hp
  obtain ⟨rk,B,hB⟩:=I.ex
  have hv:0<D7 (uN (defs.getD i ah) known) 513∧D7 (uN (defs.getD i ah) known) 513≤513:=by
    unfold D7
    split<;>omega
  generalize hV:D7 (uN (defs.getD i ah) known) 513=V at*
  have hset:∀j,(known.set i V).getD j 0=if i=j then V else known.getD j 0:=fun j=>qR (by rw [I.len];exact hi)
  have hne:∀c:Int,known.getD c.toNat 0≠0→¬i=c.toNat:=fun c hc e=>by rw [←e] at hc;exact hc h0
  refine ⟨⟨by simp [I.len],fun j hj=>?_,fun j=>if i=j then B else rk j,B+1,fun j hj hj0=>?_⟩,by omega⟩
  · rw [hset]
    split
    · omega
    · exact I.rng j hj
  · show (if i=j then B else rk j)<B+1∧(∀c:Int,c∈cont (defs.getD j ah)→_∧(if i=c.toNat then B else rk c.toNat)<(if i=j then B else rk j))∧_
    by_cases hij:i=j
    · subst hij
      rw [if_pos rfl]
      refine ⟨by omega,fun c hc=>?_,?_⟩
      · have h5:=hp3 c hc
        have h6:=sD (hS _ (getD_mem (z:=ah) hi)) c hc
        rw [hset,if_neg (hne c h5),if_neg (hne c h5)]
        exact ⟨h5,(hB c.toNat (by omega) h5).1⟩
      · rw [hp2] at hV
        refine (hset i).trans ?_
        rw [if_pos rfl]
        refine hV.symm.trans ?_
        congr 2
        exact zu (fun c hc=>by rw [hset,if_neg (hne c (hp3 c hc))])
    · rw [hset,if_neg hij] at hj0
      obtain ⟨h5,h7,h8⟩:=hB j hj hj0
      rw [if_neg hij,hset,if_neg hij]
      refine ⟨by omega,fun c hc=>?_,?_⟩
      · obtain ⟨h9,h10⟩:=h7 c hc
        rw [hset,if_neg (hne c h9),if_neg (hne c h9)]
        exact ⟨h9,h10⟩
      · rw [h8]
        congr 2
        exact zu (fun c hc=>by rw [hset,if_neg (hne c (h7 c hc).1)])
theorem OX {t : aQ} (hS : ∀ d ∈ t.au, ShD d t.au.length) (hn : t.au.length ≤ 9223372036854775807) : ∀ (e j : Nat) (more : Bool) (known : List Int), j + e = t.au.length → Inv t.au known →
    ∃ more' known', Ev2 (fun k m => bV.l1 k t m more (j : Int) known) (more', known') ∧ Inv t.au known' ∧ (more' = false → more = false ∧ known' = known ∧ ∀ q, j ≤ q → q < t.au.length → known.getD q 0 = 0 → uN (t.au.getD q ah) known ≤ 0) ∧
      zer known'≤zer known∧(more'=true→more=true∨zer known'<zer known):=by
  intro e
  induction e with
  | zero =>
    intro j more known hj I
    refine ⟨more,known,Ev2.pure (fun k m=>?_),I,fun h=>⟨h,X,fun q _ _=>by omega⟩,Nat.le_refl _,fun h=> .inl h⟩
    rw [bV.l1,if_neg (by simp;omega)]
  | succ e ih =>
    intro j more known hj I
    have hlt:j<t.au.length:=by omega
    have hd:=hS _ (getD_mem (z:=ah) hlt)
    by_cases h0:known.getD j 0=0
    · have hs:=QT hd I.len
      by_cases hp:0<uN (t.au.getD j ah) known
      · obtain ⟨I2,hv⟩:=Uf hS I hlt h0 hp
        have hz:=OW known j _ (by rw [I.len];exact hlt) h0 hv
        obtain ⟨more',known',hE,I3,h1,h2,h3⟩:=ih (j+1) true _ (by omega) I2
        refine ⟨more',known',Ev2.step hs (r:=fun k m v1=>if (decide (v1>0))=true then (if 0≤(j:Int)∧(j:Int)<(((t.au.length:Int).toNat:Nat):Int) then (bV.l1 k t m true (IntKind.wrap .i64 ((j:Int)+1)) (List.set known j (D7 v1 513))) else none) else (bV.l1 k t m more (IntKind.wrap .i64 ((j:Int)+1)) known)) ?_ (fun k m=>?_),I3,?_,by omega,fun _=> .inr (by omega)⟩
        · obtain ⟨K,hK⟩:=hE
          refine ⟨K,fun k m hk hm=>?_⟩
          show (if _ then _ else _)=_
          rw [if_pos (decide_eq_true hp),if_pos (by omega),fF hlt hn]
          exact hK k m hk hm
        · rw [bV.l1,if_pos (by simp;omega),if_pos (by omega),ig,if_neg (by rw [h0];decide),if_pos (by omega),ig]
          simp only [Int.toNat_natCast]
        · intro h;have:=(h1 h).1;cases this
      · obtain ⟨more',known',hE,I3,h1,h2,h3⟩:=ih (j+1) more known (by omega) I
        refine ⟨more',known',Ev2.step hs (r:=fun k m v1=>if (decide (v1>0))=true then (if 0≤(j:Int)∧(j:Int)<(((t.au.length:Int).toNat:Nat):Int) then (bV.l1 k t m true (IntKind.wrap .i64 ((j:Int)+1)) (List.set known j (D7 v1 513))) else none) else (bV.l1 k t m more (IntKind.wrap .i64 ((j:Int)+1)) known)) ?_ (fun k m=>?_),I3,?_,h2,h3⟩
        · obtain ⟨K,hK⟩:=hE
          refine ⟨K,fun k m hk hm=>?_⟩
          show (if _ then _ else _)=_
          rw [if_neg (by simpa using hp),fF hlt hn]
          exact hK k m hk hm
        · rw [bV.l1,if_pos (by simp;omega),if_pos (by omega),ig,if_neg (by rw [h0];decide),if_pos (by omega),ig]
          simp only [Int.toNat_natCast]
        · intro h
          obtain ⟨a,b,c⟩:=h1 h
          refine ⟨a,b,fun q hq hq2 hq0=>?_⟩
          by_cases hqj:q=j
          · subst hqj;omega
          · exact c q (by omega) hq2 hq0
    · obtain ⟨more',known',hE,I3,h1,h2,h3⟩:=ih (j+1) more known (by omega) I
      refine ⟨more',known',Ev2.next (r:=fun k m=>bV.l1 k t m more ((j+1:Nat):Int) known) hE (fun k m=>?_),I3,?_,h2,h3⟩
      · rw [bV.l1,if_pos (by simp;omega),if_pos (by omega),ig,if_pos (by simpa using h0),fF hlt hn]
      · intro h
        obtain ⟨a,b,c⟩:=h1 h
        refine ⟨a,b,fun q hq hq2 hq0=>?_⟩
        by_cases hqj:q=j
        · subst hqj;exact absurd hq0 h0
        · exact c q (by omega) hq2 hq0
def Fin (defs:List aZ) (known:List Int):Prop:=∀q,q<defs.length→known.getD q 0=0→uN (defs.getD q ah) known≤0
theorem rounds {t : aQ} (hS : ∀ d ∈ t.au, ShD d t.au.length) (hn : t.au.length ≤ 9223372036854775807) : ∀ (z : Nat) (known : List Int), zer known = z → Inv t.au known →
    ∃known',Ev2 (fun k m=>bV.l0 k t m true known) known'∧Inv t.au known'∧Fin t.au known':=by
  intro z
  induction z using Nat.strongRecOn with
  | _ z ih =>
    intro known hz I
    obtain ⟨more',known',hE,I2,h1,h2,h3⟩:=OX hS hn t.au.length 0 false known (by omega) I
    cases more' with
    | false =>
      obtain ⟨_,rfl,hf⟩:=h1 rfl
      refine ⟨known',Ev2.step hE.diag (r:=fun k m (x:Bool×List Int)=>bV.l0 k t m x.1 x.2) (Ev2.pure fun k m=>?_) (fun k m=>?_),I2,fun q hq h0=>hf q (by omega) hq h0⟩
      · show bV.l0 k t (m+1) false known'=_
        rw [bV.l0,if_neg (by simp)]
      · rw [bV.l0,if_pos rfl]
        rfl
    | true =>
      have hlt:zer known'<z:=by
        rcases h3 rfl with h|h
        · cases h
        · omega
      obtain ⟨k3,hE3,I3,F3⟩:=ih (zer known') hlt known' rfl I2
      refine ⟨k3,Ev2.step hE.diag (r:=fun k m (x:Bool×List Int)=>bV.l0 k t m x.1 x.2) hE3 (fun k m=>?_),I3,F3⟩
      rw [bV.l0,if_pos rfl]
      rfl
theorem OY {t:aQ} (hS:∀d∈t.au,ShD d t.au.length) (hn:t.au.length≤200):∃known,Ev (fun k=>bV.f k t) known∧Inv t.au known∧Fin t.au known:=by
 have hrep:∀(n q:Nat),(List.replicate n (0:Int)).getD q 0=0:=fun n q=>by
  rw [List.getD_eq_getElem?_getD,List.getElem?_replicate]
  split<;>rfl
 obtain ⟨known,hE,I,F⟩:=rounds hS (by omega) _ (List.replicate t.au.length (0:Int)) rfl ⟨by simp,fun j hj=>by rw [hrep];omega,fun _=>0,0,fun j hj h=>absurd (hrep _ _) h⟩
 obtain ⟨K,hK⟩:=hE.diag
 refine ⟨known,⟨K,fun k hk=>?_⟩,I,F⟩
 show bV.f k t=_
 unfold bV.f
 rw [if_pos (by omega)]
 simp only [Int.toNat_natCast]
 rw [show bV.l0 k t k true _=_ from hK k hk]
 rfl
theorem QU {x:Int} (h:D7 x 513≤512):D7 x 513=x:=by
 unfold D7 at*
 split
 ·next h2=>rw [if_pos h2] at h;omega
 ·rfl
theorem Jd {defs : List aZ} {known g : List Int} (hS : ∀ d ∈ defs, ShD d defs.length) (I : Inv defs known) (F : Fin defs known) (G : DJ defs g) : known = g := by
  obtain ⟨rk,hg⟩:=G.ex
  refine FP (by rw [I.len,G.len]) (fun j hj=>?_)
  rw [I.len] at hj
  obtain ⟨rk2,B,hB⟩:=I.ex
  have key:∀(R q:Nat),rk q=R→q<defs.length→known.getD q 0=g.getD q 0:=by
    intro R
    induction R using Nat.strongRecOn with
    | _ R ih =>
      intro q hR hq
      obtain ⟨g1,g2,g3,g4⟩:=hg q hq
      have hd:=hS _ (getD_mem (z:=ah) hq)
      have hch:∀c∈cont (defs.getD q ah),known.getD c.toNat 0=g.getD c.toNat 0:=fun c hc=>by
        have h6:=sD hd c hc
        exact ih _ (by have:=g3 c hc;omega) c.toNat X (by omega)
      have hin:=zu hch
      by_cases h0:known.getD q 0=0
      · exfalso
        have h1:=F q hq h0
        unfold uN at h1
        rw [if_neg,hin,←g4] at h1
        · omega
        · rintro ⟨e4,ha⟩
          obtain ⟨f,hf,hf0⟩:=List.any_eq_true.1 ha
          have hcm:f.vType∈cont (defs.getD q ah):=by
            rw [sF e4]
            exact List.mem_map.2 ⟨f,hf,X⟩
          have h2:=hch _ hcm
          have h6:=sD hd _ hcm
          have h3:=(hg f.vType.toNat (by omega)).1
          rw [beq_iff_eq] at hf0
          rw [show known.getD f.vType.toNat 0=0 from hf0] at h2
          omega
      · obtain ⟨_,_,h3⟩:=hB q hq h0
        rw [hin,←g4] at h3
        rw [h3]
        unfold D7
        rw [if_neg (by omega)]
  exact key (rk j) j X hj
theorem Je {defs:List aZ} {known:List Int} (I:Inv defs known) (h:∀j,j<defs.length→known.getD j 0≠0∧known.getD j 0≤512):DJ defs known:=by
 obtain ⟨rk,B,hB⟩:=I.ex
 refine ⟨I.len,rk,fun j hj=>?_⟩
 obtain ⟨h1,h2⟩:=h j hj
 have h3:=I.rng j hj
 obtain ⟨_,h4,h5⟩:=hB j hj h1
 refine ⟨by omega,h2,fun c hc=>(h4 c hc).2,?_⟩
 rw [h5] at h2⊢
 exact QU h2
theorem Lr {t : aQ} (hS : ∀ d ∈ t.au, ShD d t.au.length) (hn : t.au.length ≤ 9223372036854775000) : ∀ (e j m : Nat) (i : Int), 0 ≤ i → i < t.au.length → j + e = t.au.length → e + 1 < m →
    ((fJ.l0 t m i (j:Int)).bind fun xx1=>(match xx1 with| .inl r=>some r| .inr s1=>some false))=some (!pW t.au e (rd ah t.au i)):=by
  intro e
  induction e with
  | zero =>
    intro j m i h0 h1 hj hm
    obtain ⟨m,rfl⟩:∃q,m=q+1:=⟨m-1,by omega⟩
    obtain ⟨m,rfl⟩:∃q,m=q+1:=⟨m-1,by omega⟩
    rw [fJ.l0,if_pos (by simp;omega),if_pos ⟨h0,h1⟩]
    simp only [dZ.f,Option.bind_some,pW]
    show (Option.bind (if gy _=true then _ else _) _)=_
    by_cases hnm:gy (rd ah t.au i)=true
    · rw [if_pos hnm,hnm];rfl
    · rw [if_neg hnm,if_pos ⟨h0,h1⟩,yE (by omega) (by omega),fJ.l0,if_neg (by simp;omega)]
      rw [Bool.not_eq_true] at hnm
      rw [hnm];rfl
  | succ e ih =>
    intro j m i h0 h1 hj hm
    obtain ⟨m,rfl⟩:∃q,m=q+1:=⟨m-1,by omega⟩
    rw [fJ.l0,if_pos (by simp;omega),if_pos ⟨h0,h1⟩]
    simp only [dZ.f,Option.bind_some,pW]
    show (Option.bind (if gy _=true then _ else _) _)=_
    by_cases hnm:gy (rd ah t.au i)=true
    · rw [if_pos hnm,if_pos hnm];rfl
    · rw [if_neg hnm,if_neg hnm,if_pos ⟨h0,h1⟩]
      have hk:(rd ah t.au i).aA=2∨(rd ah t.au i).aA=3:=by
        unfold gy at hnm
        by_cases h2:(rd ah t.au i).aA=2
        · exact .inl h2
        · by_cases h3:(rd ah t.au i).aA=3
          · exact .inr h3
          · exact absurd (by simp [h2,h3]) hnm
      have hr:=(hS _ (RJ (z:=ah) h0 h1)).ref (by omega)
      rw [fF (show j<t.au.length by omega) (by omega)]
      exact ih (j+1) m _ hr.1 hr.2 (by omega) (by omega)
theorem QV {t:aQ} (hS:∀d∈t.au,ShD d t.au.length) (hn:t.au.length≤200) {i:Nat} (hi:i<t.au.length):Ev (fun k=>fJ.f k t (i:Int)) (!pW t.au t.au.length (t.au.getD i ah)):=
 ⟨t.au.length + 2, fun k hk => by
  show fJ.f k t _=_
  unfold fJ.f
  have:=Lr hS (by omega) t.au.length 0 k (i:Int) (by omega) (by omega) (by omega) (by omega)
  rw [ig] at this
  exact this⟩
def uO (l:List Int) (N:Int):Int→List bf→Option Int
 |at_,[]=>some at_
 |at_,f::r=>if ((decide (f.vAt<at_))||(decide (f.vAt>N)))=true then none else uO l N (IntKind.wrap .i64 (f.vAt+rd 0 l f.vType)) r
def yQ (d:aZ) (l:List Int):Bool:=match uO l d.vN 0 d.ak with|none=>false|some e=>decide (e≤d.vN)
theorem Hr {d:aZ} {l:List Int} (hl:d.ak.length≤9223372036854775807) (ht:∀f∈d.ak,0≤f.vType∧f.vType<l.length):∀(e j m:Nat) (at_:Int),j+e=d.ak.length→e<m→
    fD.l0 d l m at_ (j:Int)=some (match uO l d.vN at_ (d.ak.drop j) with|none=> .inl false|some a=> .inr a):=by
  intro e
  induction e with
  | zero =>
    intro j m at_ hj hm
    obtain ⟨m,rfl⟩:∃q,m=q+1:=⟨m-1,by omega⟩
    rw [fD.l0,if_neg (by simp;omega),List.drop_eq_nil_of_le (by omega)]
    rfl
  | succ e ih =>
    intro j m at_ hj hm
    obtain ⟨m,rfl⟩:∃q,m=q+1:=⟨m-1,by omega⟩
    have hlt:j<d.ak.length:=by omega
    have hf:=ht _ (getD_mem (z:=aj) hlt)
    rw [fD.l0,if_pos (by simp;omega),if_pos (by omega),ig,jV aj hlt]
    simp only [uO]
    by_cases hc:((decide ((d.ak.getD j aj).vAt<at_))||(decide ((d.ak.getD j aj).vAt>d.vN)))=true
    · rw [if_pos hc,if_pos hc]
    · rw [if_neg hc,if_neg hc,if_pos hf,fF hlt hl,ih (j+1) m _ (by omega) (by omega)]
theorem EL {d:aZ} {l:List Int} (hl:d.ak.length≤9223372036854775807) (ht:∀f∈d.ak,0≤f.vType∧f.vType<l.length):Ev (fun k=>fD.f k d l) (yQ d l):=by
 refine ⟨d.ak.length+1,fun k hk=>?_⟩
 show fD.f k d l=_
 unfold fD.f yQ
 rw [show fD.l0 d l k 0 0=_ from Hr hl ht d.ak.length 0 k 0 (by omega) (by omega),List.drop_zero]
 cases uO l d.vN 0 d.ak<;>rfl
theorem Jf {l:List Int} {N:Int} (hN:0≤N):∀(fs:List bf) (a:Int),N<a→a≤1024→(∀f∈fs,0<rd 0 l f.vType∧rd 0 l f.vType≤512)→(match pV l a fs with|none=>false|some e=>decide (e≤N))=false:=by
  intro fs
  induction fs with
  |nil=>intro a h1 h2 _;simp only [pV];exact decide_eq_false (by omega)
  | cons f r ih =>
    intro a h1 h2 hf
    have h3:=hf f List.mem_cons_self
    simp only [pV]
    by_cases hc:((decide (f.vAt<a))||(decide (f.vAt>512)))=true
    · rw [if_pos hc]
    · rw [if_neg hc]
      simp only [Bool.or_eq_true,decide_eq_true_eq,not_or] at hc
      rw [yE (by omega) (by omega)]
      exact ih _ (by omega) (by omega) (fun g hg=>hf g (List.mem_cons_of_mem _ hg))
theorem Jg {l : List Int} {N : Int} (hN : 0 ≤ N) (hN2 : N ≤ 512) : ∀ (fs : List bf) (a : Int), 0 ≤ a → (∀ f ∈ fs, 0 < rd 0 l f.vType ∧ rd 0 l f.vType ≤ 512) →
    (match uO l N a fs with|none=>false|some e=>decide (e≤N))=(match pV l a fs with|none=>false|some e=>decide (e≤N)):=by
  intro fs
  induction fs with
  |nil=>intro a _ _;rfl
  | cons f r ih =>
    intro a h0 hf
    have h3:=hf f List.mem_cons_self
    simp only [pV,uO]
    by_cases hc:((decide (f.vAt<a))||(decide (f.vAt>N)))=true
    · rw [if_pos hc]
      by_cases hc2:((decide (f.vAt<a))||(decide (f.vAt>512)))=true
      · rw [if_pos hc2]
      · rw [if_neg hc2]
        simp only [Bool.or_eq_true,decide_eq_true_eq,not_or] at hc hc2
        rw [yE (by omega) (by omega)]
        exact (Jf hN r _ (by omega) (by omega) (fun g hg=>hf g (List.mem_cons_of_mem _ hg))).symm
    · rw [if_neg hc,if_neg]
      · simp only [Bool.or_eq_true,decide_eq_true_eq,not_or] at hc
        rw [yE (by omega) (by omega)]
        exact ih _ (by omega) (fun g hg=>hf g (List.mem_cons_of_mem _ hg))
      · simp only [Bool.or_eq_true,decide_eq_true_eq,not_or] at hc⊢
        omega
theorem BF {defs:List aZ} {l:List Int} (G:DJ defs l) (hS:∀d∈defs,ShD d defs.length) {d:aZ} (hd:d∈defs) (h4:d.aA=4):yQ d l=xg d l:=by
 obtain ⟨rk,h⟩:=G.ex
 have h1:=(hS d hd).num (.inr h4)
 have h2:=(hS d hd).typ h4
 exact Jg (by omega) h1.2 _ _ (by omega) (fun f hf => by
  have h3:=h2 f hf
  have:=h f.vType.toNat (by omega)
  exact ⟨this.1, this.2.1⟩)
theorem Ls {t:aQ} (hl:t.au.length≤9223372036854775807) {i:Nat} (hi:i<t.au.length):∀(e j m:Nat),j+e=i→e<m→
    aS.l1 t (i:Int) m (j:Int)=some (if (gy (t.au.getD i ah)&&(((t.au.take i).drop j).any fun f=>strEq f.aF (t.au.getD i ah).aF))=true then .inl 80 else .inr ()):=by
  intro e
  induction e with
  | zero =>
    intro j m hj hm
    obtain ⟨m,rfl⟩:∃q,m=q+1:=⟨m-1,by omega⟩
    rw [aS.l1,if_neg (by simp;omega),List.drop_eq_nil_of_le (by simp;omega)]
    simp
  | succ e ih =>
    intro j m hj hm
    obtain ⟨m,rfl⟩:∃q,m=q+1:=⟨m-1,by omega⟩
    have hlt:j<t.au.length:=by omega
    have hd:(t.au.take i).drop j=t.au.getD j ah::(t.au.take i).drop (j+1):=by
      rw [jV ah (by simp;omega)]
      congr 1
      rw [List.getD_eq_getElem?_getD,List.getD_eq_getElem?_getD,List.getElem?_take,if_pos (by omega)]
    rw [aS.l1,if_pos (by simp;omega),if_pos (by omega),ig,ig,hd,List.any_cons]
    simp only [dZ.f,Option.bind_some]
    rw [if_pos (fun _=>by omega),if_pos (fun _=>by omega),fF hlt hl,ih (j+1) m (by omega) (by omega)]
    show (if (gy (t.au.getD i ah)&&_)=true then _ else _)=_
    cases gy (t.au.getD i ah)<;>cases (strEq (t.au.getD j ah).aF (t.au.getD i ah).aF)<;>cases (((t.au.take i).drop (j+1)).any fun f=>strEq f.aF (t.au.getD i ah).aF)<;>rfl
theorem QW (l:List aZ) (s:ByteArray):((l.map (·.aF)).reverse.any (strEq s))=l.any fun f=>strEq f.aF s:=by
 rw [List.any_reverse,List.any_map]
 congr 1
 funext f
 exact AX _ _
theorem Lu {t : aQ} (hF : ∀ d ∈ t.au, Ce d) (hl : t.au.length ≤ 9223372036854775807) : ∀ (e j : Nat), j + e = t.au.length →
    Ev2 (fun k m=>aS.l0 k t m (j:Int)) (if xI t.au.length ((t.au.take j).map (·.aF)).reverse (t.au.drop j)=true then .inr () else .inl 80):=by
  intro e
  induction e with
  | zero =>
    intro j hj
    refine Ev2.pure fun k m=>?_
    rw [aS.l0,if_neg (by simp;omega),List.drop_eq_nil_of_le (by omega)]
    rfl
  | succ e ih =>
    intro j hj
    have hlt:j<t.au.length:=by omega
    have hmem:=getD_mem (z:=ah) hlt
    have hFd:=hF _ hmem
    have h1:=Lm (t:=t) hFd.len hFd.names hFd.name
    have h2:=ih (j+1) (by omega)
    have ht:((t.au.take (j+1)).map (·.aF)).reverse=(t.au.getD j ah).aF::((t.au.take j).map (·.aF)).reverse:=by
      rw [List.take_add_one,List.map_append,List.reverse_append]
      rw [List.getD_eq_getElem?_getD,List.getElem?_eq_getElem hlt]
      rfl
    rw [ht] at h2
    rw [jV ah hlt,xI]
    refine Ev2.step h1 (r:=fun k m v1=>if (!v1)=true then (some (.inl 80)) else ((aS.l1 t (j:Int) k 0).bind fun xx2=>(match xx2 with| .inl r=>some (.inl r)| .inr s1=>aS.l0 k t m ((j+1:Nat):Int)))) ?_ (fun k m=>?_)
    · rcases Bool.eq_false_or_eq_true (nS (t.au.getD j ah) (t.au.length:Int)) with hn|hn
      · obtain ⟨K,hK⟩:=h2
        rw [hn]
        refine ⟨max K (j+1),fun k m hk hm=>?_⟩
        have h3:=Ls hl hlt j 0 k (by omega) (by omega)
        rw [List.drop_zero] at h3
        simp only [Bool.not_true,Bool.false_eq_true,if_false,Bool.true_and]
        rw [show aS.l1 t (j:Int) k 0=_ from h3,QW]
        cases ha:gy (t.au.getD j ah)&&(t.au.take j).any fun f=>strEq f.aF (t.au.getD j ah).aF with
        |true=>simp
        |false=>simpa using hK k m (by omega) (by omega)
      · exact ⟨0,fun k m _ _=>by rw [hn];rfl⟩
    · rw [aS.l0,if_pos (by simp;omega),if_pos (by omega),ig,fF hlt hl]
      try rfl
def Ug (t:aQ) (known:List Int) (q:Nat):Prop:=known.getD q 0≠0∧known.getD q 0≤512∧pW t.au t.au.length (t.au.getD q ah)=false∧((t.au.getD q ah).aA=4→yQ (t.au.getD q ah) known=true)
theorem LC {t : aQ} {known : List Int} (hF : ∀ d ∈ t.au, Ce d) (hS : ∀ d ∈ t.au, ShD d t.au.length) (hn : t.au.length ≤ 200) (hk : known.length = t.au.length) : ∀ (e j : Nat), j + e = t.au.length →
    ∃v,Ev2 (fun k m=>aS.l2 k t known m (j:Int)) v∧((v= .inr ()∧∀q,j≤q→q<t.au.length→Ug t known q)∨(v= .inl 80∧¬∀q,j≤q→q<t.au.length→Ug t known q)):=by
  intro e
  induction e with
  | zero =>
    intro j hj
    refine ⟨.inr (),Ev2.pure fun k m=>?_, .inl ⟨X,fun q _ _=>by omega⟩⟩
    rw [aS.l2,if_neg (by simp;omega)]
  | succ e ih =>
    intro j hj
    have hlt:j<t.au.length:=by omega
    have hmem:=getD_mem (z:=ah) hlt
    have he:=QV hS hn hlt
    obtain ⟨v,hv,hp⟩:=ih (j+1) (by omega)
    by_cases hc:Ug t known j
    · obtain ⟨c1,c2,c3,c4⟩:=hc
      refine ⟨v,?_,?_⟩
      · obtain ⟨K1,hK1⟩:=he
        obtain ⟨K2,hK2⟩:=hv
        by_cases h4:(t.au.getD j ah).aA=4
        · obtain ⟨K3,hK3⟩:=EL (d:=t.au.getD j ah) (l:=known) (hF _ hmem).len (fun f hf=>by have:=(hS _ hmem).typ h4 f hf;rw [hk];exact this)
          refine ⟨max (max K1 K2) K3+1,fun k m hk1 hm1=>?_⟩
          obtain ⟨m,rfl⟩:∃q,m=q+1:=⟨m-1,by omega⟩
          show aS.l2 k t known (m+1) (j:Int)=_
          rw [aS.l2,if_pos (by simp;omega),if_pos (by omega),if_pos (fun _=>by omega),ig,ig,show fJ.f k t (j:Int)=_ from hK1 k (by omega),c3]
          rw [show (known.getD j 0==0)=false from by simpa using c1,show decide (known.getD j 0>512)=false from decide_eq_false (by omega)]
          simp only [Bool.or_self,beq_self_eq_true,Bool.and_self,if_true,Bool.not_false,Option.bind_some,Bool.not_true,Bool.false_eq_true,if_false]
          rw [if_pos (by omega),if_pos (fun _=>by omega),show ((t.au.getD j ah).aA==4)=true from by simpa using h4]
          simp only [Bool.true_and,beq_self_eq_true,if_true]
          rw [show fD.f k _ known=_ from hK3 k (by omega),c4 h4]
          simp only [Option.bind_some,Bool.not_true,Bool.false_eq_true,if_false]
          rw [fF hlt (by omega)]
          exact hK2 k m (by omega) (by omega)
        · refine ⟨max K1 K2+1,fun k m hk1 hm1=>?_⟩
          obtain ⟨m,rfl⟩:∃q,m=q+1:=⟨m-1,by omega⟩
          show aS.l2 k t known (m+1) (j:Int)=_
          rw [aS.l2,if_pos (by simp;omega),if_pos (by omega),if_pos (fun _=>by omega),ig,ig,show fJ.f k t (j:Int)=_ from hK1 k (by omega),c3]
          rw [show (known.getD j 0==0)=false from by simpa using c1,show decide (known.getD j 0>512)=false from decide_eq_false (by omega)]
          simp only [Bool.or_self,beq_self_eq_true,Bool.and_self,if_true,Bool.not_false,Option.bind_some,Bool.not_true,Bool.false_eq_true,if_false]
          rw [if_pos (by omega),if_pos (fun _=>by omega),show ((t.au.getD j ah).aA==4)=false from by simpa using h4]
          simp only [Bool.true_and,Bool.false_and,Bool.false_eq_true,if_false,Option.bind_some,show (false==true)=false from rfl]
          rw [fF hlt (by omega)]
          exact hK2 k m (by omega) (by omega)
      · rcases hp with ⟨a,b⟩|⟨a,b⟩
        · refine .inl ⟨a,fun q hq hq2=>?_⟩
          by_cases hqj:q=j
          · subst hqj;exact ⟨c1,c2,c3,c4⟩
          · exact b q (by omega) hq2
        · exact .inr ⟨a,fun h=>b (fun q hq hq2=>h q (by omega) hq2)⟩
    · refine ⟨.inl 80,?_, .inr ⟨X,fun h=>hc (h j (by omega) hlt)⟩⟩
      obtain ⟨K1,hK1⟩:=he
      by_cases c1:known.getD j 0=0
      · refine ⟨K1+1,fun k m hk1 hm1=>?_⟩
        obtain ⟨m,rfl⟩:∃q,m=q+1:=⟨m-1,by omega⟩
        show aS.l2 k t known (m+1) (j:Int)=_
        rw [aS.l2,if_pos (by simp;omega),if_pos (by omega),if_pos (fun _=>by omega),ig,c1]
        rfl
      · by_cases c2:known.getD j 0≤512
        · cases c3:pW t.au t.au.length (t.au.getD j ah) with
          | true =>
            refine ⟨K1+1,fun k m hk1 hm1=>?_⟩
            obtain ⟨m,rfl⟩:∃q,m=q+1:=⟨m-1,by omega⟩
            show aS.l2 k t known (m+1) (j:Int)=_
            rw [aS.l2,if_pos (by simp;omega),if_pos (by omega),if_pos (fun _=>by omega),ig,show fJ.f k t (j:Int)=_ from hK1 k (by omega),c3]
            rw [show (known.getD j 0==0)=false from by simpa using c1,show decide (known.getD j 0>512)=false from decide_eq_false (by omega)]
            rfl
          | false =>
            have h4:(t.au.getD j ah).aA=4:=Classical.byContradiction fun h=>hc ⟨c1,c2,c3,fun h2=>absurd h2 h⟩
            have hpf:yQ (t.au.getD j ah) known=false:=by
              cases hpp:yQ (t.au.getD j ah) known with
              |false=>rfl
              |true=>exact absurd ⟨c1,c2,c3,fun _=>hpp⟩ hc
            obtain ⟨K3,hK3⟩:=EL (d:=t.au.getD j ah) (l:=known) (hF _ hmem).len (fun f hf=>by have:=(hS _ hmem).typ h4 f hf;rw [hk];exact this)
            refine ⟨max K1 K3+1,fun k m hk1 hm1=>?_⟩
            obtain ⟨m,rfl⟩:∃q,m=q+1:=⟨m-1,by omega⟩
            show aS.l2 k t known (m+1) (j:Int)=_
            rw [aS.l2,if_pos (by simp;omega),if_pos (by omega),if_pos (fun _=>by omega),ig,ig,show fJ.f k t (j:Int)=_ from hK1 k (by omega),c3]
            rw [show (known.getD j 0==0)=false from by simpa using c1,show decide (known.getD j 0>512)=false from decide_eq_false (by omega)]
            simp only [Bool.or_self,beq_self_eq_true,Bool.and_self,if_true,Bool.not_false,Option.bind_some,Bool.not_true,Bool.false_eq_true,if_false]
            rw [if_pos (by omega),if_pos (fun _=>by omega),show ((t.au.getD j ah).aA==4)=true from by simpa using h4]
            simp only [Bool.true_and,beq_self_eq_true,if_true]
            rw [show fD.f k _ known=_ from hK3 k (by omega),hpf]
            rfl
        · refine ⟨K1+1,fun k m hk1 hm1=>?_⟩
          obtain ⟨m,rfl⟩:∃q,m=q+1:=⟨m-1,by omega⟩
          show aS.l2 k t known (m+1) (j:Int)=_
          rw [aS.l2,if_pos (by simp;omega),if_pos (by omega),if_pos (fun _=>by omega),ig]
          rw [show (known.getD j 0==0)=false from by simpa using c1,show decide (known.getD j 0>512)=true from decide_eq_true (by omega)]
          rfl
theorem yR {t : aQ} (hF : ∀ d ∈ t.au, Ce d) : (∃ l, Wf t l ∧ Ev (fun k => bV.f k t) l ∧ Ev (fun k => aS.f k t) 0) ∨ ((∀ l, ¬ Wf t l) ∧ Ev (fun k => aS.f k t) 80) := by
  by_cases hn:(t.au.length:Int)>200
  · refine .inr ⟨fun l W=>by have:=W.few;omega,Ev.pure fun k=>?_⟩
    unfold aS.f
    rw [if_pos (by simpa using hn)]
  · have hn:t.au.length≤200:=by omega
    have hcond:¬decide ((t.au.length:Int)>200)=true:=by simp;omega
    obtain ⟨K,hK⟩:=(Lu hF (by omega) t.au.length 0 (by omega)).diag
    simp only [List.take_zero,List.map_nil,List.reverse_nil,List.drop_zero] at hK
    cases hd:xI t.au.length [] t.au with
    | false =>
      rw [hd] at hK
      refine .inr ⟨fun l W=>(by have:=W.defs;rw [hd] at this;cases this),⟨K,fun k hk=>?_⟩⟩
      show aS.f k t=_
      unfold aS.f
      rw [if_neg hcond,show aS.l0 k t k 0=_ from hK k hk]
      rfl
    | true =>
      rw [hd] at hK
      have hS:=DI _ _ hd
      obtain ⟨known,hsz,I,F⟩:=OY hS hn
      obtain ⟨v,hv,hp⟩:=LC hF hS hn I.len t.au.length 0 (by omega)
      obtain ⟨K2,hK2⟩:=hv.diag
      obtain ⟨K3,hK3⟩:=hsz
      rcases hp with ⟨rfl,hp⟩|⟨rfl,hp⟩
      · have hg:=Je I (fun j hj=>⟨(hp j (by omega) hj).1,(hp j (by omega) hj).2.1⟩)
        have hidx:∀d∈t.au,∃q,q<t.au.length∧t.au.getD q ah=d:=fun d hd=>by
          obtain ⟨q,hq,e⟩:=List.mem_iff_getElem.1 hd
          exact ⟨q,hq,by rw [List.getD_eq_getElem?_getD,List.getElem?_eq_getElem hq];exact e⟩
        refine .inl ⟨known,⟨hn,hd,hg,fun d hd=>?_,fun d hd h4=>?_⟩,⟨K3,hK3⟩,⟨max (max K K2) K3,fun k hk=>?_⟩⟩
        · obtain ⟨q,hq,rfl⟩:=hidx d hd
          exact (hp q (by omega) hq).2.2.1
        · rw [←BF hg hS hd h4]
          obtain ⟨q,hq,rfl⟩:=hidx d hd
          exact (hp q (by omega) hq).2.2.2 h4
        · show aS.f k t=_
          unfold aS.f
          rw [if_neg hcond,show aS.l0 k t k 0=_ from hK k (by omega)]
          simp only [if_true,Option.bind_some]
          rw [show bV.f k t=_ from hK3 k (by omega)]
          simp only [Option.bind_some]
          rw [show aS.l2 k t known k 0=_ from hK2 k (by omega)]
          rfl
      · refine .inr ⟨fun l W=>?_,⟨max (max K K2) K3,fun k hk=>?_⟩⟩
        · have hkl:=Jd hS I F W.sz
          subst hkl
          refine hp fun q _ hq=>?_
          obtain ⟨rk,h⟩:=W.sz.ex
          have hm:=getD_mem (z:=ah) hq
          refine ⟨by have:=(h q hq).1;omega,(h q hq).2.1,W.ends _ hm,fun h4=>?_⟩
          rw [BF W.sz hS hm h4]
          exact W.placed _ hm h4
        · show aS.f k t=_
          unfold aS.f
          rw [if_neg hcond,show aS.l0 k t k 0=_ from hK k (by omega)]
          simp only [if_true,Option.bind_some]
          rw [show bV.f k t=_ from hK3 k (by omega)]
          simp only [Option.bind_some]
          rw [show aS.l2 k t known k 0=_ from hK2 k (by omega)]
          rfl
def QX (k n:Nat):Bool:=match iq.f (k+4) (n:Int),strconv_Itoa.f (n:Int) with|some a,some b=>strEq a b&&decide (a.size≤3)|_,_=>false
theorem Uh (k:Nat):(List.range 513).all (QX k)=true:=by kernel_rfl
theorem VE {n : Int} (h1 : 1 ≤ n) (h2 : n ≤ 512) : ∃ s, strconv_Itoa.f n = some s ∧ Ev (fun k => iq.f k n) s ∧ s.size ≤ 3 := by
  obtain ⟨m,rfl⟩:∃m:Nat,n=(m:Int):=⟨n.toNat,by omega⟩
  have hat:∀k,QX k m=true:=fun k=>List.all_eq_true.1 (Uh k) m (List.mem_range.2 (by omega))
  have h0:=hat 0
  unfold QX at h0
  cases hi:strconv_Itoa.f (m:Int) with
  | none =>
    rw [hi] at h0
    cases hd:iq.f (0+4) (m:Int)<;>rw [hd] at h0<;>cases h0
  | some b =>
    refine ⟨b,X,⟨4,fun k hk=>?_⟩,?_⟩
    · obtain ⟨k,rfl⟩:∃q,k=q+4:=⟨k-4,by omega⟩
      have hk:=hat k
      unfold QX at hk
      rw [hi] at hk
      show iq.f (k+4) (m:Int)=_
      cases hd:iq.f (k+4) (m:Int) with
      |none=>rw [hd] at hk;cases hk
      | some a =>
        rw [hd] at hk
        simp only [Bool.and_eq_true] at hk
        rw [gq.1 hk.1]
    · rw [hi] at h0
      cases hd:iq.f (0+4) (m:Int) with
      |none=>rw [hd] at h0;cases h0
      | some a =>
        rw [hd] at h0
        simp only [Bool.and_eq_true,decide_eq_true_eq] at h0
        rw [←gq.1 h0.1];exact h0.2
theorem Ak {t : aQ} {l : List Int} (W : Wf t l) : ∀ (m i : Nat), m ≤ 1000 → i < t.au.length → pW t.au m (t.au.getD i ah) = false →
    ∃s,Ev (fun k=>fB.f k t (i:Int)) s∧Ev (fun k=>dn.f k t (i:Int)) s∧s.size≤31+8*m:=by
  have base:∀(m i:Nat),i<t.au.length→gy (t.au.getD i ah)=true→∃s,Ev (fun k=>fB.f k t (i:Int)) s∧Ev (fun k=>dn.f k t (i:Int)) s∧s.size≤31+8*m:=by
    intro m i hi hn
    have hm:=getD_mem (z:=ah) hi
    have hsz:=Ci (DL (uh _ _ W.defs _ hm) hn)
    have h2:¬((t.au.getD i ah).aA==2)=true:=by unfold gy at hn;simp only [Bool.and_eq_true,bne_iff_ne,ne_eq] at hn;simpa using hn.1
    have h3:¬((t.au.getD i ah).aA==3)=true:=by unfold gy at hn;simp only [Bool.and_eq_true,bne_iff_ne,ne_eq] at hn;simpa using hn.2
    refine ⟨(t.au.getD i ah).aF,Ev.succ (Ev.pure fun k=>?_),Ev.succ (Ev.pure fun k=>?_),by omega⟩
    · rw [fB.f,if_pos (by omega),ig,if_neg h2,if_neg h3]
    · rw [dn.f,if_pos (by omega),ig,if_neg h2,if_neg h3]
  intro m
  induction m with
  | zero =>
    intro i _ hi h
    simp only [pW,Bool.not_eq_false'] at h
    exact base 0 i hi h
  | succ m ih =>
    intro i hm1 hi h
    simp only [pW] at h
    by_cases hn:gy (t.au.getD i ah)=true
    · exact base (m+1) i hi hn
    · rw [if_neg hn] at h
      have hm:=getD_mem (z:=ah) hi
      have hk:=pG hn
      have hr:=(W.sh _ hm).ref (by omega)
      obtain ⟨q,hq⟩:∃q:Nat,(t.au.getD i ah).bY=(q:Int):=⟨(t.au.getD i ah).bY.toNat,by omega⟩
      rw [hq,ig] at h
      rw [hq] at hr
      obtain ⟨s,⟨K1,h1⟩,⟨K2,h2⟩,h3⟩:=ih q (by omega) (by omega) h
      have e2:ByteArray.size (⟨#[32,42]⟩:ByteArray)=2:=X
      have e3:ByteArray.size (⟨#[32,91]⟩:ByteArray)=2:=X
      have e1:ByteArray.size (⟨#[93]⟩:ByteArray)=1:=X
      by_cases hk2:(t.au.getD i ah).aA=2
      · refine ⟨s++(⟨#[32,42]⟩:ByteArray),⟨K1+1,fun k hk=>?_⟩,⟨K2+1,fun k hk=>?_⟩,by rw [l9,e2];omega⟩
        · obtain ⟨k,rfl⟩:∃q,k=q+1:=⟨k-1,by omega⟩
          show fB.f (k+1) t (i:Int)=_
          rw [fB.f,if_pos (by omega),ig,if_pos (Oq hk2),hq,show fB.f k t (q:Int)=_ from h1 k (by omega)]
          simp only [Option.bind_some]
          rw [if_pos (by rw [e2];omega)]
        · obtain ⟨k,rfl⟩:∃q,k=q+1:=⟨k-1,by omega⟩
          show dn.f (k+1) t (i:Int)=_
          rw [dn.f,if_pos (by omega),ig,if_pos (Oq hk2),hq,show dn.f k t (q:Int)=_ from h2 k (by omega)]
          simp only [Option.bind_some]
          rw [if_pos (by rw [e2];omega)]
      · have hk3:(t.au.getD i ah).aA=3:=by omega
        have hN:=(W.sh _ hm).num (.inl hk3)
        obtain ⟨dg,hd1,⟨K3,hd2⟩,hd3⟩:=VE hN.1 hN.2
        refine ⟨((s++(⟨#[32,91]⟩:ByteArray))++dg)++(⟨#[93]⟩:ByteArray),⟨K1+1,fun k hk=>?_⟩,⟨max K2 K3+1,fun k hk=>?_⟩,by rw [l9,l9,l9,e3,e1];omega⟩
        · obtain ⟨k,rfl⟩:∃q,k=q+1:=⟨k-1,by omega⟩
          show fB.f (k+1) t (i:Int)=_
          rw [fB.f,if_pos (by omega),ig,if_neg (Pv hk2),if_pos (Oq hk3),hq,show fB.f k t (q:Int)=_ from h1 k (by omega)]
          simp only [Option.bind_some]
          rw [if_pos (by rw [e3];omega),hd1]
          simp only [Option.bind_some]
          rw [if_pos (by rw [l9,e3];omega),if_pos (by rw [l9,l9,e3,e1];omega)]
        · obtain ⟨k,rfl⟩:∃q,k=q+1:=⟨k-1,by omega⟩
          show dn.f (k+1) t (i:Int)=_
          rw [dn.f,if_pos (by omega),ig,if_neg (Pv hk2),if_pos (Oq hk3),hq,show dn.f k t (q:Int)=_ from h2 k (by omega)]
          simp only [Option.bind_some]
          rw [if_pos (by rw [e3];omega),show iq.f k _=_ from hd2 k (by omega)]
          simp only [Option.bind_some]
          rw [if_pos (by rw [l9,e3];omega),if_pos (by rw [l9,l9,e3,e1];omega)]
section
variable {t:aQ} {l:List Int}
theorem Jh (hc:Ev (fun k=>aS.f k t) 0) (i:Int):Ev (fun k=>fO.f k t i) (if 0≤i∧i<t.au.length then 0 else 3):=by
 obtain ⟨K,hK⟩:=hc
 refine ⟨K,fun k hk=>?_⟩
 show fO.f k t i=_
 unfold fO.f iL.f
 rw [show aS.f k t=_ from hK k hk]
 by_cases h0:0≤i
 ·by_cases h1:i<(t.au.length:Int)
  ·rw [if_pos ⟨h0,h1⟩];simp [h0,h1]
  ·rw [if_neg (fun h=>h1 h.2)];simp [h0,h1]
 ·rw [if_neg (fun h=>h0 h.1)];simp [h0]
theorem LD (hc:Ev (fun k=>aS.f k t) 80) (i:Int):Ev (fun k=>fO.f k t i) 80:=by
 obtain ⟨K,hK⟩:=hc
 refine ⟨K,fun k hk=>?_⟩
 show fO.f k t i=_
 unfold fO.f
 rw [show aS.f k t=_ from hK k hk]
 rfl
theorem EM (hF : ∀ d ∈ t.au, Ce d) (i : Int) : (∃ e, e ≠ 0 ∧ Ev (fun k => jY.f k t i) e ∧ Ev (fun k => fO.f k t i) e) ∨
    (∃(n:Nat) (l:List Int),i=(n:Int)∧n<t.au.length∧Wf t l∧Ev (fun k=>dH.f k t) true∧Ev (fun k=>bV.f k t) l∧Ev (fun k=>jY.f k t i) 0∧Ev (fun k=>fO.f k t i) 0):=by
  rcases DK hF with ⟨l,W,hv⟩|⟨hno,hv⟩
  · rcases yR hF with ⟨l2,W2,hs,hc⟩|⟨hno,hc⟩
    · have h1:=ED hv i
      have h2:=Jh hc i
      by_cases h:0≤i∧i<t.au.length
      · rw [if_pos h] at h1 h2
        exact .inr ⟨i.toNat,l2,by omega,by omega,W2,hv,hs,h1,h2⟩
      · rw [if_neg h] at h1 h2
        exact .inl ⟨3,by decide,h1,h2⟩
    · exact absurd W (hno l)
  · rcases yR hF with ⟨l2,W2,hs,hc⟩|⟨hno,hc⟩
    · exact absurd W2 (hno l2)
    · exact .inl ⟨80,by decide,GY hv i,LD hc i⟩
theorem LG {name:ByteArray} (hl:t.au.length≤9223372036854775807):∀(d j m:Nat),j+d=t.au.length→d<m→
    dW.l0 t name m (j:Int)=some (if ((t.au.drop j).any (AY name))=true then .inl (((j+(t.au.drop j).findIdx (AY name):Nat)):Int) else .inr ()):=by
  intro d
  induction d with
  | zero =>
    intro j m hj hm
    obtain ⟨m,rfl⟩:∃q,m=q+1:=⟨m-1,by omega⟩
    rw [dW.l0,if_neg (by simp;omega),List.drop_eq_nil_of_le (by omega)]
    rfl
  | succ d ih =>
    intro j m hj hm
    obtain ⟨m,rfl⟩:∃q,m=q+1:=⟨m-1,by omega⟩
    have hlt:j<t.au.length:=by omega
    rw [dW.l0,if_pos (by simp;omega),if_pos (by omega),ig,jV ah hlt]
    simp only [dZ.f,Option.bind_some]
    rw [if_pos (fun _=>by omega)]
    show (if AY name (t.au.getD j ah)=true then _ else _)=_
    cases hb:AY name (t.au.getD j ah) with
    | true =>
      rw [if_pos rfl]
      simp only [List.any_cons,hb,Bool.true_or,if_true,List.findIdx_cons,cond_true,Nat.add_zero]
    | false =>
      rw [if_neg (by simp),fF hlt hl,ih (j+1) m (by omega) (by omega)]
      simp only [List.any_cons,hb,Bool.false_or,List.findIdx_cons,cond_false]
      split
      · congr 2;omega
      · rfl
theorem CB (hn:t.au.length≤200) (name:ByteArray):Ev (fun k=>dW.f k t name) (qX t name):=by
 refine ⟨t.au.length+1,fun k hk=>?_⟩
 show dW.f k t name=_
 unfold dW.f qX
 have:=LG (t:=t) (name:=name) (by omega) t.au.length 0 k (by omega) (by omega)
 rw [show dW.l0 t name k 0=_ from this,List.drop_zero]
 cases t.au.any (AY name)<;>simp
end
section
variable {t u:aQ} {l lu:List Int}
theorem QY {y:List Int} {d:aZ} (hd:rd ah t.au (rd 0 y 0)=d) (hl:d.ak.length≤32):∀(e j m:Nat) (ys:List Int),j+e=d.ak.length→e<m→ys.length+e≤4294967296→
    bZ.l1 t y m (j:Int) ys=some (ys++if d.aA=4 then (d.ak.drop j).map (·.vType) else []):=by
  intro e
  induction e with
  | zero =>
    intro j m ys hj hm hy
    obtain ⟨m,rfl⟩:∃q,m=q+1:=⟨m-1,by omega⟩
    rw [bZ.l1,hd,if_neg (by simp;omega),List.drop_eq_nil_of_le (by omega)]
    simp
  | succ e ih =>
    intro j m ys hj hm hy
    obtain ⟨m,rfl⟩:∃q,m=q+1:=⟨m-1,by omega⟩
    have hlt:j<d.ak.length:=by omega
    by_cases h4:d.aA=4
    · rw [bZ.l1,hd,if_pos (by rw [h4];simp;omega),if_pos (by omega),if_pos (by omega),fF hlt (by omega),ih (j+1) m _ (by omega) (by omega) (by simp;omega),if_pos h4,if_pos h4,ig,jV aj hlt]
      simp
    · rw [bZ.l1,hd,if_neg (by simp [h4]),if_neg h4,List.append_nil]
theorem Ht (W : Wf t l) {k : Nat} (hk : 40 ≤ k) : ∀ (m : Nat) (is : List Bool) (todo : List Int) (is' : List Bool), is.length = t.au.length → (∀ x ∈ todo, x = ((x.toNat : Nat) : Int) ∧ x.toNat < t.au.length) → todo.length + 33 * cf is ≤ 1000000 →
    yF t m is todo=some is'→bZ.l0 k t m todo is=some ([],is'):=by
  intro m
  induction m with
  |zero=>intro is todo is' _ _ _ h;simp [yF] at h
  | succ m ih =>
    intro is todo is' hl hin hb h
    match todo,h,hin,hb with
    | [], h, _, _ =>
      rw [bZ.l0,if_neg (by simp)]
      rw [yF] at h
      rw [Option.some.inj h]
    | x :: r, h, hin, hb =>
      obtain ⟨hx1,hx2⟩:=hin x List.mem_cons_self
      have h0:rd 0 (x::r) (0:Int)=x:=by rw [show (0:Int)=((0:Nat):Int) from X,ig];rfl
      have hr:rd false is x=is.getD x.toNat false:=by rw [hx1,ig];rfl
      rw [bZ.l0,if_pos (by simp),if_pos (by simp)]
      rw [h0,if_pos (by simp only [Int.toNat_natCast];omega),hr,List.drop_one,List.tail_cons]
      rw [yF] at h
      cases hs:is.getD x.toNat false with
      | true =>
        rw [hs,if_pos rfl] at h
        rw [if_pos rfl]
        exact ih is r is' hl (fun y hy=>hin y (List.mem_cons_of_mem _ hy)) (by simp only [List.length_cons] at hb;omega) h
      | false =>
        rw [hs,if_neg (by simp)] at h
        rw [if_neg (by simp),if_pos (by simp only [Int.toNat_natCast];omega),if_pos (by omega)]
        have hd:rd ah t.au (rd 0 (x::r) (0:Int))=dAt t x.toNat:=by rw [h0,hx1,oQ];rfl
        have hdx:rd ah t.au x=dAt t x.toNat:=by rw [←hd,h0]
        have hS:=W.sh _ (nT hx2)
        have hfew:=hS.few
        have hcf:=JZ (by rw [hl];exact hx2) hs
        simp only [List.length_cons] at hb
        have hkl:(kids (dAt t x.toNat)).length≤32:=by
          unfold kids
          split
          · simp
          · split
            · rw [List.length_map];exact hfew
            · simp
        rw [hdx]
        have key:∀ys:List Int,ys.length≤1000001→ys++(if (dAt t x.toNat).aA=4 then ((dAt t x.toNat).ak.drop 0).map (·.vType) else [])=r++kids (dAt t x.toNat)→
            ((some ys:Option (List Int)).bind fun xx2=>((bZ.l1 t (x::r) k 0 xx2).bind fun xx3=>(bZ.l0 k t m xx3 (List.set is x.toNat true))))=some ([],is'):=by
          intro ys hy he
          have h1:=QY (t:=t) (y:=x::r) hd hfew (dAt t x.toNat).ak.length 0 k ys (by omega) (by omega) (by omega)
          rw [Option.bind_some,show bZ.l1 t (x::r) k 0 ys=_ from h1,Option.bind_some,he]
          refine ih _ _ is' (by rw [List.length_set];exact hl) (fun y hy=>?_) (by rw [List.length_append];omega) h
          rcases List.mem_append.1 hy with hy|hy
          · exact hin y (List.mem_cons_of_mem _ hy)
          · exact oW W hx2 hy
        by_cases hc:(dAt t x.toNat).aA=2∨(dAt t x.toNat).aA=3∨(dAt t x.toNat).aA=6
        · rw [if_pos (by simp only [Bool.or_eq_true,beq_iff_eq];rcases hc with h|h|h<;>simp [h]),if_pos (by omega)]
          refine key _ (by simp;omega) ?_
          rw [qo hc,if_neg (by omega),List.append_nil]
        · rw [if_neg (by simp only [Bool.or_eq_true,beq_iff_eq];intro h;apply hc;rcases h with (h|h)|h<;>simp [h])]
          refine key _ (by omega) ?_
          by_cases h4:(dAt t x.toNat).aA=4
          · rw [if_pos h4,lN h4,List.drop_zero]
          · rw [if_neg h4,Ag hc h4]
theorem QZ (W:Wf t l) {i:Nat} (hi:i<t.au.length):∃is',Ev (fun k=>bZ.f k t [(i:Int)]) is'∧is'.length=t.au.length∧∀k,is'.getD k false=true↔Rch t i k:=by
 obtain ⟨is',⟨K,hK⟩,hl,hm⟩:=Ho W (fr:=[i]) (by intro x hx;rw [List.mem_singleton.1 hx];exact hi)
 refine ⟨is',⟨K+40,fun k hk=>?_⟩,hl,fun k=>(hm k).trans ⟨fun ⟨j,hj,hr⟩=>by rw [List.mem_singleton.1 hj] at hr;exact hr,fun h=>⟨i,List.mem_singleton.2 X,h⟩⟩⟩
 have hn:=W.few
 have hcf:∀n,cf (List.replicate n false)=n:=by
  intro n
  induction n with
  |zero=>rfl
  |succ n ih=>rw [List.replicate_succ,cf,ih];simp;omega
 show bZ.f k t [(i:Int)]=_
 unfold bZ.f
 rw [if_pos (by omega),if_pos (by simp),Int.toNat_natCast,List.nil_append]
 rw [show ([(i : Int)] : List Int) = Ar [i] from rfl, Ht W (by omega) k _ _ is' (by simp) (fun x hx => by
  rw [List.mem_singleton.1 hx]
  exact ⟨X, hi⟩) (by rw [hcf]; show 1 + _ ≤ _; omega) (hK k (by omega))]
 rfl
theorem OZ (W : Wf t l) (V : Wf u lu) {i j : Nat} (hi : i < t.au.length) (hj : j < u.au.length) (hn : gy (dAt t i) = true) : Ev (fun k => dI.f k t (dAt t i) u (dAt u j)) (tell (qU t (dAt t i) u (dAt u j))) := by
  have hD:=W.sh _ (nT hi)
  have hG:=V.sh _ (nT hj)
  have hlen:=hD.few
  have hi4:∀a b:ByteArray,strEq a b=tell (a=b):=fun a b=>FT gq
  have htx:∀{t:aQ} {l:List Int} (W:Wf t l) {c:Int},0≤c→c<t.au.length→Ev (fun k=>dn.f k t c) (tx t c.toNat):=fun {t l} W {c} h0 h1=>by
    obtain ⟨s,e1,e2,_⟩:=Ak W t.au.length c.toNat (by have:=W.few;omega) (by omega) (W.ends _ (getD_mem (by omega)))
    rw [←GZ e1] at e2
    rwa [show ((c.toNat:Nat):Int)=c by omega] at e2
  have hk:=(oU _).1 hn
  by_cases hne:(dAt t i).aA=(dAt u j).aA∧(dAt t i).aF=(dAt u j).aF∧((dAt t i).aY.aU=(dAt u j).aY.aU∧(dAt t i).aY.aJ=(dAt u j).aY.aJ)∧(dAt t i).vN=(dAt u j).vN∧(dAt t i).ak.length=(dAt u j).ak.length
  · obtain ⟨n1,n2,⟨n3,n4⟩,n5,n6⟩:=hne
    have hcond:¬(((((((dAt t i).aA !=(dAt u j).aA)||(!(strEq (dAt t i).aF (dAt u j).aF)))||(!(((dAt t i).aY.aU==(dAt u j).aY.aU)&&(((dAt t i).aY.aJ==(dAt u j).aY.aJ)&&true))))||((dAt t i).vN !=(dAt u j).vN))||(((dAt t i).ak.length:Int) !=((dAt u j).ak.length:Int)))=true):=by
      rw [n1,n2,n3,n4,n5,n6,gq.2 rfl];simp
    have hF : ∀ (e x : Nat), x + e = (dAt t i).ak.length → Ev2 (fun k m => dI.l0 k t (dAt t i) u (dAt u j) m (x : Int)) (if tell (∀ y, x ≤ y → y < (dAt t i).ak.length → nI t u (dAt t i).aA (fAt (dAt t i) y) (fAt (dAt u j) y)) = true then .inr () else .inl false) := by
      intro e
      induction e with
      | zero =>
        intro x hx
        refine Ev2.pure fun k m=>?_
        rw [dI.l0,if_neg (by simp;omega),if_pos (mY (fun y h1 h2=>by omega))]
      | succ e ih =>
        intro x hx
        have hlt:x<(dAt t i).ak.length:=by omega
        have hlt2:x<(dAt u j).ak.length:=by omega
        obtain ⟨K3,h3⟩:=ih (x+1) (by omega)
        have r1:∀k m,dI.l0 k t (dAt t i) u (dAt u j) (m+1) (x:Int)=_:=fun k m=>by
          rw [dI.l0,if_pos (by simp;omega),if_pos (by omega),if_pos (by omega),ig,ig,fF hlt (by omega)]
        have hset:(∀y,x≤y→y<(dAt t i).ak.length→nI t u (dAt t i).aA (fAt (dAt t i) y) (fAt (dAt u j) y))↔nI t u (dAt t i).aA (fAt (dAt t i) x) (fAt (dAt u j) x)∧∀y,x+1≤y→y<(dAt t i).ak.length→nI t u (dAt t i).aA (fAt (dAt t i) y) (fAt (dAt u j) y):=
          ⟨fun h => ⟨h x (Nat.le_refl _) hlt, fun y h1 h2 => h y (by omega) h2⟩, fun h y h1 h2 => by
            by_cases e:y=x
            · subst e;exact h.1
            · exact h.2 y (by omega) h2⟩
        rw [jw hset]
        by_cases c1:(fAt (dAt t i) x).aF=(fAt (dAt u j) x).aF∧(fAt (dAt t i) x).vAt=(fAt (dAt u j) x).vAt
        · have hneg:((!(strEq ((dAt t i).ak.getD x aj).aF ((dAt u j).ak.getD x aj).aF))||(((dAt t i).ak.getD x aj).vAt !=((dAt u j).ak.getD x aj).vAt))=false:=by
            rw [show ((dAt t i).ak.getD x aj).aF=((dAt u j).ak.getD x aj).aF from c1.1,show ((dAt t i).ak.getD x aj).vAt=((dAt u j).ak.getD x aj).vAt from c1.2,gq.2 rfl]
            simp
          by_cases h4:(dAt t i).aA=4
          · have q1:=hD.typ h4 _ (getD_mem (z:=aj) hlt)
            have q2:=hG.typ (by omega) _ (getD_mem (z:=aj) hlt2)
            obtain ⟨K1,h1⟩:=htx W q1.1 q1.2
            obtain ⟨K2,h2⟩:=htx V q2.1 q2.2
            refine ⟨K1+K2+K3+1,fun k m hk hm=>?_⟩
            obtain ⟨m,rfl⟩:∃q,m=q+1:=⟨m-1,by omega⟩
            show dI.l0 k t (dAt t i) u (dAt u j) (m+1) (x:Int)=_
            rw [r1,hneg,h4]
            simp only [beq_self_eq_true,Bool.and_self,if_true,Bool.true_and,Bool.false_or]
            rw [show dn.f k t _=_ from h1 k (by omega),show dn.f k u _=_ from h2 k (by omega)]
            simp only [Option.bind_some]
            rw [hi4 (tx t _)]
            by_cases c2:tx t ((dAt t i).ak.getD x aj).vType.toNat=tx u ((dAt u j).ak.getD x aj).vType.toNat
            · rw [mY c2,if_neg (by simp),show dI.l0 k t (dAt t i) u (dAt u j) m ((x+1:Nat):Int)=_ from h3 k m (by omega) (by omega),h4]
              rw [jw (p:=nI t u 4 (fAt (dAt t i) x) (fAt (dAt u j) x)∧_) (q:=∀y,x+1≤y→y<(dAt t i).ak.length→nI t u 4 (fAt (dAt t i) y) (fAt (dAt u j) y)) ⟨fun h=>h.2,fun h=>⟨⟨c1.1,c1.2,fun _=>c2⟩,h⟩⟩]
            · rw [jW c2,if_pos (by rfl),jW (fun h=>c2 (h.1.2.2 rfl))]
              rfl
          · refine ⟨K3+1,fun k m hk hm=>?_⟩
            obtain ⟨m,rfl⟩:∃q,m=q+1:=⟨m-1,by omega⟩
            show dI.l0 k t (dAt t i) u (dAt u j) (m+1) (x:Int)=_
            rw [r1,hneg,show ((dAt t i).aA==4)=false from by simpa using h4]
            simp only [show (false==true)=false from rfl,Bool.and_false,Bool.false_eq_true,if_false,Option.bind_some,Bool.false_and,Bool.or_self]
            rw [show dI.l0 k t (dAt t i) u (dAt u j) m ((x+1:Nat):Int)=_ from h3 k m (by omega) (by omega)]
            rw [jw (p:=nI t u (dAt t i).aA (fAt (dAt t i) x) (fAt (dAt u j) x)∧_) (q:=∀y,x+1≤y→y<(dAt t i).ak.length→nI t u (dAt t i).aA (fAt (dAt t i) y) (fAt (dAt u j) y)) ⟨fun h=>h.2,fun h=>⟨⟨c1.1,c1.2,fun h=>absurd h h4⟩,h⟩⟩]
        · have hpos:((!(strEq ((dAt t i).ak.getD x aj).aF ((dAt u j).ak.getD x aj).aF))||(((dAt t i).ak.getD x aj).vAt !=((dAt u j).ak.getD x aj).vAt))=true:=by
            rw [hi4]
            by_cases a1:((dAt t i).ak.getD x aj).aF=((dAt u j).ak.getD x aj).aF
            · have a2:((dAt t i).ak.getD x aj).vAt≠((dAt u j).ak.getD x aj).vAt:=fun h=>c1 ⟨a1,h⟩
              rw [Um a2,Bool.or_true]
            · rw [jW a1];rfl
          refine ⟨1,fun k m hk hm=>?_⟩
          obtain ⟨m,rfl⟩:∃q,m=q+1:=⟨m-1,by omega⟩
          show dI.l0 k t (dAt t i) u (dAt u j) (m+1) (x:Int)=_
          rw [r1,hpos]
          simp only [show (true==false)=false from rfl,Bool.and_false,Bool.false_and,Bool.false_eq_true,if_false,Option.bind_some,Bool.true_or,if_true]
          rw [jW (fun h=>c1 ⟨h.1.1,h.1.2.1⟩)]
          rfl
    obtain ⟨K3,h3⟩:=(hF (dAt t i).ak.length 0 (by omega)).diag
    have hall:tell (∀y,0≤y→y<(dAt t i).ak.length→nI t u (dAt t i).aA (fAt (dAt t i) y) (fAt (dAt u j) y))=tell (∀y,y<(dAt t i).ak.length→nI t u (dAt t i).aA (fAt (dAt t i) y) (fAt (dAt u j) y)):=jw ⟨fun h y h1=>h y (by omega) h1,fun h y _ h1=>h y h1⟩
    rw [hall] at h3
    by_cases h6:(dAt t i).aA=6
    · have r1:=hD.ref (by omega)
      have r2:=hG.ref (by omega)
      obtain ⟨K1,h1⟩:=htx W r1.1 r1.2
      obtain ⟨K2,h2⟩:=htx V r2.1 r2.2
      refine ⟨K1+K2+K3,fun k hk'=>?_⟩
      show dI.f k t (dAt t i) u (dAt u j)=_
      unfold dI.f
      rw [if_neg hcond,show ((dAt t i).aA==6)=true from Oq h6]
      simp only [beq_self_eq_true,Bool.and_self,if_true,Bool.true_and]
      rw [show dn.f k t (dAt t i).bY=_ from h1 k (by omega),show dn.f k u (dAt u j).bY=_ from h2 k (by omega)]
      simp only [Option.bind_some]
      by_cases c:tx t (dAt t i).bY.toNat=tx u (dAt u j).bY.toNat
      · rw [gq.2 c,if_neg (by simp),show dI.l0 k t _ u _ k 0=_ from h3 k (by omega)]
        rw [jw (p:=qU t (dAt t i) u (dAt u j)) (q:=∀y,y<(dAt t i).ak.length→nI t u (dAt t i).aA (fAt (dAt t i) y) (fAt (dAt u j) y)) ⟨fun h=>h.fld,fun h=>⟨n1,n2,⟨n3,n4⟩,n5,fun _=>c,n6,h⟩⟩]
        cases tell (∀y,y<(dAt t i).ak.length→nI t u (dAt t i).aA (fAt (dAt t i) y) (fAt (dAt u j) y))<;>rfl
      · rw [if_pos (by rw [hi4,jW c];rfl),jW (fun h=>c (h.ref (by omega)))]
    · refine ⟨K3,fun k hk'=>?_⟩
      show dI.f k t (dAt t i) u (dAt u j)=_
      unfold dI.f
      rw [if_neg hcond,show ((dAt t i).aA==6)=false from by simpa using h6]
      simp only [show (false==true)=false from rfl,Bool.and_false,Bool.false_and,Bool.false_eq_true,if_false,Option.bind_some]
      rw [show dI.l0 k t _ u _ k 0=_ from h3 k (by omega)]
      rw [jw (p:=qU t (dAt t i) u (dAt u j)) (q:=∀y,y<(dAt t i).ak.length→nI t u (dAt t i).aA (fAt (dAt t i) y) (fAt (dAt u j) y)) ⟨fun h=>h.fld,fun h=>⟨n1,n2,⟨n3,n4⟩,n5,fun hh=>by omega,n6,h⟩⟩]
      cases tell (∀y,y<(dAt t i).ak.length→nI t u (dAt t i).aA (fAt (dAt t i) y) (fAt (dAt u j) y))<;>rfl
  · refine Ev.pure fun k=>?_
    unfold dI.f
    rw [if_pos,jW (fun h=>hne ⟨h.kind,h.name,h.int,h.num,h.len⟩)]
    by_cases a1:(dAt t i).aA=(dAt u j).aA
    · by_cases a2:(dAt t i).aF=(dAt u j).aF
      · by_cases a3:(dAt t i).aY.aU=(dAt u j).aY.aU∧(dAt t i).aY.aJ=(dAt u j).aY.aJ
        · by_cases a4:(dAt t i).vN=(dAt u j).vN
          · have a5:((dAt t i).ak.length:Int)≠((dAt u j).ak.length:Int):=fun h=>hne ⟨a1,a2,a3,a4,by omega⟩
            rw [Um a5];simp
          · rw [Um a4];simp
        · have:((((dAt t i).aY.aU==(dAt u j).aY.aU)&&(((dAt t i).aY.aJ==(dAt u j).aY.aJ)&&true)))=false:=by
            rw [Bool.eq_false_iff]
            intro h
            simp only [Bool.and_true,Bool.and_eq_true,beq_iff_eq] at h
            exact a3 h
          rw [this];simp
      · rw [hi4,jW a2];simp
    · rw [Um a1];simp
theorem O1 (W : Wf t l) (V : Wf u lu) {is : List Bool} (hl : is.length = t.au.length) : ∀ (e k : Nat), k + e = t.au.length →
    Ev2 (fun n m=>dJ.l0 n t u is m (k:Int)) (if tell (∀q,k≤q→is.getD q false=true→tK t u q)=true then .inr () else .inl false):=by
  intro e
  induction e with
  | zero =>
    intro k hk
    refine Ev2.pure fun n m=>?_
    rw [dJ.l0, if_neg (by simp; omega), if_pos (mY (fun q h1 h2 => by
      rw [List.getD_eq_getElem?_getD,List.getElem?_eq_none (by omega)] at h2
      cases h2))]
  | succ e ih =>
    intro k hk
    have hlt:k<t.au.length:=by omega
    obtain ⟨K3,h3⟩:=ih (k+1) (by omega)
    have hfew:=W.few
    have hset:(∀q,k≤q→is.getD q false=true→tK t u q)↔(is.getD k false=true→tK t u k)∧∀q,k+1≤q→is.getD q false=true→tK t u q:=
      ⟨fun h => ⟨h k (Nat.le_refl _), fun q h1 h2 => h q (by omega) h2⟩, fun h q h1 h2 => by
        by_cases e:q=k
        · subst e;exact h.1 h2
        · exact h.2 q (by omega) h2⟩
    rw [jw hset]
    have r1:∀n m,dJ.l0 n t u is (m+1) (k:Int)=_:=fun n m=>by
      rw [dJ.l0,if_pos (by simp;omega),if_pos (by omega),if_pos (fun _=>by omega),fF hlt (by omega),if_pos (show (0:Int)≤(k:Int)∧(k:Int)<(t.au.length:Int) by omega),ig (z:=false),oQ]
    have skip:(is.getD k false=true→tK t u k)→tell ((is.getD k false=true→tK t u k)∧∀q,k+1≤q→is.getD q false=true→tK t u q)=tell (∀q,k+1≤q→is.getD q false=true→tK t u q):=fun h=>jw ⟨fun g=>g.2,fun g=>⟨h,g⟩⟩
    by_cases hm:is.getD k false=true
    · by_cases hn:gy (dAt t k)=true
      · have hN:dZ.f (dAt t k)=some true:=by rw [←hn];rfl
        obtain ⟨K1,h1⟩:=CB V.few (dAt t k).aF
        by_cases h0:0≤qX u (dAt t k).aF
        · obtain ⟨j,ej,hj,hnj,hname⟩:=uM h0
          obtain ⟨K2,h2⟩:=OZ W V hlt hj hn
          have htl:(if tell ((is.getD k false=true→tK t u k)∧∀q,k+1≤q→is.getD q false=true→tK t u q)=true then (.inr ():Bool⊕Unit) else .inl false)=if tell (tK t u k)=true then (if tell (∀q,k+1≤q→is.getD q false=true→tK t u q)=true then .inr () else .inl false) else .inl false:=by
            by_cases hC:tK t u k
            · rw [skip (fun _=>hC),if_pos (mY hC)]
            · rw [jW (fun g=>hC (g.1 hm)),jW hC]
              rfl
          refine ⟨K1+K2+K3+1,fun n m hn' hm'=>?_⟩
          obtain ⟨m,rfl⟩:∃q,m=q+1:=⟨m-1,by omega⟩
          show dJ.l0 n t u is (m+1) (k:Int)=_
          rw [htl,r1,hm,hN]
          simp only [Bool.not_true,beq_self_eq_true,Bool.and_self,if_true,Option.bind_some,Bool.or_self,Bool.false_eq_true,if_false]
          rw [show dW.f n u _=_ from h1 n (by omega),ej]
          simp only [Option.bind_some]
          rw [show decide (((j:Nat):Int)<0)=false from decide_eq_false (by omega),if_pos (fun _=>by omega),if_pos (fun _=>by omega),oQ]
          simp only [beq_self_eq_true,Bool.and_self,if_true]
          rw [show dI.f n t (dAt t k) u (dAt u j)=_ from h2 n (by omega)]
          simp only [Option.bind_some,Bool.false_or]
          have hc : tell (qU t (dAt t k) u (dAt u j)) = tell (tK t u k) := jw ⟨fun h _ => ⟨j, hj, hnj, h⟩, fun h => by
            obtain ⟨j',hj',hn',ha⟩:=h hn
            have:=sU V hj hj' hnj hn' (by rw [hname,ha.name])
            subst this
            exact ha⟩
          rw [hc]
          by_cases hC:tK t u k
          · rw [mY hC,if_neg (by simp),if_pos rfl]
            exact h3 n m (by omega) (by omega)
          · rw [jW hC]
            rfl
        · have hno:¬tK t u k:=fun h=>by
            obtain ⟨j',hj',hn',ha⟩:=h hn
            exact Ah h0 j' hj' hn' ha.name.symm
          refine ⟨K1+1,fun n m hn' hm'=>?_⟩
          obtain ⟨m,rfl⟩:∃q,m=q+1:=⟨m-1,by omega⟩
          show dJ.l0 n t u is (m+1) (k:Int)=_
          rw [jW (fun g=>hno (g.1 hm)),r1,hm,hN]
          simp only [Bool.not_true,beq_self_eq_true,Bool.and_self,if_true,Option.bind_some,Bool.or_self,Bool.false_eq_true,if_false]
          rw [show dW.f n u _=_ from h1 n (by omega)]
          simp only [Option.bind_some]
          rw [show decide (qX u (dAt t k).aF<0)=true from decide_eq_true (by omega)]
          simp
      · have hN:dZ.f (dAt t k)=some false:=by
          have:gy (dAt t k)=false:=by simpa using hn
          rw [←this];rfl
        refine ⟨K3+1,fun n m hn' hm'=>?_⟩
        obtain ⟨m,rfl⟩:∃q,m=q+1:=⟨m-1,by omega⟩
        show dJ.l0 n t u is (m+1) (k:Int)=_
        rw [skip (fun _ h=>absurd h hn),r1,hm,hN]
        simp only [Bool.not_true,Bool.not_false,beq_self_eq_true,Bool.and_self,if_true,Option.bind_some,Bool.or_true]
        exact h3 n m (by omega) (by omega)
    · have hm:is.getD k false=false:=by simpa using hm
      refine ⟨K3+1,fun n m hn' hm'=>?_⟩
      obtain ⟨m,rfl⟩:∃q,m=q+1:=⟨m-1,by omega⟩
      show dJ.l0 n t u is (m+1) (k:Int)=_
      rw [skip (fun h=>by rw [hm] at h;cases h),r1,hm]
      simp only [Bool.not_false,show (true==false)=false from rfl,Bool.and_false,Bool.false_eq_true,if_false,Option.bind_some,Bool.true_or,if_true]
      exact h3 n m (by omega) (by omega)
theorem O4 (hF : ∀ d ∈ t.au, Ce d) (hG : ∀ d ∈ u.au, Ce d) (a b : Int) : Ev (fun k => dJ.f k t a u b) (tell (EqX t a u b)) := by
  have hno:∀{t:aQ} {a:Int} {e:Int},e≠0→Ev (fun k=>jY.f k t a) e→(∀d∈t.au,Ce d)→∀i,¬Typ t a i:=fun {t a e} he hg hF i hi=>by
    rcases QG hF a with ⟨_,_,_,_,_,_,h0⟩|⟨_,_,hn,_⟩
    · exact he (hg.uniq h0)
    · exact hn i hi
  rcases EM hF a with ⟨e,he,g1,⟨K1,h1⟩⟩|⟨i,l,rfl,hi,W,hv,_,g1,⟨K1,h1⟩⟩
  · refine ⟨K1,fun k hk=>?_⟩
    show dJ.f k t a u b=_
    unfold dJ.f
    rw [show fO.f k t a=_ from h1 k (by omega)]
    simp only [Option.bind_some]
    rw [show (e != 0) = true from by simpa using he, jW (fun h => by
      obtain ⟨i',j',hi',hj',h⟩:=h
      exact hno he g1 hF i' hi')]
    rfl
  · rcases EM hG b with ⟨e,he,g2,⟨K2,h2⟩⟩|⟨j,m,rfl,hj,V,hv2,_,g2,⟨K2,h2⟩⟩
    · refine ⟨K1+K2,fun k hk=>?_⟩
      show dJ.f k t (i:Int) u b=_
      unfold dJ.f
      rw [show fO.f k t (i:Int)=_ from h1 k (by omega)]
      simp only [Option.bind_some,bne_self_eq_false,beq_self_eq_true,Bool.and_self,if_true,Bool.false_or]
      rw [show fO.f k u b=_ from h2 k (by omega)]
      simp only [Option.bind_some]
      rw [show (e != 0) = true from by simpa using he, jW (fun h => by
        obtain ⟨i',j',hi',hj',h⟩:=h
        exact hno he g2 hG j' hj')]
      rfl
    · obtain ⟨s,e1,⟨K3,h3⟩,_⟩:=Ak W t.au.length i (by have:=W.few;omega) hi (W.ends _ (getD_mem hi))
      obtain ⟨s2,e2,⟨K4,h4⟩,_⟩:=Ak V u.au.length j (by have:=V.few;omega) hj (V.ends _ (getD_mem hj))
      rw [←GZ e1] at h3
      rw [←GZ e2] at h4
      have hX : EqX t (i : Int) u (j : Int) ↔ EqS t i u j := ⟨fun h => by
        obtain ⟨i',j',hi',hj',h⟩:=h
        have e1:i=i':=Int.ofNat.inj hi'.1
        have e2:j=j':=Int.ofNat.inj hj'.1
        subst e1 e2
        exact h, fun h => ⟨i, j, ⟨X, hi, l, W⟩, ⟨X, hj, m, V⟩, h⟩⟩
      rw [jw hX]
      obtain ⟨is,⟨K5,h5⟩,hlen,hmark⟩:=QZ W hi
      obtain ⟨K6,h6⟩:=(O1 W V hlen t.au.length 0 (by omega)).diag
      refine ⟨K1+K2+K3+K4+K5+K6,fun k hk=>?_⟩
      show dJ.f k t (i:Int) u (j:Int)=_
      unfold dJ.f
      rw [show fO.f k t (i:Int)=_ from h1 k (by omega)]
      simp only [Option.bind_some,bne_self_eq_false,beq_self_eq_true,Bool.and_self,if_true,Bool.false_or]
      rw [show fO.f k u (j:Int)=_ from h2 k (by omega)]
      simp only [Option.bind_some,bne_self_eq_false,beq_self_eq_true,Bool.and_self,if_true,Bool.false_or]
      rw [show dn.f k t (i:Int)=_ from h3 k (by omega),show dn.f k u (j:Int)=_ from h4 k (by omega)]
      simp only [Option.bind_some]
      by_cases c:tx t i=tx u j
      · rw [gq.2 c,if_neg (by simp),show bZ.f k t [((i:Nat):Int)]=_ from h5 k (by omega)]
        simp only [Option.bind_some]
        rw [show dJ.l0 k t u is k 0=_ from h6 k (by omega)]
        rw [jw (p:=∀q,0≤q→is.getD q false=true→tK t u q) (q:=EqS t i u j) ⟨fun h=>⟨c,fun q hr=>h q (by omega) ((hmark q).2 hr)⟩,fun h q _ hr=>h.2 q ((hmark q).1 hr)⟩]
        cases tell (EqS t i u j)<;>rfl
      · rw [if_pos (by
          cases hs:strEq (tx t i) (tx u j) with
          |false=>rfl
          | true => exact absurd (gq.1 hs) c), jW (fun h => c h.1)]
end
def O5 (a:List ByteArray) (s:ByteArray):Int:=if a.any (fun x=>strEq x s)=true then ((a.findIdx (fun x=>strEq x s):Nat):Int) else-1
theorem Q5 {a:List ByteArray} {s:ByteArray} (hl:a.length≤9223372036854775807):∀(e j m:Nat),j+e=a.length→e<m→
    eY.l0 a s m (j:Int)=some (if (a.drop j).any (fun x=>strEq x s)=true then .inl (((j+(a.drop j).findIdx (fun x=>strEq x s):Nat)):Int) else .inr ()):=by
  intro e
  induction e with
  | zero =>
    intro j m hj hm
    obtain ⟨m,rfl⟩:∃q,m=q+1:=⟨m-1,by omega⟩
    rw [eY.l0,if_neg (by simp;omega),List.drop_eq_nil_of_le (by omega)]
    rfl
  | succ e ih =>
    intro j m hj hm
    obtain ⟨m,rfl⟩:∃q,m=q+1:=⟨m-1,by omega⟩
    have hlt:j<a.length:=by omega
    rw [eY.l0,if_pos (by simp;omega),if_pos (by omega),ig,jV ByteArray.empty hlt]
    cases hb:strEq (a.getD j ByteArray.empty) s with
    | true =>
      rw [if_pos rfl]
      simp only [List.any_cons,hb,Bool.true_or,if_true,List.findIdx_cons,cond_true,Nat.add_zero]
    | false =>
      rw [if_neg (by simp),fF hlt hl,ih (j+1) m (by omega) (by omega)]
      simp only [List.any_cons,hb,Bool.false_or,List.findIdx_cons,cond_false]
      split
      · congr 2;omega
      · rfl
theorem pos_at {a:List ByteArray} {s:ByteArray} (hl:a.length≤9223372036854775807) {k:Nat} (hk:a.length<k):eY.f k a s=some (O5 a s):=by
 unfold eY.f O5
 have:=Q5 (s:=s) hl a.length 0 k (by omega) hk
 rw [show eY.l0 a s k 0=_ from this,List.drop_zero]
 cases a.any (fun x=>strEq x s)<;>simp
theorem J5 {a:List ByteArray} {s:ByteArray}:O5 a s<0↔s∉a:=by
 unfold O5
 split
 ·next h=>
  obtain ⟨x,hx,e⟩:=List.any_eq_true.1 h
  rw [gq.1 e] at hx
  exact ⟨fun h=>by omega,fun h=>absurd hx h⟩
 ·next h=>exact ⟨fun _ hm=>h (List.any_eq_true.2 ⟨s,hm,gq.2 rfl⟩),fun _=>by omega⟩
theorem O6 {a:List ByteArray} {s:ByteArray} {q:Nat} (hq:q<a.length) (h:a.getD q ByteArray.empty=s) (hn:∀r,r<q→a.getD r ByteArray.empty≠s):O5 a s=(q:Int):=by
 have hm:s∈a:=by rw [←h];exact getD_mem hq
 unfold O5
 rw [if_pos (show a.any (fun x=>strEq x s)=true from List.any_eq_true.2 ⟨s,hm,gq.2 rfl⟩)]
 have hlt:a.findIdx (fun x=>strEq x s)<a.length:=List.findIdx_lt_length_of_exists ⟨s,hm,gq.2 X⟩
 have hg:=List.findIdx_getElem (w:=hlt)
 have hg:a[a.findIdx (fun x=>strEq x s)]=s:=gq.1 hg
 have hge:¬a.findIdx (fun x=>strEq x s)<q:=fun h2=>hn _ h2 (by rw [List.getD_eq_getElem?_getD,List.getElem?_eq_getElem hlt];exact hg)
 have hle:¬q<a.findIdx (fun x=>strEq x s):=fun h2=>by
  have h3:=List.not_of_lt_findIdx h2
  rw [List.getD_eq_getElem?_getD,List.getElem?_eq_getElem hq] at h
  have h4:strEq a[q] s=true:=gq.2 h
  rw [h4] at h3
  cases h3
 congr 1
 omega
section
variable {t u:aQ} {l lu:List Int}
noncomputable def txL (t:aQ):List ByteArray:=(List.range t.au.length).map (tx t)
theorem yG (t:aQ):(txL t).length=t.au.length:=by unfold txL;simp
theorem WZ (W:Wf t l) {i:Nat} (hi:i<t.au.length):Ev (fun k=>dn.f k t (i:Int)) (tx t i):=by
 obtain ⟨s,e1,e2,_⟩:=Ak W t.au.length i (by have:=W.few;omega) hi (W.ends _ (getD_mem hi))
 rwa [←GZ e1] at e2
theorem LH (W:Wf t l):∀(e j:Nat) (p:List ByteArray),j+e=t.au.length→p.length=j→Ev2 (fun k m=>dV.l0 k t m (j:Int) p) (p++(List.range' j e).map (tx t)):=by
  have hn:=W.few
  intro e
  induction e with
  | zero =>
    intro j p hj hp
    refine Ev2.pure fun k m=>?_
    rw [dV.l0,if_neg (by simp;omega)]
    simp
  | succ e ih =>
    intro j p hj hp
    have hlt:j<t.au.length:=by omega
    refine Ev2.step (WZ W hlt) (r:=fun k m v1=>if p.length+1≤4294967296 then (dV.l0 k t m ((j+1:Nat):Int) (p++([v1]:List ByteArray))) else none) ?_ (fun k m=>?_)
    · obtain ⟨K,hK⟩:=ih (j+1) (p++[tx t j]) (by omega) (by simp;omega)
      refine ⟨K,fun k m hk hm=>?_⟩
      show (if p.length+1≤4294967296 then _ else none)=_
      rw [if_pos (by omega),show dV.l0 k t m ((j+1:Nat):Int) _=_ from hK k m hk hm,List.range'_succ]
      simp
    · rw [dV.l0,if_pos (by simp;omega),fF hlt (by omega)]
theorem FZ (W:Wf t l):Ev (fun k=>dV.f k t) (txL t):=by
 obtain ⟨K,hK⟩:=(LH W t.au.length 0 [] (by omega) rfl).diag
 refine ⟨K,fun k hk=>?_⟩
 show dV.f k t=_
 unfold dV.f
 rw [show dV.l0 k t k 0 []=_ from hK k hk]
 unfold txL
 rw [List.range_eq_range']
 rfl
end
noncomputable def zB:List ByteArray→List ByteArray→List ByteArray
 |out,[]=>out
 |out,s::r=>if tell (s∈out)=true then zB out r else zB (out++[s]) r
theorem O7 {a b : List ByteArray} (ha : a.length ≤ 200) (hb : b.length ≤ 200) : ∀ (e j : Nat) (out : List ByteArray), j + e = a.length + b.length → out.length ≤ j → Ev2 (fun k m => dh.l0 k a b m (j : Int) out) (zB out ((a ++ b).drop j)) := by
  have hw:IntKind.wrap .i64 ((a.length:Int)+(b.length:Int))=((a.length+b.length:Nat):Int):=by rw [yE (by omega) (by omega)];simp
  intro e
  induction e with
  | zero =>
    intro j out hj ho
    refine Ev2.pure fun k m=>?_
    rw [dh.l0,hw,if_neg (by simp only [decide_eq_true_eq];omega),List.drop_eq_nil_of_le (by rw [List.length_append];omega)]
    rfl
  | succ e ih =>
    intro j out hj ho
    have hlt:j<(a++b).length:=by rw [List.length_append];omega
    have hs:∀(β:Type) (g:ByteArray→Option β),(((if (decide ((j:Int)<(a.length:Int)))=true then (if 0≤(j:Int)∧(j:Int)<a.length then (some (rd ByteArray.empty a (j:Int))) else none) else (if 0≤(IntKind.wrap .i64 ((j:Int)-(a.length:Int)))∧(IntKind.wrap .i64 ((j:Int)-(a.length:Int)))<b.length then (some (rd ByteArray.empty b (IntKind.wrap .i64 ((j:Int)-(a.length:Int))))) else none)):Option (ByteArray)).bind g)=g ((a++b).getD j ByteArray.empty):=by
      intro β g
      by_cases h:j<a.length
      · rw [if_pos (by simp only [decide_eq_true_eq];omega),if_pos (by omega),ig,Option.bind_some,List.getD_eq_getElem?_getD,List.getD_eq_getElem?_getD,List.getElem?_append_left h]
      · have e1:IntKind.wrap .i64 ((j:Int)-(a.length:Int))=((j-a.length:Nat):Int):=by rw [yE (by omega) (by omega)];omega
        rw [if_neg (by simp only [decide_eq_true_eq];omega),e1,if_pos (by omega),ig,Option.bind_some,List.getD_eq_getElem?_getD,List.getD_eq_getElem?_getD,List.getElem?_append_right (by omega)]
    rw [jV ByteArray.empty hlt]
    by_cases hm:(a++b).getD j ByteArray.empty∈out
    · obtain ⟨K,hK⟩:=ih (j+1) out (by omega) (by omega)
      refine ⟨K+500,fun k m hk hm'=>?_⟩
      obtain ⟨m,rfl⟩:∃q,m=q+1:=⟨m-1,by omega⟩
      show dh.l0 k a b (m+1) (j:Int) out=_
      rw [dh.l0,hw,if_pos (by simp only [decide_eq_true_eq];omega),hs,pos_at (by omega) (by omega)]
      simp only [Option.bind_some]
      rw [if_neg (by simp only [decide_eq_true_eq,J5];exact fun h=>h hm),fF (n:=a.length+b.length) (by omega) (by omega),show dh.l0 k a b m ((j+1:Nat):Int) out=_ from hK k m (by omega) (by omega),zB,if_pos (mY hm)]
    · obtain ⟨K,hK⟩:=ih (j+1) (out++[(a++b).getD j ByteArray.empty]) (by omega) (by simp;omega)
      refine ⟨K+500,fun k m hk hm'=>?_⟩
      obtain ⟨m,rfl⟩:∃q,m=q+1:=⟨m-1,by omega⟩
      show dh.l0 k a b (m+1) (j:Int) out=_
      rw [dh.l0,hw,if_pos (by simp only [decide_eq_true_eq];omega),hs,pos_at (by omega) (by omega)]
      simp only [Option.bind_some]
      rw [if_pos (by simp only [decide_eq_true_eq,J5];exact hm),if_pos (by omega),fF (n:=a.length+b.length) (by omega) (by omega),show dh.l0 k a b m ((j+1:Nat):Int) _=_ from hK k m (by omega) (by omega),zB,if_neg (by rw [jW hm];simp)]
theorem O8 {a b:List ByteArray} (ha:a.length≤200) (hb:b.length≤200):Ev (fun k=>dh.f k a b) (zB [] (a++b)):=by
 obtain ⟨K,hK⟩:=(O7 ha hb (a.length+b.length) 0 [] (by omega) (by simp)).diag
 refine ⟨K,fun k hk=>?_⟩
 show dh.f k a b=_
 unfold dh.f
 rw [show dh.l0 k a b k 0 []=_ from hK k hk]
 rfl
theorem F5:∀(a:List ByteArray) (b out:List ByteArray),zB out (a++b)=zB (zB out a) b
  |[],b,out=>rfl
  | s :: a, b, out => by
    rw [List.cons_append,zB,zB]
    split
    · exact F5 a b out
    · exact F5 a b _
theorem Ji {a all:List ByteArray} (ha:a.length≤200) (hl:all.length≤400):∀(e j:Nat) (p:List Int),j+e=a.length→p.length=j→Ev2 (fun k m=>dM.l0 k a all m (j:Int) p) (p++(a.drop j).map (O5 all)):=by
  intro e
  induction e with
  | zero =>
    intro j p hj hp
    refine Ev2.pure fun k m=>?_
    rw [dM.l0,if_neg (by simp;omega),List.drop_eq_nil_of_le (by omega)]
    simp
  | succ e ih =>
    intro j p hj hp
    have hlt:j<a.length:=by omega
    obtain ⟨K,hK⟩:=ih (j+1) (p++[O5 all (a.getD j ByteArray.empty)]) (by omega) (by simp;omega)
    refine ⟨K+500,fun k m hk hm'=>?_⟩
    obtain ⟨m,rfl⟩:∃q,m=q+1:=⟨m-1,by omega⟩
    show dM.l0 k a all (m+1) (j:Int) p=_
    rw [dM.l0,if_pos (by simp;omega),if_pos (by omega),ig,pos_at (by omega) (by omega)]
    simp only [Option.bind_some]
    rw [if_pos (by omega),fF hlt (by omega),show dM.l0 k a all m ((j+1:Nat):Int) _=_ from hK k m (by omega) (by omega),jV ByteArray.empty hlt]
    simp
theorem D5 {a all:List ByteArray} (ha:a.length≤200) (hl:all.length≤400):Ev (fun k=>dM.f k a all) (a.map (O5 all)):=by
 obtain ⟨K,hK⟩:=(Ji ha hl a.length 0 [] (by omega) rfl).diag
 refine ⟨K,fun k hk=>?_⟩
 show dM.f k a all=_
 unfold dM.f
 rw [show dM.l0 k a all k 0 []=_ from hK k hk]
 rfl
theorem Jj {d:aZ} {to:List Int} (hl:d.ak.length≤32) (h4:d.aA=4→∀f∈d.ak,0≤f.vType∧f.vType<to.length):∀(e j m:Nat) (p:List bf),j+e=d.ak.length→e<m→p.length=j→
    fM.l0 d to m (j:Int) p=some (p++(d.ak.drop j).map fun f=>(⟨f.aF,if d.aA=4 then rd 0 to f.vType else f.vType,f.vAt⟩:bf)):=by
  intro e
  induction e with
  | zero =>
    intro j m p hj hm hp
    obtain ⟨m,rfl⟩:∃q,m=q+1:=⟨m-1,by omega⟩
    rw [fM.l0,if_neg (by simp;omega),List.drop_eq_nil_of_le (by omega)]
    simp
  | succ e ih =>
    intro j m p hj hm hp
    obtain ⟨m,rfl⟩:∃q,m=q+1:=⟨m-1,by omega⟩
    have hlt:j<d.ak.length:=by omega
    rw [fM.l0,if_pos (by simp;omega),if_pos (by omega),ig]
    have hx:(if (d.aA==4)=true then (if 0≤(d.ak.getD j aj).vType∧(d.ak.getD j aj).vType<to.length then (some (rd 0 to ((d.ak.getD j aj).vType))) else none) else (some ((d.ak.getD j aj).vType)):Option (Int))=some (if d.aA=4 then rd 0 to (d.ak.getD j aj).vType else (d.ak.getD j aj).vType):=by
      by_cases h:d.aA=4
      · rw [if_pos (Oq h),if_pos (h4 h _ (getD_mem hlt)),if_pos h]
      · rw [if_neg (Pv h),if_neg h]
    rw [hx]
    simp only [Option.bind_some]
    rw [if_pos (by omega),fF hlt (by omega),ih (j+1) m _ (by omega) (by omega) (by simp;omega),jV aj hlt]
    simp
theorem Hu {d:aZ} {n:Nat} {to:List Int} (hd:ShD d n) (hn:n=to.length) {k:Nat} (hk:40≤k):fM.f k d to=some (mvS (fun c=>rd 0 to c) d):=by
 unfold fM.f
 have hfew:=hd.few
 have hx:(if (((d.aA==2)||(d.aA==3))||(d.aA==6))=true then (if 0≤d.bY∧d.bY<to.length then (some (rd 0 to d.bY)) else none) else (some d.bY):Option (Int))=some (if isRef d.aA then rd 0 to d.bY else d.bY):=by
  by_cases h:isRef d.aA
  ·have h2:d.aA=2∨d.aA=3∨d.aA=6:=h
   have hr:=hd.ref h2
   rw [if_pos (by simp only [Bool.or_eq_true,beq_iff_eq];omega),if_pos (by omega),if_pos h]
  ·rw [if_neg (by simp only [Bool.or_eq_true,beq_iff_eq];unfold isRef at h;omega),if_neg h]
 rw [hx,Option.bind_some,show fM.l0 d to k 0 []=_ from Jj hfew (fun h4 f hf=>by have:=hd.typ h4 f hf;omega) d.ak.length 0 k [] (by omega) (by omega) rfl]
 simp only [Option.bind_some,List.nil_append,List.drop_zero]
 unfold mvS
 by_cases h4:d.aA=4
 ·simp only [h4,if_true]
 ·simp only [if_neg h4]
  rw [show (d.ak.map fun f => (⟨f.aF, f.vType, f.vAt⟩ : bf)) = d.ak from by
   have:∀f∈d.ak,(⟨f.aF,f.vType,f.vAt⟩:bf)=f:=fun f _=>rfl
   rw [List.map_congr_left this, List.map_id']]
noncomputable def txs (l:List dR):List ByteArray:=l.map fun x=>tx x.vt x.vi.toNat
theorem xw (l:List dR):(txs l).length=l.length:=List.length_map ..
theorem J6 {l:List dR} {q:Nat} (hq:q<l.length):(txs l).getD q ByteArray.empty=xS (toS l) q:=by
 unfold txs xS
 rw [(DV hq).1,(DV hq).2,List.getD_eq_getElem?_getD,List.getElem?_map,List.getD_eq_getElem?_getD,List.getElem?_eq_getElem hq];rfl
theorem Ui {l:List dR} {s:ByteArray}:(∃q,q<l.length∧xS (toS l) q=s)↔s∈txs l:=by
 constructor
 ·rintro ⟨q,hq,h⟩
  rw [←h,←J6 hq]
  exact getD_mem (by rw [xw];exact hq)
 ·intro h
  obtain ⟨q,hq,e⟩:=List.mem_iff_getElem.1 h
  rw [xw] at hq
  refine ⟨q,hq,?_⟩
  rw [←J6 hq,List.getD_eq_getElem?_getD,List.getElem?_eq_getElem (by rw [xw];exact hq)]
  exact e
theorem Am (t:aQ):∀(is:List Nat) (l:List dR),txs (JW t l is)=zB (txs l) (is.map (tx t))
  |[],l=>rfl
  | i :: is, l => by
    rw [JW,List.map_cons,zB,jw Ui]
    split
    · exact Am t is l
    · rw [Am t is _]
      congr 1
      unfold txs
      rw [List.map_append]
      rfl
theorem Ap (t:aQ):∀(is:List Nat) (l:List dR),∃r,JW t l is=l++r
  |[],l=>⟨[],by rw [List.append_nil];rfl⟩
  | i :: is, l => by
    rw [JW]
    split
    · exact Ap t is l
    · obtain ⟨r,hr⟩:=Ap t is (l++[⟨t,(i:Int)⟩])
      exact ⟨⟨t,(i:Int)⟩::r,by rw [hr,List.append_assoc];rfl⟩
section
variable {t u:aQ} {s r:List Int} {m:List (ByteArray×Int)} {l:List dR}
theorem Q7 (P:Pool m l) {x:ByteArray} {q:Nat} (hq:q<l.length) (h:xS (toS l) q=x):O5 (txs l) x=(q:Int):=
 O6 (by rw [xw]; exact hq) ((J6 hq).trans h) (fun k hk he => by
  have hk':k<l.length:=by omega
  rw [J6 hk'] at he
  have:=P.inj hk' hq (he.trans h.symm)
  omega)
theorem VF (P:Pool m l) {x:ByteArray} {q:Nat} (hq:q<l.length) (h:xS (toS l) q=x):KX m x=(q:Int):=by
 unfold KX
 rw [←h,P.all q hq];rfl
theorem D6 (P:Pool m l) {x:List Int} (hl:x.length=t.au.length) (h:∀i,i<t.au.length→∃q:Nat,x.getD i 0=(q:Int)∧q<l.length∧xS (toS l) q=tx t i):(txL t).map (O5 (txs l))=x:=by
 refine FP (by rw [List.length_map,yG,hl]) (fun i hi=>?_)
 rw [List.length_map,yG] at hi
 obtain ⟨q,e,hq,he⟩:=h i hi
 have h2:(txL t)[i]?=some (tx t i):=by unfold txL;rw [List.getElem?_map,List.getElem?_range hi];rfl
 rw [e,List.getD_eq_getElem?_getD,List.getElem?_map,h2]
 exact Q7 P hq he
theorem O9 {f g:Int→Int} {d:aZ} (h:∀c∈kids d,f c=g c):mvS f d=mvS g d:=by
 unfold mvS
 have h1:(if isRef d.aA then f d.bY else d.bY)=(if isRef d.aA then g d.bY else d.bY):=by
  by_cases hk:isRef d.aA
  ·rw [if_pos hk,if_pos hk];exact h _ (by rw [qo hk];exact List.mem_singleton.2 rfl)
  ·rw [if_neg hk,if_neg hk]
 have h2:(if d.aA=4 then d.ak.map (fun x=>(⟨x.aF,f x.vType,x.vAt⟩:bf)) else d.ak)=(if d.aA=4 then d.ak.map (fun x=>(⟨x.aF,g x.vType,x.vAt⟩:bf)) else d.ak):=by
  by_cases h4:d.aA=4
  ·rw [if_pos h4,if_pos h4]
   refine List.map_congr_left fun x hx=>?_
   rw [h _ (by rw [lN h4];exact List.mem_map.2 ⟨x,hx,rfl⟩)]
  ·rw [if_neg h4,if_neg h4]
 rw [h1,h2]
noncomputable def fP (m:List (ByteArray×Int)) (x:dR):aZ:=mvS (fun c=>KX m (tx x.vt c.toNat)) (dAt x.vt x.vi.toNat)
theorem Q8 {L : List dR} (W : Wf t s) (P : Pool m L) {to : List Int} (hto : to.length = t.au.length) (ht : ∀ i, i < t.au.length → ∃ q : Nat, to.getD i 0 = (q : Int) ∧ q < L.length ∧ xS (toS L) q = tx t i) {a0 : List aZ} (ha0 : a0.length = L.length) :
    ∀(e j:Nat) (l:List dR),j+e=t.au.length→(∃r,JW t l (List.range' j e)++r=L)→Ev2 (fun k q=>dX.l0 k t to a0 q (j:Int) (l.map (fP m)++List.replicate (L.length-l.length) ah)) ((JW t l (List.range' j e)).map (fP m)++List.replicate (L.length-(JW t l (List.range' j e)).length) ah):=by
  have hn:=W.few
  intro e
  induction e with
  | zero =>
    intro j l hj hr
    refine Ev2.pure fun k q=>?_
    rw [dX.l0,if_neg (by simp;omega)]
    rfl
  | succ e ih =>
    intro j l hj hr
    have hlt:j<t.au.length:=by omega
    obtain ⟨q,e1,hq,he⟩:=ht j hlt
    rw [List.range'_succ,JW] at hr⊢
    have h0:∀(k m':Nat) (out:List aZ),dX.l0 k t to a0 (m'+1) (j:Int) out=if ((out.getD q ah).aA==0)=true then ((fM.f k (dAt t j) to).bind fun v1=>dX.l0 k t to a0 m' ((j+1:Nat):Int) (List.set out q v1)) else dX.l0 k t to a0 m' ((j+1:Nat):Int) out:=fun k m' out=>by
      have hrd:rd 0 to (j:Int)=(q:Int):=by rw [ig];exact e1
      rw [dX.l0,if_pos (by simp;omega),if_pos (by omega),hrd,if_pos (by omega),ig,fF hlt (by omega),if_pos (show (0:Int)≤(j:Int)∧(j:Int)<(to.length:Int) by omega),if_pos (show (0:Int)≤(j:Int)∧(j:Int)<(t.au.length:Int) by omega),oQ,Int.toNat_natCast]
      simp only [if_pos (show (0:Int)≤(q:Int)∧(q:Int)<((a0.length:Nat):Int) by omega)]
    by_cases hex:∃q,q<l.length∧xS (toS l) q=tx t j
    · rw [if_pos (mY hex)] at hr⊢
      obtain ⟨K,hK⟩:=ih (j+1) l (by omega) hr
      obtain ⟨r1,hr1⟩:=hr
      obtain ⟨r2,hr2⟩:=Ap t (List.range' (j+1) e) l
      rw [hr2,List.append_assoc] at hr1
      obtain ⟨q1,hq1,he1⟩:=hex
      have hx1:xS (toS L) q1=tx t j:=by rw [←hr1,BA hq1];exact he1
      have hql:q=q1:=P.inj hq (by rw [←hr1,List.length_append];omega) (he.trans hx1.symm)
      subst hql
      have hmem:l.getD q bJ∈L:=by rw [←hr1];exact List.mem_append_left _ (getD_mem hq1)
      obtain ⟨⟨s2,W2⟩,_,h3⟩:=P.src _ hmem
      have hkind:=(W2.sh _ (nT h3)).kind
      have hout:(l.map (fP m)++List.replicate (L.length-l.length) ah).getD q ah=fP m (l.getD q bJ):=by
        rw [List.getD_eq_getElem?_getD,List.getElem?_append_left (by rw [List.length_map];exact hq1),List.getElem?_map,List.getD_eq_getElem?_getD,List.getElem?_eq_getElem hq1];rfl
      refine ⟨K+1,fun k m' hk hm=>?_⟩
      obtain ⟨m',rfl⟩:∃x,m'=x+1:=⟨m'-1,by omega⟩
      show dX.l0 k t to a0 (m'+1) (j:Int) _=_
      have hk0:(fP m (l.getD q bJ)).aA≠0:=by
        show (dAt (l.getD q bJ).vt (l.getD q bJ).vi.toNat).aA≠0
        omega
      rw [h0,hout,if_neg (Pv hk0)]
      exact hK k m' (by omega) (by omega)
    · rw [if_neg (by rw [jW hex];simp)] at hr⊢
      obtain ⟨K,hK⟩:=ih (j+1) (l++[⟨t,(j:Int)⟩]) (by omega) hr
      obtain ⟨r1,hr1⟩:=hr
      obtain ⟨r2,hr2⟩:=Ap t (List.range' (j+1) e) (l++[⟨t,(j:Int)⟩])
      rw [hr2,List.append_assoc] at hr1
      have hlL:l.length<L.length:=by rw [←hr1];simp only [List.length_append,List.length_cons];omega
      have hx1:xS (toS L) l.length=tx t j:=by rw [←hr1,BA (by simp),FW];rfl
      have hql:q=l.length:=P.inj hq hlL (he.trans hx1.symm)
      subst hql
      obtain ⟨N,hN⟩:∃N,L.length-l.length=N+1:=⟨L.length-l.length-1,by omega⟩
      have hout:(l.map (fP m)++List.replicate (L.length-l.length) ah).getD l.length ah=ah:=by
        rw [hN,List.replicate_succ]
        have:=getD_at (l.map (fP m)) ah ah (List.replicate N ah)
        rwa [List.length_map] at this
      have hmv:mvS (fun c=>rd 0 to c) (dAt t j)=fP m ⟨t,(j:Int)⟩:=by
        refine O9 (d:=dAt t j) fun c hc=>?_
        obtain ⟨k1,k2⟩:=oW W hlt hc
        obtain ⟨q2,f1,f2,f3⟩:=ht c.toNat k2
        show rd 0 to c=KX m (tx t c.toNat)
        rw [k1,ig,f1,Int.toNat_natCast,VF P f2 f3]
      have hset:List.set (l.map (fP m)++List.replicate (L.length-l.length) ah) l.length (fP m ⟨t,(j:Int)⟩)=(l++[(⟨t,(j:Int)⟩:dR)]).map (fP m)++List.replicate (L.length-(l++[(⟨t,(j:Int)⟩:dR)]).length) ah:=by
        rw [hN,List.replicate_succ]
        have:=RQ (l.map (fP m)) ah (fP m ⟨t,(j:Int)⟩) (List.replicate N ah)
        rw [List.length_map] at this
        rw [this,List.map_append,List.append_assoc,List.length_append,show L.length-(l.length+[(⟨t,(j:Int)⟩:dR)].length)=N by simp;omega]
        rfl
      refine ⟨K+40,fun k m' hk hm=>?_⟩
      obtain ⟨m',rfl⟩:∃x,m'=x+1:=⟨m'-1,by omega⟩
      show dX.l0 k t to a0 (m'+1) (j:Int) _=_
      rw [h0,hout,if_pos (by rfl),Hu (W.sh _ (nT hlt)) hto.symm (by omega),Option.bind_some,hmv,hset]
      exact hK k m' (by omega) (by omega)
theorem Pg {L:List dR} (W:Wf t s) (P:Pool m L) {to:List Int} (hto:to.length=t.au.length) (ht:∀i,i<t.au.length→∃q:Nat,to.getD i 0=(q:Int)∧q<L.length∧xS (toS L) q=tx t i) {l l':List dR} (hl:l'=JW t l (List.range' 0 t.au.length)) (hr:∃r,l'++r=L):
  Ev (fun k=>dX.f k (l.map (fP m)++List.replicate (L.length-l.length) ah) t to) (l'.map (fP m)++List.replicate (L.length-l'.length) ah):=by
 subst hl
 have hle:l.length≤L.length:=by
  obtain ⟨r1,h1⟩:=hr
  obtain ⟨r2,h2⟩:=Ap t (List.range' 0 t.au.length) l
  rw [←h1,h2];simp only [List.length_append];omega
 obtain ⟨K,hK⟩:=(Q8 W P hto ht (a0:=l.map (fP m)++List.replicate (L.length-l.length) ah) (by simp;omega) t.au.length 0 l (by omega) hr).diag
 refine ⟨K,fun k hk=>?_⟩
 show dX.f k _ t to=_
 unfold dX.f
 rw [show dX.l0 k t to _ k 0 _=_ from hK k hk]
 rfl
theorem LJ {ix:List Int} {m':List (ByteArray×Int)} {l':List dR} (W:Wf t s) (hc:Ev (fun k=>aS.f k t) 0) (A:Added t [] [] 0 ix m' l'):Ev (fun k=>iU.f k t) ⟨I9 m' l',ix,[],0⟩:=by
 have hn:=W.few
 have hlen:=A.len
 have hfew:=A.few
 simp only [List.length_nil,Nat.zero_add,Nat.add_zero] at hlen hfew
 have hord:=A.ord
 rw [Nat.sub_zero] at hord
 have hat:∀i,i<t.au.length→∃q:Nat,ix.getD i 0=(q:Int)∧q<l'.length∧xS (toS l') q=tx t i:=fun i hi=>by
  obtain ⟨q,a,b,c⟩:=A.at_ i (by omega)
  exact ⟨q,a,b,by rw [c,Nat.zero_add]⟩
 obtain ⟨K0,h0⟩:=hc
 obtain ⟨K1,h1⟩:=FZ W
 obtain ⟨K2,h2⟩:=O8 (a:=txL t) (b:=[]) (by rw [yG];omega) (by simp)
 have hall:zB [] (txL t++[])=txs l':=by
  rw [List.append_nil,hord,Am]
  unfold txL
  rw [List.range_eq_range']
  rfl
 rw [hall] at h2
 obtain ⟨K3,h3⟩:=D5 (a:=txL t) (all:=txs l') (by rw [yG];omega) (by rw [xw];omega)
 rw [D6 A.pool hlen hat] at h3
 obtain ⟨K4,h4⟩:=Pg W A.pool hlen hat hord ⟨[],by rw [List.append_nil]⟩
 refine ⟨K0+K1+K2+K3+K4,fun k hk=>?_⟩
 show iU.f k t=_
 unfold iU.f
 rw [show aS.f k t=_ from h0 k (by omega)]
 simp only [Option.bind_some]
 rw [if_neg (by decide),show dV.f k t=_ from h1 k (by omega)]
 simp only [Option.bind_some]
 rw [show dh.f k (txL t) []=_ from h2 k (by omega)]
 simp only [Option.bind_some]
 rw [show dM.f k (txL t) (txs l')=_ from h3 k (by omega),xw]
 simp only [Option.bind_some]
 rw [if_pos (by omega),Int.toNat_natCast]
 have:=h4 k (by omega)
 simp only [List.map_nil,List.nil_append,List.length_nil,Nat.sub_zero,Nat.sub_self,List.replicate_zero,List.append_nil] at this
 rw [show dX.f k (List.replicate l'.length ah) t ix=_ from this]
 rfl
theorem Q9 (W : Wf t s) (V : Wf u r) : ∀ (e j : Nat), j + e = t.au.length → Ev2 (fun k m => dK.l0 k t u m (j : Int)) (if tell (∀ i, j ≤ i → i < t.au.length → vH t u i) = true then .inr () else .inl ⟨⟨[]⟩, [], [], 82⟩) := by
  have hn:=W.few
  intro e
  induction e with
  | zero =>
    intro j hj
    rw [if_pos (mY (fun i h1 h2=>by omega))]
    refine Ev2.pure fun k m=>?_
    rw [dK.l0,if_neg (by simp;omega)]
  | succ e ih =>
    intro j hj
    have hlt:j<t.au.length:=by omega
    obtain ⟨K,hK⟩:=ih (j+1) (by omega)
    have step : vH t u j → tell (∀ i, j ≤ i → i < t.au.length → vH t u i) = tell (∀ i, j + 1 ≤ i → i < t.au.length → vH t u i) := fun hc => jw ⟨fun h i h1 h2 => h i (by omega) h2, fun h i h1 h2 => by
      by_cases e:i=j
      · subst e;exact hc
      · exact h i (by omega) h2⟩
    by_cases hnm:gy (dAt t j)=true
    · have hN:dZ.f (dAt t j)=some true:=by rw [←hnm];rfl
      obtain ⟨K1,h1⟩:=CB V.few (dAt t j).aF
      by_cases h0:0≤qX u (dAt t j).aF
      · obtain ⟨q,e0,hq,hnq,hname⟩:=uM h0
        obtain ⟨K2,h2⟩:=O4 W.fit V.fit (j:Int) (q:Int)
        have hX : EqX t (j : Int) u (q : Int) ↔ EqS t j u q := ⟨fun h => by
          obtain ⟨i',j',hi',hj',h⟩:=h
          have e1:j=i':=Int.ofNat.inj hi'.1
          have e2:q=j':=Int.ofNat.inj hj'.1
          subst e1 e2
          exact h, fun h => ⟨j, q, ⟨X, hlt, s, W⟩, ⟨X, hq, r, V⟩, h⟩⟩
        rw [jw hX] at h2
        have hcomp : vH t u j ↔ EqS t j u q := ⟨fun h => h hnm q hq hnq hname.symm, fun h _ q' hq' hn' e' => by
          have:=sU V hq hq' hnq hn' (by rw [hname,e'])
          subst this; exact h⟩
        refine ⟨K+K1+K2+1,fun k m hk hm=>?_⟩
        obtain ⟨m,rfl⟩:∃x,m=x+1:=⟨m-1,by omega⟩
        show dK.l0 k t u (m+1) (j:Int)=_
        rw [dK.l0,if_pos (by simp;omega),if_pos (by omega),oQ,hN]
        simp only [Option.bind_some,if_true]
        rw [if_pos (by omega),show dW.f k u _=_ from h1 k (by omega),e0]
        simp only [Option.bind_some]
        rw [show decide (((q:Nat):Int)≥0)=true from decide_eq_true (by omega)]
        simp only [beq_self_eq_true,Bool.and_self,if_true,Bool.true_and]
        rw [show dJ.f k t (j:Int) u (q:Int)=_ from h2 k (by omega)]
        simp only [Option.bind_some]
        by_cases hE:EqS t j u q
        · rw [mY hE,if_neg (by simp),fF hlt (by omega),step (hcomp.2 hE)]
          exact hK k m (by omega) (by omega)
        · rw [jW hE,if_pos (by decide),jW (fun h=>hE (hcomp.1 (h j (Nat.le_refl _) hlt)))]
          rfl
      · have hlt0:qX u (dAt t j).aF<0:=by omega
        have hcomp:vH t u j:=fun _ q hq hnq e=>absurd e.symm (Ah h0 q hq hnq)
        refine ⟨K+K1+1,fun k m hk hm=>?_⟩
        obtain ⟨m,rfl⟩:∃x,m=x+1:=⟨m-1,by omega⟩
        show dK.l0 k t u (m+1) (j:Int)=_
        rw [dK.l0,if_pos (by simp;omega),if_pos (by omega),oQ,hN]
        simp only [Option.bind_some,if_true]
        rw [if_pos (by omega),show dW.f k u _=_ from h1 k (by omega)]
        simp only [Option.bind_some]
        rw [show decide (qX u (dAt t j).aF≥0)=false from decide_eq_false (by omega)]
        simp only [Bool.and_false,Bool.false_eq_true,if_false,Option.bind_some,Bool.false_and,show (false==true)=false from rfl]
        rw [fF hlt (by omega),step hcomp]
        exact hK k m (by omega) (by omega)
    · rw [Bool.not_eq_true] at hnm
      have hN:dZ.f (dAt t j)=some false:=by rw [←hnm];rfl
      refine ⟨K+1,fun k m hk hm=>?_⟩
      obtain ⟨m,rfl⟩:∃x,m=x+1:=⟨m-1,by omega⟩
      show dK.l0 k t u (m+1) (j:Int)=_
      rw [dK.l0,if_pos (by simp;omega),if_pos (by omega),oQ,hN]
      simp only [Option.bind_some,Bool.false_eq_true,if_false]
      rw [show decide ((-1:Int)≥0)=false from rfl]
      simp only [Bool.and_false,Bool.false_eq_true,if_false,Option.bind_some,Bool.false_and,show (false==true)=false from rfl]
      rw [fF hlt (by omega),step (fun h=>by rw [hnm] at h;cases h)]
      exact hK k m (by omega) (by omega)
theorem Ph {m1 m2:List (ByteArray×Int)} {l1 l2:List dR} {x1 x2:List Int} (W:Wf t s) (V:Wf u r) (hc:Ev (fun k=>aS.f k t) 0) (hc2:Ev (fun k=>aS.f k u) 0) (B:Both t u m1 l1 x1 m2 l2 x2) (hl2:l2.length≤400):
  Ev (fun k=>dK.f k t u) (if tell (Jb t u)=true then (if l2.length≤200 then ⟨I9 m2 l2,x1,x2,0⟩ else ⟨⟨[]⟩,[],[],2⟩) else ⟨⟨[]⟩,[],[],82⟩):=by
 have hn:=W.few
 have hn2:=V.few
 have ho1:=B.a.ord
 have ho2:=B.b.ord
 rw [Nat.sub_zero] at ho1 ho2
 obtain ⟨K0,h0⟩:=hc
 obtain ⟨K0',h0'⟩:=hc2
 obtain ⟨Kl,hl⟩:=(Q9 W V t.au.length 0 (by omega)).diag
 have hcc:tell (∀i,0≤i→i<t.au.length→vH t u i)=tell (Jb t u):=jw ⟨fun h i hi hn=>h i (by omega) hi hn,fun h i _ hi hn=>h i hi hn⟩
 rw [hcc] at hl
 obtain ⟨K1,h1⟩:=FZ W
 obtain ⟨K2,h2⟩:=FZ V
 obtain ⟨K3,h3⟩:=O8 (a:=txL t) (b:=txL u) (by rw [yG];omega) (by rw [yG];omega)
 have hall:zB [] (txL t++txL u)=txs l2:=by
  rw [F5,ho2,Am,ho1,Am]
  unfold txL
  rw [List.range_eq_range',List.range_eq_range']
  rfl
 rw [hall] at h3
 obtain ⟨K4,h4⟩:=D5 (a:=txL t) (all:=txs l2) (by rw [yG];omega) (by rw [xw];omega)
 obtain ⟨K5,h5⟩:=D5 (a:=txL u) (all:=txs l2) (by rw [yG];omega) (by rw [xw];omega)
 rw [D6 B.b.pool B.len1 (fun i hi=>B.Xw hi)] at h4
 rw [D6 B.b.pool B.len2 (fun i hi=>B.Xx hi)] at h5
 obtain ⟨K6,h6⟩:=Pg W B.b.pool B.len1 (fun i hi=>B.Xw hi) ho1 (by obtain ⟨r,hr,_⟩:=B.b.ext;exact ⟨r,hr.symm⟩)
 obtain ⟨K7,h7⟩:=Pg V B.b.pool B.len2 (fun i hi=>B.Xx hi) ho2 ⟨[],by rw [List.append_nil]⟩
 refine ⟨K0+K0'+Kl+K1+K2+K3+K4+K5+K6+K7,fun k hk=>?_⟩
 show dK.f k t u=_
 unfold dK.f
 rw [show aS.f k t=_ from h0 k (by omega)]
 simp only [Option.bind_some]
 rw [if_pos (by decide),show aS.f k u=_ from h0' k (by omega)]
 simp only [Option.bind_some]
 rw [if_neg (by decide),show dK.l0 k t u k 0=_ from hl k (by omega)]
 by_cases hC:Jb t u
 ·rw [mY hC,if_pos rfl,if_pos rfl]
  simp only [Option.bind_some]
  rw [show dV.f k t=_ from h1 k (by omega)]
  simp only [Option.bind_some]
  rw [show dV.f k u=_ from h2 k (by omega)]
  simp only [Option.bind_some]
  rw [show dh.f k (txL t) (txL u)=_ from h3 k (by omega)]
  simp only [Option.bind_some,xw]
  by_cases hle:l2.length≤200
  ·rw [if_pos hle,if_neg (by simp;omega),show dM.f k (txL t) (txs l2)=_ from h4 k (by omega)]
   simp only [Option.bind_some]
   rw [show dM.f k (txL u) (txs l2)=_ from h5 k (by omega)]
   simp only [Option.bind_some]
   rw [if_pos (by omega),Int.toNat_natCast]
   have g6:=h6 k (by omega)
   have g7:=h7 k (by omega)
   simp only [List.map_nil,List.nil_append,List.length_nil,Nat.sub_zero,Nat.sub_self,List.replicate_zero,List.append_nil] at g6 g7
   rw [show dX.f k (List.replicate l2.length ah) t x1=_ from g6]
   simp only [Option.bind_some]
   rw [show dX.f k _ u x2=_ from g7]
   rfl
  ·rw [if_neg hle,if_pos (by simp;omega)]
 ·rw [jW hC,if_neg (by decide),if_neg (by decide)]
  rfl
end
section
variable {t u:aQ} {s r:List Int}
theorem Pj (W:Wf t s) {fr:List Nat} (hf:∀i∈fr,i<t.au.length) (hl:fr.length≤200):∃is',Ev (fun k=>bZ.f k t (Ar fr)) is'∧is'.length=t.au.length∧∀k,is'.getD k false=true↔∃i∈fr,Rch t i k:=by
 obtain ⟨is',⟨K,hK⟩,hlen,hm⟩:=Ho W hf
 have hn:=W.few
 have hnl:=FY fr
 have hcf:∀n,cf (List.replicate n false)=n:=by
  intro n
  induction n with
  |zero=>rfl
  |succ n ih=>rw [List.replicate_succ,cf,ih];simp;omega
 refine ⟨is',⟨K+40,fun k hk=>?_⟩,hlen,hm⟩
 show bZ.f k t (Ar fr)=_
 unfold bZ.f
 rw [if_pos (by omega),if_pos (by omega),Int.toNat_natCast,List.nil_append]
 rw [Ht W (by omega) k _ _ is' (by simp) (fun x hx => by
  obtain ⟨i,hi,rfl⟩:=List.mem_map.1 hx
  exact ⟨X, hf i hi⟩) (by rw [hcf]; omega) (hK k (by omega))]
 rfl
theorem VG (W:Wf t s) {a:List ByteArray} (ha:a.length≤200) {fr:List Nat} (hl:fr.length=a.length) (h:∀i,i<a.length→qX t (a.getD i ByteArray.empty)=((fr.getD i 0:Nat):Int)):∀(e j:Nat) (p:List Int),j+e=a.length→p.length=j→
    Ev2 (fun k m=>bH.l0 k t a m (j:Int) p) (.inr (p++Ar (fr.drop j))):=by
  intro e
  induction e with
  | zero =>
    intro j p hj hp
    refine Ev2.pure fun k m=>?_
    rw [bH.l0,if_neg (by simp;omega),List.drop_eq_nil_of_le (by omega)]
    rw [show Ar ([]:List Nat)=[] from rfl,List.append_nil]
  | succ e ih =>
    intro j p hj hp
    have hlt:j<a.length:=by omega
    obtain ⟨K1,h1⟩:=CB W.few (a.getD j ByteArray.empty)
    obtain ⟨K2,h2⟩:=ih (j+1) (p++[((fr.getD j 0:Nat):Int)]) (by omega) (by simp;omega)
    refine ⟨K1+K2+1,fun k m hk hm=>?_⟩
    obtain ⟨m,rfl⟩:∃x,m=x+1:=⟨m-1,by omega⟩
    show bH.l0 k t a (m+1) (j:Int) p=_
    rw [bH.l0,if_pos (by simp;omega),if_pos (by omega),ig,show dW.f k t _=_ from h1 k (by omega),h j hlt]
    simp only [Option.bind_some]
    rw [if_neg (by simp only [decide_eq_true_eq];omega),if_pos (by omega),fF hlt (by omega),show bH.l0 k t a m ((j+1:Nat):Int) _=_ from h2 k m (by omega) (by omega),jV 0 (by omega:j<fr.length),List.append_assoc]
    rfl
theorem Uj (W:Wf t s) {a:List ByteArray} (ha:a.length≤200):∀(e j:Nat) (p:List Int),j+e=a.length→p.length=j→(∃i,j≤i∧i<a.length∧¬0≤qX t (a.getD i ByteArray.empty))→
    Ev2 (fun k m=>bH.l0 k t a m (j:Int) p) (.inl ⟨⟨[]⟩,[],[],3⟩):=by
  intro e
  induction e with
  |zero=>intro j p hj hp ⟨i,h1,h2,_⟩;omega
  | succ e ih =>
    intro j p hj hp ⟨i,g1,g2,g3⟩
    have hlt:j<a.length:=by omega
    obtain ⟨K1,h1⟩:=CB W.few (a.getD j ByteArray.empty)
    by_cases h0:0≤qX t (a.getD j ByteArray.empty)
    · have hne:j≠i:=fun e=>by subst e;exact g3 h0
      obtain ⟨K2,h2⟩:=ih (j+1) (p++[qX t (a.getD j ByteArray.empty)]) (by omega) (by simp;omega) ⟨i,by omega,g2,g3⟩
      refine ⟨K1+K2+1,fun k m hk hm=>?_⟩
      obtain ⟨m,rfl⟩:∃x,m=x+1:=⟨m-1,by omega⟩
      show bH.l0 k t a (m+1) (j:Int) p=_
      rw [bH.l0,if_pos (by simp;omega),if_pos (by omega),ig,show dW.f k t _=_ from h1 k (by omega)]
      simp only [Option.bind_some]
      rw [if_neg (by simp only [decide_eq_true_eq];omega),if_pos (by omega),fF hlt (by omega)]
      exact h2 k m (by omega) (by omega)
    · refine ⟨K1+1,fun k m hk hm=>?_⟩
      obtain ⟨m,rfl⟩:∃x,m=x+1:=⟨m-1,by omega⟩
      show bH.l0 k t a (m+1) (j:Int) p=_
      rw [bH.l0,if_pos (by simp;omega),if_pos (by omega),ig,show dW.f k t _=_ from h1 k (by omega)]
      simp only [Option.bind_some]
      rw [if_pos (by simp only [decide_eq_true_eq];omega)]
theorem VH {is:List Bool} {P:Nat→Bool} {n:Nat} (hn:n≤200) (hl:is.length=n) (hP:∀k,is.getD k false=P k):∀(e j:Nat),j+e=n→Ev2 (fun k m=>bH.l1 is m ((zA P j:Nat):Int) (j:Int) (toL P j)) (toL P n):=by
  intro e
  induction e with
  | zero =>
    intro j hj
    have hj:j=n:=by omega
    subst hj
    refine Ev2.pure fun k m=>?_
    rw [bH.l1,if_neg (by simp;omega)]
  | succ e ih =>
    intro j hj
    have hlt:j<is.length:=by omega
    have hc:=Ja (P:=P) j
    obtain ⟨K,hK⟩:=ih (j+1) (by omega)
    have htl:toL P (j+1)=toL P j++[if P j=true then ((zA P j:Nat):Int) else-1]:=by unfold toL;rw [List.range_succ,List.map_append];rfl
    refine ⟨K+1,fun k m hk hm=>?_⟩
    obtain ⟨m,rfl⟩:∃x,m=x+1:=⟨m-1,by omega⟩
    have:=hK k m (by omega) (by omega)
    simp only at this
    rw [FX,htl] at this
    show bH.l1 is (m+1) _ (j:Int) _=_
    rw [bH.l1,if_pos (by simp;omega),if_pos (by omega),fF hlt (by omega),ig,hP]
    by_cases hp:P j=true
    · rw [if_pos hp,if_pos (by rw [DX];omega),fF (j:=zA P j) (n:=zA P j+1) (by omega) (by omega)]
      rw [if_pos hp,if_pos hp] at this
      exact this
    · rw [if_neg hp,if_pos (by rw [DX];omega)]
      rw [if_neg hp,if_neg hp] at this
      exact this
theorem VI (W:Wf t s) {is:List Bool} {P:Nat→Bool} (hl:is.length=t.au.length) (hP:∀k,is.getD k false=P k):∀(e j:Nat) (acc:List aZ),j+e=t.au.length→acc.length≤j→Ev2 (fun k m=>bH.l2 k t is (toL P t.au.length) m (j:Int) acc) (acc++(((List.range e).map (· +j)).filter P).map fun i=>mvS (fun c=>rd 0 (toL P t.au.length) c) (dAt t i)):=by
  have hn:=W.few
  intro e
  induction e with
  | zero =>
    intro j acc hj ha
    refine Ev2.pure fun k m=>?_
    rw [bH.l2,if_neg (by simp;omega)]
    simp
  | succ e ih =>
    intro j acc hj ha
    have hlt:j<t.au.length:=by omega
    have hlt2:j<is.length:=by omega
    have hrange:(List.range (e+1)).map (· +j)=j::(List.range e).map (· +(j+1)):=by
      rw [List.range_succ_eq_map,List.map_cons,List.map_map]
      congr 1
      · omega
      · exact List.map_congr_left fun i _=>by simp only [Function.comp_apply];omega
    rw [hrange,List.filter_cons]
    by_cases hp:P j=true
    · rw [if_pos hp,List.map_cons]
      obtain ⟨K2,h2⟩:=ih (j+1) (acc++[mvS (fun c=>rd 0 (toL P t.au.length) c) (dAt t j)]) (by omega) (by simp;omega)
      refine ⟨K2+50,fun k m hk hm=>?_⟩
      obtain ⟨m,rfl⟩:∃x,m=x+1:=⟨m-1,by omega⟩
      have:=h2 k m (by omega) (by omega)
      simp only at this
      rw [List.append_assoc] at this
      show bH.l2 k t is _ (m+1) (j:Int) acc=_
      rw [bH.l2,if_pos (by simp;omega),if_pos (by omega),ig,hP,if_pos hp,if_pos (by omega),oQ,Hu (W.sh _ (nT hlt)) (by rw [DX]) (by omega)]
      simp only [Option.bind_some]
      rw [if_pos (by omega),fF hlt (by omega)]
      exact this
    · rw [if_neg hp]
      obtain ⟨K2,h2⟩:=ih (j+1) acc (by omega) (by omega)
      refine ⟨K2+1,fun k m hk hm=>?_⟩
      obtain ⟨m,rfl⟩:∃x,m=x+1:=⟨m-1,by omega⟩
      show bH.l2 k t is _ (m+1) (j:Int) acc=_
      rw [bH.l2,if_pos (by simp;omega),if_pos (by omega),ig,hP,if_neg hp,fF hlt (by omega)]
      exact h2 k m (by omega) (by omega)
def VJ (T:aQ):Prop:=T.au.length≤9223372036854775807∧∀d∈T.au,Ce d
theorem Wf.nice (W:Wf t s):VJ t:=⟨by have:=W.few;omega,W.fit⟩
theorem Hw:VJ ⟨[]⟩:=⟨by simp,fun d hd=>by cases hd⟩
theorem CG (hF:∀d∈t.au,Ce d):(∃s,Wf t s∧Ev (fun k=>dH.f k t) true∧Ev (fun k=>aS.f k t) 0)∨((∀s,¬Wf t s)∧Ev (fun k=>dH.f k t) false∧Ev (fun k=>aS.f k t) 80):=by
 rcases DK hF with ⟨l,W,hv⟩|⟨hno,hv⟩
 ·rcases yR hF with ⟨l2,W2,_,hc⟩|⟨hno,_⟩
  ·exact .inl ⟨l,W,hv,hc⟩
  ·exact absurd W (hno l)
 ·rcases yR hF with ⟨l2,W2,_,_⟩|⟨_,hc⟩
  ·exact absurd W2 (hno l2)
  ·exact .inr ⟨hno,hv,hc⟩
theorem Rf (hF:∀d∈t.au,Ce d):∃T l e,Ev (fun k=>lg.f k t) (T,l,e)∧Ev (fun k=>iU.f k t) ⟨T,l,[],e⟩∧VJ T∧l.length≤9223372036854775807:=by
 rcases CG hF with ⟨s,W,hv,hc⟩|⟨_,hv,K,hK⟩
 ·obtain ⟨ix,m',l',A,h1⟩:=OL W hv
  have hn:=W.few
  have hlen:=A.len
  exact ⟨_,_,_,h1,LJ W hc A,(Le W A).2.wf.nice,by omega⟩
 ·refine ⟨_,_,_,Lh hv,⟨K,fun k hk=>?_⟩,Hw,by simp⟩
  show iU.f k t=_
  unfold iU.f
  rw [show aS.f k t=_ from hK k hk]
  rfl
theorem Pm (hF : ∀ d ∈ t.au, Ce d) (hG : ∀ d ∈ u.au, Ce d) : ∃ T l o e, Ev (fun k => jg.f k t u) (T, l, o, e) ∧ Ev (fun k => dK.f k t u) ⟨T, l, o, e⟩ ∧ VJ T ∧ l.length ≤ 9223372036854775807 ∧ o.length ≤ 9223372036854775807 := by
  rcases CG hF with ⟨s,W,hv,hc⟩|⟨_,hv,K,hK⟩
  · rcases CG hG with ⟨r,V,hv2,hc2⟩|⟨_,hv2,K2,hK2⟩
    · obtain ⟨m1,l1,x1,m2,l2,x2,B,hl,p1,p2⟩:=QO W V
      have h1:=QS W V hv hv2 B hl p1 p2
      have h2:=Ph W V hc hc2 B hl
      have hn:=W.few
      have hn2:=V.few
      have e1:=B.len1
      have e2:=B.len2
      by_cases hC:Jb t u
      · rw [mY hC,if_pos rfl] at h1 h2
        by_cases hle:l2.length≤200
        · rw [if_pos hle] at h1 h2
          exact ⟨_,_,_,_,h1,h2,(B.built W V hC hle).wf.nice,by omega,by omega⟩
        · rw [if_neg hle] at h1 h2
          exact ⟨_,_,_,_,h1,h2,Hw,by simp,by simp⟩
      · rw [jW hC,if_neg (by decide)] at h1 h2
        exact ⟨_,_,_,_,h1,h2,Hw,by simp,by simp⟩
    · obtain ⟨K,hK⟩:=hc
      refine ⟨_,_,_,_,Hl (.inr ⟨hv,hv2⟩),⟨K+K2,fun k hk=>?_⟩,Hw,by simp,by simp⟩
      show dK.f k t u=_
      unfold dK.f
      rw [show aS.f k t=_ from hK k (by omega)]
      simp only [Option.bind_some]
      rw [if_pos (by decide),show aS.f k u=_ from hK2 k (by omega)]
      rfl
  · refine ⟨_,_,_,_,Hl (.inl hv),⟨K,fun k hk=>?_⟩,Hw,by simp,by simp⟩
    show dK.f k t u=_
    unfold dK.f
    rw [show aS.f k t=_ from hK k hk]
    rfl
theorem Rh (hF : ∀ d ∈ t.au, Ce d) (a : List ByteArray) : ∃ T l e, Ev (fun k => fV.f k t a) (T, l, e) ∧ Ev (fun k => bH.f k t a) ⟨T, l, [], e⟩ ∧ VJ T ∧ l.length ≤ 9223372036854775807 := by
  rcases CG hF with ⟨s,W,hv,hc⟩|⟨_,⟨K0,h0⟩,K,hK⟩
  · obtain ⟨K,hK⟩:=hc
    have hn:=W.few
    by_cases ha:a.length≤200
    · rcases Uc W hv ha with ⟨fr,P,hl,hfr,hP,h1⟩|⟨⟨i,hi,hneg⟩,h1⟩
      · have hin:∀i∈fr,i<t.au.length:=fun i hi=>by
          obtain ⟨j,hj,e⟩:=List.mem_iff_getElem.1 hi
          have h1:=hfr j (by omega)
          have hg:fr.getD j 0=i:=by rw [List.getD_eq_getElem?_getD,List.getElem?_eq_getElem hj];exact e
          rw [hg] at h1
          obtain ⟨q,e2,hq,_⟩:=uM (t:=t) (name:=a.getD j ByteArray.empty) (by rw [h1];omega)
          rw [h1] at e2
          have:=Int.ofNat.inj e2
          omega
        have hcl:Closed P t:=fun i hi hp c hcm=>by
          obtain ⟨q,hq,hr⟩:=(hP i).1 hp
          exact (hP _).2 ⟨q,hq, .step hr hcm⟩
        obtain ⟨is,⟨K2,h2⟩,hlen,hm⟩:=Pj W hin (by omega)
        have hPb:∀k,is.getD k false=P k:=fun k=>by
          rw [Bool.eq_iff_iff,hm,hP]
        obtain ⟨K1,g1⟩:=(VG W ha hl hfr a.length 0 [] (by omega) rfl).diag
        obtain ⟨K3,h3⟩:=(VH hn hlen hPb t.au.length 0 (by omega)).diag
        obtain ⟨K4,h4⟩:=(VI W hlen hPb t.au.length 0 [] (by omega) (by simp)).diag
        refine ⟨_,_,_,h1,⟨K+K1+K2+K3+K4,fun k hk=>?_⟩,(Lj W hcl).wf.nice,by rw [DX];omega⟩
        show bH.f k t a=_
        unfold bH.f
        rw [show aS.f k t=_ from hK k (by omega)]
        simp only [Option.bind_some]
        rw [if_neg (by simp;omega)]
        simp only [Option.bind_some]
        rw [if_neg (by decide),show bH.l0 k t a k 0 []=_ from g1 k (by omega)]
        simp only [Option.bind_some,List.nil_append,List.drop_zero]
        rw [show bZ.f k t (Ar fr)=_ from h2 k (by omega)]
        simp only [Option.bind_some]
        rw [show bH.l1 is k 0 0 []=_ from h3 k (by omega)]
        simp only [Option.bind_some]
        rw [show bH.l2 k t is _ k 0 []=_ from h4 k (by omega)]
        simp only [Option.bind_some,List.nil_append]
        have hr:(List.range t.au.length).map (· +0)=List.range t.au.length:=by simp
        rw [hr]
        rfl
      · obtain ⟨K1,g1⟩:=(Uj W ha a.length 0 [] (by omega) rfl ⟨i,Nat.zero_le _,hi,hneg⟩).diag
        refine ⟨_,_,_,h1,⟨K+K1,fun k hk=>?_⟩,Hw,by simp⟩
        show bH.f k t a=_
        unfold bH.f
        rw [show aS.f k t=_ from hK k (by omega)]
        simp only [Option.bind_some]
        rw [if_neg (by simp;omega)]
        simp only [Option.bind_some]
        rw [if_neg (by decide),show bH.l0 k t a k 0 []=_ from g1 k (by omega)]
        rfl
    · obtain ⟨K0,h0⟩:=hv
      refine ⟨⟨[]⟩,[],2,⟨K0,fun k hk=>?_⟩,⟨K,fun k hk=>?_⟩,Hw,by simp⟩
      · show fV.f k t a=_
        unfold fV.f
        rw [show dH.f k t=_ from h0 k (by omega)]
        simp only [Option.bind_some,Bool.not_true,Bool.false_eq_true,if_false]
        rw [if_pos (by simp;omega)]
      · show bH.f k t a=_
        unfold bH.f
        rw [show aS.f k t=_ from hK k (by omega)]
        simp only [Option.bind_some]
        rw [if_pos (by simp;omega)]
        rfl
  · refine ⟨⟨[]⟩,[],80,⟨K0,fun k hk=>?_⟩,⟨K,fun k hk=>?_⟩,Hw,by simp⟩
    · show fV.f k t a=_
      unfold fV.f
      rw [show dH.f k t=_ from h0 k (by omega)]
      rfl
    · show bH.f k t a=_
      unfold bH.f
      rw [show aS.f k t=_ from hK k (by omega)]
      rfl
end
theorem Pn {t u:aQ} (hF:∀d∈t.au,Ce d) (hG:∀d∈u.au,Ce d) (a:List ByteArray):Ev (fun k=>jL.f k t u a) true:=by
 obtain ⟨K0,h0⟩:=TQ
 obtain ⟨T,l,e,⟨K1,h1⟩,⟨K2,h2⟩,⟨n1,n2⟩,n3⟩:=Rf hF
 obtain ⟨T',l',o',e',⟨K3,h3⟩,⟨K4,h4⟩,⟨m1,m2⟩,m3,m4⟩:=Pm hF hG
 obtain ⟨T2,l2,e2,⟨K5,h5⟩,⟨K6,h6⟩,⟨p1,p2⟩,p3⟩:=Rh hF a
 obtain ⟨S1,s1⟩:=DW n1 n2
 obtain ⟨S2,s2⟩:=DW m1 m2
 obtain ⟨S3,s3⟩:=DW p1 p2
 obtain ⟨I1,i1⟩:=yP n3
 obtain ⟨I2,i2⟩:=yP m3
 obtain ⟨I3,i3⟩:=yP m4
 obtain ⟨I4,i4⟩:=yP p3
 refine ⟨K0+K1+K2+K3+K4+K5+K6+S1+S2+S3+I1+I2+I3+I4,fun k hk=>?_⟩
 show jL.f k t u a=_
 unfold jL.f
 rw [show kU.f k=_ from h0 k (by omega)]
 simp only [Option.bind_some]
 rw [show lg.f k t=_ from h1 k (by omega)]
 simp only [Option.bind_some]
 rw [show jg.f k t u=_ from h3 k (by omega)]
 simp only [Option.bind_some]
 rw [show fV.f k t a=_ from h5 k (by omega)]
 simp only [Option.bind_some]
 rw [show iU.f k t=_ from h2 k (by omega)]
 simp only [Option.bind_some]
 rw [show dK.f k t u=_ from h4 k (by omega)]
 simp only [Option.bind_some]
 rw [show bH.f k t a=_ from h6 k (by omega)]
 simp only [Option.bind_some]
 rw [show eu.f k T T=_ from s1 k (by omega),show eu.f k T' T'=_ from s2 k (by omega),show eu.f k T2 T2=_ from s3 k (by omega)]
 rw [show cZ.f k l l=_ from i1 k (by omega),show cZ.f k l' l'=_ from i2 k (by omega),show cZ.f k o' o'=_ from i3 k (by omega),show cZ.f k l2 l2=_ from i4 k (by omega)]
 simp
end Go.Proofs.YtfjppgobidjndaaGreatDoor
