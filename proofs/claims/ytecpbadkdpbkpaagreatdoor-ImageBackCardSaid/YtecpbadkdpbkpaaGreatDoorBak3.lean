/- Parts of a proof, merged by program: V13 V13b V13c V13d V14 V15 V16 V17 V18 V19 V20 V21 V22 V23 V24 V25 V26 V27 V28 V29 V30. The walks (each function once) and the plain laws; no condition of their own. -/
import Derived.Test.YtecpbadkdpbkpaaGreatDoorBak2
import Derived.Laws.Sem
import Derived.RangeFuncLeaves
import Derived.OpenShut
import Derived.LaidLaws
set_option linter.unusedVariables false
set_option linter.unusedSimpArgs false
namespace Go.V
noncomputable section
section
variable {P:Program} {R:Ren} {w:World}
theorem run_mapL {α:Type} (f:α→Sem Value):∀(xs:List α) (us:List Value),us.length=xs.length→(∀(j:Nat) u,us[j]?=some u→∃x,xs[j]?=some x∧(f x).run P w= .ok u w)→
    (xs.mapM f).run P w= .ok us w
  | [], us, hl, h => by
    obtain rfl:=List.eq_nil_of_length_eq_zero hl
    rfl
  |x::xs,[],hl,h=>by simp at hl
  | x :: xs, u :: us, hl, h => by
    obtain ⟨y,h1,h2⟩:=h 0 u rfl
    simp only [List.getElem?_cons_zero,Option.some.injEq] at h1
    subst h1
    rw [List.mapM_cons,Sem.run_bind,h2,Result.andThen_ok,Sem.run_bind,run_mapL f xs us (by simpa using hl) (fun j v e=>h (j+1) v (by simpa using e)),Result.andThen_ok]
    rfl
theorem run_mapM {α:Type} (f:α→Sem Value) (xs:Array α) (us:List Value) (hl:us.length=xs.size) (h:∀(j:Nat) u,us[j]?=some u→∃x,xs[j]?=some x∧(f x).run P w= .ok u w):
  (xs.mapM f).run P w= .ok us.toArray w:=by
 rw [Array.mapM_eq_mapM_toList,map_eq_pure_bind,Sem.run_bind,run_mapL f xs.toList us (by simpa using hl) (fun j u e=>by simpa using h j u e),Result.andThen_ok]
 rfl
theorem vresults_get {T : Tt} {H : Tr} : ∀ {rs : List ResultVar} {vs : List Value}, vresults P T H rs = some vs → vs.length = rs.length ∧ ∀ (j : Nat) v, vs[j]? = some v → ∃ r, rs[j]? = some r ∧ vresult P T H r = some v
  | [], vs, h => by
    injection h with h
    subst h
    exact ⟨rfl,fun j v e=>by simp at e⟩
  | r :: rs, vs, h => by
    rw [vresults] at h
    split at h
    · next v vs' h1 h2=>
      injection h with h
      subst h
      obtain ⟨h3,h4⟩:=vresults_get h2
      refine ⟨by simp [h3],fun j u e=>?_⟩
      cases j with
      | zero =>
        simp only [List.getElem?_cons_zero,Option.some.injEq] at e
        subst e
        exact ⟨r,rfl,h1⟩
      |succ j=>exact h4 j u (by simpa using e)
    · cases h
def resF (tmps:Array Value):ResultVar→Sem Value
 | .tmp t=>pure (tmps.getD t undef)
 | .cell a t=>do loadVar t (←asAddr (tmps.getD a undef))
theorem vresult_ok {T:Tt} {H:Tr} {sz:Nat} {tmps:Array Value} {r:ResultVar} {v:Value} (hh:HR P R H.get w) (ht:TR R sz T tmps) (h:vresult P T H r=some v):∃u,VR R v u∧(resF tmps r).run P w= .ok u w:=by
  cases r with
  | tmp t =>
    obtain ⟨u,h1,h2⟩:=ht.2 t v h
    exact ⟨u,h2,by simp [resF,Array.getD_eq_getD_getElem?,h1]⟩
  | cell a t =>
    simp only [vresult] at h
    split at h
    · next m q hp=>
      obtain ⟨u,h1,h2⟩:=ht.2 a _ hp
      obtain ⟨b,d,hr,hu⟩:=ptr_of h2
      obtain ⟨u',h3,h4⟩:=loadVar_ok hh hr h
      refine ⟨u',h3,?_⟩
      simp only [resF,Array.getD_eq_getD_getElem?,h1,Option.getD_some,hu,asAddr,Sem.run_bind,Sem.run_pure,Result.andThen_ok]
      exact h4
    · cases h
theorem results_ok {T : Tt} {H : Tr} {sz : Nat} {fn : Func} {tmps : Array Value} {vs : List Value} (hh : HR P R H.get w) (ht : TR R sz T tmps) (h : vresults P T H fn.results.toList = some vs) :
    ∃u,VR R (match vs with|[v]=>v|vs=> .tuple ⟨vs⟩) u∧(results fn tmps).run P w= .ok u w:=by
  obtain ⟨hl,hg⟩:=vresults_get h
  have hus:∃us:List Value,VRs R vs us∧∀(j:Nat) u,us[j]?=some u→∃r,fn.results[j]?=some r∧(resF tmps r).run P w= .ok u w:=by
    have key:∀(rs:List ResultVar) (vs:List Value),vs.length=rs.length→(∀(j:Nat) v,vs[j]?=some v→∃r,rs[j]?=some r∧vresult P T H r=some v)→∃us:List Value,VRs R vs us∧∀(j:Nat) u,us[j]?=some u→∃r,rs[j]?=some r∧(resF tmps r).run P w= .ok u w:=by
      intro rs
      induction rs with
      | nil =>
        intro vs hl _
        obtain rfl:=List.eq_nil_of_length_eq_zero hl
        exact ⟨[], .nil,fun j u e=>by simp at e⟩
      | cons r rs ih =>
        intro vs hl hg
        cases vs with
        |nil=>simp at hl
        | cons v vs =>
          obtain ⟨r',h1,h2⟩:=hg 0 v rfl
          simp only [List.getElem?_cons_zero,Option.some.injEq] at h1
          subst h1
          obtain ⟨u,h3,h4⟩:=vresult_ok hh ht h2
          obtain ⟨us,h5,h6⟩:=ih vs (by simpa using hl) (fun j v e=>hg (j+1) v (by simpa using e))
          refine ⟨u::us, .cons h3 h5,fun j y e=>?_⟩
          cases j with
          | zero =>
            simp only [List.getElem?_cons_zero,Option.some.injEq] at e
            subst e
            exact ⟨r,rfl,h4⟩
          |succ j=>exact h6 j y (by simpa using e)
    obtain ⟨us,h1,h2⟩:=key _ vs hl hg
    exact ⟨us,h1,fun j u e=>by simpa using h2 j u e⟩
  obtain ⟨us,h1,h2⟩:=hus
  have hlen:=h1.len
  have hsz:us.length=fn.results.size:=by rw [←hlen,hl];simp
  have hm:(fn.results.mapM (resF tmps)).run P w= .ok us.toArray w:=run_mapM _ _ us hsz h2
  have hrun:(results fn tmps).run P w= .ok (if h:us.toArray.size=1 then us.toArray[0] else .tuple us.toArray) w:=by
    have:results fn tmps=(do let vs←fn.results.mapM (resF tmps);pure (if h:vs.size=1 then vs[0] else .tuple vs)):=by
      rfl
    rw [this,Sem.run_bind,hm]
    rfl
  rw [hrun]
  cases h1 with
  |nil=>exact ⟨_, .tuple .nil,by simp⟩
  | cons a b =>
    cases b with
    |nil=>exact ⟨_,a,by simp⟩
    |cons c d=>exact ⟨_, .tuple (.cons a (.cons c d)),by simp⟩
end
theorem lk_mem : ∀ {δ : Delta} {m : Nat} {x : Option Obj}, lk δ m = some x → (m, x) ∈ δ
  |[],m,x,h=>by cases h
  | p :: r, m, x, h => by
    rw [lk] at h
    cases hr:lk r m with
    | some y =>
      rw [hr] at h
      injection h with h
      subst h
      exact List.mem_cons_of_mem _ (lk_mem hr)
    | none =>
      rw [hr] at h
      simp only at h
      split at h
      · next e=>
        injection h with h
        subst e h
        exact List.mem_cons_self
      · cases h
theorem lk_of_mem : ∀ {δ : Delta} {m : Nat} {x : Option Obj}, (m, x) ∈ δ → (lk δ m).isSome
  | p :: r, m, x, h => by
    rw [lk]
    cases hr:lk r m with
    |some y=>rfl
    | none =>
      rcases List.mem_cons.1 h with h|h
      · subst h;simp
      · have:=lk_of_mem h
        rw [hr] at this
        cases this
theorem keep_ok {H : Tr} {n0 n1 : Nat} : ∀ (f : Nat) (work : List Nat) (seen : Nat) (acc new : Delta), keep H n0 n1 f work seen acc = some new → (∀ m x, (m, x) ∈ acc → x = H.get m ∧ x.isSome ∧ n0 ≤ m ∧ m < n1) → ∀ m x, (m, x) ∈ new → x = H.get m ∧ x.isSome ∧ n0 ≤ m ∧ m < n1 := by
  intro f
  induction f with
  |zero=>intro work seen acc new h;cases h
  | succ f ih =>
    intro work seen acc new h ha
    rw [keep.eq_def] at h
    simp only at h
    split at h
    · injection h with h
      subst h
      exact ha
    · next m work=>
      split at h
      · exact ih _ _ _ _ h ha
      · next hm =>
        split at h
        · exact ih _ _ _ _ h ha
        · split at h
          · next o ho=>
            split at h
            · next h1=>
              refine ih _ _ _ _ h fun q x hq=>?_
              rcases List.mem_cons.1 hq with hq|hq
              · injection hq with h3 h4
                subst h3 h4
                exact ⟨ho.symm,rfl,by omega,h1⟩
              · exact ha q x hq
            · cases h
          · exact ih _ _ _ _ h ha
theorem oldD_mem {H:Tr}:∀{l:List Nat} {m:Nat} {x:Option Obj},(m,x)∈oldD H l→m∈l∧x=H.get m
  | q :: l, m, x, h => by
    rw [oldD] at h
    rcases List.mem_cons.1 h with h|h
    · injection h with h1 h2
      subst h1 h2
      exact ⟨List.mem_cons_self,rfl⟩
    · obtain ⟨h1,h2⟩:=oldD_mem h
      exact ⟨List.mem_cons_of_mem _ h1,h2⟩
theorem oldD_of {H:Tr}:∀{l:List Nat} {m:Nat},m∈l→(m,H.get m)∈oldD H l
  | q :: l, m, h => by
    rw [oldD]
    rcases List.mem_cons.1 h with h|h
    · subst h;exact List.mem_cons_self
    · exact List.mem_cons_of_mem _ (oldD_of h)
section
variable {P:Program} {R R0:Ren} {n0 N:Nat} {H0:Tr} {w0 w:World} {sz:Nat} {s:VS} {a:Act} {δ:Delta}
theorem AtR.less (fr : Fr P R0 H0.get n0 s.n) (hA : AtR P R0 n0 H0 w0 sz s a w R δ) {f : Nat} {work : List Nat} {new : Delta} (hnew : keep s.H n0 s.n f work 0 [] = some new) : Post R0 R n0 s.n H0.get (oldD s.H s.d ++ new) w0 w := by
  refine hA.post.less (fun m x e=>?_) (fun m hm hn=>?_) fr
  · have hx:x=s.H.get m∧(m∈s.d∨x.isSome∧n0≤m∧m<s.n):=by
      rcases List.mem_append.1 (lk_mem e) with h|h
      · obtain ⟨h1,h2⟩:=oldD_mem h
        exact ⟨h2, .inl h1⟩
      · obtain ⟨h1,h2⟩:=keep_ok _ _ _ _ _ hnew (fun m x h=>by cases h) m x h
        exact ⟨h1, .inr h2⟩
    obtain ⟨hx,hc⟩:=hx
    rw [hA.heap] at hx
    unfold ov at hx
    cases hl:lk δ m with
    |some y=>rw [hl] at hx;rw [hx];rfl
    | none =>
      exfalso
      rw [hl] at hx
      rcases hc with h|⟨h1,h2,h3⟩
      · have:=hA.old m h
        rw [hl] at this
        cases this
      · have:=(fr.2 m h2 h3).2
        rw [show (none:Option (Option Obj)).getD (H0.get m)=H0.get m from rfl,this] at hx
        subst hx
        cases h1
  · rcases hA.all m hm with h|h
    · exact lk_of_mem (List.mem_append_left _ (oldD_of h))
    · exact (hn h).elim
theorem vret2_ok {H:Tr} {n:Nat} {d:List Nat} {v v':Value} {δ':Delta} {n':Nat} (h:vret2 n0 H n v (oldD H d)=some (v',δ',n')):v'=v∧n'=n∧∃work new,keep H n0 n 1000000 work 0 []=some new∧δ'=oldD H d++new:=by
 unfold vret2 vret3 at h
 split at h
 ·next new hnew=>
  injection h with h
  injection h with h1 h
  injection h with h2 h3
  exact ⟨h1.symm,h3.symm,_,new,hnew,h2.symm⟩
 ·cases h
theorem vret_ok {fn:Func} {v:Value} {δ':Delta} {n':Nat} (hh:HR P R0 H0.get w0) (h:vret P fn n0 s=some (v,δ',n')):n'=s.n∧(Fr P R0 H0.get n0 s.n→AtR P R0 n0 H0 w0 sz s a w R δ→∃u,(results fn a.tmps).run P w= .ok u w∧VR R v u∧Post R0 R n0 s.n H0.get δ' w0 w):=by
 have hc:∃vs work new,vresults P s.T s.H fn.results.toList=some vs∧keep s.H n0 s.n 1000000 work 0 []=some new∧v=(match vs with|[v]=>v|vs=> .tuple ⟨vs⟩)∧δ'=oldD s.H s.d++new∧n'=s.n:=by
  obtain ⟨T,H,n,d,ds⟩:=s
  simp only [vret] at h
  unfold vret1 at h
  split at h
  ·cases h
  ·next u hu=>
   obtain ⟨h3,h4,work,new,h5,h6⟩:=vret2_ok h
   exact ⟨[u],work,new,hu,h5,h3,h6,h4⟩
  ·next us hne hu=>
   obtain ⟨h3,h4,work,new,h5,h6⟩:=vret2_ok h
   refine ⟨us,work,new,hu,h5,?_,h6,h4⟩
   rw [h3]
   split
   ·exact (hne _ rfl).elim
   ·rfl
 obtain ⟨vs,work,new,hvs,hnew,hv,rfl,rfl⟩:=hc
 refine ⟨rfl,fun fr hA=>?_⟩
 obtain ⟨u,hu,hr⟩:=results_ok (fn:=fn) (hA.hr hh fr (Nat.le_refl _)) hA.tmps hvs
 exact ⟨u,hr,by rw [hv];exact hu,hA.less fr hnew⟩
theorem panOf_vr {v u:Value} (h:VR R v u):panOf v=none:=by
  unfold panOf
  split
  · cases h with
    | tuple h =>
      obtain ⟨_,_,h2⟩:=h.get 0 _ rfl
      cases h2
  · rfl
theorem vpan_ok {p v:Value} {δ':Delta} {n':Nat} (h:vpan n0 p s=some (v,δ',n')):n'=s.n∧panOf v=some p∧(Fr P R0 H0.get n0 s.n→AtR P R0 n0 H0 w0 sz s a w R δ→Post R0 R n0 s.n H0.get δ' w0 w):=by
 obtain ⟨T,H,n,d,ds⟩:=s
 simp only [vpan] at h
 obtain ⟨h3,h4,work,new,h5,h6⟩:=vret2_ok h
 subst h3 h4 h6
 exact ⟨rfl,rfl,fun fr hA=>hA.less fr h5⟩
theorem tmpsOf_get : ∀ (vs : List Value) (i : Nat) (T : Tt) (t : Nat), (tmpsOf i vs T).get t = if i ≤ t ∧ t < i + vs.length then vs[t - i]? else T.get t
  |[],i,T,t=>by rw [tmpsOf,if_neg (by simp)]
  | v :: vs, i, T, t => by
    rw [tmpsOf,tmpsOf_get vs (i+1),List.length_cons]
    by_cases h:i+1≤t∧t<i+1+vs.length
    · rw [if_pos h,if_pos (by omega),show t-i=(t-(i+1))+1 by omega,List.getElem?_cons_succ]
    · rw [if_neg h,Tt.get_set]
      by_cases ht:t=i
      · subst ht
        rw [if_pos rfl,if_pos (by omega),Nat.sub_self]
        rfl
      · rw [if_neg ht,if_neg (by omega)]
theorem At.start {args:List Value} {avs:Array Value} {k:Nat} {n:Nat} {H:Tr} (hargs:VRs R args avs.toList):AtR P R n H w (max args.length k) ⟨tmpsOf 0 args .leaf,H,n,[],[]⟩ {tmps:=avs++Array.replicate (k-avs.size) undef,defers:=[]} w R []:=by
 have hlen:=hargs.len
 refine ⟨Post.skip R n _ w,fun m=>rfl,⟨?_,fun t v e=>?_⟩, .nil,(fun m h=>by cases h),(fun m h=>by cases h)⟩
 ·simp only [Array.size_append,Array.size_replicate]
  have:avs.toList.length=avs.size:=Array.length_toList
  omega
 ·simp only at e
  rw [tmpsOf_get] at e
  split at e
  ·next ht=>
   obtain ⟨u,h1,h2⟩:=hargs.get t v (by simpa using e)
   refine ⟨u,?_,h2⟩
   have:=(List.getElem?_eq_some_iff.1 h1).1
   rw [Array.length_toList] at this
   rw [Array.getElem?_append_left this]
   simpa using h1
  ·cases e
end
end
end Go.V
namespace Go.V
noncomputable section
inductive ModeR (R:Ren):Option Value→FrameMode→Prop
 |ret:ModeR R none .returning
 |pan {v x}:VR R v x→ModeR R (some v) (.panicking [{v:=x,recovered:=false}])
theorem ModeR.mono {R R':Ren} (h:R.le R') {u:Option Value} {m:FrameMode} (k:ModeR R u m):ModeR R' u m:=by
 cases k with
 |ret=>exact .ret
 |pan e=>exact .pan (e.mono h)
theorem ModeR.ne {R:Ren} {u:Option Value} {m:FrameMode} (k:ModeR R u m):m≠ .run:=by cases k<;>simp
def DcOk (P : Program) (dc : DefT) : Prop := ∀ g avs u H n b δ n', dc g avs u H n = some (b, δ, n') → (∃ fn, P.funcs[g]? = some fn ∧ fn.body.isSome) ∧
  ∀ (R : Ren) (w : World) (us : Array Value) (m : FrameMode), HR P R H.get w → Fr P R H.get n n' → VRs R avs us.toList → ModeR R u m →
    CallsDIn (FW P none) 0 P g us m w fun e m' w'=>∃x,e= .returned x∧settle m'=(if b then .returning else m)∧∃R',Post R R' n n' H.get δ w w'
section
variable {P:Program} {R R0:Ren} {n0 N:Nat} {H0:Tr} {w0 w:World} {sz:Nat} {s s':VS} {a:Act} {δ:Delta}
theorem vleave_ok (hnm : NamesOk P) {dc : DefT} (hdc : DcOk P dc) (hh : HR P R0 H0.get w0) : ∀ (ds : List VD) (u : Option Value) (s : VS) (u' : Option Value) (s' : VS), vleave n0 dc ds u s = some (u', s') → s.n ≤ s'.n ∧
    (∀ N, Fr P R0 H0.get n0 N → s'.n ≤ N → ∀ (a : Act) (w : World) (R : Ren) (δ : Delta) (es : List Deferred) (m : FrameMode), AtR P R0 n0 H0 w0 sz ⟨s.T, s.H, s.n, s.d, ds⟩ { a with defers := es } w R δ → ModeR R u m → ∀ (fn : Func) (K : Ending → World → Prop),
      (∀ w' R' δ' m', AtR P R0 n0 H0 w0 sz ⟨s'.T, s'.H, s'.n, s'.d, []⟩ { a with defers := [] } w' R' δ' → ModeR R' u' m' → LeavesIn (FW P none) 0 P fn a.tmps K [] m' w') → LeavesInM (FW P none) 0 P fn a.tmps K es m w)
  | [], u, s, u', s', h => by
    rw [vleave] at h
    injection h with h
    injection h with h1 h2
    subst h1 h2
    refine ⟨Nat.le_refl _,fun N fr hN a w R δ es m hA hm fn K hK=>?_⟩
    have hes:es=[]:=by have:=hA.defers;generalize es=x at this;cases this;rfl
    subst hes
    exact hK _ _ _ _ hA hm
  | .col q :: ds, u, s, u', s', h => by
    rw [vleave] at h
    split at h
    case h_2=>cases h
    next hq=>
    split at h
    case h_2=>cases h
    next s1 hs1=>
    obtain ⟨d1,hd1,rfl⟩:=setS_eq hs1
    obtain ⟨h1,h2⟩:=vleave_ok hnm hdc hh ds u _ u' s' h
    refine ⟨h1,fun N fr hN a w R δ es m hA hm fn K hK=>?_⟩
    have hes:∃b es',es=⟨.collected b,#[]⟩::es'∧R q=some (b,0,0)∧DsR R ds es':=by
      have:=hA.defers
      simp only at this
      cases this with
      | cons e r =>
        cases e with
        |col e=>exact ⟨_,_,rfl,e,r⟩
    obtain ⟨b,es',rfl,hb,hds⟩:=hes
    obtain ⟨b',d,o',k1,k2,k3⟩:=(hA.hr hh fr (Nat.le_trans h1 hN)).obj q _ hq
    rw [hb] at k1
    injection k1 with k1
    injection k1 with k1 k4
    subst k1
    cases k3
    have hlt:b<w.heap.size:=(Array.getElem?_eq_some_iff.1 k2).1
    refine ⟨hm.ne, .inl ⟨b,_,rfl,run_takeDeferred k2,h2 N fr hN a _ R (δ++[(q,some (.deferred none))]) es' m ?_ hm fn K hK⟩⟩
    exact hA.step' (ds:=ds) (a':={a with defers:=es'}) hh fr (Nat.le_trans h1 hN) (Post.set1 (hA.hr hh fr (Nat.le_trans h1 hN)) hq hb hlt .noCalls) hA.tmps hd1 hds
  | .fn g avs cs :: ds, u, ⟨T, H, n, d, ds'⟩, u', s', h => by
    rw [vleave] at h
    split at h
    case h_2=>cases h
    next b δ1 n1 hd=>
    split at h
    case h_2=>cases h
    next d1 hle hd1=>
    obtain ⟨⟨fn',hfn',hb'⟩,hcall⟩:=hdc _ _ _ _ _ _ _ _ hd
    have hle':=Nat.le_of_ble_eq_true hle
    obtain ⟨h1,h2⟩:=vleave_ok hnm hdc hh ds _ _ u' s' h
    simp only at h1
    refine ⟨Nat.le_trans hle' h1,fun N fr hN a w R δ es m hA hm fn K hK=>?_⟩
    have hes:∃us vs es',es=⟨.fn (.func g) vs,us⟩::es'∧VRs R avs us.toList∧VRs R cs vs.toList∧DsR R ds es':=by
      have:=hA.defers
      simp only at this
      cases this with
      | cons e r =>
        cases e with
        |fn e1 e2=>exact ⟨_,_,_,rfl,e1,e2,r⟩
    obtain ⟨us,vs,es',rfl,hus,hvs,hds⟩:=hes
    have hg:g<P.funcs.size:=(Array.getElem?_eq_some_iff.1 hfn').1
    have hnb:fn'.body.isNone=false:=by
      cases hb:fn'.body with
      |none=>rw [hb] at hb';cases hb'
      |some _=>rfl
    have hinv:(invoke (.fn (.func g) vs) us).run P w= .ok (.enter g (us++vs)) w:=by
      simp only [invoke,callFunc]
      simp only [program,Sem.run_bind,Sem.run,Result.andThen_ok,hfn',hnm g fn' hfn',hnb]
      rfl
    have hr:=hA.hr hh fr (Nat.le_trans hle' (Nat.le_trans h1 hN))
    have hc:=hcall R w (us++vs) m hr ((hA.fresh fr).part (Nat.le_refl _) (Nat.le_trans h1 hN)) (by rw [Array.toList_append];exact hus.append hvs) hm
    refine ⟨hm.ne, .inr ⟨(fun h=>by cases h), .func g,vs,g,us++vs,rfl,hinv,fun f' hf'=>?_,hc.mono ?_⟩⟩
    · simp only [Target.leads,Option.some.injEq] at hf'
      subst hf'
      exact hg
    · rintro e m' w' ⟨x,rfl,hset,R',hp⟩
      simp only
      rw [hset]
      have hle2:=hA.rle fr (Nat.le_trans h1 hN) hp
      refine h2 N fr hN a w' R' (δ++δ1) es' _ ?_ ?_ fn K hK
      · exact hA.step' (ds:=ds) (a':={a with defers:=es'}) hh fr (Nat.le_trans h1 hN) hp (hA.tmps.mono hle2) hd1 (hds.mono hle2)
      · cases b with
        |true=>exact .ret
        |false=>exact hm.mono hle2
theorem vfin_ok (hh:HR P R0 H0.get w0) {fn:Func} {u:Option Value} {v:Value} {δ':Delta} {n':Nat} (h:vfin P fn n0 (some (u,s))=some (v,δ',n')):n'=s.n∧∀(a:Act) (w:World) (R:Ren) (δ:Delta) (m:FrameMode),Fr P R0 H0.get n0 s.n→AtR P R0 n0 H0 w0 sz s a w R δ→ModeR R u m→LeavesIn (FW P none) 0 P fn a.tmps (CPost R0 H0 n0 v δ' n' w0) [] m w:=by
  cases u with
  | none =>
    simp only [vfin] at h
    obtain ⟨h1,_⟩:=vret_ok (a:=⟨#[],[]⟩) (w:=w0) (R:=R0) (δ:=[]) (sz:=sz) hh h
    subst h1
    refine ⟨rfl,fun a w R δ m fr hA hm=>?_⟩
    obtain ⟨u,h2,h3,h4⟩:=(vret_ok hh h).2 fr hA
    cases hm
    refine ⟨u,h2,?_⟩
    unfold CPost
    rw [panOf_vr h3]
    exact ⟨u,R,rfl,h3,h4⟩
  | some p =>
    simp only [vfin] at h
    obtain ⟨h1,hp,_⟩:=vpan_ok (P:=P) (R0:=R0) (H0:=H0) (w0:=w0) (a:=⟨#[],[]⟩) (w:=w0) (R:=R0) (δ:=[]) (sz:=sz) h
    subst h1
    refine ⟨rfl,fun a w R δ m fr hA hm=>?_⟩
    have h4:=(vpan_ok h).2.2 fr hA
    cases hm with
    | pan hv =>
      change CPost R0 H0 n0 v δ' s.n w0 (.panicked _) w
      unfold CPost
      rw [hp]
      exact ⟨_,R,rfl,hv,h4⟩
theorem vout_ok (hnm : NamesOk P) {dc : DefT} (hdc : DcOk P dc) (hh : HR P R0 H0.get w0) {fn : Func} {r : Option (VE × VS)} {v : Value} {δ' : Delta} {n' : Nat} (h : vout P fn n0 dc r = some (v, δ', n')) : ∃ e s1, r = some (e, s1) ∧ s1.n ≤ n' ∧
    ∀(c:Code) (st:Act) (w:World),Fr P R0 H0.get n0 n'→c.wpIn (FW P none) 0 P (COk P R0 n0 H0 w0 sz e s1) st w→c.wpIn (FW P none) 0 P (bodyPostM (FW P none) 0 P fn (CPost R0 H0 n0 v δ' n' w0)) st w:=by
  have key:∀(s1:VS) (u:Option Value),vfin P fn n0 (vleave n0 dc s1.ds u s1)=some (v,δ',n')→s1.n≤n'∧(Fr P R0 H0.get n0 n'→∀(a:Act) (w:World) (R:Ren) (δ:Delta) (m:FrameMode),AtR P R0 n0 H0 w0 sz s1 a w R δ→ModeR R u m→LeavesInM (FW P none) 0 P fn a.tmps (CPost R0 H0 n0 v δ' n' w0) a.defers m w):=by
    intro s1 u h
    cases hl:vleave n0 dc s1.ds u s1 with
    |none=>rw [hl] at h;cases h
    | some p =>
      obtain ⟨u',s2⟩:=p
      rw [hl] at h
      obtain ⟨h1,h2⟩:=vleave_ok (sz:=sz) hnm hdc hh _ _ _ _ _ hl
      obtain ⟨h3,h4⟩:=vfin_ok (sz:=sz) hh h
      subst h3
      refine ⟨h1,fun fr a w R δ m hA hm=>h2 _ fr (Nat.le_refl _) a w R δ a.defers m hA hm fn _ fun w' R' δ1 m' hA' hm'=>?_⟩
      have h6:vfin P fn n0 (some (u',⟨s2.T,s2.H,s2.n,s2.d,[]⟩))=some (v,δ',s2.n):=by
        obtain ⟨T,H,n,d,ds⟩:=s2
        cases u' with
        |none=>exact h
        |some p=>exact h
      exact (vfin_ok (sz:=sz) hh h6).2 {a with defers:=[]} w' R' δ1 m' fr hA' hm'
  unfold vout at h
  split at h
  · next s1=>
    obtain ⟨h1,h2⟩:=key s1 none h
    refine ⟨_,s1,rfl,h1,fun c st w fr hw=>wpIn_mono hw ?_⟩
    rintro e a w ⟨rfl,R,δ,hA⟩
    exact h2 fr a w R δ .returning hA .ret
  · next s1=>
    obtain ⟨h1,h2⟩:=key s1 none h
    refine ⟨_,s1,rfl,h1,fun c st w fr hw=>wpIn_mono hw ?_⟩
    rintro e a w ⟨rfl,R,δ,hA⟩
    exact h2 fr a w R δ .returning hA .ret
  · next p s1=>
    obtain ⟨h1,h2⟩:=key s1 (some p) h
    refine ⟨_,s1,rfl,h1,fun c st w fr hw=>wpIn_mono hw ?_⟩
    rintro e a w ⟨u,rfl,R,δ,hA,hu⟩
    exact h2 fr a w R δ _ hA (.pan hu)
  · cases h
end
end
end Go.V
namespace Go.V
noncomputable section
section
variable {P:Program} {w w':World}
theorem run_val {s:Sem Value} {n:Next} (h:(do let x←s;pure (Next.value x):Sem Next).run P w= .ok n w'):∃v,n= .value v:=by
 rw [Sem.run_bind] at h
 cases hs:s.run P w with
 |ok v w1=>rw [hs] at h;simp only [Result.andThen_ok,Sem.run_pure,Result.ok.injEq] at h;exact ⟨v,h.1.symm⟩
 |halt y w1=>rw [hs] at h;cases h
theorem run_unit {s:Sem Unit} {n:Next} (h:(do s;pure Next.skip:Sem Next).run P w= .ok n w'):n= .skip:=by
 rw [Sem.run_bind] at h
 cases hs:s.run P w with
 |ok v w1=>rw [hs] at h;simp only [Result.andThen_ok,Sem.run_pure,Result.ok.injEq] at h;exact h.1.symm
 |halt y w1=>rw [hs] at h;cases h
theorem calm_run {o:Oper} {ρ:Operand→Value} {n:Next} (hc:calm o.op=true) (h:(execOp ρ o).run P w= .ok n w'):(∃v,n= .value v)∨n= .skip:=by
 obtain ⟨dst,op,ty,pos,after,guard⟩:=o
 unfold calm at hc
 split at hc
 case h_14=>cases hc
 all_goals first
  |(next e=>simp only at e;subst e;exact .inl (run_val h))
  |(next e=>simp only at e;subst e;exact .inr (run_unit h))
  |(next e=>simp only at e;subst e;simp only [execOp,Sem.run_pure,Result.ok.injEq] at h;exact .inl ⟨_,h.1.symm⟩)
  |skip
theorem wpSIn_mono {F:Fence} {c:Code} {Q Q':Exit→Act→List Frame→World→Prop} {a:Act} {cs:List Frame} (h:c.wpSIn F 0 P Q a cs w) (hq:∀e a cs w,Q e a cs w→Q' e a cs w):c.wpSIn F 0 P Q' a cs w:=
 fun b k hb hr hF hroom=>let ⟨e,a',cs',w',l,q,r⟩:=h b k hb hr hF hroom;⟨e,a',cs',w',l,hq _ _ _ _ q,r⟩
inductive ModeS (R:Ren) (m0:FrameMode):Option Value→Bool→FrameMode→Prop
 |ret:m0= .returning→ModeS R m0 none false .returning
 |pan {v x}:VR R v x→m0= .panicking [{v:=x,recovered:=false}]→ModeS R m0 (some v) false (.panicking [{v:=x,recovered:=false}])
 |got {v x}:VR R v x→ModeS R m0 (some v) true (.panicking [{v:=x,recovered:=true}])
def AtS (P:Program) (R0:Ren) (n0:Nat) (H0:Tr) (w0:World) (sz:Nat) (c0:Frame) (cs:List Frame) (s:SS) (a:Act) (cs':List Frame) (w:World):Prop:=
 At P R0 n0 H0 w0 sz s.s a w∧∃m,cs'={c0 with mode:=m}::cs∧ModeS R0 c0.mode s.u s.rv m
def COkS (P:Program) (R0:Ren) (n0:Nat) (H0:Tr) (w0:World) (sz:Nat) (c0:Frame) (cs:List Frame) (e:VE) (s:SS):Exit→Act→List Frame→World→Prop:=match e with
 | .normal=>fun e' a cs' w=>e'= .normal∧AtS P R0 n0 H0 w0 sz c0 cs s a cs' w
 | .exit i=>fun e' a cs' w=>e'= .exit i∧AtS P R0 n0 H0 w0 sz c0 cs s a cs' w
 | .ret=>fun e' a cs' w=>e'= .ret∧AtS P R0 n0 H0 w0 sz c0 cs s a cs' w
 | .panic v=>fun e' a cs' w=>∃ch,e'= .panic ch
variable {R0:Ren} {n0 N:Nat} {H0:Tr} {w0:World} {sz:Nat} {c0:Frame} {cs:List Frame} {Q:Exit→Act→List Frame→World→Prop} {ops:Array Oper} {o:Oper}
theorem vop1S_le {s s' : SS} (h : vop1S P sz n0 ops o s = some s') : s.s.n ≤ s'.s.n := by
  obtain ⟨u,rec,s⟩:=s
  simp only [vop1S] at h
  split at h
  · split at h
    · obtain ⟨T,H,n,d,ds⟩:=s
      simp only [recT] at h
      split at h
      · split at h
        · injection h with h;subst h;exact Nat.le_refl _
        · cases h
      · split at h
        · injection h with h;subst h;exact Nat.le_refl _
        · cases h
    · cases h
  · split at h
    · unfold toS at h
      split at h
      · next s1 h1=>injection h with h;subst h;exact vop1_le h1 rfl
      · cases h
    · cases h
theorem vopsS_le:∀{l:List Oper} {s s':SS},vopsS P sz n0 ops l s=some s'→s.s.n≤s'.s.n
  |[],s,s',h=>by injection h with h;subst h;exact Nat.le_refl _
  | o :: l, s, s', h => by
    rw [vopsS] at h
    split at h
    · next s1 h1=>exact Nat.le_trans (vop1S_le h1) (vopsS_le h)
    · cases h
theorem run_recover {ρ:Operand→Value} {o:Oper} (h:isRec o.op=true):(execOp ρ o).run P w= .ok .recover w∧(∀c,o.op≠ .defer c)∧o.about P w ρ=none:=by
 obtain ⟨dst,op,ty,pos,after,guard⟩:=o
 simp only at h⊢
 unfold isRec at h
 split at h
 ·exact ⟨rfl,(fun c e=>by cases e),rfl⟩
 ·cases h
theorem vopsS_ok (hnm : NamesOk P) (hh : HR P R0 H0.get w0) (fr : Fr P R0 H0.get n0 N) {s' : SS} (hN : s'.s.n ≤ N) (hQ : ∀ a cs' w, AtS P R0 n0 H0 w0 sz c0 cs s' a cs' w → Q .normal a cs' w) :
    ∀{l:List Oper} {s:SS} {a:Act} {cs':List Frame} {w:World},vopsS P sz n0 ops l s=some s'→AtS P R0 n0 H0 w0 sz c0 cs s a cs' w→∀k:List Nat,k.map (fun i=>ops[i]?)=l.map some→wpOpsSIn (FW P none) 0 P ops Q k a cs' w
  | [], s, a, cs', w, h, hA, k, hk => by
    injection h with h
    subst h
    have:k=[]:=by simpa using hk
    subst this
    exact hQ _ _ _ hA
  |o::l,s,a,cs',w,h,hA,[],hk=>by simp at hk
  | o :: l, ⟨u, rec, s⟩, a, cs', w, h, ⟨hA, m, hcs, hm⟩, i :: k, hk => by
    simp only [List.map_cons,List.cons.injEq] at hk
    rw [vopsS] at h
    split at h
    case h_2=>cases h
    next s1 h1=>
    have hN1:=Nat.le_trans (vopsS_le h) hN
    have ih:=fun (a:Act) (cs2:List Frame) (w:World) (hA:AtS P R0 n0 H0 w0 sz c0 cs s1 a cs2 w)=>vopsS_ok hnm hh fr hN hQ h hA k hk.2
    simp only [wpOpsSIn,hk.1]
    obtain ⟨R,δ,hA⟩:=hA
    simp only [vop1S] at h1
    split at h1
    · next hrec=>
      split at h1
      case h_2=>cases h1
      next hw=>
      obtain ⟨hrun,hd,hab⟩:=run_recover (P:=P) (w:=w) (ρ:=a.eval) hrec
      refine ⟨(fun f hf=>by rw [hab] at hf;cases hf),?_⟩
      rw [wantV_ok hw hA.tmps]
      simp only [if_true,hrun]
      obtain ⟨T,H,n,d,ds⟩:=s
      have nil:∀T',putV sz T o.dst (some .nilIface)=some T'→At P R0 n0 H0 w0 sz ⟨T',H,n,d,ds⟩ (a.put o.dst .nilIface) w:=fun T' hT=>
        ⟨R,δ,hA.post,hA.heap,TR.put hA.tmps hT (fun y e=>by injection e with e;subst e;exact .nilIface),by rw [put_dfs];exact hA.defers,hA.old,hA.all⟩
      subst hcs
      cases hm with
      | ret he0 =>
        simp only [recoverD]
        simp only [recT] at h1
        split at h1
        · next T' hT=>
          injection h1 with h1
          subst h1
          exact ih _ _ _ ⟨nil T' hT,_,rfl, .ret he0⟩
        · cases h1
      | pan hv he0 =>
        next v x=>
        simp only [recoverD]
        simp only [recT] at h1
        split at h1
        · next T' hT=>
          injection h1 with h1
          subst h1
          have hN1:n≤N:=hN1
          refine ih _ _ _ ⟨⟨R,δ,hA.post,hA.heap,TR.put hA.tmps hT (fun y e=>by injection e with e;subst e;exact hv.mono (hA.post.rle (fr.part (Nat.le_refl _) hN1))),by rw [put_dfs];exact hA.defers,hA.old,hA.all⟩,_,rfl, .got hv⟩
        · cases h1
      | got hv =>
        simp only [recoverD]
        simp only [recT] at h1
        split at h1
        · next T' hT=>
          injection h1 with h1
          subst h1
          exact ih _ _ _ ⟨nil T' hT,_,rfl, .got hv⟩
        · cases h1
    · next hrec=>
      split at h1
      case h_2=>cases h1
      next hcalm=>
      unfold toS at h1
      split at h1
      case h_2=>cases h1
      next s2 h2=>
      injection h1 with h1
      subst h1
      simp only at hN1
      rcases vop1_cases h2 (by simp) with ⟨T,hw,hab,hT,he⟩|⟨hw,hc⟩
      · injection he with he
        subst he
        refine ⟨about_off (evT_ok (hA.hr hh fr hN1) hA.tmps) hab,?_⟩
        rw [wantV_ok hw hA.tmps]
        simp only [Bool.false_eq_true,if_false]
        exact ih _ _ _ ⟨hA.skip hT,m,hcs,hm⟩
      · rcases hc with ⟨x,δ1,n1,T,d,hv,hle,hT,hd,he⟩|⟨f,args,ats,v,p,δ1,n1,d,hop,_⟩|⟨x,t,v,hop,hv,he⟩|⟨f,args,ats,g,fs,cs2,avs,T,hro2,hop,_⟩
        · injection he with he
          subst he
          simp only at hN1
          have hr:=hA.hr hh fr (Nat.le_trans hle hN1)
          have hcall:∀f args H n v δ n',(fun _ _ _ _=>none:CallT) f args H n=some (v,δ,n')→CallOk P f args H n v δ n':=fun _ _ _ _ _ _ _ h=>by cases h
          have hok:OpOk P o (evT P s.T) s.H s.n x δ1 n1:=by
            rcases hv with hv|hv
            · exact vop_ok hnm hcall hv
            · exact vopF_ok hnm hcall hv
          refine ⟨about_on (evT_ok hr hA.tmps) hv,?_⟩
          rw [wantV_ok hw hA.tmps]
          simp only [if_true]
          have hres:=hok R w a.eval hr ((hA.fresh fr).part (Nat.le_refl _) hN1) (evT_ok hr hA.tmps)
          cases hx:(execOp a.eval o).run P w with
          |halt y w1=>rw [hx] at hres;exact hres.elim
          | ok nx w1 =>
            rw [hx] at hres
            rcases calm_run hcalm hx with ⟨v,rfl⟩|rfl
            · obtain ⟨R',hx2,hp⟩:=hres
              exact ih _ _ _ ⟨hA.step hh fr hN1 hp hT hd hx2,m,hcs,hm⟩
            · obtain ⟨rfl,R',hp⟩:=hres
              exact ih _ _ _ ⟨hA.step hh fr hN1 hp hT hd (fun u e=>by cases e),m,hcs,hm⟩
        · rw [hop] at hcalm;cases hcalm
        · cases he
        · rw [hop] at hcalm;cases hcalm
theorem COkS.thenQ {e:VE} {s':SS} (hne:e≠ .normal) {e':Exit} {a:Act} {cs':List Frame} {w:World} {K:Act→List Frame→World→Prop} (h:COkS P R0 n0 H0 w0 sz c0 cs e s' e' a cs' w):Exit.thenS K (COkS P R0 n0 H0 w0 sz c0 cs e s') e' a cs' w:=by
 cases e with
 |normal=>exact (hne rfl).elim
 |exit i=>obtain ⟨rfl,hA⟩:=h;exact ⟨rfl,hA⟩
 |ret=>obtain ⟨rfl,hA⟩:=h;exact ⟨rfl,hA⟩
 |panic v=>obtain ⟨u,rfl⟩:=h;exact ⟨u,rfl⟩
theorem vcodeS_ok (hnm : NamesOk P) (hh : HR P R0 H0.get w0) {code : Code → VS → Option (VE × VS)}
    (hcode:∀c s e s',code c s=some (e,s')→s.n≤s'.n∧∀N,Fr P R0 H0.get n0 N→s'.n≤N→∀a w,At P R0 n0 H0 w0 sz s a w→c.wpIn (FW P none) 0 P (COk P R0 n0 H0 w0 sz e s') a w):
    ∀ (f : Nat) (c : Code) (s : SS) (e : VE) (s' : SS), vcodeS P sz n0 code f c s = some (e, s') → s.s.n ≤ s'.s.n ∧ ∀ N, Fr P R0 H0.get n0 N → s'.s.n ≤ N → ∀ a cs' w, AtS P R0 n0 H0 w0 sz c0 cs s a cs' w →
      c.wpSIn (FW P none) 0 P (COkS P R0 n0 H0 w0 sz c0 cs e s') a cs' w:=by
  intro f
  induction f with
  |zero=>intro c s e s' h;cases h
  | succ f ih =>
    intro c s e s' h
    change vstepS P sz n0 code (vcodeS P sz n0 code f) c s=some (e,s') at h
    generalize vcodeS P sz n0 code f=go at ih h
    unfold vstepS at h
    split at h
    · next x y=>
      unfold sSeqS at h
      split at h
      · next s1 hs=>
        obtain ⟨h1,h2⟩:=ih _ _ _ _ hs
        obtain ⟨h3,h4⟩:=ih _ _ _ _ h
        refine ⟨Nat.le_trans h1 h3,fun N fr hN a cs' w hA=>wpSIn_seq (wpSIn_mono (h2 N fr (Nat.le_trans h3 hN) a cs' w hA) ?_)⟩
        rintro e' a' cs' w' ⟨he,hA'⟩
        subst he
        exact h4 N fr hN a' cs' w' hA'
      · next hne=>
        obtain ⟨h1,h2⟩:=ih _ _ _ _ h
        refine ⟨h1,fun N fr hN a cs' w hA=>wpSIn_seq (wpSIn_mono (h2 N fr hN a cs' w hA) ?_)⟩
        intro e' a' cs' w' hc
        exact hc.thenQ (fun e2=>by subst e2;exact hne _ h)
    · next x y z=>
      unfold sCondS at h
      split at h
      · next hc=>
        obtain ⟨h1,h2⟩:=ih _ _ _ _ h
        refine ⟨h1,fun N fr hN a cs' w hA=>?_⟩
        have hA2:=hA
        obtain ⟨⟨R,δ,hA2⟩,_⟩:=hA2
        have:=evT_ok (hA2.hr hh fr (Nat.le_trans h1 hN)) hA2.tmps _ _ hc
        exact wpSIn_cond (t:=true) (plain_eq this rfl) (h2 N fr hN a cs' w hA)
      · next hc=>
        obtain ⟨h1,h2⟩:=ih _ _ _ _ h
        refine ⟨h1,fun N fr hN a cs' w hA=>?_⟩
        have hA2:=hA
        obtain ⟨⟨R,δ,hA2⟩,_⟩:=hA2
        have:=evT_ok (hA2.hr hh fr (Nat.le_trans h1 hN)) hA2.tmps _ _ hc
        exact wpSIn_cond (t:=false) (plain_eq this rfl) (h2 N fr hN a cs' w hA)
      · cases h
    · next id ops=>
      unfold toNS at h
      split at h
      · next s1 hs=>
        injection h with h;injection h with h1 h2;subst h1 h2
        exact ⟨vopsS_le hs,fun N fr hN a cs' w hA=>wpSIn_region (vopsS_ok hnm hh fr hN (fun a cs' w hA=>⟨rfl,hA⟩) hs hA _ (range_map ops))⟩
      · cases h
    · next u rec s1=>
      unfold toES at h
      split at h
      · next e1 s2 hs=>
        injection h with h;injection h with h1 h2;subst h1 h2
        obtain ⟨h3,h4⟩:=hcode _ _ _ _ hs
        refine ⟨h3,fun N fr hN a cs' w hA=>wpSIn_of_wpIn rfl (wpIn_mono (h4 N fr hN a w hA.1) fun e' a' w' hc=>?_)⟩
        obtain ⟨_,m,hcs,hm⟩:=hA
        cases e1 with
        |normal=>exact ⟨hc.1,hc.2,m,hcs,hm⟩
        |exit i=>exact ⟨hc.1,hc.2,m,hcs,hm⟩
        |ret=>exact ⟨hc.1,hc.2,m,hcs,hm⟩
        |panic v=>obtain ⟨u,h5,_⟩:=hc;exact ⟨_,h5⟩
      · cases h
end
end
end Go.V
namespace Go.V
noncomputable section
section
variable {P:Program} {w:World}
def roundEnd (P:Program) (l:Nat) (R:Ending→World→Prop):Exit→Act→World→Prop
 | .normal,_,w=>∃v w',(Instr.endRound l none).run P w= .ok v w'∧R (.returned v) w'
 | .ret,_,w=>∃v w',(Instr.endRound l (some .ret)).run P w= .ok v w'∧R (.returned v) w'
 | .exit id,_,w=>∃v w',(Instr.endRound l (some (.exit id))).run P w= .ok v w'∧R (.returned v) w'
 | .panic ch,a,w=>a.defers=[]∧R (.panicked ch) w
 |_,_,_=>False
theorem round_of {l:Nat} {f:FuncId} {tmps:Array Value} {assign body:Code} {R:Ending→World→Prop} (hF:f<P.funcs.size)
    (h:assign.wpIn (FW P (some l)) 0 P (Exit.then (fun a₁ w₁=>∃w₂,(Instr.beginRound l).run P w₁= .ok () w₂∧body.wpIn (FW P (some l)) 0 P (roundEnd P l R) a₁ w₂) (fun _ _ _=>False)) {tmps:=tmps,defers:=[]} w):
    RoundIn (FW P none) 0 P l f tmps assign body w R:=by
  refine ⟨hF,fun c cs hr=>?_⟩
  let b:Frame:={(default:Frame) with fn:=f,kind:= .normal,roundOf:=some l}
  have hb0:Frame.round l f tmps assign body .normal=b.atR {tmps:=tmps,defers:=[]} [.code assign, .beginRound, .code body]:=by
    simp [Frame.round,Frame.atR,b]
  have hr':(FW P (some l)).room ((c::cs).length+1+0):=hr
  have hF':(FW P (some l)).fn b.fn:=hF
  obtain ⟨e,a₁,w₁,hq,harr⟩:=h b [.beginRound, .code body] (c::cs) rfl hF' hr'
  rw [←hb0] at harr
  cases e with
  | normal =>
    obtain ⟨w₂,hbr,hbody⟩:=hq
    have s1:StepsIn (Machine.fenced P (FW P (some l))) P (lone (b.atR a₁ [.beginRound, .code body]) (c::cs) w₁) (lone (b.atR a₁ [.code body]) (c::cs) w₂):=
      .one (fenced_calm (fr:=b.atR a₁ [.beginRound, .code body]) hF' hr' rfl) (stepR_beginRound rfl hbr)
    obtain ⟨e₂,a₂,w₃,hq₂,harr₂⟩:=hbody b [] (c::cs) rfl hF' hr'
    cases e₂ with
    | normal =>
      obtain ⟨v,w₄,hend,hR⟩:=hq₂
      exact ⟨.returned v,w₄,hR,(StepsIn.trans harr s1).trans (StepsIn.trans harr₂ (.one (fenced_calm (fr:=b.atR a₂ []) hF' hr' rfl) (stepR_round_end rfl rfl hend)))⟩
    | ret =>
      obtain ⟨v,w₄,hend,hR⟩:=hq₂
      obtain ⟨k₁,hs⟩:=harr₂.2 rfl
      exact ⟨.returned v,w₄,hR,(StepsIn.trans harr s1).trans (StepsIn.trans hs (.one (fenced_calm (fr:=b.atR a₂ (.code .ret::k₁)) hF' hr' rfl) (stepR_round_ret rfl rfl hend)))⟩
    | exit id =>
      obtain ⟨v,w₄,hend,hR⟩:=hq₂
      obtain ⟨k₁,hk,hs⟩:=harr₂.2 rfl rfl
      exact ⟨.returned v,w₄,hR,(StepsIn.trans harr s1).trans (StepsIn.trans hs (.one (fenced_calm (fr:=b.atR a₂ (.code (.exit id)::k₁)) hF' hr' rfl) (stepR_round_exit rfl rfl hk hend)))⟩
    |goto t=>exact hq₂.elim
    | panic chain =>
      obtain ⟨hd,hR⟩:=hq₂
      obtain ⟨todo,hs⟩:=harr₂
      obtain ⟨fn,hfn⟩:∃fn,P.funcs[f]?=some fn:=⟨_,Array.getElem?_eq_getElem hF⟩
      have hl:({b.atR a₂ todo with mode:= .panicking chain}:Frame).leaving P w₃ (.panicked chain):=⟨rfl,hd,fn,hfn⟩
      exact ⟨.panicked chain,w₃,hR,(StepsIn.trans harr s1).trans (StepsIn.trans hs (.one (fenced_leaving (F:=FW P none) hF hr' hl) (step_leave_panicked hl)))⟩
    |outgrown=>exact hq₂.elim
  |exit id=>exact hq.elim
  |goto t=>exact hq.elim
  |ret=>exact hq.elim
  |panic chain=>exact hq.elim
  |outgrown=>exact hq.elim
theorem roundT_get : ∀ (vs : List Value) (i : Nat) (T : Tt) (t : Nat) (v : Value), (roundT i vs T).get t = some v → T.get t = some v ∨ (i ≤ t ∧ vs[t - i]? = some v ∧ isU v = false)
  |[],i,T,t,v,h=> .inl h
  | x :: vs, i, T, t, v, h => by
    rw [roundT] at h
    rcases roundT_get vs (i+1) _ t v h with h1|⟨h1,h2,h3⟩
    · cases hx:isU x with
      |true=>rw [hx] at h1;exact .inl h1
      | false =>
        rw [hx] at h1
        simp only at h1
        rw [Tt.get_set] at h1
        split at h1
        · next e=>
          subst e
          injection h1 with h1
          subst h1
          exact .inr ⟨Nat.le_refl _,by rw [Nat.sub_self];rfl,hx⟩
        · exact .inl h1
    · exact .inr ⟨by omega,by rw [show t-i=(t-(i+1))+1 by omega,List.getElem?_cons_succ];exact h2,h3⟩
theorem parT_ok {R : Ren} {sz : Nat} : ∀ (ps : List Tmp) (vs us : List Value) (T T' : Tt) (tmps : Array Value), parT sz ps vs T = some T' → VRs R vs us → TR R sz T tmps → us.length = ps.length ∧ TR R sz T' ((ps.zip us).foldl (fun t (p, a) => t.setIfInBounds p a) tmps)
  | [], [], us, T, T', tmps, h, hv, ht => by
    injection h with h
    subst h
    cases hv
    exact ⟨rfl,ht⟩
  |[],_::_,us,T,T',tmps,h,hv,ht=>by cases h
  |_::_,[],us,T,T',tmps,h,hv,ht=>by cases h
  | p :: ps, v :: vs, us, T, T', tmps, h, hv, ht => by
    rw [parT] at h
    split at h
    case h_2=>cases h
    next hp=>
    have hp:p<sz:=Nat.le_of_ble_eq_true hp
    cases hv with
    | cons a b =>
      next u us=>
      have:=parT_ok ps vs us _ T' (tmps.setIfInBounds p u) h b ⟨by simpa using ht.1,fun t x e=>?_⟩
      · exact ⟨by rw [List.length_cons,List.length_cons,this.1],this.2⟩
      · rw [Tt.get_set] at e
        split at e
        · next e2=>
          subst e2
          injection e with e
          subst e
          exact ⟨u,by simp [ht.1,hp],a⟩
        · next hne=>
          obtain ⟨y,h1,h2⟩:=ht.2 t x e
          exact ⟨y,by rw [Array.getElem?_setIfInBounds_ne (fun e=>hne e.symm)];exact h1,h2⟩
variable {R0:Ren} {n0 N:Nat} {H0:Tr} {w0:World} {sz:Nat}
theorem vend_ok (hh:HR P R0 H0.get w0) {l b:Nat} (hb:R0 l=some (b,0,0)) {r:Option (VE×VS)} {v:Value} {δ':Delta} {n':Nat} (h:vend n0 l r=some (v,δ',n')):∃e s,r=some (e,s)∧s.n=n'∧(Fr P R0 H0.get n0 n'→∀e' a w,COk P R0 n0 H0 w0 sz e s e' a w→roundEnd P b (CPost R0 H0 n0 v δ' n' w0) e' a w):=by
 have key:∀(s:VS) (jump:Option Code),vend2 n0 l jump s (s.H.get l)=some (v,δ',n')→s.n=n'∧(Fr P R0 H0.get n0 n'→∀a w,At P R0 n0 H0 w0 sz s a w→∃u w',(Instr.endRound b jump).run P w= .ok u w'∧CPost R0 H0 n0 v δ' n' w0 (.returned u) w'):=by
  intro s jump h
  unfold vend2 at h
  split at h
  case h_2=>cases h
  next st pe f ts ps x y D hl=>
  unfold vend3 at h
  split at h
  case h_2=>cases h
  next T H n d ds hset=>
  obtain ⟨d1,hd1,e1⟩:=setS_eq hset
  obtain ⟨h3,h4,work,new,h5,h6⟩:=vret2_ok h
  have hn:n=s.n:=by injection e1
  subst h3 h4 h6
  refine ⟨hn.symm,fun fr a w ⟨R,δ,hA⟩=>?_⟩
  rw [hn] at fr
  have hR:R l=some (b,0,0):=hA.post.rle fr _ _ hb
  obtain ⟨g,us,c,k1,kg,k2,k3⟩:=hA.loop hh fr (Nat.le_refl _) hl hR
  have hlt:b<w.heap.size:=(Array.getElem?_eq_some_iff.1 k1).1
  have hrun:=run_endRound (P:=P) jump k1
  have hA2:=hA.set (o':= .loop ⟨jumpSt jump,jump,g,us,ps,x,y,c⟩) hh fr (Nat.le_refl _) hl hR hlt (.loop kg k2 k3) hset
  have hst:(if jump.isNone then LoopState.ready else .done)=jumpSt jump:=by cases jump<;>rfl
  refine ⟨_,_,hrun,?_⟩
  unfold CPost
  simp only [panOf]
  refine ⟨_,R,rfl, .bool _,?_⟩
  have:=hA2.less (by rw [hn];exact fr) h5
  rw [←hst] at this
  exact this
 unfold vend at h
 split at h
 ·next s=>
  obtain ⟨h1,h2⟩:=key s none h
  refine ⟨_,s,rfl,h1,fun fr e' a w hc=>?_⟩
  obtain ⟨rfl,hA⟩:=hc
  exact h2 fr a w hA
 ·next s=>
  obtain ⟨h1,h2⟩:=key s (some .ret) h
  refine ⟨_,s,rfl,h1,fun fr e' a w hc=>?_⟩
  obtain ⟨rfl,hA⟩:=hc
  exact h2 fr a w hA
 ·next i s=>
  obtain ⟨h1,h2⟩:=key s (some (.exit i)) h
  refine ⟨_,s,rfl,h1,fun fr e' a w hc=>?_⟩
  obtain ⟨rfl,hA⟩:=hc
  exact h2 fr a w hA
 ·next p T H n d=>
  obtain ⟨h1,hp,_⟩:=vpan_ok (P:=P) (R0:=R0) (H0:=H0) (w0:=w0) (a:=⟨#[],[]⟩) (w:=w0) (R:=R0) (δ:=[]) (sz:=sz) h
  refine ⟨_,_,rfl,h1.symm,fun fr e' a w hc=>?_⟩
  obtain ⟨u,rfl,R,δ,hA,hu⟩:=hc
  have hde:a.defers=[]:=by have:=hA.defers;generalize a.defers=x at this;cases this;rfl
  have h4:=(vpan_ok h).2.2 (by rw [←h1];exact fr) hA
  refine ⟨hde,?_⟩
  unfold CPost
  rw [hp]
  rw [←h1] at h4
  exact ⟨u,R,rfl,hu,h4⟩
 ·cases h
theorem vdefer_ok (hnm : NamesOk P) (drawn : CallT → Nat → Nat → Array Oper → VS → Option VS)
    (hdr:∀(call:CallT),(∀f args H n v δ n',call f args H n=some (v,δ,n')→CallOk P f args H n v δ n')→∀sz n0,DrawnOk P sz n0 (drawn call sz n0))
    {call:CallT} (hcall:∀f args H n v δ n',call f args H n=some (v,δ,n')→CallOk P f args H n v δ n'):DcOk P (vdefer P call drawn):=by
  intro g avs u H n b δ n' h
  unfold vdefer at h
  split at h
  case h_2=>cases h
  next fn hfn=>
  split at h
  case h_2=>cases h
  next c hb=>
  have hg:g<P.funcs.size:=(Array.getElem?_eq_some_iff.1 hfn).1
  have fin:∀(e:VE) (ss:SS),(e= .normal∨e= .ret)→vcodeS P (max avs.length fn.ntmps) n (vcode P call (max avs.length fn.ntmps) n none (drawn call (max avs.length fn.ntmps) n) 100000) 100000 c ⟨u,false,⟨tmpsOf 0 avs .leaf,H,n,[],[]⟩⟩=some (e,ss)→vdend2 P fn n ss.rv ss.s=some (b,δ,n')→
      ∀ (R : Ren) (w : World) (us : Array Value) (m : FrameMode), HR P R H.get w → Fr P R H.get n n' → VRs R avs us.toList → ModeR R u m →
        CallsDIn (FW P none) 0 P g us m w fun e m' w'=>∃x,e= .returned x∧settle m'=(if b then .returning else m)∧∃R',Post R R' n n' H.get δ w w':=by
    intro e ss he hc hd
    obtain ⟨u2,rec,T2,H2,n2,d2,ds2⟩:=ss
    simp only at hd
    unfold vdend2 at hd
    split at hd
    case h_2=>cases hd
    next T3 H3 n3 d3 heq=>
    split at hd
    case h_2=>cases hd
    next v δ3 n4 hret=>
    injection hd with hd
    injection hd with hd1 hd
    injection hd with hd2 hd3
    subst hd1 hd2 hd3
    injection heq with q1 q2 q3 q4 q5
    subst q1 q2 q3 q4 q5
    have hn4:n4=n2:=by
      have h5:vret P fn n ⟨T2,H2,n2,d2,[]⟩=some (v,δ3,n4):=hret
      simp only [vret] at h5
      unfold vret1 at h5
      split at h5
      · cases h5
      · exact (vret2_ok h5).2.1
      · exact (vret2_ok h5).2.1
    subst hn4
    have hcode:∀R w,HR P R H.get w→∀c s e s',vcode P call (max avs.length fn.ntmps) n none (drawn call (max avs.length fn.ntmps) n) 100000 c s=some (e,s')→s.n≤s'.n∧∀N,Fr P R H.get n N→s'.n≤N→∀a w2,At P R n H w (max avs.length fn.ntmps) s a w2→c.wpIn (FW P none) 0 P (COk P R n H w (max avs.length fn.ntmps) e s') a w2:=by
      intro R w hh c s e s' hs
      obtain ⟨h1,h2⟩:=vcode_ok (rb:=none) hnm hcall (hdr _ hcall _ _) hh (.inl ⟨rfl,rfl⟩) 100000 c s e s' hs
      exact ⟨h1,fun N fr hN a w2 hA=>(h2 N fr hN a w2 hA).1⟩
    intro R w us m hh fr hus hm
    refine callsDIn_of_wpSIn hfn hb hg fun c0 cs hm0=>?_
    obtain ⟨h1,h2⟩:=vcodeS_ok (c0:=c0) (cs:=cs) hnm hh (hcode R w hh) 100000 c _ e _ hc
    have hms:ModeS R c0.mode u false m:=by
      rw [hm0]
      cases hm with
      |ret=>exact .ret rfl
      |pan hv=>exact .pan hv rfl
    refine wpSIn_mono (h2 n4 fr (Nat.le_refl _) _ (c0::cs) w ⟨⟨R,[],At.start hus⟩,m,by rw [←hm0],hms⟩) ?_
    intro e' a cs' w' hc'
    have fin2:AtS P R n H w (max avs.length fn.ntmps) c0 cs ⟨u2,rec,⟨T2,H2,n4,d2,[]⟩⟩ a cs' w'→a.defers=[]∧∃u',cs'={c0 with mode:=u'}::cs∧∃v,(results fn a.tmps).run P w'= .ok v w'∧∃x,Ending.returned v= .returned x∧settle u'=(if rec then .returning else m)∧∃R',Post R R' n n4 H.get δ3 w w':=by
      rintro ⟨⟨R',δ',hA⟩,m',hcs,hm'⟩
      have hde:a.defers=[]:=by have:=hA.defers;generalize a.defers=x at this;cases this;rfl
      obtain ⟨x,h3,h4,h5⟩:=(vret_ok hh hret).2 fr hA
      refine ⟨hde,m',hcs,x,h3,x,rfl,?_,R',h5⟩
      cases hm' with
      |ret he0=>rw [←hm0,he0];rfl
      |pan hv he0=>rw [←hm0,he0];rfl
      |got hv=>rfl
    rcases he with rfl|rfl
    · obtain ⟨rfl,hA⟩:=hc';exact fin2 hA
    · obtain ⟨rfl,hA⟩:=hc';exact fin2 hA
  unfold vdend at h
  split at h
  · next u2 rec s2 hc=>
    exact ⟨⟨fn,hfn,by rw [hb];rfl⟩,fin .normal ⟨u2,rec,s2⟩ (.inl rfl) hc h⟩
  · next u2 rec s2 hc=>
    exact ⟨⟨fn,hfn,by rw [hb];rfl⟩,fin .ret ⟨u2,rec,s2⟩ (.inr rfl) hc h⟩
  · cases h
theorem vcall_ok (hnm : NamesOk P) (drawn : CallT → Nat → Nat → Array Oper → VS → Option VS)
    (hdr:∀(call:CallT),(∀f args H n v δ n',call f args H n=some (v,δ,n')→CallOk P f args H n v δ n')→∀sz n0,DrawnOk P sz n0 (drawn call sz n0)):
    ∀(f:Nat) (g:FuncId) (args:List Value) (H:Tr) (n:Nat) (v:Value) (δ:Delta) (n':Nat),vcall P drawn f g args H n=some (v,δ,n')→CallOk P g args H n v δ n':=by
  intro f
  induction f with
  |zero=>intro g args H n v δ n' h;cases h
  | succ f ih =>
    intro g args H n v δ n' h
    rw [vcall] at h
    simp only at h
    split at h
    · next hg=>
      have hge:P.funcs.size≤g:=by
        rcases Nat.lt_or_ge g P.funcs.size with h2|h2
        · rw [Array.getElem?_eq_getElem h2] at hg;cases hg
        · exact h2
      split at h
      case h_2=>cases h
      next st pe k ts ps x y D hl=>
      split at h
      · cases h
      next hk=>
      have hk:=Nat.le_of_ble_eq_true hk
      unfold vround1 at h
      split at h
      case h_2=>cases h
      next T hT=>
      intro R w avs hh fr hargs
      refine ⟨fun h2=>absurd h2 (Nat.not_lt.2 hge),fun _ b hb=>?_⟩
      obtain ⟨b',d,o',k1,k2,k3⟩:=hh.obj _ _ hl
      rw [hb] at k1
      injection k1 with k1
      injection k1 with k1 k4
      subst k1
      cases k3 with
      | loop kg kt kd =>
        next g' us c=>
        have hT0:TR R ts.size (roundT 0 ts.toList .leaf) us:=by
          refine ⟨kt.1.symm,fun t v e=>?_⟩
          rcases roundT_get _ _ _ _ _ e with h1|⟨_,h1,h2⟩
          · cases h1
          · exact kt.2 t v (by simpa using h1) h2
        obtain ⟨hlen,hT1⟩:=parT_ok _ _ avs.toList _ _ us hT hargs hT0
        have hsz:avs.size=ps.size:=by simpa using hlen
        have hfold:(ps.toList.zip avs.toList).foldl (fun t (p,a)=>t.setIfInBounds p a) us=(ps.zip avs).foldl (fun t (p,a)=>t.setIfInBounds p a) us:=by
          rw [←Array.foldl_toList,Array.toList_zip]
        rw [hfold] at hT1
        refine ⟨g',_,x,y,run_yield k2 hsz,round_of (Nat.lt_of_lt_of_le kg hk) ?_⟩
        have hro:(some (g-P.funcs.size)=(none:Option Nat)∧some b=none)∨∃l b',some (g-P.funcs.size)=some l∧some b=some b'∧R l=some (b',0,0):= .inr ⟨_,_,rfl,rfl,hb⟩
        have hv:=vcode_ok (rb:=some b) hnm ih (hdr _ ih ts.size n) hh hro 100000
        generalize vcode P (vcall P drawn f) ts.size n (some (g-P.funcs.size)) (drawn (vcall P drawn f) ts.size n) 100000=code at h hv
        unfold vround2 at h
        split at h
        case h_2=>cases h
        next s2 hbeg=>
        obtain ⟨e,s3,hy,hn3,hend⟩:=vend_ok (sz:=ts.size) hh hb h
        unfold vbegin at hbeg
        split at hbeg
        case h_2=>cases hbeg
        next s1 hx=>
        unfold vbegin2 at hbeg
        split at hbeg
        case h_2=>cases hbeg
        next st' pe' k' ts' ps' x' y' D' hl'=>
        split at hbeg
        case h_2=>cases hbeg
        next hready=>
        obtain ⟨h1,h2⟩:=hv _ _ _ _ hx
        obtain ⟨h3,h4⟩:=hv _ _ _ _ hy
        have hs12:s2.n=s1.n:=by obtain ⟨_,_,rfl⟩:=setS_eq hbeg;rfl
        have hN:s1.n≤n':=by rw [←hs12,←hn3];exact h3
        refine wpIn_mono (h2 n' fr hN _ _ ⟨R,[],Post.skip R n _ w,fun _=>rfl,hT1, .nil,(fun m h=>by cases h),(fun m h=>by cases h)⟩).1 ?_
        rintro e' a1 w1 ⟨he,R1,δ1,hA⟩
        subst he
        have hR1:R1 (g-P.funcs.size)=some (b,0,0):=hA.post.rle (fr.part (Nat.le_refl _) hN) _ _ hb
        obtain ⟨g2,us2,c2,q1,qg,q2,q3⟩:=hA.loop hh fr hN hl' hR1
        have hlt:b<w1.heap.size:=(Array.getElem?_eq_some_iff.1 q1).1
        have hst:st'= .ready:=by
          unfold stReady at hready
          split at hready
          · rfl
          · cases hready
        have hA2:=hA.set (o':= .loop ⟨.busy,pe',g2,us2,ps',x',y',c2⟩) hh fr hN hl' hR1 hlt (.loop qg q2 q3) hbeg
        refine ⟨_,run_beginRound q1 hst,wpIn_mono (h4 n' fr (by omega) a1 _ ⟨_,_,hA2⟩).1 fun e' a w hc=>hend fr e' a w hc⟩
    · next fn hfn=>
      split at h
      · cases h
      next c hb=>
      intro R w avs hh fr hargs
      refine ⟨fun hg=>?_,fun hg=>absurd (Array.getElem?_eq_some_iff.1 hfn).1 (Nat.not_lt.2 hg)⟩
      have hdc:DcOk P (vdefer P (vcall P drawn f) drawn):=vdefer_ok hnm drawn hdr ih
      obtain ⟨e,s1,hs,hle,hw⟩:=vout_ok (sz:=max args.length fn.ntmps) hnm hdc hh h
      obtain ⟨h1,h2⟩:=vcode_ok (rb:=none) hnm ih (hdr _ ih _ _) hh (.inl ⟨rfl,rfl⟩) 100000 c _ e s1 hs
      refine callsIn_of_wp_marks hfn hb hg ?_
      exact hw c _ w fr (h2 n' fr hle _ _ ⟨R,[],At.start hargs⟩).1
end
end
end Go.V
namespace Go.V
noncomputable section
structure PostN (N:Nat→Prop) (R R':Ren) (S:Mem) (δ:Delta) (w w':World):Prop where
 ext:∀m,¬N m→R' m=R m
 obj:∀m o,lk δ m=some (some o)→∃b d o',R' m=some (b,d)∧w'.heap[b]?=some o'∧OR R' d o o'
 inj:∀m k b d e,(∃o,lk δ m=some (some o))→(∃o,lk δ k=some (some o))→R' m=some (b,d)→R' k=some (b,e)→m=k
 rng:∀m,(lk δ m).isSome→N m∨(S m).isSome
 new:∀m b d,N m→(∃o,lk δ m=some (some o))→R' m=some (b,d)→w.heap.size≤b∨∃y d',(lk δ y).isSome∧(S y).isSome∧R y=some (b,d')
 os:w'.os=w.os
 tape:w'.tape=w.tape
 output:w'.output=w.output
 size:w.heap.size≤w'.heap.size
 frame:∀b,b<w.heap.size→(∀y d,(lk δ y).isSome→(S y).isSome→R y≠some (b,d))→w'.heap[b]?=w.heap[b]?
def FrN (P:Program) (R:Ren) (S:Mem) (N:Nat→Prop):Prop:=∀m,N m→P.globals.size≤m∧R m=none∧S m=none
section
variable {P:Program} {R R' R2:Ren} {S E:Mem} {N N1 N2:Nat→Prop} {δ δ2:Delta} {w w' w2:World} {n n':Nat}
theorem Post.toN (p:Post R R' n n' S δ w w'):PostN (fun m=>n≤m∧m<n') R R' S δ w w':=
 ⟨fun m h=>p.ext m (by omega),p.obj,p.inj,p.rng,fun m b d h=>p.new m b d h.1 h.2,p.os,p.tape,p.output,p.size,p.frame⟩
theorem PostN.toPost (hle:n≤n') (p:PostN N R R' S δ w w') (fr:Fr P R S n n') (hN:∀m,N m→n≤m∧m<n') (hR:∀m,n≤m→m<n'→¬N m→lk δ m=none):Post R R' n n' S δ w w':=
 ⟨hle, fun m h => p.ext m (fun hm => by have := hN m hm; omega), p.obj, p.inj, fun m hm => (p.rng m hm).imp (hN m) id, (fun m b d h1 h2 ⟨o, ho⟩ hr => by
  by_cases hm:N m
  ·exact p.new m b d hm ⟨o,ho⟩ hr
  ·rw [hR m h1 h2 hm] at ho; cases ho), p.os, p.tape, p.output, p.size, p.frame⟩
theorem PostN.skip (N:Nat→Prop) (R:Ren) (S:Mem) (w:World) (h:∀m,¬N m):PostN N R R S [] w w:=
 ⟨fun _ _=>rfl,fun m o e=>by simp [lk] at e,fun m k b d e h=>by obtain ⟨o,h⟩:=h;simp [lk] at h,fun m h=>by simp [lk] at h,fun m b d h1=>(h m h1).elim,rfl,rfl,rfl,Nat.le_refl _,fun _ _ _=>rfl⟩
theorem PostN.wide (p:PostN N R R' E δ w w') (hs:∀m o,E m=some o→S m=some o):PostN N R R' S δ w w':=by
 have hE:∀m,(E m).isSome→(S m).isSome:=fun m hm=>by
  obtain ⟨o,ho⟩:=Option.isSome_iff_exists.1 hm
  rw [hs m o ho];rfl
 refine ⟨p.ext,p.obj,p.inj,fun m hm=>(p.rng m hm).imp id (hE m),fun m b d h1 h2 h3=>?_,p.os,p.tape,p.output,p.size,fun b hb hf=>p.frame b hb fun y d h1 h2=>hf y d h1 (hE y h2)⟩
 rcases p.new m b d h1 h2 h3 with h|⟨y,d',h4,h5,h6⟩
 ·exact .inl h
 ·exact .inr ⟨y,d',h4,hE y h5,h6⟩
theorem PostN.rle (p:PostN N R R' E δ w w') (fr:FrN P R S N):R.le R':=fun m x e=>by
 by_cases h:N m
 ·rw [(fr m h).2.1] at e;cases e
 ·rw [p.ext m h];exact e
theorem PostN.up (h : HR P R S w) (fr : FrN P R S N) (p : PostN N R R' S δ w w') : HR P R' (ov S δ) w' := by
  have live:∀m o,ov S δ m=some o→lk δ m=some (some o)∨(lk δ m=none∧S m=some o):=fun m o e=>by
    unfold ov at e
    cases hl:lk δ m with
    |none=>rw [hl] at e;exact .inr ⟨rfl,e⟩
    |some x=>rw [hl] at e;simp at e;rw [e];exact .inl rfl
  have old:∀m o,S m=some o→R' m=R m:=fun m o e=>p.ext m fun h1=>by
    rw [(fr m h1).2.2] at e;cases e
  refine ⟨fun g hg=>by rw [p.ext g (fun hN=>by have:=(fr g hN).1;omega)];exact h.glob g hg,fun m o e=>?_,fun m k b d e hm hk rm rk=>?_⟩
  · rcases live m o e with e1|⟨e1,e2⟩
    · exact p.obj m o e1
    · obtain ⟨b,d,o',h1,h2,h3⟩:=h.obj m o e2
      refine ⟨b,d,o',by rw [old m o e2];exact h1,?_,h3.mono (p.rle fr)⟩
      rw [p.frame b (lt_of_get h2) (fun y d' hy he hr=>?_)]
      · exact h2
      · have:=h.inj m y b d d' (by rw [e2];rfl) he h1 hr
        subst this
        rw [e1] at hy;cases hy
  · obtain ⟨om,hom⟩:=Option.isSome_iff_exists.1 hm
    obtain ⟨ok,hok⟩:=Option.isSome_iff_exists.1 hk
    have mixed:∀(m k b:Nat) (d e:Nat×Nat) (om ok:Obj),lk δ m=some (some om)→lk δ k=none→S k=some ok→R' m=some (b,d)→R' k=some (b,e)→m=k:=by
      intro m k b d e om ok h1 h2 h3 r1 r2
      rw [old k ok h3] at r2
      by_cases hin:N m
      · rcases p.new m b d hin ⟨om,h1⟩ r1 with hb|⟨y,d',hy,hS,hr⟩
        · obtain ⟨b',d'',o',h4,h5,_⟩:=h.obj k ok h3
          rw [r2] at h4
          injection h4 with h4
          injection h4 with h4 _
          subst h4
          have:=lt_of_get h5
          omega
        · have:=h.inj y k b d' e hS (by rw [h3];rfl) hr r2
          subst this
          rw [h2] at hy;cases hy
      · rcases p.rng m (by rw [h1];rfl) with hx|hx
        · exact absurd hx hin
        · rw [p.ext m hin] at r1
          exact h.inj m k b d e hx (by rw [h3];rfl) r1 r2
    rcases live m om hom with e1|⟨e1,e2⟩
    · rcases live k ok hok with f1|⟨f1,f2⟩
      · exact p.inj m k b d e ⟨om,e1⟩ ⟨ok,f1⟩ rm rk
      · exact mixed m k b d e om ok e1 f1 f2 rm rk
    · rcases live k ok hok with f1|⟨f1,f2⟩
      · exact (mixed k m b e d ok om f1 e1 e2 rk rm).symm
      · rw [old m om e2] at rm
        rw [old k ok f2] at rk
        exact h.inj m k b d e (by rw [e2];rfl) (by rw [f2];rfl) rm rk
theorem PostN.trans (h : HR P R S w) (fr1 : FrN P R S N1) (fr2 : FrN P R S N2) (hd : ∀ m, N1 m → ¬ N2 m) (p : PostN N1 R R' S δ w w') (hl2 : ∀ m, N2 m → lk δ m = none) (q : PostN N2 R' R2 (ov S δ) δ2 w' w2) : PostN (fun m => N1 m ∨ N2 m) R R2 S (δ ++ δ2) w w2 := by
  have h':HR P R' (ov S δ) w':=p.up h fr1
  have rle:=p.rle fr1
  have old:∀m,(S m).isSome→R' m=R m:=fun m e=>p.ext m fun h1=>by
    rw [(fr1 m h1).2.2] at e;cases e
  have lkc:∀m,(lk (δ++δ2) m)=match lk δ2 m with|some x=>some x|none=>lk δ m:=lk_append δ δ2
  have fr3:FrN P R' (ov S δ) N2:=fun m hm=>by
    have h1:=fr2 m hm
    refine ⟨h1.1,by rw [p.ext m (fun h2=>hd m h2 hm)];exact h1.2.1,?_⟩
    unfold ov
    rw [hl2 m hm]
    exact h1.2.2
  have h2:HR P R2 (ov (ov S δ) δ2) w2:=q.up h' fr3
  have hov:∀m o,lk (δ++δ2) m=some (some o)→ov (ov S δ) δ2 m=some o:=fun m o e=>by
    rw [←ov_append];unfold ov;rw [e];rfl
  refine ⟨fun m hm=>by rw [q.ext m (fun h=>hm (.inr h)),p.ext m (fun h=>hm (.inl h))],fun m o e=>h2.obj m o (hov m o e),fun m k b d e ⟨o,ho⟩ ⟨o2,ho2⟩=>h2.inj m k b d e (by rw [hov m o ho];rfl) (by rw [hov k o2 ho2];rfl),fun m hm=>?_,fun m b d hn ⟨o,ho⟩ r=>?_,q.os.trans p.os,q.tape.trans p.tape,q.output.trans p.output,Nat.le_trans p.size q.size,fun b hb hf=>?_⟩
  · rw [lkc] at hm
    cases hl:lk δ2 m with
    | some x =>
      rcases q.rng m (by rw [hl];rfl) with hx|hx
      · exact .inl (.inr hx)
      · unfold ov at hx
        cases hl1:lk δ m with
        |none=>rw [hl1] at hx;exact .inr hx
        |some y=>exact (p.rng m (by rw [hl1];rfl)).imp .inl id
    | none =>
      rw [hl] at hm
      exact (p.rng m hm).imp .inl id
  · -- a new one
    have live1:∀y,(lk δ2 y).isSome→(ov S δ y).isSome→∀d',R' y=some (b,d')→w.heap.size≤b∨∃y d',(lk (δ++δ2) y).isSome∧(S y).isSome∧R y=some (b,d'):=by
      intro y hy hS d' hr
      by_cases hin:N1 y
      · have hl:∃o,lk δ y=some (some o):=by
          unfold ov at hS
          cases hl1:lk δ y with
          |none=>rw [hl1] at hS;rw [show (none:Option (Option Obj)).getD (S y)=S y from rfl,(fr1 y hin).2.2] at hS;cases hS
          | some z => cases z with
            |none=>rw [hl1] at hS;cases hS
            |some o=>exact ⟨o,rfl⟩
        rcases p.new y b d' hin hl hr with hb|⟨z,e,hz,hSz,hrz⟩
        · exact .inl hb
        · refine .inr ⟨z,e,?_,hSz,hrz⟩
          rw [lkc];cases lk δ2 z with
          |none=>exact hz
          |some _=>rfl
      · have hSy:(S y).isSome:=by
          unfold ov at hS
          cases hl1:lk δ y with
          |none=>rw [hl1] at hS;exact hS
          | some z =>
            rcases p.rng y (by rw [hl1];rfl) with hx|hx
            · exact absurd hx hin
            · exact hx
        rw [old y hSy] at hr
        exact .inr ⟨y, d', by rw [lkc]; cases hh : lk δ2 y with
          |none=>rw [hh] at hy;cases hy
          | some _ => rfl, hSy, hr⟩
    rw [lkc] at ho
    cases hl:lk δ2 m with
    | some x =>
      rw [hl] at ho
      simp only at ho
      by_cases hin:N2 m
      · rcases q.new m b d hin ⟨o,by rw [hl,ho]⟩ r with hb|⟨y,d',hy,hS,hr⟩
        · exact .inl (Nat.le_trans p.size hb)
        · exact live1 y hy hS d' hr
      · have hN1:N1 m:=hn.resolve_right hin
        have hR:R' m=some (b,d):=by rw [←q.ext m hin];exact r
        have hlm:∃o,lk δ m=some (some o):=by
          rcases q.rng m (by rw [hl];rfl) with hx|hx
          · exact absurd hx hin
          · unfold ov at hx
            cases hl1:lk δ m with
            |none=>rw [hl1] at hx;rw [show (none:Option (Option Obj)).getD (S m)=S m from rfl,(fr1 m hN1).2.2] at hx;cases hx
            | some z => cases z with
              |none=>rw [hl1] at hx;cases hx
              |some o=>exact ⟨o,rfl⟩
        rcases p.new m b d hN1 hlm hR with hb|⟨z,e,hz,hSz,hrz⟩
        · exact .inl hb
        · refine .inr ⟨z,e,?_,hSz,hrz⟩
          rw [lkc];cases lk δ2 z with
          |none=>exact hz
          |some _=>rfl
    | none =>
      rw [hl] at ho
      simp only at ho
      have hN2:¬N2 m:=fun h=>by rw [hl2 m h] at ho;cases ho
      have hN1:N1 m:=hn.resolve_right hN2
      have hR:R' m=some (b,d):=by rw [←q.ext m hN2];exact r
      rcases p.new m b d hN1 ⟨o,ho⟩ hR with hb|⟨z,e,hz,hSz,hrz⟩
      · exact .inl hb
      · refine .inr ⟨z,e,?_,hSz,hrz⟩
        rw [lkc];cases lk δ2 z with
        |none=>exact hz
        |some _=>rfl
  · have h1 : w'.heap[b]? = w.heap[b]? := p.frame b hb fun y d hy hS hr => hf y d (by
      rw [lkc];cases lk δ2 y with
      |none=>exact hy
      | some _ => rfl) hS hr
    rw [←h1]
    refine q.frame b (Nat.lt_of_lt_of_le hb p.size) fun y d hy hS hr=>?_
    by_cases hin:N1 y
    · have hl:∃o,lk δ y=some (some o):=by
        unfold ov at hS
        cases hl1:lk δ y with
        |none=>rw [hl1] at hS;rw [show (none:Option (Option Obj)).getD (S y)=S y from rfl,(fr1 y hin).2.2] at hS;cases hS
        | some z => cases z with
          |none=>rw [hl1] at hS;cases hS
          |some o=>exact ⟨o,rfl⟩
      rcases p.new y b d hin hl hr with hx|⟨z,e,hz,hSz,hrz⟩
      · omega
      · refine hf z e ?_ hSz hrz
        rw [lkc];cases lk δ2 z with
        |none=>exact hz
        |some _=>rfl
    · have hSy:(S y).isSome:=by
        unfold ov at hS
        cases hl1:lk δ y with
        |none=>rw [hl1] at hS;exact hS
        | some z =>
          rcases p.rng y (by rw [hl1];rfl) with hx|hx
          · exact absurd hx hin
          · exact hx
      rw [old y hSy] at hr
      exact hf y d (by
        rw [lkc];cases hh:lk δ2 y with
        |none=>rw [hh] at hy;cases hy
        | some _ => rfl) hSy hr
theorem PostN.iff (p:PostN N1 R R' S δ w w') (h:∀m,N1 m↔N2 m):PostN N2 R R' S δ w w':=by
 have:N1=N2:=funext fun m=>propext (h m)
 subst this
 exact p
end
end
end Go.V
namespace Go.V
noncomputable section
inductive Eff where
 |abs (δ:Delta)
 |ins (m:Nat) (k v:Value)
def Eff.dom:Eff→List Nat
 | .abs δ=>δ.map (·.1)
 | .ins m _ _=>[m]
def pushO (k v:Value):Option Obj→Option Obj
 |some (.map es c)=>some (.map (es.push ⟨k,v,c⟩) (c+1))
 |o=>o
structure Rec where
 pm:Nat
 a:Nat
 b:Nat
 T:Tt
 H:Tr
 x:Option Value
 e:Eff
 dst:Option Tmp
def pmOf (rs : List Rec) (i : Nat) : List Edge → Nat → Option Nat
  |[],p=>some p
  | e :: es, p => if Region.binds .any e then
      if e.on<i then match rs[e.on]? with
        |some r=>pmOf rs i es (p|||(1<<<e.on)|||r.pm)
        |none=>none
      else none
    else pmOf rs i es p
def lookT (T:Tt):List Operand→Tt→Tt
 |[],A=>A
 | .tmp t::l,A=>lookT T l (A.set t (T.get t))
 |_::l,A=>lookT T l A
def lookG (ops : Array Oper) (T : Tt) (g : Option (Nat × Bool)) (A : Tt) : Tt := match g with
  |none=>A
  | some (j, _) => match (ops[j]?).bind (·.dst) with
    |some d=>A.set d (T.get d)
    |none=>A
def maskD (H:Tr):List Nat→Tr
 |[]=>H
 |m::l=>maskD (H.set m none) l
def maskR (pm:Nat):List Rec→Nat→Tr→Tr
 |[],_,H=>H
 |r::rs,j,H=>maskR pm rs (j+1) (if pm.testBit j then H else maskD H r.e.dom)
def noHeap:Op→Bool
 | .move _| .assign _| .pick .. | .alloc _| .box .. | .build .. | .buildSlice .. | .nilCheck _| .fieldAddr .. | .field .. | .indexAddr .. | .index .. | .unOp .. | .binOp .. | .makeInterface .. | .makeFunc .. | .makeMap .. | .makeSlice .. | .slice .. | .typeAssert .. | .extract .. =>true
 |_=>false
def onlyM (H : Tr) : Option Value → Tr
  | some (.pointer (some ⟨m, _, _⟩)) => match H.get m with
    |some o=>Tr.leaf.set m (some o)
    |none=> .leaf
  |_=> .leaf
def Eff.isIns:Eff→Bool
 | .ins .. =>true
 |_=>false
def pairOk (pm : Nat) (j : Nat) (rj ri : Rec) : Bool :=
  (match rj.dst with|some d=> !(ri.dst==some d)|none=>true)&&
  (match rj.e,ri.e with| .ins m _ _, .abs δ=> !((Eff.abs δ).dom.elem m)|_,_=>true)&&
  (pm.testBit j || (
    (ri.e.dom.all fun m=>(rj.H.get m).isNone)&&(rj.e.dom.all fun m=>(ri.H.get m).isNone)&&
    ((rj.e.isIns&&ri.e.isIns)||ri.e.dom.all fun m=> !(rj.e.dom.elem m))&&
    (match rj.dst with|some d=>(ri.T.get d).isNone|none=>true)&&
    (match ri.dst with | some d => (rj.T.get d).isNone | none => true)))
def pairsOk (pm:Nat) (ri:Rec):List Rec→Nat→Bool
 |[],_=>true
 |rj::rs,j=>pairOk pm j rj ri&&pairsOk pm ri rs (j+1)
section
variable (P:Program) (call:CallT) (sz:Nat)
def heapOf (pm:Nat) (rs:List Rec) (T:Tt) (H:Tr):Op→Tr
 | .load _ x=>onlyM H (evT P T x)
 |op=>if noHeap op then .leaf else maskR pm rs 0 H
def vrec (ops : Array Oper) (o : Oper) (rs : List Rec) (i : Nat) (s : VS) : Option (Rec × Tr) := match pmOf rs i o.after.toList 0 with
  |none=>none
  | some pm => match lookG ops s.T o.guard (lookT s.T o.op.operands.toList .leaf) with
    | T => match wantV ops T o with
      |none=>none
      |some false=>if aboutOk P (evT P T) o.op then some (⟨pm,s.n,s.n,T, .leaf,some undef, .abs [],o.dst⟩,s.H) else none
      | some true => match o.op with
        | .insert t x k v => match evT P T x, evT P T k, evT P T v with
          |some (.map (some m)),some vk,some vv=>if plainV vk then some (⟨pm,s.n,s.n,T, .leaf,none, .ins m vk vv,o.dst⟩,s.H.set m (pushO vk vv (s.H.get m))) else none
          |_,_,_=>none
        | _ => match heapOf P pm rs T s.H o.op with
          | H => match vopF o.op P call (evT P T) H s.n o with
            |none=>none
            |some (x,δ,n1)=>if s.n≤n1 then some (⟨pm,s.n,n1,T,H,x, .abs δ,o.dst⟩,s.H.ap δ) else none
def vrecs (ops : Array Oper) : List Oper → Nat → List Rec → VS → Option (List Rec × VS)
  |[],_,rs,s=>some (rs,s)
  | o :: l, i, rs, s => match vrec P call ops o rs i s with
    |none=>none
    | some (r, H) => if pairsOk r.pm r rs 0 then match putV sz s.T o.dst r.x with
        |none=>none
        |some T=>vrecs ops l (i+1) (rs++[r]) ⟨T,H,r.b,s.d,s.ds⟩
      else none
def insOk (H : Tr) (o : Oper) : Eff → Bool
  | .abs _=>true
  | .ins m k _ => match o.op with
    | .insert t _ _ _ => match P.underlying t, H.get m with
      | some (.map kt _), some (.map es _) => match P.underlying kt, prun P (Instr.checkKey false 10000 kt k) with
        | some d, some _ => match keyTest P kt d k es.toList with
          |some p=>p k&&((es.toList.filter fun e=>p e.key).length≤1)
          |none=>false
        |_,_=>false
      |_,_=>false
    |_=>false
def insAll (H:Tr):List Oper→List Rec→Bool
 |o::l,r::rs=>insOk P H o r.e&&insAll H l rs
 |_,_=>true
def doms:List Rec→Delta
 |[]=>[]
 |r::rs=>r.e.dom.map (·,none)++doms rs
def vdrawn (n0 : Nat) (ops : Array Oper) (s : VS) : Option VS := match vrecs P call sz ops ops.toList 0 [] s with
  |none=>none
  | some (rs, s') => if insAll P s'.H ops.toList rs then match dirty n0 s'.n (doms rs) s.d with
      |some d=>some {s' with d:=d}
      |none=>none
    else none
end
end
end Go.V
namespace Go.V
noncomputable section
def kv (e:MapEntry):Value×Value:=(e.key,e.val)
inductive KvR (R:Ren):List (Value×Value)→List MapEntry→Prop
 |nil:KvR R [] []
 |cons {k v u b l es}:plainV k=true→VR R v u→KvR R l es→KvR R ((k,v)::l) (⟨k,u,b⟩::es)
theorem KvR.of {R:Ren}:∀{a b:List MapEntry},EsR R a b→KvR R (a.map kv) b
 |_,_, .nil=> .nil
 |_,_, .cons p v h=> .cons p v (KvR.of h)
theorem KvR.to {R:Ren}:∀{a b:List MapEntry},KvR R (a.map kv) b→EsR R a b
  |[],_,h=>by cases h;exact .nil
  | ⟨k, v, b⟩ :: a, _, h => by
    cases h with
    |cons p q h=>exact .cons p q (KvR.to h)
theorem KvR.perm {R:Ren} {l l':List (Value×Value)} (p:l.Perm l'):∀{es:List MapEntry},KvR R l es→∃es',es'.Perm es∧KvR R l' es':=by
  induction p with
  |nil=>intro es h;exact ⟨es, .refl _,h⟩
  | cons x p ih =>
    intro es h
    cases h with
    | cons hp hv h =>
      obtain ⟨es',h1,h2⟩:=ih h
      exact ⟨_,h1.cons _, .cons hp hv h2⟩
  | swap x y l =>
    intro es h
    cases h with
    | cons hp hv h =>
      cases h with
      |cons hp2 hv2 h=>exact ⟨_, .swap _ _ _, .cons hp2 hv2 (.cons hp hv h)⟩
  | trans p q ih1 ih2 =>
    intro es h
    obtain ⟨a,h1,h2⟩:=ih1 h
    obtain ⟨b,h3,h4⟩:=ih2 h2
    exact ⟨b,h3.trans h1,h4⟩
def OEq (o o':Obj):Prop:=o=o'∨∃es es' c c',o= .map es c∧o'= .map es' c'∧(es.toList.map kv).Perm (es'.toList.map kv)
theorem OEq.refl (o:Obj):OEq o o:= .inl rfl
theorem OEq.symm {o o':Obj} (h:OEq o o'):OEq o' o:=by
 rcases h with rfl|⟨a,b,c,d,h1,h2,h3⟩
 ·exact .inl rfl
 ·exact .inr ⟨b,a,d,c,h2,h1,h3.symm⟩
theorem OEq.trans {o p q:Obj} (h:OEq o p) (g:OEq p q):OEq o q:=by
 rcases h with rfl|⟨a,b,c,d,h1,h2,h3⟩
 ·exact g
 ·rcases g with rfl|⟨a',b',c',d',g1,g2,g3⟩
  ·exact .inr ⟨a,b,c,d,h1,h2,h3⟩
  ·rw [h2] at g1
   injection g1 with g1 g4
   subst g1
   exact .inr ⟨a,b',c,d',h1,g2,h3.trans g3⟩
theorem OR.eqv {R:Ren} {d:Nat×Nat} {o o' x:Obj} (h:OR R d o x) (e:OEq o o'):OR R d o' x:=by
  rcases e with rfl|⟨a,b,c,c',rfl,rfl,hp⟩
  · exact h
  · cases h with
    | map h =>
      obtain ⟨es2,h1,h2⟩:=h
      obtain ⟨es3,h3,h4⟩:=KvR.perm hp (KvR.of h2)
      exact .map ⟨es3,h3.trans h1,h4.to⟩
def MEq:Option Obj→Option Obj→Prop
 |none,none=>True
 |some o,some o'=>OEq o o'
 |_,_=>False
theorem MEq.refl (x:Option Obj):MEq x x:=by
 cases x with
 |none=>trivial
 |some o=>exact OEq.refl o
theorem MEq.trans {x y z:Option Obj} (h:MEq x y) (g:MEq y z):MEq x z:=by
 cases x<;>cases y<;>cases z<;>first|trivial|exact h.elim|exact g.elim|exact OEq.trans h g
theorem MEq.isSome {x y:Option Obj} (h:MEq x y):x.isSome=y.isSome:=by
 cases x<;>cases y<;>first|rfl|exact h.elim
def DEq:Option (Option Obj)→Option (Option Obj)→Prop
 |none,none=>True
 |some x,some y=>MEq x y
 |_,_=>False
theorem DEq.refl (x:Option (Option Obj)):DEq x x:=by
 cases x with
 |none=>trivial
 |some o=>exact MEq.refl o
theorem DEq.trans {x y z:Option (Option Obj)} (h:DEq x y) (g:DEq y z):DEq x z:=by
 cases x<;>cases y<;>cases z<;>first|trivial|exact h.elim|exact g.elim|exact MEq.trans h g
theorem DEq.isSome {x y:Option (Option Obj)} (h:DEq x y):x.isSome=y.isSome:=by
 cases x<;>cases y<;>first|rfl|exact h.elim
theorem DEq.obj {x:Option (Option Obj)} {o:Obj} (h:DEq x (some (some o))):∃o',x=some (some o')∧OEq o' o:=by
  cases x with
  |none=>exact h.elim
  | some y => cases y with
    |none=>exact h.elim
    |some o'=>exact ⟨o',rfl,h⟩
theorem PostN.congr {N:Nat→Prop} {R R':Ren} {S:Mem} {δ δ':Delta} {w w':World} (p:PostN N R R' S δ w w') (h:∀m,DEq (lk δ m) (lk δ' m)):PostN N R R' S δ' w w':=by
 have hs:∀m,(lk δ' m).isSome→(lk δ m).isSome:=fun m e=>by rw [(h m).isSome];exact e
 have hs':∀m,(lk δ m).isSome→(lk δ' m).isSome:=fun m e=>by rw [←(h m).isSome];exact e
 have ho:∀m o,lk δ' m=some (some o)→∃o',lk δ m=some (some o')∧OEq o' o:=fun m o e=>by
  have:=h m
  rw [e] at this
  exact this.obj
 refine ⟨p.ext,fun m o e=>?_,fun m k b d e ⟨o,h1⟩ ⟨o2,h2⟩=>?_,fun m e=>p.rng m (hs m e),fun m b d h1 ⟨o,h2⟩ h3=>?_,p.os,p.tape,p.output,p.size,fun b hb hf=>p.frame b hb fun y d h1=>hf y d (hs' y h1)⟩
 ·obtain ⟨o',h1,h2⟩:=ho m o e
  obtain ⟨b,d,x,h3,h4,h5⟩:=p.obj m o' h1
  exact ⟨b,d,x,h3,h4,h5.eqv h2⟩
 ·obtain ⟨o',h3,_⟩:=ho m o h1
  obtain ⟨o2',h4,_⟩:=ho k o2 h2
  exact p.inj m k b d e ⟨o',h3⟩ ⟨o2',h4⟩
 ·obtain ⟨o',h4,_⟩:=ho m o h2
  rcases p.new m b d h1 ⟨o',h4⟩ h3 with h|⟨y,d',h5,h6⟩
  ·exact .inl h
  ·exact .inr ⟨y,d',hs' y h5,h6⟩
def Eff.has (e:Eff) (m:Nat):Bool:=e.dom.elem m
def ext (S:Mem) (δ:Delta):Eff→Delta
 | .abs d=>δ++d
 | .ins m k v=>δ++[(m,pushO k v (ov S δ m))]
theorem lk_dom:∀(δ:Delta) (m:Nat),(lk δ m).isSome=(δ.map (·.1)).elem m
  |[],m=>rfl
  | p :: δ, m => by
    rw [lk,List.map_cons]
    have ih:=lk_dom δ m
    by_cases h:m=p.1
    · have:(p.1::δ.map (·.1)).elem m=true:=by rw [h];simp
      rw [this]
      cases lk δ m with
      |some y=>rfl
      |none=>simp [h]
    · have:(p.1::δ.map (·.1)).elem m=(δ.map (·.1)).elem m:=by simp [h]
      rw [this,←ih]
      cases lk δ m with
      |some y=>rfl
      |none=>simp [h]
theorem lk_one' (m k:Nat) (x:Option Obj):lk [(m,x)] k=if k=m then some x else none:=by simp [lk]
theorem ext_not {S:Mem} {δ:Delta} {e:Eff} {m:Nat} (h:e.has m=false):lk (ext S δ e) m=lk δ m:=by
  cases e with
  | abs d =>
    rw [ext,lk_append]
    have:(lk d m).isSome=false:=by rw [lk_dom];exact h
    cases hl:lk d m with
    |none=>rfl
    |some y=>rw [hl] at this;cases this
  | ins q k v =>
    rw [ext,lk_append,lk_one']
    have:¬m=q:=fun e=>by subst e;simp [Eff.has,Eff.dom] at h
    rw [if_neg this]
theorem ext_has {S:Mem} {δ:Delta} {e:Eff} {m:Nat} (h:e.has m=true):(lk (ext S δ e) m).isSome:=by
  cases e with
  | abs d =>
    rw [ext,lk_append]
    have:(lk d m).isSome=true:=by rw [lk_dom];exact h
    cases hl:lk d m with
    |none=>rw [hl] at this;cases this
    |some y=>rfl
  | ins q k v =>
    rw [ext,lk_append,lk_one']
    have:m=q:=by simpa [Eff.has,Eff.dom] using h
    rw [if_pos this]
    rfl
theorem ext_same {S:Mem} {δ δ':Delta} {e:Eff} {m:Nat} (h:lk δ m=lk δ' m):lk (ext S δ e) m=lk (ext S δ' e) m:=by
  cases e with
  |abs d=>rw [ext,ext,lk_append,lk_append,h]
  | ins q k v =>
    rw [ext,ext,lk_append,lk_append,lk_one',lk_one',h]
    by_cases e:m=q
    · subst e
      unfold ov
      rw [h]
    · rw [if_neg e,if_neg e]
def exts (S:Mem) (E:Nat→Eff) (l:List Nat) (δ:Delta):Delta:=l.foldl (fun δ k=>ext S δ (E k)) δ
theorem exts_append (S:Mem) (E:Nat→Eff) (a b:List Nat) (δ:Delta):exts S E (a++b) δ=exts S E b (exts S E a δ):=List.foldl_append
theorem exts_filter {S:Mem} {E:Nat→Eff} {m:Nat}:∀(l:List Nat) {δ δ':Delta},lk δ m=lk δ' m→lk (exts S E l δ) m=lk (exts S E (l.filter fun k=>(E k).has m) δ') m
  |[],δ,δ',h=>h
  | k :: l, δ, δ', h => by
    rw [List.filter_cons]
    by_cases hk:(E k).has m=true
    · rw [if_pos hk]
      exact exts_filter l (ext_same h)
    · rw [if_neg hk]
      exact exts_filter l (by rw [ext_not (by simpa using hk)];exact h)
theorem exts_dom {S : Mem} {E : Nat → Eff} {m : Nat} : ∀ (l : List Nat) (δ : Delta), (lk (exts S E l δ) m).isSome ↔ (lk δ m).isSome ∨ ∃ k ∈ l, (E k).has m = true
  |[],δ=>by simp [exts]
  | k :: l, δ => by
    change (lk (exts S E l (ext S δ (E k))) m).isSome↔_
    rw [exts_dom l]
    by_cases hk:(E k).has m=true
    · exact ⟨fun _=> .inr ⟨k,List.mem_cons_self,hk⟩,fun _=> .inl (ext_has hk)⟩
    · rw [ext_not (by simpa using hk)]
      constructor
      · rintro (h|⟨q,h1,h2⟩)
        · exact .inl h
        · exact .inr ⟨q,List.mem_cons_of_mem _ h1,h2⟩
      · rintro (h|⟨q,h1,h2⟩)
        · exact .inl h
        · rcases List.mem_cons.1 h1 with rfl|h1
          · exact (hk h2).elim
          · exact .inr ⟨q,h1,h2⟩
end
end Go.V
namespace Go.V
noncomputable section
def effOf (rs:List Rec) (k:Nat):Eff:=((rs[k]?).map (·.e)).getD (.abs [])
theorem effOf_eq {rs:List Rec} {k:Nat} {r:Rec} (h:rs[k]?=some r):effOf rs k=r.e:=by simp [effOf,h]
structure RecOk (P:Program) (call:CallT) (sz:Nat) (ops:Array Oper) (s:VS) (rs:List Rec) (k:Nat) (r:Rec) (o:Oper):Prop where
 edges:∀e∈o.after,Region.binds .any e=true→e.on<k
 pmOf:∀j,r.pm.testBit j=true→j<k∧∃e∈o.after,Region.binds .any e=true∧(j=e.on∨∃r',rs[e.on]?=some r'∧r'.pm.testBit j=true)
 dst:r.dst=o.dst
 bound:∀d,o.dst=some d→d<sz
 le:r.a≤r.b
 a0:s.n≤r.a
 tmps:∀t v,r.T.get t=some v→(∃j rj,j<k∧rs[j]?=some rj∧rj.dst=some t∧rj.x=some v)∨((∀j rj,j<k→rs[j]?=some rj→rj.dst≠some t)∧s.T.get t=some v)
 heap:∀m o,r.H.get m=some o→ov s.H.get (exts s.H.get (effOf rs) (List.range k) []) m=some o
 run:(wantV ops r.T o=some false∧r.x=some undef∧r.e= .abs []∧r.b=r.a∧aboutOk P (evT P r.T) o.op=true)∨(wantV ops r.T o=some true∧∃δ,r.e= .abs δ∧vopF o.op P call (evT P r.T) r.H r.a o=some (r.x,δ,r.b))∨
  (wantV ops r.T o=some true∧∃t x q v m vk vv,o.op= .insert t x q v∧evT P r.T x=some (.map (some m))∧evT P r.T q=some vk∧evT P r.T v=some vv∧plainV vk=true∧r.e= .ins m vk vv∧r.x=none∧r.b=r.a)
structure Fam (P:Program) (call:CallT) (sz:Nat) (ops:Array Oper) (s:VS) (rs:List Rec) (n':Nat):Prop where
 len:rs.length=ops.size
 each:∀(k:Nat) r o,rs[k]?=some r→ops[k]?=some o→RecOk P call sz ops s rs k r o
 pair:∀(j k:Nat) rj rk,j<k→rs[j]?=some rj→rs[k]?=some rk→pairOk rk.pm j rj rk=true∧rj.b≤rk.a
 top:∀(k:Nat) r,rs[k]?=some r→r.b≤n'
 all:∀(m:Nat),s.n≤m→m<n'→∃(k:Nat) (r:Rec),rs[k]?=some r∧r.a≤m∧m<r.b
 le:s.n≤n'
 ins:∀(k:Nat) r o,rs[k]?=some r→ops[k]?=some o→∀H:Tr,(∀m,H.get m=ov s.H.get (exts s.H.get (effOf rs) (List.range ops.size) []) m)→insOk P H o r.e=true
def doneL (N:Nat) (L:Nat→Bool):List Nat:=(List.range N).filter L
theorem range_filter {i N : Nat} (h : i ≤ N) : (List.range N).filter (fun k => decide (k < i)) = List.range i := by
  induction N with
  | zero => obtain rfl : i = 0 := by omega
            rfl
  | succ N ih =>
    rw [List.range_succ,List.filter_append]
    by_cases hi:i=N+1
    · subst hi
      rw [List.range_succ]
      congr 1
      · rw [List.filter_eq_self]
        intro a ha
        have:=List.mem_range.1 ha
        simp;omega
      · simp
    · rw [ih (by omega)]
      have:([N]:List Nat).filter (fun k=>decide (k<i))=[]:=by simp;omega
      rw [this,List.append_nil]
theorem writers_eq {E:Nat→Eff} {m i N:Nat} {L:Nat→Bool} (hi:i≤N) (h:∀k,k<N→(E k).has m=true→(L k=true↔k<i)):(List.range i).filter (fun k=>(E k).has m)=(doneL N L).filter (fun k=>(E k).has m):=by
  unfold doneL
  rw [←range_filter hi,List.filter_filter,List.filter_filter]
  refine List.filter_congr fun k hk=>?_
  have:=h k (List.mem_range.1 hk)
  cases hh:(E k).has m with
  |false=>simp
  | true =>
    rw [Bool.true_and,Bool.true_and,Bool.eq_iff_iff,decide_eq_true_iff]
    exact (this hh).symm
section
variable {P:Program} {call:CallT} {sz:Nat} {ops:Array Oper} {s:VS} {rs:List Rec} {n':Nat} {L:Nat→Bool}
def Down (rs:List Rec) (L:Nat→Bool):Prop:=∀(j:Nat) r,L j=true→rs[j]?=some r→∀k,r.pm.testBit k=true→L k=true
theorem pairOk_parts {pm j : Nat} {rj ri : Rec} (h : pairOk pm j rj ri = true) : (∀ d, rj.dst = some d → ri.dst ≠ some d) ∧ (∀ m k v δ, rj.e = .ins m k v → ri.e = .abs δ → ri.e.has m = false) ∧
    (pm.testBit j = false → (∀ m, ri.e.has m = true → rj.H.get m = none) ∧ (∀ m, rj.e.has m = true → ri.H.get m = none) ∧ ((rj.e.isIns = true ∧ ri.e.isIns = true) ∨ ∀ m, ri.e.has m = true → rj.e.has m = false) ∧
      (∀ d, rj.dst = some d → ri.T.get d = none) ∧ (∀ d, ri.dst = some d → rj.T.get d = none)) := by
  unfold pairOk at h
  simp only [Bool.and_eq_true,Bool.or_eq_true,List.all_eq_true,Option.isNone_iff_eq_none] at h
  obtain ⟨⟨h1,h2⟩,h3⟩:=h
  refine ⟨fun d hd he=>?_,fun m k v δ hj hi=>?_,fun hp=>?_⟩
  · rw [hd] at h1
    simp [he] at h1
  · rw [hj,hi] at h2
    rw [hi]
    simpa [Eff.has] using h2
  · rcases h3 with h3|⟨⟨⟨⟨h3,h4⟩,h5⟩,h6⟩,h7⟩
    · rw [hp] at h3;cases h3
    · refine ⟨fun m hm=>h3 m (List.elem_iff.1 hm),fun m hm=>h4 m (List.elem_iff.1 hm),?_,fun d hd=>?_,fun d hd=>?_⟩
      · rcases h5 with h5|h5
        · exact .inl h5
        · refine .inr fun m hm=>?_
          have:=h5 m (List.elem_iff.1 hm)
          simpa [Eff.has] using this
      · rw [hd] at h6;simpa using h6
      · rw [hd] at h7;simpa using h7
theorem Fam.writers (F:Fam P call sz ops s rs n') {i:Nat} {r:Rec} (hr:rs[i]?=some r) (hLi:L i=false) (hd:Down rs L) (hL:∀k,r.pm.testBit k=true→L k=true) (hlt:∀k,L k=true→k<ops.size) {m:Nat} {o:Obj} (hm:r.H.get m=some o):
    ∀k,k<ops.size→(effOf rs k).has m=true→(L k=true↔k<i):=by
  intro k hk hh
  have hk':k<rs.length:=by rw [F.len];exact hk
  have hrk:rs[k]?=some rs[k]:=List.getElem?_eq_getElem hk'
  rw [effOf_eq hrk] at hh
  rcases Nat.lt_trichotomy k i with h|h|h
  · refine ⟨fun _=>h,fun _=>?_⟩
    cases hp:r.pm.testBit k with
    |true=>exact hL k hp
    | false =>
      have:=((pairOk_parts (F.pair k i _ _ h hrk hr).1).2.2 hp).2.1 m hh
      rw [hm] at this;cases this
  · subst h
    exact ⟨fun h=>(by rw [hLi] at h;cases h),fun h=>by omega⟩
  · refine ⟨fun hLk=>?_,fun h2=>by omega⟩
    cases hp:(rs[k]).pm.testBit i with
    |true=>have:=hd k _ hLk hrk i hp;rw [hLi] at this;cases this
    | false =>
      have:=((pairOk_parts (F.pair i k _ _ h hr hrk).1).2.2 hp).1 m hh
      rw [hm] at this;cases this
theorem Fam.sub (F:Fam P call sz ops s rs n') {i:Nat} {r:Rec} {op:Oper} (hr:rs[i]?=some r) (ho:ops[i]?=some op) (hLi:L i=false) (hd:Down rs L) (hL:∀k,r.pm.testBit k=true→L k=true) (hlt:∀k,L k=true→k<ops.size) {m:Nat} {o:Obj} (hm:r.H.get m=some o):
  ov s.H.get (exts s.H.get (effOf rs) (doneL ops.size L) []) m=some o:=by
 have h1:=(F.each i r op hr ho).heap m o hm
 have hi:i<ops.size:=(Array.getElem?_eq_some_iff.1 ho).1
 have h2:=writers_eq (E:=effOf rs) (Nat.le_of_lt hi) (F.writers hr hLi hd hL hlt hm)
 unfold ov at h1⊢
 rw [exts_filter (m:=m) (δ':=[]) (doneL ops.size L) rfl,←h2,←exts_filter (m:=m) (δ:=[]) (List.range i) rfl]
 exact h1
end
end
end Go.V
namespace Go.V
noncomputable section
def updL (L:Nat→Bool) (i:Nat):Nat→Bool:=fun j=>if j=i then true else L j
theorem doneL_split {N i : Nat} {L : Nat → Bool} (hi : i < N) (h : L i = false) : ∃ pre post, doneL N L = pre ++ post ∧ doneL N (updL L i) = pre ++ i :: post ∧ ∀ k ∈ post, i < k ∧ k < N ∧ L k = true := by
  induction N with
  |zero=>omega
  | succ N ih =>
    have hs:∀M:Nat→Bool,doneL (N+1) M=doneL N M++(if M N=true then [N] else []):=fun M=>by
      unfold doneL
      rw [List.range_succ,List.filter_append,List.filter_cons]
      simp
    rw [hs,hs]
    by_cases e:i=N
    · subst e
      refine ⟨doneL i L,[],?_,?_,fun k hk=>by cases hk⟩
      · rw [h];simp
      · have:doneL i (updL L i)=doneL i L:=by
          unfold doneL
          refine List.filter_congr fun k hk=>?_
          have:=List.mem_range.1 hk
          rw [updL,if_neg (by omega)]
        rw [this]
        simp [updL]
    · obtain ⟨pre,post,h1,h2,h3⟩:=ih (by omega)
      refine ⟨pre,post++(if L N=true then [N] else []),by rw [h1,List.append_assoc],?_,fun k hk=>?_⟩
      · rw [h2]
        have:updL L i N=L N:=by rw [updL,if_neg (fun e'=>e e'.symm)]
        rw [this]
        simp
      · rcases List.mem_append.1 hk with hk|hk
        · obtain ⟨a,b,c⟩:=h3 k hk
          exact ⟨a,by omega,c⟩
        · split at hk
          · next hN=>
            rcases List.mem_singleton.1 hk with rfl
            exact ⟨by omega,by omega,hN⟩
          · cases hk
theorem exts_same {S:Mem} {E:Nat→Eff} {m:Nat}:∀(l:List Nat) {δ δ':Delta},lk δ m=lk δ' m→lk (exts S E l δ) m=lk (exts S E l δ') m
 |[],δ,δ',h=>h
 |k::l,δ,δ',h=>exts_same l (δ:=ext S δ (E k)) (δ':=ext S δ' (E k)) (ext_same h)
theorem exts_none {S:Mem} {E:Nat→Eff} {m:Nat}:∀(l:List Nat) (δ:Delta),(∀k∈l,(E k).has m=false)→lk (exts S E l δ) m=lk δ m
  |[],δ,h=>rfl
  | k :: l, δ, h => by
    change lk (exts S E l (ext S δ (E k))) m=_
    rw [exts_none l _ (fun q hq=>h q (List.mem_cons_of_mem _ hq)),ext_not (h k List.mem_cons_self)]
section
variable {P:Program} {call:CallT} {sz:Nat} {ops:Array Oper} {s:VS} {rs:List Rec} {n':Nat} {L:Nat→Bool}
theorem Fam.at (F:Fam P call sz ops s rs n') {i:Nat} (hi:i<ops.size):∃r,rs[i]?=some r:=⟨rs[i]'(by rw [F.len];exact hi),List.getElem?_eq_getElem _⟩
theorem Fam.beside (F:Fam P call sz ops s rs n') {i k:Nat} {r rk:Rec} (hr:rs[i]?=some r) (hk:rs[k]?=some rk) (hlt:i<k) (hLi:L i=false) (hd:Down rs L) (hLk:L k=true):rk.pm.testBit i=false:=by
 cases hp:rk.pm.testBit i with
 |false=>rfl
 |true=>have:=hd k _ hLk hk i hp;rw [hLi] at this;cases this
theorem Fam.ext_last (F : Fam P call sz ops s rs n') {i : Nat} {r : Rec} (hr : rs[i]? = some r) (hi : i < ops.size) (hLi : L i = false) (hd : Down rs L) {m : Nat} (hm : r.e.isIns = false ∨ r.e.has m = false) :
    lk (exts s.H.get (effOf rs) (doneL ops.size (updL L i)) []) m=lk (ext s.H.get (exts s.H.get (effOf rs) (doneL ops.size L) []) r.e) m:=by
  obtain ⟨pre,post,h1,h2,h3⟩:=doneL_split hi hLi
  rw [h1,h2,exts_append,exts_append]
  change lk (exts s.H.get (effOf rs) post (ext s.H.get (exts s.H.get (effOf rs) pre []) (effOf rs i))) m=_
  rw [effOf_eq hr]
  cases hh:r.e.has m with
  | false =>
    rw [ext_not hh]
    exact exts_same post (ext_not hh)
  | true =>
    have hins:r.e.isIns=false:=hm.resolve_right (by rw [hh];simp)
    rw [exts_none post]
    · cases he:r.e with
      |ins q k v=>rw [he] at hins;cases hins
      | abs δ =>
        rw [ext,ext,lk_append,lk_append]
        have:(lk δ m).isSome=true:=by rw [lk_dom];rw [he] at hh;exact hh
        cases hl:lk δ m with
        |none=>rw [hl] at this;cases this
        |some y=>rfl
    · intro k hk
      obtain ⟨h4,h5,h6⟩:=h3 k hk
      obtain ⟨rk,hrk⟩:=F.at h5
      rw [effOf_eq hrk]
      have hb:=F.beside hr hrk h4 hLi hd h6
      rcases ((pairOk_parts (F.pair i k _ _ h4 hr hrk).1).2.2 hb).2.2.1 with ⟨h7,_⟩|h7
      · rw [hins] at h7;cases h7
      · cases hx:rk.e.has m with
        |false=>rfl
        |true=>have:=h7 m hx;rw [hh] at this;cases this
end
end
end Go.V
namespace Go.V
noncomputable section
theorem filter_two {p t : Nat → Bool} : ∀ (l : List Nat), l.Pairwise (fun a b => p a = true → p b = true → t a = true → t b = true) → l.filter p = l.filter (fun x => p x && !t x) ++ l.filter (fun x => p x && t x)
  |[],_=>rfl
  | a :: l, h => by
    rw [List.pairwise_cons] at h
    have ih:=filter_two l h.2
    rw [List.filter_cons,List.filter_cons,List.filter_cons]
    cases hp:p a with
    |false=>simpa using ih
    | true =>
      cases ht:t a with
      |false=>simp only [Bool.true_and,Bool.not_false,if_true,Bool.false_eq_true,if_false,List.cons_append];rw [ih]
      | true =>
        simp only [Bool.true_and,Bool.not_true,if_true,Bool.false_eq_true,if_false]
        have:l.filter (fun x=>p x&& !t x)=[]:=by
          rw [List.filter_eq_nil_iff]
          intro b hb
          cases hpb:p b with
          |false=>simp
          |true=>have:=h.1 b hb hp hpb ht;simp [this]
        rw [this] at ih⊢
        rw [ih]
        rfl
def kvE (E:Nat→Eff) (k:Nat):Value×Value:=match E k with
 | .ins _ k v=>(k,v)
 |_=>(undef,undef)
theorem ov_last (S:Mem) (δ:Delta) (q:Nat) (y:Option Obj):ov S (δ++[(q,y)]) q=y:=by
 unfold ov
 rw [lk_append,lk_one',if_pos rfl]
 rfl
theorem ins_fold {S:Mem} {E:Nat→Eff} {q:Nat}:∀(l:List Nat) (δ:Delta) (es:Array MapEntry) (c:Nat),(∀k∈l,∃kk vv,E k= .ins q kk vv)→ov S δ q=some (.map es c)→
    ∃(es':Array MapEntry) (c':Nat),ov S (exts S E l δ) q=some (.map es' c')∧es'.toList.map kv=es.toList.map kv++l.map (kvE E)
  |[],δ,es,c,_,h=>⟨es,c,h,by simp⟩
  | k :: l, δ, es, c, hl, h => by
    obtain ⟨kk,vv,hk⟩:=hl k List.mem_cons_self
    have h1:ov S (ext S δ (E k)) q=some (.map (es.push ⟨kk,vv,c⟩) (c+1)):=by rw [hk,ext,ov_last,h];rfl
    obtain ⟨es',c',h2,h3⟩:=ins_fold l _ _ _ (fun k hk=>hl k (List.mem_cons_of_mem _ hk)) h1
    refine ⟨es',c',h2,?_⟩
    rw [h3,Array.toList_push,List.map_append,List.map_cons,List.append_assoc]
    congr 1
    simp [kvE,hk,kv]
theorem ins_back {S:Mem} {E:Nat→Eff} {q:Nat}:∀(l:List Nat) (δ:Delta) (es:Array MapEntry) (c:Nat),(∀k∈l,∃kk vv,E k= .ins q kk vv)→ov S (exts S E l δ) q=some (.map es c)→∃(es':Array MapEntry) (c':Nat),ov S δ q=some (.map es' c')
  |[],δ,es,c,_,h=>⟨es,c,h⟩
  | k :: l, δ, es, c, hl, h => by
    obtain ⟨kk,vv,hk⟩:=hl k List.mem_cons_self
    obtain ⟨es',c',h1⟩:=ins_back l _ es c (fun k hk=>hl k (List.mem_cons_of_mem _ hk)) h
    simp only [hk,ext,ov_last] at h1
    unfold pushO at h1
    split at h1
    · next es2 c2 h2=>exact ⟨es2,c2,h2⟩
    · exact ⟨es',c',h1⟩
theorem insOk_parts {P:Program} {H:Tr} {o:Oper} {q:Nat} {k v:Value} (h:insOk P H o (.ins q k v)=true):∃t x kx vx kt et es c d u p,o.op= .insert t x kx vx∧P.underlying t=some (.map kt et)∧H.get q=some (.map es c)∧P.underlying kt=some d∧prun P (Instr.checkKey false 10000 kt k)=some u∧
  keyTest P kt d k es.toList=some p∧p k=true∧(es.toList.filter fun e=>p e.key).length≤1:=by
 unfold insOk at h
 simp only at h
 split at h
 case h_2=>cases h
 next t x kx vx ho=>
 split at h
 case h_2=>cases h
 next kt et es c hu hm=>
 split at h
 case h_2=>cases h
 next d u hd hc=>
 split at h
 case h_2=>cases h
 next p hp=>
 simp only [Bool.and_eq_true,decide_eq_true_eq] at h
 exact ⟨t,x,kx,vx,kt,et,es,c,d,u,p,ho,hu,hm,hd,hc,hp,h.1,h.2⟩
section
variable {P:Program} {call:CallT} {sz:Nat} {ops:Array Oper} {s:VS} {rs:List Rec} {n':Nat} {L:Nat→Bool}
def insL (rs:List Rec) (N q:Nat):List Nat:=(List.range N).filter fun k=>(effOf rs k).has q&&(effOf rs k).isIns
theorem ins_of {e:Eff} {q:Nat} (h:e.has q=true) (hi:e.isIns=true):∃k v,e= .ins q k v:=by
  cases e with
  |abs d=>cases hi
  | ins m k v =>
    have:q=m:=by simpa [Eff.has,Eff.dom] using h
    subst this
    exact ⟨k,v,rfl⟩
theorem Fam.abs_before (F:Fam P call sz ops s rs n') {i j:Nat} {r:Rec} {q:Nat} {k v:Value} (hr:rs[i]?=some r) (he:r.e= .ins q k v) (hj:j<ops.size) (hq:(effOf rs j).has q=true) (hn:(effOf rs j).isIns=false):j<i∧r.pm.testBit j=true:=by
  obtain ⟨rj,hrj⟩:=F.at hj
  rw [effOf_eq hrj] at hq hn
  have hrq:r.e.has q=true:=by rw [he];simp [Eff.has,Eff.dom]
  rcases Nat.lt_trichotomy j i with h|h|h
  · refine ⟨h,?_⟩
    cases hp:r.pm.testBit j with
    |true=>rfl
    | false =>
      rcases ((pairOk_parts (F.pair j i _ _ h hrj hr).1).2.2 hp).2.2.1 with ⟨h1,_⟩|h1
      · rw [hn] at h1;cases h1
      · have:=h1 q hrq;rw [hq] at this;cases this
  · subst h
    rw [hr] at hrj
    injection hrj with hrj
    subst hrj
    rw [he] at hn
    cases hn
  · cases hje:rj.e with
    |ins a b c=>rw [hje] at hn;cases hn
    | abs δ =>
      have:=(pairOk_parts (F.pair i j _ _ h hr hrj).1).2.1 q k v δ he hje
      rw [hq] at this;cases this
theorem filter_comm (N:Nat) (M g:Nat→Bool):(doneL N M).filter g=((List.range N).filter g).filter M:=by
 unfold doneL
 rw [List.filter_filter,List.filter_filter]
 exact List.filter_congr fun k _=>Bool.and_comm _ _
theorem Fam.map_at (F:Fam P call sz ops s rs n') {i:Nat} {r:Rec} {o:Oper} {q:Nat} {k v:Value} (hr:rs[i]?=some r) (ho:ops[i]?=some o) (he:r.e= .ins q k v):
    ∃(es0:Array MapEntry),∀M:Nat→Bool,(∀j,r.pm.testBit j=true→M j=true)→∃(es:Array MapEntry) (c:Nat),ov s.H.get (exts s.H.get (effOf rs) (doneL ops.size M) []) q=some (.map es c)∧es.toList.map kv=es0.toList.map kv++((insL rs ops.size q).filter M).map (kvE (effOf rs)):=by
  obtain ⟨t,x,kx,vx,kt,et,es,c,d,u,p,h1,h2,h3,_⟩:=insOk_parts (by have:=F.ins i r o hr ho (s.H.ap (exts s.H.get (effOf rs) (List.range ops.size) [])) (fun m=>Tr.get_ap _ _ _);rw [he] at this;exact this)
  rw [Tr.get_ap] at h3
  have hpw:(List.range ops.size).Pairwise (fun a b=>(effOf rs a).has q=true→(effOf rs b).has q=true→(effOf rs a).isIns=true→(effOf rs b).isIns=true):=by
    refine List.Pairwise.imp_of_mem ?_ (List.pairwise_lt_range (n:=ops.size))
    intro a b ha hb hab h4 h5 h6
    obtain ⟨ra,hra⟩:=F.at (List.mem_range.1 ha)
    obtain ⟨ka,va,hka⟩:=ins_of h4 h6
    rw [effOf_eq hra] at hka
    cases hbi:(effOf rs b).isIns with
    |true=>rfl
    | false =>
      have:=(F.abs_before hra hka (List.mem_range.1 hb) h5 hbi).1
      omega
  have hsp:=filter_two _ hpw
  have hI:∀j∈insL rs ops.size q,∃kk vv,effOf rs j= .ins q kk vv:=fun j hj=>by
    have:=(List.mem_filter.1 hj).2
    rw [Bool.and_eq_true] at this
    exact ins_of this.1 this.2
  generalize hA:(List.range ops.size).filter (fun x=>(effOf rs x).has q&& !(effOf rs x).isIns)=A at hsp
  have hlook:∀M:Nat→Bool,(∀j,r.pm.testBit j=true→M j=true)→ov s.H.get (exts s.H.get (effOf rs) (doneL ops.size M) []) q=ov s.H.get (exts s.H.get (effOf rs) ((insL rs ops.size q).filter M) (exts s.H.get (effOf rs) A [])) q:=by
    intro M hM
    have:(doneL ops.size M).filter (fun k=>(effOf rs k).has q)=A++(insL rs ops.size q).filter M:=by
      rw [filter_comm,hsp,List.filter_append]
      congr 1
      rw [List.filter_eq_self]
      intro j hj
      rw [←hA] at hj
      obtain ⟨h4,h5⟩:=List.mem_filter.1 hj
      simp only [Bool.and_eq_true,Bool.not_eq_true'] at h5
      exact hM j (F.abs_before hr he (List.mem_range.1 h4) h5.1 h5.2).2
    unfold ov
    rw [exts_filter (m:=q) (δ':=[]) (doneL ops.size M) rfl,this,exts_append]
  have hall:doneL ops.size (fun _=>true)=List.range ops.size:=by unfold doneL;rw [List.filter_eq_self];intro a _;rfl
  have h4:=hlook (fun _=>true) (fun _ _=>rfl)
  rw [hall,h3] at h4
  have hft:(insL rs ops.size q).filter (fun _=>true)=insL rs ops.size q:=by rw [List.filter_eq_self];intro a _;rfl
  rw [hft] at h4
  obtain ⟨es0,c0,h5⟩:=ins_back _ _ _ _ hI h4.symm
  refine ⟨es0,fun M hM=>?_⟩
  obtain ⟨es',c',h6,h7⟩:=ins_fold ((insL rs ops.size q).filter M) _ _ _ (fun j hj=>hI j (List.mem_filter.1 hj).1) h5
  exact ⟨es',c',by rw [hlook M hM];exact h6,h7⟩
end
end
end Go.V
namespace Go.V
noncomputable section
theorem vfind_sub {P : Program} {kt : TypeId} {kind : TypeDesc} {k : Value} {es es' : List MapEntry} {p : Value → Bool} (h : keyTest P kt kind k es = some p) (hk : ∀ e ∈ es', ∃ e' ∈ es, e'.key = e.key) (hf : (es'.filter fun e => p e.key) = []) : vfind P kt kind k es' = some none := by
  have key:∃p',keyTest P kt kind k es'=some p'∧(es'.filter fun e=>p' e.key)=[]:=by
    rcases keyTest_of h hk with ⟨h1,rfl⟩|⟨h1,rfl⟩
    · refine ⟨fun q=>Instr.sameNow kind k q==some true,?_,hf⟩
      unfold keyTest
      rw [if_pos (List.all_eq_true.2 h1)]
    · cases es' with
      |nil=>exact ⟨_,by unfold keyTest;rw [if_pos (by rfl)],rfl⟩
      | cons e es' =>
        refine ⟨fun q=>prun P (Op.equal kt k q)==some true,?_,hf⟩
        unfold keyTest
        rw [if_neg,if_pos]
        · rw [List.all_eq_true]
          intro x hx
          simp [h1 x hx]
        · intro ha
          have h2:=List.all_eq_true.1 ha e List.mem_cons_self
          have h3:=(h1 e List.mem_cons_self).1
          cases hs:Instr.sameNow kind k e.key with
          |none=>rw [hs] at h2;cases h2
          |some _=>rw [hs] at h3;cases h3
  obtain ⟨p',h1,h2⟩:=key
  unfold vfind
  rw [h1]
  simp only [h2]
theorem filter_count (p:Value→Bool) (l:List MapEntry):(l.filter fun e=>p e.key).length=(l.map kv).countP fun x=>p x.1:=by
 rw [List.countP_map,List.countP_eq_length_filter]
 rfl
section
variable {P:Program} {call:CallT} {sz:Nat} {ops:Array Oper} {s:VS} {rs:List Rec} {n':Nat} {L:Nat→Bool}
theorem Fam.ins_at (F : Fam P call sz ops s rs n') {i : Nat} {r : Rec} {o : Oper} {q : Nat} {k v : Value} (hr : rs[i]? = some r) (ho : ops[i]? = some o) (he : r.e = .ins q k v) (hLi : L i = false) (hL : ∀ j, r.pm.testBit j = true → L j = true) :
    ∃ t x kx vx kt et d u, o.op = .insert t x kx vx ∧ P.underlying t = some (.map kt et) ∧ P.underlying kt = some d ∧ prun P (Instr.checkKey false 10000 kt k) = some u ∧
      ∃ (es : Array MapEntry) (c : Nat), ov s.H.get (exts s.H.get (effOf rs) (doneL ops.size L) []) q = some (.map es c) ∧ vfind P kt d k es.toList = some none ∧
        ∃(es2:Array MapEntry) (c2:Nat),ov s.H.get (exts s.H.get (effOf rs) (doneL ops.size (updL L i)) []) q=some (.map es2 c2)∧((es.toList.map kv)++[(k,v)]).Perm (es2.toList.map kv):=by
  have hi:i<ops.size:=(Array.getElem?_eq_some_iff.1 ho).1
  obtain ⟨t,x,kx,vx,kt,et,fin,c,d,u,p,h1,h2,h3,h4,h5,h6,h7,h8⟩:=insOk_parts (by have:=F.ins i r o hr ho (s.H.ap (exts s.H.get (effOf rs) (List.range ops.size) [])) (fun m=>Tr.get_ap _ _ _);rw [he] at this;exact this)
  rw [Tr.get_ap] at h3
  have hall:doneL ops.size (fun _=>true)=List.range ops.size:=by unfold doneL;rw [List.filter_eq_self];intro a _;rfl
  obtain ⟨es0,hM⟩:=F.map_at hr ho he
  obtain ⟨es,c1,h9,h10⟩:=hM L hL
  obtain ⟨es2,c2,h11,h12⟩:=hM (updL L i) (fun j hj=>by unfold updL;split<;>first|rfl|exact hL j hj)
  obtain ⟨esf,cf,h13,h14⟩:=hM (fun _=>true) (fun _ _=>rfl)
  rw [hall,h3] at h13
  injection h13 with h13
  injection h13 with h13 _
  subst h13
  have hiI:i∈insL rs ops.size q:=List.mem_filter.2 ⟨List.mem_range.2 hi,by rw [effOf_eq hr,he];simp [Eff.has,Eff.dom,Eff.isIns]⟩
  have hkvi:kvE (effOf rs) i=(k,v):=by simp [kvE,effOf_eq hr,he]
  have hft:(insL rs ops.size q).filter (fun _=>true)=insL rs ops.size q:=by rw [List.filter_eq_self];intro a _;rfl
  rw [hft] at h14
  refine ⟨t,x,kx,vx,kt,et,d,u,h1,h2,h4,h5,es,c1,h9,?_,es2,c2,h11,?_⟩
  · refine vfind_sub h6 (fun e hm=>?_) ?_
    · have:kv e∈fin.toList.map kv:=by
        rw [h14]
        have hm':kv e∈es.toList.map kv:=List.mem_map_of_mem hm
        rw [h10] at hm'
        rcases List.mem_append.1 hm' with h|h
        · exact List.mem_append_left _ h
        · refine List.mem_append_right _ ?_
          obtain ⟨j,hj,hje⟩:=List.mem_map.1 h
          exact List.mem_map.2 ⟨j,(List.mem_filter.1 hj).1,hje⟩
      obtain ⟨e',h15,h16⟩:=List.mem_map.1 this
      exact ⟨e',h15,congrArg Prod.fst h16⟩
    · rw [filter_count,h14,List.countP_append] at h8
      have hz:(es.toList.filter fun e=>p e.key).length=0:=by
        rw [filter_count,h10,List.countP_append]
        rw [List.countP_map (f:=kvE (effOf rs))] at h8⊢
        rw [List.countP_eq_countP_filter_add (insL rs ops.size q) _ L] at h8
        have:0<((insL rs ops.size q).filter fun a=> !L a).countP ((fun x=>p x.1)∘kvE (effOf rs)):=by
          rw [List.countP_pos_iff]
          exact ⟨i,List.mem_filter.2 ⟨hiI,by rw [hLi];rfl⟩,by simp [hkvi,h7]⟩
        omega
      exact List.eq_nil_of_length_eq_zero hz
  · rw [h10,h12]
    obtain ⟨pre,post,h15,h16,h17⟩:=doneL_split hi hLi
    have e1:(insL rs ops.size q).filter L=(pre++post).filter (fun k=>(effOf rs k).has q&&(effOf rs k).isIns):=by
      rw [←h15,filter_comm];rfl
    have e2:(insL rs ops.size q).filter (updL L i)=(pre++i::post).filter (fun k=>(effOf rs k).has q&&(effOf rs k).isIns):=by
      rw [←h16,filter_comm];rfl
    have hgi:((effOf rs i).has q&&(effOf rs i).isIns)=true:=(List.mem_filter.1 hiI).2
    rw [e1,e2,List.filter_append,List.filter_append,List.filter_cons,if_pos hgi,List.map_append,List.map_append,List.map_cons,hkvi,List.append_assoc]
    refine List.Perm.append_left _ ?_
    rw [List.append_assoc]
    refine List.Perm.append_left _ ?_
    exact (List.perm_append_singleton _ _)
end
end
end Go.V
namespace Go.V
noncomputable section
theorem put_size (a:Act) (dst:Option Tmp) (v:Value):(a.put dst v).tmps.size=a.tmps.size:=by cases dst<;>simp [Act.put]
theorem put_eq {a:Act} {t:Tmp} {v:Value} (h:t<a.tmps.size):(a.put (some t) v).tmps[t]?=some v:=by simp [Act.put,h]
theorem put_ne {a:Act} {dst:Option Tmp} {t:Tmp} {v:Value} (h:dst≠some t):(a.put dst v).tmps[t]?=a.tmps[t]?:=by
  cases dst with
  |none=>rfl
  | some d =>
    simp only [Act.put]
    rw [Array.getElem?_setIfInBounds_ne (fun e=>h (by rw [e]))]
theorem put_defers (a:Act) (dst:Option Tmp) (v:Value):(a.put dst v).defers=a.defers:=by cases dst<;>rfl
def NmL (rs:List Rec) (L:Nat→Bool):Nat→Prop:=fun m=>∃(j:Nat) (r:Rec),L j=true∧rs[j]?=some r∧r.a≤m∧m<r.b
structure DI (D:List Deferred) (sz:Nat) (ops:Array Oper) (s:VS) (rs:List Rec) (R0:Ren) (w0:World) (L:Nat→Bool) (a:Act) (w:World) (R:Ren):Prop where
 down:Down rs L
 lt:∀k,L k=true→k<ops.size
 post:PostN (NmL rs L) R0 R s.H.get (exts s.H.get (effOf rs) (doneL ops.size L) []) w0 w
 size:a.tmps.size=sz
 tmps:∀t v,((∃(j:Nat) (r:Rec),L j=true∧rs[j]?=some r∧r.dst=some t∧r.x=some v)∨((∀(j:Nat) (r:Rec),L j=true→rs[j]?=some r→r.dst≠some t)∧s.T.get t=some v))→∃u,a.tmps[t]?=some u∧VR R v u
 defers:a.defers=D
section
variable {P:Program} {call:CallT} {sz:Nat} {ops:Array Oper} {s:VS} {rs:List Rec} {n':Nat} {L:Nat→Bool} {R0 R:Ren} {w0 w:World} {a:Act} {i:Nat} {r:Rec} {o:Oper} {D:List Deferred}
theorem Fam.fresh (F:Fam P call sz ops s rs n') (fr:Fr P R0 s.H.get s.n n') {j:Nat} {q:Rec} (hq:rs[j]?=some q) (hj:j<ops.size) {m:Nat} (h1:q.a≤m) (h2:m<q.b):P.globals.size≤m∧R0 m=none∧s.H.get m=none:=by
 have h3:=(F.each j q ops[j] hq (Array.getElem?_eq_getElem hj)).a0
 have h4:=F.top j q hq
 have h5:=fr.2 m (by omega) (by omega)
 exact ⟨Nat.le_trans fr.1 (by omega),h5.1,h5.2⟩
theorem Fam.frL (F:Fam P call sz ops s rs n') (fr:Fr P R0 s.H.get s.n n') (h:DI D sz ops s rs R0 w0 L a w R):FrN P R0 s.H.get (NmL rs L):=fun m ⟨j,q,h1,h2,h3,h4⟩=>F.fresh fr h2 (h.lt j h1) h3 h4
theorem Fam.apart (F:Fam P call sz ops s rs n') (hr:rs[i]?=some r) (hLi:L i=false) {m:Nat} (h:NmL rs L m):¬(r.a≤m∧m<r.b):=by
 obtain ⟨j,q,h1,h2,h3,h4⟩:=h
 rcases Nat.lt_trichotomy j i with hj|hj|hj
 ·have:=(F.pair j i _ _ hj h2 hr).2;omega
 ·subst hj;rw [hLi] at h1;cases h1
 ·have:=(F.pair i j _ _ hj hr h2).2;omega
theorem Fam.pmL (F:Fam P call sz ops s rs n') (hI:DI D sz ops s rs R0 w0 L a w R) (hr:rs[i]?=some r) (ho:ops[i]?=some o) (hafter:∀e∈o.after,Region.binds .any e=true→L e.on=true):∀k,r.pm.testBit k=true→L k=true:=by
 intro k hk
 obtain ⟨_,e,he,hb,h⟩:=(F.each i r o hr ho).pmOf k hk
 rcases h with h|⟨q,h1,h2⟩
 ·rw [h];exact hafter e he hb
 ·exact hI.down e.on q (hafter e he hb) h1 k h2
theorem Fam.tr (F:Fam P call sz ops s rs n') (hI:DI D sz ops s rs R0 w0 L a w R) (hr:rs[i]?=some r) (ho:ops[i]?=some o) (hLi:L i=false) (hL:∀k,r.pm.testBit k=true→L k=true):TR R sz r.T a.tmps:=by
  refine ⟨hI.size,fun t v e=>hI.tmps t v ?_⟩
  rcases (F.each i r o hr ho).tmps t v e with ⟨j,q,h1,h2,h3,h4⟩|⟨h1,h2⟩
  · refine .inl ⟨j,q,?_,h2,h3,h4⟩
    cases hp:r.pm.testBit j with
    |true=>exact hL j hp
    | false =>
      have:=((pairOk_parts (F.pair j i _ _ h1 h2 hr).1).2.2 hp).2.2.2.1 t h3
      rw [e] at this;cases this
  · refine .inr ⟨fun j q hLj hq hd=>?_,h2⟩
    rcases Nat.lt_trichotomy j i with hj|hj|hj
    · exact h1 j q hj hq hd
    · subst hj;rw [hLi] at hLj;cases hLj
    · have:=((pairOk_parts (F.pair i j _ _ hj hr hq).1).2.2 (F.beside hr hq hj hLi hI.down hLj)).2.2.2.2 t hd
      rw [e] at this;cases this
theorem Fam.next (F : Fam P call sz ops s rs n') (hh : HR P R0 s.H.get w0) (fr : Fr P R0 s.H.get s.n n') (hI : DI D sz ops s rs R0 w0 L a w R) (hr : rs[i]? = some r) (ho : ops[i]? = some o) (hLi : L i = false) (hL : ∀ k, r.pm.testBit k = true → L k = true)
    {R':Ren} {w':World} {u:Value} {δ:Delta} (hu:okV R' r.x u) (q:PostN (fun m=>r.a≤m∧m<r.b) R R' (ov s.H.get (exts s.H.get (effOf rs) (doneL ops.size L) [])) δ w w')
    (hdeq:∀m,DEq (lk (exts s.H.get (effOf rs) (doneL ops.size L) []++δ) m) (lk (exts s.H.get (effOf rs) (doneL ops.size (updL L i)) []) m)):
    DI D sz ops s rs R0 w0 (updL L i) (a.put o.dst u) w' R':=by
  have hi:i<ops.size:=(Array.getElem?_eq_some_iff.1 ho).1
  have hK:=F.each i r o hr ho
  have frL:=F.frL fr hI
  have frI:FrN P R0 s.H.get (fun m=>r.a≤m∧m<r.b):=fun m h=>F.fresh fr hr hi h.1 h.2
  have hl2:∀m,(r.a≤m∧m<r.b)→lk (exts s.H.get (effOf rs) (doneL ops.size L) []) m=none:=fun m hm=>by
    cases hl:lk (exts s.H.get (effOf rs) (doneL ops.size L) []) m with
    |none=>rfl
    | some y =>
      rcases hI.post.rng m (by rw [hl];rfl) with h|h
      · exact (F.apart hr hLi h hm).elim
      · rw [(frI m hm).2.2] at h;cases h
  have hrle:R.le R':=by
    refine q.rle (P:=P) (S:=ov s.H.get (exts s.H.get (effOf rs) (doneL ops.size L) [])) fun m hm=>⟨(frI m hm).1,?_,?_⟩
    · rw [hI.post.ext m (fun h=>F.apart hr hLi h hm)];exact (frI m hm).2.1
    · unfold ov;rw [hl2 m hm];exact (frI m hm).2.2
  have hupd:∀j,updL L i j=true↔j=i∨L j=true:=fun j=>by unfold updL;split<;>simp_all
  refine ⟨fun j x hj hx k hk=>?_,fun k hk=>?_,?_,by rw [put_size];exact hI.size,fun t v h=>?_,by rw [put_defers];exact hI.defers⟩
  · rw [hupd] at hj⊢
    rcases hj with rfl|hj
    · rw [hr] at hx;injection hx with hx;subst hx
      exact .inr (hL k hk)
    · exact .inr (hI.down j x hj hx k hk)
  · rcases (hupd k).1 hk with rfl|hk
    · exact hi
    · exact hI.lt k hk
  · refine ((PostN.trans hh frL frI (fun m h1 h2=>F.apart hr hLi h1 h2) hI.post hl2 q).congr hdeq).iff fun m=>⟨fun h=>?_,fun ⟨j,x,h1,h2,h3⟩=>?_⟩
    · rcases h with ⟨j,x,h1,h2⟩|h
      · exact ⟨j,x,(hupd j).2 (.inr h1),h2⟩
      · exact ⟨i,r,(hupd i).2 (.inl rfl),hr,h⟩
    · rcases (hupd j).1 h1 with rfl|h1
      · rw [hr] at h2;injection h2 with h2;subst h2
        exact .inr h3
      · exact .inl ⟨j,x,h1,h2,h3⟩
  · have old:o.dst≠some t→((∃(j:Nat) (r:Rec),L j=true∧rs[j]?=some r∧r.dst=some t∧r.x=some v)∨((∀(j:Nat) (r:Rec),L j=true→rs[j]?=some r→r.dst≠some t)∧s.T.get t=some v))→∃u_1,(a.put o.dst u).tmps[t]?=some u_1∧VR R' v u_1:=fun hne h=>by
      obtain ⟨y,h1,h2⟩:=hI.tmps t v h
      exact ⟨y,by rw [put_ne hne];exact h1,h2.mono hrle⟩
    rcases h with ⟨j,x,h1,h2,h3,h4⟩|⟨h1,h2⟩
    · rcases (hupd j).1 h1 with rfl|h1'
      · rw [hr] at h2;injection h2 with h2;subst h2
        rw [hK.dst] at h3
        refine ⟨u,?_,hu v h4⟩
        rw [h3]
        exact put_eq (by rw [hI.size];exact hK.bound t h3)
      · refine old (fun hd=>?_) (.inl ⟨j,x,h1',h2,h3,h4⟩)
        rw [←hK.dst] at hd
        rcases Nat.lt_trichotomy j i with hj|hj|hj
        · exact (pairOk_parts (F.pair j i _ _ hj h2 hr).1).1 t h3 hd
        · subst hj;rw [hLi] at h1';cases h1'
        · exact (pairOk_parts (F.pair i j _ _ hj hr h2).1).1 t hd h3
    · refine old (fun hd=>h1 i r ((hupd i).2 (.inl rfl)) hr (by rw [hK.dst];exact hd)) (.inr ⟨fun j x h3 h4=>h1 j x ((hupd j).2 (.inr h3)) h4,h2⟩)
end
end
end Go.V
namespace Go.V
noncomputable section
section
variable {P:Program} {call:CallT} {sz:Nat} {ops:Array Oper} {s:VS} {rs:List Rec} {n':Nat} {L:Nat→Bool} {R0 R:Ren} {w0 w:World} {a:Act} {i:Nat} {o:Oper} {Q:Exit→Act→World→Prop} {D:List Deferred} {rb:Option Nat}
theorem vinsert_push {H:Tr} {t kt et:TypeId} {d:TypeDesc} {m:Nat} {es:Array MapEntry} {c:Nat} {k v:Value} {u:Unit} (hu:P.underlying t=some (.map kt et)) (hp:plainV k=true) (hm:H.get m=some (.map es c)) (hd:P.underlying kt=some d) (hc:prun P (Instr.checkKey false 10000 kt k)=some u) (hf:vfind P kt d k es.toList=some none):
  vinsert P H t (.map (some m)) k v=some [(m,some (.map (es.push ⟨k,v,c⟩) (c+1)))]:=by
 unfold vinsert
 simp only [hu,hp,if_true,hm,hd,hc,hf]
theorem Fam.step (hnm : NamesOk P) (hcall : ∀ f args H n v δ n', call f args H n = some (v, δ, n') → CallOk P f args H n v δ n') (F : Fam P call sz ops s rs n') (hh : HR P R0 s.H.get w0) (fr : Fr P R0 s.H.get s.n n') (hI : DI D sz ops s rs R0 w0 L a w R) (ho : ops[i]? = some o) (hLi : L i = false)
    (hafter:∀e∈o.after,Region.binds .any e=true→L e.on=true):wpOpIn (FW P rb) 0 P ops Q i (fun a' w'=>∃R',DI D sz ops s rs R0 w0 (updL L i) a' w' R') a w:=by
  have hi:i<ops.size:=(Array.getElem?_eq_some_iff.1 ho).1
  obtain ⟨r,hr⟩:=F.at hi
  have hL:=F.pmL hI hr ho hafter
  have hT:=F.tr hI hr ho hLi hL
  have hK:=F.each i r o hr ho
  have frL:=F.frL fr hI
  have hF2:HR P R (ov s.H.get (exts s.H.get (effOf rs) (doneL ops.size L) [])) w:=hI.post.up hh frL
  have frI:∀m,r.a≤m→m<r.b→R m=none∧ov s.H.get (exts s.H.get (effOf rs) (doneL ops.size L) []) m=none:=fun m h1 h2=>by
    have h3:=F.fresh fr hr hi h1 h2
    have hn:¬NmL rs L m:=fun h=>F.apart hr hLi h ⟨h1,h2⟩
    refine ⟨by rw [hI.post.ext m hn];exact h3.2.1,?_⟩
    unfold ov
    cases hl:lk (exts s.H.get (effOf rs) (doneL ops.size L) []) m with
    |none=>exact h3.2.2
    | some y =>
      rcases hI.post.rng m (by rw [hl];rfl) with h|h
      · exact (hn h).elim
      · rw [h3.2.2] at h;cases h
  have main:∀(H':Tr) (δ:Delta),(∀f,o.about P w a.eval=some f→f<P.funcs.size)→OpOk P o (evT P r.T) H' r.a r.x δ r.b→(∀m ob,H'.get m=some ob→ov s.H.get (exts s.H.get (effOf rs) (doneL ops.size L) []) m=some ob)→
      (∀m,DEq (lk (exts s.H.get (effOf rs) (doneL ops.size L) []++δ) m) (lk (exts s.H.get (effOf rs) (doneL ops.size (updL L i)) []) m))→o.wpIn (FW P rb) 0 P a w (fun a' w'=>∃R',DI D sz ops s rs R0 w0 (updL L i) a' w' R') Q:=by
    intro H' δ hab hok hsub hdeq
    have hH':=hF2.sub hsub
    have frH:Fr P R H'.get r.a r.b:=by
      refine ⟨Nat.le_trans fr.1 hK.a0,fun m h1 h2=>⟨(frI m h1 h2).1,?_⟩⟩
      cases hg:H'.get m with
      |none=>rfl
      |some ob=>have:=hsub m ob hg;rw [(frI m h1 h2).2] at this;cases this
    exact res_wp hab (hok R w a.eval hH' frH (evT_ok hH' hT)) fun v w' R' hx hp=>⟨R',F.next hh fr hI hr ho hLi hL hx (hp.toN.wide hsub) hdeq⟩
  unfold wpOpIn
  simp only [ho]
  rcases hK.run with ⟨hw,hx,he,hb,hab⟩|⟨hw,δ,he,hv⟩|⟨hw,t,x,kx,vx,m,vk,vv,hop,h1,h2,h3,hp,he,hx,hb⟩
  · rw [wantV_ok hw hT]
    simp only [Bool.false_eq_true,if_false]
    refine ⟨about_off (evT_ok hF2 hT) hab,R,F.next hh fr hI hr ho hLi hL (fun u e=>by rw [hx] at e;injection e with e;subst e;exact plain_refl _ rfl) (PostN.skip _ R _ w (fun m h=>by omega)) fun m=>?_⟩
    rw [F.ext_last hr hi hLi hI.down (.inl (by rw [he];rfl)),he]
    exact DEq.refl _
  · rw [wantV_ok hw hT]
    simp only [if_true]
    refine main r.H δ (about_on (evT_ok hF2 hT) (.inr hv)) (vopF_ok hnm hcall hv) (fun m ob=>F.sub hr ho hLi hI.down hL hI.lt) fun m=>?_
    rw [F.ext_last hr hi hLi hI.down (.inl (by rw [he];rfl)),he]
    exact DEq.refl _
  · rw [wantV_ok hw hT]
    simp only [if_true]
    obtain ⟨t',x',kx',vx',kt,et,d,u,hop',hu,hd,hc,es,c,hes,hvf,es2,c2,hes2,hperm⟩:=F.ins_at hr ho he hLi hL
    rw [hop] at hop'
    injection hop' with e1 e2 e3 e4
    subst e1 e2 e3 e4
    have hget:∀q,((Tr.leaf.set m (some (.map es c))).get q)=if q=m then some (.map es c) else none:=fun q=>by rw [Tr.get_set];rfl
    refine main (Tr.leaf.set m (some (.map es c))) [(m,some (.map (es.push ⟨vk,vv,c⟩) (c+1)))] (fun f hf=>by rw [about_other (fun c e=>by rw [hop] at e;cases e)] at hf;cases hf) ?_ (fun q ob hq=>?_) fun q=>?_
    · rw [hx,hb]
      obtain ⟨dst,op,ty,pos,after,guard⟩:=o
      simp only at hop
      subst hop
      exact insert_ok h1 h2 h3 (vinsert_push hu hp (by rw [hget,if_pos rfl]) hd hc hvf)
    · rw [hget] at hq
      split at hq
      · next e=>injection hq with hq;subst hq;rw [e];exact hes
      · cases hq
    · by_cases hq:q=m
      · subst hq
        rw [lk_append,lk_one',if_pos rfl]
        have hs:(lk (exts s.H.get (effOf rs) (doneL ops.size (updL L i)) []) q).isSome:=(exts_dom _ _).2 (.inr ⟨i,List.mem_filter.2 ⟨List.mem_range.2 hi,by simp [updL]⟩,by rw [effOf_eq hr,he];simp [Eff.has,Eff.dom]⟩)
        unfold ov at hes2
        cases hl:lk (exts s.H.get (effOf rs) (doneL ops.size (updL L i)) []) q with
        |none=>rw [hl] at hs;cases hs
        | some z =>
          rw [hl] at hes2
          have hz:z=some (.map es2 c2):=hes2
          subst hz
          refine .inr ⟨_,_,_,_,rfl,rfl,?_⟩
          rw [Array.toList_push,List.map_append]
          exact hperm
      · have hh2:r.e.has q=false:=by rw [he];simpa [Eff.has,Eff.dom] using hq
        rw [F.ext_last hr hi hLi hI.down (.inr hh2),ext_not hh2,lk_append,lk_one',if_neg hq]
        exact DEq.refl _
end
end
end Go.V
namespace Go.V
noncomputable section
theorem repl_false (n j:Nat):(Array.replicate n false).getD j false=false:=by
 rw [Array.getD_eq_getD_getElem?,Array.getElem?_replicate]
 split<;>rfl
theorem count_set {L : Array Bool} {i m : Nat} (hi : i < m) (hL : L.getD i false = false) (hs : m ≤ L.size) :
    ((List.range m).filter fun j=> !(L.setIfInBounds i true).getD j false).length+1=((List.range m).filter fun j=> !L.getD j false).length:=by
  have key:∀l:List Nat,l.Nodup→((l.filter fun j=> !(L.setIfInBounds i true).getD j false).length+if i∈l then 1 else 0)=(l.filter fun j=> !L.getD j false).length:=by
    intro l
    induction l with
    |nil=>simp
    | cons x r ih =>
      intro hn
      rw [List.nodup_cons] at hn
      have h1:=ih hn.2
      by_cases hx:i=x
      · subst hx
        rw [if_neg hn.1] at h1
        have h2:(L.setIfInBounds i true).getD i false=true:=by simp [show i<L.size by omega]
        rw [List.filter_cons,List.filter_cons,h2,hL]
        simp only [Bool.not_true,Bool.not_false,if_true,List.length_cons,List.mem_cons_self]
        simp only [Bool.false_eq_true,if_false]
        omega
      · have h2:=getD_set_ne (listed:=L) false hx
        rw [List.filter_cons,List.filter_cons,h2]
        have h3:(i∈x::r)=(i∈r):=by simp [hx]
        rw [show (if i∈x::r then 1 else 0)=(if i∈r then 1 else 0) by simp only [h3]]
        cases L.getD x false
        · simp only [Bool.not_false,if_true,List.length_cons];omega
        · simpa using h1
  have:=key (List.range m) List.nodup_range
  rw [if_pos (List.mem_range.2 hi)] at this
  exact this
section
variable {P:Program} {ops:Array Oper} {Q:Exit→Act→World→Prop} {rb:Option Nat}
theorem wpAny_inv (I : (Nat → Bool) → Act → World → Prop) (h2 : ∀ i o, ops[i]? = some o → ∀ e ∈ o.after, Region.binds .any e = true → e.on < i)
    (step:∀L a w i o,I L a w→ops[i]?=some o→L i=false→(∀e∈o.after,Region.binds .any e=true→L e.on=true)→wpOpIn (FW P rb) 0 P ops Q i (fun a' w'=>I (updL L i) a' w') a w)
    (done:∀L a w,I L a w→(∀i,i<ops.size→L i=true)→Q .normal a w):
    ∀(d:Nat) (L:Array Bool) (a:Act) (w:World),L.size=ops.size→((List.range ops.size).filter fun j=> !L.getD j false).length=d→I (fun j=>L.getD j false) a w→wpAnyIn (FW P rb) 0 P .any ops Q d L a w:=by
  intro d
  have noready:∀(L:Array Bool),L.size=ops.size→Region.ready .any ops L=[]→∀i,i<ops.size→L.getD i false=true:=by
    intro L hs h0 i
    induction i using Nat.strongRecOn with
    | _ i ih =>
      intro hi
      cases hb:L.getD i false with
      |true=>rfl
      | false =>
        exfalso
        have:i∈Region.ready .any ops L:=by
          rw [mem_ready]
          refine ⟨by rw [←hb];simp [Array.getD_eq_getD_getElem?,hs,hi],ops[i],Array.getElem?_eq_getElem hi,fun e he hbn=>?_⟩
          have:=h2 i _ (Array.getElem?_eq_getElem hi) e he hbn
          exact ih e.on this (by omega)
        rw [h0] at this
        cases this
  induction d with
  | zero =>
    intro L a w hs hc hI
    have hall:∀i,i<ops.size→L.getD i false=true:=by
      intro i hi
      cases hb:L.getD i false with
      |true=>rfl
      | false =>
        have:i∈(List.range ops.size).filter fun j=> !L.getD j false:=List.mem_filter.2 ⟨List.mem_range.2 hi,by simp [hb]⟩
        rw [List.eq_nil_of_length_eq_zero hc] at this
        cases this
    refine ⟨List.eq_nil_iff_forall_not_mem.2 (fun i hi=>?_),done _ a w hI hall⟩
    rw [mem_ready] at hi
    obtain ⟨hn,o,ho,_⟩:=hi
    have hlt:=(Array.getElem?_eq_some_iff.1 ho).1
    have h5:L.getD i false=L.getD i true:=by simp [Array.getD_eq_getD_getElem?,hs,hlt]
    rw [←h5,hall i hlt] at hn
    cases hn
  | succ d ih =>
    intro L a w hs hc hI
    refine ⟨fun h0=>done _ a w hI (noready L hs h0),fun i hi=>?_⟩
    rw [mem_ready] at hi
    obtain ⟨hn,o,ho,hwait⟩:=hi
    have hlt:=(Array.getElem?_eq_some_iff.1 ho).1
    have hnf:L.getD i false=false:=by
      have h5:L.getD i false=L.getD i true:=by simp [Array.getD_eq_getD_getElem?,hs,hlt]
      rw [h5];exact hn
    refine wpOpIn_mono (fun a' w' h'=>ih _ a' w' (by simpa using hs) ?_ ?_) (step _ a w i o hI ho hnf hwait)
    · have:=count_set (m:=ops.size) hlt hnf (by omega)
      omega
    · have:(fun j=>(L.setIfInBounds i true).getD j false)=updL (fun j=>L.getD j false) i:=by
        funext j
        unfold updL
        by_cases hji:j=i
        · subst hji;simp [hs,hlt]
        · rw [if_neg hji,getD_set_ne false (fun e=>hji e.symm)]
      rw [this]
      exact h'
end
section
variable {P:Program} {call:CallT} {sz:Nat} {ops:Array Oper} {s:VS} {rs:List Rec} {n':Nat} {R0 R:Ren} {w0 w:World} {a:Act} {Q:Exit→Act→World→Prop} {D:List Deferred} {rb:Option Nat}
theorem Fam.region (hmix:P.follows .mixedOrders=true) (hnm:NamesOk P) (hcall:∀f args H n v δ n',call f args H n=some (v,δ,n')→CallOk P f args H n v δ n') (F:Fam P call sz ops s rs n') (hh:HR P R0 s.H.get w) (fr:Fr P R0 s.H.get s.n n') (hT:TR R0 sz s.T a.tmps) (hd:a.defers=D) {id:Nat}
  (hQ:∀a' w' R' L,(∀i,i<ops.size→L i=true)→DI D sz ops s rs R0 w L a' w' R'→Q .normal a' w'):(Code.region id ops true).wpIn (FW P rb) 0 P Q a w:=by
 refine wpIn_region_any hmix ?_
 have hh2:HR P R0 s.H.get {w with drawn:=w.drawn+1}:=hh.world rfl
 refine wpAny_inv (fun L a' w'=>∃R',DI D sz ops s rs R0 {w with drawn:=w.drawn+1} L a' w' R') (fun i o ho e he hb=>?_) (fun L a' w' i o ⟨R',hI⟩ ho hLi hafter=>F.step hnm hcall hh2 fr hI ho hLi hafter) (fun L a' w' ⟨R',hI⟩ hall=>?_) ops.size (Array.replicate ops.size false) a {w with drawn:=w.drawn+1} (by simp) ?_ ?_
 ·obtain ⟨r,hr⟩:=F.at (Array.getElem?_eq_some_iff.1 ho).1
  exact (F.each i r o hr ho).edges e he hb
 ·rw [List.filter_eq_self.2]
  ·simp
  ·intro j hj
   rw [repl_false];rfl
 ·have:(fun j=>(Array.replicate ops.size false).getD j false)=fun _=>false:=by funext j;exact repl_false _ _
  rw [this]
  refine ⟨R0,⟨(fun j r h=>by cases h),(fun k h=>by cases h),?_,hT.1,fun t v h=>?_,hd⟩⟩
  ·have:doneL ops.size (fun _=>false)=[]:=by unfold doneL;rw [List.filter_eq_nil_iff];intro a _;simp
   rw [this]
   exact PostN.skip _ R0 _ _ fun m ⟨j,r,h,_⟩=>by cases h
  ·rcases h with ⟨j,r,h,_⟩|⟨_,h⟩
   ·cases h
   ·exact hT.2 t v h
 ·refine hQ a' w' R' L hall ⟨hI.down,hI.lt,?_,hI.size,hI.tmps,hI.defers⟩
  exact ⟨hI.post.ext,hI.post.obj,hI.post.inj,hI.post.rng,hI.post.new,hI.post.os,hI.post.tape,hI.post.output,hI.post.size,hI.post.frame⟩
theorem AtR.step2 {n0 N:Nat} {H0:Tr} {w':World} {R':Ren} {δ δ1 δd:Delta} {a':Act} (hh:HR P R0 H0.get w0) (fr:Fr P R0 H0.get n0 N) (h:AtR P R0 n0 H0 w0 sz s a w R δ) {n1:Nat} {T:Tt} {H:Tr} {d:List Nat}
    (hN:n1≤N) (p:Post R R' s.n n1 s.H.get δ1 w w') (hT:TR R' sz T a'.tmps) {ds:List VD} (hde:DsR R' ds a'.defers) (hH:∀m,H.get m=ov s.H.get δ1 m) (hd:dirty n0 n1 δd s.d=some d) (hdom:∀m,(lk δd m).isSome=(lk δ1 m).isSome):At P R0 n0 H0 w0 sz ⟨T,H,n1,d,ds⟩ a' w':=by
  have hle:=p.le
  have hS:s.H.get=ov H0.get δ:=funext h.heap
  have fr1:=(h.fresh fr).part (Nat.le_refl _) hN
  rw [hS] at p
  refine ⟨R',δ++δ1,Post.trans hh (fr.part (Nat.le_refl _) hN) hle h.post p,fun m=>?_,hT,hde,fun m hm=>?_,fun m hm=>?_⟩
  · rw [hH,hS,ov_append]
  · rw [lk_append]
    cases hl:lk δ1 m with
    |some _=>rfl
    | none =>
      rcases (dirty_ok hd).2.1 m hm with h1|h1
      · exact h.old m h1
      · rw [hdom,hl] at h1;cases h1
  · rw [lk_append] at hm
    cases hl:lk δ1 m with
    |some _=>exact (dirty_ok hd).2.2 m (by rw [hdom,hl];rfl)
    | none =>
      rw [hl] at hm
      rcases h.all m hm with h1|h1
      · exact .inl ((dirty_ok hd).1 m h1)
      · exact .inr ⟨h1.1,by simp only;omega⟩
end
end
end Go.V
namespace Go.V
noncomputable section
theorem pmOf_ok {rs : List Rec} {i : Nat} : ∀ {es : List Edge} {p p' : Nat}, pmOf rs i es p = some p' → (∀ e ∈ es, Region.binds .any e = true → e.on < i) ∧
    (∀j,p'.testBit j=true→p.testBit j=true∨∃e∈es,Region.binds .any e=true∧(j=e.on∨∃r',rs[e.on]?=some r'∧r'.pm.testBit j=true))
  | [], p, p', h => by
    injection h with h
    subst h
    exact ⟨(fun e h=>by cases h),fun j h=> .inl h⟩
  | e :: es, p, p', h => by
    rw [pmOf] at h
    split at h
    · next hb=>
      split at h
      case isFalse=>cases h
      next hlt=>
      split at h
      case h_2=>cases h
      next r hr=>
      obtain ⟨h1,h2⟩:=pmOf_ok h
      refine ⟨fun x hx hbx=>?_,fun j hj=>?_⟩
      · rcases List.mem_cons.1 hx with rfl|hx
        · exact hlt
        · exact h1 x hx hbx
      · rcases h2 j hj with h3|⟨x,h3,h4⟩
        · rw [Nat.testBit_or,Nat.testBit_or,Bool.or_eq_true,Bool.or_eq_true] at h3
          rcases h3 with (h3|h3)|h3
          · exact .inl h3
          · rw [Nat.one_shiftLeft,Nat.testBit_two_pow] at h3
            exact .inr ⟨e,List.mem_cons_self,hb, .inl (by simpa using (of_decide_eq_true h3).symm)⟩
          · exact .inr ⟨e,List.mem_cons_self,hb, .inr ⟨r,hr,h3⟩⟩
        · exact .inr ⟨x,List.mem_cons_of_mem _ h3,h4⟩
    · next hb=>
      obtain ⟨h1,h2⟩:=pmOf_ok h
      refine ⟨fun x hx hbx=>?_,fun j hj=>?_⟩
      · rcases List.mem_cons.1 hx with rfl|hx
        · exact (hb hbx).elim
        · exact h1 x hx hbx
      · rcases h2 j hj with h3|⟨x,h3,h4⟩
        · exact .inl h3
        · exact .inr ⟨x,List.mem_cons_of_mem _ h3,h4⟩
theorem lookT_ok {T : Tt} {t : Nat} {v : Value} : ∀ (l : List Operand) {A : Tt}, (lookT T l A).get t = some v → A.get t = some v ∨ T.get t = some v
  |[],A,h=> .inl h
  | x :: l, A, h => by
    cases x with
    | tmp q =>
      rcases lookT_ok l (A:=A.set q (T.get q)) h with h|h
      · rw [Tt.get_set] at h
        split at h
        · next e=>subst e;exact .inr h
        · exact .inl h
      · exact .inr h
    |const c=>exact lookT_ok l (A:=A) h
    |global c=>exact lookT_ok l (A:=A) h
    |func c=>exact lookT_ok l (A:=A) h
theorem lookG_ok {ops:Array Oper} {T A:Tt} {t:Nat} {v:Value} {g:Option (Nat×Bool)} (h:(lookG ops T g A).get t=some v):A.get t=some v∨T.get t=some v:=by
 unfold lookG at h
 split at h
 ·exact .inl h
 ·split at h
  ·rw [Tt.get_set] at h
   split at h
   ·next e=>subst e;exact .inr h
   ·exact .inl h
  ·exact .inl h
theorem maskD_ok {m:Nat} {o:Obj}:∀(l:List Nat) {H:Tr},(maskD H l).get m=some o→H.get m=some o
  |[],H,h=>h
  | q :: l, H, h => by
    have:=maskD_ok l (H:=H.set q none) h
    rw [Tr.get_set] at this
    split at this
    · cases this
    · exact this
theorem maskR_ok {pm m:Nat} {o:Obj}:∀(l:List Rec) {j:Nat} {H:Tr},(maskR pm l j H).get m=some o→H.get m=some o
  |[],j,H,h=>h
  | r :: l, j, H, h => by
    rw [maskR] at h
    have:=maskR_ok l h
    split at this
    · exact this
    · exact maskD_ok _ this
theorem pairsOk_ok {pm:Nat} {ri:Rec}:∀{rs:List Rec} {j0:Nat},pairsOk pm ri rs j0=true→∀(j:Nat) rj,rs[j]?=some rj→pairOk pm (j0+j) rj ri=true
  |[],j0,h,j,rj,hj=>by simp at hj
  | r :: rs, j0, h, j, rj, hj => by
    rw [pairsOk,Bool.and_eq_true] at h
    cases j with
    | zero =>
      simp only [List.getElem?_cons_zero,Option.some.injEq] at hj
      subst hj
      exact h.1
    | succ j =>
      have:=pairsOk_ok h.2 j rj (by simpa using hj)
      rwa [show j0+1+j=j0+(j+1) by omega] at this
end
end Go.V
namespace Go.V
noncomputable section
structure VRecOk (P:Program) (call:CallT) (ops:Array Oper) (o:Oper) (rs:List Rec) (i:Nat) (s:VS) (r:Rec) (H':Tr):Prop where
 edges:∀e∈o.after,Region.binds .any e=true→e.on<i
 pmOf:∀j,r.pm.testBit j=true→∃e∈o.after,Region.binds .any e=true∧(j=e.on∨∃r',rs[e.on]?=some r'∧r'.pm.testBit j=true)
 dst:r.dst=o.dst
 a:r.a=s.n
 le:r.a≤r.b
 tmps:∀t v,r.T.get t=some v→s.T.get t=some v
 heap:∀m ob,r.H.get m=some ob→s.H.get m=some ob
 run:(wantV ops r.T o=some false∧r.x=some undef∧r.e= .abs []∧r.b=r.a∧aboutOk P (evT P r.T) o.op=true)∨(wantV ops r.T o=some true∧∃δ,r.e= .abs δ∧vopF o.op P call (evT P r.T) r.H r.a o=some (r.x,δ,r.b))∨
  (wantV ops r.T o=some true∧∃t x q v m vk vv,o.op= .insert t x q v∧evT P r.T x=some (.map (some m))∧evT P r.T q=some vk∧evT P r.T v=some vv∧plainV vk=true∧r.e= .ins m vk vv∧r.x=none∧r.b=r.a)
 out:∀(S:Mem) (δ:Delta),(∀m,s.H.get m=ov S δ m)→∀m,H'.get m=ov S (ext S δ r.e) m
section
variable {P:Program} {call:CallT} {ops:Array Oper} {o:Oper} {rs:List Rec} {i:Nat} {s:VS} {r:Rec} {H':Tr}
theorem leaf_get (m:Nat) (ob:Obj):Tr.leaf.get m=some ob→s.H.get m=some ob:=fun h=>by cases h
theorem ov_ext_abs {S:Mem} {δ d:Delta} {H:Tr} (h:∀m,H.get m=ov S δ m) (m:Nat):(H.ap d).get m=ov S (ext S δ (.abs d)) m:=by
 rw [Tr.get_ap,ext,ov_append]
 have:H.get=ov S δ:=funext h
 rw [this]
theorem heapOf_ok {pm : Nat} {T : Tt} {H : Tr} {op : Op} {m : Nat} {ob : Obj} (h : (heapOf P pm rs T H op).get m = some ob) : H.get m = some ob := by
  unfold heapOf at h
  split at h
  · unfold onlyM at h
    split at h
    · split at h
      · next q _ _ _ x hx=>
        rw [Tr.get_set] at h
        split at h
        · next e=>subst e;rw [hx];exact h
        · cases h
      · cases h
    · cases h
  · split at h
    · cases h
    · exact maskR_ok _ h
theorem vrec_ok (h:vrec P call ops o rs i s=some (r,H')):VRecOk P call ops o rs i s r H':=by
 unfold vrec at h
 split at h
 ·cases h
 next pm hpm=>
 obtain ⟨hp1,hp2⟩:=pmOf_ok hpm
 have hp1:∀e∈o.after,Region.binds .any e=true→e.on<i:=fun e he=>hp1 e (Array.mem_toList_iff.2 he)
 have hp2:∀j,pm.testBit j=true→∃e∈o.after,Region.binds .any e=true∧(j=e.on∨∃r',rs[e.on]?=some r'∧r'.pm.testBit j=true):=fun j hj=>by
  rcases hp2 j hj with h|⟨e,he,h⟩
  ·simp at h
  ·exact ⟨e,Array.mem_toList_iff.1 he,h⟩
 have hTk:∀t v,(lookG ops s.T o.guard (lookT s.T o.op.operands.toList .leaf)).get t=some v→s.T.get t=some v:=fun t v h=>by
  rcases lookG_ok h with h|h
  ·rcases lookT_ok _ h with h|h
   ·cases h
   ·exact h
  ·exact h
 simp only at h
 generalize lookG ops s.T o.guard (lookT s.T o.op.operands.toList .leaf)=T at h hTk
 split at h
 ·cases h
 ·next hw=>
  split at h
  case isFalse=>cases h
  next hab=>
  injection h with h
  injection h with h1 h2
  subst h1 h2
  exact ⟨hp1,hp2,rfl,rfl,Nat.le_refl _,hTk,leaf_get, .inl ⟨hw,rfl,rfl,rfl,hab⟩,fun S δ hs m=>by rw [hs,ext,List.append_nil]⟩
 ·next hw=>
  split at h
  ·next t x k v hop=>
   split at h
   case h_2=>cases h
   next m vk vv h1 h2 h3=>
   split at h
   case isFalse=>cases h
   next hpl=>
   injection h with h
   injection h with h4 h5
   subst h4 h5
   refine ⟨hp1,hp2,rfl,rfl,Nat.le_refl _,hTk,leaf_get, .inr (.inr ⟨hw,t,x,k,v,m,vk,vv,hop,h1,h2,h3,hpl,rfl,rfl,rfl⟩),fun S δ hs q=>?_⟩
   rw [Tr.get_set,ext]
   unfold ov
   rw [lk_append,lk_one']
   split
   ·next e=>subst e;rw [←show ov S δ q=(lk δ q).getD (S q) from rfl,←hs];rfl
   ·exact hs q
  ·split at h
   ·cases h
   next x δ n1 hv=>
   split at h
   case isFalse=>cases h
   next hle=>
   injection h with h
   injection h with h4 h5
   subst h4 h5
   refine ⟨hp1,hp2,rfl,rfl,hle,hTk,fun m ob hm=>?_, .inr (.inl ⟨hw,δ,rfl,hv⟩),fun S δ0 hs m=>ov_ext_abs hs m⟩
   exact heapOf_ok hm
end
end
end Go.V
namespace Go.V
noncomputable section
theorem exts_congr {S:Mem} {E E':Nat→Eff}:∀(l:List Nat) (δ:Delta),(∀k∈l,E k=E' k)→exts S E l δ=exts S E' l δ
  |[],δ,h=>rfl
  | k :: l, δ, h => by
    change exts S E l (ext S δ (E k))=exts S E' l (ext S δ (E' k))
    rw [h k List.mem_cons_self]
    exact exts_congr l _ fun k hk=>h k (List.mem_cons_of_mem _ hk)
structure Pre (P:Program) (call:CallT) (sz:Nat) (ops:Array Oper) (s:VS) (rs:List Rec) (cur:VS):Prop where
 each:∀(k:Nat) r o,rs[k]?=some r→ops[k]?=some o→RecOk P call sz ops s rs k r o
 pair:∀(j k:Nat) rj rk,j<k→rs[j]?=some rj→rs[k]?=some rk→pairOk rk.pm j rj rk=true∧rj.b≤rk.a
 top:∀(k:Nat) r,rs[k]?=some r→r.b≤cur.n
 all:∀(m:Nat),s.n≤m→m<cur.n→∃(k:Nat) (r:Rec),rs[k]?=some r∧r.a≤m∧m<r.b
 le:s.n≤cur.n
 heap:∀m,cur.H.get m=ov s.H.get (exts s.H.get (effOf rs) (List.range rs.length) []) m
 tmps:∀t v,cur.T.get t=some v→(∃(j:Nat) (rj:Rec),rs[j]?=some rj∧rj.dst=some t∧rj.x=some v)∨((∀(j:Nat) (rj:Rec),rs[j]?=some rj→rj.dst≠some t)∧s.T.get t=some v)
 d:cur.d=s.d
 ds:cur.ds=s.ds
section
variable {P:Program} {call:CallT} {sz:Nat} {ops:Array Oper} {s cur:VS} {rs:List Rec} {r:Rec} {o:Oper} {H':Tr} {T':Tt}
theorem get_old {x q:Rec} {k:Nat} (h:rs[k]?=some q):(rs++[x])[k]?=some q:=by
 rw [List.getElem?_append_left (List.getElem?_eq_some_iff.1 h).1];exact h
theorem get_cases {x q:Rec} {k:Nat} (h:(rs++[x])[k]?=some q):rs[k]?=some q∨(k=rs.length∧q=x):=by
 by_cases hk:k<rs.length
 ·rw [List.getElem?_append_left hk] at h;exact .inl h
 ·rw [List.getElem?_append_right (by omega)] at h
  have hlt:=(List.getElem?_eq_some_iff.1 h).1
  simp only [List.length_cons,List.length_nil] at hlt
  have:k-rs.length=0:=by omega
  rw [this] at h
  simp only [List.getElem?_cons_zero,Option.some.injEq] at h
  exact .inr ⟨by omega,h.symm⟩
theorem eff_old {x:Rec} {k:Nat} (h:k<rs.length):effOf (rs++[x]) k=effOf rs k:=by
 unfold effOf
 rw [List.getElem?_append_left h]
theorem RecOk.grow {k:Nat} {q x:Rec} (h:RecOk P call sz ops s rs k q o) (hk:k<rs.length):RecOk P call sz ops s (rs++[x]) k q o:=by
 refine ⟨h.edges,fun j hj=>?_,h.dst,h.bound,h.le,h.a0,fun t v e=>?_,fun m ob hm=>?_,h.run⟩
 ·obtain ⟨h1,e,he,hb,h2⟩:=h.pmOf j hj
  refine ⟨h1,e,he,hb,?_⟩
  rcases h2 with h2|⟨r',h2,h3⟩
  ·exact .inl h2
  ·exact .inr ⟨r',get_old h2,h3⟩
 ·rcases h.tmps t v e with ⟨j,rj,h1,h2,h3⟩|⟨h1,h2⟩
  ·exact .inl ⟨j,rj,h1,get_old h2,h3⟩
  ·refine .inr ⟨fun j rj hj hr=>h1 j rj hj ?_,h2⟩
   rcases get_cases hr with h|⟨h,_⟩
   ·exact h
   ·omega
 ·rw [exts_congr (E':=effOf rs) _ _ (fun j hj=>eff_old (by have:=List.mem_range.1 hj;omega))]
  exact h.heap m ob hm
theorem Pre.grow (h : Pre P call sz ops s rs cur) (hr : VRecOk P call ops o rs rs.length cur r H') (ho : ops[rs.length]? = some o) (hp : pairsOk r.pm r rs 0 = true) (hT : putV sz cur.T o.dst r.x = some T') : Pre P call sz ops s (rs ++ [r]) ⟨T', H', r.b, cur.d, cur.ds⟩ := by
  have hd:(∀d,o.dst=some d→d<sz)∧∀t,T'.get t=if o.dst=some t then r.x else cur.T.get t:=by
    unfold putV at hT
    split at hT
    · next hn=>
      injection hT with hT
      subst hT
      exact ⟨(fun d e=>by rw [hn] at e;cases e),fun t=>by rw [hn,if_neg (by simp)]⟩
    · next t0 hn=>
      split at hT
      case h_2=>cases hT
      next hle=>
      injection hT with hT
      subst hT
      refine ⟨fun d e=>?_,fun t=>?_⟩
      · rw [hn] at e;injection e with e;subst e;exact Nat.le_of_ble_eq_true hle
      · rw [Tt.get_set,hn]
        by_cases e:t=t0
        · subst e;simp
        · rw [if_neg e,if_neg (by simpa using fun e'=>e e'.symm)]
  have hra:=hr.a
  have hrle:=hr.le
  have heap':∀m,cur.H.get m=ov s.H.get (exts s.H.get (effOf (rs++[r])) (List.range rs.length) []) m:=fun m=>by
    rw [exts_congr (E':=effOf rs) _ _ (fun j hj=>eff_old (List.mem_range.1 hj))]
    exact h.heap m
  have hnew:effOf (rs++[r]) rs.length=r.e:=effOf_eq (by simp)
  have hmono:∀(k:Nat) q,rs[k]?=some q→q.b≤r.a:=fun k q hq=>by rw [hra];exact h.top k q hq
  refine ⟨fun k q ok hq hok=>?_,fun j k rj rk hjk hj hk=>?_,fun k q hq=>?_,fun m h1 h2=>?_,?_,fun m=>?_,fun t v e=>?_,h.d,h.ds⟩
  · rcases get_cases hq with hq|⟨rfl,rfl⟩
    · exact (h.each k q ok hq hok).grow (List.getElem?_eq_some_iff.1 hq).1
    · rw [ho] at hok
      injection hok with hok
      subst hok
      refine ⟨hr.edges,fun j hj=>?_,hr.dst,hd.1,hr.le,by rw [hra];exact h.le,fun t v e=>?_,fun m ob hm=>?_,hr.run⟩
      · obtain ⟨e,he,hb,h2⟩:=hr.pmOf j hj
        have hlt:=hr.edges e he hb
        rcases h2 with rfl|⟨r',h2,h3⟩
        · exact ⟨hlt,e,he,hb, .inl rfl⟩
        · have hor:e.on<ops.size:=by have:=(Array.getElem?_eq_some_iff.1 ho).1;omega
          have h4:=((h.each e.on r' ops[e.on] h2 (Array.getElem?_eq_getElem hor)).pmOf j h3).1
          exact ⟨by omega,e,he,hb, .inr ⟨r',get_old h2,h3⟩⟩
      · rcases h.tmps t v (hr.tmps t v e) with ⟨j,rj,h1,h2⟩|⟨h1,h2⟩
        · exact .inl ⟨j,rj,(List.getElem?_eq_some_iff.1 h1).1,get_old h1,h2⟩
        · refine .inr ⟨fun j rj hj hrj=>h1 j rj ?_,h2⟩
          rcases get_cases hrj with h|⟨h,_⟩
          · exact h
          · omega
      · rw [←heap']
        exact hr.heap m ob hm
  · rcases get_cases hk with hk|⟨rfl,rfl⟩
    · rcases get_cases hj with hj|⟨rfl,_⟩
      · exact h.pair j k rj rk hjk hj hk
      · have:=(List.getElem?_eq_some_iff.1 hk).1;omega
    · rcases get_cases hj with hj|⟨rfl,_⟩
      · have:=pairsOk_ok hp j rj hj
        rw [Nat.zero_add] at this
        exact ⟨this,hmono j rj hj⟩
      · omega
  · rcases get_cases hq with hq|⟨rfl,rfl⟩
    · have:=hmono k q hq;simp only;omega
    · exact Nat.le_refl _
  · simp only at h2
    by_cases hm:m<cur.n
    · obtain ⟨k,q,h3,h4⟩:=h.all m h1 hm
      exact ⟨k,q,get_old h3,h4⟩
    · exact ⟨rs.length,r,by simp,by omega,h2⟩
  · have:=h.le;simp only;omega
  · rw [List.length_append,List.length_cons,List.length_nil,Nat.zero_add,List.range_succ,exts_append]
    change H'.get m=ov s.H.get (ext s.H.get (exts s.H.get (effOf (rs++[r])) (List.range rs.length) []) (effOf (rs++[r]) rs.length)) m
    rw [hnew]
    exact hr.out _ _ heap' m
  · simp only at e
    rw [hd.2] at e
    split at e
    · next hdst=>exact .inl ⟨rs.length,r,by simp,by rw [hr.dst];exact hdst,e⟩
    · next hdst=>
      rcases h.tmps t v e with ⟨j,rj,h1,h2⟩|⟨h1,h2⟩
      · exact .inl ⟨j,rj,get_old h1,h2⟩
      · refine .inr ⟨fun j rj hrj=>?_,h2⟩
        rcases get_cases hrj with h|⟨_,rfl⟩
        · exact h1 j rj h
        · rw [hr.dst];exact hdst
end
end
end Go.V
namespace Go.V
noncomputable section
section
variable {P:Program} {call:CallT} {sz n0:Nat} {ops:Array Oper} {s cur s':VS} {rs rs':List Rec}
theorem vrecs_ok:∀{l:List Oper} {rs:List Rec} {cur:VS},vrecs P call sz ops l rs.length rs cur=some (rs',s')→(∀j,l[j]?=ops[rs.length+j]?)→Pre P call sz ops s rs cur→Pre P call sz ops s rs' s'∧rs'.length=rs.length+l.length
  | [], rs, cur, h, hl, hp => by
    injection h with h
    injection h with h1 h2
    subst h1 h2
    exact ⟨hp,rfl⟩
  | o :: l, rs, cur, h, hl, hp => by
    rw [vrecs] at h
    split at h
    · cases h
    next r H' hr=>
    split at h
    case isFalse=>cases h
    next hpairs=>
    split at h
    · cases h
    next T' hT=>
    have ho:ops[rs.length]?=some o:=by have:=hl 0;simpa using this.symm
    have hg:=hp.grow (vrec_ok hr) ho hpairs hT
    have hlen:(rs++[r]).length=rs.length+1:=by simp
    rw [←hlen] at h
    obtain ⟨h1,h2⟩:=vrecs_ok h (fun j=>by rw [hlen];have:=hl (j+1);simpa [Nat.add_assoc,Nat.add_comm 1 j] using this) hg
    exact ⟨h1,by rw [h2,hlen,List.length_cons];omega⟩
theorem insAll_ok {H:Tr}:∀{l:List Oper} {rs:List Rec},insAll P H l rs=true→∀(k:Nat) r o,rs[k]?=some r→l[k]?=some o→insOk P H o r.e=true
  |[],rs,h,k,r,o,hr,ho=>by simp at ho
  |o::l,[],h,k,r,o',hr,ho=>by simp at hr
  | o :: l, r :: rs, h, k, r', o', hr, ho => by
    rw [insAll,Bool.and_eq_true] at h
    cases k with
    | zero =>
      simp only [List.getElem?_cons_zero,Option.some.injEq] at hr ho
      subst hr ho
      exact h.1
    |succ k=>exact insAll_ok h.2 k r' o' (by simpa using hr) (by simpa using ho)
theorem insOk_congr {H H2:Tr} {o:Oper} {e:Eff} (h:∀m,H.get m=H2.get m):insOk P H o e=insOk P H2 o e:=by
 unfold insOk
 cases e with
 |abs d=>rfl
 |ins m k v=>simp only [h]
theorem doms_dom (m : Nat) : ∀ (rs : List Rec), (lk (doms rs) m).isSome = true ↔ ∃ (k : Nat) (r : Rec), rs[k]? = some r ∧ r.e.has m = true
  |[]=>by simp [doms,lk]
  | r :: rs => by
    rw [doms,lk_append]
    have ih:=doms_dom m rs
    have h1:(lk (r.e.dom.map (·,none)) m).isSome=r.e.has m:=by
      rw [lk_dom,List.map_map]
      have:((fun x:Nat×Option Obj=>x.1)∘fun x=>(x,none))=id:=rfl
      rw [this,List.map_id]
      rfl
    constructor
    · intro h
      cases hl:lk (doms rs) m with
      | some y =>
        obtain ⟨k,q,h2,h3⟩:=ih.1 (by rw [hl];rfl)
        exact ⟨k+1,q,by simpa using h2,h3⟩
      | none =>
        rw [hl] at h
        exact ⟨0,r,rfl,by rw [←h1];exact h⟩
    · rintro ⟨k,q,h2,h3⟩
      cases hl:lk (doms rs) m with
      |some y=>rfl
      | none =>
        cases k with
        | zero =>
          simp only [List.getElem?_cons_zero,Option.some.injEq] at h2
          subst h2
          simp only
          rw [h1];exact h3
        | succ k =>
          have:=ih.2 ⟨k,q,by simpa using h2,h3⟩
          rw [hl] at this;cases this
theorem vdrawn_ok (hmix : P.follows .mixedOrders = true) (hnm : NamesOk P) (hcall : ∀ f args H n v δ n', call f args H n = some (v, δ, n') → CallOk P f args H n v δ n') : DrawnOk P sz n0 (vdrawn P call sz n0) := by
  intro ops s s2 h
  unfold vdrawn at h
  split at h
  · cases h
  next rs s' hrs=>
  split at h
  case isFalse=>cases h
  next hins=>
  split at h
  case h_2=>cases h
  next d hd=>
  injection h with h
  subst h
  have p0:Pre P call sz ops s [] s:=⟨fun k r o hr=>by simp at hr,fun j k rj rk _ hj=>by simp at hj,fun k r hr=>by simp at hr,fun m h1 h2=>by omega,Nat.le_refl _,fun m=>rfl,fun t v e=> .inr ⟨fun j rj hj=>by simp at hj,e⟩,rfl,rfl⟩
  obtain ⟨hp,hlen⟩:=vrecs_ok (rs:=[]) hrs (fun j=>by simp) p0
  have hlen:rs.length=ops.size:=by simpa using hlen
  have F:Fam P call sz ops s rs s'.n:=by
    refine ⟨hlen,hp.each,hp.pair,hp.top,hp.all,hp.le,fun k r o hr ho H hH=>?_⟩
    rw [insOk_congr (H2:=s'.H) (fun m=>by rw [hH,hp.heap,hlen])]
    exact insAll_ok hins k r o hr (by simpa using ho)
  refine ⟨hp.le,fun R0 H0 w0 N hh fr hN rb id a w Q ⟨R,δ,hA⟩ hQ=>?_⟩
  simp only at hN hQ
  have hr:=hA.hr hh fr (Nat.le_trans hp.le hN)
  refine F.region hmix hnm hcall hr ((hA.fresh fr).part (Nat.le_refl _) hN) hA.tmps rfl fun a' w' R' L hall hI=>hQ a' w' ?_
  have hdone:doneL ops.size L=List.range ops.size:=by
    unfold doneL
    rw [List.filter_eq_self]
    intro k hk
    exact hall k (List.mem_range.1 hk)
  have hpost:=hI.post
  rw [hdone] at hpost
  have hmem:∀m,s.n≤m→m<s'.n→NmL rs L m:=fun m h1 h2=>by
    obtain ⟨k,r,h3,h4⟩:=hp.all m h1 h2
    exact ⟨k,r,hall k (by rw [←hlen];exact (List.getElem?_eq_some_iff.1 h3).1),h3,h4⟩
  have hpo := hpost.toPost hp.le ((hA.fresh fr).part (Nat.le_refl _) hN) (fun m ⟨j, r, h1, h2, h3, h4⟩ => by
    have hj:=hI.lt j h1
    have h5:=(hp.each j r ops[j] h2 (Array.getElem?_eq_getElem hj)).a0
    have h6:=hp.top j r h2
    omega) (fun m h1 h2 h3 => (h3 (hmem m h1 h2)).elim)
  refine hA.step2 hh fr hN hpo ⟨hI.size,fun t v e=>hI.tmps t v ?_⟩ (by rw [hI.defers,hp.ds];exact hA.defers.mono (hpo.rle ((hA.fresh fr).part (Nat.le_refl _) hN))) (fun m=>by rw [hp.heap,hlen]) (by rw [←hp.d];rw [hp.d];exact hd) fun m=>?_
  · rcases hp.tmps t v e with ⟨j,rj,h1,h2⟩|⟨h1,h2⟩
    · exact .inl ⟨j,rj,hall j (by rw [←hlen];exact (List.getElem?_eq_some_iff.1 h1).1),h1,h2⟩
    · exact .inr ⟨fun j rj _ hj=>h1 j rj hj,h2⟩
  · rw [Bool.eq_iff_iff,doms_dom,exts_dom]
    constructor
    · rintro ⟨k,r,h1,h2⟩
      exact .inr ⟨k,List.mem_range.2 (by rw [←hlen];exact (List.getElem?_eq_some_iff.1 h1).1),by rw [effOf_eq h1];exact h2⟩
    · rintro (h|⟨k,h1,h2⟩)
      · cases h
      · have hk:k<rs.length:=by rw [hlen];exact List.mem_range.1 h1
        exact ⟨k,rs[k],List.getElem?_eq_getElem hk,by rw [←effOf_eq (List.getElem?_eq_getElem hk)];exact h2⟩
theorem run_ok (hmix:P.follows .mixedOrders=true) (hnm:NamesOk P) {f:Nat} {g:FuncId} {args:List Value} {H:Tr} {n:Nat} {v:Value} {δ:Delta} {n':Nat} (h:vcall P (vdrawn P) f g args H n=some (v,δ,n')):CallOk P g args H n v δ n':=
 vcall_ok hnm (vdrawn P) (fun call hcall sz n0=>vdrawn_ok hmix hnm hcall) f g args H n v δ n' h
end
end
end Go.V
namespace Go.V
noncomputable section
def ends (b:Bool):Option (Value×Delta×Nat)→Bool
 |some (.bool c,[],_)=>c==b
 |_=>false
theorem closedH {P:Program} {f:Nat} {g:FuncId} {b:Bool} {H:Tr} (hmix:P.follows .mixedOrders=true) (hnm:NamesOk P) (hg:g<P.funcs.size) (h:ends b (vcall P (vdrawn P) f g [] H P.globals.size)=true) (w:World) {R:Ren} (hR:HR P R H.get w)
  (hn:∀m,P.globals.size≤m→R m=none∧H.get m=none):
  Calls P g #[] w fun e w'=>e= .returned (.bool b)∧w'.os=w.os∧w'.tape=w.tape∧w'.output=w.output∧w.heap.size≤w'.heap.size∧∀k,k<w.heap.size→w'.heap[k]?=w.heap[k]?:=by
 unfold ends at h
 split at h
 case h_2=>cases h
 next c n' hv=>
 have hc:c=b:=by simpa using h
 subst hc
 have hok:=(run_ok hmix hnm hv R w #[] hR ⟨Nat.le_refl _,fun m h1 h2=>hn m h1⟩ .nil).1 hg
 refine Calls.mono (CallsIn.calls hok (fun k d h=>by cases h)) ?_
 intro e w' hc
 unfold CPost at hc
 simp only [panOf] at hc
 obtain ⟨u,R',rfl,hu,p⟩:=hc
 have:=plain_eq hu rfl
 subst this
 exact ⟨rfl,p.os,p.tape,p.output,p.size,fun k hk=>p.frame k hk fun y d h1 h2=>by cases h1⟩
theorem closed {P:Program} {f:Nat} {g:FuncId} {b:Bool} (hmix:P.follows .mixedOrders=true) (hnm:NamesOk P) (hg:g<P.funcs.size) (h:ends b (vcall P (vdrawn P) f g [] .leaf P.globals.size)=true) (w:World):
  Calls P g #[] w fun e w'=>e= .returned (.bool b)∧w'.os=w.os∧w'.tape=w.tape∧w'.output=w.output∧w.heap.size≤w'.heap.size∧∀k,k<w.heap.size→w'.heap[k]?=w.heap[k]?:=by
 have hR:HR P (fun m=>if m<P.globals.size then some (m,0,0) else none) Tr.leaf.get w:=by
  refine ⟨fun m hm=>⟨0,by simp [hm]⟩,(fun m o e=>by cases e),fun m k b d e h=>by cases h⟩
 exact closedH hmix hnm hg h w hR fun m hm=>⟨by simp [show¬m<P.globals.size by omega],rfl⟩
theorem namesOk_of {P : Program} (h : P.funcs.toList.all (fun fn => !(fn.name == "runtime.NumGoroutine")) = true) : NamesOk P := fun f fn e => by
  have:=List.all_eq_true.1 h fn (Array.mem_toList_iff.2 (Array.mem_of_getElem? e))
  simpa using this
end
end Go.V
namespace Go.V
noncomputable section
def flat:Code→List Code
 | .seq a b=>flat a++flat b
 |c=>[c]
def wpL (F:Fence) (P:Program):List Code→(Exit→Act→World→Prop)→Act→World→Prop
 |[],Q,a,w=>Q .normal a w
 |c::cs,Q,a,w=>c.wpIn F 0 P (Exit.then (wpL F P cs Q) Q) a w
theorem wpL_append {F:Fence} {P:Program} {Q:Exit→Act→World→Prop}:∀(x y:List Code) (a:Act) (w:World),wpL F P (x++y) Q a w→wpL F P x (Exit.then (wpL F P y Q) Q) a w
  |[],y,a,w,h=>h
  | c :: x, y, a, w, h => by
    refine wpIn_mono h fun e a w hq=>?_
    cases e with
    |normal=>exact wpL_append x y a w hq
    |_=>exact hq
theorem wpL_flat {F:Fence} {P:Program}:∀(c:Code) (Q:Exit→Act→World→Prop) (a:Act) (w:World),wpL F P (flat c) Q a w→c.wpIn F 0 P Q a w
  | .seq x y, Q, a, w, h => by
    refine wpIn_seq ?_
    refine wpIn_mono (wpL_flat x _ a w (wpL_append _ _ a w h)) fun e a w hq=>?_
    cases e with
    |normal=>exact wpL_flat y Q a w hq
    |_=>exact hq
  | .skip,Q,a,w,h=>wpIn_mono h fun e a w hq=>by cases e<;>exact hq
  | .region ..,Q,a,w,h=>wpIn_mono h fun e a w hq=>by cases e<;>exact hq
  | .cond ..,Q,a,w,h=>wpIn_mono h fun e a w hq=>by cases e<;>exact hq
  | .block ..,Q,a,w,h=>wpIn_mono h fun e a w hq=>by cases e<;>exact hq
  | .loop ..,Q,a,w,h=>wpIn_mono h fun e a w hq=>by cases e<;>exact hq
  | .rangeFunc ..,Q,a,w,h=>wpIn_mono h fun e a w hq=>by cases e<;>exact hq
  | .exit ..,Q,a,w,h=>wpIn_mono h fun e a w hq=>by cases e<;>exact hq
  | .scope ..,Q,a,w,h=>wpIn_mono h fun e a w hq=>by cases e<;>exact hq
  | .label ..,Q,a,w,h=>wpIn_mono h fun e a w hq=>by cases e<;>exact hq
  | .goto ..,Q,a,w,h=>wpIn_mono h fun e a w hq=>by cases e<;>exact hq
  | .ret,Q,a,w,h=>wpIn_mono h fun e a w hq=>by cases e<;>exact hq
  | .refuse ..,Q,a,w,h=>wpIn_mono h fun e a w hq=>by cases e<;>exact hq
def vl (P : Program) (f sz n0 : Nat) : List Code → VS → Option (VE × VS)
  |[],s=>some (.normal,s)
  | c :: cs, s => match vcode P (vcall P (vdrawn P) f) sz n0 none (vdrawn P (vcall P (vdrawn P) f) sz n0) 100000 c s with
    |some (.normal,s)=>vl P f sz n0 cs s
    |r=>r
def pruneT (T:Tt):List Nat→Tt→Tt
 |[],A=>A
 |t::ts,A=>pruneT T ts (A.set t (T.get t))
def pruneH (n0 : Nat) (H : Tr) : List Nat → Tr → Option Tr
  |[],A=>some A
  | m :: ms, A => match Nat.ble n0 m with
    |true=>pruneH n0 H ms (A.set m (H.get m))
    |false=>none
def prune2 (T:Tt) (n:Nat):Option Tr→Option VS
 |some H=>some ⟨T,H,n,[],[]⟩
 |none=>none
def prune (n0:Nat) (H0:Tr) (ts ms:List Nat):Option (VE×VS)→Option VS
 |some (.normal,⟨T,H,n,[],[]⟩)=>prune2 (pruneT T ts .leaf) n (pruneH n0 H ms H0)
 |_=>none
section
variable {P:Program} {R0:Ren} {n0:Nat} {H0:Tr} {w0:World} {sz f:Nat}
def LOk (P:Program) (R0:Ren) (n0:Nat) (H0:Tr) (w0:World) (sz:Nat) (cs:List Code) (s:VS) (e:VE) (s':VS):Prop:=s.n≤s'.n∧∀N,Fr P R0 H0.get n0 N→s'.n≤N→∀a w,At P R0 n0 H0 w0 sz s a w→wpL (FW P none) P cs (COk P R0 n0 H0 w0 sz e s') a w
theorem vl_ok (hmix:P.follows .mixedOrders=true) (hnm:NamesOk P) (hh:HR P R0 H0.get w0):∀(cs:List Code) (s:VS) (e:VE) (s':VS),vl P f sz n0 cs s=some (e,s')→LOk P R0 n0 H0 w0 sz cs s e s'
  | [], s, e, s', h => by
    injection h with h;injection h with h1 h2;subst h1 h2
    exact ⟨Nat.le_refl _,fun N fr hN a w hA=>⟨rfl,hA⟩⟩
  | c :: cs, s, e, s', h => by
    rw [vl] at h
    have hcall:∀g args H n v δ n',vcall P (vdrawn P) f g args H n=some (v,δ,n')→CallOk P g args H n v δ n':=fun g args H n v δ n' h=>run_ok hmix hnm h
    have hv:=vcode_ok (rb:=none) hnm hcall (vdrawn_ok (sz:=sz) (n0:=n0) hmix hnm hcall) hh (.inl ⟨rfl,rfl⟩) 100000 c s
    split at h
    · next s1 hs=>
      obtain ⟨h1,h2⟩:=hv _ _ hs
      obtain ⟨h3,h4⟩:=vl_ok hmix hnm hh cs s1 e s' h
      refine ⟨Nat.le_trans h1 h3,fun N fr hN a w hA=>wpIn_mono (h2 N fr (Nat.le_trans h3 hN) a w hA).1 ?_⟩
      rintro e' a' w' ⟨rfl,hA'⟩
      exact h4 N fr hN a' w' hA'
    · next hne=>
      obtain ⟨h1,h2⟩:=hv _ _ h
      refine ⟨h1,fun N fr hN a w hA=>wpIn_mono (h2 N fr hN a w hA).1 fun e' a' w' hc=>hc.thenQ (fun e2=>by subst e2;exact hne _ h)⟩
theorem pruneT_get {T:Tt}:∀(ts:List Nat) (A:Tt) (t:Nat) (v:Value),(pruneT T ts A).get t=some v→A.get t=some v∨T.get t=some v
  |[],A,t,v,h=> .inl h
  | q :: ts, A, t, v, h => by
    rcases pruneT_get ts _ t v h with h|h
    · rw [Tt.get_set] at h
      split at h
      · next e=>subst e;exact .inr h
      · exact .inl h
    · exact .inr h
theorem pruneH_get {H : Tr} : ∀ (ms : List Nat) (A A' : Tr), pruneH n0 H ms A = some A' → (∀ m ∈ ms, n0 ≤ m) ∧ ∀ m, A'.get m = if m ∈ ms then H.get m else A.get m
  | [], A, A', h => by
    injection h with h;subst h
    exact ⟨(fun m h=>by cases h),fun m=>by simp⟩
  | q :: ms, A, A', h => by
    rw [pruneH] at h
    split at h
    case h_2=>cases h
    next hq=>
    obtain ⟨h1,h2⟩:=pruneH_get ms _ A' h
    refine ⟨fun m hm=>?_,fun m=>?_⟩
    · rcases List.mem_cons.1 hm with rfl|hm
      · exact Nat.le_of_ble_eq_true hq
      · exact h1 m hm
    · rw [h2,Tr.get_set]
      by_cases hm:m∈ms
      · simp [hm]
      · by_cases hmq:m=q
        · subst hmq;simp
        · simp [hm,hmq]
theorem prune_ok {cs : List Code} {s s' : VS} {ts ms : List Nat} {r : Option (VE × VS)} (h : prune n0 H0 ts ms r = some s') (hr : ∀ e s1, r = some (e, s1) → LOk P R0 n0 H0 w0 sz cs s e s1) : LOk P R0 n0 H0 w0 sz cs s .normal s' := by
  unfold prune at h
  split at h
  case h_2=>cases h
  next T H n=>
  obtain ⟨h1,h2⟩:=hr _ _ rfl
  cases hp:pruneH n0 H ms H0 with
  |none=>rw [hp] at h;cases h
  | some H' =>
    rw [hp] at h
    injection h with h
    subst h
    obtain ⟨h3,h4⟩:=pruneH_get ms _ _ hp
    refine ⟨h1,fun N fr hN a w hA=>?_⟩
    have mono:∀(cs:List Code) (a:Act) (w:World) (Q Q':Exit→Act→World→Prop),(∀e a w,Q e a w→Q' e a w)→wpL (FW P none) P cs Q a w→wpL (FW P none) P cs Q' a w:=by
      intro cs
      induction cs with
      |nil=>intro a w Q Q' hq h;exact hq _ _ _ h
      | cons c cs ih =>
        intro a w Q Q' hq h
        refine wpIn_mono h fun e a w hx=>?_
        cases e with
        |normal=>exact ih a w Q Q' hq hx
        |_=>exact hq _ _ _ hx
    refine mono cs a w _ _ ?_ (h2 N fr hN a w hA)
    rintro e a w ⟨rfl,R,δ,hA⟩
    refine ⟨rfl,R,(ms.filter fun m=>(lk δ m).isSome).map fun m=>(m,H.get m),?_⟩
    simp only at hN
    have fr':=fr.part (Nat.le_refl n0) hN
    have hnew:∀m,(lk δ m).isSome→n0≤m∧m<n:=fun m hm=>by
      rcases hA.all m hm with h|h
      · cases h
      · exact h
    have hlk:∀(l:List Nat) (m:Nat),lk (l.map fun m=>(m,H.get m)) m=if m∈l then some (H.get m) else none:=by
      intro l m
      induction l with
      |nil=>rfl
      | cons q l ih =>
        rw [List.map_cons,lk,ih]
        by_cases h:m∈l
        · rw [if_pos h,if_pos (List.mem_cons_of_mem _ h)]
        · rw [if_neg h]
          by_cases h2:m=q
          · subst h2;simp
          · simp [h,h2]
    have hH:∀m,H.get m=ov H0.get δ m:=hA.heap
    have hov:∀m,H'.get m=ov H0.get ((ms.filter fun m=>(lk δ m).isSome).map fun m=>(m,H.get m)) m:=fun m=>by
      rw [h4]
      unfold ov
      rw [hlk]
      by_cases hm:m∈ms
      · by_cases hl:(lk δ m).isSome=true
        · simp [hm,hl]
        · have hn:lk δ m=none:=by cases hx:lk δ m with
            |none=>rfl
            |some _=>rw [hx] at hl;exact (hl rfl).elim
          have:=hH m
          unfold ov at this
          rw [hn] at this
          simp [hm,hl,this]
      · simp [hm]
    refine ⟨hA.post.less (fun m x e=>?_) (fun m hm hn=>(hn (hnew m hm)).elim) fr',hov,⟨hA.tmps.1,fun t v e=>?_⟩,hA.defers,(fun m h=>by cases h),fun m hm=>?_⟩
    · rw [hlk] at e
      split at e
      · next hm=>
        injection e with e
        rw [←e,hH]
        have:=(List.mem_filter.1 hm).2
        unfold ov
        cases hx:lk δ m with
        |none=>simp [hx] at this
        |some y=>rfl
      · cases e
    · rcases pruneT_get ts _ t v e with h|h
      · cases h
      · exact hA.tmps.2 t v h
    · rw [hlk] at hm
      split at hm
      · next h=>exact .inr (hnew m (List.mem_filter.1 h).2)
      · cases hm
theorem LOk.append {x y:List Code} {s s1 s':VS} {e:VE} (h:LOk P R0 n0 H0 w0 sz x s .normal s1) (k:LOk P R0 n0 H0 w0 sz y s1 e s'):LOk P R0 n0 H0 w0 sz (x++y) s e s':=by
  refine ⟨Nat.le_trans h.1 k.1,fun N fr hN a w hA=>?_⟩
  have app:∀(x:List Code) (a:Act) (w:World),wpL (FW P none) P x (COk P R0 n0 H0 w0 sz .normal s1) a w→wpL (FW P none) P (x++y) (COk P R0 n0 H0 w0 sz e s') a w:=by
    intro x
    induction x with
    |nil=>rintro a w ⟨_,hA⟩;exact k.2 N fr hN a w hA
    | cons c x ih =>
      intro a w h
      refine wpIn_mono h fun e' a w hx=>?_
      cases e' with
      |normal=>exact ih a w hx
      |exit i=>exact absurd hx.1 (by simp)
      |goto l=>exact absurd hx.1 (by simp)
      |ret=>exact absurd hx.1 (by simp)
      |panic ch=>exact absurd hx.1 (by simp)
      |outgrown=>exact absurd hx.1 (by simp)
  exact app x a w (h.2 N fr (Nat.le_trans k.1 hN) a w hA)
end
def codesOf (P : Program) (g : FuncId) : List Code := match P.funcs[g]? with
  | some fn => match fn.body with
    |some c=>flat c
    |none=>[]
  |none=>[]
def szOf (P:Program) (g:FuncId):Nat:=match P.funcs[g]? with
 |some fn=>fn.ntmps
 |none=>0
def bodied (P:Program) (g:FuncId):Bool:=match P.funcs[g]? with
 |some fn=>fn.body.isSome
 |none=>false
def endOf (P:Program) (f n0:Nat) (g:FuncId) (r:Option (VE×VS)):Option (Value×Delta×Nat):=match P.funcs[g]? with
 |some fn=>vout P fn n0 (vdefer P (vcall P (vdrawn P) f) (vdrawn P)) r
 |none=>none
theorem last_ok {P:Program} {R0:Ren} {n0:Nat} {H0:Tr} {w0:World} {sz f:Nat} {g:FuncId} {b:Bool} {cs:List Code} {s:VS} (hmix:P.follows .mixedOrders=true) (hnm:NamesOk P) (h:ends b (endOf P f n0 g (vl P f sz n0 cs s))=true) (hh:HR P R0 H0.get w0):
    ∃e s',LOk P R0 n0 H0 w0 sz cs s e s'∧ends b (endOf P f n0 g (some (e,s')))=true:=by
  cases hv:vl P f sz n0 cs s with
  | none =>
    rw [hv] at h
    unfold endOf at h
    split at h
    · cases h
    · cases h
  | some r =>
    obtain ⟨e,s'⟩:=r
    exact ⟨e,s',vl_ok hmix hnm hh cs s e s' hv,by rw [←hv];exact h⟩
theorem part_ok {P:Program} {R0:Ren} {n0:Nat} {H0:Tr} {w0:World} {sz f:Nat} {cs:List Code} {s s':VS} {ts ms:List Nat} (hmix:P.follows .mixedOrders=true) (hnm:NamesOk P) (h:prune n0 H0 ts ms (vl P f sz n0 cs s)=some s') (hh:HR P R0 H0.get w0):LOk P R0 n0 H0 w0 sz cs s .normal s':=
 prune_ok h fun e s1 hv=>vl_ok hmix hnm hh cs s e s1 hv
theorem part_then {P:Program} {R0:Ren} {n0:Nat} {H0:Tr} {w0:World} {sz f:Nat} {g:FuncId} {b:Bool} {cs:List Code} {k:Nat} {s s1:VS} {ts ms:List Nat} (hmix:P.follows .mixedOrders=true) (hnm:NamesOk P) (hh:HR P R0 H0.get w0) (h:prune n0 H0 ts ms (vl P f sz n0 (cs.take k) s)=some s1)
  (hrest:∃e s',LOk P R0 n0 H0 w0 sz (cs.drop k) s1 e s'∧ends b (endOf P f n0 g (some (e,s')))=true):∃e s',LOk P R0 n0 H0 w0 sz cs s e s'∧ends b (endOf P f n0 g (some (e,s')))=true:=by
 obtain ⟨e,s',h1,h2⟩:=hrest
 refine ⟨e,s',?_,h2⟩
 have:=(part_ok hmix hnm h hh).append h1
 rwa [List.take_append_drop] at this
theorem closedL {P:Program} {f sz n0:Nat} {g:FuncId} {b:Bool} {H:Tr} (hn0:P.globals.size=n0) (hmix:P.follows .mixedOrders=true) (hnm:NamesOk P) (hb:bodied P g=true) (hsz:szOf P g=sz)
  (h:∀(R0:Ren) (w0:World),HR P R0 H.get w0→∃e s,LOk P R0 n0 H w0 sz (codesOf P g) ⟨.leaf,H,n0,[],[]⟩ e s∧ends b (endOf P f n0 g (some (e,s)))=true) (w:World) {R:Ren} (hR:HR P R H.get w)
  (hn:∀m,P.globals.size≤m→R m=none∧H.get m=none):
  Calls P g #[] w fun e w'=>e= .returned (.bool b)∧w'.os=w.os∧w'.tape=w.tape∧w'.output=w.output∧w.heap.size≤w'.heap.size∧∀k,k<w.heap.size→w'.heap[k]?=w.heap[k]?:=by
 subst hn0
 obtain ⟨e,s,hL,he⟩:=h R w hR
 unfold bodied at hb
 split at hb
 case h_2=>cases hb
 next fn hfn=>
 obtain ⟨c,hc⟩:=Option.isSome_iff_exists.1 hb
 have hcodes:codesOf P g=flat c:=by unfold codesOf;rw [hfn];simp only [hc]
 have hs2:fn.ntmps=sz:=by unfold szOf at hsz;rw [hfn] at hsz;exact hsz
 unfold endOf at he
 rw [hfn] at he
 simp only at he
 unfold ends at he
 split at he
 case h_2=>cases he
 next c2 n' hv=>
 have hcb:c2=b:=by simpa using he
 subst hcb
 have hcall:∀g args H n v δ n',vcall P (vdrawn P) f g args H n=some (v,δ,n')→CallOk P g args H n v δ n':=fun g args H n v δ n' h=>run_ok hmix hnm h
 have hdc:DcOk P (vdefer P (vcall P (vdrawn P) f) (vdrawn P)):=vdefer_ok hnm (vdrawn P) (fun call hcall sz n0=>vdrawn_ok hmix hnm hcall) hcall
 obtain ⟨e2,s2,hs,hle,hw⟩:=vout_ok (sz:=sz) hnm hdc hR hv
 injection hs with hs
 injection hs with h1 h2
 subst h1 h2
 have fr:Fr P R H.get P.globals.size n':=⟨Nat.le_refl _,fun m h1 h2=>hn m h1⟩
 have hwp := wpL_flat c _ { tmps := #[] ++ Array.replicate (fn.ntmps - 0) undef, defers := [] } w (by
  rw [←hcodes]
  refine hL.2 n' fr hle _ w ⟨R, [], Post.skip R _ _ w, fun m => rfl, ⟨by simp [hs2], fun t v e => by cases e⟩, .nil, (fun m h => by cases h), (fun m h => by cases h)⟩)
 have hg:g<P.funcs.size:=(Array.getElem?_eq_some_iff.1 hfn).1
 have hci:=callsIn_of_wp_marks (F:=FW P none) (n:=0) (args:=#[]) hfn hc hg (hw c _ w fr hwp)
 refine Calls.mono (CallsIn.calls hci (fun k d h=>by cases h)) ?_
 intro e w' hc
 unfold CPost at hc
 simp only [panOf] at hc
 obtain ⟨u,R',rfl,hu,p⟩:=hc
 have:=plain_eq hu rfl
 subst this
 exact ⟨rfl,p.os,p.tape,p.output,p.size,fun k hk=>p.frame k hk fun y d h1 h2=>by cases h1⟩
end
end Go.V
namespace Go.V
noncomputable section
mutual
def und (P : Program) : Nat → TypeId → DataW Unit → Option (List Value)
  |0,_,_=>none
  | f + 1, t, .lit (.bool b) => match P.underlying t with
    |some .bool=>some [.bool b]
    |_=>none
  | f + 1, t, .lit (.int k n) => match P.underlying t with
    |some (.int k')=>if k=k' then some [.int k n] else none
    |_=>none
  | f + 1, t, .lit (.string s) => match P.underlying t with
    |some .string=>some [.string ⟨s.toArray⟩]
    |_=>none
  | f + 1, t, .agg ds => match P.underlying t with
    | some (.struct fs) => match undF P f 0 fs.toList ds with
      |some vs=>if vs.length=P.cellsOf t then some vs else none
      |none=>none
    | some (.array n e) => match undA P f e ds with
      |some vs=>if vs.length=P.cellsOf t∧ds.length=n then some vs else none
      |none=>none
    |_=>none
  |_+1,_,_=>none
def undF (P : Program) (f : Nat) (off : Nat) : List Field → List (DataW Unit) → Option (List Value)
  |[],[]=>some []
  | F :: fs, d :: ds => if F.offset = off then match und P f F.type d with
    | some vs => if vs.length = P.cellsOf F.type then match undF P f (off + vs.length) fs ds with
      |some ws=>some (vs++ws)
      |none=>none
      else none
    |none=>none
    else none
  |_,_=>none
def undA (P : Program) (f : Nat) (e : TypeId) : List (DataW Unit) → Option (List Value)
  |[]=>some []
  | d :: ds => match und P f e d with
    | some vs => if vs.length = P.cellsOf e then match undA P f e ds with
      |some ws=>some (vs++ws)
      |none=>none
      else none
    |none=>none
end
theorem take_drop_split {cs vs ws:List Value} {off k:Nat} (h1:(cs.drop off).take k=vs) (h2:cs.drop (off+k)=ws):cs.drop off=vs++ws:=by
 rw [←h1,←h2,←List.drop_drop,List.take_append_drop]
section
variable {P:Program} {w:World} {base:Nat} {sp:Nat→Bool} {held:Bool} {enc:TypeId×Value→Unit}
theorem undF_ok {f:Nat} (ih:∀t D vs fuel cs x,und P f t D=some vs→DataW.trod enc P w base sp held fuel t cs=some x→x.1=D→cs=vs) {fuel:Nat} {cs:List Value}:∀(fs:List Field) (ds:List (DataW Unit)) (xs:List (DataW Unit×List MemPlace)) (off:Nat) (vs:List Value),
    undF P f off fs ds=some vs→xs.map (·.1)=ds→(∀(i:Nat) (F:Field),fs[i]?=some F→DataW.trod enc P w base sp held fuel F.type ((cs.drop F.offset).take (P.cellsOf F.type))=xs[i]?)→off+vs.length=cs.length→cs.drop off=vs
  | [], [], xs, off, vs, h, hx, hf, hl => by
    rw [undF] at h
    injection h with h
    subst h
    simp only [List.length_nil,Nat.add_zero] at hl
    rw [hl,List.drop_length]
  |[],_::_,xs,off,vs,h,hx,hf,hl=>by rw [undF.eq_def] at h;cases h
  |_::_,[],xs,off,vs,h,hx,hf,hl=>by rw [undF.eq_def] at h;cases h
  | F :: fs, d :: ds, xs, off, vs, h, hx, hf, hl => by
    rw [undF] at h
    split at h
    case isFalse=>cases h
    next hoff=>
    split at h
    case h_2=>cases h
    next us hus=>
    split at h
    case isFalse=>cases h
    next hul=>
    split at h
    case h_2=>cases h
    next ws hws=>
    injection h with h
    subst h
    cases xs with
    |nil=>cases hx
    | cons x xs =>
      simp only [List.map_cons,List.cons.injEq] at hx
      have h0:=hf 0 F rfl
      simp only [List.getElem?_cons_zero] at h0
      have h1:=ih F.type d us fuel _ x hus h0 hx.1
      rw [hoff] at h1
      have h2:=undF_ok ih fs ds xs (off+us.length) ws hws hx.2 (fun i G hG=>by have:=hf (i+1) G (by simpa using hG);simpa using this) (by rw [List.length_append] at hl;omega)
      exact take_drop_split h1 (by rw [←hul];exact h2)
theorem undA_ok {f:Nat} (ih:∀t D vs fuel cs x,und P f t D=some vs→DataW.trod enc P w base sp held fuel t cs=some x→x.1=D→cs=vs) {fuel:Nat} {e:TypeId} {cs:List Value}:∀(ds:List (DataW Unit)) (xs:List (DataW Unit×List MemPlace)) (k:Nat) (vs:List Value),
    undA P f e ds=some vs→xs.map (·.1)=ds→(∀(i:Nat),i<ds.length→DataW.trod enc P w base sp held fuel e ((cs.drop ((k+i)*P.cellsOf e)).take (P.cellsOf e))=xs[i]?)→k*P.cellsOf e+vs.length=cs.length→cs.drop (k*P.cellsOf e)=vs
  | [], xs, k, vs, h, hx, hf, hl => by
    rw [undA] at h
    injection h with h
    subst h
    simp only [List.length_nil,Nat.add_zero] at hl
    rw [hl,List.drop_length]
  | d :: ds, xs, k, vs, h, hx, hf, hl => by
    rw [undA] at h
    split at h
    case h_2=>cases h
    next us hus=>
    split at h
    case isFalse=>cases h
    next hul=>
    split at h
    case h_2=>cases h
    next ws hws=>
    injection h with h
    subst h
    cases xs with
    |nil=>cases hx
    | cons x xs =>
      simp only [List.map_cons,List.cons.injEq] at hx
      have h0:=hf 0 (by simp)
      simp only [List.getElem?_cons_zero,Nat.add_zero] at h0
      have h1:=ih e d us fuel _ x hus h0 hx.1
      have hk:(k+1)*P.cellsOf e=k*P.cellsOf e+P.cellsOf e:=by rw [Nat.add_mul,Nat.one_mul]
      have h2:=undA_ok ih ds xs (k+1) ws hws hx.2 (fun i hi=>by have:=hf (i+1) (by simpa using hi);simp only [List.getElem?_cons_succ] at this;rw [←this,show k+(i+1)=k+1+i by omega]) (by rw [List.length_append] at hl;rw [hk];omega)
      rw [hk] at h2
      exact take_drop_split h1 h2
theorem und_ok : ∀ (f : Nat) (t : TypeId) (D : DataW Unit) (vs : List Value) (fuel : Nat) (cs : List Value) (x : DataW Unit × List MemPlace), und P f t D = some vs → DataW.trod enc P w base sp held fuel t cs = some x → x.1 = D → cs = vs := by
  intro f
  induction f with
  |zero=>intro t D vs fuel cs x h;rw [und] at h;cases h
  | succ f ih =>
    intro t D vs fuel cs x h ht hx
    cases D with
    | lit l =>
      cases l with
      | bool b =>
        rw [und] at h
        split at h
        · next hu=>
          injection h with h
          subst h
          obtain ⟨b',h1,h2⟩:=DataW.trod_bool hu ht
          subst h2
          injection hx with hx
          injection hx with hx
          subst hx
          exact h1
        · cases h
      | int k n =>
        rw [und] at h
        split at h
        · next k' hu=>
          split at h
          · next hk=>
            injection h with h
            subst h hk
            obtain ⟨n',h1,h2,_⟩:=DataW.trod_int hu ht
            subst h2
            injection hx with hx
            injection hx with _ hx
            subst hx
            exact h1
          · cases h
        · cases h
      | string s =>
        rw [und] at h
        split at h
        · next hu=>
          injection h with h
          subst h
          obtain ⟨s',h1,h2,_⟩:=DataW.trod_string hu ht
          subst h2
          injection hx with hx
          injection hx with hx
          subst hx
          rw [h1]
        · cases h
      |_=>rw [und] at h;cases h;all_goals simp
    | agg ds =>
      rw [und] at h
      split at h
      · next fs hu=>
        split at h
        case h_2=>cases h
        next us hus=>
        split at h
        case isFalse=>cases h
        next hl=>
        injection h with h
        subst h
        obtain ⟨xs,m,_,h2,h3,_,h5⟩:=DataW.trod_struct hu ht
        subst h2
        injection hx with hx
        have:=undF_ok ih fs.toList ds xs 0 us hus hx (fun i F hF=>h5 i F (by simpa using hF)) (by omega)
        simpa using this
      · next n e hu=>
        split at h
        case h_2=>cases h
        next us hus=>
        split at h
        case isFalse=>cases h
        next hl=>
        injection h with h
        subst h
        obtain ⟨xs,m,_,h2,h3,_,h5⟩:=DataW.trod_array hu ht
        subst h2
        injection hx with hx
        have:=undA_ok ih ds xs 0 us hus hx (fun i hi=>by rw [Nat.zero_add];exact h5 i (by omega)) (by omega)
        simpa using this
      · cases h
    |_=>rw [und] at h;cases h;all_goals simp
theorem laid_at {n : String} {D : DataW Unit} : ∀ {laid : List (String × DataW Unit)} {ps : List MemPlace}, DataW.LaidVars P w laid ps → (n, D) ∈ laid → ∀ {g : Nat} {t : TypeId} {f : Nat} {vs : List Value}, P.globalNamed n = some g → (P.globals[g]?).map (·.type) = some t → und P f t D = some vs → ∃ t fz, w.heap[g]? = some (.cells ⟨vs⟩ t fz)
  |[],ps,h,hm,g,t,f,vs,hg,ht,hu=>by cases hm
  | (n', D') :: r, ps, h, hm, g, t, f, vs, hg, ht, hu => by
    obtain ⟨g',t',cs,fuel,p,q,hg',ht',hvar,hd,hr,e⟩:=h
    rcases List.mem_cons.1 hm with hm|hm
    · injection hm with h1 h2
      subst h1 h2
      rw [hg] at hg'
      injection hg' with hg'
      subst hg'
      rw [ht] at ht'
      injection ht' with ht'
      subst ht'
      have hcs:=und_ok _ _ _ _ _ _ _ hu hd rfl
      unfold World.var? at hvar
      rw [hg] at hvar
      simp only [Option.bind_some] at hvar
      split at hvar
      · next c t2 fz hc=>
        injection hvar with hvar
        subst hvar
        refine ⟨t2,fz,?_⟩
        rw [hc,←hcs]
      · cases hvar
    · exact laid_at hr hm hg ht hu
def undG (P:Program) (g:Nat) (D:DataW Unit):Option (List Value):=match (P.globals[g]?).map (·.type) with
 |some t=>und P 20 t D
 |none=>none
theorem laid_atG {n:String} {D:DataW Unit} {laid:List (String×DataW Unit)} {ps:List MemPlace} (h:DataW.LaidVars P w laid ps) (hm:(n,D)∈laid) {g:Nat} {vs:List Value} (hg:P.globalNamed n=some g) (hu:undG P g D=some vs):∃t fz,w.heap[g]?=some (.cells ⟨vs⟩ t fz):=by
 unfold undG at hu
 split at hu
 ·next t ht=>exact laid_at h hm hg ht hu
 ·cases hu
end
def ofList (l:List (Nat×List Value)):Tr:=l.foldl (fun t p=>t.set p.1 (some (.cells ⟨p.2⟩ 0 (0,1)))) .leaf
theorem foldl_get:∀(l:List (Nat×List Value)) (t:Tr) (m:Nat) (o:Obj),(l.foldl (fun t p=>t.set p.1 (some (.cells ⟨p.2⟩ 0 (0,1)))) t).get m=some o→t.get m=some o∨∃p∈l,p.1=m∧o= .cells ⟨p.2⟩ 0 (0,1)
  |[],t,m,o,h=> .inl h
  | p :: l, t, m, o, h => by
    rcases foldl_get l _ m o h with h|⟨q,h1,h2⟩
    · rw [Tr.get_set] at h
      split at h
      · next e=>injection h with h;exact .inr ⟨p,List.mem_cons_self,e.symm,h.symm⟩
      · exact .inl h
    · exact .inr ⟨q,List.mem_cons_of_mem _ h1,h2⟩
theorem ofList_get {l:List (Nat×List Value)} {m:Nat} {o:Obj} (h:(ofList l).get m=some o):∃p∈l,p.1=m∧o= .cells ⟨p.2⟩ 0 (0,1):=by
 rcases foldl_get l _ m o h with h|h
 ·cases h
 ·exact h
def Laid (l:List (Nat×List Value)) (w:World):Prop:=∀p∈l,∃t fz,w.heap[p.1]?=some (.cells ⟨p.2⟩ t fz)
theorem Laid.later {l:List (Nat×List Value)} {w w':World} (h:Laid l w) (hb:∀k,k<w.heap.size→w'.heap[k]?=w.heap[k]?):Laid l w':=fun p hp=>by
 obtain ⟨t,fz,e⟩:=h p hp
 exact ⟨t,fz,by rw [hb _ (Array.getElem?_eq_some_iff.1 e).1];exact e⟩
def gRen (P:Program):Ren:=fun m=>if m<P.globals.size then some (m,0,0) else none
def laidOk (P:Program) (l:List (Nat×List Value)):Bool:=l.all fun p=>Nat.ble (p.1+1) P.globals.size&&plainVs p.2
theorem laid_hr {P : Program} {l : List (Nat × List Value)} {w : World} {H : Tr} (hH : H = ofList l) (hl : laidOk P l = true) (h : Laid l w) : HR P (gRen P) H.get w ∧ ∀ m, P.globals.size ≤ m → gRen P m = none ∧ H.get m = none := by
  subst hH
  have hlt:∀p∈l,p.1<P.globals.size∧plainVs p.2=true:=fun p hp=>by
    have:=List.all_eq_true.1 hl p hp
    simp only [Bool.and_eq_true] at this
    exact ⟨Nat.le_of_ble_eq_true this.1,this.2⟩
  refine ⟨⟨fun g hg=>⟨0,by simp [gRen,hg]⟩,fun m o e=>?_,fun m k b d e hm hk r1 r2=>?_⟩,fun m hm=>⟨by simp [gRen,show¬m<P.globals.size by omega],?_⟩⟩
  · obtain ⟨p,hp,rfl,rfl⟩:=ofList_get e
    obtain ⟨t,fz,he⟩:=h p hp
    refine ⟨p.1,(0,0),_,by simp [gRen,(hlt p hp).1],he, .ro fun i v hv=>⟨v,by simpa using hv,?_⟩⟩
    exact ((plains_refl (R:=gRen P) p.2 (hlt p hp).2).get i v (by simpa using hv)).elim fun u hu=>by
      have h1:(p.2)[i]?=some v:=by simpa using hv
      rw [h1] at hu
      injection hu.1 with h2
      subst h2
      exact hu.2
  · simp only [gRen] at r1 r2
    split at r1
    · split at r2
      · injection r1 with r1
        injection r2 with r2
        injection r1 with r1 _
        injection r2 with r2 _
        omega
      · cases r2
    · cases r1
  · cases hg:(ofList l).get m with
    |none=>rfl
    | some o =>
      obtain ⟨p,hp,rfl,_⟩:=ofList_get hg
      have:=(hlt p hp).1
      omega
end
end Go.V
