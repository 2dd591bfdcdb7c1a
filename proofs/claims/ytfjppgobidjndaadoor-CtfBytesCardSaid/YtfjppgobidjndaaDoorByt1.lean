/- Parts of a proof, merged by program: M1 M2 M3 M4 M5 M6 M7 M8 M9 M10 M11 M12 M13 M14 M15 M16 M17 M18 M19 M20 M21 M22 M23 M24 M25 M26 M30 M34 M36 M37 M38 M27 M28. The walks (each function once) and the plain laws; no condition of their own. -/
import Derived.Orders
import Derived.Below
import Derived.Tactics
import Derived.WalkKit
import Derived.Deep.LoopGhost
import Derived.Laws.StructEq
import Derived.Deep.AppendSrc
import Derived.Laws.MakeOwn
import Derived.Great.BuildSlice
import Derived.Laws.IdiomStrings
import Derived.Laws.BytesString
import Derived.ChangeArms
import Derived.ChangeSlices
import Derived.ReadAgain
import Derived.Carry
import Derived.OpenShut
import Derived.Recover
import Derived.Maps.RangeRun
set_option linter.unusedVariables false
set_option linter.unusedSimpArgs false
namespace Go.M
open Go.RowKit
abbrev Ext (w w':World):Prop:=Below w.heap.size w w'
theorem Ext.rfl' (w:World):Ext w w:=Below.refl _ _
theorem Ext.then {a b c:World} (h:Ext a b) (k:Ext b c):Ext a c:=
 Below.trans h ⟨k.os,k.tape,k.output,k.size,fun i hi=>k.block i (Nat.lt_of_lt_of_le hi h.size)⟩
theorem Ext.draw (w:World):Ext w {w with drawn:=w.drawn+1}:=⟨rfl,rfl,rfl,Nat.le_refl _,fun _ _=>rfl⟩
theorem Ext.new (w:World) (o:Obj):Ext w (w.alloc o):=(Below.refl _ _).alloc (Nat.le_refl _) o
inductive Sp where
 |eq (v:Value)
 |ex (φ:World→Value→Prop)
def Sp.holds:Sp→World→Value→Prop
 | .eq v,_,u=>u=v
 | .ex φ,w,u=>φ w u
def Sp.Stable:Sp→Prop
 | .eq _=>True
 | .ex φ=>∀w w' v,Ext w w'→φ w v→φ w' v
theorem Sp.Stable.holds {s:Sp} (h:s.Stable) {w w':World} (hE:Ext w w') {u:Value} (hu:s.holds w u):s.holds w' u:=by
 cases s with
 |eq v=>exact hu
 |ex φ=>exact h w w' u hE hu
def Does (P:Program) (o:Oper) (ρ:Operand→Value) (w:World) (s:Sp):Prop:=
 match (execOp ρ o).run P w with
 | .ok (.value v) w'=>s.holds w' v∧Ext w w'
 | .ok (.enter f args) w'=>Calls P f args w' fun e w''=>∃v,e= .returned v∧s.holds w'' v∧Ext w w''
 |_=>False
theorem Does.wp {P:Program} {o:Oper} {a:Act} {w:World} {s:Sp} {K:Act→World→Prop} {Q:Exit→Act→World→Prop} (h:Does P o a.eval w s)
    (hK:∀v w',s.holds w' v→Ext w w'→K (a.put o.dst v) w'):o.wp P a w K Q:=by
  unfold Does at h
  unfold Oper.wp
  generalize (execOp a.eval o).run P w=r at h
  cases r with
  |halt x w'=>exact h.elim
  | ok n w' =>
    cases n with
    |value v=>exact hK v w' h.1 h.2
    | enter f args =>
      refine Calls.mono h ?_
      rintro e w'' ⟨v,rfl,hv,hE⟩
      exact hK v w'' hv hE
    |_=>exact h.elim
def known (ops:Array Oper) (sps:List Sp) (a:Act) (t:Tmp):World→Value→Prop:=
 match (List.range sps.length).find? fun j=>(ops[j]?).any fun o=>o.dst==some t with
 |some j=>(sps.getD j (.eq undef)).holds
 |none=>fun _ v=>v=a.tmps.getD t undef
def lookOk (ops:Array Oper) (m:Nat) (i:Nat):Bool:=
 match ops[i]? with
 |none=>false
 |some o=>o.dst.isSome&&(match o.op with| .select .. =>false|_=>true)&&(o.looksAt ops).all fun t=>
   match (List.range m).find? fun j=>(ops[j]?).any fun x=>x.dst==some t with
   |some j=>o.after.any fun e=>Region.binds .any e&&e.on==j
   |none=>true
def formOk (ops : Array Oper) (m : Nat) (n : Nat) : Bool :=
  decide (m ≤ ops.size) && (List.range ops.size).all (fun i => (match ops[i]? with | some o => o.after.all (fun e => !Region.binds .any e || decide (e.on < i)) | none => false)) && (List.range m).all (fun i => lookOk ops m i && (match ops[i]? with
    |some o=>(match o.dst with|some t=>decide (t<n)|none=>false)&&(List.range i).all (fun j=>match ops[j]? with|some x=> !(x.dst==o.dst)|none=>false)
    | none => false)) &&
  (List.range ops.size).all (fun i => decide (i < m) || (match ops[i]? with
    |some o=>(List.range m).all (fun j=>o.after.any fun e=>Region.binds .any e&&e.on==j)&&(i==m||o.after.any fun e=>Region.binds .any e&&e.on+1==i)
    | none => false))
def Ob (P : Program) (ops : Array Oper) (sps : List Sp) (a : Act) (w : World) (i : Nat) : Prop :=
  ∀ o, ops[i]? = some o → ∀ (a' : Act) (w' : World), Ext w w' → (∀ t, (o.looksAt ops).contains t = true → known ops sps a t w' (a'.tmps.getD t undef)) →
    if Region.wanted o (yielded ops a'.tmps)=true then Does P o a'.eval w' (sps.getD i (.eq undef)) else (sps.getD i (.eq undef)).holds w' undef
def fin (Q:Act→World→Prop):List (Oper×Sp)→Act→World→Prop
 |[],a,w=>Q a w
 |(o, .eq v)::r,a,w=>fin Q r (a.put o.dst v) w
 |(o, .ex φ)::r,a,w=>∀v,φ w v→fin Q r (a.put o.dst v) w
section
variable {P:Program} {ops:Array Oper} {Q:Exit→Act→World→Prop}
structure Inv (ops:Array Oper) (sps:List Sp) (a:Act) (w:World) (L:Array Bool) (a':Act) (w':World):Prop where
 ext:Ext w w'
 defers:a'.defers=a.defers
 size:a'.tmps.size=a.tmps.size
 off:∀t,(∀j o,j<sps.length→ops[j]?=some o→o.dst=some t→L.getD j false=false)→a'.tmps.getD t undef=a.tmps.getD t undef
 on:∀j o t,j<sps.length→ops[j]?=some o→o.dst=some t→L.getD j false=true→(sps.getD j (.eq undef)).holds w' (a'.tmps.getD t undef)
theorem getD_put {a:Act} {d t:Tmp} {v:Value} (hd:d<a.tmps.size):(a.put (some d) v).tmps.getD t undef=if t=d then v else a.tmps.getD t undef:=by
 simp only [Act.put,Array.getD_eq_getD_getElem?]
 by_cases h:t=d
 ·subst h;simp [hd]
 ·rw [Array.getElem?_setIfInBounds_ne (Ne.symm h),if_neg h]
theorem fin_of {K : Act → World → Prop} {w' : World} : ∀ (l : List (Oper × Sp)) (a a' : Act),
    (∀x∈l,∃t,x.1.dst=some t∧t<a.tmps.size)→(l.map fun x=>x.1.dst).Nodup→a'.tmps.size=a.tmps.size→a'.defers=a.defers→
    (∀t,(∀x∈l,x.1.dst≠some t)→a'.tmps.getD t undef=a.tmps.getD t undef)→(∀x∈l,∀t,x.1.dst=some t→x.2.holds w' (a'.tmps.getD t undef))→
    fin K l a w'→K a' w':=by
  intro l
  induction l with
  | nil =>
    intro a a' _ _ hs hd hoff _ h
    have:a'=a:=by
      obtain ⟨t1,d1⟩:=a
      obtain ⟨t2,d2⟩:=a'
      simp only at hs hd
      subst hd
      congr
      refine Array.ext hs (fun i h1 h2=>?_)
      have:=hoff i (fun x hx=>by cases hx)
      simpa [Array.getD_eq_getD_getElem?,h1,h2] using this
    rw [this];exact h
  | cons x r ih =>
    intro a a' hl hn hs hd hoff hon h
    obtain ⟨o,s⟩:=x
    obtain ⟨t,ht,hlt⟩:=hl (o,s) List.mem_cons_self
    simp only at ht
    have key:∀v,v=a'.tmps.getD t undef→fin K r (a.put o.dst v) w'→K a' w':=by
      intro v hv hr
      rw [ht] at hr
      rw [List.map_cons,List.nodup_cons] at hn
      refine ih (a.put (some t) v) a' (fun y hy=>?_) hn.2 (by simp [Act.put,hs]) (by simp [Act.put,hd]) (fun u hu=>?_) (fun y hy=>hon y (List.mem_cons_of_mem _ hy)) hr
      · obtain ⟨u,hu,hul⟩:=hl y (List.mem_cons_of_mem _ hy)
        exact ⟨u,hu,by simpa [Act.put] using hul⟩
      · rw [getD_put hlt]
        by_cases hut:u=t
        · subst hut;rw [if_pos rfl,hv]
        · rw [if_neg hut]
          refine hoff u (fun y hy=>?_)
          rcases List.mem_cons.1 hy with rfl|hy
          · simp only [ht];intro e;exact hut (Option.some.inj e).symm
          · exact hu y hy
    have hx:=hon (o,s) List.mem_cons_self t ht
    cases s with
    |eq v=>exact key v hx.symm h
    |ex φ=>exact key _ rfl (h _ hx)
theorem formOk_parts {m n : Nat} (h : formOk ops m n = true) : m ≤ ops.size ∧
    (∀i o,ops[i]?=some o→∀e∈o.after,Region.binds .any e=true→e.on<i)∧
    (∀i o,i<m→ops[i]?=some o→lookOk ops m i=true∧(∃t,o.dst=some t∧t<n)∧∀j x,j<i→ops[j]?=some x→x.dst≠o.dst)∧
    (∀i o,m≤i→ops[i]?=some o→(∀j,j<m→∃e∈o.after,Region.binds .any e=true∧e.on=j)∧(i=m∨∃e∈o.after,Region.binds .any e=true∧e.on+1=i)):=by
  simp only [formOk,Bool.and_eq_true,decide_eq_true_eq,List.all_eq_true,List.mem_range] at h
  obtain ⟨⟨⟨h1,h2⟩,h3⟩,h4⟩:=h
  refine ⟨h1,?_,?_,?_⟩
  · intro i o ho e he hb
    have:=h2 i (Array.getElem?_eq_some_iff.1 ho).1
    rw [ho] at this
    have:=Array.all_eq_true_iff_forall_mem.1 this e he
    rw [hb] at this
    simpa using this
  · intro i o hi ho
    obtain ⟨h5,h6⟩:=h3 i hi
    rw [ho] at h6
    simp only [Bool.and_eq_true,List.all_eq_true,List.mem_range] at h6
    refine ⟨h5,?_,fun j x hj hx=>?_⟩
    · cases hd:o.dst with
      |none=>rw [hd] at h6;simp at h6
      |some t=>rw [hd] at h6;exact ⟨t,rfl,by simpa using h6.1⟩
    · have:=h6.2 j hj
      rw [hx] at this
      simpa using this
  · intro i o hi ho
    have:=h4 i (Array.getElem?_eq_some_iff.1 ho).1
    rw [ho] at this
    simp only [Bool.or_eq_true,decide_eq_true_eq,Bool.and_eq_true,List.all_eq_true,List.mem_range,beq_iff_eq] at this
    rcases this with h5|⟨h5,h6⟩
    · omega
    · refine ⟨fun j hj=>?_,h6.imp id (fun h7=>?_)⟩
      · obtain ⟨e,he,hb⟩:=Array.any_eq_true'.1 (h5 j hj)
        simp only [Bool.and_eq_true,beq_iff_eq] at hb
        exact ⟨e,he,hb.1,hb.2⟩
      · obtain ⟨e,he,hb⟩:=Array.any_eq_true'.1 h7
        simp only [Bool.and_eq_true,beq_iff_eq] at hb
        exact ⟨e,he,hb.1,hb.2⟩
theorem wpAny_tail {m n : Nat} (hf : formOk ops m n = true) : ∀ (d k : Nat) (L : Array Bool) (a : Act) (w : World), k + d = ops.size → m ≤ k → L.size = ops.size →
    (∀j,j<ops.size→L.getD j false=decide (j<k))→wpList P ops Q (ops.toList.drop k) a w→wpAny P .any ops Q d L a w:=by
  obtain ⟨h1,h2,h3,h4⟩:=formOk_parts hf
  intro d
  have only:∀(k:Nat) (L:Array Bool),m≤k→L.size=ops.size→(∀j,j<ops.size→L.getD j false=decide (j<k))→∀i,i∈Region.ready .any ops L→i=k:=by
    intro k L hk hs hL i hi
    rw [mem_ready] at hi
    obtain ⟨hn,o,ho,hall⟩:=hi
    have hlt:=(Array.getElem?_eq_some_iff.1 ho).1
    have hki:k≤i:=by
      have:=hL i hlt
      have h5:L.getD i false=L.getD i true:=by simp [Array.getD_eq_getD_getElem?,hs,hlt]
      rw [h5,hn] at this
      simpa using this
    by_cases hik:i=k
    · exact hik
    · rcases (h4 i o (by omega) ho).2 with rfl|⟨e,he,hb,hon⟩
      · omega
      · have h6:=hall e he hb
        rw [hL e.on (by omega)] at h6
        simp at h6
        omega
  induction d with
  | zero =>
    intro k L a w hk hmk hs hL h
    refine ⟨?_,?_⟩
    · refine List.eq_nil_iff_forall_not_mem.2 (fun i hi=>?_)
      have:=only k L hmk hs hL i hi
      rw [mem_ready] at hi
      obtain ⟨_,o,ho,_⟩:=hi
      have hlt:=(Array.getElem?_eq_some_iff.1 ho).1
      omega
    · have hnil:ops.toList.drop k=[]:=by simp;omega
      rw [hnil] at h
      exact h
  | succ d ih =>
    intro k L a w hk hmk hs hL h
    have hlt:k<ops.size:=by omega
    have hget:ops[k]?=some ops[k]:=Array.getElem?_eq_getElem hlt
    have hdrop:ops.toList.drop k=ops[k]::ops.toList.drop (k+1):=by
      rw [List.drop_eq_getElem_cons (by simpa using hlt)]
      simp
    have hin:k∈Region.ready .any ops L:=by
      rw [mem_ready]
      refine ⟨?_,ops[k],hget,fun e he hb=>?_⟩
      · have:=hL k hlt
        have h5:L.getD k false=L.getD k true:=by simp [Array.getD_eq_getD_getElem?,hs,hlt]
        rw [←h5,this];simp
      · have h6:=h2 k _ hget e he hb
        rw [hL e.on (by omega)];simpa using h6
    refine ⟨fun h0=>(by rw [h0] at hin;cases hin),fun i hi=>?_⟩
    obtain rfl:=only k L hmk hs hL i hi
    rw [hdrop] at h
    have hL':∀j,j<ops.size→(L.setIfInBounds i true).getD j false=decide (j<i+1):=by
      intro j hj
      by_cases hji:i=j
      · subst hji;simp [hs,hj]
      · rw [getD_set_ne false hji,hL j hj]
        congr 1
        simp;omega
    unfold wpOp
    rw [hget]
    simp only [wpList] at h
    simp only
    split
    · rename_i hw
      rw [if_pos hw] at h
      exact h.imp (Oper.wp_mono (fun a' w' h'=>ih (i+1) _ a' w' (by omega) (by omega) (by simpa using hs) hL' h')) id
    · rename_i hw
      rw [if_neg hw] at h
      exact ih (i+1) _ _ w (by omega) (by omega) (by simpa using hs) hL' h
theorem count_set {L : Array Bool} {i m : Nat} (hi : i < m) (hL : L.getD i false = false) (hs : m ≤ L.size) :
    ((List.range m).filter fun j=> !(L.setIfInBounds i true).getD j false).length+1=((List.range m).filter fun j=> !L.getD j false).length:=by
  have key:∀l:List Nat,l.Nodup→((l.filter fun j=> !(L.setIfInBounds i true).getD j false).length+if i∈l then 1 else 0)=(l.filter fun j=> !L.getD j false).length:=by
    intro l
    induction l with
    |nil=>simp
    | cons x r ih =>
      intro hn
      rw [List.nodup_cons] at hn
      have h1:=ih hn.2
      by_cases hx:i=x
      · subst hx
        rw [if_neg hn.1] at h1
        have h2:(L.setIfInBounds i true).getD i false=true:=by simp [show i<L.size by omega]
        rw [List.filter_cons,List.filter_cons,h2,hL]
        simp only [Bool.not_true,Bool.not_false,if_true,List.length_cons,List.mem_cons_self]
        simp only [Bool.false_eq_true,if_false]
        omega
      · have h2:=getD_set_ne (listed:=L) false hx
        rw [List.filter_cons,List.filter_cons,h2]
        have h3:(i∈x::r)=(i∈r):=by simp [hx]
        rw [show (if i∈x::r then 1 else 0)=(if i∈r then 1 else 0) by simp only [h3]]
        cases L.getD x false
        · simp only [Bool.not_false,if_true,List.length_cons];omega
        · simpa using h1
  have:=key (List.range m) List.nodup_range
  rw [if_pos (List.mem_range.2 hi)] at this
  exact this
theorem wpAny_phi {sps : List Sp} {a : Act} {w : World} (hf : formOk ops sps.length a.tmps.size = true) (hst : ∀ s ∈ sps, s.Stable)
    (hob:∀i,i<sps.length→Ob P ops sps a w i)
    (hend:∀w',Ext w w'→fin (wpList P ops Q (ops.toList.drop sps.length)) ((ops.toList.take sps.length).zip sps) a w'):
    ∀ (c : Nat) (L : Array Bool) (a' : Act) (w' : World), ((List.range sps.length).filter fun j => !L.getD j false).length = c → L.size = ops.size →
      (∀j,sps.length≤j→L.getD j false=false)→Inv ops sps a w L a' w'→wpAny P .any ops Q (c+(ops.size-sps.length)) L a' w':=by
  obtain ⟨h1,h2,h3,h4⟩:=formOk_parts hf
  intro c
  induction c with
  | zero =>
    intro L a' w' hc hs htl I
    have hall:∀j,j<sps.length→L.getD j false=true:=by
      intro j hj
      cases hb:L.getD j false with
      |true=>rfl
      | false =>
        have:j∈(List.range sps.length).filter fun j=> !L.getD j false:=List.mem_filter.2 ⟨List.mem_range.2 hj,by simp [hb]⟩
        rw [List.eq_nil_of_length_eq_zero hc] at this
        cases this
    have hz:∀x∈(ops.toList.take sps.length).zip sps,∃j,j<sps.length∧ops[j]?=some x.1∧sps.getD j (.eq undef)=x.2:=by
      intro x hx
      obtain ⟨j,hj,he⟩:=List.mem_iff_getElem.1 hx
      simp only [List.length_zip,List.length_take,Array.length_toList] at hj
      refine ⟨j,by omega,?_,?_⟩
      · rw [←he];simp [show j<ops.size by omega]
      · rw [←he];simp [show j<sps.length by omega]
    rw [Nat.zero_add]
    refine wpAny_tail hf _ sps.length L a' w' (by omega) (Nat.le_refl _) hs (fun j hj=>?_) ?_
    · by_cases hjm:j<sps.length
      · rw [hall j hjm];simp [hjm]
      · rw [htl j (by omega)];simp [hjm]
    · refine fin_of _ a a' ?_ ?_ I.size I.defers ?_ ?_ (hend w' I.ext)
      · intro x hx
        obtain ⟨j,hj,ho,_⟩:=hz x hx
        exact (h3 j _ hj ho).2.1
      · rw [List.nodup_iff_pairwise_ne,List.pairwise_iff_getElem]
        intro i j hi hj hij
        simp only [List.length_map,List.length_zip,List.length_take,Array.length_toList] at hi hj
        simp only [List.getElem_map,List.getElem_zip,List.getElem_take,Array.getElem_toList]
        exact (h3 j ops[j] (by omega) (Array.getElem?_eq_getElem (by omega))).2.2 i ops[i] hij (Array.getElem?_eq_getElem (by omega))
      · intro t ht
        refine I.off t (fun j o hj ho hd=>?_)
        exfalso
        have hlt:=(Array.getElem?_eq_some_iff.1 ho)
        refine ht (ops[j]'hlt.1,sps[j]) ?_ (by rw [hlt.2];exact hd)
        refine List.mem_iff_getElem.2 ⟨j,by simp;omega,by simp⟩
      · intro x hx t ht
        obtain ⟨j,hj,ho,he⟩:=hz x hx
        have:=I.on j _ t hj ho ht (hall j hj)
        rw [he] at this
        exact this
  | succ c ih =>
    intro L a' w' hc hs htl I
    rw [show c+1+(ops.size-sps.length)=c+(ops.size-sps.length)+1 by omega]
    have hex:∃i,i<sps.length∧L.getD i false=false∧∀j,j<i→L.getD j false=true:=by
      have h5:∃i,i<sps.length∧L.getD i false=false:=by
        cases hfl:(List.range sps.length).filter fun j=> !L.getD j false with
        |nil=>rw [hfl] at hc;simp at hc
        | cons x r =>
          have hx:x∈(List.range sps.length).filter fun j=> !L.getD j false:=by rw [hfl];exact List.mem_cons_self
          rw [List.mem_filter] at hx
          exact ⟨x,List.mem_range.1 hx.1,by simpa using hx.2⟩
      obtain ⟨i,hi,hb⟩:=h5
      have hmin:∀k,k<sps.length→L.getD k false=false→∃i,i<sps.length∧L.getD i false=false∧∀j,j<i→L.getD j false=true:=by
        intro k
        induction k using Nat.strongRecOn with
        | _ k ihk =>
          intro hk hkb
          by_cases hlow:∃j,j<k∧L.getD j false=false
          · obtain ⟨j,hj,hjb⟩:=hlow
            exact ihk j hj (by omega) hjb
          · refine ⟨k,hk,hkb,fun j hj=>?_⟩
            cases hb:L.getD j false with
            |true=>rfl
            |false=>exact absurd ⟨j,hj,hb⟩ hlow
      exact hmin i hi hb
    have flip:∀i,i<ops.size→L.getD i false=L.getD i true:=fun i hi=>by simp [Array.getD_eq_getD_getElem?,hs,hi]
    refine ⟨fun h0=>?_,fun i hi=>?_⟩
    · exfalso
      obtain ⟨i,hi,hb,hlow⟩:=hex
      have hil:i<ops.size:=by omega
      have:i∈Region.ready .any ops L:=by
        rw [mem_ready]
        refine ⟨by rw [←flip i hil];exact hb,ops[i],Array.getElem?_eq_getElem hil,fun e he hbn=>hlow _ (h2 i _ (Array.getElem?_eq_getElem hil) e he hbn)⟩
      rw [h0] at this
      cases this
    · rw [mem_ready] at hi
      obtain ⟨hn,o,ho,hwait⟩:=hi
      have hil:=(Array.getElem?_eq_some_iff.1 ho).1
      have hnf:L.getD i false=false:=(flip i hil).trans hn
      by_cases him:i<sps.length
      · obtain ⟨hlook,⟨t,ht,htn⟩,hdist⟩:=h3 i o him ho
        have hlk:∀u,(o.looksAt ops).contains u=true→known ops sps a u w' (a'.tmps.getD u undef):=by
          intro u hu
          simp only [lookOk,ho,Bool.and_eq_true,List.all_eq_true] at hlook
          have h5:=hlook.2 u (List.contains_iff_mem.1 hu)
          unfold known
          cases hfd:(List.range sps.length).find? fun j=>(ops[j]?).any fun x=>x.dst==some u with
          | none =>
            simp only
            refine I.off u (fun j x hj hx hd=>?_)
            have:=List.find?_eq_none.1 hfd j (List.mem_range.2 hj)
            rw [hx] at this
            simp [hd] at this
          | some j =>
            rw [hfd] at h5
            simp only at h5⊢
            have h6:=List.find?_some hfd
            have h7:=List.mem_range.1 (List.mem_of_find?_eq_some hfd)
            obtain ⟨e,he,hb⟩:=Array.any_eq_true'.1 h5
            simp only [Bool.and_eq_true,beq_iff_eq] at hb
            have h8:=hwait e he hb.1
            rw [hb.2] at h8
            cases hx:ops[j]? with
            |none=>rw [hx] at h6;simp at h6
            | some x =>
              rw [hx] at h6
              exact I.on j x u h7 hx (by simpa using h6) h8
        have hO:=hob i him o ho a' w' I.ext hlk
        have next:∀v w'',(sps.getD i (.eq undef)).holds w'' v→Ext w' w''→wpAny P .any ops Q (c+(ops.size-sps.length)) (L.setIfInBounds i true) (a'.put o.dst v) w'':=by
          intro v w'' hv hE
          have hta:t<a'.tmps.size:=by rw [I.size];exact htn
          refine ih _ _ _ ?_ (by simpa using hs) (fun j hj=>?_) ⟨I.ext.then hE,by simp [Act.put,ht,I.defers],by simp [Act.put,ht,I.size],fun u hu=>?_,fun j x u hj hx hd hjl=>?_⟩
          · have:=count_set him hnf (by omega)
            omega
          · rw [getD_set_ne false (by omega)];exact htl j hj
          · rw [ht,getD_put hta]
            have hut:u≠t:=by
              rintro rfl
              have:=hu i o him ho ht
              simp [hs,hil] at this
            rw [if_neg hut]
            refine I.off u (fun j x hj hx hd=>?_)
            have:=hu j x hj hx hd
            by_cases hji:i=j
            · subst hji;exact hnf
            · rwa [getD_set_ne false hji] at this
          · rw [ht,getD_put hta]
            by_cases hji:i=j
            · subst hji
              rw [ho] at hx
              obtain rfl:=Option.some.inj hx
              rw [ht] at hd
              rw [if_pos (Option.some.inj hd).symm]
              exact hv
            · have hut:u≠t:=by
                rintro rfl
                rcases Nat.lt_or_ge i j with hlt|hge
                · exact (h3 j x hj hx).2.2 i o hlt ho (by rw [ht,hd])
                · exact hdist j x (by omega) hx (by rw [ht,hd])
              rw [if_neg hut]
              rw [getD_set_ne false hji] at hjl
              have hs2:(sps.getD j (.eq undef)).Stable:=by
                refine hst _ ?_
                rw [List.getD_eq_getElem?_getD,List.getElem?_eq_getElem hj]
                exact List.getElem_mem hj
              exact hs2.holds hE (I.on j x u hj hx hd hjl)
        unfold wpOp
        rw [ho]
        simp only
        split
        · rename_i hw
          rw [if_pos hw] at hO
          exact .inl (Does.wp hO (fun v w'' hv hE=>next v w'' hv hE))
        · rename_i hw
          rw [if_neg hw] at hO
          exact next undef w' hO (Ext.rfl' w')
      · exfalso
        obtain ⟨j,hj,hjb,_⟩:=hex
        obtain ⟨e,he,hb,hon⟩:=(h4 i o (by omega) ho).1 j hj
        have:=hwait e he hb
        rw [hon,hjb] at this
        cases this
theorem wp_phi {id:Nat} {a:Act} {w:World} (sps:List Sp) (hmix:P.follows .mixedOrders=true) (hf:formOk ops sps.length a.tmps.size=true) (hst:∀s∈sps,s.Stable)
  (hob:∀i,i<sps.length→Ob P ops sps a w i)
  (hend:∀w',Ext w w'→fin (wpList P ops Q (ops.toList.drop sps.length)) ((ops.toList.take sps.length).zip sps) a w'):(Code.region id ops true).wp P Q a w:=by
 refine wp_region_any hmix ?_
 have h1:=(formOk_parts hf).1
 have h:=wpAny_phi hf hst hob hend sps.length (Array.replicate ops.size false) a {w with drawn:=w.drawn+1} ?_ (by simp) (fun j _=>?_) ⟨Ext.draw w,rfl,rfl,fun _ _=>rfl,fun j o t hj _ _ hl=>?_⟩
 ·rw [show sps.length+(ops.size-sps.length)=ops.size by omega] at h
  exact h
 ·rw [List.filter_eq_self.2]
  ·simp
  ·intro j hj
   by_cases hjs:j<ops.size<;>simp [Array.getD_eq_getD_getElem?,hjs]
 ·simp [Array.getD_eq_getD_getElem?]
  by_cases hj:j<ops.size<;>simp [hj]
 ·exfalso
  simp [Array.getD_eq_getD_getElem?] at hl
  by_cases hj:j<ops.size<;>simp [hj] at hl
end
def ev (l:List Value):Operand→Value
 | .tmp t=>l.getD t undef
 | .const v=>v
 | .global g=> .pointer (some ⟨g,0,none⟩)
 | .func f=> .func (.func f) #[] #[]
theorem ev_eq (l:List Value) (df:List Deferred):(⟨l.toArray,df⟩:Act).eval=ev l:=by
 funext x
 cases x<;>simp [Act.eval,ev]
theorem put_list (l:List Value) (df:List Deferred) (d:Tmp) (v:Value):(⟨l.toArray,df⟩:Act).put (some d) v=⟨(l.set d v).toArray,df⟩:=by
 simp [Act.put]
def finL (Q:List Value→World→Prop):List (Tmp×Sp)→List Value→World→Prop
 |[],l,w=>Q l w
 |(d, .eq v)::r,l,w=>finL Q r (l.set d v) w
 |(d, .ex φ)::r,l,w=>∀v,φ w v→finL Q r (l.set d v) w
theorem fin_of_finL {Q : Act → World → Prop} {df : List Deferred} : ∀ (os : List Oper) (sps : List Sp) (ds : List Tmp) (l : List Value) (w : World), os.map (·.dst) = ds.map some →
    finL (fun l w=>Q ⟨l.toArray,df⟩ w) (ds.zip sps) l w→fin Q (os.zip sps) ⟨l.toArray,df⟩ w:=by
  intro os
  induction os with
  |nil=>intro sps ds l w h hf;cases ds<;>simp at h;exact hf
  | cons o os ih =>
    intro sps ds l w h hf
    cases ds with
    |nil=>simp at h
    | cons d ds =>
      simp only [List.map_cons,List.cons.injEq] at h
      cases sps with
      |nil=>exact hf
      | cons s sps =>
        cases s with
        | eq v =>
          simp only [List.zip_cons_cons,fin,finL,h.1,put_list] at hf⊢
          exact ih _ _ _ _ h.2 hf
        | ex φ =>
          simp only [List.zip_cons_cons,fin,finL,h.1,put_list] at hf⊢
          exact fun v hv=>ih _ _ _ _ h.2 (hf v hv)
section
variable {P:Program} {Q:Exit→Act→World→Prop} {l:List Value} {df:List Deferred} {w:World}
def run (P:Program) (ops:Array Oper) (Q:Exit→Act→World→Prop) (df:List Deferred) (os:List Oper) (l:List Value) (w:World):Prop:=wpList P ops Q os ⟨l.toArray,df⟩ w
theorem region {id:Nat} {os:List Oper} (h:run P os.toArray Q df os l w):(Code.region id os.toArray false).wp P Q ⟨l.toArray,df⟩ w:=wp_region_lit h
theorem ret_then {K:Act→World→Prop} {a:Act} (h:Q .ret a w):Exit.then K Q .ret a w:=h
theorem ret_block {id:Nat} {a:Act} (h:Q .ret a w):Exit.inBlock id Q .ret a w:=h
theorem run_nil {ops:Array Oper} (h:Q .normal ⟨l.toArray,df⟩ w):run P ops Q df [] l w:=h
theorem run_eq {ops:Array Oper} {o:Oper} {os:List Oper} {d:Tmp} {v:Value} (hg:o.guard=none) (hd:o.dst=some d) (h:Does P o (ev l) w (.eq v))
  (k:∀w',Ext w w'→run P ops Q df os (l.set d v) w'):run P ops Q df (o::os) l w:=by
 unfold run at*
 rw [←ev_eq l df] at h
 simp only [wpList,Region.wanted,hg,if_true]
 refine .inl (h.wp (fun u w' hu hE=>?_))
 rw [hd,put_list,show u=v from hu]
 exact k w' hE
theorem run_ex {ops:Array Oper} {o:Oper} {os:List Oper} {d:Tmp} {φ:World→Value→Prop} (hg:o.guard=none) (hd:o.dst=some d) (h:Does P o (ev l) w (.ex φ))
  (k:∀w' v,Ext w w'→φ w' v→run P ops Q df os (l.set d v) w'):run P ops Q df (o::os) l w:=by
 unfold run at*
 rw [←ev_eq l df] at h
 simp only [wpList,Region.wanted,hg,if_true]
 refine .inl (h.wp (fun u w' hu hE=>?_))
 rw [hd,put_list]
 exact k w' u hE hu
theorem run_same {ops:Array Oper} {o:Oper} {os:List Oper} {d:Tmp} {v:Value} (hg:o.guard=none) (hd:o.dst=some d) (h:(execOp (ev l) o).run P w= .ok (.value v) w)
  (k:run P ops Q df os (l.set d v) w):run P ops Q df (o::os) l w:=by
 unfold run at*
 simp only [wpList,Region.wanted,hg,if_true]
 refine .inl ?_
 unfold Oper.wp
 rw [ev_eq,h]
 simp only [Oper.upon,hd,put_list]
 exact k
end
def CellsAt (w:World) (a:Addr) (cs:List Value):Prop:=∀j v,cs[j]?=some v→w.cell? (a.add j)=some v
theorem CellsAt.ext {w w':World} {a:Addr} {cs:List Value} (h:CellsAt w a cs) (hE:Ext w w'):CellsAt w' a cs:=fun j v hj=>by
 have:=h j v hj
 exact (hE.cell (World.block_lt_of_cell? w _ this)).trans this
theorem cell_ext {w w':World} {a:Addr} {v:Value} (h:w.cell? a=some v) (hE:Ext w w'):w'.cell? a=some v:=(hE.cell (World.block_lt_of_cell? w _ h)).trans h
theorem heap_ext {w w':World} {b:Nat} {o:Obj} (h:w.heap[b]?=some o) (hE:Ext w w'):w'.heap[b]?=some o:=(hE.block b (Array.getElem?_eq_some_iff.1 h).1).trans h
section
variable {P:Program} {ρ:Operand→Value} {w:World} {dst:Option Tmp} {ty:TypeId} {pos:String} {after:Array Edge} {guard:Option (Nat×Bool)}
theorem does_eq {o:Oper} {v:Value} (h:(execOp ρ o).run P w= .ok (.value v) w):Does P o ρ w (.eq v):=by
 unfold Does;rw [h];exact ⟨rfl,Ext.rfl' w⟩
theorem r_fieldAddr {s:TypeId} {x:Operand} {f n:Nat} {fs:Array Field} {F:Field} {a:Addr} (hx:ρ x= .pointer (some a))
  (hu:∀w,(underlying s).run P w= .ok (.struct fs) w) (hf:fs[f]?=some F) (hs:∀w,(sizeOf F.type).run P w= .ok n w) (hn:n≠0):
  (execOp ρ ⟨dst, .fieldAddr s x f,ty,pos,after,guard⟩).run P w= .ok (.value (.pointer (some (a.add F.offset)))) w:=by
 simp [execOp,Instr.fieldAt,hx,hu,hf,Instr.sureAddr,fieldPlace,hs,hn]
theorem run_load' {a:Addr} {v:Value} (hc:w.cell? a=some v):Sem.run P (Sem.load Mode.plain a Sem.pure) w= .ok v w:=by
 simp only [Sem.run,hc]
theorem loadCellsFrom_run {a:Addr}:∀(cs:List Value) (i:Nat) (acc:Array Value),(∀j v,cs[j]?=some v→w.cell? (a.add (i+j))=some v)→
    (loadCellsFrom a i cs.length acc).run P w= .ok (acc++cs.toArray) w:=by
  intro cs
  induction cs with
  |nil=>intro i acc _;simp [loadCellsFrom]
  | cons c cs ih =>
    intro i acc h
    have h0:=h 0 c rfl
    have:=ih (i+1) (acc.push c) (fun j v hj=>by have:=h (j+1) v (by simpa using hj);rwa [show i+1+j=i+(j+1) by omega])
    simp only [Nat.add_zero] at h0
    simp [loadCellsFrom,load,run_load' h0,this]
theorem r_load {t:TypeId} {x:Operand} {a:Addr} {v:Value} (hx:ρ x= .pointer (some a)) (hA:∀w,(isAgg t).run P w= .ok false w) (hc:w.cell? a=some v):
  (execOp ρ ⟨dst, .load t x,ty,pos,after,guard⟩).run P w= .ok (.value v) w:=by
 simp [execOp,Instr.loadAt,hx,Instr.sureAddr,loadVar,hA,load,run_load' hc]
theorem r_loadAgg {t:TypeId} {x:Operand} {a:Addr} {cs:List Value} (hx:ρ x= .pointer (some a)) (hA:∀w,(isAgg t).run P w= .ok true w)
  (hc:CellsAt w a cs) (hs:∀w,(sizeOf t).run P w= .ok cs.length w):
  (execOp ρ ⟨dst, .load t x,ty,pos,after,guard⟩).run P w= .ok (.value (.agg cs.toArray)) w:=by
 have:=loadCellsFrom_run (P:=P) (w:=w) (a:=a) cs 0 #[] (fun j v hj=>by rw [Nat.zero_add];exact hc j v hj)
 simp [execOp,Instr.loadAt,hx,Instr.sureAddr,loadVar,hA,hs,loadCells,this]
theorem r_index {t e:TypeId} {x i:Operand} {a:Addr} {n c sz:Nat} {k:IntKind} {j:Int} (hx:ρ x= .slice (some a) n c) (hi:ρ i= .int k j) (h0:0≤j) (h1:j<n)
  (hu:∀w,(underlying t).run P w= .ok (.slice e) w) (hs:∀w,(sizeOf e).run P w= .ok sz w):
  (execOp ρ ⟨dst, .indexAddr t x i,ty,pos,after,guard⟩).run P w= .ok (.value (.pointer (some (a.add (j.toNat*sz))))) w:=by
 simp [execOp,Instr.indexAt,hx,hi,asIntOf,hu,hs,h0,h1]
theorem r_len {t:TypeId} {x:Operand} {a:Option Addr} {n c e:Nat} (hx:ρ x= .slice a n c) (hu:∀w,(underlying t).run P w= .ok (.slice e) w):
  (execOp ρ ⟨dst, .call {callee:= .builtin .len,args:=#[x],argTypes:=#[t]},ty,pos,after,guard⟩).run P w= .ok (.value (.int .i64 n)) w:=by
 simp [execOp,resolve,invoke,builtin,Builtin.len_,hx,hu,goInt]
theorem r_lenStr {t:TypeId} {x:Operand} {s:ByteArray} (hx:ρ x= .string s) (hu:∀w,(underlying t).run P w= .ok .string w):
  (execOp ρ ⟨dst, .call {callee:= .builtin .len,args:=#[x],argTypes:=#[t]},ty,pos,after,guard⟩).run P w= .ok (.value (.int .i64 s.size)) w:=by
 simp [execOp,resolve,invoke,builtin,Builtin.len_,hx,hu,goInt]
theorem does_call {f:FuncId} {xs:List Operand} {ts:Array TypeId} {vs:List Value} {s:Sp} (hcall:∀args w,(callFunc f args).run P w= .ok (.enter f args) w)
  (ha:xs.map ρ=vs) (h:Calls P f vs.toArray w fun e w'=>∃v,e= .returned v∧s.holds w' v∧Ext w w') (hfn:ρ (.func f)= .func (.func f) #[] #[]):
  Does P ⟨dst, .call {callee:= .value (.func f),args:=xs.toArray,argTypes:=ts},ty,pos,after,guard⟩ ρ w s:=by
 have hr:(execOp ρ ⟨dst, .call {callee:= .value (.func f),args:=xs.toArray,argTypes:=ts},ty,pos,after,guard⟩).run P w= .ok (.enter f vs.toArray) w:=by
  simp [execOp,resolve,hfn,Deferred.ofValue,invoke,←ha]
  simpa using hcall _ w
 unfold Does
 rw [hr]
 exact h
theorem does_call_eq {f:FuncId} {xs:List Operand} {ts:Array TypeId} {vs:List Value} {v:Value} (hcall:∀args w,(callFunc f args).run P w= .ok (.enter f args) w)
  (hfn:ρ (.func f)= .func (.func f) #[] #[]) (ha:xs.map ρ=vs) (h:Calls P f vs.toArray w fun e w'=>e= .returned v∧Ext w w'):
  Does P ⟨dst, .call {callee:= .value (.func f),args:=xs.toArray,argTypes:=ts},ty,pos,after,guard⟩ ρ w (.eq v):=
 does_call hcall ha (h.mono fun e w' hh=>⟨v,hh.1,rfl,hh.2⟩) hfn
theorem does_box {t:TypeId} {x:Operand} {v:Value} {cs:Array Value} (hx:ρ x=v) (hv:v.cells=cs):
  Does P ⟨dst, .box t x,ty,pos,after,guard⟩ ρ w (.ex fun w' u=>∃b,u= .pointer (some ⟨b,0,none⟩)∧w.heap.size≤b∧w'.heap[b]?=some (.cells cs t (0,0))):=by
 have hr:(execOp ρ ⟨dst, .box t x,ty,pos,after,guard⟩).run P w= .ok (.value (.pointer (some ⟨w.heap.size,0,none⟩))) (w.alloc (.cells cs t)):=by
  have hn:Sem.run P (Sem.new (Obj.cells cs t) Sem.pure) w= .ok w.heap.size (w.alloc (.cells cs t)):=rfl
  simp [execOp,Instr.box,newVar,newRow,newObj,hx,hv,hn]
 unfold Does
 rw [hr]
 exact ⟨⟨_,rfl,Nat.le_refl _,heap_alloc_new w _⟩,Ext.new _ _⟩
end
theorem of_ite {α:Type} {p:Prop} [Decidable p] {x:Option α} {r:α} (h:(if p then x else none)=some r):p∧x=some r:=by
 split at h
 ·exact ⟨‹_›,h⟩
 ·cases h
theorem of_bind {α β:Type} {x:Option α} {f:α→Option β} {r:β} (h:x.bind f=some r):∃v,x=some v∧f v=some r:=Option.bind_eq_some_iff.1 h
theorem of_pos {α:Type} {p:Prop} [Decidable p] {x y:α} {r:α} (h:(if p then x else y)=r) (hp:p):x=r:=by rw [if_pos hp] at h;exact h
theorem of_neg {α:Type} {p:Prop} [Decidable p] {x y:α} {r:α} (h:(if p then x else y)=r) (hp:¬p):y=r:=by rw [if_neg hp] at h;exact h
def rd {α:Type} (z:α) (xs:List α) (i:Int):α:=xs.getD i.toNat z
def gv (c:Bool) (v:Value):Value:=cond c v undef
theorem gv_t {c:Bool} {v:Value} (h:c=true):gv c v=v:=by subst h;rfl
theorem addadd (a:Addr) (m n:Nat):(a.add m).add n=a.add (m+n):=by
 unfold Addr.add
 by_cases hm:m=0
 ·subst hm;simp
 ·by_cases hn:n=0
  ·subst hn;simp
  ·simp [hm,hn,Nat.add_assoc]
theorem CellsAt.sub {w:World} {a:Addr} {cs:List Value} (h:CellsAt w a cs) (m n:Nat):CellsAt w (a.add m) ((cs.drop m).take n):=by
 intro j v hj
 rw [addadd]
 refine h (m+j) v ?_
 rw [List.getElem?_take] at hj
 split at hj
 ·rwa [List.getElem?_drop] at hj
 ·cases hj
def patch:List Value→List Tmp→List Value→List Value
 |l,d::ds,u::us=>patch (l.set d u) ds us
 |l,_,_=>l
section
variable {P:Program} {Q:Exit→Act→World→Prop} {l:List Value} {df:List Deferred} {w:World}
def LoopQ (I:Nat→Act→World→Prop) (J:Act→World→Prop) (Q:Exit→Act→World→Prop) (b n:Nat):Exit→Act→World→Prop
 | .normal,a,w=>∃m,m<n∧I m a w
 | .exit i,a,w=>if i=b then J a w else Q (.exit i) a w
 |e,a,w=>Q e a w
theorem loop_block {b:Nat} {c:Code} {a:Act} (I:Nat→Act→World→Prop) (J:Act→World→Prop) (n:Nat) (h0:I n a w)
    (hr:∀n a w,I n a w→c.wp P (LoopQ I J Q b n) a w) (hJ:∀a w,J a w→Q .normal a w):(Code.block b (Code.loop c)).wp P Q a w:=by
  refine wp_block (wp_loop_ghost I n h0 (fun n a w hI=>wp_mono (hr n a w hI) ?_))
  intro e a w hq
  cases e with
  |normal=>exact hq
  | exit i =>
    simp only [LoopQ] at hq
    show Exit.inBlock b Q (.exit i) a w
    simp only [Exit.inBlock]
    split at hq
    · rename_i h;rw [if_pos h];exact hJ _ _ hq
    · rename_i h;rw [if_neg h];exact hq
  |_=>exact hq
theorem ret_loop {I:Nat→Act→World→Prop} {J:Act→World→Prop} {b n:Nat} {a:Act} (h:Q .ret a w):LoopQ I J Q b n .ret a w:=h
theorem exit_loop {I:Nat→Act→World→Prop} {J:Act→World→Prop} {b n:Nat} {a:Act} (h:J a w):LoopQ I J Q b n (.exit b) a w:=by simp only [LoopQ,if_true];exact h
theorem exit_then {K:Act→World→Prop} {i:Nat} {a:Act} (h:Q (.exit i) a w):Exit.then K Q (.exit i) a w:=h
theorem exit_block {i:Nat} {a:Act} (h:Q .normal a w):Exit.inBlock i Q (.exit i) a w:=by simp only [Exit.inBlock,if_true];exact h
theorem exit_block_out {i j:Nat} {a:Act} (hi:i≠j) (h:Q (.exit i) a w):Exit.inBlock j Q (.exit i) a w:=by simp only [Exit.inBlock,if_neg hi];exact h
theorem norm_then {K:Act→World→Prop} {a:Act} (h:K a w):Exit.then K Q .normal a w:=h
theorem norm_block {i:Nat} {a:Act} (h:Q .normal a w):Exit.inBlock i Q .normal a w:=h
theorem undef_ne_bool (b:Bool):Value.bool b≠undef:=by unfold undef;simp
theorem yielded_at {ops:Array Oper} {j:Nat} {d:Tmp} {tmps:Array Value} {b:Bool} (hd:(ops[j]?).bind (·.dst)=some d) (hv:tmps.getD d undef= .bool b):
  yielded ops tmps j=some b:=by
 unfold yielded
 rw [hd]
 have:tmps[d]?=some (.bool b):=by
  rw [Array.getD_eq_getD_getElem?] at hv
  cases h:tmps[d]? with
  |none=>rw [h] at hv;exact absurd hv.symm (undef_ne_bool b)
  |some u=>rw [h] at hv;simpa using hv
 simp [this]
theorem yielded_undef {ops:Array Oper} {j:Nat} {d:Tmp} {tmps:Array Value} (hd:(ops[j]?).bind (·.dst)=some d) (hv:tmps.getD d undef=undef):yielded ops tmps j=none:=by
  unfold yielded
  rw [hd]
  rw [Array.getD_eq_getD_getElem?] at hv
  cases h:tmps[d]? with
  |none=>simp [h]
  | some u =>
    rw [h] at hv
    simp only [Option.getD_some] at hv
    subst hv
    simp [h,undef]
theorem wanted_at {ops:Array Oper} {o:Oper} {j:Nat} {d:Tmp} {want b c:Bool} {tmps:Array Value} (hg:o.guard=some (j,want)) (hd:(ops[j]?).bind (·.dst)=some d)
  (hv:tmps.getD d undef=gv c (.bool b)):Region.wanted o (yielded ops tmps)=(c&&(b==want)):=by
 unfold Region.wanted
 rw [hg]
 cases c with
 |true=>simp only [yielded_at hd hv];simp
 |false=>simp only [yielded_undef hd hv];simp
theorem run_g {ops:Array Oper} {o:Oper} {os:List Oper} {d e:Tmp} {j:Nat} {want b c:Bool} {v:Value} (hg:o.guard=some (j,want)) (hj:(ops[j]?).bind (·.dst)=some e)
    (hv:l.getD e undef=gv c (.bool b)) (hd:o.dst=some d) (h:(c&&(b==want))=true→Does P o (ev l) w (.eq v))
    (k:∀w',Ext w w'→run P ops Q df os (l.set d (gv (c&&(b==want)) v)) w'):run P ops Q df (o::os) l w:=by
  have hw:Region.wanted o (yielded ops (⟨l.toArray,df⟩:Act).tmps)=(c&&(b==want)):=wanted_at hg hj (by simpa using hv)
  unfold run at*
  rw [←ev_eq l df] at h
  simp only [wpList]
  rw [hw]
  cases hc:(c&&(b==want)) with
  | true =>
    rw [if_pos rfl]
    refine .inl ((h hc).wp (fun u w' hu hE=>?_))
    rw [hd,put_list,show u=v from hu]
    have:=k w' hE
    rw [hc] at this
    exact this
  | false =>
    rw [if_neg (by simp),hd,put_list]
    have:=k w (Ext.rfl' w)
    rw [hc] at this
    exact this
theorem run_g_same {ops:Array Oper} {o:Oper} {os:List Oper} {d e:Tmp} {j:Nat} {want b c:Bool} {v:Value} (hg:o.guard=some (j,want)) (hj:(ops[j]?).bind (·.dst)=some e)
    (hv:l.getD e undef=gv c (.bool b)) (hd:o.dst=some d) (h:(c&&(b==want))=true→(execOp (ev l) o).run P w= .ok (.value v) w)
    (k:run P ops Q df os (l.set d (gv (c&&(b==want)) v)) w):run P ops Q df (o::os) l w:=by
  have hw:Region.wanted o (yielded ops (⟨l.toArray,df⟩:Act).tmps)=(c&&(b==want)):=wanted_at hg hj (by simpa using hv)
  unfold run at*
  simp only [wpList]
  rw [hw]
  cases hc:(c&&(b==want)) with
  | true =>
    rw [if_pos rfl]
    refine .inl ?_
    unfold Oper.wp
    rw [ev_eq,h hc]
    simp only [Oper.upon,hd,put_list]
    rw [hc] at k
    exact k
  | false =>
    rw [if_neg (by simp),hd,put_list]
    rw [hc] at k
    exact k
end
section
variable {P:Program} {ops:Array Oper} {sps:List Sp} {a:Act} {w:World}
def ObOne (P : Program) (ops : Array Oper) (sps : List Sp) (a : Act) (w : World) (o : Oper) (s : Sp) : Prop :=
  ∀ (a' : Act) (w' : World), Ext w w' → (∀ t, (o.looksAt ops).contains t = true → known ops sps a t w' (a'.tmps.getD t undef)) →
    if Region.wanted o (yielded ops a'.tmps)=true then Does P o a'.eval w' s else s.holds w' undef
def ObL (P:Program) (ops:Array Oper) (sps:List Sp) (a:Act) (w:World):List Oper→List Sp→Prop
 |o::os,s::ss=>ObOne P ops sps a w o s∧ObL P ops sps a w os ss
 |_,_=>True
theorem obs_of {os : List Oper} (ho : ops = os.toArray) (h : ObL P ops sps a w os sps) (hl : sps.length ≤ os.length) : ∀ i, i < sps.length → Ob P ops sps a w i := by
  have key:∀(k:Nat) (os':List Oper) (ss:List Sp),ObL P ops sps a w os' ss→(∀j,os'[j]?=os[k+j]?)→(∀j,ss[j]?=sps[k+j]?)→∀i,i<ss.length→Ob P ops sps a w (k+i):=by
    intro k os' ss
    induction ss generalizing k os' with
    |nil=>intro _ _ _ i hi;simp at hi
    | cons s ss ih =>
      intro h h1 h2 i hi
      cases os' with
      | nil =>
        have h3:=h1 0
        have h4:=h2 0
        simp only [List.getElem?_nil,Nat.add_zero,List.getElem?_cons_zero] at h3 h4
        have:=(List.getElem?_eq_some_iff.1 h4.symm).1
        have:=List.getElem?_eq_none_iff.1 h3.symm
        omega
      | cons o os' =>
        obtain ⟨ha,hb⟩:=h
        cases i with
        | zero =>
          intro o' ho' a' w' hE hk
          have h3:=h1 0
          have h4:=h2 0
          simp only [List.getElem?_cons_zero,Nat.add_zero] at h3 h4
          have:o'=o:=by
            rw [ho,Nat.add_zero] at ho'
            simp only [List.getElem?_toArray] at ho'
            rw [←h3] at ho'
            exact (Option.some.inj ho').symm
          subst this
          have hs:sps.getD (k+0) (.eq undef)=s:=by rw [List.getD_eq_getElem?_getD,Nat.add_zero,←h4];rfl
          rw [hs]
          exact ha a' w' hE hk
        | succ i =>
          have:=ih (k+1) os' hb (fun j=>by have:=h1 (j+1);rw [List.getElem?_cons_succ] at this;rw [this];congr 1;omega)
            (fun j=>by have:=h2 (j+1);rw [List.getElem?_cons_succ] at this;rw [this];congr 1;omega) i (by simpa using hi)
          rwa [show k+1+i=k+(i+1) by omega] at this
  intro i hi
  have:=key 0 os sps h (fun j=>by rw [Nat.zero_add]) (fun j=>by rw [Nat.zero_add]) i hi
  rwa [Nat.zero_add] at this
theorem drawn {Q:Exit→Act→World→Prop} {id:Nat} {os:List Oper} {l:List Value} {df:List Deferred} (sps:List Sp) (ds:List Tmp) (hmix:P.follows .mixedOrders=true)
  (hf:formOk os.toArray sps.length l.length=true) (hd:(os.take sps.length).map (·.dst)=ds.map some) (hst:∀s∈sps,s.Stable)
  (hob:ObL P os.toArray sps ⟨l.toArray,df⟩ w os sps)
  (hend:∀w',Ext w w'→finL (fun l w=>run P os.toArray Q df (os.drop sps.length) l w) (ds.zip sps) l w'):(Code.region id os.toArray true).wp P Q ⟨l.toArray,df⟩ w:=by
 have h1:=(formOk_parts hf).1
 refine wp_phi sps hmix (by simpa using hf) hst (obs_of rfl hob (by simpa using h1)) (fun w' hE=>?_)
 exact fin_of_finL _ _ ds l w' hd (hend w' hE)
theorem stable_nil:∀s∈([]:List Sp),s.Stable:=fun _ h=>by cases h
theorem stable_eq {v:Value} {r:List Sp} (h:∀s∈r,s.Stable):∀s∈Sp.eq v::r,s.Stable:=fun s hs=>by
 rcases List.mem_cons.1 hs with rfl|hs
 ·trivial
 ·exact h s hs
theorem stable_ex {φ:World→Value→Prop} {r:List Sp} (hφ:∀w w' v,Ext w w'→φ w v→φ w' v) (h:∀s∈r,s.Stable):∀s∈Sp.ex φ::r,s.Stable:=fun s hs=>by
 rcases List.mem_cons.1 hs with rfl|hs
 ·exact hφ
 ·exact h s hs
theorem ob_plain {o:Oper} {s:Sp} (hg:o.guard=none) (h:∀(a':Act) (w':World),Ext w w'→(∀t,(o.looksAt ops).contains t=true→known ops sps a t w' (a'.tmps.getD t undef))→Does P o a'.eval w' s):
  ObOne P ops sps a w o s:=fun a' w' hE hk=>by
 rw [show Region.wanted o (yielded ops a'.tmps)=true by simp [Region.wanted,hg],if_pos rfl]
 exact h a' w' hE hk
theorem ob_guard {o:Oper} {j:Nat} {d:Tmp} {want b c:Bool} {v:Value} (hg:o.guard=some (j,want)) (hd:(ops[j]?).bind (·.dst)=some d)
  (hl:(o.looksAt ops).contains d=true) (hv:∀w' u,known ops sps a d w' u→u=gv c (.bool b))
  (h:∀(a':Act) (w':World),Ext w w'→(∀t,(o.looksAt ops).contains t=true→known ops sps a t w' (a'.tmps.getD t undef))→(c&&(b==want))=true→Does P o a'.eval w' (.eq v)):
  ObOne P ops sps a w o (.eq (gv (c&&(b==want)) v)):=fun a' w' hE hk=>by
 rw [wanted_at hg hd (hv w' _ (hk d hl))]
 cases hc:(c&&(b==want)) with
 |true=>rw [if_pos rfl];exact h a' w' hE hk hc
 |false=>rw [if_neg (by simp)];rfl
end
abbrev View:=Addr→Option Value
def Sub (h h':View):Prop:=∀a v,h a=some v→h' a=some v
def Sees (h:View) (w:World):Prop:=∀a v,h a=some v→w.cell? a=some v
def Gr (n:Nat) (h h':View):Prop:=Sub h h'∧∀a,a.block<n→h' a=h a
def VCells (h:View) (a:Addr) (cs:List Value):Prop:=∀j v,cs[j]?=some v→h (a.add j)=some v
theorem Sub.rfl' (h:View):Sub h h:=fun _ _ x=>x
theorem Sub.then {a b c:View} (h:Sub a b) (k:Sub b c):Sub a c:=fun x v e=>k x v (h x v e)
theorem Gr.rfl' (n:Nat) (h:View):Gr n h h:=⟨Sub.rfl' h,fun _ _=>rfl⟩
theorem Gr.then {m n:Nat} {a b c:View} (h:Gr m a b) (k:Gr n b c) (hn:m≤n):Gr m a c:=
 ⟨h.1.then k.1,fun x hx=>(k.2 x (Nat.lt_of_lt_of_le hx hn)).trans (h.2 x hx)⟩
theorem Gr.mono {m n:Nat} {a b:View} (h:Gr n a b) (hn:m≤n):Gr m a b:=⟨h.1,fun x hx=>h.2 x (Nat.lt_of_lt_of_le hx hn)⟩
theorem Sees.ext {h:View} {w w':World} (hs:Sees h w) (hE:Ext w w'):Sees h w':=fun a v e=>cell_ext (hs a v e) hE
theorem VCells.sub {h h':View} {a:Addr} {cs:List Value} (hc:VCells h a cs) (hs:Sub h h'):VCells h' a cs:=fun j v e=>hs _ _ (hc j v e)
theorem VCells.sees {h:View} {w:World} {a:Addr} {cs:List Value} (hc:VCells h a cs) (hs:Sees h w):CellsAt w a cs:=fun j v e=>hs _ _ (hc j v e)
theorem VCells.part {h:View} {a:Addr} {cs:List Value} (hc:VCells h a cs) (m n:Nat):VCells h (a.add m) ((cs.drop m).take n):=by
 intro j v hj
 rw [addadd]
 refine hc (m+j) v ?_
 rw [List.getElem?_take] at hj
 split at hj
 ·rwa [List.getElem?_drop] at hj
 ·cases hj
theorem VCells.cell {h:View} {w:World} {a:Addr} {cs:List Value} {v:Value} (hc:VCells h a cs) (hs:Sees h w) (m:Nat) (hv:cs[m]?=some v):w.cell? (a.add m)=some v:=hs _ _ (hc m v hv)
theorem VCells.cell0 {h:View} {w:World} {a:Addr} {cs:List Value} {v:Value} (hc:VCells h a cs) (hs:Sees h w) (hv:cs[0]?=some v):w.cell? a=some v:=by
 have:=hc.cell hs 0 hv
 rwa [show a.add 0=a by unfold Addr.add;split<;>simp_all] at this
structure Kd (α:Type) where
 sz:Nat
 K:View→α→List Value→Prop
 len:∀{w x cs},K w x cs→cs.length=sz
 ext:∀{w w':View} {x cs},Sub w w'→K w x cs→K w' x cs
def Rd {α:Type} (d:Kd α) (h:View) (A:Option Addr) (xs:List α):Prop:=
 xs.length≤9223372036854775807∧(0<xs.length→∃ad,A=some ad∧∀(i:Nat) x,xs[i]?=some x→∃cs,d.K h x cs∧VCells h (ad.add (i*d.sz)) cs)
theorem Rd.ext {α:Type} {d:Kd α} {w w':View} {A:Option Addr} {xs:List α} (h:Rd d w A xs) (hE:Sub w w'):Rd d w' A xs:=
 ⟨h.1, fun hn => by
  obtain ⟨ad,e,hc⟩:=h.2 hn
  exact ⟨ad, e, fun i x hx => by
   obtain ⟨cs,hK,hcs⟩:=hc i x hx
   exact ⟨cs, d.ext hE hK, hcs.sub hE⟩⟩⟩
theorem Rd.nil {α:Type} (d:Kd α) (w:View) (A:Option Addr):Rd d w A ([]:List α):=⟨by simp,fun h=>by simp at h⟩
theorem Rd.get {α:Type} {d:Kd α} {w:View} {A:Option Addr} {xs:List α} (h:Rd d w A xs) (z:α) {i:Int} (h0:0≤i) (h1:i<xs.length):
  ∃ad cs,A=some ad∧d.K w (rd z xs i) cs∧VCells w (ad.add (i.toNat*d.sz)) cs:=by
 obtain ⟨ad,e,hc⟩:=h.2 (by omega)
 have hi:i.toNat<xs.length:=by omega
 obtain ⟨cs,hK,hcs⟩:=hc i.toNat xs[i.toNat] (by simp [hi])
 exact ⟨ad,cs,e,by unfold rd;rw [List.getD_eq_getElem?_getD,List.getElem?_eq_getElem hi];exact hK,hcs⟩
theorem Rd.drop {α:Type} {d:Kd α} {w:View} {ad:Addr} {xs:List α} (h:Rd d w (some ad) xs) (m:Nat):Rd d w (some (ad.add (m*d.sz))) (xs.drop m):=
 ⟨by have := h.1; simp; omega, fun hn => by
  obtain ⟨ad',e,hc⟩:=h.2 (by simp at hn;omega)
  obtain rfl:=Option.some.inj e
  refine ⟨_,rfl,fun i x hx=>?_⟩
  obtain ⟨cs,hK,hcs⟩:=hc (m+i) x (by simpa using hx)
  refine ⟨cs,hK,?_⟩
  rw [addadd,←Nat.add_mul]
  exact hcs⟩
theorem Rd.take {α:Type} {d:Kd α} {w:View} {A:Option Addr} {xs:List α} (h:Rd d w A xs) (m:Nat):Rd d w A (xs.take m):=
 ⟨by have := h.1; simp; omega, fun hn => by
  obtain ⟨ad,e,hc⟩:=h.2 (by simp at hn;omega)
  refine ⟨ad,e,fun i x hx=>hc i x ?_⟩
  rw [List.getElem?_take] at hx
  split at hx
  ·exact hx
  ·cases hx⟩
namespace Kd
def scalar {α:Type} (enc:α→Value):Kd α where
 sz:=1
 K:=fun _ x cs=>cs=[enc x]
 len:=fun h=>by rw [h];rfl
 ext:=fun _ h=>h
def int (k:IntKind):Kd Int:=scalar (Value.int k)
def bool:Kd Bool:=scalar Value.bool
def str:Kd ByteArray:=scalar Value.string
def slice {α:Type} (d:Kd α):Kd (List α) where
 sz:=1
 K:=fun w xs cs=>∃A c,cs=[.slice A xs.length c]∧xs.length≤c∧Rd d w A xs
 len:=by rintro w x cs ⟨A,c,rfl,_⟩;rfl
 ext:=by rintro w w' x cs hE ⟨A,c,rfl,hl,hr⟩;exact ⟨A,c,rfl,hl,hr.ext hE⟩
def pair {α β:Type} (a:Kd α) (b:Kd β):Kd (α×β) where
 sz:=a.sz+b.sz
 K:=fun w x cs=>∃c0 c1,cs=c0++c1∧a.K w x.1 c0∧b.K w x.2 c1
 len:=by rintro w x cs ⟨c0,c1,rfl,h0,h1⟩;rw [List.length_append,a.len h0,b.len h1]
 ext:=by rintro w w' x cs hE ⟨c0,c1,rfl,h0,h1⟩;exact ⟨c0,c1,rfl,a.ext hE h0,b.ext hE h1⟩
def iso {α β:Type} (d:Kd α) (f:β→α):Kd β where
 sz:=d.sz
 K:=fun w x cs=>d.K w (f x) cs
 len:=d.len
 ext:=d.ext
end Kd
theorem ld_int {k:IntKind} {w:View} {A:Option Addr} {xs:List Int} {i:Int} (h:Rd (Kd.int k) w A xs) (h0:0≤i) (h1:i<xs.length):
  ∃ad,A=some ad∧VCells w (ad.add (i.toNat*1)) [.int k (rd 0 xs i)]:=by
 obtain ⟨ad,cs,e,hK,hc⟩:=h.get 0 h0 h1
 obtain rfl:cs=_:=hK
 exact ⟨ad,e,hc⟩
theorem ld_str {w:View} {A:Option Addr} {xs:List ByteArray} {i:Int} (h:Rd Kd.str w A xs) (h0:0≤i) (h1:i<xs.length):
  ∃ad,A=some ad∧VCells w (ad.add (i.toNat*1)) [.string (rd ByteArray.empty xs i)]:=by
 obtain ⟨ad,cs,e,hK,hc⟩:=h.get ByteArray.empty h0 h1
 obtain rfl:cs=_:=hK
 exact ⟨ad,e,hc⟩
theorem and_i {a b w:Bool} (ha:a=true) (hb:b=w):(a&&(b==w))=true:=by subst ha;subst hb;simp
section
variable {P:Program} {ρ:Operand→Value} {w:World} {dst:Option Tmp} {ty:TypeId} {pos:String} {after:Array Edge} {guard:Option (Nat×Bool)}
theorem map1 {a:Operand} {x:Value} (h:ρ a=x):[a].map ρ=[x]:=by simp [h]
theorem map2 {a b:Operand} {x y:Value} (h:ρ a=x) (h2:ρ b=y):[a,b].map ρ=[x,y]:=by simp [h,h2]
theorem map3 {a b c:Operand} {x y z:Value} (h:ρ a=x) (h2:ρ b=y) (h3:ρ c=z):[a,b,c].map ρ=[x,y,z]:=by simp [h,h2,h3]
theorem r_move {x:Operand} {v:Value} (hx:ρ x=v):(execOp ρ ⟨dst, .move x,ty,pos,after,guard⟩).run P w= .ok (.value v) w:=by subst hx;rfl
theorem r_assign {x:Operand} {v:Value} (hx:ρ x=v):(execOp ρ ⟨dst, .assign x,ty,pos,after,guard⟩).run P w= .ok (.value v) w:=by subst hx;rfl
theorem r_not {x:Operand} {b:Bool} {t:TypeId} (hx:ρ x= .bool b):(execOp ρ ⟨dst, .unOp .not t x,ty,pos,after,guard⟩).run P w= .ok (.value (.bool (!b))) w:=by
 simp [execOp,hx,Op.unary]
theorem r_neg {x:Operand} {k:IntKind} {n:Int} {t:TypeId} (hx:ρ x= .int k n):(execOp ρ ⟨dst, .unOp .neg t x,ty,pos,after,guard⟩).run P w= .ok (.value (.int k (k.wrap (0-n)))) w:=by
 simp [execOp,hx,Op.unary,Op.intArith]
theorem r_extract {x:Operand} {i:Nat} {vs:Array Value} {v:Value} (hx:ρ x= .tuple vs) (hv:vs[i]?=some v):(execOp ρ ⟨dst, .extract x i,ty,pos,after,guard⟩).run P w= .ok (.value v) w:=by
 simp [execOp,hx,Instr.extract,hv]
theorem r_pick_and {c x y:Operand} {b e:Bool} (hc:ρ c= .bool b) (hx:b=true→ρ x= .bool e) (hy:ρ y= .bool false):
  (execOp ρ ⟨dst, .pick c x y,ty,pos,after,guard⟩).run P w= .ok (.value (.bool (b&&e))) w:=by
 cases b<;>simp [execOp,hc,asBool,hy]
 exact hx rfl
theorem r_pick_or {c x y:Operand} {b e:Bool} (hc:ρ c= .bool b) (hx:ρ x= .bool true) (hy:b=false→ρ y= .bool e):
  (execOp ρ ⟨dst, .pick c x y,ty,pos,after,guard⟩).run P w= .ok (.value (.bool (b||e))) w:=by
 cases b<;>simp [execOp,hc,asBool,hx]
 exact hy rfl
theorem r_field {t:TypeId} {x:Operand} {f:Nat} {fs:Array Field} {F:Field} {cs:Array Value} {v:Value} (hx:ρ x= .agg cs)
  (hu:∀w,(underlying t).run P w= .ok (.struct fs) w) (hf:fs[f]?=some F) (hA:∀w,(isAgg F.type).run P w= .ok false w) (hv:cs[F.offset]?=some v):
  (execOp ρ ⟨dst, .field t x f,ty,pos,after,guard⟩).run P w= .ok (.value v) w:=by
 simp [execOp,Instr.field,hx,hu,hf,asAgg,part,hA,hv]
def binP:BinOp→Value→Value→Option Value
 | .add, .int k a, .int j b=>if k=j then some (.int k (k.wrap (a+b))) else none
 | .sub, .int k a, .int j b=>if k=j then some (.int k (k.wrap (a-b))) else none
 | .mul, .int k a, .int j b=>if k=j then some (.int k (k.wrap (a*b))) else none
 | .eql, .int k a, .int j b=>if k=j then some (.bool (a==b)) else none
 | .neq, .int k a, .int j b=>if k=j then some (.bool (a !=b)) else none
 | .lss, .int k a, .int j b=>if k=j then some (.bool (decide (a<b))) else none
 | .leq, .int k a, .int j b=>if k=j then some (.bool (decide (a≤b))) else none
 | .gtr, .int k a, .int j b=>if k=j then some (.bool (decide (a>b))) else none
 | .geq, .int k a, .int j b=>if k=j then some (.bool (decide (a≥b))) else none
 | .eql, .string a, .string b=>some (.bool (a.toList==b.toList))
 | .neq, .string a, .string b=>some (.bool (!(a.toList==b.toList)))
 |_,_,_=>none
theorem r_bin {op:BinOp} {t t2:TypeId} {x y:Operand} {vx vy v:Value} (hx:ρ x=vx) (hy:ρ y=vy) (h:binP op vx vy=some v):
  (execOp ρ ⟨dst, .binOp op t x y t2,ty,pos,after,guard⟩).run P w= .ok (.value v) w:=by
 subst hx hy
 unfold binP at h
 split at h<;>first|(split at h<;>first|(rename_i e1 e2 e3;injection h with h;subst h;subst e3;simp [execOp,eqGuard,binOp,Op.intArith,Op.intCmp,e1,e2])|cases h)|(rename_i e1 e2;injection h with h;subst h;simp [execOp,eqGuard,binOp,Op.stringOp,e1,e2])|cases h
theorem r_stradd {t t2:TypeId} {x y:Operand} {a b:ByteArray} (hx:ρ x= .string a) (hy:ρ y= .string b) (h:a.size+b.size≤9223372036854775807):
  (execOp ρ ⟨dst, .binOp .add t x y t2,ty,pos,after,guard⟩).run P w= .ok (.value (.string (a++b))) w:=by
 have:¬(((a.size+b.size:Nat):Int)>IntKind.i64.max):=by
  simp only [IntKind.max,IntKind.signed,IntKind.bits]
  omega
 simp only [execOp,eqGuard,binOp,hx,hy,Op.stringOp]
 rw [if_neg this]
 simp
end
theorem nt {b:Bool} (h:b=false):¬b=true:=by simp [h]
section
variable {P:Program} {Q:Exit→Act→World→Prop} {l l0:List Value} {df:List Deferred} {w:World} {ds:List Tmp}
def At (l0:List Value) (df:List Deferred) (ds:List Tmp) (R:List Value→World→Prop) (a:Act) (w:World):Prop:=∃us,a=⟨(patch l0 ds us).toArray,df⟩∧R us w
theorem loop_patch {b:Nat} {c:Code} (ds:List Tmp) (I:Nat→List Value→World→Prop) (J:List Value→World→Prop) (n:Nat) (us0:List Value) (hp:patch l0 ds us0=l0) (h0:I n us0 w)
  (hr:∀n us w,I n us w→c.wp P (LoopQ (fun m=>At l0 df ds (I m)) (At l0 df ds J) Q b n) ⟨(patch l0 ds us).toArray,df⟩ w)
  (hJ:∀us w,J us w→Q .normal ⟨(patch l0 ds us).toArray,df⟩ w):(Code.block b (Code.loop c)).wp P Q ⟨l0.toArray,df⟩ w:=
 loop_block (fun m=>At l0 df ds (I m)) (At l0 df ds J) n ⟨us0,by rw [hp],h0⟩ (fun n a w ⟨us,ha,h⟩=>by subst ha;exact hr n us w h) (fun a w ⟨us,ha,h⟩=>by subst ha;exact hJ us w h)
theorem again {I:Nat→List Value→World→Prop} {J:Act→World→Prop} {b n:Nat} (m:Nat) (us:List Value) (hm:m<n) (he:patch l0 ds us=l) (h:I m us w):
  LoopQ (fun m=>At l0 df ds (I m)) J Q b n .normal ⟨l.toArray,df⟩ w:=⟨m,hm,us,by rw [he],h⟩
theorem leave {I:Nat→Act→World→Prop} {J:List Value→World→Prop} {b n:Nat} (us:List Value) (he:patch l0 ds us=l) (h:J us w):
  LoopQ I (At l0 df ds J) Q b n (.exit b) ⟨l.toArray,df⟩ w:=exit_loop ⟨us,by rw [he],h⟩
theorem cut_patch {x:Code} {K:Act→World→Prop} (ds:List Tmp) (J:List Value→World→Prop) (h:x.wp P (Exit.then (At l0 df ds J) Q) ⟨l0.toArray,df⟩ w)
    (k:∀us w,J us w→K ⟨(patch l0 ds us).toArray,df⟩ w):x.wp P (Exit.then K Q) ⟨l0.toArray,df⟩ w:=by
  refine wp_mono h ?_
  intro e a w hq
  cases e with
  | normal =>
    obtain ⟨us,ha,hJ⟩:=hq
    subst ha
    exact k us _ hJ
  |_=>exact hq
theorem met {J:List Value→World→Prop} (us:List Value) (he:patch l0 ds us=l) (h:J us w):Exit.then (At l0 df ds J) Q .normal ⟨l.toArray,df⟩ w:=⟨us,by rw [he],h⟩
end
structure ExtB (M:List Nat) (w w':World):Prop where
 os:w'.os=w.os
 tape:w'.tape=w.tape
 output:w'.output=w.output
 size:w.heap.size≤w'.heap.size
 block:∀k,k<w.heap.size→k∉M→w'.heap[k]?=w.heap[k]?
theorem ExtB.rfl' (M:List Nat) (w:World):ExtB M w w:=⟨rfl,rfl,rfl,Nat.le_refl _,fun _ _ _=>rfl⟩
theorem ExtB.then {M:List Nat} {a b c:World} (h:ExtB M a b) (k:ExtB M b c):ExtB M a c:=
 ⟨k.os.trans h.os,k.tape.trans h.tape,k.output.trans h.output,Nat.le_trans h.size k.size,fun i hi hM=>(k.block i (Nat.lt_of_lt_of_le hi h.size) hM).trans (h.block i hi hM)⟩
theorem Ext.toB {w w':World} (M:List Nat) (h:Ext w w'):ExtB M w w':=⟨h.os,h.tape,h.output,h.size,fun k hk _=>h.block k hk⟩
theorem ExtB.toE {w w':World} (h:ExtB [] w w'):Ext w w':=⟨h.os,h.tape,h.output,h.size,fun k hk=>h.block k hk (by simp)⟩
abbrev Res:=Option Nat×Obj
def Held (M:List Nat) (w0:World) (h:View) (w:World):Res→Prop
 |(none,_)=>True
 |(some b,o)=>w.heap[b]?=some o∧(w0.heap.size≤b∨b∈M)∧∀a,a.block=b→h a=none
def blocks (bs:List Res):List Nat:=bs.filterMap (·.1)
structure St (M:List Nat) (h0:View) (w0:World) (h:View) (bs:List Res) (w:World):Prop where
 sees:Sees h w
 gr:Gr w0.heap.size h0 h
 ext:ExtB M w0 w
 own:∀x∈bs,Held M w0 h w x
 nodup:(blocks bs).Nodup
section
variable {M:List Nat} {h0 h:View} {w0 w w':World} {bs:List Res}
theorem held_lt {b:Nat} {o:Obj} (hh:Held M w0 h w (some b,o)):b<w.heap.size:=(Array.getElem?_eq_some_iff.1 hh.1).1
theorem mem_blocks {b:Nat}:b∈blocks bs↔∃o,(some b,o)∈bs:=by
 unfold blocks
 simp only [List.mem_filterMap]
 constructor
 ·rintro ⟨⟨x,o⟩,hm,rfl⟩;exact ⟨o,hm⟩
 ·rintro ⟨o,hm⟩;exact ⟨_,hm,rfl⟩
theorem St.init (hs:Sees h w):St M h w h [] w:=⟨hs,Gr.rfl' _ _,ExtB.rfl' _ _,by simp,by simp [blocks]⟩
theorem St.step (H:St M h0 w0 h bs w) (hE:Ext w w'):St M h0 w0 h bs w':=
 ⟨H.sees.ext hE, H.gr, H.ext.then (hE.toB M), fun x hx => by
  have:=H.own x hx
  obtain ⟨b|b,o⟩:=x
  ·trivial
  ·exact ⟨heap_ext this.1 hE, this.2⟩, H.nodup⟩
theorem St.sub (H:St M h0 w0 h bs w):Sub h0 h:=H.gr.1
theorem St.toE (H:St [] h0 w0 h bs w):Ext w0 w:=H.ext.toE
theorem unseen (hs:Sees h w) {a:Addr} (hb:w.heap.size≤a.block):h a=none:=by
  cases e:h a with
  |none=>rfl
  | some v =>
    have:=World.block_lt_of_cell? w a (hs a v e)
    omega
theorem St.new (H:St M h0 w0 h bs w) {b:Nat} {o:Obj} (hE:Ext w w') (hge:w.heap.size≤b) (hb:w'.heap[b]?=some o):St M h0 w0 h ((some b,o)::bs) w':=by
 have H':=H.step hE
 refine ⟨H'.sees,H'.gr,H'.ext,?_,?_⟩
 ·intro x hx
  rcases List.mem_cons.1 hx with rfl|hx
  ·exact ⟨hb, .inl (Nat.le_trans H.ext.size hge),fun a ha=>unseen H.sees (by omega)⟩
  ·exact H'.own x hx
 ·show (b::blocks bs).Nodup
  refine List.nodup_cons.2 ⟨fun hm=>?_,H.nodup⟩
  obtain ⟨o',hm⟩:=mem_blocks.1 hm
  have:=held_lt (H.own _ hm)
  omega
theorem St.nothing (H:St M h0 w0 h bs w) (o:Obj):St M h0 w0 h ((none,o)::bs) w:=
 ⟨H.sees,H.gr,H.ext,fun x hx=>(List.mem_cons.1 hx).elim (fun e=>by subst e;trivial) (H.own x),H.nodup⟩
theorem St.look (H:St M h0 w0 h bs w) (i:Nat) {b:Nat} {o:Obj} (hi:bs[i]?=some (some b,o)):w.heap[b]?=some o:=(H.own _ (List.mem_of_getElem? hi)).1
theorem St.drop (H:St M h0 w0 h bs w) (i:Nat):St M h0 w0 h (bs.eraseIdx i) w:=
 ⟨H.sees,H.gr,H.ext,fun x hx=>H.own x (List.mem_of_mem_eraseIdx hx),((List.eraseIdx_sublist bs i).filterMap _).nodup H.nodup⟩
theorem St.fewer {bs':List Res} (H:St M h0 w0 h bs w) (hs:bs'.Sublist bs):St M h0 w0 h bs' w:=
 ⟨H.sees,H.gr,H.ext,fun x hx=>H.own x (hs.subset hx),(hs.filterMap _).nodup H.nodup⟩
theorem St.tail {x:Res} (H:St M h0 w0 h (x::bs) w):St M h0 w0 h bs w:=H.fewer (List.sublist_cons_self x bs)
theorem St.view {h1:View} (H:St M h0 w0 h bs w) (hE:Ext w w') (hg:Gr w.heap.size h h1) (hs:Sees h1 w'):St M h0 w0 h1 bs w':=by
 have H':=H.step hE
 refine ⟨hs,H.gr.then hg H.ext.size,H'.ext,?_,H.nodup⟩
 intro x hx
 have h1':=H'.own x hx
 have h2':=H.own x hx
 obtain ⟨b|b,o⟩:=x
 ·trivial
 ·refine ⟨h1'.1,h1'.2.1,fun a ha=>?_⟩
  have hl:=held_lt h2'
  exact (hg.2 a (by omega)).trans (h2'.2.2 a ha)
def setb (w:World) (b:Nat) (o:Obj):World:={w with heap:=w.heap.setIfInBounds b o}
theorem setb_at {b:Nat} {o:Obj} (hb:b<w.heap.size):(setb w b o).heap[b]?=some o:=by simp [setb,hb]
theorem setb_ne {b k:Nat} {o:Obj} (hk:k≠b):(setb w b o).heap[k]?=w.heap[k]?:=by
 simp only [setb];rw [Array.getElem?_setIfInBounds_ne (Ne.symm hk)]
theorem setb_cell {b:Nat} {o:Obj} {a:Addr} (ha:a.block≠b):(setb w b o).cell? a=w.cell? a:=by
 unfold World.cell?;rw [setb_ne ha]
theorem nodup_at : ∀ {bs : List Res} {i j : Nat} {b : Nat} {o o' : Obj}, (blocks bs).Nodup → bs[i]? = some (some b, o) → bs[j]? = some (some b, o') → i = j := by
  intro bs
  induction bs with
  |nil=>intro i j b o o' _ h;simp at h
  | cons x bs ih =>
    intro i j b o o' hn hi hj
    have tail:(blocks bs).Nodup:=by
      obtain ⟨c|c,ox⟩:=x
      · exact hn
      · exact (List.nodup_cons.1 hn).2
    have head:∀{k:Nat} {o1 o2:Obj},x=(some b,o1)→bs[k]?=some (some b,o2)→False:=by
      rintro k o1 o2 rfl hk
      exact (List.nodup_cons.1 hn).1 (mem_blocks.2 ⟨o2,List.mem_of_getElem? hk⟩)
    cases i with
    | zero =>
      cases j with
      |zero=>rfl
      | succ j =>
        simp only [List.getElem?_cons_zero,Option.some.injEq] at hi
        exact (head hi (by simpa using hj)).elim
    | succ i =>
      cases j with
      | zero =>
        simp only [List.getElem?_cons_zero,Option.some.injEq] at hj
        exact (head hj (by simpa using hi)).elim
      | succ j =>
        have hi':bs[i]?=some (some b,o):=by simpa using hi
        have hj':bs[j]?=some (some b,o'):=by simpa using hj
        rw [ih tail hi' hj']
theorem blocks_set {i b : Nat} {o o' : Obj} (hi : bs[i]? = some (some b, o)) : blocks (bs.set i (some b, o')) = blocks bs := by
  induction bs generalizing i with
  |nil=>rfl
  | cons x bs ih =>
    cases i with
    | zero =>
      simp only [List.getElem?_cons_zero,Option.some.injEq] at hi
      subst hi
      rfl
    | succ i =>
      have:=ih (i:=i) (by simpa using hi)
      show blocks (x::bs.set i _)=_
      obtain ⟨c|c,ox⟩:=x
      · exact this
      · show c::blocks (bs.set i _)=c::blocks bs
        rw [this]
theorem St.put (H : St M h0 w0 h bs w) (i : Nat) {b : Nat} {o : Obj} (o' : Obj) (hi : bs[i]? = some (some b, o)) : St M h0 w0 h (bs.set i (some b, o')) (setb w b o') := by
  have hh:=H.own _ (List.mem_of_getElem? hi)
  have hlt:=held_lt hh
  have hE:ExtB M w (setb w b o')∨∀k,k<w0.heap.size→k∉M→(setb w b o').heap[k]?=w.heap[k]?:=by
    right
    intro k hk hM
    refine setb_ne (fun e=>?_)
    subst e
    rcases hh.2.1 with hb|hb
    · omega
    · exact hM hb
  have hE:=hE.elim (fun x=>fun k hk hM=>x.block k (Nat.lt_of_lt_of_le hk H.ext.size) hM) id
  refine ⟨fun a v e=>?_,H.gr,⟨H.ext.os,H.ext.tape,H.ext.output,by simp [setb];exact H.ext.size,fun k hk hM=>(hE k hk hM).trans (H.ext.block k hk hM)⟩,?_,?_⟩
  · have hne:a.block≠b:=fun ha=>by have:=hh.2.2 a ha;rw [this] at e;cases e
    rw [setb_cell hne]
    exact H.sees a v e
  · intro x hx
    obtain ⟨j,hj⟩:=List.getElem?_of_mem hx
    clear hx
    rw [List.getElem?_set] at hj
    split at hj
    · split at hj
      · injection hj with hj
        subst hj
        exact ⟨setb_at hlt,hh.2⟩
      · cases hj
    · rename_i hne
      have h3:=H.own x (List.mem_of_getElem? hj)
      obtain ⟨c,ox⟩:=x
      cases c with
      |none=>trivial
      | some c =>
        refine ⟨?_,h3.2⟩
        rw [setb_ne (fun e=>hne ?_)]
        · exact h3.1
        · rw [e] at hj;exact nodup_at H.nodup hi hj
  · rw [blocks_set hi];exact H.nodup
def reveal (w:World) (h:View) (b:Nat):View:=fun a=>if a.block=b then w.cell? a else h a
theorem sub_reveal {b:Nat} (hn:∀a,a.block=b→h a=none):Sub h (reveal w h b):=fun a v e=>by
 unfold reveal
 have hne:a.block≠b:=fun ha=>by have:=hn a ha;rw [this] at e;cases e
 rw [if_neg hne]
 exact e
theorem St.pub {b : Nat} {o : Obj} (H : St [] h0 w0 h ((some b, o) :: bs) w) : St [] h0 w0 (reveal w h b) bs w ∧ Sub h (reveal w h b) ∧ ∀ a, a.block = b → reveal w h b a = w.cell? a := by
  have hh:=H.own (some b,o) (by simp)
  have hs:=sub_reveal (w:=w) hh.2.2
  refine ⟨⟨fun a v e=>?_,⟨H.gr.1.then hs,fun a ha=>?_⟩,H.ext,fun x hx=>?_,?_⟩,hs,fun a ha=>if_pos ha⟩
  · unfold reveal at e
    split at e
    · exact e
    · exact H.sees a v e
  · unfold reveal
    rw [if_neg (fun e=>?_)]
    · exact H.gr.2 a ha
    · rcases hh.2.1 with hb|hb
      · omega
      · simp at hb
  · have h1:=H.own x (by simp [hx])
    obtain ⟨c|c,ox⟩:=x
    · trivial
    · refine ⟨h1.1,h1.2.1,fun a ha=>?_⟩
      unfold reveal
      rw [if_neg (fun e=>?_)]
      · exact h1.2.2 a ha
      · have:c=b:=by omega
        subst this
        exact (List.nodup_cons.1 H.nodup).1 (mem_blocks.2 ⟨ox,hx⟩)
  · exact (List.nodup_cons.1 H.nodup).2
end
section
variable {P:Program} {ρ:Operand→Value} {w:World} {dst:Option Tmp} {ty:TypeId} {pos:String} {after:Array Edge} {guard:Option (Nat×Bool)}
theorem add_at (b o n:Nat):(⟨b,o,none⟩:Addr).add n=⟨b,o+n,none⟩:=by unfold Addr.add;split<;>simp_all
theorem r_fieldBox {s:TypeId} {x:Operand} {f n b o o':Nat} {fs:Array Field} {F:Field} (hx:ρ x= .pointer (some ⟨b,o,none⟩))
  (hu:∀w,(underlying s).run P w= .ok (.struct fs) w) (hf:fs[f]?=some F) (hs:∀w,(sizeOf F.type).run P w= .ok n w) (hn:n≠0) (ho:o+F.offset=o'):
  (execOp ρ ⟨dst, .fieldAddr s x f,ty,pos,after,guard⟩).run P w= .ok (.value (.pointer (some ⟨b,o',none⟩))) w:=by
 subst ho
 rw [←add_at]
 exact r_fieldAddr hx hu hf hs hn
theorem r_loadBox {t tt:TypeId} {x:Operand} {b o:Nat} {cs:List Value} {fr:Nat×Nat} {v:Value} (hx:ρ x= .pointer (some ⟨b,o,none⟩)) (hA:∀w,(isAgg t).run P w= .ok false w)
  (hb:w.heap[b]?=some (.cells cs.toArray tt fr)) (hv:cs[o]?=some v):
  (execOp ρ ⟨dst, .load t x,ty,pos,after,guard⟩).run P w= .ok (.value v) w:=by
 refine r_load hx hA ?_
 unfold World.cell?
 simp [hb,hv]
theorem r_loadBoxAgg {t tt:TypeId} {x:Operand} {b o n:Nat} {cs vs:List Value} {fr:Nat×Nat} (hx:ρ x= .pointer (some ⟨b,o,none⟩)) (hA:∀w,(isAgg t).run P w= .ok true w)
  (hb:w.heap[b]?=some (.cells cs.toArray tt fr)) (hs:∀w,(sizeOf t).run P w= .ok n w) (hv:(cs.drop o).take n=vs) (hn:vs.length=n):
  (execOp ρ ⟨dst, .load t x,ty,pos,after,guard⟩).run P w= .ok (.value (.agg vs.toArray)) w:=by
 subst hn
 refine r_loadAgg hx hA (fun j v hj=>?_) hs
 rw [←hv] at hj
 rw [add_at]
 unfold World.cell?
 rw [List.getElem?_take] at hj
 split at hj
 ·simp [hb]
  rwa [List.getElem?_drop] at hj
 ·cases hj
def putL:List Value→Nat→List Value→List Value
 |cs,_,[]=>cs
 |cs,o,v::vs=>putL (cs.set o v) (o+1) vs
theorem setCell_setb {b o:Nat} {c:Array Value} {t:TypeId} {fr:Nat×Nat} {v:Value} (hb:w.heap[b]?=some (.cells c t fr)):
  w.setCell ⟨b,o,none⟩ v=setb w b (.cells (c.setIfInBounds o v) t fr):=by
 unfold World.setCell setb
 congr 1
 apply Array.ext_getElem?
 intro k
 rw [Array.getElem?_modify,Array.getElem?_setIfInBounds]
 have hlt:=(Array.getElem?_eq_some_iff.1 hb).1
 by_cases hk:b=k
 ·subst hk;rw [if_pos rfl,hb];simp [hlt]
 ·simp [hk]
theorem setb_setb {b:Nat} {o o':Obj}:setb (setb w b o) b o'=setb w b o':=by
 unfold setb
 congr 1
 apply Array.ext_getElem?
 intro k
 simp only [Array.getElem?_setIfInBounds,Array.size_setIfInBounds]
 split<;>simp_all
theorem storeCells_run {b o : Nat} {t : TypeId} : ∀ (vs : List Value) (i : Nat) (cs : List Value) (w : World), w.heap[b]? = some (.cells cs.toArray t (0, 0)) → o + i + vs.length ≤ cs.length → vs.all (·.oneCell') = true →
    (storeCells ⟨b,o,none⟩ vs i).run P w= .ok () (if vs=[] then w else setb w b (.cells (putL cs (o+i) vs).toArray t (0,0))):=by
  intro vs
  induction vs with
  |nil=>intro i cs w _ _ _;simp [storeCells]
  | cons v vs ih =>
    intro i cs w hb hl h1
    simp only [List.all_cons,Bool.and_eq_true] at h1
    simp only [List.length_cons] at hl
    have hlt:=(Array.getElem?_eq_some_iff.1 hb).1
    have hcell:w.cell? ⟨b,o+i,none⟩=some (cs[o+i]'(by omega)):=by
      unfold World.cell?
      simp [hb]
    have hfr:w.frozen? ⟨b,o+i,none⟩=false:=by
      unfold World.frozen?
      simp [hb]
    have hst:∀{β:Type} (k:Unit→Sem β),((store (⟨b,o+i,none⟩:Addr) v)>>=k).run P w=(k ()).run P (setb w b (.cells (cs.set (o+i) v).toArray t (0,0))):=by
      intro β k
      have:w.setCell ⟨b,o+i,none⟩ v=setb w b (.cells (cs.set (o+i) v).toArray t (0,0)):=by
        rw [setCell_setb hb];simp
      rw [←this]
      cases v<;>first|(simp [Value.oneCell'] at h1;done)|simp [store,Sem.run,bind,Sem.bind,hcell,hfr,pure]
    have h2:=ih (i+1) (cs.set (o+i) v) (setb w b (.cells (cs.set (o+i) v).toArray t (0,0))) (setb_at hlt) (by simp;omega) h1.2
    simp only [storeCells]
    rw [add_at,hst,h2]
    simp only [reduceCtorEq,if_false]
    congr 1
    split
    · rename_i h;subst h;rfl
    · rw [setb_setb];rfl
variable {Q:Exit→Act→World→Prop} {l:List Value} {df:List Deferred} {ops:Array Oper} {os:List Oper} {M:List Nat} {h0 h:View} {w0:World} {bs bs':List Res}
theorem run_st {t tt:TypeId} {x y:Operand} {b o n i:Nat} {v:Value} {vs cs cs':List Value} (hx:ev l x= .pointer (some ⟨b,o,none⟩)) (hy:ev l y=v)
  (hs:∀w,(sizeOf t).run P w= .ok n w) (hv:v.cells=vs.toArray) (hn:vs.length=n) (h0n:n≠0) (h1:vs.all (·.oneCell')=true) (HS:St M h0 w0 h bs w)
  (hi:bs[i]?=some (some b, .cells cs.toArray tt (0,0))) (hl:o+n≤cs.length) (hp:putL cs o vs=cs') (hbs:bs.set i (some b, .cells cs'.toArray tt (0,0))=bs')
  (k:∀w',St M h0 w0 h bs' w'→run P ops Q df os l w'):run P ops Q df (⟨none, .store t x y,ty,pos,after,none⟩::os) l w:=by
 subst hn hp hbs
 have hb:=HS.look i hi
 have hrun:(execOp (ev l) ⟨none, .store t x y,ty,pos,after,none⟩).run P w= .ok .skip (setb w b (.cells (putL cs o vs).toArray tt (0,0))):=by
  have:=storeCells_run (P:=P) (b:=b) (o:=o) (t:=tt) vs 0 cs w hb (by omega) h1
  have hne:vs≠ []:=fun e=>h0n (by rw [e];rfl)
  rw [if_neg hne] at this
  simp [execOp,hx,hy,Instr.storeAt,Instr.sureAddr,storeVar,hv,hs,this]
 unfold run
 simp only [wpList,Region.wanted,if_true]
 refine .inl ?_
 unfold Oper.wp
 rw [ev_eq,hrun]
 exact k _ (HS.put i _ hi)
theorem does_alloc {t:TypeId} {v:Value} {cs:Array Value} (hz:∀w,(zeroValue t).run P w= .ok v w) (hv:v.cells=cs):
  Does P ⟨dst, .alloc t,ty,pos,after,guard⟩ ρ w (.ex fun w' u=>∃b,u= .pointer (some ⟨b,0,none⟩)∧w.heap.size≤b∧w'.heap[b]?=some (.cells cs t (0,0))):=by
 have hr:(execOp ρ ⟨dst, .alloc t,ty,pos,after,guard⟩).run P w= .ok (.value (.pointer (some ⟨w.heap.size,0,none⟩))) (w.alloc (.cells cs t)):=by
  have hn:Sem.run P (Sem.new (Obj.cells cs t) Sem.pure) w= .ok w.heap.size (w.alloc (.cells cs t)):=rfl
  simp [execOp,Instr.alloc,newVar,newRow,newObj,hz,hv,hn]
 unfold Does
 rw [hr]
 exact ⟨⟨_,rfl,Nat.le_refl _,heap_alloc_new w _⟩,Ext.new _ _⟩
end
def oneOf (tmps:Array Value):ResultVar→Sem Value
 | .tmp t=>pure (tmps.getD t undef)
 | .cell a t=>do loadVar t (←asAddr (tmps.getD a undef))
def OneRes (P:Program) (w:World) (tmps:Array Value) (r:ResultVar) (v:Value):Prop:=(oneOf tmps r).run P w= .ok v w
theorem results_eq (fn:Func) (tmps:Array Value):results fn tmps=(do let vs←fn.results.mapM (oneOf tmps);pure (if h:vs.size=1 then vs[0] else .tuple vs)):=by
 unfold results
 congr 1
section
variable {P:Program} {w:World} {tmps:Array Value} {fn:Func} {r1 r2 r3 r4:ResultVar} {v1 v2 v3 v4:Value}
theorem results_1 (h:fn.results=#[r1]) (h1:OneRes P w tmps r1 v1):(results fn tmps).run P w= .ok v1 w:=by
 rw [results_eq,h]
 unfold OneRes at*
 simp [h1]
theorem results_2 (h:fn.results=#[r1,r2]) (h1:OneRes P w tmps r1 v1) (h2:OneRes P w tmps r2 v2):(results fn tmps).run P w= .ok (.tuple #[v1,v2]) w:=by
 rw [results_eq,h]
 unfold OneRes at*
 simp [h1,h2]
theorem results_3 (h:fn.results=#[r1,r2,r3]) (h1:OneRes P w tmps r1 v1) (h2:OneRes P w tmps r2 v2) (h3:OneRes P w tmps r3 v3):(results fn tmps).run P w= .ok (.tuple #[v1,v2,v3]) w:=by
 rw [results_eq,h]
 unfold OneRes at*
 simp [h1,h2,h3]
theorem one_tmp {t:Tmp} {v:Value} (h:tmps.getD t undef=v):OneRes P w tmps (.tmp t) v:=by subst h;simp [OneRes,oneOf]
theorem one_agg {a:Tmp} {t tt:TypeId} {b n:Nat} {cs:List Value} {fr:Nat×Nat} (hp:tmps.getD a undef= .pointer (some ⟨b,0,none⟩)) (hA:∀w,(isAgg t).run P w= .ok true w)
  (hb:w.heap[b]?=some (.cells cs.toArray tt fr)) (hs:∀w,(sizeOf t).run P w= .ok n w) (hn:cs.length=n):OneRes P w tmps (.cell a t) (.agg cs.toArray):=by
 subst hn
 have := loadCellsFrom_run (P := P) (w := w) (a := ⟨b, 0, none⟩) cs 0 #[] (fun j v hj => by
  rw [Nat.zero_add,add_at]
  unfold World.cell?
  simp [hb]
  exact hj)
 simp [OneRes,oneOf,hp,asAddr,loadVar,hA,hs,loadCells,this]
theorem one_cell {a:Tmp} {t tt:TypeId} {b:Nat} {v:Value} {fr:Nat×Nat} (hp:tmps.getD a undef= .pointer (some ⟨b,0,none⟩)) (hA:∀w,(isAgg t).run P w= .ok false w)
  (hb:w.heap[b]?=some (.cells #[v] tt fr)):OneRes P w tmps (.cell a t) v:=by
 have hc:w.cell? ⟨b,0,none⟩=some v:=by unfold World.cell?;simp [hb]
 simp [OneRes,oneOf,hp,asAddr,loadVar,hA,load,run_load' hc]
end
section
variable {P:Program} {ρ:Operand→Value} {wz w:World} {dst:Option Tmp} {ty:TypeId} {pos:String} {after:Array Edge} {guard:Option (Nat×Bool)}
def NewBox (wz:World) (cs:Array Value) (t:TypeId):World→Value→Prop:=fun w' u=>∃b,u= .pointer (some ⟨b,0,none⟩)∧wz.heap.size≤b∧w'.heap[b]?=some (.cells cs t (0,0))
theorem NewBox.stable {cs:Array Value} {t:TypeId}:∀w w' v,Ext w w'→NewBox wz cs t w v→NewBox wz cs t w' v:=by
 rintro w w' v hE ⟨b,e,h1,h2⟩
 exact ⟨b,e,h1,heap_ext h2 hE⟩
theorem alloc_in (hE:Ext wz w) {t:TypeId} {v:Value} {cs:Array Value} (hz:∀w,(zeroValue t).run P w= .ok v w) (hv:v.cells=cs):Does P ⟨dst, .alloc t,ty,pos,after,guard⟩ ρ w (.ex (NewBox wz cs t)):=by
 have:=does_alloc (P:=P) (ρ:=ρ) (w:=w) (dst:=dst) (ty:=ty) (pos:=pos) (after:=after) (guard:=guard) hz hv
 unfold Does at this⊢
 split at this
 ·obtain ⟨⟨b,e,h1,h2⟩,h3⟩:=this;exact ⟨⟨b,e,Nat.le_trans hE.size h1,h2⟩,h3⟩
 ·exact this.mono fun e w1 ⟨v,e,⟨b,e1,h1,h2⟩,h3⟩=>⟨v,e,⟨b,e1,Nat.le_trans hE.size h1,h2⟩,h3⟩
 ·exact this.elim
def Gives (wz:World) (h:View) (R:View→Value→Prop):World→Value→Prop:=fun w' v=>∃h1,R h1 v∧Gr wz.heap.size h h1∧Sees h1 w'
theorem Gives.stable {h:View} {R:View→Value→Prop}:∀w w' v,Ext w w'→Gives wz h R w v→Gives wz h R w' v:=by
 rintro w w' v hE ⟨h1,r,g,s⟩
 exact ⟨h1,r,g,s.ext hE⟩
theorem gives_in {f:FuncId} {args:Array Value} {h:View} {R:View→Value→Prop} (hE:Ext wz w) (hc:Calls P f args w (fun e w1=>∃h1 v,e= .returned v∧R h1 v∧Gr w.heap.size h h1∧Sees h1 w1∧Ext w w1)):
  Calls P f args w (fun e w1=>∃v,e= .returned v∧(Sp.ex (Gives wz h R)).holds w1 v∧Ext w w1):=
 hc.mono fun e w1 ⟨h1,v,e1,r,g,s,x⟩=>⟨v,e1,⟨h1,r,g.mono hE.size,s⟩,x⟩
end
section
variable {P:Program} {ρ:Operand→Value} {w:World} {dst:Option Tmp} {ty:TypeId} {pos:String} {after:Array Edge} {guard:Option (Nat×Bool)}
theorem r_build {t:TypeId} {parts:Array (Nat×Operand)} {v:Value} {fs:Array Field} {cs:List Value} {pl:Array (Nat×Nat)} {ps:List (Nat×Value)}
  (hz:∀w,(zeroValue t).run P w= .ok v w) (hu:∀w,(underlying t).run P w= .ok (.struct fs) w) (hpl:∀w,(fs.mapM (m:=Sem) fun f=>do pure (f.offset,←sizeOf f.type)).run P w= .ok pl w)
  (hp:(parts.map fun x=>(x.1,ρ x.2)).toList=ps) (hf:Instr.fill (pl[·]?) v.cells ps=some cs.toArray):
  (execOp ρ ⟨dst, .build t parts,ty,pos,after,guard⟩).run P w= .ok (.value (.agg cs.toArray)) w:=by
 subst hp
 simp only [execOp,Instr.build,Sem.run_bind,hz,hu,hpl,Result.andThen_ok,hf]
 simp
theorem r_build0 {t:TypeId} {v:Value} {fs:Array Field} {cs:List Value} {pl:Array (Nat×Nat)}
  (hz:∀w,(zeroValue t).run P w= .ok v w) (hu:∀w,(underlying t).run P w= .ok (.struct fs) w) (hpl:∀w,(fs.mapM (m:=Sem) fun f=>do pure (f.offset,←sizeOf f.type)).run P w= .ok pl w)
  (hf:v.cells=cs.toArray):
  (execOp ρ ⟨dst, .build t #[],ty,pos,after,guard⟩).run P w= .ok (.value (.agg cs.toArray)) w:=r_build (ps:=[]) hz hu hpl (by simp) (by rw [hf];rfl)
end
def strEq (a b:ByteArray):Bool:=a.data.toList==b.data.toList
theorem data_inj {a b:ByteArray} (h:a.data.toList=b.data.toList):a=b:=by
 cases a;cases b;simp at h;simp [h]
theorem strEq_iff {a b:ByteArray}:strEq a b=true↔a=b:=by
 unfold strEq
 rw [beq_iff_eq]
 exact ⟨data_inj,fun h=>by rw [h]⟩
theorem loop_toList (s:ByteArray):∀(n i:Nat) (r:List UInt8),n=s.size-i→ByteArray.toList.loop s i r=r.reverse++s.data.toList.drop i:=by
  intro n
  induction n with
  | zero =>
    intro i r h
    unfold ByteArray.toList.loop
    have:s.data.toList.length=s.size:=Array.length_toList
    rw [if_neg (by omega),List.drop_eq_nil_of_le (by omega),List.append_nil]
  | succ n ih =>
    intro i r h
    unfold ByteArray.toList.loop
    have hl:s.data.toList.length=s.size:=Array.length_toList
    have hi:i<s.size:=by omega
    rw [if_pos hi,ih (i+1) _ (by omega)]
    have hd:s.data.toList.drop i=s.data.toList[i]'(by omega)::s.data.toList.drop (i+1):=List.drop_eq_getElem_cons (by omega)
    rw [hd]
    have:s.get! i=s.data.toList[i]'(by omega):=by
      have hi':i<s.data.size:=hi
      show s.data[i]! =_
      rw [getElem!_pos s.data i hi']
      exact (Array.getElem_toList hi').symm
    rw [this]
    simp
theorem toList_eq (s:ByteArray):s.toList=s.data.toList:=by
 unfold ByteArray.toList
 rw [loop_toList s _ 0 [] rfl]
 simp
section
variable {P:Program} {ρ:Operand→Value} {w:World} {dst:Option Tmp} {ty:TypeId} {pos:String} {after:Array Edge} {guard:Option (Nat×Bool)}
theorem r_streql {t t2:TypeId} {x y:Operand} {a b:ByteArray} (hx:ρ x= .string a) (hy:ρ y= .string b):
  (execOp ρ ⟨dst, .binOp .eql t x y t2,ty,pos,after,guard⟩).run P w= .ok (.value (.bool (strEq a b))) w:=by
 rw [r_bin hx hy rfl,toList_eq,toList_eq];rfl
theorem r_strneq {t t2:TypeId} {x y:Operand} {a b:ByteArray} (hx:ρ x= .string a) (hy:ρ y= .string b):
  (execOp ρ ⟨dst, .binOp .neq t x y t2,ty,pos,after,guard⟩).run P w= .ok (.value (.bool (!(strEq a b)))) w:=by
 rw [r_bin hx hy rfl,toList_eq,toList_eq];rfl
theorem equal_bool {t:TypeId} (hu:∀w,(underlying t).run P w= .ok .bool w) (a b:Bool):(Op.equal t (.bool a) (.bool b)).run P w= .ok (a==b) w:=by
 show (Op.equalIn (9999+1) t (.bool a) (.bool b)).run P w=_
 rw [Op.equalIn]
 simp only [Sem.run_bind,hu,Result.andThen_ok]
 rfl
theorem r_boolneq {t t2:TypeId} {x y:Operand} {a b:Bool} (hx:ρ x= .bool a) (hy:ρ y= .bool b) (hu:∀w,(underlying t).run P w= .ok .bool w):
  (execOp ρ ⟨dst, .binOp .neq t x y t2,ty,pos,after,guard⟩).run P w= .ok (.value (.bool (a !=b))) w:=by
 simp [execOp,eqGuard,binOp,hx,hy,equal_bool hu]
 cases a<;>cases b<;>rfl
theorem r_nilCheck {x:Operand} {a:Addr} (hx:ρ x= .pointer (some a)):(execOp ρ ⟨dst, .nilCheck x,ty,pos,after,guard⟩).run P w= .ok (.value (.pointer (some a))) w:=by
 simp [execOp,hx]
theorem r_indexA {t e:TypeId} {x i:Operand} {A:Option Addr} {a:Addr} {n c sz:Nat} {k:IntKind} {j:Int} (hx:ρ x= .slice A n c) (hA:A=some a) (hi:ρ i= .int k j) (h0:0≤j) (h1:j<n)
  (hu:∀w,(underlying t).run P w= .ok (.slice e) w) (hs:∀w,(sizeOf e).run P w= .ok sz w):
  (execOp ρ ⟨dst, .indexAddr t x i,ty,pos,after,guard⟩).run P w= .ok (.value (.pointer (some (a.add (j.toNat*sz))))) w:=by
 subst hA
 exact r_index hx hi h0 h1 hu hs
theorem r_fieldEl {s:TypeId} {x:Operand} {f n o':Nat} {fs:Array Field} {F:Field} {a:Addr} (hx:ρ x= .pointer (some a))
  (hu:∀w,(underlying s).run P w= .ok (.struct fs) w) (hf:fs[f]?=some F) (hs:∀w,(sizeOf F.type).run P w= .ok n w) (hn:n≠0) (ho:F.offset=o'):
  (execOp ρ ⟨dst, .fieldAddr s x f,ty,pos,after,guard⟩).run P w= .ok (.value (.pointer (some (a.add o')))) w:=by
 subst ho
 exact r_fieldAddr hx hu hf hs hn
theorem parts_1 {i:Nat} {x:Operand} {v:Value} (h:ρ x=v):((#[(i,x)]:Array (Nat×Operand)).map fun x=>(x.1,ρ x.2)).toList=[(i,v)]:=by simp [h]
theorem parts_2 {i j:Nat} {x y:Operand} {v u:Value} (h:ρ x=v) (h2:ρ y=u):((#[(i,x),(j,y)]:Array (Nat×Operand)).map fun x=>(x.1,ρ x.2)).toList=[(i,v),(j,u)]:=by simp [h,h2]
theorem parts_3 {i j k:Nat} {x y z:Operand} {v u t:Value} (h:ρ x=v) (h2:ρ y=u) (h3:ρ z=t):((#[(i,x),(j,y),(k,z)]:Array (Nat×Operand)).map fun x=>(x.1,ρ x.2)).toList=[(i,v),(j,u),(k,t)]:=by simp [h,h2,h3]
end
theorem run_frame {P:Program} {ops:Array Oper} {Q:Exit→Act→World→Prop} {df:List Deferred} {os:List Oper} {l l':List Value} {w:World} (h:l=l') (k:run P ops Q df os l' w):run P ops Q df os l w:=by
 subst h;exact k
def iAnd (k:IntKind) (x y:Int):Int:=k.wrap ((BitVec.ofInt k.bits x&&&BitVec.ofInt k.bits y).toNat:Int)
def iOr (k:IntKind) (x y:Int):Int:=k.wrap ((BitVec.ofInt k.bits x|||BitVec.ofInt k.bits y).toNat:Int)
def iXor (k:IntKind) (x y:Int):Int:=k.wrap ((BitVec.ofInt k.bits x^^^BitVec.ofInt k.bits y).toNat:Int)
def iNot (k:IntKind) (x:Int):Int:=iXor k (if k.signed then-1 else k.max) x
def iShl (k:IntKind) (x y:Int):Int:=k.wrap (x*2^(min y.toNat k.bits))
def iShr (k:IntKind) (x y:Int):Int:=x.fdiv (2^(min y.toNat k.bits))
def iQuo (k:IntKind) (x y:Int):Int:=k.wrap (x.tdiv y)
def iRem (x y:Int):Int:=x.tmod y
def byteAt (s:ByteArray) (i:Int):Int:=((s.data.toList.getD i.toNat 0).toNat:Int)
section
variable {P:Program} {ρ:Operand→Value} {w:World} {dst:Option Tmp} {ty:TypeId} {pos:String} {after:Array Edge} {guard:Option (Nat×Bool)}
theorem r_and {t t2:TypeId} {x y:Operand} {k:IntKind} {a b:Int} (hx:ρ x= .int k a) (hy:ρ y= .int k b):(execOp ρ ⟨dst, .binOp .and t x y t2,ty,pos,after,guard⟩).run P w= .ok (.value (.int k (iAnd k a b))) w:=by
 simp [execOp,eqGuard,binOp,hx,hy,Op.intBits,iAnd]
theorem r_or {t t2:TypeId} {x y:Operand} {k:IntKind} {a b:Int} (hx:ρ x= .int k a) (hy:ρ y= .int k b):(execOp ρ ⟨dst, .binOp .or t x y t2,ty,pos,after,guard⟩).run P w= .ok (.value (.int k (iOr k a b))) w:=by
 simp [execOp,eqGuard,binOp,hx,hy,Op.intBits,iOr]
theorem r_shl {t t2:TypeId} {x y:Operand} {k j:IntKind} {a b:Int} (hx:ρ x= .int k a) (hy:ρ y= .int j b) (h0:0≤b):(execOp ρ ⟨dst, .binOp .shl t x y t2,ty,pos,after,guard⟩).run P w= .ok (.value (.int k (iShl k a b))) w:=by
 have:¬b<0:=by omega
 simp [execOp,eqGuard,binOp,hx,hy,Op.shift,iShl,this]
theorem r_shr {t t2:TypeId} {x y:Operand} {k j:IntKind} {a b:Int} (hx:ρ x= .int k a) (hy:ρ y= .int j b) (h0:0≤b):(execOp ρ ⟨dst, .binOp .shr t x y t2,ty,pos,after,guard⟩).run P w= .ok (.value (.int k (iShr k a b))) w:=by
 have:¬b<0:=by omega
 simp [execOp,eqGuard,binOp,hx,hy,Op.shift,iShr,this]
theorem r_quo {t t2:TypeId} {x y:Operand} {k:IntKind} {a b:Int} (hx:ρ x= .int k a) (hy:ρ y= .int k b) (h0:b≠0):(execOp ρ ⟨dst, .binOp .quo t x y t2,ty,pos,after,guard⟩).run P w= .ok (.value (.int k (iQuo k a b))) w:=by
 simp [execOp,eqGuard,binOp,hx,hy,Op.intDiv,iQuo,h0]
theorem r_rem {t t2:TypeId} {x y:Operand} {k:IntKind} {a b:Int} (hx:ρ x= .int k a) (hy:ρ y= .int k b) (h0:b≠0):(execOp ρ ⟨dst, .binOp .rem t x y t2,ty,pos,after,guard⟩).run P w= .ok (.value (.int k (iRem a b))) w:=by
 simp [execOp,eqGuard,binOp,hx,hy,Op.intDiv,iRem,h0]
theorem r_inot {t:TypeId} {x:Operand} {k:IntKind} {a:Int} (hx:ρ x= .int k a):(execOp ρ ⟨dst, .unOp .xor t x,ty,pos,after,guard⟩).run P w= .ok (.value (.int k (iNot k a))) w:=by
 simp [execOp,hx,Op.unary,Op.intBits,iNot,iXor]
theorem r_conv {s t:TypeId} {x:Operand} {k j:IntKind} {a:Int} {d:TypeDesc} (hx:ρ x= .int j a) (hs:∀w,(underlying s).run P w= .ok d w) (ht:∀w,(underlying t).run P w= .ok (.int k) w):
  (execOp ρ ⟨dst, .convert s t x,ty,pos,after,guard⟩).run P w= .ok (.value (.int k (k.wrap a))) w:=by
 simp [execOp,convert,hx,hs,ht,Conv.intToInt]
theorem r_indexStr {t:TypeId} {x i:Operand} {s:ByteArray} {k:IntKind} {j:Int} (hx:ρ x= .string s) (hi:ρ i= .int k j) (h:0≤j∧j<s.size) (hu:∀w,(underlying t).run P w= .ok .string w):
  (execOp ρ ⟨dst, .index t x i,ty,pos,after,guard⟩).run P w= .ok (.value (.int .u8 (byteAt s j))) w:=by
 have hlt:j.toNat<s.size:=by omega
 have hl:s.data.toList.length=s.size:=Array.length_toList
 have hb:s[j.toNat]?=some (s.data.toList.getD j.toNat 0):=by
  rw [List.getD_eq_getElem?_getD,List.getElem?_eq_getElem (by omega)]
  simp only [getElem?_pos s j.toNat hlt,Option.getD_some,Array.getElem_toList]
  rfl
 simp [execOp,Instr.index,hx,hi,asIntOf,hu,h.1,hb,byteAt]
end
def EqR (P:Program) (n:Nat) (t:TypeId) (x y:Value) (b:Bool):Prop:=∀w,(Op.equalIn n t x y).run P w= .ok b w
def EqF (P:Program) (n:Nat) (xs ys:Array Value) (fs:List Field) (b:Bool):Prop:=∀w,(Op.eqFields n xs ys fs).run P w= .ok b w
section
variable {P:Program} {n:Nat} {t:TypeId}
theorem eqr_int {k k':IntKind} {a b:Int} (h:P.underlying t=some (.int k')):EqR P (n+1) t (.int k a) (.int k b) (a==b):=fun w=>run_equalIn_int w n t k k' a b h
theorem eqr_bool {a b:Bool} (h:P.underlying t=some .bool):EqR P (n+1) t (.bool a) (.bool b) (a==b):=fun w=>run_equalIn_bool' w n t a b h
theorem eqr_str {a b:ByteArray} (h:P.underlying t=some .string):EqR P (n+1) t (.string a) (.string b) (strEq a b):=fun w=>by
 rw [run_equalIn_string w n t a b h,toList_eq,toList_eq];rfl
theorem eqf_nil {xs ys:Array Value}:EqF P n xs ys [] true:=fun w=>by simp [Op.eqFields]
theorem eqf_cons {xs ys : Array Value} {f : Field} {fs : List Field} {a c : Value} {b1 b2 : Bool} (hn : f.name ≠ "_") (h1 : ∀ w, (part f.type xs f.offset).run P w = .ok a w)
    (h2:∀w,(part f.type ys f.offset).run P w= .ok c w) (he:EqR P n f.type a c b1) (hf:EqF P n xs ys fs b2):EqF P n xs ys (f::fs) (b1&&b2):=fun w=>by
  simp only [Op.eqFields,if_pos hn,Sem.run_bind,h1,h2,he w,Result.andThen_ok]
  cases b1
  · simp
  · simp [hf w]
theorem eqr_agg {xs ys:Array Value} {fs:Array Field} {b:Bool} (hp:P.stoodInHeld t=false) (hu:P.underlying t=some (.struct fs)) (hf:EqF P n xs ys fs.toList b):EqR P (n+1) t (.agg xs) (.agg ys) b:=fun w=>by
 have e:P.fieldsOf t=fs:=by simp [Program.fieldsOf,hu]
 rw [run_equalIn_agg w n t xs ys (by rw [e];exact hu) hp,e]
 exact hf w
theorem part_one {cs:Array Value} {o:Nat} {v:Value} (hA:∀w,(isAgg t).run P w= .ok false w) (hv:cs[o]?=some v):∀w,(part t cs o).run P w= .ok v w:=fun w=>by simp [part,hA,hv]
end
section
variable {P:Program} {ρ:Operand→Value} {w:World} {dst:Option Tmp} {ty:TypeId} {pos:String} {after:Array Edge} {guard:Option (Nat×Bool)}
theorem r_aggeql {t t2:TypeId} {x y:Operand} {xs ys:Array Value} {b:Bool} (hx:ρ x= .agg xs) (hy:ρ y= .agg ys) (hg:P.eqGuardType P.depth t=false) (he:EqR P 10000 t (.agg xs) (.agg ys) b):
  (execOp ρ ⟨dst, .binOp .eql t x y t2,ty,pos,after,guard⟩).run P w= .ok (.value (.bool b)) w:=by
 simp only [execOp,hx,hy,Sem.run_bind,run_eqGuard_agg w .eql t x y xs ys hg,Result.andThen_ok,run_eql_struct,he w]
 rfl
theorem r_aggneq {t t2:TypeId} {x y:Operand} {xs ys:Array Value} {b:Bool} (hx:ρ x= .agg xs) (hy:ρ y= .agg ys) (hg:P.eqGuardType P.depth t=false) (he:EqR P 10000 t (.agg xs) (.agg ys) b):
  (execOp ρ ⟨dst, .binOp .neq t x y t2,ty,pos,after,guard⟩).run P w= .ok (.value (.bool (!b))) w:=by
 simp only [execOp,hx,hy,Sem.run_bind,run_eqGuard_agg w .neq t x y xs ys hg,Result.andThen_ok,run_neq_struct,he w]
 rfl
end
theorem gx1 {p:Prop} {α:Type} [Inhabited α] {Q:α→Prop} (h:p→∃a,Q a):∃a,p→Q a:=by
 by_cases hp:p
 ·obtain ⟨a,ha⟩:=h hp;exact ⟨a,fun _=>ha⟩
 ·exact ⟨default,fun x=>absurd x hp⟩
theorem gx3 {p:Prop} {α β γ:Type} [Inhabited α] [Inhabited β] [Inhabited γ] {Q:α→β→γ→Prop} (h:p→∃a b c,Q a b c):∃a b c,p→Q a b c:=by
 by_cases hp:p
 ·obtain ⟨a,b,c,ha⟩:=h hp;exact ⟨a,b,c,fun _=>ha⟩
 ·exact ⟨default,default,default,fun x=>absurd x hp⟩
def rowA (ob:Option Nat):Option Addr:=ob.map fun b=>⟨b,0,none⟩
structure RowOk {α:Type} (d:Kd α) (h:View) (xs:List α) (ob:Option Nat) (n c:Nat) (cs:List Value):Prop where
 len:xs.length=n
 le:n≤c
 size:cs.length=c*d.sz
 nil:ob=none→c=0
 small:n≤9223372036854775807
 elem:∀(i:Nat) x,xs[i]?=some x→∃ps,d.K h x ps∧∀j v,ps[j]?=some v→cs[i*d.sz+j]?=some v
section
variable {α:Type} {d:Kd α} {M:List Nat} {h0 h h':View} {w0 w w':World} {bs:List Res} {xs:List α} {ob:Option Nat} {n c:Nat} {cs:List Value} {t:TypeId} {fr:Nat×Nat}
theorem RowOk.view (ho:RowOk d h xs ob n c cs) (hs:Sub h h'):RowOk d h' xs ob n c cs:=
 ⟨ho.len,ho.le,ho.size,ho.nil,ho.small,fun i x hx=>by obtain ⟨ps,hK,hc⟩:=ho.elem i x hx;exact ⟨ps,d.ext hs hK,hc⟩⟩
theorem RowOk.none' (d:Kd α) (h:View):RowOk d h [] none 0 0 []:=⟨rfl,Nat.le_refl _,by simp,fun _=>rfl,by omega,fun i x hx=>by simp at hx⟩
theorem perm_erase {β:Type}:∀(l:List β) (i:Nat) (h:i<l.length),(l[i]::l.eraseIdx i).Perm l
  |[],_,h=>by simp at h
  |x::l,0,_=>by simp
  | x :: l, i + 1, h => by
    have:=perm_erase l i (by simpa using h)
    simp only [List.getElem_cons_succ,List.eraseIdx_cons_succ]
    exact (List.Perm.swap x _ _).trans (this.cons x)
theorem St.front {i:Nat} {x:Res} (H:St M h0 w0 h bs w) (hi:bs[i]?=some x):St M h0 w0 h (x::bs.eraseIdx i) w:=by
 obtain ⟨hlt,hx⟩:=List.getElem?_eq_some_iff.1 hi
 have hp:(x::bs.eraseIdx i).Perm bs:=by
  have h2:=perm_erase bs i hlt
  rw [hx] at h2
  exact h2
 exact ⟨H.sees,H.gr,H.ext,fun y hy=>H.own y (hp.mem_iff.1 hy),(hp.filterMap _).nodup_iff.2 H.nodup⟩
theorem row_seen {b:Nat} {hr:View} (hsub:Sub h hr) (hw:w.heap[b]?=some (.cells cs.toArray t fr)) (hb:∀a:Addr,a.block=b→hr a=w.cell? a) (ho:RowOk d h xs (some b) n c cs):Rd d hr (rowA (some b)) xs:=by
 refine ⟨by rw [ho.len];exact ho.small,fun _=>⟨⟨b,0,none⟩,rfl,fun i x hx=>?_⟩⟩
 obtain ⟨ps,hK,hc⟩:=ho.elem i x hx
 refine ⟨ps,d.ext hsub hK,fun j v hj=>?_⟩
 rw [add_at,add_at,hb _ rfl]
 unfold World.cell?
 simp only [hw]
 have:=hc j v hj
 simpa using this
theorem row_lend {i:Nat} (HS:St M h0 w0 h bs w) (hi:bs[i]?=some (ob, .cells cs.toArray t fr)) (ho:RowOk d h xs ob n c cs):∃hr,Sub h hr∧Sees hr w∧Rd d hr (rowA ob) xs:=by
  cases ob with
  | none =>
    have hc:=ho.nil rfl
    have hn:=ho.le
    have hl:=ho.len
    have:xs=[]:=List.length_eq_zero_iff.1 (by omega)
    subst this
    exact ⟨h,Sub.rfl' h,HS.sees,Rd.nil _ _ _⟩
  | some b =>
    have hw:=HS.look i hi
    have hh:=HS.own _ (List.mem_of_getElem? hi)
    have hsub:Sub h (reveal w h b):=sub_reveal hh.2.2
    refine ⟨reveal w h b,hsub,fun a v e=>?_,row_seen hsub hw (fun a ha=>if_pos ha) ho⟩
    unfold reveal at e
    split at e
    · exact e
    · exact HS.sees a v e
theorem row_pub {i:Nat} (HS:St [] h0 w0 h bs w) (hi:bs[i]?=some (ob, .cells cs.toArray t fr)) (ho:RowOk d h xs ob n c cs):∃h1,St [] h0 w0 h1 (bs.eraseIdx i) w∧Sub h h1∧Rd d h1 (rowA ob) xs:=by
  cases ob with
  | none =>
    have hc:=ho.nil rfl
    have hn:=ho.le
    have hl:=ho.len
    have:xs=[]:=List.length_eq_zero_iff.1 (by omega)
    subst this
    exact ⟨h,HS.drop i,Sub.rfl' h,Rd.nil _ _ _⟩
  | some b =>
    have hw:=HS.look i hi
    obtain ⟨h1,h2,h3⟩:=(HS.front hi).pub
    exact ⟨_,h1,h2,row_seen h2 hw h3 ho⟩
theorem RowOk.at (ho:RowOk d h xs ob n c cs) (z:α) {i:Int} (h0:0≤i) (h1:i<n):∃b ps,ob=some b∧d.K h (rd z xs i) ps∧∀j v,ps[j]?=some v→cs[i.toNat*d.sz+j]?=some v:=by
 have hl:=ho.len
 have hlt:i.toNat<xs.length:=by omega
 obtain ⟨ps,hK,hc⟩:=ho.elem i.toNat xs[i.toNat] (by simp [hlt])
 have hrd:rd z xs i=xs[i.toNat]:=by unfold rd;rw [List.getD_eq_getElem?_getD,List.getElem?_eq_getElem hlt];rfl
 cases ob with
 |none=>have:=ho.nil rfl;have:=ho.le;omega
 |some b=>exact ⟨b,ps,rfl,by rw [hrd];exact hK,hc⟩
theorem RowOk.inb (ho:RowOk d h xs ob n c cs) {i:Int} (h0:0≤i) (h1:i<n) {m:Nat} (hm:m≤d.sz):i.toNat*d.sz+m≤cs.length:=by
 have h2:=ho.size
 have h3:=ho.le
 have:(i.toNat+1)*d.sz≤c*d.sz:=Nat.mul_le_mul_right _ (by omega)
 rw [Nat.add_mul,Nat.one_mul] at this
 omega
theorem RowOk.set (ho : RowOk d h xs ob n c cs) {i : Int} (h0 : 0 ≤ i) (h1 : i < n) {ps : List Value} {o : Nat} {v : Value} {x' : α}
    (hp:∀j v,ps[j]?=some v→cs[i.toNat*d.sz+j]?=some v) (hK:d.K h x' (ps.set o v)) (hol:o<ps.length):RowOk d h (xs.set i.toNat x') ob n c (cs.set (i.toNat*d.sz+o) v):=by
  have hsz:=d.len hK
  rw [List.length_set] at hsz
  refine ⟨by rw [List.length_set];exact ho.len,ho.le,by rw [List.length_set];exact ho.size,ho.nil,ho.small,fun k x hx=>?_⟩
  have hin:=ho.inb h0 h1 (Nat.le_refl d.sz)
  rw [List.getElem?_set] at hx
  by_cases hk:i.toNat=k
  · subst hk
    simp only [if_true] at hx
    split at hx
    · injection hx with hx
      subst hx
      refine ⟨_,hK,fun j u hj=>?_⟩
      rw [List.getElem?_set] at hj⊢
      by_cases hjo:o=j
      · subst hjo
        rw [if_pos rfl,if_pos hol] at hj
        rw [if_pos rfl,if_pos (by omega)]
        exact hj
      · rw [if_neg hjo] at hj
        rw [if_neg (by omega)]
        exact hp j u hj
    · cases hx
  · rw [if_neg hk] at hx
    obtain ⟨qs,hq,hqc⟩:=ho.elem k x hx
    refine ⟨qs,hq,fun j u hj=>?_⟩
    have hjl:j<d.sz:=by rw [←d.len hq];exact (List.getElem?_eq_some_iff.1 hj).1
    rw [List.getElem?_set,if_neg (fun e=>?_)]
    · exact hqc j u hj
    · have ho':o<d.sz:=by omega
      rcases Nat.lt_or_gt_of_ne hk with hlt|hlt
      · have:(i.toNat+1)*d.sz≤k*d.sz:=Nat.mul_le_mul_right _ hlt
        rw [Nat.add_mul,Nat.one_mul] at this
        omega
      · have:(k+1)*d.sz≤i.toNat*d.sz:=Nat.mul_le_mul_right _ hlt
        rw [Nat.add_mul,Nat.one_mul] at this
        omega
end
section
variable {P:Program} {ρ:Operand→Value} {w:World} {dst:Option Tmp} {ty:TypeId} {pos:String} {after:Array Edge} {guard:Option (Nat×Bool)}
theorem info_of {t:TypeId} {i:TypeInfo} (h:∀w,(typeInfo t).run P w= .ok i w):P.info? t=some i:=by
 have:=h default
 cases hq:P.info? t with
 |none=>simp [typeInfo,hq,stuck] at this
 |some j=>simp [typeInfo,hq] at this;rw [this]
theorem under_of {t:TypeId} {i:TypeDesc} (h:∀w,(underlying t).run P w= .ok i w):P.underlying t=some i:=by
 have:=h default
 cases hq:P.underlying t with
 |none=>simp [underlying,hq,stuck] at this
 |some j=>simp [underlying,hq] at this;rw [this]
theorem r_indexRow {t e:TypeId} {x i:Operand} {ob:Option Nat} {b n c sz:Nat} {k:IntKind} {j:Int} (hx:ρ x= .slice (rowA ob) n c) (hb:ob=some b) (hi:ρ i= .int k j) (h0:0≤j) (h1:j<n)
  (hu:∀w,(underlying t).run P w= .ok (.slice e) w) (hs:∀w,(sizeOf e).run P w= .ok sz w):
  (execOp ρ ⟨dst, .indexAddr t x i,ty,pos,after,guard⟩).run P w= .ok (.value (.pointer (some ⟨b,j.toNat*sz+0,none⟩))) w:=by
 subst hb
 have:=r_index (P:=P) (w:=w) (dst:=dst) (ty:=ty) (pos:=pos) (after:=after) (guard:=guard) (a:=⟨b,0,none⟩) hx hi h0 h1 hu hs
 rw [add_at,Nat.zero_add] at this
 exact this
theorem r_lenRow {t:TypeId} {x:Operand} {ob:Option Nat} {n c e:Nat} (hx:ρ x= .slice (rowA ob) n c) (hu:∀w,(underlying t).run P w= .ok (.slice e) w):
  (execOp ρ ⟨dst, .call {callee:= .builtin .len,args:=#[x],argTypes:=#[t]},ty,pos,after,guard⟩).run P w= .ok (.value (.int .i64 n)) w:=r_len hx hu
end
section
variable {P:Program} {Q:Exit→Act→World→Prop} {l:List Value} {df:List Deferred} {ops:Array Oper} {os:List Oper} {M:List Nat} {h0 h:View} {w0 w:World} {bs:List Res}
variable {dst:Tmp} {ty:TypeId} {pos:String} {after:Array Edge}
theorem zero_of {t:TypeId} {i:TypeInfo} {z:Value} (h:∀w,(typeInfo t).run P w= .ok i w) (hz:∀w,(zeroValue t).run P w= .ok z w):i.zero=some z:=by
 have:=hz default
 simp only [zeroValue,Sem.run_bind,h,Result.andThen_ok] at this
 cases hq:i.zero with
 |none=>simp [hq,unsupported] at this
 |some u=>simp [hq] at this;rw [this]
theorem made_get {α:Type} (d:Kd α) {zs:List Value} {h:View} {z:α} {m:Nat} (hK:d.K h z zs):(madeCells zs.toArray (m*d.sz)).toList.length=m*d.sz∧
  ∀i j v,i<m→zs[j]?=some v→(madeCells zs.toArray (m*d.sz)).toList[i*d.sz+j]?=some v:=by
 have hl:=d.len hK
 unfold madeCells
 refine ⟨by simp,fun i j v hi hj=>?_⟩
 have hj':j<d.sz:=by rw [←hl];exact (List.getElem?_eq_some_iff.1 hj).1
 have hlt:i*d.sz+j<m*d.sz:=by
  have:(i+1)*d.sz≤m*d.sz:=Nat.mul_le_mul_right _ hi
  rw [Nat.add_mul,Nat.one_mul] at this
  omega
 have hmod:(i*d.sz+j)%zs.length=j:=by rw [hl,Nat.mul_comm,Nat.mul_add_mod,Nat.mod_eq_of_lt hj']
 have hj2:j<zs.length:=by omega
 rw [List.getElem?_eq_getElem hj2] at hj
 rw [Array.getElem?_toList,Array.getElem?_map,Array.getElem?_range]
 simp only [hlt,if_true,Option.map_some,List.size_toArray,hmod]
 rw [←hj]
 simp [hj2]
theorem run_mk {α:Type} (d:Kd α) (z:α) {t e:TypeId} {x y:Operand} {k:Int} {zv:Value} {zs:List Value} {i:TypeInfo} (hx:ev l x= .int .i64 k) (hy:ev l y= .int .i64 k) (hk:0≤k∧k≤4294967296)
  (hu:∀w,(underlying t).run P w= .ok (.slice e) w) (hi:∀w,(typeInfo e).run P w= .ok i w) (hby:i.bytes≤65536) (hsz:i.size=d.sz) (hz:∀w,(zeroValue e).run P w= .ok zv w) (hzc:zv.cells=zs.toArray)
  (hK:d.K h z zs) (HS:St M h0 w0 h bs w)
  (kk:∀w' b cs,St M h0 w0 h ((some b, .cells cs.toArray e (0,0))::bs) w'→RowOk d h (List.replicate k.toNat z) (some b) k.toNat k.toNat cs→run P ops Q df os (l.set dst (.slice (rowA (some b)) k.toNat k.toNat)) w'):
  run P ops Q df (⟨some dst, .makeSlice t x y,ty,pos,after,none⟩::os) l w:=by
 have hb:(i.bytes:Int)*k≤281474976710656:=by
  have h1:(i.bytes:Int)*k≤65536*4294967296:=Int.mul_le_mul (by omega) hk.2 hk.1 (by omega)
  omega
 have hrun:=Go.run_make (P:=P) w t e i zv (under_of hu) (info_of hi) (zero_of hi hz) .i64 .i64 k k hk.1 (Int.le_refl _) hb (by omega)
 rw [hzc,hsz] at hrun
 have hget:=made_get d (m:=k.toNat) hK
 have hex:(execOp (ev l) ⟨some dst, .makeSlice t x y,ty,pos,after,none⟩).run P w= .ok (.value (.slice (rowA (some w.heap.size)) k.toNat k.toNat)) (w.alloc (.cells (madeCells zs.toArray (k.toNat*d.sz)) e)):=by
  simp only [execOp,hx,hy,Sem.run_bind,hrun,Result.andThen_ok]
  rfl
 unfold run
 simp only [wpList,Region.wanted,if_true]
 refine .inl ?_
 unfold Oper.wp
 rw [ev_eq,hex]
 simp only [Oper.upon,put_list]
 refine kk _ w.heap.size (madeCells zs.toArray (k.toNat*d.sz)).toList ?_ ?_
 ·exact HS.new (Ext.new w _) (Nat.le_refl _) (by rw [Array.toArray_toList];exact heap_alloc_new w _)
 ·refine ⟨by simp,Nat.le_refl _,hget.1,by simp,by omega,fun q x hx=>?_⟩
  obtain ⟨hq,hxz⟩:=List.getElem?_eq_some_iff.1 hx
  simp only [List.length_replicate] at hq
  simp only [List.getElem_replicate] at hxz
  subst hxz
  exact ⟨zs,hK,fun j v hj=>hget.2 q j v hq hj⟩
theorem run_bs {α:Type} (d:Kd α) {t e:TypeId} {parts:Array (Nat×Operand)} {xs:List α} {n:Nat} {cs:List Value} {zv:Value} {i:TypeInfo}
  (hu:∀w,(underlying t).run P w= .ok (.slice e) w) (hi:∀w,(typeInfo e).run P w= .ok i w) (hz:∀w,(zeroValue e).run P w= .ok zv w) (hsz:i.size=d.sz) (hn:xs.length=n)
  (hsmall:n*d.sz≤16777216) (hpos:n*d.sz≠0) (hn2:n≤9223372036854775807)
  (vs:List Value) (hp:(parts.map fun x=>(x.1,ev l x.2)).toList=(vs.zipIdx 0).map fun x=>(x.2,x.1)) (hv:vs.all (fun v=>v.cells.size==d.sz)=true) (hvn:vs.length=n)
  (hcs:(vs.flatMap fun v=>v.cells.toList)=cs) (hc:cs.length=n*d.sz) (hK:∀(i:Nat) x,xs[i]?=some x→∃qs,d.K h x qs∧∀j v,qs[j]?=some v→cs[i*d.sz+j]?=some v) (HS:St M h0 w0 h bs w)
  (kk:∀w' b,St M h0 w0 h ((some b, .cells cs.toArray e (0,0))::bs) w'→RowOk d h xs (some b) n n cs→run P ops Q df os (l.set dst (.slice (rowA (some b)) n n)) w'):
  run P ops Q df (⟨some dst, .buildSlice t n parts,ty,pos,after,none⟩::os) l w:=by
 have hf:Instr.fill (fun i=>some (i*d.sz,d.sz)) ((Array.range (n*d.sz)).map (zv.cells[· %zv.cells.size]!)) (parts.map fun x=>(x.1,ev l x.2)).toList=some cs.toArray:=by
  rw [hp,Great.fill_whole (Nat.pos_of_ne_zero (fun e=>hpos (by rw [e];rfl))) vs _ (fun v hm=>by simpa using (List.all_eq_true.1 hv) v hm) (by simp [hvn]),hcs]
 have hex:(execOp (ev l) ⟨some dst, .buildSlice t n parts,ty,pos,after,none⟩).run P w= .ok (.value (.slice (rowA (some w.heap.size)) n n)) (w.alloc (.cells cs.toArray e)):=by
  have:=run_buildSlice (P:=P) w t e n (parts.map fun (i,x)=>(i,ev l x)) cs.toArray i zv (under_of hu) (info_of hi) (zero_of hi hz) (by rw [hsz];omega) (by rw [hsz];exact hpos) (by rw [hsz];exact hf)
  simp only [execOp,Sem.run_bind,this,Result.andThen_ok]
  rfl
 unfold run
 simp only [wpList,Region.wanted,if_true]
 refine .inl ?_
 unfold Oper.wp
 rw [ev_eq,hex]
 simp only [Oper.upon,put_list]
 refine kk _ w.heap.size ?_ ?_
 ·exact HS.new (Ext.new w _) (Nat.le_refl _) (heap_alloc_new w _)
 ·exact ⟨hn,Nat.le_refl _,hc,by simp,hn2,hK⟩
theorem perm_set {β:Type}:∀(l:List β) (i:Nat) (x:β),i<l.length→(l.set i x).Perm (x::l.eraseIdx i)
  |[],_,_,h=>by simp at h
  |y::l,0,x,_=>by simp
  | y :: l, i + 1, x, h => by
    have:=perm_set l i x (by simpa using h)
    simp only [List.set_cons_succ,List.eraseIdx_cons_succ]
    exact (this.cons y).trans (List.Perm.swap x y _)
theorem St.perm {bs':List Res} (H:St M h0 w0 h bs w) (hp:bs'.Perm bs):St M h0 w0 h bs' w:=
 ⟨H.sees,H.gr,H.ext,fun y hy=>H.own y (hp.mem_iff.1 hy),(hp.filterMap _).nodup_iff.2 H.nodup⟩
theorem St.swap {w':World} {q b:Nat} {o:Obj} (H:St M h0 w0 h bs w) (hq:q<bs.length) (hE:Ext w w') (hge:w.heap.size≤b) (hb:w'.heap[b]?=some o):St M h0 w0 h (bs.set q (some b,o)) w':=
 ((H.new hE hge hb).fewer ((List.eraseIdx_sublist bs q).cons_cons _)).perm (perm_set bs q _ hq)
theorem putL_length:∀(vs:List Value) (cs:List Value) (o:Nat),(putL cs o vs).length=cs.length
 |[],_,_=>rfl
 |v::vs,cs,o=>by simp only [putL];rw [putL_length vs];simp
theorem putL_get : ∀ (vs : List Value) (cs : List Value) (o k : Nat), o + vs.length ≤ cs.length → (putL cs o vs)[k]? = if o ≤ k ∧ k < o + vs.length then vs[k - o]? else cs[k]?
  |[],cs,o,k,_=>by simp only [putL,List.length_nil,Nat.add_zero];rw [if_neg (by omega)]
  | v :: vs, cs, o, k, h => by
    simp only [List.length_cons] at h
    simp only [putL,List.length_cons]
    rw [putL_get vs _ _ _ (by simp;omega),List.getElem?_set]
    by_cases h1:o+1≤k∧k<o+1+vs.length
    · rw [if_pos h1,if_pos (by omega),show k-o=(k-(o+1))+1 by omega,List.getElem?_cons_succ]
    · rw [if_neg h1]
      by_cases h2:o=k
      · subst h2
        rw [if_pos rfl,if_pos (by omega),if_pos (by omega),Nat.sub_self]
        rfl
      · rw [if_neg h2,if_neg (by omega)]
theorem setCells_setb {b:Nat} {t:TypeId} {fr:Nat×Nat}:∀(vs:List Value) (o:Nat) (cs:List Value) (w:World),w.heap[b]?=some (.cells cs.toArray t fr)→
    w.setCells b o vs=if vs=[] then w else setb w b (.cells (putL cs o vs).toArray t fr)
  |[],o,cs,w,hb=>by simp [World.setCells]
  | v :: vs, o, cs, w, hb => by
    have hlt:=(Array.getElem?_eq_some_iff.1 hb).1
    rw [World.setCells,setCell_setb hb]
    have e:(cs.toArray.setIfInBounds o v)=(cs.set o v).toArray:=by simp
    rw [e,setCells_setb vs (o+1) (cs.set o v) _ (setb_at hlt)]
    simp only [reduceCtorEq,if_false]
    split
    · rename_i h;subst h;rfl
    · rw [setb_setb];rfl
theorem next_le {need c:Nat} (hc:c<need) (hn:need≤4294967296):Builtin.nextslicecap need c≤34359738368:=by
 unfold Builtin.nextslicecap
 split
 ·omega
 ·split
  ·omega
  ·simp only [Builtin.growBy]
   repeat' split
   all_goals omega
def FrOk (fr:Nat×Nat) (n:Nat):Prop:=n≤fr.1∨fr.2≤fr.1
theorem frok0 {n:Nat}:FrOk (0,0) n:= .inr (Nat.le_refl _)
theorem FrOk.at {fr:Nat×Nat} {n k:Nat} (h:FrOk fr n) (hk:k<n):¬(fr.1≤k∧k<fr.2):=by unfold FrOk at h;omega
theorem run_appf {α : Type} {fr : Nat × Nat} (d : Kd α) {t tx e : TypeId} {x y : Operand} {ob : Option Nat} {n c m q : Nat} {xs ys : List α} {cs news : List Value} {yv zv : Value} {i : TypeInfo}
    (hx:ev l x= .slice (rowA ob) n c) (hy:ev l y=yv) (hu:∀w,(underlying t).run P w= .ok (.slice e) w) (hi:∀w,(typeInfo e).run P w= .ok i w) (hz:∀w,(zeroValue e).run P w= .ok zv w)
    (hsz:i.size=d.sz) (hby:i.bytes≤4096) (hzl:zv.cells.size=d.sz) (hs:Src P d.sz tx yv m news w) (hm:ys.length=m)
    (hyK:∀(i:Nat) z,ys[i]?=some z→∃qs,d.K h z qs∧∀j v,qs[j]?=some v→news[i*d.sz+j]?=some v) (hlim:n+m≤4294967296) (HS:St M h0 w0 h bs w)
    (hq:bs[q]?=some (ob, .cells cs.toArray e fr)) (hfr:FrOk fr cs.length) (ho:RowOk d h xs ob n c cs)
    (kk:∀w' ob' c' cs' fr',FrOk fr' cs'.length∧(fr'=fr∨fr'=(0,0))→St M h0 w0 h (bs.set q (ob', .cells cs'.toArray e fr')) w'→RowOk d h (xs++ys) ob' (n+m) c' cs'→run P ops Q df os (l.set dst (.slice (rowA ob') (n+m) c')) w'):
    run P ops Q df (⟨some dst, .call {callee:= .builtin .append,args:=#[x,y],argTypes:=#[t,tx]},ty,pos,after,none⟩::os) l w:=by
  have hqlt:=(List.getElem?_eq_some_iff.1 hq).1
  have hnl:news.length=m*d.sz:=hs.newsLen
  have helem:∀(cs':List Value),(∀k,k<n*d.sz→cs'[k]?=cs[k]?)→(∀k,k<m*d.sz→cs'[n*d.sz+k]?=news[k]?)→
      ∀(k:Nat) z,(xs++ys)[k]?=some z→∃ps,d.K h z ps∧∀j v,ps[j]?=some v→cs'[k*d.sz+j]?=some v:=by
    intro cs' h1 h2 k z hk
    have hl:=ho.len
    by_cases hkn:k<n
    · rw [List.getElem?_append_left (by omega)] at hk
      obtain ⟨ps,hK,hc⟩:=ho.elem k z hk
      refine ⟨ps,hK,fun j v hj=>?_⟩
      have hjs:j<d.sz:=by rw [←d.len hK];exact (List.getElem?_eq_some_iff.1 hj).1
      have hmul:(k+1)*d.sz≤n*d.sz:=Nat.mul_le_mul_right _ hkn
      rw [Nat.add_mul,Nat.one_mul] at hmul
      rw [h1 _ (by omega)]
      exact hc j v hj
    · rw [List.getElem?_append_right (by omega)] at hk
      obtain ⟨ps,hK,hc⟩:=hyK _ z hk
      refine ⟨ps,hK,fun j v hj=>?_⟩
      have hjs:j<d.sz:=by rw [←d.len hK];exact (List.getElem?_eq_some_iff.1 hj).1
      have hkm:k-xs.length<m:=by rw [←hm];exact (List.getElem?_eq_some_iff.1 hk).1
      have hmul:(k-xs.length+1)*d.sz≤m*d.sz:=Nat.mul_le_mul_right _ hkm
      rw [Nat.add_mul,Nat.one_mul] at hmul
      have e1:k*d.sz=n*d.sz+(k-xs.length)*d.sz:=by rw [←Nat.add_mul];congr 1;omega
      rw [e1,Nat.add_assoc,h2 _ (by omega)]
      exact hc j v hj
  have hdone:∀{v:Value} {w':World},(Builtin.append_ #[t,tx] ty #[.slice (rowA ob) n c,yv]).run P w= .ok v w'→run P ops Q df os (l.set dst v) w'→
      run P ops Q df (⟨some dst, .call {callee:= .builtin .append,args:=#[x,y],argTypes:=#[t,tx]},ty,pos,after,none⟩::os) l w:=by
    intro v w' hr hk
    have hex:(execOp (ev l) ⟨some dst, .call {callee:= .builtin .append,args:=#[x,y],argTypes:=#[t,tx]},ty,pos,after,none⟩).run P w= .ok (.value v) w':=by
      simp [execOp,resolve,invoke,builtin,hx,hy,hr]
    unfold run
    simp only [wpList,Region.wanted,if_true]
    refine .inl ?_
    unfold Oper.wp
    rw [ev_eq,hex]
    simp only [Oper.upon,put_list]
    exact hk
  by_cases hroom:n+m≤c
  · cases ob with
    | none =>
      have hc0:=ho.nil rfl
      have hr:(Builtin.append_ #[t,tx] ty #[.slice (rowA none) n c,yv]).run P w= .ok (.slice (rowA none) (n+m) c) w:=by
        rcases hs.kind with ⟨e',hk⟩|hk<;>simp [Builtin.append_,run_underlying (under_of hu),run_underlying hk,sizeOf,hi,hsz,hs.len,hroom,hs.cells,rowA]
      refine hdone hr (kk w none c cs fr ⟨hfr, .inl rfl⟩ ?_ ?_)
      · rw [show bs.set q (none, .cells cs.toArray e fr)=bs by rw [←(List.getElem?_eq_some_iff.1 hq).2];simp];exact HS
      · refine ⟨by rw [List.length_append,ho.len,hm],hroom,ho.size,fun _=>hc0,by omega,?_⟩
        have hz0:n=0:=by omega
        have hm0:m=0:=by omega
        refine helem cs (fun k hk=>rfl) (fun k hk=>by rw [hm0] at hk;omega)
    | some b =>
      have hb:=HS.look q hq
      have hsize:=ho.size
      have hcs:(n+m)*d.sz≤cs.length:=by rw [hsize];exact Nat.mul_le_mul_right _ hroom
      rw [Nat.add_mul] at hcs
      have hr:=run_append_room_src (P:=P) w t tx ty e i (under_of hu) (info_of hi) b 0 n c yv m news (by rw [hsz];exact hs) hroom
        (fun j hj => by
          unfold World.cell?
          rw [hsz]
          simp only [hb]
          have:n*d.sz+j<cs.length:=by omega
          simp [this])
        (fun j hj => by
          have h9:=hfr.at (k:=n*d.sz+j) (by omega)
          unfold World.frozen?
          rw [hsz]
          simp only [hb,Nat.zero_add]
          simpa using h9)
      rw [hsz,Nat.zero_add,setCells_setb news _ cs w hb] at hr
      refine hdone hr ?_
      have hfin:RowOk d h (xs++ys) (some b) (n+m) c (putL cs (n*d.sz) news):=by
        refine ⟨by rw [List.length_append,ho.len,hm],hroom,by rw [putL_length];exact hsize,by simp,by omega,helem _ (fun k hk=>?_) (fun k hk=>?_)⟩
        · rw [putL_get _ _ _ _ (by omega),if_neg (by omega)]
        · rw [putL_get _ _ _ _ (by omega),if_pos (by omega),Nat.add_sub_cancel_left]
      split
      · rename_i hn0
        subst hn0
        refine kk w (some b) c cs fr ⟨hfr, .inl rfl⟩ ?_ hfin
        rw [show bs.set q (some b, .cells cs.toArray e fr)=bs by rw [←(List.getElem?_eq_some_iff.1 hq).2];simp];exact HS
      · exact kk _ (some b) c _ fr ⟨by rw [putL_length];exact hfr, .inl rfl⟩ (HS.put q _ hq) hfin
  · have hg:c<n+m:=by omega
    have hold:∃olds:List Value,(Builtin.firstCells i.size n (.slice (rowA ob) n c)).run P w.drew= .ok olds.toArray w.drew∧olds.length=n*d.sz∧∀k,k<n*d.sz→olds[k]?=cs[k]?:=by
      cases ob with
      | none =>
        have hc0:=ho.nil rfl
        have hle:=ho.le
        have hz0:n=0:=by omega
        subst hz0
        exact ⟨[],by simp [Builtin.firstCells,rowA],by simp,fun k hk=>by omega⟩
      | some b =>
        have hb:=HS.look q hq
        have hsize:=ho.size
        have hle:=ho.le
        have hcs:n*d.sz≤cs.length:=by rw [hsize];exact Nat.mul_le_mul_right _ hle
        refine ⟨cs.take (n*d.sz),?_,by rw [List.length_take];omega,fun k hk=>by rw [List.getElem?_take,if_pos hk]⟩
        have hlen:(cs.take (n*d.sz)).length=n*i.size:=by rw [hsz,List.length_take];omega
        refine run_firstCells_some w.drew i.size n ⟨b,0,none⟩ n c _ hlen (fun j u hj=>?_)
        rw [add_at]
        unfold World.cell?
        have hb':w.drew.heap[b]?=some (.cells cs.toArray e fr):=hb
        simp only [hb']
        rw [List.getElem?_take] at hj
        split at hj
        · simpa using hj
        · cases hj
    obtain ⟨olds,hold,hol,hoe⟩:=hold
    have hfit:Builtin.nextslicecap (n+m) c*i.bytes≤281474976710656:=by
      have h1:=next_le hg hlim
      have h2:=Nat.mul_le_mul h1 hby
      omega
    have hr:=run_append_grow_src (P:=P) w t tx ty e i zv (under_of hu) (info_of hi) (zero_of hi hz) (rowA ob) n c olds hold yv m news (by rw [hsz];exact hs) hg (by omega) hfit
    have hge:=grownCap_ge w (n+m) c e
    refine hdone hr ?_
    let g:=grownCap w (n+m) c e
    have hzs:(Builtin.zeroCells zv.cells (g-(n+m))).size=(g-(n+m))*d.sz:=by unfold Builtin.zeroCells;simp [hzl]
    have hE:Ext w (w.drew.alloc (.cells ((olds++news).toArray++Builtin.zeroCells zv.cells (g-(n+m))) e)):=(Ext.draw w).then (Ext.new _ _)
    have hnew:(w.drew.alloc (.cells ((olds++news).toArray++Builtin.zeroCells zv.cells (g-(n+m))) e)).heap[w.heap.size]?=some (.cells (olds++news++(Builtin.zeroCells zv.cells (g-(n+m))).toList).toArray e (0,0)):=by
      have h1:(olds++news).toArray++Builtin.zeroCells zv.cells (g-(n+m))=(olds++news++(Builtin.zeroCells zv.cells (g-(n+m))).toList).toArray:=by
        apply Array.ext'
        simp
      rw [h1]
      exact heap_alloc_new w.drew _
    refine kk _ (some w.heap.size) g (olds++news++(Builtin.zeroCells zv.cells (g-(n+m))).toList) (0,0) ⟨frok0, .inr rfl⟩ (HS.swap hqlt hE (Nat.le_refl _) hnew) ?_
    refine ⟨by rw [List.length_append,ho.len,hm],hge,?_,by simp,by omega,helem _ (fun k hk=>?_) (fun k hk=>?_)⟩
    · rw [List.length_append,List.length_append,hol,hnl,Array.length_toList,hzs,←Nat.add_mul,←Nat.add_mul]
      congr 1
      omega
    · rw [List.append_assoc,List.getElem?_append_left (by omega)]
      exact hoe k hk
    · rw [List.append_assoc,List.getElem?_append_right (by omega),hol,Nat.add_sub_cancel_left,List.getElem?_append_left (by omega)]
theorem run_app {α:Type} (d:Kd α) {t tx e:TypeId} {x y:Operand} {ob:Option Nat} {n c m q:Nat} {xs ys:List α} {cs news:List Value} {yv zv:Value} {i:TypeInfo}
  (hx:ev l x= .slice (rowA ob) n c) (hy:ev l y=yv) (hu:∀w,(underlying t).run P w= .ok (.slice e) w) (hi:∀w,(typeInfo e).run P w= .ok i w) (hz:∀w,(zeroValue e).run P w= .ok zv w)
  (hsz:i.size=d.sz) (hby:i.bytes≤4096) (hzl:zv.cells.size=d.sz) (hs:Src P d.sz tx yv m news w) (hm:ys.length=m)
  (hyK:∀(i:Nat) z,ys[i]?=some z→∃qs,d.K h z qs∧∀j v,qs[j]?=some v→news[i*d.sz+j]?=some v) (hlim:n+m≤4294967296) (HS:St M h0 w0 h bs w)
  (hq:bs[q]?=some (ob, .cells cs.toArray e (0,0))) (ho:RowOk d h xs ob n c cs)
  (kk:∀w' ob' c' cs',St M h0 w0 h (bs.set q (ob', .cells cs'.toArray e (0,0))) w'→RowOk d h (xs++ys) ob' (n+m) c' cs'→run P ops Q df os (l.set dst (.slice (rowA ob') (n+m) c')) w'):
  run P ops Q df (⟨some dst, .call {callee:= .builtin .append,args:=#[x,y],argTypes:=#[t,tx]},ty,pos,after,none⟩::os) l w:=by
 refine run_appf d hx hy hu hi hz hsz hby hzl hs hm hyK hlim HS hq frok0 ho ?_
 rintro w' ob' c' cs' fr' ⟨_,rfl|rfl⟩ hS hR
 ·exact kk w' ob' c' cs' hS hR
 ·exact kk w' ob' c' cs' hS hR
end
section
variable {α:Type} {d:Kd α} {M:List Nat} {h0 h:View} {w0 w:World} {bs:List Res} {xs:List α} {ob:Option Nat} {n c:Nat} {cs:List Value}
theorem RowOk.norm (ho:RowOk d h xs ob n c cs):RowOk d h xs ob xs.length c cs:=by rw [ho.len];exact ho
theorem RowOk.cap (ho:RowOk d h xs ob n c cs):xs.length≤c:=by rw [ho.len];exact ho.le
theorem St.lookr (H:St M h0 w0 h bs w) (i:Nat) {b:Nat} {o:Obj} (hi:bs[i]?=some (ob,o)) (hb:ob=some b):w.heap[b]?=some o:=by subst hb;exact H.look i hi
theorem take_of {cs ps:List Value} {o m:Nat} (h:∀j v,ps[j]?=some v→cs[o+j]?=some v) (hm:ps.length=m):(cs.drop o).take m=ps:=by
 subst hm
 apply List.ext_getElem?
 intro k
 rw [List.getElem?_take]
 by_cases hk:k<ps.length
 ·rw [if_pos hk,List.getElem?_drop,List.getElem?_eq_getElem hk]
  exact h k _ (List.getElem?_eq_getElem hk)
 ·rw [if_neg hk]
  exact (List.getElem?_eq_none_iff.2 (by omega)).symm
theorem elems_nil {cs:List Value}:∀(i:Nat) (x:α),([]:List α)[i]?=some x→∃qs,d.K h x qs∧∀j v,qs[j]?=some v→cs[i*d.sz+j]?=some v:=fun i x hx=>by simp at hx
theorem elems_cons {x:α} {xs:List α} {qs cs:List Value} (hK:d.K h x qs) (ht:∀(i:Nat) (x:α),xs[i]?=some x→∃qs,d.K h x qs∧∀j v,qs[j]?=some v→cs[i*d.sz+j]?=some v):
    ∀(i:Nat) (y:α),(x::xs)[i]?=some y→∃ps,d.K h y ps∧∀j v,ps[j]?=some v→(qs++cs)[i*d.sz+j]?=some v:=by
  intro i y hy
  have hl:=d.len hK
  cases i with
  | zero =>
    simp only [List.getElem?_cons_zero,Option.some.injEq] at hy
    subst hy
    refine ⟨qs,hK,fun j v hj=>?_⟩
    rw [Nat.zero_mul,Nat.zero_add,List.getElem?_append_left (List.getElem?_eq_some_iff.1 hj).1]
    exact hj
  | succ i =>
    obtain ⟨ps,h1,h2⟩:=ht i y (by simpa using hy)
    refine ⟨ps,h1,fun j v hj=>?_⟩
    rw [Nat.add_mul,Nat.one_mul,List.getElem?_append_right (by omega),←h2 j v hj]
    congr 1
    omega
end
theorem src_row {P:Program} {α:Type} {d:Kd α} {M:List Nat} {h0 h:View} {w0 w:World} {bs:List Res} {xs:List α} {ob:Option Nat} {n c i:Nat} {cs:List Value} {tx e t2:TypeId} (hu:∀w,(underlying tx).run P w= .ok (.slice e) w)
    (HS:St M h0 w0 h bs w) (hi:bs[i]?=some (ob, .cells cs.toArray t2 (0,0))) (ho:RowOk d h xs ob n c cs) (h1:cs.all (·.oneCell')=true):Src P d.sz tx (.slice (rowA ob) n c) n (cs.take (n*d.sz)) w:=by
  have hsz:=ho.size
  have hle:n*d.sz≤cs.length:=by rw [hsz];exact Nat.mul_le_mul_right _ ho.le
  have hl:(cs.take (n*d.sz)).length=n*d.sz:=by rw [List.length_take];omega
  have h1':∀u∈cs.take (n*d.sz),u.oneCell'=true:=fun u hu=>(List.all_eq_true.1 h1) u (List.mem_of_mem_take hu)
  cases ob with
  | none =>
    have hc0:=ho.nil rfl
    have hn:=ho.le
    have hn0:n=0:=by omega
    subst hn0
    simp only [Nat.zero_mul,List.take_zero]
    exact Src.ofNil w (under_of hu) c
  | some b =>
    have hb:=HS.look i hi
    refine Src.ofSlice w (under_of hu) ⟨b,0,none⟩ n c _ hl (fun j u hj=>?_) h1'
    rw [add_at]
    unfold World.cell?
    simp only [hb]
    rw [List.getElem?_take] at hj
    split at hj
    · simpa using hj
    · cases hj
theorem src_row_elems {α:Type} {d:Kd α} {h:View} {xs:List α} {ob:Option Nat} {n c:Nat} {cs:List Value} (ho:RowOk d h xs ob n c cs):
  ∀(i:Nat) z,xs[i]?=some z→∃qs,d.K h z qs∧∀j v,qs[j]?=some v→(cs.take (n*d.sz))[i*d.sz+j]?=some v:=by
 intro i z hz
 obtain ⟨qs,h1,h2⟩:=ho.elem i z hz
 refine ⟨qs,h1,fun j v hj=>?_⟩
 have hi:i<n:=by rw [←ho.len];exact (List.getElem?_eq_some_iff.1 hz).1
 have hj':j<d.sz:=by rw [←d.len h1];exact (List.getElem?_eq_some_iff.1 hj).1
 have hmul:(i+1)*d.sz≤n*d.sz:=Nat.mul_le_mul_right _ hi
 rw [Nat.add_mul,Nat.one_mul] at hmul
 rw [List.getElem?_take,if_pos (by omega)]
 exact h2 j v hj
theorem run_str {P:Program} {Q:Exit→Act→World→Prop} {l:List Value} {df:List Deferred} {ops:Array Oper} {os:List Oper} {M:List Nat} {h0 h:View} {w0 w:World} {bs:List Res} {ty:TypeId} {pos:String} {after:Array Edge}
  {t tt:TypeId} {x y:Operand} {ob:Option Nat} {b o i:Nat} {v:Value} {cs:List Value} (hb:ob=some b) (hx:ev l x= .pointer (some ⟨b,o,none⟩)) (hy:ev l y=v)
  (hs:∀w,(sizeOf t).run P w= .ok 1 w) (hv:v.cells=#[v]) (h1:v.oneCell'=true) (HS:St M h0 w0 h bs w)
  (hi:bs[i]?=some (ob, .cells cs.toArray tt (0,0))) (hl:o+1≤cs.length)
  (k:∀w',St M h0 w0 h (bs.set i (ob, .cells (cs.set o v).toArray tt (0,0))) w'→run P ops Q df os l w'):run P ops Q df (⟨none, .store t x y,ty,pos,after,none⟩::os) l w:=by
 subst hb
 exact run_st (vs:=[v]) (cs':=cs.set o v) (bs':=bs.set i (some b, .cells (cs.set o v).toArray tt (0,0))) hx hy hs hv rfl (by decide) (by simp [h1]) HS hi hl rfl rfl k
theorem parts_any {ps:List (Nat×Operand)} {f:Nat×Operand→Nat×Value}:((ps.toArray).map f).toList=ps.map f:=by simp
section
variable {P:Program} {ρ:Operand→Value} {w:World} {dst:Option Tmp} {ty:TypeId} {pos:String} {after:Array Edge} {guard:Option (Nat×Bool)}
theorem bound_ok {k:IntKind} {i:Int} {y:Nat} {code:BoundsCode} (h0:0≤i) (h1:i≤y):(Instr.sliceBound (.int k i) y code).run P w= .ok i.toNat w:=by simp [Instr.sliceBound,asIntOf,h0,h1]
def partA (A:Option Addr) (c l sz:Nat):Option Addr:=if c=l then A else A.map (·.add (l*sz))
theorem Rd.part {α:Type} {d:Kd α} {h:View} {A:Option Addr} {xs:List α} {c:Nat} (hr:Rd d h A xs) (hc:xs.length≤c) (lo hi:Nat) (h1:lo≤hi) (h2:hi≤xs.length):Rd d h (partA A c lo d.sz) ((xs.take hi).drop lo):=by
 unfold partA
 split
 ·rename_i e
  have:(xs.take hi).drop lo=[]:=List.drop_eq_nil_of_le (by rw [List.length_take];omega)
  rw [this]
  exact Rd.nil _ _ _
 ·by_cases hn:0<xs.length
  ·obtain ⟨ad,e,_⟩:=hr.2 hn
   subst e
   exact (hr.take hi).drop lo
  ·have:xs=[]:=List.length_eq_zero_iff.1 (by omega)
   subst this
   simp only [List.take_nil,List.drop_nil]
   exact Rd.nil _ _ _
theorem r_slice2 {t e:TypeId} {x a b:Operand} {A:Option Addr} {n c sz:Nat} {k k':IntKind} {lo hi:Int} (hx:ρ x= .slice A n c) (hu:∀w,(underlying t).run P w= .ok (.slice e) w) (hs:∀w,(sizeOf e).run P w= .ok sz w)
  (ha:ρ a= .int k lo) (hb:ρ b= .int k' hi) (h:0≤lo∧lo≤hi∧hi≤(c:Int)):
  (execOp ρ ⟨dst, .slice t x (some a) (some b) none,ty,pos,after,guard⟩).run P w= .ok (.value (.slice (partA A c lo.toNat sz) (hi.toNat-lo.toNat) (c-lo.toNat))) w:=by
 have h1:∀(w:World),(Instr.sliceBound (.int k' hi) c .sliceAcap).run P w= .ok hi.toNat w:=fun w=>bound_ok (by omega) h.2.2
 have h2:∀(w:World),(Instr.sliceBound (.int k lo) hi.toNat .sliceB).run P w= .ok lo.toNat w:=fun w=>bound_ok h.1 (by omega)
 simp [execOp,Instr.sliceAt,Instr.slice,Instr.sliceBounds,hx,hu,hs,ha,hb,h1,h2,partA]
theorem r_sliceLo {t e:TypeId} {x a:Operand} {A:Option Addr} {n c sz:Nat} {k:IntKind} {lo:Int} (hx:ρ x= .slice A n c) (hu:∀w,(underlying t).run P w= .ok (.slice e) w) (hs:∀w,(sizeOf e).run P w= .ok sz w)
  (ha:ρ a= .int k lo) (h:0≤lo∧lo≤(n:Int)):
  (execOp ρ ⟨dst, .slice t x (some a) none none,ty,pos,after,guard⟩).run P w= .ok (.value (.slice (partA A c lo.toNat sz) (n-lo.toNat) (c-lo.toNat))) w:=by
 have h2:∀(w:World),(Instr.sliceBound (.int k lo) n .sliceB).run P w= .ok lo.toNat w:=fun w=>bound_ok h.1 h.2
 simp [execOp,Instr.sliceAt,Instr.slice,Instr.sliceBounds,hx,hu,hs,ha,h2,partA]
theorem r_sliceHi {t e:TypeId} {x b:Operand} {A:Option Addr} {n c sz:Nat} {k:IntKind} {hi:Int} (hx:ρ x= .slice A n c) (hu:∀w,(underlying t).run P w= .ok (.slice e) w) (hs:∀w,(sizeOf e).run P w= .ok sz w)
  (hb:ρ b= .int k hi) (h:0≤hi∧hi≤(c:Int)):
  (execOp ρ ⟨dst, .slice t x none (some b) none,ty,pos,after,guard⟩).run P w= .ok (.value (.slice (partA A c 0 sz) hi.toNat c)) w:=by
 have h1:∀(w:World),(Instr.sliceBound (.int k hi) c .sliceAcap).run P w= .ok hi.toNat w:=fun w=>bound_ok h.1 h.2
 simp [execOp,Instr.sliceAt,Instr.slice,Instr.sliceBounds,hx,hu,hs,hb,h1,partA]
theorem r_part2 {α:Type} {t e:TypeId} {x a b:Operand} {A:Option Addr} {xs:List α} {c sz:Nat} {k k':IntKind} {lo hi:Int} (hx:ρ x= .slice A xs.length c) (hc:xs.length≤c) (hu:∀w,(underlying t).run P w= .ok (.slice e) w)
  (hs:∀w,(sizeOf e).run P w= .ok sz w) (ha:ρ a= .int k lo) (hb:ρ b= .int k' hi) (h:0≤lo∧lo≤hi∧hi≤(xs.length:Int)):
  (execOp ρ ⟨dst, .slice t x (some a) (some b) none,ty,pos,after,guard⟩).run P w= .ok (.value (.slice (partA A c lo.toNat sz) ((xs.take hi.toNat).drop lo.toNat).length (c-lo.toNat))) w:=by
 have:((xs.take hi.toNat).drop lo.toNat).length=hi.toNat-lo.toNat:=by rw [List.length_drop,List.length_take];omega
 rw [this]
 exact r_slice2 hx hu hs ha hb (by omega)
theorem r_partLo {α:Type} {t e:TypeId} {x a:Operand} {A:Option Addr} {xs:List α} {c sz:Nat} {k:IntKind} {lo:Int} (hx:ρ x= .slice A xs.length c) (hc:xs.length≤c) (hu:∀w,(underlying t).run P w= .ok (.slice e) w)
  (hs:∀w,(sizeOf e).run P w= .ok sz w) (ha:ρ a= .int k lo) (h:0≤lo∧lo≤(xs.length:Int)):
  (execOp ρ ⟨dst, .slice t x (some a) none none,ty,pos,after,guard⟩).run P w= .ok (.value (.slice (partA A c lo.toNat sz) (xs.drop lo.toNat).length (c-lo.toNat))) w:=by
 rw [List.length_drop]
 exact r_sliceLo hx hu hs ha h
theorem r_partHi {α:Type} {t e:TypeId} {x b:Operand} {A:Option Addr} {xs:List α} {c sz:Nat} {k:IntKind} {hi:Int} (hx:ρ x= .slice A xs.length c) (hc:xs.length≤c) (hu:∀w,(underlying t).run P w= .ok (.slice e) w)
  (hs:∀w,(sizeOf e).run P w= .ok sz w) (hb:ρ b= .int k hi) (h:0≤hi∧hi≤(xs.length:Int)):
  (execOp ρ ⟨dst, .slice t x none (some b) none,ty,pos,after,guard⟩).run P w= .ok (.value (.slice (partA A c 0 sz) (xs.take hi.toNat).length c)) w:=by
 have:(xs.take hi.toNat).length=hi.toNat:=by rw [List.length_take];omega
 rw [this]
 exact r_sliceHi hx hu hs hb (by omega)
theorem Rd.partLo {α:Type} {d:Kd α} {h:View} {A:Option Addr} {xs:List α} {c:Nat} (hr:Rd d h A xs) (hc:xs.length≤c) {lo:Int} (h1:0≤lo∧lo≤(xs.length:Int)):Rd d h (partA A c lo.toNat d.sz) (xs.drop lo.toNat)∧(xs.drop lo.toNat).length≤c-lo.toNat:=by
 have:=hr.part hc lo.toNat xs.length (by omega) (Nat.le_refl _)
 rw [List.take_length] at this
 exact ⟨this,by rw [List.length_drop];omega⟩
theorem Rd.partHi {α:Type} {d:Kd α} {h:View} {A:Option Addr} {xs:List α} {c:Nat} (hr:Rd d h A xs) (hc:xs.length≤c) {hi:Int} (h1:0≤hi∧hi≤(xs.length:Int)):Rd d h (partA A c 0 d.sz) (xs.take hi.toNat)∧(xs.take hi.toNat).length≤c:=by
 have:=hr.part hc 0 hi.toNat (by omega) (by omega)
 rw [List.drop_zero] at this
 exact ⟨this,by rw [List.length_take];omega⟩
theorem Rd.part2 {α:Type} {d:Kd α} {h:View} {A:Option Addr} {xs:List α} {c:Nat} (hr:Rd d h A xs) (hc:xs.length≤c) {lo hi:Int} (h1:0≤lo∧lo≤hi∧hi≤(xs.length:Int)):Rd d h (partA A c lo.toNat d.sz) ((xs.take hi.toNat).drop lo.toNat)∧((xs.take hi.toNat).drop lo.toNat).length≤c-lo.toNat:=
 ⟨hr.part hc lo.toNat hi.toNat (by omega) (by omega),by rw [List.length_drop,List.length_take];omega⟩
def iMin (x y:Int):Int:=if y<x then y else x
theorem r_min {x y:Operand} {t:Array TypeId} {k:IntKind} {a b:Int} (hx:ρ x= .int k a) (hy:ρ y= .int k b):
  (execOp ρ ⟨dst, .call {callee:= .builtin .min,args:=#[x,y],argTypes:=t},ty,pos,after,guard⟩).run P w= .ok (.value (.int k (iMin a b))) w:=by
 simp [execOp,resolve,invoke,builtin,Builtin.min_,Builtin.min2,hx,hy,iMin]
end
theorem run_bs0 {P:Program} {Q:Exit→Act→World→Prop} {l:List Value} {df:List Deferred} {ops:Array Oper} {os:List Oper} {M:List Nat} {h0 h:View} {w0 w:World} {bs:List Res} {dst:Tmp} {ty:TypeId} {pos:String} {after:Array Edge}
  {α:Type} (d:Kd α) {t e:TypeId} (hu:∀w,(underlying t).run P w= .ok (.slice e) w) {i:TypeInfo} (hi:∀w,(typeInfo e).run P w= .ok i w) (HS:St M h0 w0 h bs w)
  (kk:∀w' b,St M h0 w0 h ((some b, .cells ([]:List Value).toArray e (0,0))::bs) w'→RowOk d h [] (some b) 0 0 []→run P ops Q df os (l.set dst (.slice (rowA (some b)) 0 0)) w'):
  run P ops Q df (⟨some dst, .buildSlice t 0 #[],ty,pos,after,none⟩::os) l w:=by
 have hex:(execOp (ev l) ⟨some dst, .buildSlice t 0 #[],ty,pos,after,none⟩).run P w= .ok (.value (.slice (rowA (some w.heap.size)) 0 0)) (w.alloc (.cells #[] e)):=by
  have hn:Sem.run P (Sem.new (Obj.cells #[] e) Sem.pure) w= .ok w.heap.size (w.alloc (.cells #[] e)):=rfl
  simp [execOp,Instr.buildSlice,hu,sizeOf,hi,Instr.fill,newRow,newObj,hn,rowA,Array.range_zero']
 unfold run
 simp only [wpList,Region.wanted,if_true]
 refine .inl ?_
 unfold Oper.wp
 rw [ev_eq,hex]
 simp only [Oper.upon,put_list]
 exact kk _ w.heap.size (HS.new (Ext.new w _) (Nat.le_refl _) (heap_alloc_new w _)) ⟨rfl,Nat.le_refl _,by simp,by simp,by omega,fun i x hx=>by simp at hx⟩
def ieq (a b:Int):Bool:=a==b
def mfind {κ ν:Type} (eq:κ→κ→Bool):List (κ×ν)→κ→Option ν
 |[],_=>none
 |p::r,k=>if eq k p.1=true then some p.2 else mfind eq r k
def mput {κ ν:Type} (eq:κ→κ→Bool):List (κ×ν)→κ→ν→List (κ×ν)
 |[],k,v=>[(k,v)]
 |p::r,k,v=>if eq k p.1=true then (k,v)::r else p::mput eq r k v
def kv (e:MapEntry):Value×Value:=(e.key,e.val)
structure MapOk {κ ν:Type} (ek:κ→Value) (ev:ν→Value) (m:List (κ×ν)) (es:Array MapEntry) (clock:Nat):Prop where
 same:es.toList.map kv=m.map fun p=>(ek p.1,ev p.2)
 born:∀e∈es.toList,e.born<clock
 nodup:(es.toList.map (·.born)).Nodup
structure KeyOk (P:Program) {κ:Type} (kt:TypeId) (d:TypeDesc) (ek:κ→Value) (eq:κ→κ→Bool):Prop where
 hu:∀w,(underlying kt).run P w= .ok d w
 now:∀a b,Instr.sameNow d (ek a) (ek b)=some (eq a b)
 check:∀e k w,(Instr.checkKey e 10000 kt (ek k)).run P w= .ok () w
 bits:∀a b,eq a b=true→Instr.sameBits 10000 (ek b) (ek a)=true
section
variable {P:Program}
theorem key_int {kt:TypeId} {k:IntKind} (hu:∀w,(underlying kt).run P w= .ok (.int k) w):KeyOk P kt (.int k) (Value.int k) ieq where
 hu:=hu
 now:=fun a b=>by simp [Instr.sameNow,ieq]
 check:=fun e n w=>by
  show (Instr.checkKey e (9999+1) kt _).run P w=_
  rw [Instr.checkKey]
  simp only [Sem.run_bind,hu,Result.andThen_ok]
  rfl
 bits:=fun a b h=>by
  have:a=b:=by simpa [ieq] using h
  subst this
  simp [Instr.sameBits]
theorem key_str {kt:TypeId} (hu:∀w,(underlying kt).run P w= .ok .string w):KeyOk P kt .string Value.string strEq where
 hu:=hu
 now:=fun a b=>by
  simp only [Instr.sameNow]
  rw [beq_toListBytes,toList_eq,toList_eq];rfl
 check:=fun e n w=>by
  show (Instr.checkKey e (9999+1) kt _).run P w=_
  rw [Instr.checkKey]
  simp only [Sem.run_bind,hu,Result.andThen_ok]
  rfl
 bits:=fun a b h=>by
  have:=strEq_iff.1 h
  subst this
  simp only [Instr.sameBits]
  rw [beq_toListBytes]
  exact beq_self_eq_true _
section
variable {κ ν:Type} {kt:TypeId} {d:TypeDesc} {ek:κ→Value} {ev:ν→Value} {eq:κ→κ→Bool}
theorem find_none (K:KeyOk P kt d ek eq) (k:κ):∀(es:List MapEntry) (m:List (κ×ν)) (i:Nat),es.map kv=m.map (fun p=>(ek p.1,ev p.2))→mfind eq m k=none→Instr.findNow d (ek k) es i=some none
  |[],m,i,h,hf=>rfl
  |e::es,[],i,h,hf=>by simp at h
  | e :: es, p :: m, i, h, hf => by
    simp only [List.map_cons,List.cons.injEq,kv,Prod.mk.injEq] at h
    simp only [mfind] at hf
    split at hf
    · cases hf
    · rename_i hne
      simp only [Instr.findNow,h.1.1,K.now]
      have:eq k p.1=false:=by simpa using hne
      rw [this]
      exact find_none K k es m (i+1) h.2 hf
theorem find_some (K : KeyOk P kt d ek eq) (k : κ) : ∀ (es : List MapEntry) (m : List (κ × ν)) (i : Nat) (v : ν), es.map kv = m.map (fun p => (ek p.1, ev p.2)) → mfind eq m k = some v →
    ∃j e k',Instr.findNow d (ek k) es i=some (some (i+j,ev v))∧es[j]?=some e∧e.key=ek k'∧eq k k'=true∧∀v',(es.modify j fun e=>{e with key:=ek k,val:=ev v'}).map kv=(mput eq m k v').map fun p=>(ek p.1,ev p.2)
  |[],[],i,v,h,hf=>by simp [mfind] at hf
  |[],p::m,i,v,h,hf=>by simp at h
  |e::es,[],i,v,h,hf=>by simp at h
  | e :: es, p :: m, i, v, h, hf => by
    simp only [List.map_cons,List.cons.injEq,kv,Prod.mk.injEq] at h
    simp only [mfind] at hf
    split at hf
    · rename_i he
      injection hf with hf
      subst hf
      refine ⟨0,e,p.1,?_,rfl,h.1.1,he,fun v'=>?_⟩
      · simp only [Instr.findNow,h.1.1,K.now,he,h.1.2]
        rfl
      · simp only [mput,if_pos he,List.modify_zero_cons,List.map_cons,kv]
        rw [←h.2]
    · rename_i hne
      obtain ⟨j,e',k',h1,h2,h3,h4,h5⟩:=find_some K k es m (i+1) v h.2 hf
      refine ⟨j+1,e',k',?_,by simpa using h2,h3,h4,fun v'=>?_⟩
      · simp only [Instr.findNow,h.1.1,K.now]
        have:eq k p.1=false:=by simpa using hne
        rw [this]
        show Instr.findNow d (ek k) es (i+1)=_
        rw [h1]
        congr 3
        omega
      · simp only [mput,if_neg hne,List.modify_succ_cons,List.map_cons]
        rw [h5 v']
        simp only [kv,h.1.1,h.1.2]
theorem findKey_run (K:KeyOk P kt d ek eq) {es:List MapEntry} {k:κ} {r:Option (Nat×Value)} (h:Instr.findNow d (ek k) es 0=some r) (w:World):(Instr.findKey kt (ek k) es).run P w= .ok r w:=by
 simp [Instr.findKey,K.hu,h]
theorem lookup_run (K:KeyOk P kt d ek eq) {xt vt:TypeId} {b:Nat} {k:κ} {m:List (κ×ν)} {es:Array MapEntry} {clock:Nat} {w:World} {z:ν} (ok:Bool) (hx:∀w,(underlying xt).run P w= .ok (.map kt vt) w)
    (hz:∀w,(zeroValue vt).run P w= .ok (ev z) w) (hb:w.heap[b]?=some (.map es clock)) (hm:MapOk ek ev m es clock):
    (Instr.lookup xt (.map (some b)) (ek k) ok).run P w= .ok (if ok then .tuple #[ev ((mfind eq m k).getD z), .bool (mfind eq m k).isSome] else ev ((mfind eq m k).getD z)) w:=by
  have hg:(getObj b).run P w= .ok (.map es clock) w:=by simp [getObj,Sem.run,hb]
  cases hf:mfind eq m k with
  | none =>
    have:=findKey_run K (find_none (ν:=ν) (ev:=ev) K k es.toList m 0 hm.same hf)
    cases ok<;>simp [Instr.lookup,hx,hg,K.check,this,hz]
  | some v =>
    obtain ⟨j,e,k',h1,_⟩:=find_some (ev:=ev) K k es.toList m 0 v hm.same hf
    have:=findKey_run K h1
    cases ok<;>simp [Instr.lookup,hx,hg,K.check,this]
theorem MapOk.nil:MapOk ek ev [] #[] 0:=⟨rfl,by simp,by simp⟩
theorem mapUpdate_run (K : KeyOk P kt d ek eq) {xt vt : TypeId} {b : Nat} {k : κ} {v : ν} {m : List (κ × ν)} {es : Array MapEntry} {clock : Nat} {w : World} (hx : ∀ w, (underlying xt).run P w = .ok (.map kt vt) w)
    (hb:w.heap[b]?=some (.map es clock)) (hm:MapOk ek ev m es clock):
    ∃es' clock',(Instr.mapUpdate xt (.map (some b)) (ek k) (ev v)).run P w= .ok () (setb w b (.map es' clock'))∧MapOk ek ev (mput eq m k v) es' clock':=by
  have hg:(getObj b).run P w= .ok (.map es clock) w:=by simp [getObj,Sem.run,hb]
  have hset:∀o,(setObj b o).run P w= .ok () (setb w b o):=fun o=>by simp [setObj,Sem.run,hb,setb]
  cases hf:mfind eq m k with
  | none =>
    have hr:=findKey_run K (find_none (ν:=ν) (ev:=ev) K k es.toList m 0 hm.same hf)
    have hmp:∀(m:List (κ×ν)),mfind eq m k=none→mput eq m k v=m++[(k,v)]:=by
      intro m
      induction m with
      |nil=>intro _;rfl
      | cons p m ih =>
        intro h
        simp only [mfind] at h
        split at h
        · cases h
        · rename_i hne
          simp only [mput,if_neg hne,List.cons_append,ih h]
    refine ⟨es.push ⟨ek k,ev v,clock⟩,clock+1,?_,?_,?_,?_⟩
    · simp [Instr.mapUpdate,hx,hg,K.check,hr,hset]
    · rw [hmp m hf]
      simp [hm.same,kv]
    · intro e he
      simp only [Array.toList_push,List.mem_append,List.mem_singleton] at he
      rcases he with he|he
      · have:=hm.born e he;omega
      · subst he;simp
    · simp only [Array.toList_push,List.map_append,List.map_cons,List.map_nil]
      rw [List.nodup_append]
      refine ⟨hm.nodup,by simp,?_⟩
      intro a ha c hc
      simp only [List.mem_singleton] at hc
      subst hc
      obtain ⟨e,he,rfl⟩:=List.mem_map.1 ha
      have:=hm.born e he
      omega
  | some v0 =>
    obtain ⟨j,e,k',h1,h2,h3,h4,h5⟩:=find_some (ev:=ev) K k es.toList m 0 v0 hm.same hf
    have hr:=findKey_run K h1
    have hje:es[j]?=some e:=by simpa using h2
    have hstay:∀w',(Instr.keyThatStays (ek k') (ek k)).run P w'= .ok (ek k) w':=fun w'=>by simp [Instr.keyThatStays,K.bits k k' h4]
    refine ⟨es.modify j fun e=>{e with key:=ek k,val:=ev v},clock,?_,?_,?_,?_⟩
    · simp [Instr.mapUpdate,hx,hg,K.check,hr,hset,hje,h3,hstay]
    · rw [←h5 v,Array.toList_modify]
    · intro e' he
      rw [Array.toList_modify] at he
      obtain ⟨i,hi⟩:=List.getElem?_of_mem he
      rw [List.getElem?_modify] at hi
      cases hx':es.toList[i]? with
      |none=>rw [hx'] at hi;simp at hi
      | some e0 =>
        rw [hx'] at hi
        have hb0:=hm.born e0 (List.mem_of_getElem? hx')
        have hi:(if j=i then {e0 with key:=ek k,val:=ev v} else e0)=e':=by simpa using hi
        subst hi
        split
        · exact hb0
        · exact hb0
    · have:((es.modify j fun e=>{e with key:=ek k,val:=ev v}).toList.map (·.born))=es.toList.map (·.born):=by
        rw [Array.toList_modify]
        apply List.ext_getElem?
        intro i
        simp only [List.getElem?_map,List.getElem?_modify]
        cases es.toList[i]? with
        |none=>rfl
        |some e0=>simp only [Option.map_some];split<;>rfl
      rw [this]
      exact hm.nodup
end
end
section
variable {P:Program} {Q:Exit→Act→World→Prop} {l:List Value} {df:List Deferred} {ops:Array Oper} {os:List Oper} {M:List Nat} {h0 h:View} {w0 w:World} {bs:List Res}
variable {dst:Option Tmp} {ty:TypeId} {pos:String} {after:Array Edge} {ρ:Operand→Value} {guard:Option (Nat×Bool)}
variable {κ ν:Type} {kt:TypeId} {d:TypeDesc} {ek:κ→Value} {ev:ν→Value} {eq:κ→κ→Bool}
theorem r_mget (K:KeyOk P kt d ek eq) {xt vt:TypeId} {x y:Operand} {b:Nat} {k:κ} {m:List (κ×ν)} {es:Array MapEntry} {clock:Nat} (z:ν) (hx:ρ x= .map (some b)) (hy:ρ y=ek k) (hu:∀w,(underlying xt).run P w= .ok (.map kt vt) w)
  (hz:∀w,(zeroValue vt).run P w= .ok (ev z) w) (hb:w.heap[b]?=some (.map es clock)) (hm:MapOk ek ev m es clock):
  (execOp ρ ⟨dst, .lookup xt x y false,ty,pos,after,guard⟩).run P w= .ok (.value (ev ((mfind eq m k).getD z))) w:=by
 have:=lookup_run K (k:=k) false hu hz hb hm
 simp [execOp,hx,hy,this]
theorem r_mget2 (K:KeyOk P kt d ek eq) {xt vt:TypeId} {x y:Operand} {b:Nat} {k:κ} {m:List (κ×ν)} {es:Array MapEntry} {clock:Nat} (z:ν) (hx:ρ x= .map (some b)) (hy:ρ y=ek k) (hu:∀w,(underlying xt).run P w= .ok (.map kt vt) w)
  (hz:∀w,(zeroValue vt).run P w= .ok (ev z) w) (hb:w.heap[b]?=some (.map es clock)) (hm:MapOk ek ev m es clock):
  (execOp ρ ⟨dst, .lookup xt x y true,ty,pos,after,guard⟩).run P w= .ok (.value (.tuple #[ev ((mfind eq m k).getD z), .bool (mfind eq m k).isSome])) w:=by
 have:=lookup_run K (k:=k) true hu hz hb hm
 simp [execOp,hx,hy,this]
theorem mupd {o:Oper} (K:KeyOk P kt d ek eq) {xt vt:TypeId} {x y z:Operand} {b i:Nat} {k:κ} {v:ν} {m:List (κ×ν)} {es:Array MapEntry} {clock:Nat} (ho:o.op= .mapUpdate xt x y z∨o.op= .insert xt x y z) (hd:o.dst=none) (hgd:o.guard=none)
  (hx:Go.M.ev l x= .map (some b)) (hy:Go.M.ev l y=ek k) (hz:Go.M.ev l z=ev v)
  (hu:∀w,(underlying xt).run P w= .ok (.map kt vt) w) (HS:St M h0 w0 h bs w) (hi:bs[i]?=some (some b, .map es clock)) (hm:MapOk ek ev m es clock)
  (kk:∀w' es' clock',St M h0 w0 h (bs.set i (some b, .map es' clock')) w'→MapOk ek ev (mput eq m k v) es' clock'→run P ops Q df os l w'):run P ops Q df (o::os) l w:=by
 obtain ⟨es',clock',hr,hm'⟩:=mapUpdate_run K (k:=k) (v:=v) hu (HS.look i hi) hm
 have hex:(execOp (Go.M.ev l) o).run P w= .ok .skip (setb w b (.map es' clock')):=by
  rcases ho with ho|ho<;>simp [execOp,ho,hx,hy,hz,hr]
 unfold run
 simp only [wpList,Region.wanted,hgd,if_true]
 refine .inl ?_
 unfold Oper.wp
 rw [ev_eq,hex]
 simp only [Oper.upon,hd]
 exact kk _ es' clock' (HS.put i _ hi) hm'
end
section
variable {P:Program} {Q:Exit→Act→World→Prop} {l:List Value} {df:List Deferred} {ops:Array Oper} {os:List Oper} {M:List Nat} {h0 h:View} {w0 w:World} {bs:List Res}
variable {dst:Tmp} {ty:TypeId} {pos:String} {after:Array Edge}
theorem run_mkmap {t:TypeId} (HS:St M h0 w0 h bs w)
  (kk:∀w' b,St M h0 w0 h ((some b, .map #[] 0)::bs) w'→run P ops Q df os (l.set dst (.map (some b))) w'):
  run P ops Q df (⟨some dst, .makeMap t none,ty,pos,after,none⟩::os) l w:=by
 have hex:(execOp (ev l) ⟨some dst, .makeMap t none,ty,pos,after,none⟩).run P w= .ok (.value (.map (some w.heap.size))) (w.alloc (.map #[] 0)):=by
  have hn:Sem.run P (Sem.new (Obj.map #[] 0) Sem.pure) w= .ok w.heap.size (w.alloc (.map #[] 0)):=rfl
  simp [execOp,Instr.makeMap,newObj,hn]
 unfold run
 simp only [wpList,Region.wanted,if_true]
 refine .inl ?_
 unfold Oper.wp
 rw [ev_eq,hex]
 simp only [Oper.upon,put_list]
 exact kk _ w.heap.size (HS.new (Ext.new w _) (Nat.le_refl _) (heap_alloc_new w _))
def bytesOf (s:ByteArray):List Int:=s.data.toList.map fun b=>(b.toNat:Int)
theorem bytesOf_length (s:ByteArray):(bytesOf s).length=s.size:=by
 unfold bytesOf
 rw [List.length_map]
 exact Array.length_toList
theorem run_s2b {s0 t e:TypeId} {x:Operand} {s:ByteArray} (hx:ev l x= .string s) (hs:∀w,(underlying s0).run P w= .ok .string w) (hu:∀w,(underlying t).run P w= .ok (.slice e) w) (he:∀w,(underlying e).run P w= .ok (.int .u8) w)
    (hsz:s.size≤9223372036854775807) (HS:St [] h0 w0 h bs w)
    (kk:∀w' h1 A c,St [] h0 w0 h1 bs w'→Sub h h1→(bytesOf s).length≤c→Rd (Kd.int .u8) h1 A (bytesOf s)→run P ops Q df os (l.set dst (.slice A (bytesOf s).length c)) w'):
    run P ops Q df (⟨some dst, .convert s0 t x,ty,pos,after,none⟩::os) l w:=by
  have hr:=run_bytes_of_string (P:=P) w s0 t e s (under_of hs) (under_of hu) (under_of he)
  have hE:Ext w (w.drew.alloc (.cells (bytesRow s (grownCap w s.size 0 e)) e ((bytesRow s (grownCap w s.size 0 e)).size,(bytesRow s (grownCap w s.size 0 e)).size+1))):=(Ext.draw w).then (Ext.new w.drew _)
  have hnew:=heap_alloc_new w.drew (.cells (bytesRow s (grownCap w s.size 0 e)) e ((bytesRow s (grownCap w s.size 0 e)).size,(bytesRow s (grownCap w s.size 0 e)).size+1))
  have hge:s.size≤grownCap w s.size 0 e:=grownCap_ge w s.size 0 e
  have hex:(execOp (ev l) ⟨some dst, .convert s0 t x,ty,pos,after,none⟩).run P w= .ok (.value (.slice (some ⟨w.heap.size,0,none⟩) s.size (grownCap w s.size 0 e))) (w.drew.alloc (.cells (bytesRow s (grownCap w s.size 0 e)) e ((bytesRow s (grownCap w s.size 0 e)).size,(bytesRow s (grownCap w s.size 0 e)).size+1))):=by
    simp only [execOp,hx,Sem.run_bind,hr,Result.andThen_ok]
    rfl
  unfold run
  simp only [wpList,Region.wanted,if_true]
  refine .inl ?_
  unfold Oper.wp
  rw [ev_eq,hex]
  simp only [Oper.upon,put_list]
  obtain ⟨h1,h2,h3⟩:=(HS.new hE (Nat.le_refl _) hnew).pub
  have hl:=bytesOf_length s
  have e1:Value.slice (some ⟨w.heap.size,0,none⟩) s.size (grownCap w s.size 0 e)=Value.slice (some ⟨w.heap.size,0,none⟩) (bytesOf s).length (grownCap w s.size 0 e):=by rw [hl]
  rw [e1]
  refine kk _ _ (some ⟨w.heap.size,0,none⟩) _ h1 h2 (by rw [hl];exact hge) ⟨by rw [hl];exact hsz,fun _=>⟨⟨w.heap.size,0,none⟩,rfl,fun i n hi=>⟨[.int .u8 n],rfl,fun j v hj=>?_⟩⟩⟩
  rw [add_at,add_at,h3 _ rfl]
  cases j with
  |succ j=>simp at hj
  | zero =>
    simp only [List.getElem?_cons_zero,Option.some.injEq] at hj
    subst hj
    unfold World.cell?
    have hnew':(w.drew.alloc (.cells (bytesRow s (grownCap w s.size 0 e)) e ((bytesRow s (grownCap w s.size 0 e)).size,(bytesRow s (grownCap w s.size 0 e)).size+1))).heap[w.heap.size]?=_:=hnew
    simp only [hnew',Nat.zero_add,Nat.add_zero]
    have hi':=(List.getElem?_eq_some_iff.1 hi).1
    rw [hl] at hi'
    have hd:i<s.data.size:=hi'
    simp only [bytesOf,List.getElem?_map] at hi
    show (bytesRow s _)[i*1]?=_
    rw [Nat.mul_one]
    unfold bytesRow
    rw [Array.getElem?_append_left (by simpa using hd),Array.getElem?_map]
    cases hg:s.data.toList[i]? with
    |none=>rw [hg] at hi;cases hi
    | some b =>
      rw [hg] at hi
      have:s.data[i]?=some b:=by rw [←Array.getElem?_toList];exact hg
      rw [this]
      simp only [Option.map_some,Option.some.injEq] at hi⊢
      rw [hi]
end
section
variable {P:Program} {ρ:Operand→Value} {w:World} {dst:Option Tmp} {ty:TypeId} {pos:String} {after:Array Edge} {guard:Option (Nat×Bool)}
theorem r_makeFunc {f:FuncId} {cs:List Operand} {vs:List Value} (h:cs.map ρ=vs):(execOp ρ ⟨dst, .makeFunc (.func f) #[] cs.toArray,ty,pos,after,guard⟩).run P w= .ok (.value (.func (.func f) #[] vs.toArray)) w:=by
 subst h
 simp [execOp,Instr.makeFunc]
theorem does_callv {f:FuncId} {g:Operand} {caps:List Value} {xs:List Operand} {ts:Array TypeId} {vs:List Value} {v:Value} (hcall:∀args w,(callFunc f args).run P w= .ok (.enter f args) w)
  (hg:ρ g= .func (.func f) #[] caps.toArray) (ha:xs.map ρ=vs) (h:Calls P f (vs++caps).toArray w fun e w'=>e= .returned v∧Ext w w'):
  Does P ⟨dst, .call {callee:= .value g,args:=xs.toArray,argTypes:=ts},ty,pos,after,guard⟩ ρ w (.eq v):=by
 have hr:(execOp ρ ⟨dst, .call {callee:= .value g,args:=xs.toArray,argTypes:=ts},ty,pos,after,guard⟩).run P w= .ok (.enter f (vs++caps).toArray) w:=by
  have:=hcall (vs++caps).toArray w
  subst ha
  simp [execOp,resolve,hg,Deferred.ofValue,invoke]
  simpa using this
 unfold Does
 rw [hr]
 exact h.mono fun e w' hh=>⟨v,hh.1,rfl,hh.2⟩
end
theorem St.fresh {h0 h:View} {w0 w:World} {bs:List Res} {b:Nat} {o:Obj} (H:St [] h0 w0 h bs w) (i:Nat) (hi:bs[i]?=some (some b,o)):w0.heap.size≤b∧w.heap[b]?=some o:=by
 have hh:=H.own _ (List.mem_of_getElem? hi)
 refine ⟨?_,hh.1⟩
 rcases hh.2.1 with h|h
 ·exact h
 ·simp at h
def NewMap {κ ν:Type} (wz:World) (ek:κ→Value) (ev:ν→Value) (m:List (κ×ν)):World→Value→Prop:=fun w' u=>∃b es cl,u= .map (some b)∧wz.heap.size≤b∧w'.heap[b]?=some (.map es cl)∧MapOk ek ev m es cl
theorem NewMap.stable {κ ν:Type} {wz:World} {ek:κ→Value} {ev:ν→Value} {m:List (κ×ν)}:∀w w' v,Ext w w'→NewMap wz ek ev m w v→NewMap wz ek ev m w' v:=by
 rintro w w' v hE ⟨b,es,cl,e,h1,h2,h3⟩
 exact ⟨b,es,cl,e,h1,heap_ext h2 hE,h3⟩
theorem map_in {P:Program} {κ ν:Type} {wz w:World} {ek:κ→Value} {ev:ν→Value} {m:List (κ×ν)} {f:FuncId} {args:Array Value} (hE:Ext wz w)
  (hc:Calls P f args w (fun e w1=>∃b es cl,e= .returned (.map (some b))∧(w.heap.size≤b∧w1.heap[b]?=some (.map es cl))∧MapOk ek ev m es cl∧Ext w w1)):
  Calls P f args w (fun e w1=>∃v,e= .returned v∧(Sp.ex (NewMap wz ek ev m)).holds w1 v∧Ext w w1):=
 hc.mono fun e w1 ⟨b,es,cl,e1,hb,hm,x⟩=>⟨_,e1,⟨b,es,cl,rfl,Nat.le_trans hE.size hb.1,hb.2,hm⟩,x⟩
section
variable {P:Program} {ops:Array Oper} {Q:Exit→Act→World→Prop}
def formOkZ (ops : Array Oper) (m : Nat) (n : Nat) (z : Nat) : Bool :=
  decide (m < ops.size) && decide (z < m) && (List.range ops.size).all (fun i => (match ops[i]? with | some o => o.after.all (fun e => !Region.binds .any e || decide (e.on < i)) | none => false)) && (List.range m).all (fun i => lookOk ops m i && (match ops[i]? with
    |some o=>(match o.dst with|some t=>decide (t<n)|none=>false)&&(List.range i).all (fun j=>match ops[j]? with|some x=> !(x.dst==o.dst)|none=>false)
    | none => false)) &&
  (List.range ops.size).all (fun i => decide (i < m) || (match ops[i]? with
    |some o=>(List.range m).all (fun j=>(i==m&&j==z)||o.after.any fun e=>Region.binds .any e&&e.on==j)&&(i==m||o.after.any fun e=>Region.binds .any e&&e.on+1==i)
    | none => false)) &&
  (match ops[m]? with|some o=>o.dst.isNone&&o.guard.isNone|none=>false)&&(match ops[z]? with|some o=>o.guard.isNone|none=>false)
theorem wpAny_tail2 {m : Nat} (h2 : ∀ i o, ops[i]? = some o → ∀ e ∈ o.after, Region.binds .any e = true → e.on < i) (h4 : ∀ i o, m ≤ i → ops[i]? = some o → i = m ∨ ∃ e ∈ o.after, Region.binds .any e = true ∧ e.on + 1 = i) : ∀ (d k : Nat) (L : Array Bool) (a : Act) (w : World), k + d = ops.size → m ≤ k → L.size = ops.size →
    (∀j,j<ops.size→L.getD j false=decide (j<k))→wpList P ops Q (ops.toList.drop k) a w→wpAny P .any ops Q d L a w:=by
  intro d
  have only:∀(k:Nat) (L:Array Bool),m≤k→L.size=ops.size→(∀j,j<ops.size→L.getD j false=decide (j<k))→∀i,i∈Region.ready .any ops L→i=k:=by
    intro k L hk hs hL i hi
    rw [mem_ready] at hi
    obtain ⟨hn,o,ho,hall⟩:=hi
    have hlt:=(Array.getElem?_eq_some_iff.1 ho).1
    have hki:k≤i:=by
      have:=hL i hlt
      have h5:L.getD i false=L.getD i true:=by simp [Array.getD_eq_getD_getElem?,hs,hlt]
      rw [h5,hn] at this
      simpa using this
    by_cases hik:i=k
    · exact hik
    · rcases h4 i o (by omega) ho with rfl|⟨e,he,hb,hon⟩
      · omega
      · have h6:=hall e he hb
        rw [hL e.on (by omega)] at h6
        simp at h6
        omega
  induction d with
  | zero =>
    intro k L a w hk hmk hs hL h
    refine ⟨?_,?_⟩
    · refine List.eq_nil_iff_forall_not_mem.2 (fun i hi=>?_)
      have:=only k L hmk hs hL i hi
      rw [mem_ready] at hi
      obtain ⟨_,o,ho,_⟩:=hi
      have hlt:=(Array.getElem?_eq_some_iff.1 ho).1
      omega
    · have hnil:ops.toList.drop k=[]:=by simp;omega
      rw [hnil] at h
      exact h
  | succ d ih =>
    intro k L a w hk hmk hs hL h
    have hlt:k<ops.size:=by omega
    have hget:ops[k]?=some ops[k]:=Array.getElem?_eq_getElem hlt
    have hdrop:ops.toList.drop k=ops[k]::ops.toList.drop (k+1):=by
      rw [List.drop_eq_getElem_cons (by simpa using hlt)]
      simp
    have hin:k∈Region.ready .any ops L:=by
      rw [mem_ready]
      refine ⟨?_,ops[k],hget,fun e he hb=>?_⟩
      · have:=hL k hlt
        have h5:L.getD k false=L.getD k true:=by simp [Array.getD_eq_getD_getElem?,hs,hlt]
        rw [←h5,this];simp
      · have h6:=h2 k _ hget e he hb
        rw [hL e.on (by omega)];simpa using h6
    refine ⟨fun h0=>(by rw [h0] at hin;cases hin),fun i hi=>?_⟩
    obtain rfl:=only k L hmk hs hL i hi
    rw [hdrop] at h
    have hL':∀j,j<ops.size→(L.setIfInBounds i true).getD j false=decide (j<i+1):=by
      intro j hj
      by_cases hji:i=j
      · subst hji;simp [hs,hj]
      · rw [getD_set_ne false hji,hL j hj]
        congr 1
        simp;omega
    unfold wpOp
    rw [hget]
    simp only [wpList] at h
    simp only
    split
    · rename_i hw
      rw [if_pos hw] at h
      exact h.imp (Oper.wp_mono (fun a' w' h'=>ih (i+1) _ a' w' (by omega) (by omega) (by simpa using hs) hL' h')) id
    · rename_i hw
      rw [if_neg hw] at h
      exact ih (i+1) _ _ w (by omega) (by omega) (by simpa using hs) hL' h
theorem fin_at {sps:List Sp} {a a':Act} {w w':World} {L:Array Bool} {K:Act→World→Prop} (h1:sps.length≤ops.size) (h3:∀i o,i<sps.length→ops[i]?=some o→lookOk ops sps.length i=true∧(∃t,o.dst=some t∧t<a.tmps.size)∧∀j x,j<i→ops[j]?=some x→x.dst≠o.dst)
  (I:Inv ops sps a w L a' w') (hall:∀j,j<sps.length→L.getD j false=true) (hend:fin K ((ops.toList.take sps.length).zip sps) a w'):K a' w':=by
 have hz:∀x∈(ops.toList.take sps.length).zip sps,∃j,j<sps.length∧ops[j]?=some x.1∧sps.getD j (.eq undef)=x.2:=by
  intro x hx
  obtain ⟨j,hj,he⟩:=List.mem_iff_getElem.1 hx
  simp only [List.length_zip,List.length_take,Array.length_toList] at hj
  refine ⟨j,by omega,?_,?_⟩
  ·rw [←he];simp [show j<ops.size by omega]
  ·rw [←he];simp [show j<sps.length by omega]
 refine fin_of _ a a' ?_ ?_ I.size I.defers ?_ ?_ hend
 ·intro x hx
  obtain ⟨j,hj,ho,_⟩:=hz x hx
  exact (h3 j _ hj ho).2.1
 ·rw [List.nodup_iff_pairwise_ne,List.pairwise_iff_getElem]
  intro i j hi hj hij
  simp only [List.length_map,List.length_zip,List.length_take,Array.length_toList] at hi hj
  simp only [List.getElem_map,List.getElem_zip,List.getElem_take,Array.getElem_toList]
  exact (h3 j ops[j] (by omega) (Array.getElem?_eq_getElem (by omega))).2.2 i ops[i] hij (Array.getElem?_eq_getElem (by omega))
 ·intro t ht
  refine I.off t (fun j o hj ho hd=>?_)
  exfalso
  have hlt:=(Array.getElem?_eq_some_iff.1 ho)
  refine ht (ops[j]'hlt.1,sps[j]) ?_ (by rw [hlt.2];exact hd)
  refine List.mem_iff_getElem.2 ⟨j,by simp;omega,by simp⟩
 ·intro x hx t ht
  obtain ⟨j,hj,ho,he⟩:=hz x hx
  have:=I.on j _ t hj ho ht (hall j hj)
  rw [he] at this
  exact this
theorem Inv.step {sps : List Sp} {a a' : Act} {w w' : World} {L : Array Bool} (h3 : ∀ i o, i < sps.length → ops[i]? = some o → lookOk ops sps.length i = true ∧ (∃ t, o.dst = some t ∧ t < a.tmps.size) ∧ ∀ j x, j < i → ops[j]? = some x → x.dst ≠ o.dst) (hst : ∀ s ∈ sps, s.Stable) (hs : L.size = ops.size) (I : Inv ops sps a w L a' w') {i : Nat} {o : Oper} (him : i < sps.length) (ho : ops[i]? = some o)
    (hnf:L.getD i false=false):∀v w'',(sps.getD i (.eq undef)).holds w'' v→Ext w' w''→Inv ops sps a w (L.setIfInBounds i true) (a'.put o.dst v) w'':=by
  obtain ⟨hlook,⟨t,ht,htn⟩,hdist⟩:=h3 i o him ho
  have hil:=(Array.getElem?_eq_some_iff.1 ho).1
  intro v w'' hv hE
  have hta:t<a'.tmps.size:=by rw [I.size];exact htn
  refine ⟨I.ext.then hE,by simp [Act.put,ht,I.defers],by simp [Act.put,ht,I.size],fun u hu=>?_,fun j x u hj hx hd hjl=>?_⟩
  · rw [ht,getD_put hta]
    have hut:u≠t:=by
      rintro rfl
      have:=hu i o him ho ht
      simp [hs,hil] at this
    rw [if_neg hut]
    refine I.off u (fun j x hj hx hd=>?_)
    have:=hu j x hj hx hd
    by_cases hji:i=j
    · subst hji;exact hnf
    · rwa [getD_set_ne false hji] at this
  · rw [ht,getD_put hta]
    by_cases hji:i=j
    · subst hji
      rw [ho] at hx
      obtain rfl:=Option.some.inj hx
      rw [ht] at hd
      rw [if_pos (Option.some.inj hd).symm]
      exact hv
    · have hut:u≠t:=by
        rintro rfl
        rcases Nat.lt_or_ge i j with hlt|hge
        · exact (h3 j x hj hx).2.2 i o hlt ho (by rw [ht,hd])
        · exact hdist j x (by omega) hx (by rw [ht,hd])
      rw [if_neg hut]
      rw [getD_set_ne false hji] at hjl
      have hs2:(sps.getD j (.eq undef)).Stable:=by
        refine hst _ ?_
        rw [List.getD_eq_getElem?_getD,List.getElem?_eq_getElem hj]
        exact List.getElem_mem hj
      exact hs2.holds hE (I.on j x u hj hx hd hjl)
theorem formOkZ_parts {m n z : Nat} (h : formOkZ ops m n z = true) : m < ops.size ∧ z < m ∧
    (∀i o,ops[i]?=some o→∀e∈o.after,Region.binds .any e=true→e.on<i)∧
    (∀i o,i<m→ops[i]?=some o→lookOk ops m i=true∧(∃t,o.dst=some t∧t<n)∧∀j x,j<i→ops[j]?=some x→x.dst≠o.dst)∧
    (∀i o,m≤i→ops[i]?=some o→(∀j,j<m→(i=m∧j=z)∨∃e∈o.after,Region.binds .any e=true∧e.on=j)∧(i=m∨∃e∈o.after,Region.binds .any e=true∧e.on+1=i))∧
    (∀o,ops[m]?=some o→o.dst=none∧o.guard=none)∧(∀o,ops[z]?=some o→o.guard=none):=by
  simp only [formOkZ,Bool.and_eq_true,decide_eq_true_eq,List.all_eq_true,List.mem_range] at h
  obtain ⟨⟨⟨⟨⟨⟨h1,h0⟩,h2⟩,h3⟩,h4⟩,h5⟩,h6⟩:=h
  refine ⟨h1,h0,?_,?_,?_,?_,?_⟩
  · intro i o ho e he hb
    have:=h2 i (Array.getElem?_eq_some_iff.1 ho).1
    rw [ho] at this
    have:=Array.all_eq_true_iff_forall_mem.1 this e he
    rw [hb] at this
    simpa using this
  · intro i o hi ho
    obtain ⟨h5,h6⟩:=h3 i hi
    rw [ho] at h6
    simp only [Bool.and_eq_true,List.all_eq_true,List.mem_range] at h6
    refine ⟨h5,?_,fun j x hj hx=>?_⟩
    · cases hd:o.dst with
      |none=>rw [hd] at h6;simp at h6
      |some t=>rw [hd] at h6;exact ⟨t,rfl,by simpa using h6.1⟩
    · have:=h6.2 j hj
      rw [hx] at this
      simpa using this
  · intro i o hi ho
    have:=h4 i (Array.getElem?_eq_some_iff.1 ho).1
    rw [ho] at this
    simp only [Bool.or_eq_true,decide_eq_true_eq,Bool.and_eq_true,List.all_eq_true,List.mem_range,beq_iff_eq] at this
    rcases this with h5|⟨h5,h6⟩
    · omega
    · refine ⟨fun j hj=>?_,h6.imp id (fun h7=>?_)⟩
      · rcases h5 j hj with h8|h8
        · exact .inl h8
        · obtain ⟨e,he,hb⟩:=Array.any_eq_true'.1 h8
          simp only [Bool.and_eq_true,beq_iff_eq] at hb
          exact .inr ⟨e,he,hb.1,hb.2⟩
      · obtain ⟨e,he,hb⟩:=Array.any_eq_true'.1 h7
        simp only [Bool.and_eq_true,beq_iff_eq] at hb
        exact ⟨e,he,hb.1,hb.2⟩
  · intro o ho
    rw [ho] at h5
    simp only [Bool.and_eq_true,Option.isNone_iff_eq_none] at h5
    exact h5
  · intro o ho
    rw [ho] at h6
    simpa using h6
def Lazy (P : Program) (ops : Array Oper) (Q : Exit → Act → World → Prop) (m z : Nat) (tz : Tmp) (v : Value) (a : Act) (w : World) : Prop :=
  a.tmps.getD tz undef=v∧tz<a.tmps.size∧∃om oz w2,ops[m]?=some om∧ops[z]?=some oz∧(∀u,(execOp (a.put (some tz) u).eval om).run P w= .ok .skip w2)∧
    (∀u,(execOp (a.put (some tz) u).eval oz).run P w2= .ok (.value v) w2)∧wpList P ops Q (ops.toList.drop (m+1)) a w2
theorem put_self {a:Act} {t:Tmp} (ht:t<a.tmps.size):a.put (some t) (a.tmps.getD t undef)=a:=by
 have h9:a.tmps.setIfInBounds t (a.tmps.getD t undef)=a.tmps:=by
  apply Array.ext_getElem?
  intro k
  simp only [Array.getElem?_setIfInBounds]
  by_cases hk:t=k
  ·subst hk;simp [ht,Array.getD_eq_getD_getElem?]
  ·simp [hk]
 simp only [Act.put,h9]
theorem wpAny_lazy {sps : List Sp} {a : Act} {w : World} {z : Nat} {tz : Tmp} {v : Value} (hf : formOkZ ops sps.length a.tmps.size z = true) (hst : ∀ s ∈ sps, s.Stable) (hoz : ∀ oz, ops[z]? = some oz → oz.dst = some tz)
    (hvz:sps.getD z (.eq undef)= .eq v) (hob:∀i,i<sps.length→Ob P ops sps a w i)
    (hend:∀w',Ext w w'→fin (Lazy P ops Q sps.length z tz v) ((ops.toList.take sps.length).zip sps) a w'):
    ∀ (c : Nat) (L : Array Bool) (a' : Act) (w' : World), ((List.range sps.length).filter fun j => !L.getD j false).length = c → L.size = ops.size →
      (∀j,sps.length≤j→L.getD j false=false)→Inv ops sps a w L a' w'→wpAny P .any ops Q (c+(ops.size-sps.length)) L a' w':=by
  obtain ⟨h1',hzm,h2,h3,h4,h5,h6⟩:=formOkZ_parts hf
  have h1:sps.length≤ops.size:=by omega
  intro c
  induction c with
  | zero =>
    intro L a' w' hc hs htl I
    have hall:∀j,j<sps.length→L.getD j false=true:=by
      intro j hj
      cases hb:L.getD j false with
      |true=>rfl
      | false =>
        have:j∈(List.range sps.length).filter fun j=> !L.getD j false:=List.mem_filter.2 ⟨List.mem_range.2 hj,by simp [hb]⟩
        rw [List.eq_nil_of_length_eq_zero hc] at this
        cases this
    obtain ⟨hv,htz,om,oz,w2,hom,hoz',hs1,hl1,hrest⟩:=fin_at h1 h3 I hall (hend w' I.ext)
    have hs1:=hs1 (a'.tmps.getD tz undef)
    rw [put_self htz] at hs1
    rw [Nat.zero_add]
    refine wpAny_tail2 h2 (fun i o hi ho=>(h4 i o hi ho).2) _ sps.length L a' w' (by omega) (Nat.le_refl _) hs (fun j hj=>?_) ?_
    · by_cases hjm:j<sps.length
      · rw [hall j hjm];simp [hjm]
      · rw [htl j (by omega)];simp [hjm]
    · have hom':ops[sps.length]=om:=by
        rw [Array.getElem?_eq_getElem h1'] at hom
        exact Option.some.inj hom
      have hdrop:ops.toList.drop sps.length=om::ops.toList.drop (sps.length+1):=by
        rw [List.drop_eq_getElem_cons (by simpa using h1')]
        simp [hom']
      rw [hdrop]
      obtain ⟨hdn,hgn⟩:=h5 om hom
      simp only [wpList]
      rw [if_pos (by simp [Region.wanted,hgn])]
      refine .inl ?_
      unfold Oper.wp
      rw [hs1]
      simp only [Oper.upon,hdn]
      exact hrest
  | succ c ih =>
    intro L a' w' hc hs htl I
    rw [show c+1+(ops.size-sps.length)=c+(ops.size-sps.length)+1 by omega]
    have hex:∃i,i<sps.length∧L.getD i false=false∧∀j,j<i→L.getD j false=true:=by
      have h5:∃i,i<sps.length∧L.getD i false=false:=by
        cases hfl:(List.range sps.length).filter fun j=> !L.getD j false with
        |nil=>rw [hfl] at hc;simp at hc
        | cons x r =>
          have hx:x∈(List.range sps.length).filter fun j=> !L.getD j false:=by rw [hfl];exact List.mem_cons_self
          rw [List.mem_filter] at hx
          exact ⟨x,List.mem_range.1 hx.1,by simpa using hx.2⟩
      obtain ⟨i,hi,hb⟩:=h5
      have hmin:∀k,k<sps.length→L.getD k false=false→∃i,i<sps.length∧L.getD i false=false∧∀j,j<i→L.getD j false=true:=by
        intro k
        induction k using Nat.strongRecOn with
        | _ k ihk =>
          intro hk hkb
          by_cases hlow:∃j,j<k∧L.getD j false=false
          · obtain ⟨j,hj,hjb⟩:=hlow
            exact ihk j hj (by omega) hjb
          · refine ⟨k,hk,hkb,fun j hj=>?_⟩
            cases hb:L.getD j false with
            |true=>rfl
            |false=>exact absurd ⟨j,hj,hb⟩ hlow
      exact hmin i hi hb
    have flip:∀i,i<ops.size→L.getD i false=L.getD i true:=fun i hi=>by simp [Array.getD_eq_getD_getElem?,hs,hi]
    refine ⟨fun h0=>?_,fun i hi=>?_⟩
    · exfalso
      obtain ⟨i,hi,hb,hlow⟩:=hex
      have hil:i<ops.size:=by omega
      have:i∈Region.ready .any ops L:=by
        rw [mem_ready]
        refine ⟨by rw [←flip i hil];exact hb,ops[i],Array.getElem?_eq_getElem hil,fun e he hbn=>hlow _ (h2 i _ (Array.getElem?_eq_getElem hil) e he hbn)⟩
      rw [h0] at this
      cases this
    · rw [mem_ready] at hi
      obtain ⟨hn,o,ho,hwait⟩:=hi
      have hil:=(Array.getElem?_eq_some_iff.1 ho).1
      have hnf:L.getD i false=false:=(flip i hil).trans hn
      by_cases him:i<sps.length
      · obtain ⟨hlook,⟨t,ht,htn⟩,hdist⟩:=h3 i o him ho
        have hlk:∀u,(o.looksAt ops).contains u=true→known ops sps a u w' (a'.tmps.getD u undef):=by
          intro u hu
          simp only [lookOk,ho,Bool.and_eq_true,List.all_eq_true] at hlook
          have h5:=hlook.2 u (List.contains_iff_mem.1 hu)
          unfold known
          cases hfd:(List.range sps.length).find? fun j=>(ops[j]?).any fun x=>x.dst==some u with
          | none =>
            simp only
            refine I.off u (fun j x hj hx hd=>?_)
            have:=List.find?_eq_none.1 hfd j (List.mem_range.2 hj)
            rw [hx] at this
            simp [hd] at this
          | some j =>
            rw [hfd] at h5
            simp only at h5⊢
            have h6:=List.find?_some hfd
            have h7:=List.mem_range.1 (List.mem_of_find?_eq_some hfd)
            obtain ⟨e,he,hb⟩:=Array.any_eq_true'.1 h5
            simp only [Bool.and_eq_true,beq_iff_eq] at hb
            have h8:=hwait e he hb.1
            rw [hb.2] at h8
            cases hx:ops[j]? with
            |none=>rw [hx] at h6;simp at h6
            | some x =>
              rw [hx] at h6
              exact I.on j x u h7 hx (by simpa using h6) h8
        have hO:=hob i him o ho a' w' I.ext hlk
        have next:∀v w'',(sps.getD i (.eq undef)).holds w'' v→Ext w' w''→wpAny P .any ops Q (c+(ops.size-sps.length)) (L.setIfInBounds i true) (a'.put o.dst v) w'':=by
          intro v w'' hv hE
          refine ih _ _ _ ?_ (by simpa using hs) (fun j hj=>?_) (I.step h3 hst hs him ho hnf v w'' hv hE)
          · have:=count_set him hnf (by omega)
            omega
          · rw [getD_set_ne false (by omega)];exact htl j hj
        unfold wpOp
        rw [ho]
        simp only
        split
        · rename_i hw
          rw [if_pos hw] at hO
          exact .inl (Does.wp hO (fun v w'' hv hE=>next v w'' hv hE))
        · rename_i hw
          rw [if_neg hw] at hO
          exact next undef w' hO (Ext.rfl' w')
      · obtain ⟨j,hj,hjb,_⟩:=hex
        have honly:∀k,k<sps.length→L.getD k false=false→i=sps.length∧k=z:=by
          intro k hk hkb
          rcases (h4 i o (by omega) ho).1 k hk with h|⟨e,he,hb,hon⟩
          · exact h
          · have:=hwait e he hb
            rw [hon,hkb] at this
            cases this
        obtain ⟨rfl,rfl⟩:=honly j hj hjb
        have hzl:j<ops.size:=by omega
        obtain ⟨_,⟨t,ht,htn⟩,_⟩:=h3 j ops[j] hj (Array.getElem?_eq_getElem hzl)
        have hI:=I.step h3 hst hs hj (Array.getElem?_eq_getElem hzl) hjb v w' (by rw [hvz];rfl) (Ext.rfl' w')
        have hall:∀k,k<sps.length→(L.setIfInBounds j true).getD k false=true:=by
          intro k hk
          by_cases hkj:j=k
          · subst hkj;simp [hs,hzl]
          · rw [getD_set_ne false hkj]
            cases hb:L.getD k false with
            |true=>rfl
            |false=>exact absurd (honly k hk hb).2 (fun e=>hkj e.symm)
        have hdz:=hoz _ (Array.getElem?_eq_getElem hzl)
        rw [hdz] at ht hI
        obtain rfl:=Option.some.inj ht
        obtain ⟨hv,_,om,oz,w2,hom,hoz',hst',hlz,hrest⟩:=fin_at h1 h3 hI hall (hend w' hI.ext)
        rw [ho] at hom
        obtain rfl:=Option.some.inj hom
        rw [Array.getElem?_eq_getElem hzl] at hoz'
        have hozz:=Option.some.inj hoz'
        have hta:tz<a'.tmps.size:=by rw [I.size];exact htn
        have hback:(a'.put (some tz) v).put (some tz) (a'.tmps.getD tz undef)=a':=by
          have h9:(a'.tmps.setIfInBounds tz v).setIfInBounds tz (a'.tmps.getD tz undef)=a'.tmps:=by
            apply Array.ext_getElem?
            intro k
            simp only [Array.getElem?_setIfInBounds,Array.size_setIfInBounds]
            by_cases hk:tz=k
            · subst hk;simp [hta,Array.getD_eq_getD_getElem?]
            · simp [hk]
          simp only [Act.put,h9]
        have hs1:=hst' (a'.tmps.getD tz undef)
        rw [hback] at hs1
        have hl1:=hlz (a'.tmps.getD tz undef)
        rw [hback] at hl1
        obtain ⟨hdn,hgn⟩:=h5 o ho
        unfold wpOp
        rw [ho]
        simp only
        have hw:Region.wanted o (yielded ops a'.tmps)=true:=by simp [Region.wanted,hgn]
        rw [if_pos hw]
        refine .inl ?_
        unfold Oper.wp
        rw [hs1]
        simp only [Oper.upon,hdn]
        show wpAny P .any ops Q (c+(ops.size-sps.length)) (L.setIfInBounds sps.length true) a' w2
        have hc0:c=0:=by
          have h9:=count_set hj hjb (by omega)
          have:((List.range sps.length).filter fun q=> !(L.setIfInBounds j true).getD q false)=[]:=by
            rw [List.filter_eq_nil_iff]
            intro q hq
            rw [hall q (List.mem_range.1 hq)]
            simp
          rw [this] at h9
          simp only [List.length_nil] at h9
          omega
        subst hc0
        have hL2:∀q,q<ops.size→(L.setIfInBounds sps.length true).getD q false=(decide (q<sps.length+1)&& !(q==j)):=by
          intro q hq
          by_cases hqm:sps.length=q
          · subst hqm
            simp [hs,show sps.length<ops.size from h1',show¬sps.length=j by omega]
          · rw [getD_set_ne false hqm]
            by_cases hqs:q<sps.length
            · by_cases hqj:q=j
              · subst hqj;rw [hjb];simp
              · have:=hall q hqs
                rw [getD_set_ne false (fun e=>hqj e.symm)] at this
                rw [this]
                simp [hqj];omega
            · rw [htl q (by omega)]
              simp;intro _;omega
        have hdz2:(0+(ops.size-sps.length))=(ops.size-(sps.length+1))+1:=by omega
        rw [hdz2]
        have hready:∀q,q∈Region.ready .any ops (L.setIfInBounds sps.length true)→q=j:=by
          intro q hq
          rw [mem_ready] at hq
          obtain ⟨hqn,oq,hoq,hqw⟩:=hq
          have hql:=(Array.getElem?_eq_some_iff.1 hoq).1
          have hqf:(L.setIfInBounds sps.length true).getD q false=false:=by
            have:(L.setIfInBounds sps.length true).getD q false=(L.setIfInBounds sps.length true).getD q true:=by simp [Array.getD_eq_getD_getElem?,hs,hql]
            rw [this,hqn]
          rw [hL2 q hql] at hqf
          by_cases hqj:q=j
          · exact hqj
          · exfalso
            simp [hqj] at hqf
            rcases (h4 q oq (by omega) hoq).1 j hj with h9|⟨e,he,hb,hon⟩
            · omega
            · have h10:=hqw e he hb
              rw [hon,hL2 j hzl] at h10
              simp at h10
        refine ⟨fun h0=>?_,fun q hq=>?_⟩
        · exfalso
          have:j∈Region.ready .any ops (L.setIfInBounds sps.length true):=by
            rw [mem_ready]
            refine ⟨?_,ops[j],Array.getElem?_eq_getElem hzl,fun e he hb=>?_⟩
            · have h9:(L.setIfInBounds sps.length true).getD j false=(L.setIfInBounds sps.length true).getD j true:=by simp [Array.getD_eq_getD_getElem?,hs,hzl]
              rw [←h9,hL2 j hzl];simp
            · have h9:=h2 j _ (Array.getElem?_eq_getElem hzl) e he hb
              rw [hL2 e.on (by omega)]
              simp;omega
          rw [h0] at this
          cases this
        · obtain rfl:=hready q hq
          unfold wpOp
          rw [Array.getElem?_eq_getElem hzl]
          simp only
          have hw:Region.wanted ops[q] (yielded ops a'.tmps)=true:=by simp [Region.wanted,h6 _ (Array.getElem?_eq_getElem hzl)]
          rw [if_pos hw]
          refine .inl ?_
          unfold Oper.wp
          rw [hozz,hl1]
          simp only [Oper.upon]
          rw [←hozz,hdz]
          refine wpAny_tail2 h2 (fun i o hi ho=>(h4 i o hi ho).2) _ (sps.length+1) _ _ w2 (by omega) (by omega) (by simpa using hs) (fun k hk=>?_) hrest
          by_cases hkq:q=k
          · subst hkq;simp [hs,hzl];omega
          · rw [getD_set_ne false hkq,hL2 k hk]
            have:(k==q)=false:=by simpa using fun e=>hkq e.symm
            simp [this]
end
theorem repl_false (n j:Nat):(Array.replicate n false).getD j false=false:=by
 rw [Array.getD_eq_getD_getElem?,Array.getElem?_replicate]
 split<;>rfl
section
variable {P:Program} {Q:Exit→Act→World→Prop} {l:List Value} {df:List Deferred} {w:World}
def LazyL (P:Program) (os:List Oper) (Q:Exit→Act→World→Prop) (df:List Deferred) (m:Nat) (om oz:Oper) (tz:Tmp) (v:Value) (l:List Value) (w:World):Prop:=
 l.getD tz undef=v∧tz<l.length∧∃w2,(∀u,(execOp (ev (l.set tz u)) om).run P w= .ok .skip w2)∧(∀u,(execOp (ev (l.set tz u)) oz).run P w2= .ok (.value v) w2)∧run P os.toArray Q df (os.drop (m+1)) l w2
theorem drawn_lazy {id : Nat} {os : List Oper} (sps : List Sp) (ds : List Tmp) (z : Nat) (tz : Tmp) (v : Value) (om oz : Oper) (hmix : P.follows .mixedOrders = true)
    (hf:formOkZ os.toArray sps.length l.length z=true) (hd:(os.take sps.length).map (·.dst)=ds.map some) (hom:os[sps.length]?=some om) (hoz:os[z]?=some oz) (hz:oz.dst=some tz) (hvz:sps[z]?=some (.eq v)) (hst:∀s∈sps,s.Stable)
    (hob:ObL P os.toArray sps ⟨l.toArray,df⟩ w os sps)
    (hend:∀w',Ext w w'→finL (fun l w=>LazyL P os Q df sps.length om oz tz v l w) (ds.zip sps) l w'):(Code.region id os.toArray true).wp P Q ⟨l.toArray,df⟩ w:=by
  refine wp_region_any hmix ?_
  have hp:=formOkZ_parts hf
  have h1:sps.length≤os.toArray.size:=by have:=hp.1;omega
  have hfin:∀w',Ext w w'→fin (Lazy P os.toArray Q sps.length z tz v) ((os.toArray.toList.take sps.length).zip sps) ⟨l.toArray,df⟩ w':=by
    intro w' hE
    refine fin_of_finL (Q:=Lazy P os.toArray Q sps.length z tz v) _ _ ds l w' hd ?_
    have key:∀(xs:List (Tmp×Sp)) (l:List Value) (w:World),finL (fun l w=>LazyL P os Q df sps.length om oz tz v l w) xs l w→finL (fun l w=>Lazy P os.toArray Q sps.length z tz v ⟨l.toArray,df⟩ w) xs l w:=by
      intro xs
      induction xs with
      | nil =>
        rintro l w ⟨h1,h2,w2,h3,h4,h5⟩
        refine ⟨by simpa using h1,by simpa using h2,om,oz,w2,by simpa using hom,by simpa using hoz,fun u=>?_,fun u=>?_,h5⟩
        · rw [put_list,ev_eq];exact h3 u
        · rw [put_list,ev_eq];exact h4 u
      | cons x xs ih =>
        obtain ⟨d,s⟩:=x
        intro l w h
        cases s with
        |eq v=>exact ih _ _ h
        |ex φ=>exact fun v hv=>ih _ _ (h v hv)
    exact key _ _ _ (hend w' hE)
  have h := wpAny_lazy (z := z) (tz := tz) (v := v) (by simpa using hf) hst (fun o ho => by
      have:os[z]?=some o:=by simpa using ho
      rw [hoz] at this
      injection this with this
      rw [← this]; exact hz) (by rw [List.getD_eq_getElem?_getD, hvz]; rfl) (obs_of rfl hob (by simpa using h1)) hfin sps.length (Array.replicate os.toArray.size false) ⟨l.toArray, df⟩ { w with drawn := w.drawn + 1 } ?_ (by simp) (fun j _ => ?_)
      ⟨Ext.draw w,rfl,rfl,fun _ _=>rfl,fun j o t hj _ _ hl=>?_⟩
  · rw [show sps.length+(os.toArray.size-sps.length)=os.toArray.size by omega] at h
    exact h
  · rw [List.filter_eq_self.2]
    · simp
    · intro j hj
      rw [repl_false];rfl
  · exact repl_false _ _
  · rw [repl_false] at hl
    cases hl
variable {M:List Nat} {h0 h:View} {w0:World} {bs bs':List Res}
theorem lazy_st {os rest:List Oper} {m:Nat} {oz:Oper} {tz:Tmp} {vz:Value} {ty:TypeId} {pos:String} {after:Array Edge} {t tt:TypeId} {x y:Operand} {b o n i:Nat} {v:Value} {vs cs cs':List Value}
  (hx:∀u,ev (l.set tz u) x= .pointer (some ⟨b,o,none⟩)) (hy:∀u,ev (l.set tz u) y=v)
  (hs:∀w,(sizeOf t).run P w= .ok n w) (hv:v.cells=vs.toArray) (hn:vs.length=n) (h0n:n≠0) (h1:vs.all (·.oneCell')=true) (HS:St M h0 w0 h bs w)
  (hi:bs[i]?=some (some b, .cells cs.toArray tt (0,0))) (hl:o+n≤cs.length) (hp:putL cs o vs=cs') (hbs:bs.set i (some b, .cells cs'.toArray tt (0,0))=bs')
  (hg:l.getD tz undef=vz) (htz:tz<l.length) (hz:∀w2,St M h0 w0 h bs' w2→∀u,(execOp (ev (l.set tz u)) oz).run P w2= .ok (.value vz) w2) (hr:os.drop (m+1)=rest)
  (k:∀w2,St M h0 w0 h bs' w2→run P os.toArray Q df rest l w2):LazyL P os Q df m ⟨none, .store t x y,ty,pos,after,none⟩ oz tz vz l w:=by
 subst hn hp hbs hr
 have hb:=HS.look i hi
 have hrun:∀u,(execOp (ev (l.set tz u)) ⟨none, .store t x y,ty,pos,after,none⟩).run P w= .ok .skip (setb w b (.cells (putL cs o vs).toArray tt (0,0))):=by
  intro u
  have:=storeCells_run (P:=P) (b:=b) (o:=o) (t:=tt) vs 0 cs w hb (by omega) h1
  have hne:vs≠ []:=fun e=>h0n (by rw [e];rfl)
  rw [if_neg hne] at this
  simp [execOp,hx u,hy u,Instr.storeAt,Instr.sureAddr,storeVar,hv,hs,this]
 have hS:=HS.put i (.cells (putL cs o vs).toArray tt (0,0)) hi
 exact ⟨hg,htz,_,hrun,hz _ hS,k _ hS⟩
theorem St.two {w':World} {b1 b2:Nat} {o1 o2:Obj} (H:St M h0 w0 h bs w) (hE:Ext w w') (g1:w.heap.size≤b1) (e1:w'.heap[b1]?=some o1) (g2:w.heap.size≤b2) (e2:w'.heap[b2]?=some o2) (hne:b1≠b2):
  St M h0 w0 h ((some b2,o2)::(some b1,o1)::bs) w':=by
 have H1:=H.new hE g1 e1
 have H2:=H.new hE g2 e2
 refine ⟨H1.sees,H1.gr,H1.ext,?_,?_⟩
 ·intro x hx
  rcases List.mem_cons.1 hx with rfl|hx
  ·exact H2.own _ (by simp)
  ·exact H1.own x hx
 ·show (b2::blocks ((some b1,o1)::bs)).Nodup
  refine List.nodup_cons.2 ⟨fun hm=>?_,H1.nodup⟩
  have h2:(b2::blocks bs).Nodup:=H2.nodup
  rcases List.mem_cons.1 (show b2∈b1::blocks bs from hm) with h|h
  ·exact hne h.symm
  ·exact (List.nodup_cons.1 h2).1 h
end
section
variable {P:Program} {ops:Array Oper} {Q:Exit→Act→World→Prop}
def upd (L:Nat→Bool) (i:Nat):Nat→Bool:=fun j=>if j=i then true else L j
theorem wpAny_inv (I : (Nat → Bool) → Act → World → Prop) (h2 : ∀ i o, ops[i]? = some o → ∀ e ∈ o.after, Region.binds .any e = true → e.on < i)
    (step:∀L a w i o,I L a w→ops[i]?=some o→L i=false→(∀e∈o.after,Region.binds .any e=true→L e.on=true)→wpOp P ops Q i (fun a' w'=>I (upd L i) a' w') a w)
    (done:∀L a w,I L a w→(∀i,i<ops.size→L i=true)→Q .normal a w):
    ∀(d:Nat) (L:Array Bool) (a:Act) (w:World),L.size=ops.size→((List.range ops.size).filter fun j=> !L.getD j false).length=d→I (fun j=>L.getD j false) a w→wpAny P .any ops Q d L a w:=by
  intro d
  have noready:∀(L:Array Bool),L.size=ops.size→Region.ready .any ops L=[]→∀i,i<ops.size→L.getD i false=true:=by
    intro L hs h0 i
    induction i using Nat.strongRecOn with
    | _ i ih =>
      intro hi
      cases hb:L.getD i false with
      |true=>rfl
      | false =>
        exfalso
        have:i∈Region.ready .any ops L:=by
          rw [mem_ready]
          refine ⟨by rw [←hb];simp [Array.getD_eq_getD_getElem?,hs,hi],ops[i],Array.getElem?_eq_getElem hi,fun e he hbn=>?_⟩
          have:=h2 i _ (Array.getElem?_eq_getElem hi) e he hbn
          exact ih e.on this (by omega)
        rw [h0] at this
        cases this
  induction d with
  | zero =>
    intro L a w hs hc hI
    have hall:∀i,i<ops.size→L.getD i false=true:=by
      intro i hi
      cases hb:L.getD i false with
      |true=>rfl
      | false =>
        have:i∈(List.range ops.size).filter fun j=> !L.getD j false:=List.mem_filter.2 ⟨List.mem_range.2 hi,by simp [hb]⟩
        rw [List.eq_nil_of_length_eq_zero hc] at this
        cases this
    refine ⟨List.eq_nil_iff_forall_not_mem.2 (fun i hi=>?_),done _ a w hI hall⟩
    rw [mem_ready] at hi
    obtain ⟨hn,o,ho,_⟩:=hi
    have hlt:=(Array.getElem?_eq_some_iff.1 ho).1
    have h5:L.getD i false=L.getD i true:=by simp [Array.getD_eq_getD_getElem?,hs,hlt]
    rw [←h5,hall i hlt] at hn
    cases hn
  | succ d ih =>
    intro L a w hs hc hI
    refine ⟨fun h0=>done _ a w hI (noready L hs h0),fun i hi=>?_⟩
    rw [mem_ready] at hi
    obtain ⟨hn,o,ho,hwait⟩:=hi
    have hlt:=(Array.getElem?_eq_some_iff.1 ho).1
    have hnf:L.getD i false=false:=by
      have h5:L.getD i false=L.getD i true:=by simp [Array.getD_eq_getD_getElem?,hs,hlt]
      rw [h5];exact hn
    refine wpOp_mono (fun a' w' h'=>ih _ a' w' (by simpa using hs) ?_ ?_) (step _ a w i o hI ho hnf hwait)
    · have:=count_set (m:=ops.size) hlt hnf (by omega)
      omega
    · have:(fun j=>(L.setIfInBounds i true).getD j false)=upd (fun j=>L.getD j false) i:=by
        funext j
        unfold upd
        by_cases hji:j=i
        · subst hji;simp [hs,hlt]
        · rw [if_neg hji,getD_set_ne false (fun e=>hji e.symm)]
      rw [this]
      exact h'
theorem drawn_inv {id:Nat} {os:List Oper} {a:Act} {w:World} (I:(Nat→Bool)→Act→World→Prop) (hmix:P.follows .mixedOrders=true)
  (h2:(List.range os.length).all (fun i=>match os[i]? with|some o=>o.after.all (fun e=> !Region.binds .any e||decide (e.on<i))|none=>true)=true)
  (h0:∀w',Ext w w'→I (fun _=>false) a w')
  (step:∀L a w i o,I L a w→os[i]?=some o→L i=false→(∀e∈o.after,Region.binds .any e=true→L e.on=true)→wpOp P os.toArray Q i (fun a' w'=>I (upd L i) a' w') a w)
  (done:∀L a w,I L a w→(∀i,i<os.length→L i=true)→Q .normal a w):(Code.region id os.toArray true).wp P Q a w:=by
 refine wp_region_any hmix ?_
 refine wpAny_inv I (fun i o ho e he hb=>?_) (fun L a w i o hI ho=>step L a w i o hI (by simpa using ho)) (fun L a w hI hall=>done L a w hI (fun i hi=>hall i (by simpa using hi))) os.toArray.size (Array.replicate os.toArray.size false) a {w with drawn:=w.drawn+1} (by simp) ?_ ?_
 ·have ho':os[i]?=some o:=by simpa using ho
  have hlt:=(List.getElem?_eq_some_iff.1 ho').1
  have:=(List.all_eq_true.1 h2) i (List.mem_range.2 hlt)
  rw [ho'] at this
  have:=Array.all_eq_true_iff_forall_mem.1 this e he
  rw [hb] at this
  simpa using this
 ·rw [List.filter_eq_self.2]
  ·simp
  ·intro j hj
   rw [repl_false];rfl
 ·have:(fun j=>(Array.replicate os.toArray.size false).getD j false)=fun _=>false:=by funext j;exact repl_false _ _
  rw [this]
  exact h0 _ (Ext.draw w)
end
section
variable {P:Program} {Q:Exit→Act→World→Prop} {l:List Value} {df:List Deferred} {ops:Array Oper} {os:List Oper} {M:List Nat} {h0 h:View} {w0 w:World} {bs bs':List Res}
variable {ty:TypeId} {pos:String} {after:Array Edge}
theorem St.cast (e:bs=bs') (H:St M h0 w0 h bs w):St M h0 w0 h bs' w:=e▸H
theorem run_call {f:FuncId} {g:Operand} {caps:List Value} {xs:List Operand} {ts:Array TypeId} {vs:List Value} {dst:Tmp} {K:Ending→World→Prop} (hcall:∀args w,(callFunc f args).run P w= .ok (.enter f args) w)
  (hg:ev l g= .func (.func f) #[] caps.toArray) (ha:xs.map (ev l)=vs) (h:Calls P f (vs++caps).toArray w K)
  (k:∀e w',K e w'→∃v,e= .returned v∧run P ops Q df os (l.set dst v) w'):
  run P ops Q df (⟨some dst, .call {callee:= .value g,args:=xs.toArray,argTypes:=ts},ty,pos,after,none⟩::os) l w:=by
 have hex:(execOp (ev l) ⟨some dst, .call {callee:= .value g,args:=xs.toArray,argTypes:=ts},ty,pos,after,none⟩).run P w= .ok (.enter f (vs++caps).toArray) w:=by
  have:=hcall (vs++caps).toArray w
  subst ha
  simp [execOp,resolve,hg,Deferred.ofValue,invoke]
  simpa using this
 unfold run
 simp only [wpList,Region.wanted,if_true]
 refine .inl ?_
 unfold Oper.wp
 rw [ev_eq,hex]
 simp only [Oper.upon_enter]
 refine h.mono fun e w' hk=>?_
 obtain ⟨v,rfl,hr⟩:=k e w' hk
 simp only [put_list]
 exact hr
end
section
variable {P:Program} {Q:Exit→Act→World→Prop} {os:List Oper} {df:List Deferred}
def Good (P:Program) (os:List Oper) (df:List Deferred) (l:List Value) (w:World) (u:Nat):Prop:=
 ∃o t,os[u]?=some o∧o.dst=some t∧if Region.wanted o (yielded os.toArray l.toArray)=true then (execOp (ev l) o).run P w= .ok (.value (l.getD t undef)) w else l.getD t undef=undef
def AllG (p:Nat→Prop):List Nat→Prop
 |[]=>True
 |u::r=>p u∧AllG p r
theorem AllG.mem {p:Nat→Prop}:∀{l:List Nat} {u:Nat},AllG p l→u∈l→p u
  | _ :: _, _, h, hu => by
    rcases List.mem_cons.1 hu with rfl|hu
    · exact h.1
    · exact AllG.mem h.2 hu
def QN (df:List Deferred) (K:List Value→World→Prop):Exit→Act→World→Prop:=fun e a w=>e= .normal∧∃l,a=⟨l.toArray,df⟩∧K l w
def Chain (P : Program) (os : List Oper) (Q : Exit → Act → World → Prop) (df : List Deferred) : List (List Tmp × List Nat) → List Nat → List Value → World → Prop
  |[],_,_,_=>False
  | (ds, gs) :: r, es, l, w => ∃ vs : List Value, AllG (Good P os df (patch l ds vs) w) gs ∧
    match es with
    |[]=>Q .normal ⟨(patch l ds vs).toArray,df⟩ w
    |e::es'=>∃o,os[e]?=some o∧o.guard=none∧run P os.toArray (QN df fun l' w'=>Chain P os Q df r es' l' w') df [o] (patch l ds vs) w
def setO (d:Option Tmp) (l:List Value) (v:Value):List Value:=match d with|some t=>l.set t v|none=>l
theorem put_setO {d:Option Tmp} {l:List Value} {v:Value}:(⟨l.toArray,df⟩:Act).put d v=⟨(setO d l v).toArray,df⟩:=by
 cases d with
 |none=>rfl
 |some t=>simp [Act.put,setO]
theorem setO_length {d:Option Tmp} {l:List Value} {v:Value}:(setO d l v).length=l.length:=by cases d<;>simp [setO]
theorem patch_length:∀(ds:List Tmp) (vs l:List Value),(patch l ds vs).length=l.length
 |[],_,_=>by simp [patch]
 |_::_,[],_=>by simp [patch]
 |d::ds,v::vs,l=>by rw [patch,patch_length];simp
theorem patch_off {t:Tmp}:∀(ds:List Tmp) (vs l:List Value),t∉ds→(patch l ds vs).getD t undef=l.getD t undef
  |[],_,_,_=>by simp [patch]
  |_::_,[],_,_=>by simp [patch]
  | d :: ds, v :: vs, l, h => by
    rw [patch,patch_off ds vs _ (fun hm=>h (List.mem_cons_of_mem _ hm))]
    have:d≠t:=fun e=>h (by subst e;exact List.mem_cons_self)
    simp [List.getD_eq_getElem?_getD,List.getElem?_set_ne this]
def phaseOf (tab:List (List Nat)) (es:List Nat) (i:Nat):Nat:=(List.range es.length).foldl (fun r k=>if (tab.getD i []).contains (es.getD k 0) then k+1 else r) 0
def formC (os : List Oper) (n : Nat) (tab : List (List Nat)) (es : List Nat) (ph : List (List Tmp × List Nat)) : Bool :=
  (List.range os.length).all (fun i=>match os[i]? with|some o=>o.after.all (fun e=> !Region.binds .any e||decide (e.on<i))|none=>true)&&
  ((List.range os.length).all (fun i => match os[i]? with
    |some o=>(tab.getD i []).all fun j=>o.after.any fun e=>Region.binds .any e&&(e.on==j||(tab.getD e.on []).contains j)
    | none => true) &&
  (((List.range es.length).all fun k => decide (es.getD k 0 < os.length) && (List.range k).all fun j => (tab.getD (es.getD k 0) []).contains (es.getD j 0)) &&
  ((List.range os.length).all (fun i => match os[i]? with
    |some o=>(match o.op with| .select .. =>false|_=>true)&&(es.contains i||o.dst.isSome)&&(match o.dst with|some t=>decide (t<n)|none=>true)&&
        ((List.range os.length).all fun j=>match os[j]? with|some x=>i==j||o.dst.isNone|| !(x.dst==o.dst)|none=>true)&&
        ((o.looksAt os.toArray).all fun t=>(List.range os.length).all fun j=>match os[j]? with|some x=> !(x.dst==some t)||(tab.getD i []).contains j||(es.any fun e=>(tab.getD j []).contains e&&(tab.getD e []).contains i)||(es.contains j&&(tab.getD j []).contains i)|none=>true)
    | none => true) &&
  (decide (ph.length = es.length + 1) &&
  ((List.range ph.length).all fun k =>
    ((ph.getD k ([],[])).1==((List.range os.length).filter fun i=> !es.contains i&&phaseOf tab es i==k).filterMap fun i=>(os[i]?).bind (·.dst))&&
    (List.range os.length).all fun i => es.contains i || decide (k < phaseOf tab es i) || (List.range k).any (fun j => (tab.getD (es.getD j 0) []).contains i) || (ph.getD k ([], [])).2.contains i)))))
structure FormC (os:List Oper) (n:Nat) (tab:List (List Nat)) (es:List Nat) (ph:List (List Tmp×List Nat)):Prop where
 low:∀(i:Nat) (o:Oper),os[i]?=some o→∀e∈o.after,Region.binds .any e=true→e.on<i
 anc:∀(i:Nat) (o:Oper),os[i]?=some o→∀j∈tab.getD i [],∃e∈o.after,Region.binds .any e=true∧(e.on=j∨j∈tab.getD e.on [])
 chain:∀k,k<es.length→es.getD k 0<os.length∧∀j,j<k→es.getD j 0∈tab.getD (es.getD k 0) []
 sel:∀(i:Nat) (o:Oper),os[i]?=some o→∀cs b,o.op≠ .select cs b
 dst:∀(i:Nat) (o:Oper),os[i]?=some o→i∉es→o.dst.isSome=true
 lt:∀(i:Nat) (o:Oper) (t:Tmp),os[i]?=some o→o.dst=some t→t<n
 uniq:∀(i j:Nat) (o x:Oper) (t:Tmp),os[i]?=some o→os[j]?=some x→o.dst=some t→x.dst=some t→i=j
 look:∀(i:Nat) (o:Oper),os[i]?=some o→∀t∈o.looksAt os.toArray,∀(j:Nat) (x:Oper),os[j]?=some x→x.dst=some t→j∈tab.getD i []∨(∃e∈es,e∈tab.getD j []∧i∈tab.getD e [])∨j∈es
 plen:ph.length=es.length+1
 fills:∀k,k≤es.length→∀t∈(ph.getD k ([],[])).1,∃(i:Nat) (o:Oper),os[i]?=some o∧o.dst=some t∧i∉es∧phaseOf tab es i=k
 good:∀k,k≤es.length→∀i,i<os.length→i∉es→phaseOf tab es i≤k→(∀j,j<k→i∉tab.getD (es.getD j 0) [])→i∈(ph.getD k ([],[])).2
theorem formC_parts {n:Nat} {tab:List (List Nat)} {es:List Nat} {ph:List (List Tmp×List Nat)} (h:formC os n tab es ph=true):FormC os n tab es ph:=by
 simp only [formC,Bool.and_eq_true,decide_eq_true_eq,List.all_eq_true,List.mem_range] at h
 obtain ⟨h1,h2,h3,h4,h5,h6⟩:=h
 have lt_of:∀{i:Nat} {o:Oper},os[i]?=some o→i<os.length:=fun ho=>(List.getElem?_eq_some_iff.1 ho).1
 have h4':∀i o,os[i]?=some o→_:=fun i o ho=>by
  have:=h4 i (lt_of ho)
  rw [ho] at this
  simp only [Bool.and_eq_true,List.all_eq_true,List.mem_range] at this
  exact this
 refine ⟨?_,?_,?_,?_,?_,?_,?_,?_,h5,?_,?_⟩
 ·intro i o ho e he hb
  have:=h1 i (lt_of ho)
  rw [ho] at this
  have:=Array.all_eq_true_iff_forall_mem.1 this e he
  rw [hb] at this
  simpa using this
 ·intro i o ho j hj
  have:=h2 i (lt_of ho)
  rw [ho] at this
  simp only [List.all_eq_true] at this
  obtain ⟨e,he,hb⟩:=Array.any_eq_true'.1 (this j hj)
  simp only [Bool.and_eq_true,Bool.or_eq_true,beq_iff_eq,List.contains_iff_mem] at hb
  exact ⟨e,he,hb.1,hb.2⟩
 ·intro k hk
  have:=h3 k hk
  refine ⟨this.1,fun j hj=>?_⟩
  exact List.contains_iff_mem.1 (this.2 j hj)
 ·intro i o ho cs b e
  have:=(h4' i o ho).1.1.1.1
  rw [e] at this
  cases this
 ·intro i o ho hi
  have:=(h4' i o ho).1.1.1.2
  simpa [hi] using this
 ·intro i o t ho ht
  have:=(h4' i o ho).1.1.2
  rw [ht] at this
  simpa using this
 ·intro i j o x t ho hx h1 h2
  have:=(h4' i o ho).1.2 j (lt_of hx)
  rw [hx] at this
  simpa [h1,h2] using this
 ·intro i o ho t ht j x hx hd
  have:=(h4' i o ho).2 t ht j (lt_of hx)
  rw [hx] at this
  simp only [hd,beq_self_eq_true,Bool.not_true,Bool.false_or,Bool.or_eq_true,Bool.and_eq_true,List.any_eq_true,List.contains_iff_mem] at this
  rcases this with (h|⟨e,he,h⟩)|h
  ·exact .inl h
  ·exact .inr (.inl ⟨e,he,h⟩)
  ·exact .inr (.inr h.1)
 ·intro k hk t ht
  have:=(h6 k (by omega)).1
  rw [beq_iff_eq] at this
  rw [this] at ht
  obtain ⟨i,hi,hd⟩:=List.mem_filterMap.1 ht
  obtain ⟨hlt,hp⟩:=List.mem_filter.1 hi
  simp only [Bool.and_eq_true,Bool.not_eq_true',beq_iff_eq] at hp
  have hlt:=List.mem_range.1 hlt
  rw [List.getElem?_eq_getElem hlt] at hd
  exact ⟨i,os[i],List.getElem?_eq_getElem hlt,by simpa using hd,by simpa using hp.1,hp.2⟩
 ·intro k hk i hi hne hp hj
  have:=(h6 k (by omega)).2 i hi
  simp only [Bool.or_eq_true,decide_eq_true_eq,List.any_eq_true,List.mem_range,List.contains_iff_mem] at this
  rcases this with ((h|h)|⟨j,hj',h⟩)|h
  ·exact absurd h hne
  ·omega
  ·exact absurd h (hj j hj')
  ·exact h
theorem phase_le {tab : List (List Nat)} {es : List Nat} {i k : Nat} (h : ∀ j, j < es.length → es.getD j 0 ∈ tab.getD i [] → j < k) : phaseOf tab es i ≤ k := by
  unfold phaseOf
  have:∀(n r:Nat),n≤es.length→r≤k→(List.range n).foldl (fun r j=>if (tab.getD i []).contains (es.getD j 0) then j+1 else r) r≤k:=by
    intro n
    induction n with
    |zero=>intro r _ hr;simpa using hr
    | succ n ih =>
      intro r hn hr
      rw [List.range_succ,List.foldl_append]
      simp only [List.foldl_cons,List.foldl_nil]
      split
      · rename_i hc
        have:=h n (by omega) (List.contains_iff_mem.1 hc)
        omega
      · exact ih r (by omega) hr
  exact this es.length 0 (Nat.le_refl _) (Nat.zero_le _)
theorem phase_ge {tab : List (List Nat)} {es : List Nat} {i j : Nat} (hj : j < es.length) (h : es.getD j 0 ∈ tab.getD i []) : j < phaseOf tab es i := by
  unfold phaseOf
  have:∀(n:Nat),n≤es.length→j<n→j<(List.range n).foldl (fun r k=>if (tab.getD i []).contains (es.getD k 0) then k+1 else r) 0:=by
    intro n
    induction n with
    |zero=>intro _ h;omega
    | succ n ih =>
      intro hn hjn
      rw [List.range_succ,List.foldl_append]
      simp only [List.foldl_cons,List.foldl_nil]
      split
      · omega
      · rename_i hc
        by_cases hjn':j=n
        · subst hjn';exact absurd (List.contains_iff_mem.2 h) hc
        · exact ih (by omega) (by omega)
  exact this es.length (Nat.le_refl _) hj
theorem phase_has {tab : List (List Nat)} {es : List Nat} {i : Nat} (h : 0 < phaseOf tab es i) : ∃ j, j + 1 = phaseOf tab es i ∧ j < es.length ∧ es.getD j 0 ∈ tab.getD i [] := by
  unfold phaseOf at*
  have:∀(n:Nat),n≤es.length→0<(List.range n).foldl (fun r j=>if (tab.getD i []).contains (es.getD j 0) then j+1 else r) 0→
      ∃j,j+1=(List.range n).foldl (fun r j=>if (tab.getD i []).contains (es.getD j 0) then j+1 else r) 0∧j<n∧es.getD j 0∈tab.getD i []:=by
    intro n
    induction n with
    |zero=>intro _ h;simp at h
    | succ n ih =>
      intro hn
      rw [List.range_succ,List.foldl_append]
      simp only [List.foldl_cons,List.foldl_nil]
      split
      · rename_i hc
        intro _
        exact ⟨n,rfl,by omega,List.contains_iff_mem.1 hc⟩
      · intro h
        obtain ⟨j,h1,h2,h3⟩:=ih (by omega) h
        exact ⟨j,h1,by omega,h3⟩
  obtain ⟨j,h1,h2,h3⟩:=this es.length (Nat.le_refl _) h
  exact ⟨j,h1,h2,h3⟩
def Tl (P:Program) (os:List Oper) (Q:Exit→Act→World→Prop) (df:List Deferred) (ph:List (List Tmp×List Nat)) (es:List Nat) (k:Nat) (l:List Value) (w:World):Prop:=
 match es.drop k with
 |[]=>Q .normal ⟨l.toArray,df⟩ w
 |e::es'=>∃o,os[e]?=some o∧o.guard=none∧run P os.toArray (QN df fun l' w'=>Chain P os Q df (ph.drop (k+1)) es' l' w') df [o] l w
structure CI (P:Program) (os:List Oper) (Q:Exit→Act→World→Prop) (df:List Deferred) (n:Nat) (tab:List (List Nat)) (ph:List (List Tmp×List Nat)) (es:List Nat) (L:Nat→Bool) (b:Act) (w:World) (k:Nat) (l:List Value):Prop where
 le:k≤es.length
 good:AllG (Good P os df l w) (ph.getD k ([],[])).2
 tl:Tl P os Q df ph es k l w
 eff:∀j,j<es.length→L (es.getD j 0)=decide (j<k)
 closed:∀i o,os[i]?=some o→L i=true→∀e∈o.after,Region.binds .any e=true→L e.on=true
 defers:b.defers=df
 size:b.tmps.size=n
 len:l.length=n
 off:∀t,(∀u o,os[u]?=some o→o.dst=some t→u∉es→L u=true∨k<phaseOf tab es u)→b.tmps.getD t undef=l.getD t undef
theorem chain_open {n k:Nat} {ph:List (List Tmp×List Nat)} {es:List Nat} {l:List Value} {w:World} (hp:ph.length=es.length+1) (hk:k≤es.length) (h:Chain P os Q df (ph.drop k) (es.drop k) l w):
  ∃vs,AllG (Good P os df (patch l (ph.getD k ([],[])).1 vs) w) (ph.getD k ([],[])).2∧Tl P os Q df ph es k (patch l (ph.getD k ([],[])).1 vs) w:=by
 have hlt:k<ph.length:=by omega
 rw [List.drop_eq_getElem_cons hlt] at h
 have e:ph.getD k ([],[])=ph[k]:=by simp [hlt]
 rw [e]
 unfold Chain at h
 obtain ⟨vs,h1,h2⟩:=h
 exact ⟨vs,h1,h2⟩
theorem anc_done {n:Nat} {tab:List (List Nat)} {es:List Nat} {ph:List (List Tmp×List Nat)} (F:FormC os n tab es ph) {L:Nat→Bool} (hc:∀i o,os[i]?=some o→L i=true→∀e∈o.after,Region.binds .any e=true→L e.on=true)
    (hd:∀i,L i=true→i<os.length):∀i o,os[i]?=some o→(∀e∈o.after,Region.binds .any e=true→L e.on=true)→∀j∈tab.getD i [],L j=true:=by
  intro i
  induction i using Nat.strongRecOn with
  | _ i ih =>
    intro o ho hall j hj
    obtain ⟨e,he,hb,h⟩:=F.anc i o ho j hj
    have hL:=hall e he hb
    rcases h with rfl|h
    · exact hL
    · have hlt:=F.low i o ho e he hb
      have hel:=hd _ hL
      exact ih e.on hlt os[e.on] (List.getElem?_eq_getElem hel) (fun e' he' hb'=>hc e.on os[e.on] (List.getElem?_eq_getElem hel) hL e' he' hb') j h
theorem getD_list {l:List Value} {t:Nat}:l.toArray.getD t undef=l.getD t undef:=by simp [Array.getD_eq_getD_getElem?,List.getD_eq_getElem?_getD]
theorem exec_same {o : Oper} {b : Act} {l : List Value} (hs : ∀ cs x, o.op ≠ .select cs x) (h : ∀ t ∈ o.looksAt os.toArray, b.tmps.getD t undef = l.getD t undef) :
    execOp b.eval o=execOp (ev l) o∧Region.wanted o (yielded os.toArray b.tmps)=Region.wanted o (yielded os.toArray l.toArray):=by
  constructor
  · refine execOp_congr o hs (fun x hx=>?_)
    cases x with
    | tmp t =>
      have:=h t (List.mem_append_left _ (List.mem_filterMap.2 ⟨.tmp t,by simpa using hx,rfl⟩))
      show b.tmps.getD t undef=l.getD t undef
      exact this
    |_=>rfl
  · unfold Region.wanted
    cases hg:o.guard with
    |none=>rfl
    | some gw =>
      obtain ⟨g,want⟩:=gw
      have key:∀(A:Array Value) (t:Nat),(match A[t]? with|some (Value.bool b)=>some b|_=>none)=(match A.getD t undef with|Value.bool b=>some b|_=>none):=by
        intro A t
        rw [Array.getD_eq_getD_getElem?]
        cases A[t]? with
        |none=>rfl
        |some v=>cases v<;>rfl
      have hy:yielded os.toArray b.tmps g=yielded os.toArray l.toArray g:=by
        unfold yielded
        cases ht:(os.toArray[g]?).bind (·.dst) with
        |none=>rfl
        | some t =>
          have:=h t (List.mem_append_right _ (by simp only [hg];rw [ht];simp))
          show (match b.tmps[t]? with|some (Value.bool b)=>some b|_=>none)=(match l.toArray[t]? with|some (Value.bool b)=>some b|_=>none)
          rw [key,key,this,getD_list]
      simp only [hy]
theorem drawn_chain {id : Nat} {l : List Value} {w : World} (ph : List (List Tmp × List Nat)) (es : List Nat) (tab : List (List Nat)) (hmix : P.follows .mixedOrders = true)
    (hf:formC os l.length tab es ph=true) (h:∀w',Ext w w'→Chain P os Q df ph es l w'):(Code.region id os.toArray true).wp P Q ⟨l.toArray,df⟩ w:=by
  have F:=formC_parts hf
  have hlow:(List.range os.length).all (fun i=>match os[i]? with|some o=>o.after.all (fun e=> !Region.binds .any e||decide (e.on<i))|none=>true)=true:=by
    simp only [formC,Bool.and_eq_true] at hf
    exact hf.1
  refine drawn_inv (fun L b w=>(∀i,L i=true→i<os.length)∧∃k l',CI P os Q df l.length tab ph es L b w k l') hmix hlow ?_ ?_ ?_
  · intro w' hE
    obtain ⟨vs,h1,h2⟩:=chain_open (n:=l.length) (k:=0) F.plen (Nat.zero_le _) (by simpa using h w' hE)
    refine ⟨by simp,0,_,Nat.zero_le _,h1,h2,by simp,by simp,rfl,by simp,by rw [patch_length],fun t ht=>?_⟩
    rw [patch_off _ _ _ (fun hm=>?_)]
    · exact getD_list
    · obtain ⟨i,o,ho,hd,hi,hp0⟩:=F.fills 0 (Nat.zero_le _) t hm
      rcases ht i o ho hd hi with h|h
      · cases h
      · omega
  · rintro L b w1 i o ⟨hd,k,l',C⟩ ho hLi hall
    have hdone:=anc_done F C.closed hd i o ho hall
    have hil:=(List.getElem?_eq_some_iff.1 ho).1
    have hagree : ∀ t ∈ o.looksAt os.toArray, b.tmps.getD t undef = l'.getD t undef := fun t ht => C.off t (fun u x hx hdx hue => by
      rcases F.look i o ho t ht u x hx hdx with h|⟨e,he,h1,h2⟩|h
      · exact .inl (hdone u h)
      · right
        obtain ⟨j,hj⟩:=List.getElem?_of_mem he
        have hjl:=(List.getElem?_eq_some_iff.1 hj).1
        have hje:es.getD j 0=e:=by rw [List.getD_eq_getElem?_getD,hj];rfl
        subst hje
        have h3:=phase_ge hjl h1
        have h4:¬j<k:=fun hjk=>by
          have h5:=C.eff j hjl
          have h6:L (es.getD j 0)=true:=by rw [h5];simpa using hjk
          have hlt:=(F.chain j hjl).1
          have:=anc_done F C.closed hd (es.getD j 0) os[es.getD j 0] (List.getElem?_eq_getElem hlt) (fun e he hb=>C.closed _ _ (List.getElem?_eq_getElem hlt) h6 e he hb) i h2
          rw [hLi] at this
          cases this
        omega
      · exact absurd h hue)
    obtain ⟨hex,hwt⟩:=exec_same (F.sel i o ho) hagree
    have hd':∀j,upd L i j=true→j<os.length:=fun j hj=>by
      unfold upd at hj
      split at hj
      · omega
      · exact hd j hj
    have hcl':∀j x,os[j]?=some x→upd L i j=true→∀e∈x.after,Region.binds .any e=true→upd L i e.on=true:=by
      intro j x hx hj e he hb
      unfold upd at hj⊢
      split
      · rfl
      · split at hj
        · rename_i hji
          subst hji
          rw [ho] at hx
          obtain rfl:=Option.some.inj hx
          exact hall e he hb
        · exact C.closed j x hx hj e he hb
    have hopsi:os.toArray[i]?=some o:=by simpa using ho
    by_cases hie:i∈es
    · -- an effect
      obtain ⟨j,hj⟩:=List.getElem?_of_mem hie
      have hjl:=(List.getElem?_eq_some_iff.1 hj).1
      have hji:es.getD j 0=i:=by rw [List.getD_eq_getElem?_getD,hj];rfl
      have hjk:j=k:=by
        have h1:=C.eff j hjl
        rw [hji,hLi] at h1
        have h2:¬j<k:=by simpa using h1.symm
        by_cases hlt:k<j
        · have h3:=(F.chain j hjl).2 k hlt
          rw [hji] at h3
          have h4:=hdone _ h3
          rw [C.eff k (by omega)] at h4
          simp at h4
        · omega
      subst hjk
      have htl:=C.tl
      unfold Tl at htl
      have hdrop:es.drop j=i::es.drop (j+1):=by
        rw [List.drop_eq_getElem_cons hjl]
        congr 1
        rw [List.getElem?_eq_getElem hjl] at hj
        exact Option.some.inj hj
      rw [hdrop] at htl
      simp only at htl
      obtain ⟨o',ho',hg,hrun⟩:=htl
      rw [ho] at ho'
      obtain rfl:=Option.some.inj ho'
      have next:∀v w2,QN df (fun l' w'=>Chain P os Q df (ph.drop (j+1)) (es.drop (j+1)) l' w') .normal ((⟨l'.toArray,df⟩:Act).put o.dst v) w2→
          (∀i_1,upd L i i_1=true→i_1<os.length)∧∃k l2,CI P os Q df l.length tab ph es (upd L i) (b.put o.dst v) w2 k l2:=by
        rintro v w2 ⟨_,l2,e2,hch⟩
        rw [put_setO] at e2
        have e3:setO o.dst l' v=l2:=by
          have:=congrArg Act.tmps e2
          simpa using this
        subst e3
        obtain ⟨vs,h1,h2⟩:=chain_open (n:=l.length) (k:=j+1) F.plen (by omega) hch
        refine ⟨hd',j+1,_,by omega,h1,h2,?_,hcl',?_,?_,by rw [patch_length,setO_length,C.len],?_⟩
        · intro q hq
          unfold upd
          by_cases hqj:q=j
          · subst hqj;rw [if_pos hji];simp
          · have hne:es.getD q 0≠i:=by
              intro e
              have h5:=C.eff q hq
              rw [e,hLi] at h5
              have h6:¬q<j:=by simpa using h5.symm
              have h7:=(F.chain q hq).2 j (by omega)
              rw [e,hji] at h7
              have:=hdone i h7
              rw [hLi] at this
              cases this
            rw [if_neg hne,C.eff q hq]
            congr 1
            simp;omega
        · cases hdd:o.dst<;>simp [Act.put,C.defers]
        · cases hdd:o.dst<;>simp [Act.put,C.size]
        · intro t ht
          have hnf:t∉(ph.getD (j+1) ([],[])).1:=by
            intro hm
            obtain ⟨q,x,hx,hdx,hqe,hph⟩:=F.fills (j+1) (by omega) t hm
            have h5:upd L i q=true:=by
              rcases ht q x hx hdx hqe with h|h
              · exact h
              · omega
            unfold upd at h5
            rw [if_neg (fun e=>hqe (by subst e;exact hie))] at h5
            obtain ⟨j2,e2,hj2,hm2⟩:=phase_has (by rw [hph];omega:0<phaseOf tab es q)
            have:j2=j:=by omega
            subst this
            rw [hji] at hm2
            have:=anc_done F C.closed hd q x hx (fun e he hb=>C.closed q x hx h5 e he hb) i hm2
            rw [hLi] at this
            cases this
          rw [patch_off _ _ _ hnf]
          have hold:(∀u x,os[u]?=some x→x.dst=some t→u∉es→L u=true∨j<phaseOf tab es u):=fun u x hx hdx hue=>by
            rcases ht u x hx hdx hue with this|this
            · unfold upd at this
              rw [if_neg (fun e=>hue (by subst e;exact hie))] at this
              exact .inl this
            · right;omega
          have h8:=C.off t hold
          cases hdd:o.dst with
          |none=>simpa [Act.put,setO] using h8
          | some d =>
            have hdn:d<l.length:=F.lt i o d ho hdd
            by_cases hdt:d=t
            · subst hdt
              have:d<b.tmps.size:=by rw [C.size];exact hdn
              have h9:d<l'.length:=by rw [C.len];exact hdn
              simp [Act.put,setO,this,h9,List.getD_eq_getElem?_getD]
            · have h9:(l'.set d v).getD t undef=l'.getD t undef:=by simp [List.getD_eq_getElem?_getD,List.getElem?_set_ne hdt]
              show (b.put (some d) v).tmps.getD t undef=(l'.set d v).getD t undef
              rw [h9,←h8]
              simp [Act.put,Array.getD_eq_getD_getElem?,Array.getElem?_setIfInBounds_ne hdt]
      have hlets:¬LetsOut (QN df (fun l' w'=>Chain P os Q df (ph.drop (j+1)) (es.drop (j+1)) l' w')):=by
        rintro ⟨_,_,h,_⟩
        cases h
      unfold run at hrun
      simp only [wpList,Region.wanted,hg,if_true] at hrun
      rcases hrun with hrun|⟨_,hx⟩
      · unfold wpOp
        rw [hopsi]
        simp only [Region.wanted,hg,if_true]
        refine .inl ?_
        unfold Oper.wp at hrun⊢
        rw [hex,←ev_eq l' df]
        generalize (execOp (⟨l'.toArray,df⟩:Act).eval o).run P w1=r at hrun
        cases r with
        | ok nn w2 =>
          cases nn<;>simp only [Oper.upon] at hrun⊢
          case value v=>exact next v w2 hrun
          case skip=>exact next undef w2 hrun
          case defer d=>
            obtain ⟨_,l2,e2,_⟩:=hrun
            have:=congrArg Act.defers e2
            cases hdd:o.dst<;>simp [hdd,Act.put] at this
          case enter f args=>
            refine Calls.mono hrun fun e w3 he=>?_
            cases e with
            |returned v=>exact next v w3 he
            |panicked c=>exact absurd he.1 (by simp)
            |outgrown=>exact absurd he hlets
          case row row args=>exact Rows.mono hrun fun v w3 he=>next v w3 he
        | halt x w2 =>
          cases x<;>simp only [Oper.upon] at hrun⊢
          case panic u=>exact absurd hrun.1 (by simp)
      · exact absurd hx hlets
    · -- it looks only
      have hph : phaseOf tab es i ≤ k := phase_le (fun j hj hm => by
        have:=hdone _ hm
        rw [C.eff j hj] at this
        simpa using this)
      have hgd := C.good.mem (F.good k C.le i hil hie hph (fun j hj hm => by
        have hjl:j<es.length:=by have:=C.le;omega
        have h1:=C.eff j hjl
        have h2:L (es.getD j 0)=true:=by rw [h1];simpa using hj
        have hlt:=(F.chain j hjl).1
        have:=anc_done F C.closed hd (es.getD j 0) os[es.getD j 0] (List.getElem?_eq_getElem hlt) (fun e he hb=>C.closed _ _ (List.getElem?_eq_getElem hlt) h2 e he hb) i hm
        rw [hLi] at this
        cases this))
      obtain ⟨o2,t,ho2,hdt,hgd⟩:=hgd
      rw [ho] at ho2
      obtain rfl:=Option.some.inj ho2
      have htn:t<l.length:=F.lt i o t ho hdt
      have hI : ∀ v, v = l'.getD t undef → (∀ i_1, upd L i i_1 = true → i_1 < os.length) ∧ ∃ k l2, CI P os Q df l.length tab ph es (upd L i) (b.put o.dst v) w1 k l2 := by
        intro v hv
        refine ⟨hd',k,l',C.le,C.good,C.tl,?_,hcl',?_,?_,C.len,?_⟩
        · intro j hj
          have:es.getD j 0≠i:=fun e=>hie (by rw [←e,List.getD_eq_getElem?_getD,List.getElem?_eq_getElem hj];exact List.getElem_mem hj)
          unfold upd
          rw [if_neg this]
          exact C.eff j hj
        · simp [Act.put,hdt,C.defers]
        · simp [Act.put,hdt,C.size]
        · intro t2 ht2
          by_cases htt:t=t2
          · subst htt
            have:t<b.tmps.size:=by rw [C.size];exact htn
            rw [hv,hdt]
            simp [Act.put,this]
          · have h8 := C.off t2 (fun u x hx hdx hue => by
              rcases ht2 u x hx hdx hue with this|this
              · unfold upd at this
                rw [if_neg (fun e=>htt (by subst e;rw [ho] at hx;obtain rfl:=Option.some.inj hx;rw [hdt] at hdx;exact Option.some.inj hdx))] at this
                exact .inl this
              · exact .inr this)
            rw [←h8,hdt]
            simp [Act.put,Array.getD_eq_getD_getElem?,Array.getElem?_setIfInBounds_ne htt]
      unfold wpOp
      rw [hopsi]
      simp only
      rw [hwt]
      split
      · rename_i hw
        rw [if_pos hw] at hgd
        refine .inl ?_
        unfold Oper.wp
        rw [hex,hgd]
        exact hI _ rfl
      · rename_i hw
        rw [if_neg hw] at hgd
        exact hI undef hgd.symm
  · rintro L b w1 ⟨hd,k,l',C⟩ hall
    have hk:es.length≤k:=by
      rcases Nat.lt_or_ge k es.length with h|h
      · have h1:=C.eff k h
        have h2:=hall _ (F.chain k h).1
        rw [h1] at h2
        simp at h2
      · exact h
    have htl:=C.tl
    unfold Tl at htl
    rw [List.drop_eq_nil_of_le hk] at htl
    have hb:b=⟨l'.toArray,df⟩:=by
      obtain ⟨bt,bd⟩:=b
      have h1:=C.defers
      have h2:=C.size
      simp only at h1 h2
      subst h1
      congr 1
      refine Array.ext (by rw [h2];simp [C.len]) (fun t h3 h4=>?_)
      have:=C.off t (fun u o ho _ _=> .inl (hall u (List.getElem?_eq_some_iff.1 ho).1))
      rw [←getD_list] at this
      have h5:t<l'.length:=by simpa using h4
      simpa [Array.getD_eq_getD_getElem?,h3,h4,h5] using this
    rw [hb]
    exact htl
end
section
variable {P:Program} {Q:Exit→Act→World→Prop} {os:List Oper} {df:List Deferred} {l:List Value} {w:World} {ds:List Tmp} {gs es:List Nat} {vs:List Value} {r:List (List Tmp×List Nat)} {u e:Nat}
theorem allg_nil {p:Nat→Prop}:AllG p []:=trivial
theorem allg_cons {p:Nat→Prop} {u:Nat} {r:List Nat} (h:p u) (k:AllG p r):AllG p (u::r):=⟨h,k⟩
theorem good_same {o:Oper} {d:Tmp} {v:Value} (hu:os[u]?=some o) (hg:o.guard=none) (hd:o.dst=some d) (hv:l.getD d undef=v) (h:(execOp (ev l) o).run P w= .ok (.value v) w):Good P os df l w u:=by
 refine ⟨o,d,hu,hd,?_⟩
 rw [if_pos (by simp [Region.wanted,hg]),hv]
 exact h
theorem chain_last (vs:List Value) (hg:AllG (Good P os df (patch l ds vs) w) gs) (h:Q .normal ⟨(patch l ds vs).toArray,df⟩ w):Chain P os Q df [(ds,gs)] [] l w:=⟨vs,hg,h⟩
theorem chain_eff {o:Oper} (vs:List Value) (hg:AllG (Good P os df (patch l ds vs) w) gs) (ho:os[e]?=some o) (hgd:o.guard=none)
  (h:run P os.toArray (QN df fun l' w'=>Chain P os Q df r es l' w') df [o] (patch l ds vs) w):Chain P os Q df ((ds,gs)::r) (e::es) l w:=⟨vs,hg,o,ho,hgd,h⟩
theorem qn_nil {K:List Value→World→Prop} {ops:Array Oper} (h:K l w):run P ops (QN df K) df [] l w:=⟨rfl,l,rfl,h⟩
end
theorem src_str_elems {h:View} (s:ByteArray):∀(i:Nat) (z:Int),(bytesOf s)[i]?=some z→∃qs,(Kd.int .u8).K h z qs∧∀j v,qs[j]?=some v→(byteCells s)[i*(Kd.int .u8).sz+j]?=some v:=by
  intro i z hz
  refine ⟨[.int .u8 z],rfl,fun j v hj=>?_⟩
  cases j with
  |succ j=>simp at hj
  | zero =>
    simp only [List.getElem?_cons_zero,Option.some.injEq] at hj
    subst hj
    show (byteCells s)[i*1+0]?=_
    unfold bytesOf at hz
    unfold byteCells
    rw [Nat.mul_one,Nat.add_zero]
    rw [List.getElem?_map] at hz⊢
    cases hb:s.data.toList[i]? with
    |none=>rw [hb] at hz;simp at hz
    | some b =>
      rw [hb] at hz
      simp only [Option.map_some,Option.some.injEq] at hz⊢
      rw [hz]
def One {α:Type} (d:Kd α):Prop:=∀{h:View} {x:α} {cs:List Value},d.K h x cs→cs.all (·.oneCell')=true
theorem one_int {k:IntKind}:One (Kd.int k):=fun h=>by obtain rfl:=h;rfl
theorem one_bool:One Kd.bool:=fun h=>by obtain rfl:=h;rfl
theorem one_str:One Kd.str:=fun h=>by obtain rfl:=h;rfl
theorem one_slice {α:Type} {d:Kd α}:One (Kd.slice d):=fun h=>by obtain ⟨A,c,rfl,_⟩:=h;rfl
theorem one_pair {α β:Type} {a:Kd α} {b:Kd β} (ha:One a) (hb:One b):One (Kd.pair a b):=fun h=>by
 obtain ⟨c0,c1,rfl,h0,h1⟩:=h
 rw [List.all_append,ha h0,hb h1];rfl
theorem one_iso {α β:Type} {d:Kd α} {f:β→α} (h:One d):One (Kd.iso d f):=fun hk=>h hk
theorem src_rd {P : Program} {α : Type} {d : Kd α} (ho : One d) {h : View} {w : World} {A : Option Addr} {xs : List α} {c : Nat} {tx e : TypeId} (hu : ∀ w, (underlying tx).run P w = .ok (.slice e) w)
    (hs:Sees h w) (hr:Rd d h A xs):∃news,Src P d.sz tx (.slice A xs.length c) xs.length news w∧∀(i:Nat) z,xs[i]?=some z→∃qs,d.K h z qs∧∀j v,qs[j]?=some v→news[i*d.sz+j]?=some v:=by
  have key:∀(xs:List α) (ad:Addr),(∀(i:Nat) x,xs[i]?=some x→∃cs,d.K h x cs∧VCells h (ad.add (i*d.sz)) cs)→
      ∃ news : List Value, news.length = xs.length * d.sz ∧ (∀ j v, news[j]? = some v → w.cell? (ad.add j) = some v) ∧ (∀ u ∈ news, u.oneCell' = true) ∧
        ∀(i:Nat) z,xs[i]?=some z→∃qs,d.K h z qs∧∀j v,qs[j]?=some v→news[i*d.sz+j]?=some v:=by
    intro xs
    induction xs with
    |nil=>intro ad _;exact ⟨[],by simp,by simp,by simp,by simp⟩
    | cons x xs ih =>
      intro ad hx
      obtain ⟨cs,hK,hc⟩:=hx 0 x rfl
      have hl:=d.len hK
      obtain ⟨news, h1, h2, h3, h4⟩ := ih (ad.add d.sz) (fun i y hy => by
        obtain ⟨cs',hK',hc'⟩:=hx (i+1) y (by simpa using hy)
        refine ⟨cs',hK',?_⟩
        rw [addadd]
        have:d.sz+i*d.sz=(i+1)*d.sz:=by rw [Nat.add_mul,Nat.one_mul,Nat.add_comm]
        rw [this]
        exact hc')
      refine ⟨cs++news,?_,?_,?_,?_⟩
      · rw [List.length_append,hl,h1,List.length_cons,Nat.add_mul,Nat.one_mul,Nat.add_comm]
      · intro j v hj
        rw [List.getElem?_append] at hj
        split at hj
        · have:=hc.cell hs j hj
          rw [addadd,Nat.zero_mul,Nat.zero_add] at this
          exact this
        · have:=h2 (j-cs.length) v hj
          rw [addadd,←hl] at this
          rwa [show cs.length+(j-cs.length)=j by omega] at this
      · intro u hu
        rcases List.mem_append.1 hu with hu|hu
        · exact List.all_eq_true.1 (ho hK) u hu
        · exact h3 u hu
      · intro i z hz
        cases i with
        | zero =>
          simp only [List.getElem?_cons_zero,Option.some.injEq] at hz
          subst hz
          refine ⟨cs,hK,fun j v hj=>?_⟩
          rw [Nat.zero_mul,Nat.zero_add,List.getElem?_append_left (List.getElem?_eq_some_iff.1 hj).1]
          exact hj
        | succ i =>
          obtain ⟨qs,hq,hqs⟩:=h4 i z (by simpa using hz)
          refine ⟨qs,hq,fun j v hj=>?_⟩
          rw [List.getElem?_append_right (by rw [hl,Nat.add_mul,Nat.one_mul];omega)]
          have:=hqs j v hj
          rw [hl]
          rwa [show (i+1)*d.sz+j-d.sz=i*d.sz+j by rw [Nat.add_mul,Nat.one_mul];omega]
  cases xs with
  | nil =>
    refine ⟨[],?_,by simp⟩
    cases A with
    |none=>exact Src.ofNil w (under_of hu) c
    |some ad=>exact Src.ofSlice w (under_of hu) ad 0 c [] (by simp) (by simp) (by simp)
  | cons x xs =>
    obtain ⟨ad,rfl,hc⟩:=hr.2 (by simp)
    obtain ⟨news,h1,h2,h3,h4⟩:=key (x::xs) ad hc
    exact ⟨news,Src.ofSlice w (under_of hu) ad _ c news h1 h2 h3,h4⟩
theorem run_mark {P:Program} {Q:Exit→Act→World→Prop} {l:List Value} {df:List Deferred} {ops:Array Oper} {os:List Oper} {M:List Nat} {h0 h:View} {w0 w:World} {bs:List Res} {ty:TypeId} {pos:String} {after:Array Edge}
  {t e:TypeId} {x:Operand} {ob:Option Nat} {b n c q:Nat} {cs:List Value} {dst:Tmp} (hob:ob=some b) (hx:ev l x= .slice (rowA ob) n c) (ht:∀w,(underlying t).run P w= .ok (.slice e) w) (he:∀w,(underlying e).run P w= .ok (.int .u8) w)
  (HS:St M h0 w0 h bs w) (hq:bs[q]?=some (ob, .cells cs.toArray e (0,0)))
  (kk:∀w',St M h0 w0 h (bs.set q (ob, .cells cs.toArray e (cs.length,cs.length+1))) w'→run P ops Q df os (l.set dst (.slice (rowA ob) n c)) w'):
  run P ops Q df (⟨some dst, .convert t t x,ty,pos,after,none⟩::os) l w:=by
 subst hob
 have hb:=HS.look q hq
 have hlt:=(Array.getElem?_eq_some_iff.1 hb).1
 have hsh:w.shape? b=some (e,cs.length):=by simp [World.shape?,hb]
 have hfr:w.freeze ⟨b,cs.length,none⟩ 1=setb w b (.cells cs.toArray e (cs.length,cs.length+1)):=by
  unfold World.freeze setb
  rw [if_neg (by decide)]
  congr 1
  apply Array.ext_getElem?
  intro k
  rw [Array.getElem?_modify,Array.getElem?_setIfInBounds]
  by_cases hk:b=k
  ·subst hk;rw [if_pos rfl,hb];simp [hlt]
  ·simp [hk]
 have hex:(execOp (ev l) ⟨some dst, .convert t t x,ty,pos,after,none⟩).run P w= .ok (.value (.slice (rowA (some b)) n c)) (setb w b (.cells cs.toArray e (cs.length,cs.length+1))):=by
  have hx':ev l x= .slice (some ⟨b,0,none⟩) n c:=hx
  have h1:∀w':World,w'.shape? b=some (e,cs.length)→(markStringish ⟨b,0,none⟩).run P w'= .ok () (w'.freeze ⟨b,cs.length,none⟩ 1):=fun w' h=>by
   simp [markStringish,shape,freeze,Sem.run,bind,Sem.bind,h]
  simp [execOp,convert,hx',ht,he,h1 w hsh,hfr,rowA]
 unfold run
 simp only [wpList,Region.wanted,if_true]
 refine .inl ?_
 unfold Oper.wp
 rw [ev_eq,hex]
 simp only [Oper.upon,put_list]
 exact kk _ (HS.put q _ hq)
theorem frok_end {n:Nat}:FrOk (n,n+1) n:= .inl (Nat.le_refl _)
def strOf (xs:List Int):ByteArray:=⟨(xs.map fun n=>UInt8.ofNat n.toNat).toArray⟩
theorem fold_push:∀(ns:List Int) (s:ByteArray),ns.foldl (fun r n=>r.push (UInt8.ofNat n.toNat)) s=⟨s.data++(ns.map fun n=>UInt8.ofNat n.toNat).toArray⟩
  |[],s=>by simp
  | n :: ns, s => by
    rw [List.foldl_cons,fold_push ns]
    simp [ByteArray.push]
theorem r_b2s {P : Program} {ρ : Operand → Value} {w : World} {dst : Option Tmp} {ty : TypeId} {pos : String} {after : Array Edge} {guard : Option (Nat × Bool)}
    {t1 t2 e:TypeId} {x:Operand} {A:Option Addr} {xs:List Int} {c:Nat} {h:View} (hx:ρ x= .slice A xs.length c) (h1:∀w,(underlying t1).run P w= .ok (.slice e) w) (h2:∀w,(underlying t2).run P w= .ok .string w)
    (he:∀w,(underlying e).run P w= .ok (.int .u8) w) (hs:Sees h w) (hr:Rd (Kd.int .u8) h A xs):
    (execOp ρ ⟨dst, .convert t1 t2 x,ty,pos,after,guard⟩).run P w= .ok (.value (.string (strOf xs))) w:=by
  have key:(convert t1 t2 (.slice A xs.length c)).run P w= .ok (.string (strOf xs)) w:=by
    cases A with
    | none =>
      have:xs=[]:=by
        cases xs with
        |nil=>rfl
        |cons y ys=>obtain ⟨ad,e,_⟩:=hr.2 (by simp);cases e
      subst this
      rw [run_convert_bytes_string w t1 t2 e _ _ c (under_of h1) (under_of he) (under_of h2)]
      simp [Conv.bytesToString,strOf]
      rfl
    | some a =>
      have hl:(loadCells a xs.length).run P w= .ok (xs.map (Value.int .u8)).toArray w:=by
        have := run_loadCells_list (P := P) w a (xs.map (Value.int .u8)) (fun j v hj => by
          have hjl:j<xs.length:=by
            rcases Nat.lt_or_ge j xs.length with h|h
            · exact h
            · simp [List.getElem?_eq_none (show (xs.map (Value.int .u8)).length≤j by simpa using h)] at hj
          obtain ⟨ad,e1,hc⟩:=hr.2 (by omega)
          obtain rfl:=Option.some.inj e1
          obtain ⟨cs,hK,hv⟩:=hc j xs[j] (by simp [hjl])
          obtain rfl:cs=_:=hK
          have:=hv.cell0 hs (v:= .int .u8 xs[j]) rfl
          have e2:a.add (j*(Kd.int .u8).sz)=a.add j:=by show a.add (j*1)=_;rw [Nat.mul_one]
          rw [e2] at this
          rw [this]
          simp [hjl] at hj
          subst hj
          rfl)
        simpa using this
      rw [run_convert_bytes_string w t1 t2 e _ _ c (under_of h1) (under_of he) (under_of h2),run_bytesToString w a xs.length c xs hl,fold_push]
      simp [strOf,ByteArray.empty,ByteArray.emptyWithCapacity]
      try rfl
  simp [execOp,hx,key]
theorem parts_4 {ρ:Operand→Value} {j0 j1 j2 j3:Nat} {x0 x1 x2 x3:Operand} {v0 v1 v2 v3:Value} (h0:ρ x0=v0) (h1:ρ x1=v1) (h2:ρ x2=v2) (h3:ρ x3=v3):((#[(j0,x0),(j1,x1),(j2,x2),(j3,x3)]:Array (Nat×Operand)).map fun x=>(x.1,ρ x.2)).toList=[(j0,v0),(j1,v1),(j2,v2),(j3,v3)]:=by simp [h0,h1,h2,h3]
theorem r_eqlnil {P:Program} {ρ:Operand→Value} {w:World} {dst:Option Tmp} {ty:TypeId} {pos:String} {after:Array Edge} {guard:Option (Nat×Bool)} {t t2 e:TypeId} {x y:Operand} {A:Option Addr} {n c:Nat}
  (hx:ρ x= .slice A n c) (hy:ρ y= .slice none 0 0) (hu:∀w,(underlying t).run P w= .ok (.slice e) w):(execOp ρ ⟨dst, .binOp .eql t x y t2,ty,pos,after,guard⟩).run P w= .ok (.value (.bool A.isNone)) w:=by
 have h:(Op.equal t (.slice A n c) (.slice none 0 0)).run P w= .ok A.isNone w:=by
  show (Op.equalIn (9999+1) t (.slice A n c) (.slice none 0 0)).run P w=_
  rw [Op.equalIn]
  simp only [Sem.run_bind,hu,Result.andThen_ok]
  cases A<;>rfl
 simp [execOp,eqGuard,binOp,hx,hy,h]
theorem run_gbs {P:Program} {Q:Exit→Act→World→Prop} {l:List Value} {df:List Deferred} {ops:Array Oper} {os:List Oper} {h0 h:View} {w0 w:World} {bs:List Res} {dst e:Tmp} {ty:TypeId} {pos:String} {after:Array Edge}
    {α:Type} (d:Kd α) {t te:TypeId} {parts:Array (Nat×Operand)} {xs:List α} {n j:Nat} {want b c:Bool} {cs:List Value} {zv:Value} {i:TypeInfo} (hj:(ops[j]?).bind (·.dst)=some e) (he:l.getD e undef=gv c (.bool b))
    (hu:∀w,(underlying t).run P w= .ok (.slice te) w) (hi:∀w,(typeInfo te).run P w= .ok i w) (hz:∀w,(zeroValue te).run P w= .ok zv w) (hsz:i.size=d.sz) (hn:xs.length=n)
    (hsmall:n*d.sz≤16777216) (hpos:n*d.sz≠0) (hn2:n≤9223372036854775807)
    (vs:List Value) (hp:(c&&(b==want))=true→(parts.map fun x=>(x.1,ev l x.2)).toList=(vs.zipIdx 0).map fun x=>(x.2,x.1)) (hv:vs.all (fun v=>v.cells.size==d.sz)=true) (hvn:vs.length=n)
    (hcs:(vs.flatMap fun v=>v.cells.toList)=cs) (hc:cs.length=n*d.sz) (hK:∀(i:Nat) x,xs[i]?=some x→∃qs,d.K h x qs∧∀j v,qs[j]?=some v→cs[i*d.sz+j]?=some v) (HS:St [] h0 w0 h bs w)
    (kk:∀w' h1 A,St [] h0 w0 h1 bs w'→Sub h h1→((c&&(b==want))=true→Rd d h1 A xs)→run P ops Q df os (l.set dst (gv (c&&(b==want)) (.slice A n n))) w'):
    run P ops Q df (⟨some dst, .buildSlice t n parts,ty,pos,after,some (j,want)⟩::os) l w:=by
  have hw:Region.wanted (⟨some dst, .buildSlice t n parts,ty,pos,after,some (j,want)⟩:Oper) (yielded ops (⟨l.toArray,df⟩:Act).tmps)=(c&&(b==want)):=wanted_at rfl hj (by simpa using he)
  cases hC:(c&&(b==want)) with
  | true =>
    rw [hC] at kk hp
    have := run_bs (P := P) (Q := Q) (l := l) (df := df) (ops := ops) (os := os) (dst := dst) (ty := ty) (pos := pos) (after := after) d hu hi hz hsz hn hsmall hpos hn2 vs (hp rfl) hv hvn hcs hc hK HS (fun w' bb HS' ho => by
      obtain ⟨h1,HS1,hs,hr⟩:=row_pub HS' (i:=0) rfl ho
      exact kk w' h1 (rowA (some bb)) HS1 hs (fun _ => hr))
    unfold run at this⊢
    simp only [wpList] at this⊢
    rw [hw,hC,if_pos rfl]
    rw [if_pos (by simp [Region.wanted])] at this
    exact this
  | false =>
    rw [hC] at kk
    have:=kk w h none HS (Sub.rfl' h) (fun h=>by cases h)
    unfold run at this⊢
    simp only [wpList]
    rw [hw,hC,if_neg (by simp),put_list]
    exact this
structure KeyS (P:Program) {κ:Type} (kt:TypeId) (fs:Array Field) (ek:κ→Value) (eq:κ→κ→Bool):Prop where
 hu:∀w,(underlying kt).run P w= .ok (.struct fs) w
 same:∀a b w,(Op.equal kt (ek a) (ek b)).run P w= .ok (eq a b) w
 check:∀e k w,(Instr.checkKey e 10000 kt (ek k)).run P w= .ok () w
section
variable {P:Program} {κ:Type} {kt:TypeId} {fs:Array Field} {ek:κ→Value} {eq:κ→κ→Bool}
def KeysOk (ek:κ→Value) (ks:List κ) (es:Array MapEntry):Prop:=es.toList.map (·.key)=ks.map ek
theorem asking (K:KeyS P kt fs ek eq) (k:κ):∀(es:List MapEntry) (ks:List κ) (i:Nat) (w:World),es.map (·.key)=ks.map ek→
    ∃r,(Instr.findAsking kt (ek k) es i).run P w= .ok r w∧r.isSome=ks.any (eq k)
  |[],[],i,w,h=>⟨none,by simp [Instr.findAsking],rfl⟩
  |[],k'::ks,i,w,h=>by simp at h
  |e::es,[],i,w,h=>by simp at h
  | e :: es, k' :: ks, i, w, h => by
    simp only [List.map_cons,List.cons.injEq] at h
    obtain ⟨r,h1,h2⟩:=asking K k es ks (i+1) w h.2
    cases hb:eq k k' with
    |true=>exact ⟨some (i,e.val),by simp [Instr.findAsking,h.1,K.same,hb],by simp [hb]⟩
    |false=>exact ⟨r,by simp [Instr.findAsking,h.1,K.same,hb,h1],by simp [hb,h2]⟩
theorem findKey_s (K:KeyS P kt fs ek eq) (k:κ) {es:Array MapEntry} {ks:List κ} (h:KeysOk ek ks es) (w:World):∃r,(Instr.findKey kt (ek k) es.toList).run P w= .ok r w∧r.isSome=ks.any (eq k):=by
  obtain ⟨r,h1,h2⟩:=asking K k es.toList ks 0 w h
  cases hf:Instr.findNow (.struct fs) (ek k) es.toList 0 with
  |none=>exact ⟨r,by simp [Instr.findKey,K.hu,hf,h1],h2⟩
  | some q =>
    cases hl:es.toList with
    | nil =>
      unfold KeysOk at h
      rw [hl] at h
      have:ks=[]:=by simpa using h.symm
      subst this
      exact ⟨none,by simp [Instr.findKey,K.hu,Instr.findNow],rfl⟩
    | cons e l =>
      rw [hl] at hf
      simp [Instr.findNow,Instr.sameNow] at hf
theorem lookup_s (K:KeyS P kt fs ek eq) (k:κ) {xt vt:TypeId} {b:Nat} {es:Array MapEntry} {cl:Nat} {ks:List κ} {z:Value} {w:World} (h:KeysOk ek ks es) (hx:∀w,(underlying xt).run P w= .ok (.map kt vt) w) (hz:∀w,(zeroValue vt).run P w= .ok z w)
  (hb:w.heap[b]?=some (.map es cl)):∃v,(Instr.lookup xt (.map (some b)) (ek k) true).run P w= .ok (.tuple #[v, .bool (ks.any (eq k))]) w:=by
 have hg:(getObj b).run P w= .ok (.map es cl) w:=by simp [getObj,Sem.run,hb]
 obtain ⟨r,h1,h2⟩:=findKey_s K k h w
 cases r with
 |none=>exact ⟨z,by simp [Instr.lookup,hx,hg,K.check,h1,hz,←h2]⟩
 |some q=>exact ⟨q.2,by simp [Instr.lookup,hx,hg,K.check,h1,←h2]⟩
theorem put_s (K:KeyS P kt fs ek eq) (k:κ) {xt vt:TypeId} {b:Nat} {v:Value} {es:Array MapEntry} {cl:Nat} {ks:List κ} {w:World} (h:KeysOk ek ks es) (hx:∀w,(underlying xt).run P w= .ok (.map kt vt) w)
  (hb:w.heap[b]?=some (.map es cl)) (hn:ks.any (eq k)=false):∃es' cl',(Instr.mapUpdate xt (.map (some b)) (ek k) v).run P w= .ok () (setb w b (.map es' cl'))∧KeysOk ek (ks++[k]) es':=by
 have hg:(getObj b).run P w= .ok (.map es cl) w:=by simp [getObj,Sem.run,hb]
 have hset:∀o,(setObj b o).run P w= .ok () (setb w b o):=fun o=>by simp [setObj,Sem.run,hb,setb]
 obtain ⟨r,h1,h2⟩:=findKey_s K k h w
 rw [hn] at h2
 cases r with
 |some q=>simp at h2
 |none=>exact ⟨es.push ⟨ek k,v,cl⟩,cl+1,by simp [Instr.mapUpdate,hx,hg,K.check,h1,hset],by unfold KeysOk at*;simp [h]⟩
end
def vw (w:World):View:=fun a=>w.cell? a
theorem vw_sees (w:World):Sees (vw w) w:=fun a v h=>h
section
variable {H:Type} {enc:TypeId×Value→H} {P:Program} {w:World}
structure Opn (enc:TypeId×Value→H) (P:Program) (w:World) (t:TypeId) {α:Type} (d:Kd α) (F:α→Prop):Prop where
 size:P.cellsOf t=d.sz
 open_:∀fuel cs x,DataW.trod enc P w 0 (fun _=>true) true fuel t cs=some x→∃y,d.K (vw w) y cs∧F y
theorem op_int {t:TypeId} {k:IntKind} (ht:P.underlying t=some (.int k)) (hc:P.cellsOf t=1):Opn enc P w t (Kd.int k) (fun n=>(Lit.int k n).wf=true):=
 ⟨hc,fun fuel cs x h=>by obtain ⟨n,rfl,_,hw⟩:=DataW.trod_int ht h;exact ⟨n,rfl,hw⟩⟩
theorem op_bool {t:TypeId} (ht:P.underlying t=some .bool) (hc:P.cellsOf t=1):Opn enc P w t Kd.bool (fun _=>True):=
 ⟨hc,fun fuel cs x h=>by obtain ⟨n,rfl,_⟩:=DataW.trod_bool ht h;exact ⟨n,rfl,trivial⟩⟩
theorem op_str {t:TypeId} (ht:P.underlying t=some .string) (hc:P.cellsOf t=1):Opn enc P w t Kd.str (fun s=>s.size≤maxLen):=
 ⟨hc,fun fuel cs x h=>by obtain ⟨s,rfl,_,hs⟩:=DataW.trod_string ht h;exact ⟨s,rfl,hs⟩⟩
theorem list_of {α : Type} {Q : Nat → α → Prop} : ∀ (n : Nat), (∀ i, i < n → ∃ y, Q i y) → ∃ ys : List α, ys.length = n ∧ ∀ i y, ys[i]? = some y → Q i y
  |0,_=>⟨[],rfl,fun i y h=>by simp at h⟩
  | n + 1, h => by
    obtain ⟨ys,h1,h2⟩:=list_of n (fun i hi=>h i (by omega))
    obtain ⟨y,hy⟩:=h n (by omega)
    refine ⟨ys++[y],by simp [h1],fun i z hz=>?_⟩
    by_cases hi:i<n
    · rw [List.getElem?_append_left (by omega)] at hz;exact h2 i z hz
    · rw [List.getElem?_append_right (by omega)] at hz
      have:i-ys.length=0:=by
        have:=(List.getElem?_eq_some_iff.1 hz).1
        simp at this
        omega
      rw [this] at hz
      simp only [List.getElem?_cons_zero,Option.some.injEq] at hz
      subst hz
      rwa [show i=n by omega]
theorem op_slice {t e:TypeId} {α:Type} {d:Kd α} {F:α→Prop} (ho:Opn enc P w e d F) (ht:P.underlying t=some (.slice e)) (hc:P.cellsOf t=1):Opn enc P w t (Kd.slice d) (fun xs=>xs.length≤maxLen∧∀x∈xs,F x):=by
 refine ⟨hc,fun fuel cs x h=>?_⟩
 rcases DataW.trod_slice ht h with ⟨rfl,_⟩|⟨a,len,cap,elems,rest,n,_,rfl,_,_,hl,hm,hlen,hel,_,_⟩
 ·exact ⟨[],⟨none,0,rfl,Nat.le_refl _,Rd.nil _ _ _⟩,by simp [maxLen],by simp⟩
 ·obtain ⟨ys, h1, h2⟩ := list_of (Q := fun i y => ∃ cs, d.K (vw w) y cs ∧ VCells (vw w) (a.add (i * d.sz)) cs ∧ F y) len (fun i hi => by
   have h3:=hel i hi
   rw [List.getElem?_eq_getElem (by omega),Option.bind_eq_some_iff] at h3
   obtain ⟨cs',h4,h5⟩:=h3
   obtain ⟨y,h6,h7⟩:=ho.open_ _ _ _ h5
   refine ⟨y,cs',h6,fun j v hj=>?_,h7⟩
   obtain ⟨_,hcl,hall⟩:=World.cells?_some h4
   rw [ho.size] at hall hcl
   have hlt:=(List.getElem?_eq_some_iff.1 hj).1
   show w.cell? _=some v
   rw [hall j (by omega)]
   exact hj)
  refine ⟨ys,⟨some a,cap,by rw [h1],by omega,?_,fun _=>⟨a,rfl,fun i x hx=>?_⟩⟩,by omega,fun x hx=>?_⟩
  ·unfold maxLen at hm;omega
  ·obtain ⟨cs',h3,h4,_⟩:=h2 i x hx;exact ⟨cs',h3,h4⟩
  ·obtain ⟨i,hi⟩:=List.getElem?_of_mem hx
   obtain ⟨_,_,_,h5⟩:=h2 i x hi
   exact h5
def OpF (enc:TypeId×Value→H) (P:Program) (w:World) (fs:List Field) (off:Nat) {α:Type} (d:Kd α) (F:α→Prop):Prop:=
 ∀fuel (cs:List Value),(∀(i:Nat) (f:Field),fs[i]?=some f→∃x,DataW.trod enc P w 0 (fun _=>true) true fuel f.type ((cs.drop f.offset).take (P.cellsOf f.type))=some x)→off+d.sz≤cs.length→∃y,d.K (vw w) y ((cs.drop off).take d.sz)∧F y
theorem opf_one {f:Field} {off:Nat} {α:Type} {d:Kd α} {F:α→Prop} (ho:Opn enc P w f.type d F) (hoff:f.offset=off):OpF enc P w [f] off d F:=fun fuel cs h _=>by
 obtain ⟨x,hx⟩:=h 0 f rfl
 rw [ho.size,hoff] at hx
 exact ho.open_ _ _ _ hx
theorem opf_cons {f:Field} {fs:List Field} {off:Nat} {α β:Type} {a:Kd α} {b:Kd β} {F:α→Prop} {G:β→Prop} (ho:Opn enc P w f.type a F) (hoff:f.offset=off) (hr:OpF enc P w fs (off+a.sz) b G):
  OpF enc P w (f::fs) off (Kd.pair a b) (fun y=>F y.1∧G y.2):=fun fuel cs h hl=>by
 have hl':off+(a.sz+b.sz)≤cs.length:=hl
 obtain ⟨x,hx⟩:=h 0 f rfl
 rw [ho.size,hoff] at hx
 obtain ⟨y,h1,h2⟩:=ho.open_ _ _ _ hx
 obtain ⟨z,h3,h4⟩:=hr fuel cs (fun i g hg=>h (i+1) g (by simpa using hg)) (by omega)
 refine ⟨(y,z),⟨_,_,?_,h1,h3⟩,h2,h4⟩
 show (cs.drop off).take (a.sz+b.sz)=_
 rw [List.take_add,List.drop_drop]
theorem op_struct {t:TypeId} {fs:Array Field} {α:Type} {d:Kd α} {F:α→Prop} (ht:P.underlying t=some (.struct fs)) (hc:P.cellsOf t=d.sz) (ho:OpF enc P w fs.toList 0 d F):Opn enc P w t d F:=by
 refine ⟨hc,fun fuel cs x h=>?_⟩
 obtain ⟨xs,n,_,_,hl,hxl,hf⟩:=DataW.trod_struct ht h
 obtain ⟨y, h1, h2⟩ := ho n cs (fun i f hi => by
  have hi':fs[i]?=some f:=by simpa using hi
  have hlt:=(Array.getElem?_eq_some_iff.1 hi').1
  exact ⟨xs[i], by rw [hf i f hi']; simp⟩) (by omega)
 rw [List.drop_zero,List.take_of_length_le (by omega)] at h1
 exact ⟨y,h1,h2⟩
theorem op_iso {t:TypeId} {α β:Type} {d:Kd α} {F:α→Prop} {f:β→α} (g:α→β) (hg:∀a,f (g a)=a) (ho:Opn enc P w t d F):Opn enc P w t (Kd.iso d f) (fun y=>F (f y)):=
 ⟨ho.size, fun fuel cs x h => by
  obtain ⟨y,h1,h2⟩:=ho.open_ _ _ _ h
  exact ⟨g y, by show d.K (vw w) (f (g y)) cs; rw [hg]; exact h1, by rw [hg]; exact h2⟩⟩
theorem Opn.weak {t:TypeId} {α:Type} {d:Kd α} {F G:α→Prop} (ho:Opn enc P w t d F) (h:∀y,F y→G y):Opn enc P w t d G:=
 ⟨ho.size,fun fuel cs x hx=>by obtain ⟨y,h1,h2⟩:=ho.open_ _ _ _ hx;exact ⟨y,h1,h y h2⟩⟩
theorem all_stays (hl:laidOutB P=true) {W W':World} (hE:Ext W W') {sp:Nat→Bool}:∀{ts:List TypeId} {vs:List Value} {ds:List (DataW H)} {ps:List MemPlace},(∀t∈ts,P.readableRec t=true∧t<P.types.size)→
    DataW.TrodAll enc P W 0 (fun _=>true) true ts vs ds ps→(∀p∈ps,p.block<W.heap.size)→(∀p∈ps,sp p.block=true)→DataW.TrodAll enc P W' 0 sp true ts vs ds ps
  |[],[],[],_,_,h,_,_=>h
  | t :: ts, v :: vs, d :: ds, _, hT, ⟨p, q, h1, h2, e⟩, hlt, hs => ⟨p, q, WideElems.Trod_stays hl (hT t List.mem_cons_self).1 (hT t List.mem_cons_self).2 h1 (fun x hx => hE.same (hlt x (by rw [e]; exact List.mem_append_left _ hx))) (fun x hx => hs x (by rw [e]; exact List.mem_append_left _ hx)),
      all_stays hl hE (fun t ht => hT t (List.mem_cons_of_mem _ ht)) h2 (fun x hx => hlt x (by rw [e]; exact List.mem_append_right _ hx)) (fun x hx => hs x (by rw [e]; exact List.mem_append_right _ hx)), e⟩
end
def jk (us:List Value) (i:Nat):Value:=us.getD i undef
def Fit (us:List Value) (f:(Nat→Value)→List Value):Prop:=us=f (jk us)
theorem fit {us:List Value} {f:(Nat→Value)→List Value} (h:us=f (jk us)):Fit us f:=h
theorem unj {us:List Value} {f:(Nat→Value)→List Value} (h:Fit us f):∃u,us=f u:=⟨_,h⟩
def slots (ds:List Tmp) (l:List Value):List Value:=ds.map fun d=>l.getD d undef
def mask : List Tmp → Nat → List Value → List Value
  |_,_,[]=>[]
  |[],_,v::l=>v::l
  | d :: ds, i, v :: l => match Nat.beq i d with
    |true=>undef::mask ds (i+1) l
    |false=>v::mask (d::ds) (i+1) l
theorem mask_len:∀(ds:List Tmp) (i:Nat) (l:List Value),(mask ds i l).length=l.length
  |_,_,[]=>by unfold mask;rfl
  |[],_,v::l=>by unfold mask;rfl
  | d :: ds, i, v :: l => by
    unfold mask
    split
    · simp [mask_len ds (i+1) l]
    · simp [mask_len (d::ds) (i+1) l]
theorem mask_off : ∀ (ds : List Tmp) (i : Nat) (l : List Value) (k : Nat), i + k ∉ ds → (mask ds i l)[k]? = l[k]?
  |_,_,[],k,_=>by unfold mask;rfl
  |[],_,v::l,k,_=>by unfold mask;rfl
  | d :: ds, i, v :: l, k, h => by
    unfold mask
    cases k with
    | zero =>
      have hne:i≠d:=fun e=>h (by rw [e];exact List.mem_cons_self)
      cases hb:Nat.beq i d with
      |true=>exact absurd (Nat.eq_of_beq_eq_true hb) hne
      |false=>rfl
    | succ k =>
      cases hb:Nat.beq i d with
      | true =>
        simp only [List.getElem?_cons_succ]
        exact mask_off ds (i+1) l k (fun hm=>h (List.mem_cons_of_mem _ (by rwa [show i+(k+1)=i+1+k by omega])))
      | false =>
        simp only [List.getElem?_cons_succ]
        exact mask_off (d::ds) (i+1) l k (fun hm=>h (by rwa [show i+(k+1)=i+1+k by omega]))
theorem patch_get (g : Nat → Value) : ∀ (ds : List Tmp) (l0 : List Value) (k : Nat), (patch l0 ds (ds.map g))[k]? = if k ∈ ds ∧ k < l0.length then some (g k) else l0[k]?
  |[],l0,k=>by simp [patch]
  | d :: ds, l0, k => by
    rw [List.map_cons,patch,patch_get g ds,List.length_set,List.getElem?_set]
    by_cases h1:k∈ds∧k<l0.length
    · rw [if_pos h1,if_pos ⟨List.mem_cons_of_mem _ h1.1,h1.2⟩]
    · rw [if_neg h1]
      by_cases h2:d=k
      · subst h2
        rw [if_pos rfl]
        by_cases h3:d<l0.length
        · rw [if_pos h3,if_pos ⟨List.mem_cons_self,h3⟩]
        · rw [if_neg h3,if_neg (fun h=>h3 h.2)]
          exact (List.getElem?_eq_none (Nat.le_of_not_lt h3)).symm
      · rw [if_neg h2,if_neg (fun h=>h1 ⟨(List.mem_cons.1 h.1).resolve_left (fun e=>h2 e.symm),h.2⟩)]
theorem patch_slots {ds:List Tmp} {l l0:List Value} (h:mask ds 0 l=mask ds 0 l0):patch l0 ds (slots ds l)=l:=by
 have hlen:l.length=l0.length:=by rw [←mask_len ds 0 l,h,mask_len]
 apply List.ext_getElem?
 intro k
 unfold slots
 rw [patch_get]
 by_cases hk:k∈ds
 ·by_cases hl:k<l0.length
  ·rw [if_pos ⟨hk,hl⟩,List.getD_eq_getElem?_getD,List.getElem?_eq_getElem (by omega)];rfl
  ·rw [if_neg (fun h=>hl h.2),List.getElem?_eq_none (by omega),List.getElem?_eq_none (by omega)]
 ·rw [if_neg (fun h=>hk h.1),←mask_off ds 0 l k (by simpa using hk),h,mask_off ds 0 l0 k (by simpa using hk)]
section
variable {P:Program} {Q:Exit→Act→World→Prop} {l l0:List Value} {df:List Deferred} {w:World} {ds:List Tmp}
theorem loop_j {b:Nat} {c:Code} (ds:List Tmp) (I:Nat→List Value→World→Prop) (J:List Value→World→Prop) (n:Nat) (h0:I n (slots ds l0) w)
  (hr:∀n us w,I n us w→c.wp P (LoopQ (fun m=>At l0 df ds (I m)) (At l0 df ds J) Q b n) ⟨(patch l0 ds us).toArray,df⟩ w)
  (hJ:∀us w,J us w→Q .normal ⟨(patch l0 ds us).toArray,df⟩ w):(Code.block b (Code.loop c)).wp P Q ⟨l0.toArray,df⟩ w:=
 loop_patch ds I J n (slots ds l0) (patch_slots rfl) h0 hr hJ
theorem again_j {I:Nat→List Value→World→Prop} {J:Act→World→Prop} {b n:Nat} (m:Nat) (hm:m<n) (he:mask ds 0 l=mask ds 0 l0) (h:I m (slots ds l) w):
  LoopQ (fun m=>At l0 df ds (I m)) J Q b n .normal ⟨l.toArray,df⟩ w:=again m _ hm (patch_slots he) h
theorem leave_j {I:Nat→Act→World→Prop} {J:List Value→World→Prop} {b n:Nat} (he:mask ds 0 l=mask ds 0 l0) (h:J (slots ds l) w):
  LoopQ I (At l0 df ds J) Q b n (.exit b) ⟨l.toArray,df⟩ w:=leave _ (patch_slots he) h
theorem met_j {J:List Value→World→Prop} (he:mask ds 0 l=mask ds 0 l0) (h:J (slots ds l) w):Exit.then (At l0 df ds J) Q .normal ⟨l.toArray,df⟩ w:=met _ (patch_slots he) h
end
def OffA (A:Option Addr) (ob:Option Nat) (o c:Nat):Prop:=c=0∨∃b,ob=some b∧A=some ⟨b,o,none⟩
section
variable {P:Program} {ops:Array Oper} {Q:Exit→Act→World→Prop} {l:List Value} {df:List Deferred} {w:World} {os:List Oper} {M:List Nat} {h0 h:View} {w0:World} {bs:List Res} {dst:Tmp} {ty:TypeId} {pos:String} {after:Array Edge}
end
section
variable {P:Program} {Q:Exit→Act→World→Prop} {l:List Value} {df:List Deferred} {ops:Array Oper} {os:List Oper} {M:List Nat} {h0 h:View} {w0 w:World} {bs bs':List Res}
variable {ty:TypeId} {pos:String} {after:Array Edge} {ρ:Operand→Value} {dst:Option Tmp} {guard:Option (Nat×Bool)}
theorem panic_then {K:Act→World→Prop} {a:Act} {ch:List PanicEntry} (h:Q (.panic ch) a w):Exit.then K Q (.panic ch) a w:=h
theorem panic_block {id:Nat} {a:Act} {ch:List PanicEntry} (h:Q (.panic ch) a w):Exit.inBlock id Q (.panic ch) a w:=h
theorem panic_loop {I:Nat→Act→World→Prop} {J:Act→World→Prop} {b n:Nat} {a:Act} {ch:List PanicEntry} (h:Q (.panic ch) a w):LoopQ I J Q b n (.panic ch) a w:=h
theorem bodyPost_panic {fn:Func} {R:Ending→World→Prop} {a:Act} {ch:List PanicEntry} (hd:a.defers=[]) (hR:R (.panicked ch) w):bodyPost P fn R (.panic ch) a w:=⟨hd,hR⟩
theorem r_iface {t:TypeId} {x:Operand} {v:Value} {u:TypeDesc} (hx:ρ x=v) (hu:∀w,(underlying t).run P w= .ok u w) (hn:∀m,u≠ .interface m):
  (execOp ρ ⟨dst, .makeInterface t x,ty,pos,after,guard⟩).run P w= .ok (.value (.iface t v)) w:=by
 subst hx
 cases u<;>first|exact absurd rfl (hn _)|simp [execOp,Instr.makeInterface,hu]
theorem run_panic {x:Operand} {t:TypeId} {v:Value} (hx:ev l x= .iface t v) (h:Q (.panic [{v:= .iface t v,recovered:=false}]) ⟨l.toArray,df⟩ w):
  run P ops Q df (⟨none, .panic x,ty,pos,after,none⟩::os) l w:=by
 have hex:(execOp (ev l) ⟨none, .panic x,ty,pos,after,none⟩).run P w= .halt (.panic (.iface t v)) w:=by
  simp [execOp,hx,Instr.panic,goPanic]
 unfold run
 simp only [wpList,Region.wanted,if_true]
 refine .inl ?_
 unfold Oper.wp
 rw [ev_eq,hex]
 exact h
theorem run_callp {f:FuncId} {g:Operand} {first caps:List Value} {xs:List Operand} {ts:Array TypeId} {vs:List Value} {dst:Tmp} {K:Ending→World→Prop} (hcall:∀args w,(callFunc f args).run P w= .ok (.enter f args) w)
  (hg:ev l g= .func (.func f) first.toArray caps.toArray) (ha:xs.map (ev l)=vs) (h:Calls P f (first++vs++caps).toArray w K)
  (k:∀e w',K e w'→(∃v,e= .returned v∧run P ops Q df os (l.set dst v) w')∨∃ch,e= .panicked ch∧Q (.panic ch) ⟨l.toArray,df⟩ w'):
  run P ops Q df (⟨some dst, .call {callee:= .value g,args:=xs.toArray,argTypes:=ts},ty,pos,after,none⟩::os) l w:=by
 have hex:(execOp (ev l) ⟨some dst, .call {callee:= .value g,args:=xs.toArray,argTypes:=ts},ty,pos,after,none⟩).run P w= .ok (.enter f (first++vs++caps).toArray) w:=by
  have:=hcall (first++vs++caps).toArray w
  subst ha
  simp [execOp,resolve,hg,Deferred.ofValue,invoke]
  simpa using this
 unfold run
 simp only [wpList,Region.wanted,if_true]
 refine .inl ?_
 unfold Oper.wp
 rw [ev_eq,hex]
 simp only [Oper.upon_enter]
 refine h.mono fun e w' hk=>?_
 rcases k e w' hk with ⟨v,rfl,hr⟩|⟨ch,rfl,hr⟩
 ·simp only [put_list]
  exact hr
 ·exact hr
theorem r_first {f:Fn} {xs ys:List Operand} {fv cv:List Value} (h1:xs.map ρ=fv) (h2:ys.map ρ=cv):(execOp ρ ⟨dst, .makeFunc f xs.toArray ys.toArray,ty,pos,after,guard⟩).run P w= .ok (.value (.func f fv.toArray cv.toArray)) w:=by
 subst h1 h2
 simp [execOp,Instr.makeFunc]
end
section
variable {P:Program} {Q:Exit→Act→World→Prop} {os:List Oper} {df:List Deferred}
def QNP (Q:Exit→Act→World→Prop) (df:List Deferred) (K:List Value→World→Prop):Exit→Act→World→Prop
 | .normal,a,w=>∃l,a=⟨l.toArray,df⟩∧K l w
 | .panic ch,_,w=>∀b:Act,b.defers=df→Q (.panic ch) b w
 |_,_,_=>False
def ChainP (P : Program) (os : List Oper) (Q : Exit → Act → World → Prop) (df : List Deferred) : List (List Tmp × List Nat) → List Nat → List Value → World → Prop
  |[],_,_,_=>False
  | (ds, gs) :: r, es, l, w => ∃ vs : List Value, AllG (Good P os df (patch l ds vs) w) gs ∧
    match es with
    |[]=>Q .normal ⟨(patch l ds vs).toArray,df⟩ w
    |e::es'=>∃o,os[e]?=some o∧o.guard=none∧run P os.toArray (QNP Q df fun l' w'=>ChainP P os Q df r es' l' w') df [o] (patch l ds vs) w
def TlP (P:Program) (os:List Oper) (Q:Exit→Act→World→Prop) (df:List Deferred) (ph:List (List Tmp×List Nat)) (es:List Nat) (k:Nat) (l:List Value) (w:World):Prop:=
 match es.drop k with
 |[]=>Q .normal ⟨l.toArray,df⟩ w
 |e::es'=>∃o,os[e]?=some o∧o.guard=none∧run P os.toArray (QNP Q df fun l' w'=>ChainP P os Q df (ph.drop (k+1)) es' l' w') df [o] l w
structure CIP (P:Program) (os:List Oper) (Q:Exit→Act→World→Prop) (df:List Deferred) (n:Nat) (tab:List (List Nat)) (ph:List (List Tmp×List Nat)) (es:List Nat) (L:Nat→Bool) (b:Act) (w:World) (k:Nat) (l:List Value):Prop where
 le:k≤es.length
 good:AllG (Good P os df l w) (ph.getD k ([],[])).2
 tl:TlP P os Q df ph es k l w
 eff:∀j,j<es.length→L (es.getD j 0)=decide (j<k)
 closed:∀i o,os[i]?=some o→L i=true→∀e∈o.after,Region.binds .any e=true→L e.on=true
 defers:b.defers=df
 size:b.tmps.size=n
 len:l.length=n
 off:∀t,(∀u o,os[u]?=some o→o.dst=some t→u∉es→L u=true∨k<phaseOf tab es u)→b.tmps.getD t undef=l.getD t undef
theorem chainp_open {n k:Nat} {ph:List (List Tmp×List Nat)} {es:List Nat} {l:List Value} {w:World} (hp:ph.length=es.length+1) (hk:k≤es.length) (h:ChainP P os Q df (ph.drop k) (es.drop k) l w):
  ∃vs,AllG (Good P os df (patch l (ph.getD k ([],[])).1 vs) w) (ph.getD k ([],[])).2∧TlP P os Q df ph es k (patch l (ph.getD k ([],[])).1 vs) w:=by
 have hlt:k<ph.length:=by omega
 rw [List.drop_eq_getElem_cons hlt] at h
 have e:ph.getD k ([],[])=ph[k]:=by simp [hlt]
 rw [e]
 unfold ChainP at h
 obtain ⟨vs,h1,h2⟩:=h
 exact ⟨vs,h1,h2⟩
theorem drawn_chainp {id : Nat} {l : List Value} {w : World} (ph : List (List Tmp × List Nat)) (es : List Nat) (tab : List (List Nat)) (hmix : P.follows .mixedOrders = true)
    (hf:formC os l.length tab es ph=true) (h:∀w',Ext w w'→ChainP P os Q df ph es l w'):(Code.region id os.toArray true).wp P Q ⟨l.toArray,df⟩ w:=by
  have F:=formC_parts hf
  have hlow:(List.range os.length).all (fun i=>match os[i]? with|some o=>o.after.all (fun e=> !Region.binds .any e||decide (e.on<i))|none=>true)=true:=by
    simp only [formC,Bool.and_eq_true] at hf
    exact hf.1
  refine drawn_inv (fun L b w=>(∀i,L i=true→i<os.length)∧∃k l',CIP P os Q df l.length tab ph es L b w k l') hmix hlow ?_ ?_ ?_
  · intro w' hE
    obtain ⟨vs,h1,h2⟩:=chainp_open (n:=l.length) (k:=0) F.plen (Nat.zero_le _) (by simpa using h w' hE)
    refine ⟨by simp,0,_,Nat.zero_le _,h1,h2,by simp,by simp,rfl,by simp,by rw [patch_length],fun t ht=>?_⟩
    rw [patch_off _ _ _ (fun hm=>?_)]
    · exact getD_list
    · obtain ⟨i,o,ho,hd,hi,hp0⟩:=F.fills 0 (Nat.zero_le _) t hm
      rcases ht i o ho hd hi with h|h
      · cases h
      · omega
  · rintro L b w1 i o ⟨hd,k,l',C⟩ ho hLi hall
    have hdone:=anc_done F C.closed hd i o ho hall
    have hil:=(List.getElem?_eq_some_iff.1 ho).1
    have hagree : ∀ t ∈ o.looksAt os.toArray, b.tmps.getD t undef = l'.getD t undef := fun t ht => C.off t (fun u x hx hdx hue => by
      rcases F.look i o ho t ht u x hx hdx with h|⟨e,he,h1,h2⟩|h
      · exact .inl (hdone u h)
      · right
        obtain ⟨j,hj⟩:=List.getElem?_of_mem he
        have hjl:=(List.getElem?_eq_some_iff.1 hj).1
        have hje:es.getD j 0=e:=by rw [List.getD_eq_getElem?_getD,hj];rfl
        subst hje
        have h3:=phase_ge hjl h1
        have h4:¬j<k:=fun hjk=>by
          have h5:=C.eff j hjl
          have h6:L (es.getD j 0)=true:=by rw [h5];simpa using hjk
          have hlt:=(F.chain j hjl).1
          have:=anc_done F C.closed hd (es.getD j 0) os[es.getD j 0] (List.getElem?_eq_getElem hlt) (fun e he hb=>C.closed _ _ (List.getElem?_eq_getElem hlt) h6 e he hb) i h2
          rw [hLi] at this
          cases this
        omega
      · exact absurd h hue)
    obtain ⟨hex,hwt⟩:=exec_same (F.sel i o ho) hagree
    have hd':∀j,upd L i j=true→j<os.length:=fun j hj=>by
      unfold upd at hj
      split at hj
      · omega
      · exact hd j hj
    have hcl':∀j x,os[j]?=some x→upd L i j=true→∀e∈x.after,Region.binds .any e=true→upd L i e.on=true:=by
      intro j x hx hj e he hb
      unfold upd at hj⊢
      split
      · rfl
      · split at hj
        · rename_i hji
          subst hji
          rw [ho] at hx
          obtain rfl:=Option.some.inj hx
          exact hall e he hb
        · exact C.closed j x hx hj e he hb
    have hopsi:os.toArray[i]?=some o:=by simpa using ho
    by_cases hie:i∈es
    · -- an effect
      obtain ⟨j,hj⟩:=List.getElem?_of_mem hie
      have hjl:=(List.getElem?_eq_some_iff.1 hj).1
      have hji:es.getD j 0=i:=by rw [List.getD_eq_getElem?_getD,hj];rfl
      have hjk:j=k:=by
        have h1:=C.eff j hjl
        rw [hji,hLi] at h1
        have h2:¬j<k:=by simpa using h1.symm
        by_cases hlt:k<j
        · have h3:=(F.chain j hjl).2 k hlt
          rw [hji] at h3
          have h4:=hdone _ h3
          rw [C.eff k (by omega)] at h4
          simp at h4
        · omega
      subst hjk
      have htl:=C.tl
      unfold TlP at htl
      have hdrop:es.drop j=i::es.drop (j+1):=by
        rw [List.drop_eq_getElem_cons hjl]
        congr 1
        rw [List.getElem?_eq_getElem hjl] at hj
        exact Option.some.inj hj
      rw [hdrop] at htl
      simp only at htl
      obtain ⟨o',ho',hg,hrun⟩:=htl
      rw [ho] at ho'
      obtain rfl:=Option.some.inj ho'
      have next:∀v w2,QNP Q df (fun l' w'=>ChainP P os Q df (ph.drop (j+1)) (es.drop (j+1)) l' w') .normal ((⟨l'.toArray,df⟩:Act).put o.dst v) w2→
          (∀i_1,upd L i i_1=true→i_1<os.length)∧∃k l2,CIP P os Q df l.length tab ph es (upd L i) (b.put o.dst v) w2 k l2:=by
        rintro v w2 ⟨l2,e2,hch⟩
        rw [put_setO] at e2
        have e3:setO o.dst l' v=l2:=by
          have:=congrArg Act.tmps e2
          simpa using this
        subst e3
        obtain ⟨vs,h1,h2⟩:=chainp_open (n:=l.length) (k:=j+1) F.plen (by omega) hch
        refine ⟨hd',j+1,_,by omega,h1,h2,?_,hcl',?_,?_,by rw [patch_length,setO_length,C.len],?_⟩
        · intro q hq
          unfold upd
          by_cases hqj:q=j
          · subst hqj;rw [if_pos hji];simp
          · have hne:es.getD q 0≠i:=by
              intro e
              have h5:=C.eff q hq
              rw [e,hLi] at h5
              have h6:¬q<j:=by simpa using h5.symm
              have h7:=(F.chain q hq).2 j (by omega)
              rw [e,hji] at h7
              have:=hdone i h7
              rw [hLi] at this
              cases this
            rw [if_neg hne,C.eff q hq]
            congr 1
            simp;omega
        · cases hdd:o.dst<;>simp [Act.put,C.defers]
        · cases hdd:o.dst<;>simp [Act.put,C.size]
        · intro t ht
          have hnf:t∉(ph.getD (j+1) ([],[])).1:=by
            intro hm
            obtain ⟨q,x,hx,hdx,hqe,hph⟩:=F.fills (j+1) (by omega) t hm
            have h5:upd L i q=true:=by
              rcases ht q x hx hdx hqe with h|h
              · exact h
              · omega
            unfold upd at h5
            rw [if_neg (fun e=>hqe (by subst e;exact hie))] at h5
            obtain ⟨j2,e2,hj2,hm2⟩:=phase_has (by rw [hph];omega:0<phaseOf tab es q)
            have:j2=j:=by omega
            subst this
            rw [hji] at hm2
            have:=anc_done F C.closed hd q x hx (fun e he hb=>C.closed q x hx h5 e he hb) i hm2
            rw [hLi] at this
            cases this
          rw [patch_off _ _ _ hnf]
          have hold:(∀u x,os[u]?=some x→x.dst=some t→u∉es→L u=true∨j<phaseOf tab es u):=fun u x hx hdx hue=>by
            rcases ht u x hx hdx hue with this|this
            · unfold upd at this
              rw [if_neg (fun e=>hue (by subst e;exact hie))] at this
              exact .inl this
            · right;omega
          have h8:=C.off t hold
          cases hdd:o.dst with
          |none=>simpa [Act.put,setO] using h8
          | some d =>
            have hdn:d<l.length:=F.lt i o d ho hdd
            by_cases hdt:d=t
            · subst hdt
              have:d<b.tmps.size:=by rw [C.size];exact hdn
              have h9:d<l'.length:=by rw [C.len];exact hdn
              simp [Act.put,setO,this,h9,List.getD_eq_getElem?_getD]
            · have h9:(l'.set d v).getD t undef=l'.getD t undef:=by simp [List.getD_eq_getElem?_getD,List.getElem?_set_ne hdt]
              show (b.put (some d) v).tmps.getD t undef=(l'.set d v).getD t undef
              rw [h9,←h8]
              simp [Act.put,Array.getD_eq_getD_getElem?,Array.getElem?_setIfInBounds_ne hdt]
      have hlets:¬LetsOut (QNP Q df (fun l' w'=>ChainP P os Q df (ph.drop (j+1)) (es.drop (j+1)) l' w')):=by
        rintro ⟨_,_,h⟩
        exact h
      unfold run at hrun
      simp only [wpList,Region.wanted,hg,if_true] at hrun
      rcases hrun with hrun|⟨_,hx⟩
      · unfold wpOp
        rw [hopsi]
        simp only [Region.wanted,hg,if_true]
        refine .inl ?_
        unfold Oper.wp at hrun⊢
        rw [hex,←ev_eq l' df]
        generalize (execOp (⟨l'.toArray,df⟩:Act).eval o).run P w1=r at hrun
        cases r with
        | ok nn w2 =>
          cases nn<;>simp only [Oper.upon] at hrun⊢
          case value v=>exact next v w2 hrun
          case skip=>exact next undef w2 hrun
          case defer d=>
            obtain ⟨l2,e2,_⟩:=hrun
            have:=congrArg Act.defers e2
            cases hdd:o.dst<;>simp [hdd,Act.put] at this
          case enter f args=>
            refine Calls.mono hrun fun e w3 he=>?_
            cases e with
            |returned v=>exact next v w3 he
            |panicked c=>exact he b C.defers
            |outgrown=>exact absurd he hlets
          case row row args=>exact Rows.mono hrun fun v w3 he=>next v w3 he
        | halt x w2 =>
          cases x<;>simp only [Oper.upon] at hrun⊢
          case panic u=>exact hrun b C.defers
      · exact absurd hx hlets
    · -- it looks only
      have hph : phaseOf tab es i ≤ k := phase_le (fun j hj hm => by
        have:=hdone _ hm
        rw [C.eff j hj] at this
        simpa using this)
      have hgd := C.good.mem (F.good k C.le i hil hie hph (fun j hj hm => by
        have hjl:j<es.length:=by have:=C.le;omega
        have h1:=C.eff j hjl
        have h2:L (es.getD j 0)=true:=by rw [h1];simpa using hj
        have hlt:=(F.chain j hjl).1
        have:=anc_done F C.closed hd (es.getD j 0) os[es.getD j 0] (List.getElem?_eq_getElem hlt) (fun e he hb=>C.closed _ _ (List.getElem?_eq_getElem hlt) h2 e he hb) i hm
        rw [hLi] at this
        cases this))
      obtain ⟨o2,t,ho2,hdt,hgd⟩:=hgd
      rw [ho] at ho2
      obtain rfl:=Option.some.inj ho2
      have htn:t<l.length:=F.lt i o t ho hdt
      have hI : ∀ v, v = l'.getD t undef → (∀ i_1, upd L i i_1 = true → i_1 < os.length) ∧ ∃ k l2, CIP P os Q df l.length tab ph es (upd L i) (b.put o.dst v) w1 k l2 := by
        intro v hv
        refine ⟨hd',k,l',C.le,C.good,C.tl,?_,hcl',?_,?_,C.len,?_⟩
        · intro j hj
          have:es.getD j 0≠i:=fun e=>hie (by rw [←e,List.getD_eq_getElem?_getD,List.getElem?_eq_getElem hj];exact List.getElem_mem hj)
          unfold upd
          rw [if_neg this]
          exact C.eff j hj
        · simp [Act.put,hdt,C.defers]
        · simp [Act.put,hdt,C.size]
        · intro t2 ht2
          by_cases htt:t=t2
          · subst htt
            have:t<b.tmps.size:=by rw [C.size];exact htn
            rw [hv,hdt]
            simp [Act.put,this]
          · have h8 := C.off t2 (fun u x hx hdx hue => by
              rcases ht2 u x hx hdx hue with this|this
              · unfold upd at this
                rw [if_neg (fun e=>htt (by subst e;rw [ho] at hx;obtain rfl:=Option.some.inj hx;rw [hdt] at hdx;exact Option.some.inj hdx))] at this
                exact .inl this
              · exact .inr this)
            rw [←h8,hdt]
            simp [Act.put,Array.getD_eq_getD_getElem?,Array.getElem?_setIfInBounds_ne htt]
      unfold wpOp
      rw [hopsi]
      simp only
      rw [hwt]
      split
      · rename_i hw
        rw [if_pos hw] at hgd
        refine .inl ?_
        unfold Oper.wp
        rw [hex,hgd]
        exact hI _ rfl
      · rename_i hw
        rw [if_neg hw] at hgd
        exact hI undef hgd.symm
  · rintro L b w1 ⟨hd,k,l',C⟩ hall
    have hk:es.length≤k:=by
      rcases Nat.lt_or_ge k es.length with h|h
      · have h1:=C.eff k h
        have h2:=hall _ (F.chain k h).1
        rw [h1] at h2
        simp at h2
      · exact h
    have htl:=C.tl
    unfold TlP at htl
    rw [List.drop_eq_nil_of_le hk] at htl
    have hb:b=⟨l'.toArray,df⟩:=by
      obtain ⟨bt,bd⟩:=b
      have h1:=C.defers
      have h2:=C.size
      simp only at h1 h2
      subst h1
      congr 1
      refine Array.ext (by rw [h2];simp [C.len]) (fun t h3 h4=>?_)
      have:=C.off t (fun u o ho _ _=> .inl (hall u (List.getElem?_eq_some_iff.1 ho).1))
      rw [←getD_list] at this
      have h5:t<l'.length:=by simpa using h4
      simpa [Array.getD_eq_getD_getElem?,h3,h4,h5] using this
    rw [hb]
    exact htl
end
section
variable {P:Program} {Q:Exit→Act→World→Prop} {os:List Oper} {df:List Deferred} {l:List Value} {w:World} {ds:List Tmp} {gs es:List Nat} {vs:List Value} {r:List (List Tmp×List Nat)} {u e:Nat}
theorem chainp_last (vs:List Value) (hg:AllG (Good P os df (patch l ds vs) w) gs) (h:Q .normal ⟨(patch l ds vs).toArray,df⟩ w):ChainP P os Q df [(ds,gs)] [] l w:=⟨vs,hg,h⟩
theorem chainp_eff {o:Oper} (vs:List Value) (hg:AllG (Good P os df (patch l ds vs) w) gs) (ho:os[e]?=some o) (hgd:o.guard=none)
  (h:run P os.toArray (QNP Q df fun l' w'=>ChainP P os Q df r es l' w') df [o] (patch l ds vs) w):ChainP P os Q df ((ds,gs)::r) (e::es) l w:=⟨vs,hg,o,ho,hgd,h⟩
theorem qnp_nil {K:List Value→World→Prop} {ops:Array Oper} (h:K l w):run P ops (QNP Q df K) df [] l w:=⟨l,rfl,h⟩
theorem panic_qn {K:List Value→World→Prop} {a:Act} {ch:List PanicEntry} (h:∀b:Act,b.defers=df→Q (.panic ch) b w):QNP Q df K (.panic ch) a w:=h
theorem bodyPost_panicd {fn:Func} {R:Ending→World→Prop} {a:Act} {ch:List PanicEntry} (hd:a.defers=df) (he:df=[]) (hR:R (.panicked ch) w):bodyPost P fn R (.panic ch) a w:=⟨hd.trans he,hR⟩
end
section
variable {P:Program} {Q:Exit→Act→World→Prop} {l:List Value} {df:List Deferred} {ops:Array Oper} {os:List Oper} {w:World}
variable {ty:TypeId} {pos:String} {after:Array Edge}
theorem run_defer {g:Operand} {f:FuncId} {caps:List Value} {ts:Array TypeId} (hg:ev l g= .func (.func f) #[] caps.toArray) (k:run P ops Q (⟨.fn (.func f) caps.toArray,#[]⟩::df) os l w):
  run P ops Q df (⟨none, .defer {callee:= .value g,args:=#[],argTypes:=ts},ty,pos,after,none⟩::os) l w:=by
 have hex:(execOp (ev l) ⟨none, .defer {callee:= .value g,args:=#[],argTypes:=ts},ty,pos,after,none⟩).run P w= .ok (.defer ⟨.fn (.func f) caps.toArray,#[]⟩) w:=by
  simp [execOp,resolve,hg,Deferred.ofValue]
 unfold run at*
 simp only [wpList,Region.wanted,if_true]
 refine .inl ?_
 unfold Oper.wp
 rw [ev_eq,hex]
 exact k
theorem inv_cap {f:FuncId} {caps:List Value} (hcall:∀args w,(callFunc f args).run P w= .ok (.enter f args) w):(invoke (.fn (.func f) caps.toArray) #[]).run P w= .ok (.enter f caps.toArray) w:=by
 simp [invoke,hcall]
theorem catch_ret {fn:Func} {R:Ending→World→Prop} {f:FuncId} {caps:List Value} {S:World→Prop} (hcall:∀args w,(callFunc f args).run P w= .ok (.enter f args) w)
  (h:CallsD P f caps.toArray .returning w (fun e u' w'=>(∃v,e= .returned v)∧u'= .returning∧S w')) (k:∀w',S w'→∃v,(results fn l.toArray).run P w'= .ok v w'∧R (.returned v) w'):
  bodyPostD P fn R .ret ⟨l.toArray,[⟨.fn (.func f) caps.toArray,#[]⟩]⟩ w:=by
 refine leaves_cons (by simp) (inv_cap hcall) (h.mono ?_)
 rintro e u' w' ⟨⟨v,rfl⟩,rfl,hS⟩
 exact k w' hS
theorem catch_panic {fn:Func} {R:Ending→World→Prop} {f:FuncId} {caps:List Value} {S:World→Prop} {p:Value} (hcall:∀args w,(callFunc f args).run P w= .ok (.enter f args) w)
  (h:CallsD P f caps.toArray (.panicking [{v:=p,recovered:=false}]) w (fun e u' w'=>(∃v,e= .returned v)∧u'= .panicking [{v:=p,recovered:=true}]∧S w'))
  (k:∀w',S w'→∃v,(results fn l.toArray).run P w'= .ok v w'∧R (.returned v) w'):
  bodyPostD P fn R (.panic [{v:=p,recovered:=false}]) ⟨l.toArray,[⟨.fn (.func f) caps.toArray,#[]⟩]⟩ w:=by
 refine leaves_cons (by simp) (inv_cap hcall) (h.mono ?_)
 rintro e u' w' ⟨⟨v,rfl⟩,rfl,hS⟩
 exact k w' hS
theorem recover_none {Q:Exit→Act→List Frame→World→Prop} {id:Nat} {cs:List Frame} {d d2:Tmp} {ty2:TypeId} {pos2:String} {after2:Array Edge} (hd:d<l.length) (h:recoverD cs=none) (k:Q .normal ⟨((l.set d .nilIface).set d2 .nilIface).toArray,df⟩ cs w):
  (Code.region id #[⟨some d, .call {callee:= .builtin .recover,args:=#[],argTypes:=#[]},ty,pos,after,none⟩,⟨some d2, .assign (.tmp d),ty2,pos2,after2,none⟩] false).wpS P Q ⟨l.toArray,df⟩ cs w:=by
 refine wpS_region ?_
 show wpOpsS _ _ _ [0,1] _ _ _
 have e1:(execOp (⟨l.toArray,df⟩:Act).eval ⟨some d, .call {callee:= .builtin .recover,args:=#[],argTypes:=#[]},ty,pos,after,none⟩).run P w= .ok .recover w:=by simp [execOp,resolve,invoke,builtin]
 have e2:(execOp (⟨(l.set d .nilIface).toArray,df⟩:Act).eval ⟨some d2, .assign (.tmp d),ty2,pos2,after2,none⟩).run P w= .ok (.value .nilIface) w:=by simp [execOp,Act.eval,hd]
 simp only [wpOpsS,List.getElem?_toArray,List.getElem?_cons_zero,List.getElem?_cons_succ,Region.wanted,if_true,e1,h,put_list,e2,Oper.upon]
 exact k
theorem recover_some {Q:Exit→Act→List Frame→World→Prop} {id:Nat} {cs cs':List Frame} {v:Value} {d d2:Tmp} {ty2:TypeId} {pos2:String} {after2:Array Edge} (hd:d<l.length) (h:recoverD cs=some (v,cs')) (k:Q .normal ⟨((l.set d v).set d2 v).toArray,df⟩ cs' w):
  (Code.region id #[⟨some d, .call {callee:= .builtin .recover,args:=#[],argTypes:=#[]},ty,pos,after,none⟩,⟨some d2, .assign (.tmp d),ty2,pos2,after2,none⟩] false).wpS P Q ⟨l.toArray,df⟩ cs w:=by
 refine wpS_region ?_
 show wpOpsS _ _ _ [0,1] _ _ _
 have e1:(execOp (⟨l.toArray,df⟩:Act).eval ⟨some d, .call {callee:= .builtin .recover,args:=#[],argTypes:=#[]},ty,pos,after,none⟩).run P w= .ok .recover w:=by simp [execOp,resolve,invoke,builtin]
 have e2:(execOp (⟨(l.set d v).toArray,df⟩:Act).eval ⟨some d2, .assign (.tmp d),ty2,pos2,after2,none⟩).run P w= .ok (.value v) w:=by simp [execOp,Act.eval,hd]
 simp only [wpOpsS,List.getElem?_toArray,List.getElem?_cons_zero,List.getElem?_cons_succ,Region.wanted,if_true,e1,h,put_list,e2,Oper.upon]
 exact k
theorem run_st0 {t:TypeId} {x y:Operand} {a:Addr} (hx:ev l x= .pointer (some a)) (hy:ev l y= .agg #[]) (hs:∀w,(sizeOf t).run P w= .ok 0 w) (k:run P ops Q df os l w):
  run P ops Q df (⟨none, .store t x y,ty,pos,after,none⟩::os) l w:=by
 have hrun:(execOp (ev l) ⟨none, .store t x y,ty,pos,after,none⟩).run P w= .ok .skip w:=by
  simp [execOp,hx,hy,Instr.storeAt,Instr.sureAddr,storeVar,Value.cells,hs,storeCells]
 unfold run at*
 simp only [wpList,Region.wanted,if_true]
 refine .inl ?_
 unfold Oper.wp
 rw [ev_eq,hrun]
 exact k
end
section
variable {κ ν ρ:Type} [DecidableEq ρ] {f:κ→ν→Option (ρ⊕Unit)}
omit [DecidableEq ρ] in
omit [DecidableEq ρ] in
variable {ek:κ→Value} {ev':ν→Value}
end
section
variable {P:Program} {Q:Exit→Act→World→Prop} {l:List Value} {df:List Deferred} {ops:Array Oper} {os:List Oper} {M:List Nat} {h0 h:View} {w0 w:World} {bs:List Res} {ty:TypeId} {pos:String} {after:Array Edge}
end
section
variable {P:Program} {ρ:Operand→Value} {w:World} {dst:Option Tmp} {ty:TypeId} {pos:String} {after:Array Edge} {guard:Option (Nat×Bool)}
end
end Go.M
