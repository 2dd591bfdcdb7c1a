/- Parts of a proof, merged by program: Q16 Q17 M28 F6 Q18. The walks (each function once) and the plain laws; no condition of their own. -/
import Derived.Test.YtfjppgobidjndaaDoorEqu4
set_option linter.unusedVariables false
set_option linter.unusedSimpArgs false
namespace Go.Proofs.YtfjppgobidjndaaDoor
open Go.RowKit Go.M
noncomputable def tell (p:Prop):Bool:=by classical exact decide p
theorem tell_t {p:Prop} (h:p):tell p=true:=by unfold tell;simp [h]
theorem tell_f {p:Prop} (h:¬p):tell p=false:=by unfold tell;simp [h]
theorem tell_iff {p:Prop}:tell p=true↔p:=by unfold tell;simp
theorem tell_not {p:Prop}:tell p=false↔¬p:=by unfold tell;simp
theorem tell_of {p:Prop} {b:Bool} (h:b=true↔p):b=tell p:=by
  by_cases hp:p
  · rw [tell_t hp];exact h.2 hp
  · rw [tell_f hp]
    cases b with
    |false=>rfl
    |true=>exact absurd (h.1 rfl) hp
theorem tell_congr {p q:Prop} (h:p↔q):tell p=tell q:=tell_of (tell_iff.trans h)
def fAt (d:api_Def) (j:Nat):api_Field:=d.vFields.getD j z_api_Field
def AlikeF (t:api_Types) (u:api_Types) (k:Int) (f g:api_Field):Prop:=f.vName=g.vName∧f.vAt=g.vAt∧(k=4→tx t f.vType.toNat=tx u g.vType.toNat)
structure AlikeS (t:api_Types) (d:api_Def) (u:api_Types) (g:api_Def):Prop where
  kind:d.vKind=g.vKind
  name:d.vName=g.vName
  int:d.vInt.vSize=g.vInt.vSize∧d.vInt.vSigned=g.vInt.vSigned
  num:d.vN=g.vN
  ref:d.vKind=2∨d.vKind=3∨d.vKind=6→tx t d.vRef.toNat=tx u g.vRef.toNat
  len:d.vFields.length=g.vFields.length
  fld:∀j,j<d.vFields.length→AlikeF t u d.vKind (fAt d j) (fAt g j)
theorem eqfunc_loop {a b:List api_Field} {p:Nat→api_Field→api_Field→Option Bool} {q:api_Field→api_Field→Prop} (hl:a.length≤9223372036854775807) (hab:a.length=b.length)
    (hp:∀j,j<a.length→Ev (fun k=>p k (a.getD j z_api_Field) (b.getD j z_api_Field)) (tell (q (a.getD j z_api_Field) (b.getD j z_api_Field)))):∀(e j:Nat),j+e=a.length→
    Ev2 (fun k m=>slices_EqualFunc_api_Field_api_Field_api_Field_api_Field.l0 a b (p k) m (j:Int)) (if tell (∀i,j≤i→i<a.length→q (a.getD i z_api_Field) (b.getD i z_api_Field))=true then .inr () else .inl false):=by
  intro e
  induction e with
  |zero=>
    intro j hj
    refine Ev2.pure fun k m=>?_
    rw [slices_EqualFunc_api_Field_api_Field_api_Field_api_Field.l0,if_neg (by simp;omega),if_pos (tell_t (fun i h1 h2=>by omega))]
  |succ e ih=>
    intro j hj
    have hlt:j<a.length:=by omega
    have h2:=ih (j+1) (by omega)
    refine Ev2.step (hp j hlt) (r:=fun k m v1=>if (!v1)=true then (some (.inl false)) else (slices_EqualFunc_api_Field_api_Field_api_Field_api_Field.l0 a b (p k) m ((j+1:Nat):Int))) ?_ (fun k m=>?_)
    · by_cases hq:q (a.getD j z_api_Field) (b.getD j z_api_Field)
      · rw [tell_t hq]
        obtain ⟨K,hK⟩:=h2
        refine ⟨K,fun k m hk hm=>?_⟩
        simp only [Bool.not_true,Bool.false_eq_true,if_false]
        rw [show slices_EqualFunc_api_Field_api_Field_api_Field_api_Field.l0 a b (p k) m ((j+1:Nat):Int)=_ from hK k m hk hm]
        congr 2
        rw [tell_congr (p:=∀i,j+1≤i→i<a.length→q (a.getD i z_api_Field) (b.getD i z_api_Field)) (q:=∀i,j≤i→i<a.length→q (a.getD i z_api_Field) (b.getD i z_api_Field))]
        exact ⟨fun h i h1 h2=>by
          by_cases e:i=j
          · subst e;exact hq
          · exact h i (by omega) h2,fun h i h1 h2=>h i (by omega) h2⟩
      · rw [tell_f hq,if_neg (by rw [tell_f (fun h=>hq (h j (Nat.le_refl _) hlt))];simp)]
        exact ⟨0,fun k m _ _=>rfl⟩
    · rw [slices_EqualFunc_api_Field_api_Field_api_Field_api_Field.l0,if_pos (by simp;omega),if_pos (by omega),if_pos (by omega),rd_nat,rd_nat,wrap_nat hlt hl]
theorem eqfunc_ev {a b:List api_Field} {p:Nat→api_Field→api_Field→Option Bool} {q:api_Field→api_Field→Prop} (hl:a.length≤9223372036854775807)
    (hp:a.length=b.length→∀j,j<a.length→Ev (fun k=>p k (a.getD j z_api_Field) (b.getD j z_api_Field)) (tell (q (a.getD j z_api_Field) (b.getD j z_api_Field)))):
    Ev (fun k=>slices_EqualFunc_api_Field_api_Field_api_Field_api_Field.f k a b (p k)) (tell (a.length=b.length∧∀i,i<a.length→q (a.getD i z_api_Field) (b.getD i z_api_Field))):=by
  by_cases hab:a.length=b.length
  · obtain ⟨K,hK⟩:=(eqfunc_loop hl hab (hp hab) a.length 0 (by omega)).diag
    refine ⟨K,fun k hk=>?_⟩
    show slices_EqualFunc_api_Field_api_Field_api_Field_api_Field.f k a b (p k)=_
    unfold slices_EqualFunc_api_Field_api_Field_api_Field_api_Field.f
    rw [if_neg (by simp;omega),show slices_EqualFunc_api_Field_api_Field_api_Field_api_Field.l0 a b (p k) k 0=_ from hK k hk]
    rw [tell_congr (p:=∀i,0≤i→i<a.length→q (a.getD i z_api_Field) (b.getD i z_api_Field)) (q:=a.length=b.length∧∀i,i<a.length→q (a.getD i z_api_Field) (b.getD i z_api_Field)) ⟨fun h=>⟨hab,fun i hi=>h i (by omega) hi⟩,fun h i _ hi=>h.2 i hi⟩]
    generalize tell (a.length=b.length∧∀i,i<a.length→q (a.getD i z_api_Field) (b.getD i z_api_Field))=x
    cases x<;>rfl
  · refine Ev.pure fun k=>?_
    unfold slices_EqualFunc_api_Field_api_Field_api_Field_api_Field.f
    rw [if_pos (by simp;omega),tell_f (fun h=>hab h.1)]
section
variable {t u:api_Types} {l m:List Int}
theorem alikeF_ev {k:Int} {d:api_Def} {f g:api_Field} (hd:d.vKind=k) (h:k=4→Ev (fun k=>ctf_text.f k t f.vType) (tx t f.vType.toNat)∧Ev (fun k=>ctf_text.f k u g.vType) (tx u g.vType.toNat)):
    Ev (fun k=>ctf_alike_1.f k f g d t u) (tell (AlikeF t u k f g)):=by
  have hs:∀a b:ByteArray,strEq a b=tell (a=b):=fun a b=>tell_of strEq_iff
  have hi:∀a b:Int,(a==b)=tell (a=b):=fun a b=>tell_of beq_iff_eq
  by_cases h4:k=4
  · obtain ⟨⟨K1,h1⟩,⟨K2,h2⟩⟩:=h h4
    refine ⟨max K1 K2,fun n hn=>?_⟩
    show ctf_alike_1.f n f g d t u=_
    unfold ctf_alike_1.f
    rw [show ctf_text.f n t f.vType=_ from h1 n (by omega),show ctf_text.f n u g.vType=_ from h2 n (by omega),hd,h4,hs f.vName,hi f.vAt]
    by_cases c1:f.vName=g.vName
    · by_cases c2:f.vAt=g.vAt
      · simp only [tell_t c1,tell_t c2,Bool.and_self,beq_self_eq_true,bne_self_eq_false,if_true,Option.bind_some,Bool.true_and,Bool.false_or,hs (tx t f.vType.toNat)]
        exact congrArg some (tell_congr ⟨fun h=>⟨c1,c2,fun _=>h⟩,fun h=>h.2.2 rfl⟩)
      · rw [tell_t c1,tell_f c2,tell_f (fun h:AlikeF t u 4 f g=>c2 h.2.1)];rfl
    · rw [tell_f c1,tell_f (fun h:AlikeF t u 4 f g=>c1 h.1)];rfl
  · refine Ev.pure fun n=>?_
    unfold ctf_alike_1.f
    rw [show (d.vKind !=4)=true from by rw [hd];simpa using h4,hs f.vName,hi f.vAt]
    by_cases c1:f.vName=g.vName
    · by_cases c2:f.vAt=g.vAt
      · rw [tell_t c1,tell_t c2,tell_t (show AlikeF t u k f g from ⟨c1,c2,fun h=>absurd h h4⟩)];rfl
      · rw [tell_t c1,tell_f c2,tell_f (fun h:AlikeF t u k f g=>c2 h.2.1)];rfl
    · rw [tell_f c1,tell_f (fun h:AlikeF t u k f g=>c1 h.1)];rfl
theorem alike_ev (W:Wf t l) (V:Wf u m) {i j:Nat} (hi:i<t.vDefs.length) (hj:j<u.vDefs.length):Ev (fun k=>ctf_alike.f k t (dAt t i) u (dAt u j)) (tell (AlikeS t (dAt t i) u (dAt u j))):=by
  have hD:=W.sh _ (dAt_mem hi)
  have hG:=V.sh _ (dAt_mem hj)
  have hlen:=hD.few
  have htx:∀{t:api_Types} {l:List Int} (W:Wf t l) {c:Int},0≤c→c<t.vDefs.length→Ev (fun k=>ctf_text.f k t c) (tx t c.toNat):=fun {t l} W {c} h0 h1=>by
    have:=(text_ev W (i:=c.toNat) (by omega)).1
    rwa [show ((c.toNat:Nat):Int)=c by omega] at this
  by_cases hne:(dAt t i).vKind=(dAt u j).vKind∧(dAt t i).vName=(dAt u j).vName∧((dAt t i).vInt.vSize=(dAt u j).vInt.vSize∧(dAt t i).vInt.vSigned=(dAt u j).vInt.vSigned)∧(dAt t i).vN=(dAt u j).vN
  · obtain ⟨n1,n2,⟨n3,n4⟩,n5⟩:=hne
    obtain ⟨ms,hms,hsh⟩:=shapes_find (dAt t i).vKind
    have hF:=eqfunc_ev (a:=(dAt t i).vFields) (b:=(dAt u j).vFields) (p:=fun k z0 z1=>ctf_alike_1.f k z0 z1 (dAt t i) t u) (q:=AlikeF t u (dAt t i).vKind) (by omega) (fun hab x hx=>alikeF_ev rfl (fun h4=>by
      have r1:=hD.typ h4 _ (getD_mem (z:=z_api_Field) hx)
      have r2:=hG.typ (by omega) _ (getD_mem (z:=z_api_Field) (by omega:x<(dAt u j).vFields.length))
      exact ⟨htx W r1.1 r1.2,htx V r2.1 r2.2⟩))
    obtain ⟨K3,h3⟩:=hF
    have hcond:¬((((((dAt t i).vKind !=(dAt u j).vKind)||(!(strEq (dAt t i).vName (dAt u j).vName)))||(!(((dAt t i).vInt.vSize==(dAt u j).vInt.vSize)&&(((dAt t i).vInt.vSigned==(dAt u j).vInt.vSigned)&&true))))||((dAt t i).vN !=(dAt u j).vN))=true):=by
      rw [n1,n2,n3,n4,n5,strEq_iff.2 rfl];simp
    by_cases hk:(dAt t i).vKind=2∨(dAt t i).vKind=3∨(dAt t i).vKind=6
    · have r1:=hD.ref hk
      have r2:=hG.ref (by rw [←n1];exact hk)
      obtain ⟨K1,h1⟩:=htx W r1.1 r1.2
      obtain ⟨K2,h2⟩:=htx V r2.1 r2.2
      refine ⟨K1+K2+K3,fun k hk'=>?_⟩
      show ctf_alike.f k t (dAt t i) u (dAt u j)=_
      unfold ctf_alike.f
      rw [if_neg hcond,hms]
      simp only [Option.bind_some]
      rw [hsh,shp_ref,decide_eq_true hk]
      simp only [beq_self_eq_true,Bool.and_self,if_true]
      rw [show ctf_text.f k t (dAt t i).vRef=_ from h1 k (by omega),show ctf_text.f k u (dAt u j).vRef=_ from h2 k (by omega)]
      simp only [Option.bind_some,Bool.true_and]
      by_cases c:tx t (dAt t i).vRef.toNat=tx u (dAt u j).vRef.toNat
      · rw [strEq_iff.2 c,if_neg (by simp),show slices_EqualFunc_api_Field_api_Field_api_Field_api_Field.f k _ _ _=_ from h3 k (by omega)]
        exact congrArg some (tell_congr ⟨fun h=>⟨n1,n2,⟨n3,n4⟩,n5,fun _=>c,h.1,h.2⟩,fun h=>⟨h.len,h.fld⟩⟩)
      · rw [if_pos (by
          cases hs:strEq (tx t (dAt t i).vRef.toNat) (tx u (dAt u j).vRef.toNat) with
          |false=>rfl
          |true=>exact absurd (strEq_iff.1 hs) c),tell_f (fun h=>c (h.ref hk))]
    · refine ⟨K3,fun k hk'=>?_⟩
      show ctf_alike.f k t (dAt t i) u (dAt u j)=_
      unfold ctf_alike.f
      rw [if_neg hcond,hms]
      simp only [Option.bind_some]
      rw [hsh,shp_ref,decide_eq_false hk]
      simp only [show (false==true)=false from rfl,Bool.true_and,Bool.false_and,Bool.false_eq_true,if_false,Option.bind_some]
      rw [show slices_EqualFunc_api_Field_api_Field_api_Field_api_Field.f k _ _ _=_ from h3 k (by omega)]
      exact congrArg some (tell_congr ⟨fun h=>⟨n1,n2,⟨n3,n4⟩,n5,fun h'=>absurd h' hk,h.1,h.2⟩,fun h=>⟨h.len,h.fld⟩⟩)
  · refine Ev.pure fun k=>?_
    unfold ctf_alike.f
    rw [if_pos,tell_f (fun h=>hne ⟨h.kind,h.name,h.int,h.num⟩)]
    by_cases a1:(dAt t i).vKind=(dAt u j).vKind
    · by_cases a2:(dAt t i).vName=(dAt u j).vName
      · by_cases a3:(dAt t i).vInt.vSize=(dAt u j).vInt.vSize∧(dAt t i).vInt.vSigned=(dAt u j).vInt.vSigned
        · have a4:(dAt t i).vN≠(dAt u j).vN:=fun h=>hne ⟨a1,a2,a3,h⟩
          rw [bneT a4];simp
        · have:((((dAt t i).vInt.vSize==(dAt u j).vInt.vSize)&&(((dAt t i).vInt.vSigned==(dAt u j).vInt.vSigned)&&true)))=false:=by
            rw [Bool.eq_false_iff]
            intro h
            simp only [Bool.and_true,Bool.and_eq_true,beq_iff_eq] at h
            exact a3 h
          rw [this];simp
      · have:strEq (dAt t i).vName (dAt u j).vName=false:=by
          rw [Bool.eq_false_iff]
          exact fun h=>a2 (strEq_iff.1 h)
        rw [this];simp
    · rw [bneT a1];simp
theorem findV_pos {name:ByteArray} (h:0≤findV t name):∃k:Nat,findV t name=(k:Int)∧k<t.vDefs.length∧namedS (dAt t k)=true∧(dAt t k).vName=name:=by
  unfold findV at h⊢
  split at h
  · next ha=>
    rw [if_pos ha]
    obtain ⟨x,hx,hq⟩:=List.any_eq_true.1 ha
    have hlt:=List.findIdx_lt_length_of_exists ⟨x,hx,hq⟩
    refine ⟨_,rfl,hlt,?_⟩
    have hg:=List.findIdx_getElem (w:=hlt)
    have he:dAt t (t.vDefs.findIdx (nameQ name))=t.vDefs[t.vDefs.findIdx (nameQ name)]:=by
      unfold dAt
      rw [List.getD_eq_getElem?_getD,List.getElem?_eq_getElem hlt]
      rfl
    rw [he]
    unfold nameQ at hg
    simp only [Bool.and_eq_true] at hg
    exact ⟨hg.1,strEq_iff.1 hg.2⟩
  · omega
theorem findV_neg {name:ByteArray} (h:¬0≤findV t name):∀k,k<t.vDefs.length→namedS (dAt t k)=true→(dAt t k).vName≠name:=by
  unfold findV at h
  split at h
  · omega
  · next ha=>
    intro k hk hn he
    refine ha (List.any_eq_true.2 ⟨dAt t k,dAt_mem hk,?_⟩)
    unfold nameQ
    rw [hn,he,strEq_iff.2 rfl];rfl
def CondK (t u:api_Types) (k:Nat):Prop:=namedS (dAt t k)=true→∃j,j<u.vDefs.length∧namedS (dAt u j)=true∧AlikeS t (dAt t k) u (dAt u j)
def EqS (t:api_Types) (i:Nat) (u:api_Types) (j:Nat):Prop:=tx t i=tx u j∧∀k,Rch t i k→CondK t u k
theorem body_ev (W:Wf t l) (V:Wf u m) {k:Nat} (hk:k<t.vDefs.length) (z:Bool):Ev (fun n=>ctf_equal.l0 n t u (k:Int) z) (if tell (CondK t u k)=true then .inr () else .inl false):=by
  by_cases hn:namedS (dAt t k)=true
  · obtain ⟨K1,h1⟩:=find_ev V.few (dAt t k).vName
    by_cases h0:0≤findV u (dAt t k).vName
    · obtain ⟨j,e,hj,hnj,hname⟩:=findV_pos h0
      obtain ⟨K2,h2⟩:=alike_ev W V hk hj
      refine ⟨K1+K2,fun n hn'=>?_⟩
      show ctf_equal.l0 n t u (k:Int) z=_
      rw [ctf_equal.l0,if_pos (by omega),rd_dAt]
      simp only [ctf_named.f,Option.bind_some]
      show (if namedS (dAt t k)=true then _ else _)=_
      rw [if_pos hn,show ctf_find.f n u _=_ from h1 n (by omega),e]
      simp only [Option.bind_some]
      rw [show decide (((j:Nat):Int)<0)=false from decide_eq_false (by omega),rd_dAt]
      simp only [beq_self_eq_true,Bool.and_self,if_true]
      rw [if_pos (fun _=>by omega),show ctf_alike.f n t (dAt t k) u (dAt u j)=_ from h2 n (by omega)]
      simp only [Option.bind_some,Bool.false_or]
      have hc:tell (AlikeS t (dAt t k) u (dAt u j))=tell (CondK t u k):=tell_congr ⟨fun h _=>⟨j,hj,hnj,h⟩,fun h=>by
        obtain ⟨j',hj',hn',ha⟩:=h hn
        have:=name_uniq V hj hj' hnj hn' (by rw [hname,ha.name])
        subst this
        exact ha⟩
      rw [hc]
      cases tell (CondK t u k)<;>rfl
    · refine ⟨K1,fun n hn'=>?_⟩
      have hlt:findV u (dAt t k).vName<0:=by omega
      show ctf_equal.l0 n t u (k:Int) z=_
      rw [ctf_equal.l0,if_pos (by omega),rd_dAt]
      simp only [ctf_named.f,Option.bind_some]
      show (if namedS (dAt t k)=true then _ else _)=_
      rw [if_pos hn,show ctf_find.f n u _=_ from h1 n (by omega)]
      simp only [Option.bind_some]
      rw [decide_eq_true hlt,tell_f (fun h=>by
        obtain ⟨j',hj',hn',ha⟩:=h hn
        exact findV_neg h0 j' hj' hn' ha.name.symm)]
      simp
  · refine Ev.pure fun n=>?_
    rw [ctf_equal.l0,if_pos (by omega),rd_dAt]
    simp only [ctf_named.f,Option.bind_some]
    show (if namedS (dAt t k)=true then _ else _)=_
    rw [if_neg hn,tell_t (show CondK t u k from fun h=>absurd h hn)]
    rfl
theorem allK_ev {f:Nat→Int→Bool→Option (Bool⊕Unit)} {g:Int×Bool→Prop}:∀(mv:List (Int×Bool)),(∀p∈mv,Ev (fun n=>f n p.1 p.2) (if tell (g p)=true then .inr () else .inl false))→Ev (fun n=>allK (f n) mv) (if tell (∀p∈mv,g p)=true then .inr () else .inl false)
  |[],_=>by
    rw [tell_t (by intro p hp;cases hp)]
    exact Ev.pure fun n=>rfl
  |p::r,h=>by
    obtain ⟨K1,h1⟩:=h p List.mem_cons_self
    obtain ⟨K2,h2⟩:=allK_ev r (fun q hq=>h q (List.mem_cons_of_mem _ hq))
    refine ⟨K1+K2,fun n hn=>?_⟩
    show allK (f n) (p::r)=_
    rw [allK,show f n p.1 p.2=_ from h1 n (by omega),show allK (f n) r=_ from h2 n (by omega)]
    simp only [Option.bind_some]
    by_cases c1:g p
    · by_cases c2:∀q∈r,g q
      · rw [tell_t c1,tell_t c2,tell_t (by
          intro q hq
          rcases List.mem_cons.1 hq with rfl|hq
          · exact c1
          · exact c2 q hq)]
        rfl
      · rw [tell_t c1,tell_f c2,tell_f (p:=∀q∈p::r,g q) (fun h=>c2 fun q hq=>h q (List.mem_cons_of_mem _ hq))]
        rfl
    · rw [tell_f c1,tell_f (p:=∀q∈p::r,g q) (fun h=>c1 (h p List.mem_cons_self))]
      by_cases c2:∀q∈r,g q
      · rw [tell_t c2];rfl
      · rw [tell_f c2];rfl
theorem equal_ev (W:Wf t l) (V:Wf u m) {i j:Nat} (hi:i<t.vDefs.length) (hj:j<u.vDefs.length):Ev (fun k=>ctf_equal.f k t (i:Int) u (j:Int)) (tell (EqS t i u j)):=by
  obtain ⟨⟨K1,h1⟩,_⟩:=text_ev W hi
  obtain ⟨⟨K2,h2⟩,_⟩:=text_ev V hj
  by_cases c:tx t i=tx u j
  · obtain ⟨mv,⟨K3,h3⟩,hall,hkeys⟩:=reached_ev W (fr:=[i]) (by intro x hx;rw [List.mem_singleton.1 hx];exact hi) (by simp)
    have hp:∀p∈mv,∃k:Nat,p.1=(k:Int)∧k<t.vDefs.length∧Rch t i k:=fun p hp=>by
      obtain ⟨k,e,x,hx,hr⟩:=(hkeys p.1).1 (List.mem_map.2 ⟨p,hp,rfl⟩)
      rw [List.mem_singleton.1 hx] at hr
      exact ⟨k,e,hr.lt W hi,hr⟩
    obtain ⟨K4,h4⟩:=allK_ev (f:=fun n=>ctf_equal.l0 n t u) (g:=fun p=>CondK t u p.1.toNat) mv (fun p hpm=>by
      obtain ⟨k,e,hk,_⟩:=hp p hpm
      rw [e]
      exact body_ev W V hk p.2)
    refine ⟨K1+K2+K3+K4,fun k hk=>?_⟩
    show ctf_equal.f k t (i:Int) u (j:Int)=_
    unfold ctf_equal.f
    rw [show ctf_text.f k t (i:Int)=_ from h1 k (by omega),show ctf_text.f k u (j:Int)=_ from h2 k (by omega)]
    simp only [Option.bind_some]
    rw [strEq_iff.2 c,if_neg (by simp),show ctf_reached.f k t [((i:Nat):Int)]=_ from h3 k (by omega)]
    simp only [Option.bind_some]
    rw [show allK (ctf_equal.l0 k t u) mv=_ from h4 k (by omega)]
    rw [tell_congr (p:=∀p∈mv,CondK t u p.1.toNat) (q:=EqS t i u j) ⟨fun h=>⟨c,fun q hr=>by
      obtain ⟨p,hpm,e⟩:=List.mem_map.1 ((hkeys ((q:Nat):Int)).2 ⟨q,rfl,i,List.mem_singleton.2 rfl,hr⟩)
      have:=h p hpm
      rw [e] at this
      exact this⟩,fun h p hpm=>by
      obtain ⟨k,e,hk,hr⟩:=hp p hpm
      rw [e]
      exact h.2 k hr⟩]
    cases tell (EqS t i u j)<;>rfl
  · refine ⟨K1+K2,fun k hk=>?_⟩
    show ctf_equal.f k t (i:Int) u (j:Int)=_
    unfold ctf_equal.f
    rw [show ctf_text.f k t (i:Int)=_ from h1 k (by omega),show ctf_text.f k u (j:Int)=_ from h2 k (by omega)]
    simp only [Option.bind_some]
    rw [if_pos (by
      cases hs:strEq (tx t i) (tx u j) with
      |false=>rfl
      |true=>exact absurd (strEq_iff.1 hs) c),tell_f (fun h=>c h.1)]
end
def Typ (t:api_Types) (a:Int) (i:Nat):Prop:=a=(i:Int)∧i<t.vDefs.length∧∃l,Wf t l
theorem given_ev {t:api_Types} (hF:∀d∈t.vDefs,FitD d) (a:Int):(∃i l,a=((i:Nat):Int)∧i<t.vDefs.length∧Wf t l∧Ev (fun k=>ctf_valid.f k t) true∧Ev (fun k=>ctf_given.f k t a) 0)∨(∃e,e≠0∧(∀i,¬Typ t a i)∧Ev (fun k=>ctf_given.f k t a) e):=by
  rcases valid_iff hF with ⟨l,W,hv⟩|⟨hno,hv⟩
  · have h1:=given_good hv a
    by_cases h:0≤a∧a<t.vDefs.length
    · rw [if_pos h] at h1
      exact .inl ⟨a.toNat,l,by omega,by omega,W,hv,h1⟩
    · rw [if_neg h] at h1
      exact .inr ⟨3,by decide,fun i hi=>h ⟨by have:=hi.1;omega,by have:=hi.1;have:=hi.2.1;omega⟩,h1⟩
  · exact .inr ⟨80,by decide,fun i hi=>by obtain ⟨_,_,l,W⟩:=hi;exact hno l W,given_bad hv a⟩
def EqX (t:api_Types) (a:Int) (u:api_Types) (b:Int):Prop:=∃i j,Typ t a i∧Typ u b j∧EqS t i u j
theorem Equal_ev {t u:api_Types} (hF:∀d∈t.vDefs,FitD d) (hG:∀d∈u.vDefs,FitD d) (a b:Int):Ev (fun k=>ctf_Equal.f k t a u b) (tell (EqX t a u b)):=by
  rcases given_ev hF a with ⟨i,l,rfl,hi,W,hv,⟨K1,h1⟩⟩|⟨e,he,hno,⟨K1,h1⟩⟩
  · rcases given_ev hG b with ⟨j,m,rfl,hj,V,hv2,⟨K2,h2⟩⟩|⟨e,he,hno,⟨K2,h2⟩⟩
    · obtain ⟨K3,h3⟩:=equal_ev W V hi hj
      refine ⟨K1+K2+K3,fun k hk=>?_⟩
      show ctf_Equal.f k t (i:Int) u (j:Int)=_
      unfold ctf_Equal.f
      rw [show ctf_given.f k t (i:Int)=_ from h1 k (by omega),show ctf_given.f k u (j:Int)=_ from h2 k (by omega)]
      simp only [Option.bind_some,beq_self_eq_true,Bool.and_self,if_true]
      rw [show ctf_equal.f k t (i:Int) u (j:Int)=_ from h3 k (by omega)]
      simp only [Option.bind_some,Bool.true_and]
      exact congrArg some (tell_congr ⟨fun h=>⟨i,j,⟨rfl,hi,l,W⟩,⟨rfl,hj,m,V⟩,h⟩,fun h=>by
        obtain ⟨i',j',hi',hj',h⟩:=h
        have e1:i=i':=Int.ofNat.inj hi'.1
        have e2:j=j':=Int.ofNat.inj hj'.1
        subst e1 e2
        exact h⟩)
    · refine ⟨K1+K2,fun k hk=>?_⟩
      show ctf_Equal.f k t (i:Int) u b=_
      unfold ctf_Equal.f
      rw [show ctf_given.f k t (i:Int)=_ from h1 k (by omega),show ctf_given.f k u b=_ from h2 k (by omega)]
      simp only [Option.bind_some,beq_self_eq_true,Bool.and_self,if_true]
      rw [show (e==0)=false from by simpa using he,tell_f (fun h=>by
        obtain ⟨i',j',hi',hj',h⟩:=h
        exact hno j' hj')]
      rfl
  · refine ⟨K1,fun k hk=>?_⟩
    show ctf_Equal.f k t a u b=_
    unfold ctf_Equal.f
    rw [show ctf_given.f k t a=_ from h1 k (by omega)]
    simp only [Option.bind_some]
    rw [show (e==0)=false from by simpa using he,tell_f (fun h=>by
      obtain ⟨i',j',hi',hj',h⟩:=h
      exact hno i' hi')]
    rfl
end Go.Proofs.YtfjppgobidjndaaDoor
namespace Go.Proofs.YtfjppgobidjndaaDoor
open Go.RowKit Go.M
section
variable {t u v:api_Types} {l m n:List Int}
theorem AlikeF.refl {k:Int} {f:api_Field}:AlikeF t t k f f:=⟨rfl,rfl,fun _=>rfl⟩
theorem AlikeF.symm {k:Int} {f g:api_Field} (h:AlikeF t u k f g):AlikeF u t k g f:=⟨h.1.symm,h.2.1.symm,fun e=>(h.2.2 e).symm⟩
theorem AlikeF.trans {k:Int} {f g e:api_Field} (h:AlikeF t u k f g) (h2:AlikeF u v k g e):AlikeF t v k f e:=⟨h.1.trans h2.1,h.2.1.trans h2.2.1,fun e=>(h.2.2 e).trans (h2.2.2 e)⟩
theorem AlikeS.refl {d:api_Def}:AlikeS t d t d:=⟨rfl,rfl,⟨rfl,rfl⟩,rfl,fun _=>rfl,rfl,fun _ _=> .refl⟩
theorem AlikeS.symm {d g:api_Def} (h:AlikeS t d u g):AlikeS u g t d:=
  ⟨h.kind.symm,h.name.symm,⟨h.int.1.symm,h.int.2.symm⟩,h.num.symm,fun e=>(h.ref (by rw [h.kind];exact e)).symm,h.len.symm,fun j hj=>by rw [←h.kind];exact (h.fld j (by rw [h.len];exact hj)).symm⟩
theorem AlikeS.trans {d g e:api_Def} (h:AlikeS t d u g) (h2:AlikeS u g v e):AlikeS t d v e:=
  ⟨h.kind.trans h2.kind,h.name.trans h2.name,⟨h.int.1.trans h2.int.1,h.int.2.trans h2.int.2⟩,h.num.trans h2.num,fun e=>(h.ref e).trans (h2.ref (by rw [←h.kind];exact e)),h.len.trans h2.len,
    fun j hj=>(h.fld j hj).trans (by have:=h2.fld j (by rw [←h.len];exact hj);rw [←h.kind] at this;exact this)⟩
def Match (t:api_Types) (d:api_Def) (u:api_Types) (g:api_Def):Prop:=
  (namedS d=true∧namedS g=true∧AlikeS t d u g)∨(d.vKind=2∧g.vKind=2∧tx t d.vRef.toNat=tx u g.vRef.toNat)∨(d.vKind=3∧g.vKind=3∧d.vN=g.vN∧tx t d.vRef.toNat=tx u g.vRef.toNat)
theorem Match.symm {d g:api_Def} (h:Match t d u g):Match u g t d:=by
  rcases h with ⟨a,b,c⟩|⟨a,b,c⟩|⟨a,b,c,d⟩
  · exact .inl ⟨b,a,c.symm⟩
  · exact .inr (.inl ⟨b,a,c.symm⟩)
  · exact .inr (.inr ⟨b,a,c.symm,d.symm⟩)
theorem Match.kind {d g:api_Def} (h:Match t d u g):d.vKind=g.vKind:=by
  rcases h with ⟨a,b,c⟩|⟨a,b,c⟩|⟨a,b,c,d⟩
  · exact c.kind
  · rw [a,b]
  · rw [a,b]
theorem Match.ref {d g:api_Def} (h:Match t d u g) (hk:d.vKind=2∨d.vKind=3∨d.vKind=6):tx t d.vRef.toNat=tx u g.vRef.toNat:=by
  rcases h with ⟨a,b,c⟩|⟨a,b,c⟩|⟨a,b,c,d⟩
  · exact c.ref hk
  · exact c
  · exact d
theorem Match.alike {d g:api_Def} (h:Match t d u g) (hn:namedS d=true):AlikeS t d u g:=by
  obtain ⟨h2,h3⟩:=(named_iff _).1 hn
  rcases h with ⟨a,b,c⟩|⟨a,b,c⟩|⟨a,b,c,d⟩
  · exact c
  · exact absurd a h2
  · exact absurd a h3
theorem Match.named {d g:api_Def} (h:Match t d u g) (hn:namedS d=true):namedS g=true:=by
  obtain ⟨h2,h3⟩:=(named_iff _).1 hn
  exact (named_iff _).2 ⟨by rw [←h.kind];exact h2,by rw [←h.kind];exact h3⟩
theorem Match.kid {d g:api_Def} (h:Match t d u g) {c:Int} (hc:c∈kids d):∃c'∈kids g,tx t c.toNat=tx u c'.toNat:=by
  by_cases hk:d.vKind=2∨d.vKind=3∨d.vKind=6
  · rw [kids_ref hk] at hc
    rw [List.mem_singleton.1 hc]
    exact ⟨g.vRef,by rw [kids_ref (by rw [←h.kind];exact hk)];exact List.mem_singleton.2 rfl,h.ref hk⟩
  · by_cases h4:d.vKind=4
    · have hA:=h.alike ((named_iff _).2 ⟨by omega,by omega⟩)
      rw [kids_struct h4] at hc
      obtain ⟨f,hf,rfl⟩:=List.mem_map.1 hc
      obtain ⟨j,hj,e⟩:=List.mem_iff_getElem.1 hf
      have hfj:fAt d j=f:=by unfold fAt;rw [List.getD_eq_getElem?_getD,List.getElem?_eq_getElem hj];exact e
      have hjg:j<g.vFields.length:=by rw [←hA.len];exact hj
      refine ⟨(fAt g j).vType,?_,?_⟩
      · rw [kids_struct (by rw [←h.kind];exact h4)]
        exact List.mem_map.2 ⟨fAt g j,getD_mem hjg,rfl⟩
      · rw [←hfj];exact (hA.fld j hj).2.2 h4
    · rw [kids_none hk h4] at hc;cases hc
theorem match_of (W:Wf t l) (V:Wf u m) {i k k':Nat} (hi:i<t.vDefs.length) (hc:∀k,Rch t i k→CondK t u k) (hr:Rch t i k) (hk':k'<u.vDefs.length) (he:tx t k=tx u k'):Match t (dAt t k) u (dAt u k'):=by
  have hk:=hr.lt W hi
  rcases tx_eq W V hk hk' he with ⟨a,b,c⟩|h|h
  · obtain ⟨j,hj,hn,hA⟩:=hc k hr a
    have:=name_uniq V hj hk' hn b (by rw [←hA.name,c])
    subst this
    exact .inl ⟨a,b,hA⟩
  · exact .inr (.inl h)
  · exact .inr (.inr h)
section
variable {i j:Nat}
theorem corr_f (W:Wf t l) (V:Wf u m) (hi:i<t.vDefs.length) (hj:j<u.vDefs.length) (E:EqS t i u j) {k:Nat} (h:Rch t i k):∃k',Rch u j k'∧tx t k=tx u k':=by
  induction h with
  |refl=>exact ⟨j, .refl,E.1⟩
  |step h hc ih=>
    obtain ⟨k',hr,he⟩:=ih
    obtain ⟨c',h1,h2⟩:=(match_of W V hi E.2 h (hr.lt V hj) he).kid hc
    exact ⟨c'.toNat, .step hr h1,h2⟩
theorem corr_b (W:Wf t l) (V:Wf u m) (hi:i<t.vDefs.length) (hj:j<u.vDefs.length) (E:EqS t i u j) {k':Nat} (h:Rch u j k'):∃k,Rch t i k∧tx t k=tx u k':=by
  induction h with
  |refl=>exact ⟨i, .refl,E.1⟩
  |step h hc ih=>
    obtain ⟨k,hr,he⟩:=ih
    obtain ⟨c',h1,h2⟩:=(match_of W V hi E.2 hr (h.lt V hj) he).symm.kid hc
    exact ⟨c'.toNat, .step hr h1,h2.symm⟩
theorem EqS.refl (W:Wf t l) (hi:i<t.vDefs.length):EqS t i t i:=⟨rfl,fun k hr hn=>⟨k,hr.lt W hi,hn, .refl⟩⟩
theorem EqS.symm (W:Wf t l) (V:Wf u m) (hi:i<t.vDefs.length) (hj:j<u.vDefs.length) (E:EqS t i u j):EqS u j t i:=by
  refine ⟨E.1.symm,fun k' hr' hn'=>?_⟩
  obtain ⟨k,hr,he⟩:=corr_b W V hi hj E hr'
  have M:=(match_of W V hi E.2 hr (hr'.lt V hj) he).symm
  exact ⟨k,hr.lt W hi,M.named hn',M.alike hn'⟩
theorem EqS.trans {q:Nat} (W:Wf t l) (V:Wf u m) (hi:i<t.vDefs.length) (hj:j<u.vDefs.length) (E:EqS t i u j) (F:EqS u j v q):EqS t i v q:=by
  refine ⟨E.1.trans F.1,fun k hr hn=>?_⟩
  obtain ⟨k',hr',he⟩:=corr_f W V hi hj E hr
  have M:=match_of W V hi E.2 hr (hr'.lt V hj) he
  obtain ⟨k2,h1,h2,h3⟩:=F.2 k' hr' (M.named hn)
  exact ⟨k2,h1,h2,(M.alike hn).trans h3⟩
theorem EqS.part {c c':Nat} (E:EqS t i u j) (hr:Rch t i c) (he:tx t c=tx u c'):EqS t c u c':=⟨he,fun k h=>E.2 k (hr.trans h)⟩
theorem cont_kids {d:api_Def} {c:Int} (h:c∈cont d):c∈kids d:=by
  rcases cont_kind h with e|e|e
  · rw [(inner_ref (known:=[]) (.inl e)).2] at h;rw [kids_ref (by omega)];exact h
  · rw [cont_struct e] at h;rw [kids_struct e];exact h
  · rw [(inner_ref (known:=[]) (.inr e)).2] at h;rw [kids_ref (by omega)];exact h
theorem size_eqP {S:Nat→Prop} (W:Wf t l) (V:Wf u m) (hS:∀k,S k→k<t.vDefs.length) (hSk:∀k,S k→∀c∈kids (dAt t k),S c.toNat) (hM:∀k k',S k→k'<u.vDefs.length→tx t k=tx u k'→Match t (dAt t k) u (dAt u k')):∀(k k':Nat),S k→k'<u.vDefs.length→tx t k=tx u k'→l.getD k 0=m.getD k' 0:=by
  obtain ⟨rk,hg⟩:=W.sz.ex
  obtain ⟨rk',hg'⟩:=V.sz.ex
  have key:∀(R k k':Nat),rk k=R→S k→k'<u.vDefs.length→tx t k=tx u k'→l.getD k 0=m.getD k' 0:=by
    intro R
    induction R using Nat.strongRecOn with
    |_ R ih=>
      intro k k' hR hr hk' he
      have hk:=hS k hr
      have M:=hM k k' hr hk' he
      obtain ⟨_,_,g3,g4⟩:=hg k hk
      obtain ⟨_,_,_,g4'⟩:=hg' k' hk'
      rw [g4,g4']
      show nval (dAt t k) (inner l (dAt t k))=nval (dAt u k') (inner m (dAt u k'))
      have href:(dAt t k).vKind=3∨(dAt t k).vKind=6→inner l (dAt t k)=inner m (dAt u k'):=fun h=>by
        obtain ⟨e1,e2⟩:=inner_ref (known:=l) h
        obtain ⟨e3,e4⟩:=inner_ref (d:=dAt u k') (known:=m) (by rw [←M.kind];exact h)
        rw [e1,e3]
        obtain ⟨r1,r2⟩:=ref_lt W hk (by omega)
        obtain ⟨r3,r4⟩:=ref_lt V hk' (by rw [←M.kind];omega)
        have hcm:(dAt t k).vRef∈cont (dAt t k):=by rw [e2];exact List.mem_singleton.2 rfl
        exact ih _ (by have:=g3 _ hcm;omega) (dAt t k).vRef.toNat (dAt u k').vRef.toNat rfl (hSk k hr _ (cont_kids hcm)) r4 (M.ref (by omega))
      have hkind:=M.kind
      unfold nval
      rw [←hkind]
      by_cases e1:(dAt t k).vKind=1
      · rw [if_pos e1,if_pos e1];exact (M.alike ((named_iff _).2 ⟨by omega,by omega⟩)).int.1
      · rw [if_neg e1,if_neg e1]
        by_cases e2:(dAt t k).vKind=2
        · rw [if_pos e2,if_pos e2]
        · rw [if_neg e2,if_neg e2]
          by_cases e3:(dAt t k).vKind=3
          · rw [if_pos e3,if_pos e3,href (.inl e3)]
            rcases M with ⟨a,b,c⟩|⟨a,b,c⟩|⟨a,b,c,d⟩
            · rw [c.num]
            · omega
            · rw [c]
          · rw [if_neg e3,if_neg e3]
            by_cases e4:(dAt t k).vKind=4
            · rw [if_pos e4,if_pos e4];exact (M.alike ((named_iff _).2 ⟨by omega,by omega⟩)).num
            · rw [if_neg e4,if_neg e4]
              by_cases e5:(dAt t k).vKind=5
              · rw [if_pos e5,if_pos e5]
              · rw [if_neg e5,if_neg e5]
                by_cases e6:(dAt t k).vKind=6
                · rw [if_pos e6,if_pos e6,href (.inr e6)]
                · rw [if_neg e6,if_neg e6]
  exact fun k k'=>key (rk k) k k' rfl
theorem size_eq (W:Wf t l) (V:Wf u m) (hi:i<t.vDefs.length) (hc:∀k,Rch t i k→CondK t u k):∀(k k':Nat),Rch t i k→k'<u.vDefs.length→tx t k=tx u k'→l.getD k 0=m.getD k' 0:=
  size_eqP (S:=Rch t i) W V (fun k h=>h.lt W hi) (fun k h c hc=> .step h hc) (fun k k' h hk' he=>match_of W V hi hc h hk' he)
theorem res_corr (W:Wf t l) (V:Wf u m) (hi:i<t.vDefs.length) (hj:j<u.vDefs.length) (hc:∀k,Rch t i k→CondK t u k) {k k':Nat} (hr:Rch t i k) (hr':Rch u j k') (he:tx t k=tx u k'):
    ∃r r',Ev (fun n=>ctf_resolved.f n t (k:Int)) ((r:Nat):Int)∧Ev (fun n=>ctf_resolved.f n u (k':Int)) ((r':Nat):Int)∧Rch t i r∧Rch u j r'∧tx t r=tx u r':=by
  obtain ⟨rk,hg⟩:=W.sz.ex
  have key:∀(R k k':Nat),rk k=R→Rch t i k→Rch u j k'→tx t k=tx u k'→∃r r',Ev (fun n=>ctf_resolved.f n t (k:Int)) ((r:Nat):Int)∧Ev (fun n=>ctf_resolved.f n u (k':Int)) ((r':Nat):Int)∧Rch t i r∧Rch u j r'∧tx t r=tx u r':=by
    have stay:∀{t:api_Types} {k:Nat},k<t.vDefs.length→(dAt t k).vKind≠6→Ev (fun n=>ctf_resolved.f n t (k:Int)) ((k:Nat):Int):=fun {t k} hk h6=>Ev.succ (Ev.pure fun n=>by
      unfold ctf_resolved.f
      rw [ctf_resolved.l0,if_pos (by omega),rd_dAt,if_neg (beqF h6)]
      rfl)
    have go:∀{t:api_Types} {k r q:Nat},k<t.vDefs.length→(dAt t k).vKind=6→(dAt t k).vRef=((q:Nat):Int)→Ev (fun n=>ctf_resolved.f n t (q:Int)) ((r:Nat):Int)→Ev (fun n=>ctf_resolved.f n t (k:Int)) ((r:Nat):Int):=fun {t k r q} hk h6 hq h=>by
      obtain ⟨K,hK⟩:=h
      refine ⟨K+1,fun n hn=>?_⟩
      obtain ⟨n,rfl⟩:∃x,n=x+1:=⟨n-1,by omega⟩
      have:=hK n (by omega)
      show ctf_resolved.f (n+1) t (k:Int)=_
      unfold ctf_resolved.f
      rw [ctf_resolved.l0,if_pos (by omega),rd_dAt,if_pos (beqT h6),if_pos (by omega),hq]
      exact this
    intro R
    induction R using Nat.strongRecOn with
    |_ R ih=>
      intro k k' hR hr hr' he
      have hk:=hr.lt W hi
      have hk':=hr'.lt V hj
      have M:=match_of W V hi hc hr hk' he
      by_cases h6:(dAt t k).vKind=6
      · have h6':(dAt u k').vKind=6:=by rw [←M.kind];exact h6
        obtain ⟨r1,r2⟩:=ref_lt W hk (by omega)
        obtain ⟨r3,r4⟩:=ref_lt V hk' (by omega)
        have hcm:(dAt t k).vRef∈cont (dAt t k):=by rw [(inner_ref (known:=[]) (.inr h6)).2];exact List.mem_singleton.2 rfl
        have hcm':(dAt u k').vRef∈cont (dAt u k'):=by rw [(inner_ref (known:=[]) (.inr h6')).2];exact List.mem_singleton.2 rfl
        obtain ⟨r,r',a,b,c,d,e⟩:=ih _ (by have:=(hg k hk).2.2.1 _ hcm;omega) (dAt t k).vRef.toNat (dAt u k').vRef.toNat rfl (.step hr (cont_kids hcm)) (.step hr' (cont_kids hcm')) (M.ref (by omega))
        exact ⟨r,r',go hk h6 r1 a,go hk' h6' r3 b,c,d,e⟩
      · exact ⟨k,k',stay hk h6,stay hk' (by rw [←M.kind];exact h6),hr,hr',he⟩
  exact key (rk k) k k' rfl hr hr' he
theorem find_both {p:api_Field→Bool}:∀(a b:List api_Field),a.length=b.length→(∀j,j<a.length→p (a.getD j z_api_Field)=p (b.getD j z_api_Field))→
    (a.find? p=none∧b.find? p=none)∨∃j,j<a.length∧a.find? p=some (a.getD j z_api_Field)∧b.find? p=some (b.getD j z_api_Field)
  |[],[],_,_=> .inl ⟨rfl,rfl⟩
  |[],_::_,h,_=>by simp at h
  |_::_,[],h,_=>by simp at h
  |x::a,y::b,h,hp=>by
    have h0:=hp 0 (by simp)
    rw [List.getD_cons_zero,List.getD_cons_zero] at h0
    rw [List.find?_cons,List.find?_cons,←h0]
    cases hx:p x with
    |true=>exact .inr ⟨0,by simp,rfl,rfl⟩
    |false=>
      rcases find_both a b (by simpa using h) (fun j hj=>by simpa using hp (j+1) (by simpa using hj)) with ⟨h1,h2⟩|⟨j,h1,h2,h3⟩
      · exact .inl ⟨h1,h2⟩
      · exact .inr ⟨j+1,by simpa using h1,by simpa using h2,by simpa using h3⟩
theorem mem_corr (W:Wf t l) (V:Wf u m) (hi:i<t.vDefs.length) (hj:j<u.vDefs.length) (hc:∀k,Rch t i k→CondK t u k) {mt mu:Nat→ByteArray→api_Field×Int} (hmt:MemOk t mt) (hmu:MemOk u mu) {k k':Nat} (hr:Rch t i k) (hr':Rch u j k') (he:tx t k=tx u k') (name:ByteArray):
    (mt k name).2=(mu k' name).2∧((mt k name).2=0→(mt k name).1.vAt=(mu k' name).1.vAt∧Rch t i (mt k name).1.vType.toNat∧Rch u j (mu k' name).1.vType.toNat∧tx t (mt k name).1.vType.toNat=tx u (mu k' name).1.vType.toNat):=by
  obtain ⟨r,r',h1,h2,h3,h4,h5⟩:=res_corr W V hi hj hc hr hr' he
  have hrl:=h3.lt W hi
  have hrl':=h4.lt V hj
  rw [(hmt.ev k name (hr.lt W hi)).uniq (member_ev W.good hrl h1),(hmu.ev k' name (hr'.lt V hj)).uniq (member_ev V.good hrl' h2)]
  have M:=match_of W V hi hc h3 hrl' h5
  show (memS (dAt t r) name).2=(memS (dAt u r') name).2∧((memS (dAt t r) name).2=0→(memS (dAt t r) name).1.vAt=(memS (dAt u r') name).1.vAt∧Rch t i (memS (dAt t r) name).1.vType.toNat∧Rch u j (memS (dAt u r') name).1.vType.toNat∧tx t (memS (dAt t r) name).1.vType.toNat=tx u (memS (dAt u r') name).1.vType.toNat)
  unfold memS
  by_cases k4:(dAt t r).vKind=4
  · have k4':(dAt u r').vKind=4:=by rw [←M.kind];exact k4
    have hA:=M.alike ((named_iff _).2 ⟨by omega,by omega⟩)
    rw [if_neg (fun h=>h k4),if_neg (fun h=>h k4')]
    rcases find_both (p:=fun f=>strEq f.vName name) (dAt t r).vFields (dAt u r').vFields hA.len (fun x hx=>by
      have:=(hA.fld x hx).1
      unfold fAt at this
      show strEq _ name=strEq _ name
      rw [this]) with ⟨a,b⟩|⟨x,hx,a,b⟩
    · rw [a,b];exact ⟨rfl,fun h=>by cases h⟩
    · rw [a,b]
      have hF:=hA.fld x hx
      refine ⟨rfl,fun _=>⟨hF.2.1,?_,?_,hF.2.2 k4⟩⟩
      · exact .step (c:=(fAt (dAt t r) x).vType) h3 (by rw [kids_struct k4];exact List.mem_map.2 ⟨_,getD_mem hx,rfl⟩)
      · exact .step (c:=(fAt (dAt u r') x).vType) h4 (by rw [kids_struct k4'];exact List.mem_map.2 ⟨_,getD_mem (by rw [←hA.len];exact hx),rfl⟩)
  · have k4':(dAt u r').vKind≠4:=by rw [←M.kind];exact k4
    rw [if_pos k4,if_pos k4']
    exact ⟨rfl,fun h=>by cases h⟩
theorem path_corr (W:Wf t l) (V:Wf u m) (hi:i<t.vDefs.length) (hj:j<u.vDefs.length) (hc:∀k,Rch t i k→CondK t u k) {mt mu:Nat→ByteArray→api_Field×Int} (hmt:MemOk t mt) (hmu:MemOk u mu):∀(p:List ByteArray) (k k':Nat) (a:Int),Rch t i k→Rch u j k'→tx t k=tx u k'→
    (pathV mt p k a).2.2=(pathV mu p k' a).2.2∧(pathV mt p k a).2.1=(pathV mu p k' a).2.1∧((pathV mt p k a).2.2=0→∃c c',(pathV mt p k a).1=((c:Nat):Int)∧(pathV mu p k' a).1=((c':Nat):Int)∧Rch t i c∧Rch u j c'∧tx t c=tx u c')
  |[],k,k',a,hr,hr',he=>⟨rfl,rfl,fun _=>⟨k,k',rfl,rfl,hr,hr',he⟩⟩
  |x::p,k,k',a,hr,hr',he=>by
    obtain ⟨h1,h2⟩:=mem_corr W V hi hj hc hmt hmu hr hr' he x
    simp only [pathV]
    by_cases h0:(mt k x).2=0
    · obtain ⟨h3,h4,h5,h6⟩:=h2 h0
      rw [if_neg (fun h=>h h0),if_neg (fun h=>h (by rw [←h1];exact h0)),←h3]
      exact path_corr W V hi hj hc hmt hmu p _ _ _ h4 h5 h6
    · rw [if_pos h0,if_pos (by rw [←h1];exact h0),←h1]
      exact ⟨rfl,rfl,fun h=>absurd h h0⟩
end
theorem Text_ok (W:Wf t l) (hv:Ev (fun k=>ctf_valid.f k t) true) {i:Nat} (hi:i<t.vDefs.length):Ev (fun k=>ctf_Text.f k t (i:Int)) (tx t i,0):=by
  obtain ⟨K,hK⟩:=given_in hv hi
  obtain ⟨⟨K2,hK2⟩,_⟩:=text_ev W hi
  refine ⟨K+K2,fun k hk=>?_⟩
  show ctf_Text.f k t (i:Int)=_
  unfold ctf_Text.f
  rw [show ctf_given.f k t (i:Int)=_ from hK k (by omega)]
  simp only [Option.bind_some]
  rw [if_neg (by decide),show ctf_text.f k t (i:Int)=_ from hK2 k (by omega)]
  rfl
theorem Path_long (hv:Ev (fun k=>ctf_valid.f k t) true) {i:Nat} (hi:i<t.vDefs.length) {p:List ByteArray} (hp:¬p.length≤16):Ev (fun k=>ctf_Path.f k t (i:Int) p) (0,0,2):=by
  obtain ⟨K,hK⟩:=given_in hv hi
  refine ⟨K,fun k hk=>?_⟩
  show ctf_Path.f k t (i:Int) p=_
  unfold ctf_Path.f
  rw [show ctf_given.f k t (i:Int)=_ from hK k hk]
  simp only [Option.bind_some]
  rw [if_neg (by decide),if_pos (decide_eq_true (by omega))]
theorem EqX.in_ (hF:∀d∈t.vDefs,FitD d) (hG:∀d∈u.vDefs,FitD d) {a b:Int} (h:EqX t a u b):∃i j l m,a=((i:Nat):Int)∧b=((j:Nat):Int)∧i<t.vDefs.length∧j<u.vDefs.length∧Wf t l∧Wf u m∧Ev (fun k=>ctf_valid.f k t) true∧Ev (fun k=>ctf_valid.f k u) true∧EqS t i u j:=by
  obtain ⟨i,j,⟨rfl,hi,l,W⟩,⟨rfl,hj,m,V⟩,E⟩:=h
  exact ⟨i,j,l,m,rfl,rfl,hi,hj,W,V,valid_wf hF W,valid_wf hG V,E⟩
theorem EqX.symm {a b:Int} (h:EqX t a u b):EqX u b t a:=by
  obtain ⟨i,j,⟨rfl,hi,l,W⟩,⟨rfl,hj,m,V⟩,E⟩:=h
  exact ⟨j,i,⟨rfl,hj,m,V⟩,⟨rfl,hi,l,W⟩,E.symm W V hi hj⟩
theorem EqX.trans {a b c:Int} (h:EqX t a u b) (g:EqX u b v c):EqX t a v c:=by
  obtain ⟨i,j,⟨rfl,hi,l,W⟩,⟨rfl,hj,m,V⟩,E⟩:=h
  obtain ⟨j',q,⟨e,_,_⟩,hq,F⟩:=g
  have e:j=j':=Int.ofNat.inj e
  subst e
  exact ⟨i,q,⟨rfl,hi,l,W⟩,hq,E.trans W V hi hj F⟩
end
end Go.Proofs.YtfjppgobidjndaaDoor
namespace Go.M
open Go.RowKit
section
variable {P:Program} {ρ:Operand→Value} {w:World} {dst:Option Tmp} {ty:TypeId} {pos:String} {after:Array Edge} {guard:Option (Nat×Bool)}
theorem r_indexBox {t e:TypeId} {x y:Operand} {b o o' len n:Nat} {k:IntKind} {i:Int} (hx:ρ x= .pointer (some ⟨b,o,none⟩)) (hy:ρ y= .int k i) (hu:∀w,(underlying t).run P w= .ok (.array len e) w)
    (hs:∀w,(sizeOf e).run P w= .ok n w) (h0:0≤i) (h1:i<len) (ho:o+i.toNat*n=o'):
    (execOp ρ ⟨dst, .indexAddr t x y,ty,pos,after,guard⟩).run P w= .ok (.value (.pointer (some ⟨b,o',none⟩))) w:=by
  subst ho
  have ha:(Instr.sureAddr (.pointer (some ⟨b,o,none⟩))).run P w= .ok ⟨b,o,none⟩ w:=rfl
  have hz:(⟨b,o,none⟩:Addr).add (i.toNat*n)=⟨b,o+i.toNat*n,none⟩:=by
    unfold Addr.add
    by_cases h:i.toNat*n=0<;>simp [h]
  simp [execOp,Instr.indexAt,asIntOf,hx,hy,hu,ha,hs,h0,h1,hz]
end
end Go.M
namespace Go.Proofs.YtfjppgobidjndaaDoor
open Go.RowKit Go.M
def taplinelaw08_CtfEquals.f (k:Nat) (a0:taplinelaw08_Three) (a1:arr3_Int) (a2:List ByteArray):Option (Bool):=(taplinelaw08_sane.f k).bind fun v1=>((ctf_Size.f k a0.vT a1.ve0).bind fun v2=>((ctf_Equal.f k a0.vT a1.ve0 a0.vT a1.ve0).bind fun v3=>((if (true&&((v3 !=(v2.2==0))==false))=true then ctf_Equal.f k a0.vT a1.ve0 a0.vU a1.ve1 else some false).bind fun v4=>((if (true&&((v3 !=(v2.2==0))==false))=true then ctf_Equal.f k a0.vU a1.ve1 a0.vT a1.ve0 else some false).bind fun v5=>(if ((v3 !=(v2.2==0))||(v4 !=v5))=true then (some false) else ((ctf_Equal.f k a0.vT a1.ve0 a0.vU a1.ve1).bind fun v6=>(if (!v6)=true then (some v1) else ((ctf_Equal.f k a0.vU a1.ve1 a0.vV a1.ve2).bind fun v7=>((if (true&&(v7==true))=true then ctf_Equal.f k a0.vT a1.ve0 a0.vV a1.ve2 else some false).bind fun v8=>(if (v7&&(!v8))=true then (some false) else ((ctf_Size.f k a0.vT a1.ve0).bind fun v9=>((ctf_Size.f k a0.vU a1.ve1).bind fun v10=>((ctf_Text.f k a0.vT a1.ve0).bind fun v11=>((ctf_Text.f k a0.vU a1.ve1).bind fun v12=>(if ((((((v9.2 !=0)||(v10.2 !=0))||(v11.2 !=0))||(v12.2 !=0))||(v9.1 !=v10.1))||(!(strEq v11.1 v12.1)))=true then (some false) else ((ctf_Path.f k a0.vT a1.ve0 a2).bind fun v13=>((ctf_Path.f k a0.vU a1.ve1 a2).bind fun v14=>((if ((true&&(((v1&&(v13.2.2==v14.2.2))&&(v13.2.1==v14.2.1))==true))&&((v13.2.2 !=0)==false))=true then ctf_Equal.f k a0.vT v13.1 a0.vU v14.1 else some false).bind fun v15=>(some (((v1&&(v13.2.2==v14.2.2))&&(v13.2.1==v14.2.1))&&((v13.2.2 !=0)||v15)))))))))))))))))))))
set_option maxRecDepth 20000 in
set_option maxHeartbeats 4000000 in
theorem taplinelaw08_CtfEquals.calls (k:Nat) (a0:taplinelaw08_Three) (a1:arr3_Int) (a2:List ByteArray) (A0_0:Option Addr) (c0_0:Nat) (A0_1:Option Addr) (c0_1:Nat) (A0_2:Option Addr) (c0_2:Nat) (A2_0:Option Addr) (c2_0:Nat) {h0:View} {w0:World} (hv:Sees h0 w0) (ht:Tab w0) (hr0_0:Rd k_api_Def h0 A0_0 a0.vT.vDefs) (hc0_0:a0.vT.vDefs.length≤c0_0) (hr0_1:Rd k_api_Def h0 A0_1 a0.vU.vDefs) (hc0_1:a0.vU.vDefs.length≤c0_1) (hr0_2:Rd k_api_Def h0 A0_2 a0.vV.vDefs) (hc0_2:a0.vV.vDefs.length≤c0_2) (hr2_0:Rd Kd.str h0 A2_0 a2) (hc2_0:a2.length≤c2_0) {r:Bool} (H:taplinelaw08_CtfEquals.f k a0 a1 a2=some r):Calls Tryd.prog 6 #[Value.agg #[vL A0_0 a0.vT.vDefs.length c0_0,vL A0_1 a0.vU.vDefs.length c0_1,vL A0_2 a0.vV.vDefs.length c0_2],Value.agg #[vI a1.ve0,vI a1.ve1,vI a1.ve2],vL A2_0 a2.length c2_0] w0 (fun e w1=>e= .returned (vB r)∧Ext w0 w1):=by
 unfold taplinelaw08_CtfEquals.f at H
 have HS:St [] h0 w0 h0 [] w0:=St.init hv
 go_enter Tryd.func6,Tryd.ntmps6
 refine wp_seq ?_
 refine region ?_
 refine run_ex rfl rfl (does_box (cs:=#[vL A0_0 a0.vT.vDefs.length c0_0,vL A0_1 a0.vU.vDefs.length c0_1,vL A0_2 a0.vV.vDefs.length c0_2]) rfl rfl) ?_
 rintro w1 _ hE1 ⟨b1,rfl,ge1,hb1⟩
 have HS1:=HS.new hE1 ge1 hb1
 refine run_ex rfl rfl (does_box (cs:=#[vI a1.ve0,vI a1.ve1,vI a1.ve2]) rfl rfl) ?_
 rintro w2 _ hE2 ⟨b2,rfl,ge2,hb2⟩
 have HS2:=HS1.new hE2 ge2 hb2
 refine rs (vB false) (r_assign rfl) ?_
 try simp only [sc0,sc1]
 refine run_nil ?_
 refine norm_then ?_
 refine wp_seq ?_
 refine region ?_
 obtain ⟨v1,H1,H⟩:=of_bind H
 refine run_eq (v:=vB v1) rfl rfl (does_call_eq Tryd.call13 rfl rfl (taplinelaw08_sane.calls k HS2.sees (ht.s HS2) H1)) ?_
 intro w3 hE3
 have HS3:=HS2.step hE3
 refine rs (vB v1) (r_assign rfl) ?_
 try simp only [sc0,sc1]
 refine run_nil ?_
 refine norm_then ?_
 refine wp_seq ?_
 refine region ?_
 refine rs (vP b1 0) (r_fieldBox (n:=1) (o':=0) rfl Tryd.runUnderlying70 rfl Tryd.sizeOf24 (by decide) rfl) ?_
 refine rs (Value.agg #[vL A0_0 a0.vT.vDefs.length c0_0]) (r_loadBoxAgg (n:=1) (vs:=[vL A0_0 a0.vT.vDefs.length c0_0]) rfl Tryd.isAgg24 (HS3.look 1 rfl) Tryd.sizeOf24 rfl rfl) ?_
 refine rs (vP b2 0) (r_indexBox (o':=0) rfl rfl Tryd.runUnderlying71 Tryd.sizeOf3 (by decide) (by decide) rfl) ?_
 refine rs (vI a1.ve0) (r_loadBox rfl Tryd.isAgg3 (HS3.look 0 rfl) rfl) ?_
 refine run_frame (by simp only [sc0,sc1];rfl) ?_
 obtain ⟨v2,H2,H⟩:=of_bind H
 refine run_eq (v:=Value.tuple #[vI v2.1,vI v2.2]) rfl rfl (does_call_eq Tryd.call14 rfl rfl (ctf_Size.calls k a0.vT a1.ve0 A0_0 c0_0 HS3.sees hr0_0 hc0_0 H2)) ?_
 intro w4 hE4
 have HS4:=HS3.step hE4
 refine rs (Value.tuple #[vI v2.1,vI v2.2]) (r_move rfl) ?_
 refine rs (vI v2.1) (r_extract rfl rfl) ?_
 refine rs (vI v2.2) (r_extract rfl rfl) ?_
 refine run_frame (by simp only [sc0,sc1];rfl) ?_
 refine rs (vI v2.1) (r_assign rfl) ?_
 refine rs (vI v2.2) (r_assign rfl) ?_
 try simp only [sc0,sc1]
 refine run_nil ?_
 refine norm_then ?_
 refine wp_seq ?_
 refine wp_seq ?_
 obtain ⟨v3,H3,H⟩:=of_bind H
 obtain ⟨v4,H4,H⟩:=of_bind H
 obtain ⟨v5,H5,H⟩:=of_bind H
 refine drawn [.eq (vP b1 0), .eq (Value.agg #[vL A0_0 a0.vT.vDefs.length c0_0]), .eq (vP b2 0), .eq (vI a1.ve0), .eq (vP b1 0), .eq (Value.agg #[vL A0_0 a0.vT.vDefs.length c0_0]), .eq (vP b2 0), .eq (vI a1.ve0), .eq (vB v3), .eq (vI v2.2), .eq (vB (v2.2==0)), .eq (vB (v3 !=(v2.2==0))), .eq (vB (v3 !=(v2.2==0))), .eq (gv (true&&((v3 !=(v2.2==0))==false)) (vP b1 0)), .eq (gv (true&&((v3 !=(v2.2==0))==false)) (Value.agg #[vL A0_0 a0.vT.vDefs.length c0_0])), .eq (gv (true&&((v3 !=(v2.2==0))==false)) (vP b2 0)), .eq (gv (true&&((v3 !=(v2.2==0))==false)) (vI a1.ve0)), .eq (gv (true&&((v3 !=(v2.2==0))==false)) (vP b1 1)), .eq (gv (true&&((v3 !=(v2.2==0))==false)) (Value.agg #[vL A0_1 a0.vU.vDefs.length c0_1])), .eq (gv (true&&((v3 !=(v2.2==0))==false)) (vP b2 1)), .eq (gv (true&&((v3 !=(v2.2==0))==false)) (vI a1.ve1)), .eq (gv (true&&((v3 !=(v2.2==0))==false)) (vB v4)), .eq (gv (true&&((v3 !=(v2.2==0))==false)) (vP b1 1)), .eq (gv (true&&((v3 !=(v2.2==0))==false)) (Value.agg #[vL A0_1 a0.vU.vDefs.length c0_1])), .eq (gv (true&&((v3 !=(v2.2==0))==false)) (vP b2 1)), .eq (gv (true&&((v3 !=(v2.2==0))==false)) (vI a1.ve1)), .eq (gv (true&&((v3 !=(v2.2==0))==false)) (vP b1 0)), .eq (gv (true&&((v3 !=(v2.2==0))==false)) (Value.agg #[vL A0_0 a0.vT.vDefs.length c0_0])), .eq (gv (true&&((v3 !=(v2.2==0))==false)) (vP b2 0)), .eq (gv (true&&((v3 !=(v2.2==0))==false)) (vI a1.ve0)), .eq (gv (true&&((v3 !=(v2.2==0))==false)) (vB v5)), .eq (gv (true&&((v3 !=(v2.2==0))==false)) (vB (v4 !=v5))), .eq (vB ((v3 !=(v2.2==0))||(v4 !=v5)))] [33,34,35,36,37,38,39,40,41,42,43,44,45,46,47,48,49,50,51,52,53,54,55,56,57,58,59,60,61,62,63,64,65] hmix (by kernel_rfl) rfl (stable_eq (stable_eq (stable_eq (stable_eq (stable_eq (stable_eq (stable_eq (stable_eq (stable_eq (stable_eq (stable_eq (stable_eq (stable_eq (stable_eq (stable_eq (stable_eq (stable_eq (stable_eq (stable_eq (stable_eq (stable_eq (stable_eq (stable_eq (stable_eq (stable_eq (stable_eq (stable_eq (stable_eq (stable_eq (stable_eq (stable_eq (stable_eq (stable_eq stable_nil))))))))))))))))))))))))))))))))) ⟨ob_plain rfl (fun a' w' hE hk=>by have HSd:=HS4.step hE;exact does_eq (r_fieldBox (n:=1) (o':=0) (show _=vP b1 0 from hk 3 rfl) Tryd.runUnderlying70 rfl Tryd.sizeOf24 (by decide) rfl)),ob_plain rfl (fun a' w' hE hk=>by have HSd:=HS4.step hE;exact does_eq (r_loadBoxAgg (n:=1) (vs:=[vL A0_0 a0.vT.vDefs.length c0_0]) (show _=vP b1 0 from hk 33 rfl) Tryd.isAgg24 (HSd.look 1 rfl) Tryd.sizeOf24 rfl rfl)),ob_plain rfl (fun a' w' hE hk=>by have HSd:=HS4.step hE;exact does_eq (r_indexBox (o':=0) (show _=vP b2 0 from hk 4 rfl) rfl Tryd.runUnderlying71 Tryd.sizeOf3 (by decide) (by decide) rfl)),ob_plain rfl (fun a' w' hE hk=>by have HSd:=HS4.step hE;exact does_eq (r_loadBox (show _=vP b2 0 from hk 35 rfl) Tryd.isAgg3 (HSd.look 0 rfl) rfl)),ob_plain rfl (fun a' w' hE hk=>by have HSd:=HS4.step hE;exact does_eq (r_fieldBox (n:=1) (o':=0) (show _=vP b1 0 from hk 3 rfl) Tryd.runUnderlying70 rfl Tryd.sizeOf24 (by decide) rfl)),ob_plain rfl (fun a' w' hE hk=>by have HSd:=HS4.step hE;exact does_eq (r_loadBoxAgg (n:=1) (vs:=[vL A0_0 a0.vT.vDefs.length c0_0]) (show _=vP b1 0 from hk 37 rfl) Tryd.isAgg24 (HSd.look 1 rfl) Tryd.sizeOf24 rfl rfl)),ob_plain rfl (fun a' w' hE hk=>by have HSd:=HS4.step hE;exact does_eq (r_indexBox (o':=0) (show _=vP b2 0 from hk 4 rfl) rfl Tryd.runUnderlying71 Tryd.sizeOf3 (by decide) (by decide) rfl)),ob_plain rfl (fun a' w' hE hk=>by have HSd:=HS4.step hE;exact does_eq (r_loadBox (show _=vP b2 0 from hk 39 rfl) Tryd.isAgg3 (HSd.look 0 rfl) rfl)),ob_plain rfl (fun a' w' hE hk=>by have HSd:=HS4.step hE;exact (does_call_eq Tryd.call29 rfl (map4 (show _=Value.agg #[vL A0_0 a0.vT.vDefs.length c0_0] from hk 34 rfl) (show _=vI a1.ve0 from hk 36 rfl) (show _=Value.agg #[vL A0_0 a0.vT.vDefs.length c0_0] from hk 38 rfl) (show _=vI a1.ve0 from hk 40 rfl)) (ctf_Equal.calls k a0.vT a1.ve0 a0.vT a1.ve0 A0_0 c0_0 A0_0 c0_0 HSd.sees (ht.s HSd) hr0_0 hc0_0 hr0_0 hc0_0 H3))),ob_plain rfl (fun a' w' hE hk=>by have HSd:=HS4.step hE;exact does_eq (r_move (show _=vI v2.2 from hk 9 rfl))),ob_plain rfl (fun a' w' hE hk=>by have HSd:=HS4.step hE;exact does_eq (r_bin (show _=vI v2.2 from hk 42 rfl) rfl rfl)),ob_plain rfl (fun a' w' hE hk=>by have HSd:=HS4.step hE;exact does_eq (r_boolneq (show _=vB v3 from hk 41 rfl) (show _=vB (v2.2==0) from hk 43 rfl) Tryd.runUnderlying4)),ob_plain rfl (fun a' w' hE hk=>by have HSd:=HS4.step hE;exact does_eq (r_move (show _=vB (v3 !=(v2.2==0)) from hk 44 rfl))),ob_guard (b:=(v3 !=(v2.2==0))) (c:=true) rfl rfl (by decide) (fun w' u hu=>by exact hu) (fun a' w' hE hk hg=>by have HSd:=HS4.step hE;exact does_eq (r_fieldBox (n:=1) (o':=0) (show _=vP b1 0 from hk 3 rfl) Tryd.runUnderlying70 rfl Tryd.sizeOf24 (by decide) rfl)),ob_guard (b:=(v3 !=(v2.2==0))) (c:=true) rfl rfl (by decide) (fun w' u hu=>by exact hu) (fun a' w' hE hk hg=>by have HSd:=HS4.step hE;exact does_eq (r_loadBoxAgg (n:=1) (vs:=[vL A0_0 a0.vT.vDefs.length c0_0]) ((show _=gv (true&&((v3 !=(v2.2==0))==false)) (vP b1 0) from (show _=gv (true&&((v3 !=(v2.2==0))==false)) (vP b1 0) from hk 46 rfl)).trans (gv_t hg)) Tryd.isAgg24 (HSd.look 1 rfl) Tryd.sizeOf24 rfl rfl)),ob_guard (b:=(v3 !=(v2.2==0))) (c:=true) rfl rfl (by decide) (fun w' u hu=>by exact hu) (fun a' w' hE hk hg=>by have HSd:=HS4.step hE;exact does_eq (r_indexBox (o':=0) (show _=vP b2 0 from hk 4 rfl) rfl Tryd.runUnderlying71 Tryd.sizeOf3 (by decide) (by decide) rfl)),ob_guard (b:=(v3 !=(v2.2==0))) (c:=true) rfl rfl (by decide) (fun w' u hu=>by exact hu) (fun a' w' hE hk hg=>by have HSd:=HS4.step hE;exact does_eq (r_loadBox ((show _=gv (true&&((v3 !=(v2.2==0))==false)) (vP b2 0) from (show _=gv (true&&((v3 !=(v2.2==0))==false)) (vP b2 0) from hk 48 rfl)).trans (gv_t hg)) Tryd.isAgg3 (HSd.look 0 rfl) rfl)),ob_guard (b:=(v3 !=(v2.2==0))) (c:=true) rfl rfl (by decide) (fun w' u hu=>by exact hu) (fun a' w' hE hk hg=>by have HSd:=HS4.step hE;exact does_eq (r_fieldBox (n:=1) (o':=1) (show _=vP b1 0 from hk 3 rfl) Tryd.runUnderlying70 rfl Tryd.sizeOf24 (by decide) rfl)),ob_guard (b:=(v3 !=(v2.2==0))) (c:=true) rfl rfl (by decide) (fun w' u hu=>by exact hu) (fun a' w' hE hk hg=>by have HSd:=HS4.step hE;exact does_eq (r_loadBoxAgg (n:=1) (vs:=[vL A0_1 a0.vU.vDefs.length c0_1]) ((show _=gv (true&&((v3 !=(v2.2==0))==false)) (vP b1 1) from (show _=gv (true&&((v3 !=(v2.2==0))==false)) (vP b1 1) from hk 50 rfl)).trans (gv_t hg)) Tryd.isAgg24 (HSd.look 1 rfl) Tryd.sizeOf24 rfl rfl)),ob_guard (b:=(v3 !=(v2.2==0))) (c:=true) rfl rfl (by decide) (fun w' u hu=>by exact hu) (fun a' w' hE hk hg=>by have HSd:=HS4.step hE;exact does_eq (r_indexBox (o':=1) (show _=vP b2 0 from hk 4 rfl) rfl Tryd.runUnderlying71 Tryd.sizeOf3 (by decide) (by decide) rfl)),ob_guard (b:=(v3 !=(v2.2==0))) (c:=true) rfl rfl (by decide) (fun w' u hu=>by exact hu) (fun a' w' hE hk hg=>by have HSd:=HS4.step hE;exact does_eq (r_loadBox ((show _=gv (true&&((v3 !=(v2.2==0))==false)) (vP b2 1) from (show _=gv (true&&((v3 !=(v2.2==0))==false)) (vP b2 1) from hk 52 rfl)).trans (gv_t hg)) Tryd.isAgg3 (HSd.look 0 rfl) rfl)),ob_guard (b:=(v3 !=(v2.2==0))) (c:=true) rfl rfl (by decide) (fun w' u hu=>by exact hu) (fun a' w' hE hk hg=>by have HSd:=HS4.step hE;exact (does_call_eq Tryd.call29 rfl (map4 ((show _=gv (true&&((v3 !=(v2.2==0))==false)) (Value.agg #[vL A0_0 a0.vT.vDefs.length c0_0]) from (show _=gv (true&&((v3 !=(v2.2==0))==false)) (Value.agg #[vL A0_0 a0.vT.vDefs.length c0_0]) from hk 47 rfl)).trans (gv_t hg)) ((show _=gv (true&&((v3 !=(v2.2==0))==false)) (vI a1.ve0) from (show _=gv (true&&((v3 !=(v2.2==0))==false)) (vI a1.ve0) from hk 49 rfl)).trans (gv_t hg)) ((show _=gv (true&&((v3 !=(v2.2==0))==false)) (Value.agg #[vL A0_1 a0.vU.vDefs.length c0_1]) from (show _=gv (true&&((v3 !=(v2.2==0))==false)) (Value.agg #[vL A0_1 a0.vU.vDefs.length c0_1]) from hk 51 rfl)).trans (gv_t hg)) ((show _=gv (true&&((v3 !=(v2.2==0))==false)) (vI a1.ve1) from (show _=gv (true&&((v3 !=(v2.2==0))==false)) (vI a1.ve1) from hk 53 rfl)).trans (gv_t hg))) (ctf_Equal.calls k a0.vT a1.ve0 a0.vU a1.ve1 A0_0 c0_0 A0_1 c0_1 HSd.sees (ht.s HSd) hr0_0 hc0_0 hr0_1 hc0_1 (of_pos H4 hg)))),ob_guard (b:=(v3 !=(v2.2==0))) (c:=true) rfl rfl (by decide) (fun w' u hu=>by exact hu) (fun a' w' hE hk hg=>by have HSd:=HS4.step hE;exact does_eq (r_fieldBox (n:=1) (o':=1) (show _=vP b1 0 from hk 3 rfl) Tryd.runUnderlying70 rfl Tryd.sizeOf24 (by decide) rfl)),ob_guard (b:=(v3 !=(v2.2==0))) (c:=true) rfl rfl (by decide) (fun w' u hu=>by exact hu) (fun a' w' hE hk hg=>by have HSd:=HS4.step hE;exact does_eq (r_loadBoxAgg (n:=1) (vs:=[vL A0_1 a0.vU.vDefs.length c0_1]) ((show _=gv (true&&((v3 !=(v2.2==0))==false)) (vP b1 1) from (show _=gv (true&&((v3 !=(v2.2==0))==false)) (vP b1 1) from hk 55 rfl)).trans (gv_t hg)) Tryd.isAgg24 (HSd.look 1 rfl) Tryd.sizeOf24 rfl rfl)),ob_guard (b:=(v3 !=(v2.2==0))) (c:=true) rfl rfl (by decide) (fun w' u hu=>by exact hu) (fun a' w' hE hk hg=>by have HSd:=HS4.step hE;exact does_eq (r_indexBox (o':=1) (show _=vP b2 0 from hk 4 rfl) rfl Tryd.runUnderlying71 Tryd.sizeOf3 (by decide) (by decide) rfl)),ob_guard (b:=(v3 !=(v2.2==0))) (c:=true) rfl rfl (by decide) (fun w' u hu=>by exact hu) (fun a' w' hE hk hg=>by have HSd:=HS4.step hE;exact does_eq (r_loadBox ((show _=gv (true&&((v3 !=(v2.2==0))==false)) (vP b2 1) from (show _=gv (true&&((v3 !=(v2.2==0))==false)) (vP b2 1) from hk 57 rfl)).trans (gv_t hg)) Tryd.isAgg3 (HSd.look 0 rfl) rfl)),ob_guard (b:=(v3 !=(v2.2==0))) (c:=true) rfl rfl (by decide) (fun w' u hu=>by exact hu) (fun a' w' hE hk hg=>by have HSd:=HS4.step hE;exact does_eq (r_fieldBox (n:=1) (o':=0) (show _=vP b1 0 from hk 3 rfl) Tryd.runUnderlying70 rfl Tryd.sizeOf24 (by decide) rfl)),ob_guard (b:=(v3 !=(v2.2==0))) (c:=true) rfl rfl (by decide) (fun w' u hu=>by exact hu) (fun a' w' hE hk hg=>by have HSd:=HS4.step hE;exact does_eq (r_loadBoxAgg (n:=1) (vs:=[vL A0_0 a0.vT.vDefs.length c0_0]) ((show _=gv (true&&((v3 !=(v2.2==0))==false)) (vP b1 0) from (show _=gv (true&&((v3 !=(v2.2==0))==false)) (vP b1 0) from hk 59 rfl)).trans (gv_t hg)) Tryd.isAgg24 (HSd.look 1 rfl) Tryd.sizeOf24 rfl rfl)),ob_guard (b:=(v3 !=(v2.2==0))) (c:=true) rfl rfl (by decide) (fun w' u hu=>by exact hu) (fun a' w' hE hk hg=>by have HSd:=HS4.step hE;exact does_eq (r_indexBox (o':=0) (show _=vP b2 0 from hk 4 rfl) rfl Tryd.runUnderlying71 Tryd.sizeOf3 (by decide) (by decide) rfl)),ob_guard (b:=(v3 !=(v2.2==0))) (c:=true) rfl rfl (by decide) (fun w' u hu=>by exact hu) (fun a' w' hE hk hg=>by have HSd:=HS4.step hE;exact does_eq (r_loadBox ((show _=gv (true&&((v3 !=(v2.2==0))==false)) (vP b2 0) from (show _=gv (true&&((v3 !=(v2.2==0))==false)) (vP b2 0) from hk 61 rfl)).trans (gv_t hg)) Tryd.isAgg3 (HSd.look 0 rfl) rfl)),ob_guard (b:=(v3 !=(v2.2==0))) (c:=true) rfl rfl (by decide) (fun w' u hu=>by exact hu) (fun a' w' hE hk hg=>by have HSd:=HS4.step hE;exact (does_call_eq Tryd.call29 rfl (map4 ((show _=gv (true&&((v3 !=(v2.2==0))==false)) (Value.agg #[vL A0_1 a0.vU.vDefs.length c0_1]) from (show _=gv (true&&((v3 !=(v2.2==0))==false)) (Value.agg #[vL A0_1 a0.vU.vDefs.length c0_1]) from hk 56 rfl)).trans (gv_t hg)) ((show _=gv (true&&((v3 !=(v2.2==0))==false)) (vI a1.ve1) from (show _=gv (true&&((v3 !=(v2.2==0))==false)) (vI a1.ve1) from hk 58 rfl)).trans (gv_t hg)) ((show _=gv (true&&((v3 !=(v2.2==0))==false)) (Value.agg #[vL A0_0 a0.vT.vDefs.length c0_0]) from (show _=gv (true&&((v3 !=(v2.2==0))==false)) (Value.agg #[vL A0_0 a0.vT.vDefs.length c0_0]) from hk 60 rfl)).trans (gv_t hg)) ((show _=gv (true&&((v3 !=(v2.2==0))==false)) (vI a1.ve0) from (show _=gv (true&&((v3 !=(v2.2==0))==false)) (vI a1.ve0) from hk 62 rfl)).trans (gv_t hg))) (ctf_Equal.calls k a0.vU a1.ve1 a0.vT a1.ve0 A0_1 c0_1 A0_0 c0_0 HSd.sees (ht.s HSd) hr0_1 hc0_1 hr0_0 hc0_0 (of_pos H5 hg)))),ob_guard (b:=(v3 !=(v2.2==0))) (c:=true) rfl rfl (by decide) (fun w' u hu=>by exact hu) (fun a' w' hE hk hg=>by have HSd:=HS4.step hE;exact does_eq (r_boolneq ((show _=gv (true&&((v3 !=(v2.2==0))==false)) (vB v4) from (show _=gv (true&&((v3 !=(v2.2==0))==false)) (vB v4) from hk 54 rfl)).trans (gv_t hg)) ((show _=gv (true&&((v3 !=(v2.2==0))==false)) (vB v5) from (show _=gv (true&&((v3 !=(v2.2==0))==false)) (vB v5) from hk 63 rfl)).trans (gv_t hg)) Tryd.runUnderlying4)),ob_plain rfl (fun a' w' hE hk=>by have HSd:=HS4.step hE;exact does_eq (r_pick_or (show _=vB (v3 !=(v2.2==0)) from hk 45 rfl) rfl (fun hp=>((show _=gv (true&&((v3 !=(v2.2==0))==false)) (vB (v4 !=v5)) from (show _=gv (true&&((v3 !=(v2.2==0))==false)) (vB (v4 !=v5)) from hk 64 rfl)).trans (gv_t (and_i rfl hp)))))),trivial⟩ ?_
 intro w5 hE5
 simp only [List.zip_cons_cons,List.zip_nil_left,List.zip_nil_right,finL,sc0,sc1,List.length_cons,List.length_nil,List.drop_succ_cons,List.drop_zero,Nat.zero_add,Nat.reduceAdd]
 have HS5:=HS4.step hE5
 refine run_nil ?_
 refine norm_then ?_
 refine wp_cond_split (t:=((v3 !=(v2.2==0))||(v4 !=v5))) rfl (fun c1=>?_) (fun c1=>?_)
 ·replace H:=of_pos H c1
  refine wp_seq ?_
  refine region ?_
  refine rs (vB false) (r_assign rfl) ?_
  try simp only [sc0,sc1]
  refine run_nil ?_
  refine norm_then ?_
  refine wp_ret ?_
  refine ret_then ?_
  obtain rfl:=Option.some.inj H
  refine bodyPost_ret (results_1 rfl (one_tmp rfl)) rfl ?_
  exact ⟨rfl,HS5.toE⟩
 ·replace H:=of_neg H (nt c1)
  refine wp_skip ?_
  refine norm_then ?_
  refine wp_seq ?_
  refine wp_seq ?_
  refine region ?_
  refine rs (vP b1 0) (r_fieldBox (n:=1) (o':=0) rfl Tryd.runUnderlying70 rfl Tryd.sizeOf24 (by decide) rfl) ?_
  refine rs (Value.agg #[vL A0_0 a0.vT.vDefs.length c0_0]) (r_loadBoxAgg (n:=1) (vs:=[vL A0_0 a0.vT.vDefs.length c0_0]) rfl Tryd.isAgg24 (HS5.look 1 rfl) Tryd.sizeOf24 rfl rfl) ?_
  refine rs (vP b2 0) (r_indexBox (o':=0) rfl rfl Tryd.runUnderlying71 Tryd.sizeOf3 (by decide) (by decide) rfl) ?_
  refine rs (vI a1.ve0) (r_loadBox rfl Tryd.isAgg3 (HS5.look 0 rfl) rfl) ?_
  refine run_frame (by simp only [sc0,sc1];rfl) ?_
  refine rs (vP b1 1) (r_fieldBox (n:=1) (o':=1) rfl Tryd.runUnderlying70 rfl Tryd.sizeOf24 (by decide) rfl) ?_
  refine rs (Value.agg #[vL A0_1 a0.vU.vDefs.length c0_1]) (r_loadBoxAgg (n:=1) (vs:=[vL A0_1 a0.vU.vDefs.length c0_1]) rfl Tryd.isAgg24 (HS5.look 1 rfl) Tryd.sizeOf24 rfl rfl) ?_
  refine rs (vP b2 1) (r_indexBox (o':=1) rfl rfl Tryd.runUnderlying71 Tryd.sizeOf3 (by decide) (by decide) rfl) ?_
  refine rs (vI a1.ve1) (r_loadBox rfl Tryd.isAgg3 (HS5.look 0 rfl) rfl) ?_
  refine run_frame (by simp only [sc0,sc1];rfl) ?_
  obtain ⟨v6,H6,H⟩:=of_bind H
  refine run_eq (v:=vB v6) rfl rfl (does_call_eq Tryd.call29 rfl rfl (ctf_Equal.calls k a0.vT a1.ve0 a0.vU a1.ve1 A0_0 c0_0 A0_1 c0_1 HS5.sees (ht.s HS5) hr0_0 hc0_0 hr0_1 hc0_1 H6)) ?_
  intro w6 hE6
  have HS6:=HS5.step hE6
  refine rs (vB (!v6)) (r_not rfl) ?_
  try simp only [sc0,sc1]
  refine run_nil ?_
  refine norm_then ?_
  refine wp_cond_split (t:=(!v6)) rfl (fun c2=>?_) (fun c2=>?_)
  ·replace H:=of_pos H c2
   refine wp_seq ?_
   refine region ?_
   refine rs (vB v1) (r_move rfl) ?_
   refine rs (vB v1) (r_assign rfl) ?_
   try simp only [sc0,sc1]
   refine run_nil ?_
   refine norm_then ?_
   refine wp_ret ?_
   refine ret_then ?_
   obtain rfl:=Option.some.inj H
   refine bodyPost_ret (results_1 rfl (one_tmp rfl)) rfl ?_
   exact ⟨rfl,HS6.toE⟩
  ·replace H:=of_neg H (nt c2)
   refine wp_skip ?_
   refine norm_then ?_
   refine wp_seq ?_
   refine wp_seq ?_
   refine region ?_
   refine rs (vP b1 1) (r_fieldBox (n:=1) (o':=1) rfl Tryd.runUnderlying70 rfl Tryd.sizeOf24 (by decide) rfl) ?_
   refine rs (Value.agg #[vL A0_1 a0.vU.vDefs.length c0_1]) (r_loadBoxAgg (n:=1) (vs:=[vL A0_1 a0.vU.vDefs.length c0_1]) rfl Tryd.isAgg24 (HS6.look 1 rfl) Tryd.sizeOf24 rfl rfl) ?_
   refine rs (vP b2 1) (r_indexBox (o':=1) rfl rfl Tryd.runUnderlying71 Tryd.sizeOf3 (by decide) (by decide) rfl) ?_
   refine rs (vI a1.ve1) (r_loadBox rfl Tryd.isAgg3 (HS6.look 0 rfl) rfl) ?_
   refine run_frame (by simp only [sc0,sc1];rfl) ?_
   refine rs (vP b1 2) (r_fieldBox (n:=1) (o':=2) rfl Tryd.runUnderlying70 rfl Tryd.sizeOf24 (by decide) rfl) ?_
   refine rs (Value.agg #[vL A0_2 a0.vV.vDefs.length c0_2]) (r_loadBoxAgg (n:=1) (vs:=[vL A0_2 a0.vV.vDefs.length c0_2]) rfl Tryd.isAgg24 (HS6.look 1 rfl) Tryd.sizeOf24 rfl rfl) ?_
   refine rs (vP b2 2) (r_indexBox (o':=2) rfl rfl Tryd.runUnderlying71 Tryd.sizeOf3 (by decide) (by decide) rfl) ?_
   refine rs (vI a1.ve2) (r_loadBox rfl Tryd.isAgg3 (HS6.look 0 rfl) rfl) ?_
   refine run_frame (by simp only [sc0,sc1];rfl) ?_
   obtain ⟨v7,H7,H⟩:=of_bind H
   refine run_eq (v:=vB v7) rfl rfl (does_call_eq Tryd.call29 rfl rfl (ctf_Equal.calls k a0.vU a1.ve1 a0.vV a1.ve2 A0_1 c0_1 A0_2 c0_2 HS6.sees (ht.s HS6) hr0_1 hc0_1 hr0_2 hc0_2 H7)) ?_
   intro w7 hE7
   have HS7:=HS6.step hE7
   refine rs (vB v7) (r_move rfl) ?_
   refine rgs v7 true (vP b1 0) rfl rfl rfl rfl (fun hg=>(r_fieldBox (n:=1) (o':=0) rfl Tryd.runUnderlying70 rfl Tryd.sizeOf24 (by decide) rfl)) ?_
   refine rgs v7 true (Value.agg #[vL A0_0 a0.vT.vDefs.length c0_0]) rfl rfl rfl rfl (fun hg=>(r_loadBoxAgg (n:=1) (vs:=[vL A0_0 a0.vT.vDefs.length c0_0]) (gvt (vP b1 0) hg rfl) Tryd.isAgg24 (HS7.look 1 rfl) Tryd.sizeOf24 rfl rfl)) ?_
   refine run_frame (by simp only [sc0,sc1];rfl) ?_
   refine rgs v7 true (vP b2 0) rfl rfl rfl rfl (fun hg=>(r_indexBox (o':=0) rfl rfl Tryd.runUnderlying71 Tryd.sizeOf3 (by decide) (by decide) rfl)) ?_
   refine rgs v7 true (vI a1.ve0) rfl rfl rfl rfl (fun hg=>(r_loadBox (gvt (vP b2 0) hg rfl) Tryd.isAgg3 (HS7.look 0 rfl) rfl)) ?_
   refine rgs v7 true (vP b1 2) rfl rfl rfl rfl (fun hg=>(r_fieldBox (n:=1) (o':=2) rfl Tryd.runUnderlying70 rfl Tryd.sizeOf24 (by decide) rfl)) ?_
   refine rgs v7 true (Value.agg #[vL A0_2 a0.vV.vDefs.length c0_2]) rfl rfl rfl rfl (fun hg=>(r_loadBoxAgg (n:=1) (vs:=[vL A0_2 a0.vV.vDefs.length c0_2]) (gvt (vP b1 2) hg rfl) Tryd.isAgg24 (HS7.look 1 rfl) Tryd.sizeOf24 rfl rfl)) ?_
   refine run_frame (by simp only [sc0,sc1];rfl) ?_
   refine rgs v7 true (vP b2 2) rfl rfl rfl rfl (fun hg=>(r_indexBox (o':=2) rfl rfl Tryd.runUnderlying71 Tryd.sizeOf3 (by decide) (by decide) rfl)) ?_
   refine rgs v7 true (vI a1.ve2) rfl rfl rfl rfl (fun hg=>(r_loadBox (gvt (vP b2 2) hg rfl) Tryd.isAgg3 (HS7.look 0 rfl) rfl)) ?_
   obtain ⟨v8,H8,H⟩:=of_bind H
   refine run_g (b:=v7) (c:=true) (v:=vB v8) rfl rfl rfl rfl (fun hg=>(does_call_eq Tryd.call29 rfl (map4 (gvt (Value.agg #[vL A0_0 a0.vT.vDefs.length c0_0]) hg rfl) (gvt (vI a1.ve0) hg rfl) (gvt (Value.agg #[vL A0_2 a0.vV.vDefs.length c0_2]) hg rfl) (gvt (vI a1.ve2) hg rfl)) (ctf_Equal.calls k a0.vT a1.ve0 a0.vV a1.ve2 A0_0 c0_0 A0_2 c0_2 HS7.sees (ht.s HS7) hr0_0 hc0_0 hr0_2 hc0_2 (of_pos H8 hg)))) ?_
   intro w8 hE8
   have HS8:=HS7.step hE8
   refine rgs v7 true (vB (!v8)) rfl rfl rfl rfl (fun hg=>(r_not (gvt (vB v8) hg rfl))) ?_
   refine run_frame (by simp only [sc0,sc1];rfl) ?_
   refine rs (vB (v7&&(!v8))) (r_pick_and rfl (fun hp=>(gvt (vB (!v8)) (and_i rfl hp) rfl)) rfl) ?_
   try simp only [sc0,sc1]
   refine run_nil ?_
   refine norm_then ?_
   refine wp_cond_split (t:=(v7&&(!v8))) rfl (fun c3=>?_) (fun c3=>?_)
   ·replace H:=of_pos H c3
    refine wp_seq ?_
    refine region ?_
    refine rs (vB false) (r_assign rfl) ?_
    try simp only [sc0,sc1]
    refine run_nil ?_
    refine norm_then ?_
    refine wp_ret ?_
    refine ret_then ?_
    obtain rfl:=Option.some.inj H
    refine bodyPost_ret (results_1 rfl (one_tmp rfl)) rfl ?_
    exact ⟨rfl,HS8.toE⟩
   ·replace H:=of_neg H (nt c3)
    refine wp_skip ?_
    refine norm_then ?_
    refine wp_seq ?_
    refine region ?_
    refine rs (vP b1 0) (r_fieldBox (n:=1) (o':=0) rfl Tryd.runUnderlying70 rfl Tryd.sizeOf24 (by decide) rfl) ?_
    refine rs (Value.agg #[vL A0_0 a0.vT.vDefs.length c0_0]) (r_loadBoxAgg (n:=1) (vs:=[vL A0_0 a0.vT.vDefs.length c0_0]) rfl Tryd.isAgg24 (HS8.look 1 rfl) Tryd.sizeOf24 rfl rfl) ?_
    refine rs (vP b2 0) (r_indexBox (o':=0) rfl rfl Tryd.runUnderlying71 Tryd.sizeOf3 (by decide) (by decide) rfl) ?_
    refine rs (vI a1.ve0) (r_loadBox rfl Tryd.isAgg3 (HS8.look 0 rfl) rfl) ?_
    refine run_frame (by simp only [sc0,sc1];rfl) ?_
    obtain ⟨v9,H9,H⟩:=of_bind H
    refine run_eq (v:=Value.tuple #[vI v9.1,vI v9.2]) rfl rfl (does_call_eq Tryd.call14 rfl rfl (ctf_Size.calls k a0.vT a1.ve0 A0_0 c0_0 HS8.sees hr0_0 hc0_0 H9)) ?_
    intro w9 hE9
    have HS9:=HS8.step hE9
    refine rs (Value.tuple #[vI v9.1,vI v9.2]) (r_move rfl) ?_
    refine rs (vI v9.1) (r_extract rfl rfl) ?_
    refine rs (vI v9.2) (r_extract rfl rfl) ?_
    refine run_frame (by simp only [sc0,sc1];rfl) ?_
    refine rs (vI v9.1) (r_assign rfl) ?_
    refine rs (vI v9.2) (r_assign rfl) ?_
    try simp only [sc0,sc1]
    refine run_nil ?_
    refine norm_then ?_
    refine wp_seq ?_
    refine region ?_
    refine rs (vP b1 1) (r_fieldBox (n:=1) (o':=1) rfl Tryd.runUnderlying70 rfl Tryd.sizeOf24 (by decide) rfl) ?_
    refine rs (Value.agg #[vL A0_1 a0.vU.vDefs.length c0_1]) (r_loadBoxAgg (n:=1) (vs:=[vL A0_1 a0.vU.vDefs.length c0_1]) rfl Tryd.isAgg24 (HS9.look 1 rfl) Tryd.sizeOf24 rfl rfl) ?_
    refine rs (vP b2 1) (r_indexBox (o':=1) rfl rfl Tryd.runUnderlying71 Tryd.sizeOf3 (by decide) (by decide) rfl) ?_
    refine rs (vI a1.ve1) (r_loadBox rfl Tryd.isAgg3 (HS9.look 0 rfl) rfl) ?_
    refine run_frame (by simp only [sc0,sc1];rfl) ?_
    obtain ⟨v10,H10,H⟩:=of_bind H
    refine run_eq (v:=Value.tuple #[vI v10.1,vI v10.2]) rfl rfl (does_call_eq Tryd.call14 rfl rfl (ctf_Size.calls k a0.vU a1.ve1 A0_1 c0_1 HS9.sees hr0_1 hc0_1 H10)) ?_
    intro w10 hE10
    have HS10:=HS9.step hE10
    refine rs (Value.tuple #[vI v10.1,vI v10.2]) (r_move rfl) ?_
    refine rs (vI v10.1) (r_extract rfl rfl) ?_
    refine rs (vI v10.2) (r_extract rfl rfl) ?_
    refine run_frame (by simp only [sc0,sc1];rfl) ?_
    refine rs (vI v10.1) (r_assign rfl) ?_
    refine rs (vI v10.2) (r_assign rfl) ?_
    try simp only [sc0,sc1]
    refine run_nil ?_
    refine norm_then ?_
    refine wp_seq ?_
    refine region ?_
    refine rs (vP b1 0) (r_fieldBox (n:=1) (o':=0) rfl Tryd.runUnderlying70 rfl Tryd.sizeOf24 (by decide) rfl) ?_
    refine rs (Value.agg #[vL A0_0 a0.vT.vDefs.length c0_0]) (r_loadBoxAgg (n:=1) (vs:=[vL A0_0 a0.vT.vDefs.length c0_0]) rfl Tryd.isAgg24 (HS10.look 1 rfl) Tryd.sizeOf24 rfl rfl) ?_
    refine rs (vP b2 0) (r_indexBox (o':=0) rfl rfl Tryd.runUnderlying71 Tryd.sizeOf3 (by decide) (by decide) rfl) ?_
    refine rs (vI a1.ve0) (r_loadBox rfl Tryd.isAgg3 (HS10.look 0 rfl) rfl) ?_
    refine run_frame (by simp only [sc0,sc1];rfl) ?_
    obtain ⟨v11,H11,H⟩:=of_bind H
    refine run_eq (v:=Value.tuple #[vS v11.1,vI v11.2]) rfl rfl (does_call_eq Tryd.call20 rfl rfl (ctf_Text.calls k a0.vT a1.ve0 A0_0 c0_0 HS10.sees (ht.s HS10) hr0_0 hc0_0 H11)) ?_
    intro w11 hE11
    have HS11:=HS10.step hE11
    refine rs (Value.tuple #[vS v11.1,vI v11.2]) (r_move rfl) ?_
    refine rs (vS v11.1) (r_extract rfl rfl) ?_
    refine rs (vI v11.2) (r_extract rfl rfl) ?_
    refine run_frame (by simp only [sc0,sc1];rfl) ?_
    refine rs (vS v11.1) (r_assign rfl) ?_
    refine rs (vI v11.2) (r_assign rfl) ?_
    try simp only [sc0,sc1]
    refine run_nil ?_
    refine norm_then ?_
    refine wp_seq ?_
    refine region ?_
    refine rs (vP b1 1) (r_fieldBox (n:=1) (o':=1) rfl Tryd.runUnderlying70 rfl Tryd.sizeOf24 (by decide) rfl) ?_
    refine rs (Value.agg #[vL A0_1 a0.vU.vDefs.length c0_1]) (r_loadBoxAgg (n:=1) (vs:=[vL A0_1 a0.vU.vDefs.length c0_1]) rfl Tryd.isAgg24 (HS11.look 1 rfl) Tryd.sizeOf24 rfl rfl) ?_
    refine rs (vP b2 1) (r_indexBox (o':=1) rfl rfl Tryd.runUnderlying71 Tryd.sizeOf3 (by decide) (by decide) rfl) ?_
    refine rs (vI a1.ve1) (r_loadBox rfl Tryd.isAgg3 (HS11.look 0 rfl) rfl) ?_
    refine run_frame (by simp only [sc0,sc1];rfl) ?_
    obtain ⟨v12,H12,H⟩:=of_bind H
    refine run_eq (v:=Value.tuple #[vS v12.1,vI v12.2]) rfl rfl (does_call_eq Tryd.call20 rfl rfl (ctf_Text.calls k a0.vU a1.ve1 A0_1 c0_1 HS11.sees (ht.s HS11) hr0_1 hc0_1 H12)) ?_
    intro w12 hE12
    have HS12:=HS11.step hE12
    refine rs (Value.tuple #[vS v12.1,vI v12.2]) (r_move rfl) ?_
    refine rs (vS v12.1) (r_extract rfl rfl) ?_
    refine rs (vI v12.2) (r_extract rfl rfl) ?_
    refine run_frame (by simp only [sc0,sc1];rfl) ?_
    refine rs (vS v12.1) (r_assign rfl) ?_
    refine rs (vI v12.2) (r_assign rfl) ?_
    try simp only [sc0,sc1]
    refine run_nil ?_
    refine norm_then ?_
    refine wp_seq ?_
    refine wp_seq ?_
    refine region ?_
    refine rs (vI v9.2) (r_move rfl) ?_
    refine rs (vB (v9.2 !=0)) (r_bin rfl rfl rfl) ?_
    refine rs (vB (v9.2 !=0)) (r_move rfl) ?_
    refine rgs (v9.2 !=0) true (vI v10.2) rfl rfl rfl rfl (fun hg=>(r_move rfl)) ?_
    refine run_frame (by simp only [sc0,sc1];rfl) ?_
    refine rgs (v9.2 !=0) true (vB (v10.2 !=0)) rfl rfl rfl rfl (fun hg=>(r_bin (gvt (vI v10.2) hg rfl) rfl rfl)) ?_
    refine rs (vB ((v9.2 !=0)||(v10.2 !=0))) (r_pick_or rfl rfl (fun hp=>(gvt (vB (v10.2 !=0)) (and_i rfl hp) rfl))) ?_
    refine rs (vB ((v9.2 !=0)||(v10.2 !=0))) (r_move rfl) ?_
    refine rgs ((v9.2 !=0)||(v10.2 !=0)) true (vI v11.2) rfl rfl rfl rfl (fun hg=>(r_move rfl)) ?_
    refine run_frame (by simp only [sc0,sc1];rfl) ?_
    refine rgs ((v9.2 !=0)||(v10.2 !=0)) true (vB (v11.2 !=0)) rfl rfl rfl rfl (fun hg=>(r_bin (gvt (vI v11.2) hg rfl) rfl rfl)) ?_
    refine rs (vB (((v9.2 !=0)||(v10.2 !=0))||(v11.2 !=0))) (r_pick_or rfl rfl (fun hp=>(gvt (vB (v11.2 !=0)) (and_i rfl hp) rfl))) ?_
    refine rs (vB (((v9.2 !=0)||(v10.2 !=0))||(v11.2 !=0))) (r_move rfl) ?_
    refine rgs (((v9.2 !=0)||(v10.2 !=0))||(v11.2 !=0)) true (vI v12.2) rfl rfl rfl rfl (fun hg=>(r_move rfl)) ?_
    refine run_frame (by simp only [sc0,sc1];rfl) ?_
    refine rgs (((v9.2 !=0)||(v10.2 !=0))||(v11.2 !=0)) true (vB (v12.2 !=0)) rfl rfl rfl rfl (fun hg=>(r_bin (gvt (vI v12.2) hg rfl) rfl rfl)) ?_
    refine rs (vB ((((v9.2 !=0)||(v10.2 !=0))||(v11.2 !=0))||(v12.2 !=0))) (r_pick_or rfl rfl (fun hp=>(gvt (vB (v12.2 !=0)) (and_i rfl hp) rfl))) ?_
    refine rs (vB ((((v9.2 !=0)||(v10.2 !=0))||(v11.2 !=0))||(v12.2 !=0))) (r_move rfl) ?_
    refine rgs ((((v9.2 !=0)||(v10.2 !=0))||(v11.2 !=0))||(v12.2 !=0)) true (vI v9.1) rfl rfl rfl rfl (fun hg=>(r_move rfl)) ?_
    refine run_frame (by simp only [sc0,sc1];rfl) ?_
    refine rgs ((((v9.2 !=0)||(v10.2 !=0))||(v11.2 !=0))||(v12.2 !=0)) true (vI v10.1) rfl rfl rfl rfl (fun hg=>(r_move rfl)) ?_
    refine rgs ((((v9.2 !=0)||(v10.2 !=0))||(v11.2 !=0))||(v12.2 !=0)) true (vB (v9.1 !=v10.1)) rfl rfl rfl rfl (fun hg=>(r_bin (gvt (vI v9.1) hg rfl) (gvt (vI v10.1) hg rfl) rfl)) ?_
    refine rs (vB (((((v9.2 !=0)||(v10.2 !=0))||(v11.2 !=0))||(v12.2 !=0))||(v9.1 !=v10.1))) (r_pick_or rfl rfl (fun hp=>(gvt (vB (v9.1 !=v10.1)) (and_i rfl hp) rfl))) ?_
    refine rs (vB (((((v9.2 !=0)||(v10.2 !=0))||(v11.2 !=0))||(v12.2 !=0))||(v9.1 !=v10.1))) (r_move rfl) ?_
    refine run_frame (by simp only [sc0,sc1];rfl) ?_
    refine rgs (((((v9.2 !=0)||(v10.2 !=0))||(v11.2 !=0))||(v12.2 !=0))||(v9.1 !=v10.1)) true (vS v11.1) rfl rfl rfl rfl (fun hg=>(r_move rfl)) ?_
    refine rgs (((((v9.2 !=0)||(v10.2 !=0))||(v11.2 !=0))||(v12.2 !=0))||(v9.1 !=v10.1)) true (vS v12.1) rfl rfl rfl rfl (fun hg=>(r_move rfl)) ?_
    refine rgs (((((v9.2 !=0)||(v10.2 !=0))||(v11.2 !=0))||(v12.2 !=0))||(v9.1 !=v10.1)) true (vB (!(strEq v11.1 v12.1))) rfl rfl rfl rfl (fun hg=>(r_strneq (gvt (vS v11.1) hg rfl) (gvt (vS v12.1) hg rfl))) ?_
    refine rs (vB ((((((v9.2 !=0)||(v10.2 !=0))||(v11.2 !=0))||(v12.2 !=0))||(v9.1 !=v10.1))||(!(strEq v11.1 v12.1)))) (r_pick_or rfl rfl (fun hp=>(gvt (vB (!(strEq v11.1 v12.1))) (and_i rfl hp) rfl))) ?_
    try simp only [sc0,sc1]
    refine run_nil ?_
    refine norm_then ?_
    refine wp_cond_split (t:=((((((v9.2 !=0)||(v10.2 !=0))||(v11.2 !=0))||(v12.2 !=0))||(v9.1 !=v10.1))||(!(strEq v11.1 v12.1)))) rfl (fun c4=>?_) (fun c4=>?_)
    ·replace H:=of_pos H c4
     refine wp_seq ?_
     refine region ?_
     refine rs (vB false) (r_assign rfl) ?_
     try simp only [sc0,sc1]
     refine run_nil ?_
     refine norm_then ?_
     refine wp_ret ?_
     refine ret_then ?_
     obtain rfl:=Option.some.inj H
     refine bodyPost_ret (results_1 rfl (one_tmp rfl)) rfl ?_
     exact ⟨rfl,HS12.toE⟩
    ·replace H:=of_neg H (nt c4)
     refine wp_skip ?_
     refine norm_then ?_
     refine wp_seq ?_
     refine region ?_
     refine rs (vP b1 0) (r_fieldBox (n:=1) (o':=0) rfl Tryd.runUnderlying70 rfl Tryd.sizeOf24 (by decide) rfl) ?_
     refine rs (Value.agg #[vL A0_0 a0.vT.vDefs.length c0_0]) (r_loadBoxAgg (n:=1) (vs:=[vL A0_0 a0.vT.vDefs.length c0_0]) rfl Tryd.isAgg24 (HS12.look 1 rfl) Tryd.sizeOf24 rfl rfl) ?_
     refine rs (vP b2 0) (r_indexBox (o':=0) rfl rfl Tryd.runUnderlying71 Tryd.sizeOf3 (by decide) (by decide) rfl) ?_
     refine rs (vI a1.ve0) (r_loadBox rfl Tryd.isAgg3 (HS12.look 0 rfl) rfl) ?_
     refine run_frame (by simp only [sc0,sc1];rfl) ?_
     refine rs (vL A2_0 a2.length c2_0) (r_move rfl) ?_
     obtain ⟨v13,H13,H⟩:=of_bind H
     refine run_eq (v:=Value.tuple #[vI v13.1,vI v13.2.1,vI v13.2.2]) rfl rfl (does_call_eq Tryd.call17 rfl rfl (ctf_Path.calls k a0.vT a1.ve0 a2 A0_0 c0_0 A2_0 c2_0 HS12.sees hr0_0 hc0_0 hr2_0 hc2_0 H13)) ?_
     intro w13 hE13
     have HS13:=HS12.step hE13
     refine rs (Value.tuple #[vI v13.1,vI v13.2.1,vI v13.2.2]) (r_move rfl) ?_
     refine rs (vI v13.1) (r_extract rfl rfl) ?_
     refine run_frame (by simp only [sc0,sc1];rfl) ?_
     refine rs (vI v13.2.1) (r_extract rfl rfl) ?_
     refine rs (vI v13.2.2) (r_extract rfl rfl) ?_
     refine rs (vI v13.1) (r_assign rfl) ?_
     refine rs (vI v13.2.1) (r_assign rfl) ?_
     refine run_frame (by simp only [sc0,sc1];rfl) ?_
     refine rs (vI v13.2.2) (r_assign rfl) ?_
     try simp only [sc0,sc1]
     refine run_nil ?_
     refine norm_then ?_
     refine wp_seq ?_
     refine region ?_
     refine rs (vP b1 1) (r_fieldBox (n:=1) (o':=1) rfl Tryd.runUnderlying70 rfl Tryd.sizeOf24 (by decide) rfl) ?_
     refine rs (Value.agg #[vL A0_1 a0.vU.vDefs.length c0_1]) (r_loadBoxAgg (n:=1) (vs:=[vL A0_1 a0.vU.vDefs.length c0_1]) rfl Tryd.isAgg24 (HS13.look 1 rfl) Tryd.sizeOf24 rfl rfl) ?_
     refine rs (vP b2 1) (r_indexBox (o':=1) rfl rfl Tryd.runUnderlying71 Tryd.sizeOf3 (by decide) (by decide) rfl) ?_
     refine rs (vI a1.ve1) (r_loadBox rfl Tryd.isAgg3 (HS13.look 0 rfl) rfl) ?_
     refine run_frame (by simp only [sc0,sc1];rfl) ?_
     refine rs (vL A2_0 a2.length c2_0) (r_move rfl) ?_
     obtain ⟨v14,H14,H⟩:=of_bind H
     refine run_eq (v:=Value.tuple #[vI v14.1,vI v14.2.1,vI v14.2.2]) rfl rfl (does_call_eq Tryd.call17 rfl rfl (ctf_Path.calls k a0.vU a1.ve1 a2 A0_1 c0_1 A2_0 c2_0 HS13.sees hr0_1 hc0_1 hr2_0 hc2_0 H14)) ?_
     intro w14 hE14
     have HS14:=HS13.step hE14
     refine rs (Value.tuple #[vI v14.1,vI v14.2.1,vI v14.2.2]) (r_move rfl) ?_
     refine rs (vI v14.1) (r_extract rfl rfl) ?_
     refine run_frame (by simp only [sc0,sc1];rfl) ?_
     refine rs (vI v14.2.1) (r_extract rfl rfl) ?_
     refine rs (vI v14.2.2) (r_extract rfl rfl) ?_
     refine rs (vI v14.1) (r_assign rfl) ?_
     refine rs (vI v14.2.1) (r_assign rfl) ?_
     refine run_frame (by simp only [sc0,sc1];rfl) ?_
     refine rs (vI v14.2.2) (r_assign rfl) ?_
     try simp only [sc0,sc1]
     refine run_nil ?_
     refine norm_then ?_
     refine wp_seq ?_
     refine region ?_
     refine rs (vB v1) (r_move rfl) ?_
     refine rs (vB v1) (r_move rfl) ?_
     refine rgs v1 true (vI v13.2.2) rfl rfl rfl rfl (fun hg=>(r_move rfl)) ?_
     refine rgs v1 true (vI v14.2.2) rfl rfl rfl rfl (fun hg=>(r_move rfl)) ?_
     refine run_frame (by simp only [sc0,sc1];rfl) ?_
     refine rgs v1 true (vB (v13.2.2==v14.2.2)) rfl rfl rfl rfl (fun hg=>(r_bin (gvt (vI v13.2.2) hg rfl) (gvt (vI v14.2.2) hg rfl) rfl)) ?_
     refine rs (vB (v1&&(v13.2.2==v14.2.2))) (r_pick_and rfl (fun hp=>(gvt (vB (v13.2.2==v14.2.2)) (and_i rfl hp) rfl)) rfl) ?_
     refine rs (vB (v1&&(v13.2.2==v14.2.2))) (r_move rfl) ?_
     refine rgs (v1&&(v13.2.2==v14.2.2)) true (vI v13.2.1) rfl rfl rfl rfl (fun hg=>(r_move rfl)) ?_
     refine run_frame (by simp only [sc0,sc1];rfl) ?_
     refine rgs (v1&&(v13.2.2==v14.2.2)) true (vI v14.2.1) rfl rfl rfl rfl (fun hg=>(r_move rfl)) ?_
     refine rgs (v1&&(v13.2.2==v14.2.2)) true (vB (v13.2.1==v14.2.1)) rfl rfl rfl rfl (fun hg=>(r_bin (gvt (vI v13.2.1) hg rfl) (gvt (vI v14.2.1) hg rfl) rfl)) ?_
     refine rs (vB ((v1&&(v13.2.2==v14.2.2))&&(v13.2.1==v14.2.1))) (r_pick_and rfl (fun hp=>(gvt (vB (v13.2.1==v14.2.1)) (and_i rfl hp) rfl)) rfl) ?_
     refine rs (vB ((v1&&(v13.2.2==v14.2.2))&&(v13.2.1==v14.2.1))) (r_move rfl) ?_
     refine run_frame (by simp only [sc0,sc1];rfl) ?_
     refine rgs ((v1&&(v13.2.2==v14.2.2))&&(v13.2.1==v14.2.1)) true (vI v13.2.2) rfl rfl rfl rfl (fun hg=>(r_move rfl)) ?_
     refine rgs ((v1&&(v13.2.2==v14.2.2))&&(v13.2.1==v14.2.1)) true (vB (v13.2.2 !=0)) rfl rfl rfl rfl (fun hg=>(r_bin (gvt (vI v13.2.2) hg rfl) rfl rfl)) ?_
     refine rgs ((v1&&(v13.2.2==v14.2.2))&&(v13.2.1==v14.2.1)) true (vB (v13.2.2 !=0)) rfl rfl rfl rfl (fun hg=>(r_move (gvt (vB (v13.2.2 !=0)) hg rfl))) ?_
     refine rgs (v13.2.2 !=0) (true&&(((v1&&(v13.2.2==v14.2.2))&&(v13.2.1==v14.2.1))==true)) (vP b1 0) rfl rfl rfl rfl (fun hg=>(r_fieldBox (n:=1) (o':=0) rfl Tryd.runUnderlying70 rfl Tryd.sizeOf24 (by decide) rfl)) ?_
     refine run_frame (by simp only [sc0,sc1];rfl) ?_
     refine rgs (v13.2.2 !=0) (true&&(((v1&&(v13.2.2==v14.2.2))&&(v13.2.1==v14.2.1))==true)) (Value.agg #[vL A0_0 a0.vT.vDefs.length c0_0]) rfl rfl rfl rfl (fun hg=>(r_loadBoxAgg (n:=1) (vs:=[vL A0_0 a0.vT.vDefs.length c0_0]) (gvt (vP b1 0) hg rfl) Tryd.isAgg24 (HS14.look 1 rfl) Tryd.sizeOf24 rfl rfl)) ?_
     refine rgs (v13.2.2 !=0) (true&&(((v1&&(v13.2.2==v14.2.2))&&(v13.2.1==v14.2.1))==true)) (vI v13.1) rfl rfl rfl rfl (fun hg=>(r_move rfl)) ?_
     refine rgs (v13.2.2 !=0) (true&&(((v1&&(v13.2.2==v14.2.2))&&(v13.2.1==v14.2.1))==true)) (vP b1 1) rfl rfl rfl rfl (fun hg=>(r_fieldBox (n:=1) (o':=1) rfl Tryd.runUnderlying70 rfl Tryd.sizeOf24 (by decide) rfl)) ?_
     refine rgs (v13.2.2 !=0) (true&&(((v1&&(v13.2.2==v14.2.2))&&(v13.2.1==v14.2.1))==true)) (Value.agg #[vL A0_1 a0.vU.vDefs.length c0_1]) rfl rfl rfl rfl (fun hg=>(r_loadBoxAgg (n:=1) (vs:=[vL A0_1 a0.vU.vDefs.length c0_1]) (gvt (vP b1 1) hg rfl) Tryd.isAgg24 (HS14.look 1 rfl) Tryd.sizeOf24 rfl rfl)) ?_
     refine run_frame (by simp only [sc0,sc1];rfl) ?_
     refine rgs (v13.2.2 !=0) (true&&(((v1&&(v13.2.2==v14.2.2))&&(v13.2.1==v14.2.1))==true)) (vI v14.1) rfl rfl rfl rfl (fun hg=>(r_move rfl)) ?_
     obtain ⟨v15,H15,H⟩:=of_bind H
     refine run_g (b:=(v13.2.2 !=0)) (c:=(true&&(((v1&&(v13.2.2==v14.2.2))&&(v13.2.1==v14.2.1))==true))) (v:=vB v15) rfl rfl rfl rfl (fun hg=>(does_call_eq Tryd.call29 rfl (map4 (gvt (Value.agg #[vL A0_0 a0.vT.vDefs.length c0_0]) hg rfl) (gvt (vI v13.1) hg rfl) (gvt (Value.agg #[vL A0_1 a0.vU.vDefs.length c0_1]) hg rfl) (gvt (vI v14.1) hg rfl)) (ctf_Equal.calls k a0.vT v13.1 a0.vU v14.1 A0_0 c0_0 A0_1 c0_1 HS14.sees (ht.s HS14) hr0_0 hc0_0 hr0_1 hc0_1 (of_pos H15 hg)))) ?_
     intro w15 hE15
     have HS15:=HS14.step hE15
     refine rgs ((v1&&(v13.2.2==v14.2.2))&&(v13.2.1==v14.2.1)) true (vB ((v13.2.2 !=0)||v15)) rfl rfl rfl rfl (fun hg=>(r_pick_or (gvt (vB (v13.2.2 !=0)) hg rfl) rfl (fun hp=>(gvt (vB v15) (and_i hg hp) rfl)))) ?_
     refine rs (vB (((v1&&(v13.2.2==v14.2.2))&&(v13.2.1==v14.2.1))&&((v13.2.2 !=0)||v15))) (r_pick_and rfl (fun hp=>(gvt (vB ((v13.2.2 !=0)||v15)) (and_i rfl hp) rfl)) rfl) ?_
     refine run_frame (by simp only [sc0,sc1];rfl) ?_
     refine rs (vB (((v1&&(v13.2.2==v14.2.2))&&(v13.2.1==v14.2.1))&&((v13.2.2 !=0)||v15))) (r_assign rfl) ?_
     try simp only [sc0,sc1]
     refine run_nil ?_
     refine norm_then ?_
     refine wp_ret ?_
     obtain rfl:=Option.some.inj H
     refine bodyPost_ret (results_1 rfl (one_tmp rfl)) rfl ?_
     exact ⟨rfl,HS15.toE⟩

end Go.Proofs.YtfjppgobidjndaaDoor
namespace Go.Proofs.YtfjppgobidjndaaDoor
open Go.RowKit Go.M
theorem equals_ev {x:taplinelaw08_Three} (hT:∀d∈x.vT.vDefs,FitD d) (hU:∀d∈x.vU.vDefs,FitD d) (hV:∀d∈x.vV.vDefs,FitD d) (at_:arr3_Int) (p:List ByteArray):Ev (fun k=>taplinelaw08_CtfEquals.f k x at_ p) true:=by
  obtain ⟨K1,h1⟩:=sane_ev
  obtain ⟨K3,h3⟩:=Equal_ev hT hT at_.ve0 at_.ve0
  obtain ⟨K4,h4⟩:=Equal_ev hT hU at_.ve0 at_.ve1
  obtain ⟨K5,h5⟩:=Equal_ev hU hT at_.ve1 at_.ve0
  obtain ⟨K7,h7⟩:=Equal_ev hU hV at_.ve1 at_.ve2
  obtain ⟨K8,h8⟩:=Equal_ev hT hV at_.ve0 at_.ve2
  have hsz:∃a e,Ev (fun k=>ctf_Size.f k x.vT at_.ve0) (a,e)∧tell (EqX x.vT at_.ve0 x.vT at_.ve0)=(e==0):=by
    rcases given_ev hT at_.ve0 with ⟨i,l,hi0,hi,W,hv,hg⟩|⟨e,he,hno,hg⟩
    · refine ⟨l.getD i 0,0,by rw [hi0];exact Size_ev W.good hv hi,?_⟩
      rw [tell_t ⟨i,i,⟨hi0,hi,l,W⟩,⟨hi0,hi,l,W⟩,EqS.refl W hi⟩];rfl
    · refine ⟨0,e,Size_err hg he,?_⟩
      rw [tell_f (fun h=>by
        obtain ⟨i,_,hi,_⟩:=h
        exact hno i hi),show (e==0)=false from by simpa using he]
  obtain ⟨a2,e2,⟨K2,h2⟩,hb2⟩:=hsz
  have hsym:tell (EqX x.vT at_.ve0 x.vU at_.ve1)=tell (EqX x.vU at_.ve1 x.vT at_.ve0):=tell_congr ⟨EqX.symm,EqX.symm⟩
  by_cases hE:EqX x.vT at_.ve0 x.vU at_.ve1
  · obtain ⟨i,j,l,m,e0,e1,hi,hj,W,V,hvT,hvU,E⟩:=EqX.in_ hT hU hE
    have hs:=size_eq W V hi E.2 i j .refl hj E.1
    obtain ⟨K9,h9⟩:=Size_ev W.good hvT hi
    obtain ⟨K10,h10⟩:=Size_ev V.good hvU hj
    obtain ⟨K11,h11⟩:=Text_ok W hvT hi
    obtain ⟨K12,h12⟩:=Text_ok V hvU hj
    have hpath:∃y z:Int×Int×Int,Ev (fun k=>ctf_Path.f k x.vT (i:Int) p) y∧Ev (fun k=>ctf_Path.f k x.vU (j:Int) p) z∧y.2.2=z.2.2∧y.2.1=z.2.1∧(y.2.2=0→EqX x.vT y.1 x.vU z.1):=by
      by_cases hp:p.length≤16
      · obtain ⟨mt,hmt⟩:=mem_ok W.good
        obtain ⟨mu,hmu⟩:=mem_ok V.good
        obtain ⟨c1,c2,c3⟩:=path_corr W V hi hj E.2 hmt hmu p i j 0 .refl .refl E.1
        refine ⟨_,_,(Path_ev hmt hvT hi hp).1,(Path_ev hmu hvU hj hp).1,c1,c2,fun h0=>?_⟩
        obtain ⟨c,c',q1,q2,q3,q4,q5⟩:=c3 h0
        exact ⟨c,c',⟨q1,q3.lt W hi,l,W⟩,⟨q2,q4.lt V hj,m,V⟩,E.part q3 q5⟩
      · exact ⟨_,_,Path_long hvT hi hp,Path_long hvU hj hp,rfl,rfl,fun h=>by cases h⟩
    obtain ⟨y,z,⟨K13,h13⟩,⟨K14,h14⟩,hyz1,hyz2,hyz3⟩:=hpath
    obtain ⟨K15,h15⟩:=Equal_ev hT hU y.1 z.1
    refine ⟨K1+K2+K3+K4+K5+K7+K8+K9+K10+K11+K12+K13+K14+K15,fun k hk=>?_⟩
    show taplinelaw08_CtfEquals.f k x at_ p=_
    unfold taplinelaw08_CtfEquals.f
    have h1:taplinelaw08_sane.f k=some true:=h1 k (by omega)
    have h2:ctf_Size.f k x.vT at_.ve0=some (a2,e2):=h2 k (by omega)
    have h3:ctf_Equal.f k x.vT at_.ve0 x.vT at_.ve0=_:=h3 k (by omega)
    have h4:ctf_Equal.f k x.vT at_.ve0 x.vU at_.ve1=_:=h4 k (by omega)
    have h5:ctf_Equal.f k x.vU at_.ve1 x.vT at_.ve0=_:=h5 k (by omega)
    have h7:ctf_Equal.f k x.vU at_.ve1 x.vV at_.ve2=_:=h7 k (by omega)
    have h8:ctf_Equal.f k x.vT at_.ve0 x.vV at_.ve2=_:=h8 k (by omega)
    have h9:ctf_Size.f k x.vT at_.ve0=some (l.getD i 0,0):=by rw [e0];exact h9 k (by omega)
    have h10:ctf_Size.f k x.vU at_.ve1=some (m.getD j 0,0):=by rw [e1];exact h10 k (by omega)
    have h11:ctf_Text.f k x.vT at_.ve0=some (tx x.vT i,0):=by rw [e0];exact h11 k (by omega)
    have h12:ctf_Text.f k x.vU at_.ve1=some (tx x.vU j,0):=by rw [e1];exact h12 k (by omega)
    have h13:ctf_Path.f k x.vT at_.ve0 p=some y:=by rw [e0];exact h13 k (by omega)
    have h14:ctf_Path.f k x.vU at_.ve1 p=some z:=by rw [e1];exact h14 k (by omega)
    have h15:ctf_Equal.f k x.vT y.1 x.vU z.1=_:=h15 k (by omega)
    rw [h2] at h9
    have hx:=Option.some.inj h9
    obtain ⟨rfl,rfl⟩:=Prod.mk.inj hx
    rw [h1,h2,h3,h4,h5,h7,h8,h10,h11,h12,h13,h14]
    simp only [Option.bind_some]
    rw [h15,tell_t hE,←hsym,tell_t hE]
    have hb3:tell (EqX x.vT at_.ve0 x.vT at_.ve0)=true:=by rw [hb2];rfl
    rw [hb3]
    have h78:tell (EqX x.vU at_.ve1 x.vV at_.ve2)=true→tell (EqX x.vT at_.ve0 x.vV at_.ve2)=true:=fun h=>tell_t (hE.trans (tell_iff.1 h))
    generalize tell (EqX x.vU at_.ve1 x.vV at_.ve2)=b7 at*
    generalize tell (EqX x.vT at_.ve0 x.vV at_.ve2)=b8 at*
    have hy0:y.2.2=0→tell (EqX x.vT y.1 x.vU z.1)=true:=fun h=>tell_t (hyz3 h)
    generalize tell (EqX x.vT y.1 x.vU z.1)=b15 at*
    rw [←hyz1,←hyz2,←hs,E.1]
    have hst:strEq (tx x.vU j) (tx x.vU j)=true:=strEq_iff.2 rfl
    have hi1:∀q:Int,(q !=q)=false:=fun q=>by simp
    have hi2:∀q:Int,(q==q)=true:=fun q=>by simp
    simp only [Option.bind_some,hst,hi1,hi2,bne_self_eq_false,beq_self_eq_true,Bool.not_true,Bool.or_self,Bool.and_self,Bool.false_eq_true,if_false,if_true,Bool.true_and,Bool.and_true]
    by_cases h0:y.2.2=0
    · rw [hy0 h0,h0]
      cases b7 with
      |true=>rw [h78 rfl];rfl
      |false=>cases b8<;>rfl
    · rw [show (y.2.2 !=0)=true from by simpa using h0]
      cases b7 with
      |true=>rw [h78 rfl];rfl
      |false=>cases b8<;>rfl
  · refine ⟨K1+K2+K3+K4+K5,fun k hk=>?_⟩
    show taplinelaw08_CtfEquals.f k x at_ p=_
    unfold taplinelaw08_CtfEquals.f
    have h1:taplinelaw08_sane.f k=some true:=h1 k (by omega)
    have h2:ctf_Size.f k x.vT at_.ve0=some (a2,e2):=h2 k (by omega)
    have h3:ctf_Equal.f k x.vT at_.ve0 x.vT at_.ve0=_:=h3 k (by omega)
    have h4:ctf_Equal.f k x.vT at_.ve0 x.vU at_.ve1=_:=h4 k (by omega)
    have h5:ctf_Equal.f k x.vU at_.ve1 x.vT at_.ve0=_:=h5 k (by omega)
    rw [h1,h2,h3,h4,h5,←hsym,tell_f hE,hb2]
    simp only [Option.bind_some]
    rw [show ((e2==0) !=(e2==0))=false from by simp]
    rfl
end Go.Proofs.YtfjppgobidjndaaDoor
