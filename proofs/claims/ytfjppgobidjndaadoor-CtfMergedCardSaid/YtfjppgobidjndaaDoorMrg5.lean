/- Parts of a proof, merged by program: Q16 Q17 Q19 Q20 Q21 F31 F5 Q22 F36 F34 Q23 F8 Q24. The walks (each function once) and the plain laws; no condition of their own. -/
import Derived.Test.YtfjppgobidjndaaDoorMrg4
set_option linter.unusedVariables false
set_option linter.unusedSimpArgs false
namespace Go.Proofs.YtfjppgobidjndaaDoor
open Go.RowKit Go.M
noncomputable def tell (p:Prop):Bool:=by classical exact decide p
theorem tell_t {p:Prop} (h:p):tell p=true:=by unfold tell;simp [h]
theorem tell_f {p:Prop} (h:¬p):tell p=false:=by unfold tell;simp [h]
theorem tell_iff {p:Prop}:tell p=true↔p:=by unfold tell;simp
theorem tell_not {p:Prop}:tell p=false↔¬p:=by unfold tell;simp
theorem tell_of {p:Prop} {b:Bool} (h:b=true↔p):b=tell p:=by
  by_cases hp:p
  · rw [tell_t hp];exact h.2 hp
  · rw [tell_f hp]
    cases b with
    |false=>rfl
    |true=>exact absurd (h.1 rfl) hp
theorem tell_congr {p q:Prop} (h:p↔q):tell p=tell q:=tell_of (tell_iff.trans h)
def fAt (d:api_Def) (j:Nat):api_Field:=d.vFields.getD j z_api_Field
def AlikeF (t:api_Types) (u:api_Types) (k:Int) (f g:api_Field):Prop:=f.vName=g.vName∧f.vAt=g.vAt∧(k=4→tx t f.vType.toNat=tx u g.vType.toNat)
structure AlikeS (t:api_Types) (d:api_Def) (u:api_Types) (g:api_Def):Prop where
  kind:d.vKind=g.vKind
  name:d.vName=g.vName
  int:d.vInt.vSize=g.vInt.vSize∧d.vInt.vSigned=g.vInt.vSigned
  num:d.vN=g.vN
  ref:d.vKind=2∨d.vKind=3∨d.vKind=6→tx t d.vRef.toNat=tx u g.vRef.toNat
  len:d.vFields.length=g.vFields.length
  fld:∀j,j<d.vFields.length→AlikeF t u d.vKind (fAt d j) (fAt g j)
theorem eqfunc_loop {a b:List api_Field} {p:Nat→api_Field→api_Field→Option Bool} {q:api_Field→api_Field→Prop} (hl:a.length≤9223372036854775807) (hab:a.length=b.length)
    (hp:∀j,j<a.length→Ev (fun k=>p k (a.getD j z_api_Field) (b.getD j z_api_Field)) (tell (q (a.getD j z_api_Field) (b.getD j z_api_Field)))):∀(e j:Nat),j+e=a.length→
    Ev2 (fun k m=>slices_EqualFunc_api_Field_api_Field_api_Field_api_Field.l0 a b (p k) m (j:Int)) (if tell (∀i,j≤i→i<a.length→q (a.getD i z_api_Field) (b.getD i z_api_Field))=true then .inr () else .inl false):=by
  intro e
  induction e with
  |zero=>
    intro j hj
    refine Ev2.pure fun k m=>?_
    rw [slices_EqualFunc_api_Field_api_Field_api_Field_api_Field.l0,if_neg (by simp;omega),if_pos (tell_t (fun i h1 h2=>by omega))]
  |succ e ih=>
    intro j hj
    have hlt:j<a.length:=by omega
    have h2:=ih (j+1) (by omega)
    refine Ev2.step (hp j hlt) (r:=fun k m v1=>if (!v1)=true then (some (.inl false)) else (slices_EqualFunc_api_Field_api_Field_api_Field_api_Field.l0 a b (p k) m ((j+1:Nat):Int))) ?_ (fun k m=>?_)
    · by_cases hq:q (a.getD j z_api_Field) (b.getD j z_api_Field)
      · rw [tell_t hq]
        obtain ⟨K,hK⟩:=h2
        refine ⟨K,fun k m hk hm=>?_⟩
        simp only [Bool.not_true,Bool.false_eq_true,if_false]
        rw [show slices_EqualFunc_api_Field_api_Field_api_Field_api_Field.l0 a b (p k) m ((j+1:Nat):Int)=_ from hK k m hk hm]
        congr 2
        rw [tell_congr (p:=∀i,j+1≤i→i<a.length→q (a.getD i z_api_Field) (b.getD i z_api_Field)) (q:=∀i,j≤i→i<a.length→q (a.getD i z_api_Field) (b.getD i z_api_Field))]
        exact ⟨fun h i h1 h2=>by
          by_cases e:i=j
          · subst e;exact hq
          · exact h i (by omega) h2,fun h i h1 h2=>h i (by omega) h2⟩
      · rw [tell_f hq,if_neg (by rw [tell_f (fun h=>hq (h j (Nat.le_refl _) hlt))];simp)]
        exact ⟨0,fun k m _ _=>rfl⟩
    · rw [slices_EqualFunc_api_Field_api_Field_api_Field_api_Field.l0,if_pos (by simp;omega),if_pos (by omega),if_pos (by omega),rd_nat,rd_nat,wrap_nat hlt hl]
theorem eqfunc_ev {a b:List api_Field} {p:Nat→api_Field→api_Field→Option Bool} {q:api_Field→api_Field→Prop} (hl:a.length≤9223372036854775807)
    (hp:a.length=b.length→∀j,j<a.length→Ev (fun k=>p k (a.getD j z_api_Field) (b.getD j z_api_Field)) (tell (q (a.getD j z_api_Field) (b.getD j z_api_Field)))):
    Ev (fun k=>slices_EqualFunc_api_Field_api_Field_api_Field_api_Field.f k a b (p k)) (tell (a.length=b.length∧∀i,i<a.length→q (a.getD i z_api_Field) (b.getD i z_api_Field))):=by
  by_cases hab:a.length=b.length
  · obtain ⟨K,hK⟩:=(eqfunc_loop hl hab (hp hab) a.length 0 (by omega)).diag
    refine ⟨K,fun k hk=>?_⟩
    show slices_EqualFunc_api_Field_api_Field_api_Field_api_Field.f k a b (p k)=_
    unfold slices_EqualFunc_api_Field_api_Field_api_Field_api_Field.f
    rw [if_neg (by simp;omega),show slices_EqualFunc_api_Field_api_Field_api_Field_api_Field.l0 a b (p k) k 0=_ from hK k hk]
    rw [tell_congr (p:=∀i,0≤i→i<a.length→q (a.getD i z_api_Field) (b.getD i z_api_Field)) (q:=a.length=b.length∧∀i,i<a.length→q (a.getD i z_api_Field) (b.getD i z_api_Field)) ⟨fun h=>⟨hab,fun i hi=>h i (by omega) hi⟩,fun h i _ hi=>h.2 i hi⟩]
    generalize tell (a.length=b.length∧∀i,i<a.length→q (a.getD i z_api_Field) (b.getD i z_api_Field))=x
    cases x<;>rfl
  · refine Ev.pure fun k=>?_
    unfold slices_EqualFunc_api_Field_api_Field_api_Field_api_Field.f
    rw [if_pos (by simp;omega),tell_f (fun h=>hab h.1)]
section
variable {t u:api_Types} {l m:List Int}
theorem alikeF_ev {k:Int} {d:api_Def} {f g:api_Field} (hd:d.vKind=k) (h:k=4→Ev (fun k=>ctf_text.f k t f.vType) (tx t f.vType.toNat)∧Ev (fun k=>ctf_text.f k u g.vType) (tx u g.vType.toNat)):
    Ev (fun k=>ctf_alike_1.f k f g d t u) (tell (AlikeF t u k f g)):=by
  have hs:∀a b:ByteArray,strEq a b=tell (a=b):=fun a b=>tell_of strEq_iff
  have hi:∀a b:Int,(a==b)=tell (a=b):=fun a b=>tell_of beq_iff_eq
  by_cases h4:k=4
  · obtain ⟨⟨K1,h1⟩,⟨K2,h2⟩⟩:=h h4
    refine ⟨max K1 K2,fun n hn=>?_⟩
    show ctf_alike_1.f n f g d t u=_
    unfold ctf_alike_1.f
    rw [show ctf_text.f n t f.vType=_ from h1 n (by omega),show ctf_text.f n u g.vType=_ from h2 n (by omega),hd,h4,hs f.vName,hi f.vAt]
    by_cases c1:f.vName=g.vName
    · by_cases c2:f.vAt=g.vAt
      · simp only [tell_t c1,tell_t c2,Bool.and_self,beq_self_eq_true,bne_self_eq_false,if_true,Option.bind_some,Bool.true_and,Bool.false_or,hs (tx t f.vType.toNat)]
        exact congrArg some (tell_congr ⟨fun h=>⟨c1,c2,fun _=>h⟩,fun h=>h.2.2 rfl⟩)
      · rw [tell_t c1,tell_f c2,tell_f (fun h:AlikeF t u 4 f g=>c2 h.2.1)];rfl
    · rw [tell_f c1,tell_f (fun h:AlikeF t u 4 f g=>c1 h.1)];rfl
  · refine Ev.pure fun n=>?_
    unfold ctf_alike_1.f
    rw [show (d.vKind !=4)=true from by rw [hd];simpa using h4,hs f.vName,hi f.vAt]
    by_cases c1:f.vName=g.vName
    · by_cases c2:f.vAt=g.vAt
      · rw [tell_t c1,tell_t c2,tell_t (show AlikeF t u k f g from ⟨c1,c2,fun h=>absurd h h4⟩)];rfl
      · rw [tell_t c1,tell_f c2,tell_f (fun h:AlikeF t u k f g=>c2 h.2.1)];rfl
    · rw [tell_f c1,tell_f (fun h:AlikeF t u k f g=>c1 h.1)];rfl
theorem alike_ev (W:Wf t l) (V:Wf u m) {i j:Nat} (hi:i<t.vDefs.length) (hj:j<u.vDefs.length):Ev (fun k=>ctf_alike.f k t (dAt t i) u (dAt u j)) (tell (AlikeS t (dAt t i) u (dAt u j))):=by
  have hD:=W.sh _ (dAt_mem hi)
  have hG:=V.sh _ (dAt_mem hj)
  have hlen:=hD.few
  have htx:∀{t:api_Types} {l:List Int} (W:Wf t l) {c:Int},0≤c→c<t.vDefs.length→Ev (fun k=>ctf_text.f k t c) (tx t c.toNat):=fun {t l} W {c} h0 h1=>by
    have:=(text_ev W (i:=c.toNat) (by omega)).1
    rwa [show ((c.toNat:Nat):Int)=c by omega] at this
  by_cases hne:(dAt t i).vKind=(dAt u j).vKind∧(dAt t i).vName=(dAt u j).vName∧((dAt t i).vInt.vSize=(dAt u j).vInt.vSize∧(dAt t i).vInt.vSigned=(dAt u j).vInt.vSigned)∧(dAt t i).vN=(dAt u j).vN
  · obtain ⟨n1,n2,⟨n3,n4⟩,n5⟩:=hne
    obtain ⟨ms,hms,hsh⟩:=shapes_find (dAt t i).vKind
    have hF:=eqfunc_ev (a:=(dAt t i).vFields) (b:=(dAt u j).vFields) (p:=fun k z0 z1=>ctf_alike_1.f k z0 z1 (dAt t i) t u) (q:=AlikeF t u (dAt t i).vKind) (by omega) (fun hab x hx=>alikeF_ev rfl (fun h4=>by
      have r1:=hD.typ h4 _ (getD_mem (z:=z_api_Field) hx)
      have r2:=hG.typ (by omega) _ (getD_mem (z:=z_api_Field) (by omega:x<(dAt u j).vFields.length))
      exact ⟨htx W r1.1 r1.2,htx V r2.1 r2.2⟩))
    obtain ⟨K3,h3⟩:=hF
    have hcond:¬((((((dAt t i).vKind !=(dAt u j).vKind)||(!(strEq (dAt t i).vName (dAt u j).vName)))||(!(((dAt t i).vInt.vSize==(dAt u j).vInt.vSize)&&(((dAt t i).vInt.vSigned==(dAt u j).vInt.vSigned)&&true))))||((dAt t i).vN !=(dAt u j).vN))=true):=by
      rw [n1,n2,n3,n4,n5,strEq_iff.2 rfl];simp
    by_cases hk:(dAt t i).vKind=2∨(dAt t i).vKind=3∨(dAt t i).vKind=6
    · have r1:=hD.ref hk
      have r2:=hG.ref (by rw [←n1];exact hk)
      obtain ⟨K1,h1⟩:=htx W r1.1 r1.2
      obtain ⟨K2,h2⟩:=htx V r2.1 r2.2
      refine ⟨K1+K2+K3,fun k hk'=>?_⟩
      show ctf_alike.f k t (dAt t i) u (dAt u j)=_
      unfold ctf_alike.f
      rw [if_neg hcond,hms]
      simp only [Option.bind_some]
      rw [hsh,shp_ref,decide_eq_true hk]
      simp only [beq_self_eq_true,Bool.and_self,if_true]
      rw [show ctf_text.f k t (dAt t i).vRef=_ from h1 k (by omega),show ctf_text.f k u (dAt u j).vRef=_ from h2 k (by omega)]
      simp only [Option.bind_some,Bool.true_and]
      by_cases c:tx t (dAt t i).vRef.toNat=tx u (dAt u j).vRef.toNat
      · rw [strEq_iff.2 c,if_neg (by simp),show slices_EqualFunc_api_Field_api_Field_api_Field_api_Field.f k _ _ _=_ from h3 k (by omega)]
        exact congrArg some (tell_congr ⟨fun h=>⟨n1,n2,⟨n3,n4⟩,n5,fun _=>c,h.1,h.2⟩,fun h=>⟨h.len,h.fld⟩⟩)
      · rw [if_pos (by
          cases hs:strEq (tx t (dAt t i).vRef.toNat) (tx u (dAt u j).vRef.toNat) with
          |false=>rfl
          |true=>exact absurd (strEq_iff.1 hs) c),tell_f (fun h=>c (h.ref hk))]
    · refine ⟨K3,fun k hk'=>?_⟩
      show ctf_alike.f k t (dAt t i) u (dAt u j)=_
      unfold ctf_alike.f
      rw [if_neg hcond,hms]
      simp only [Option.bind_some]
      rw [hsh,shp_ref,decide_eq_false hk]
      simp only [show (false==true)=false from rfl,Bool.true_and,Bool.false_and,Bool.false_eq_true,if_false,Option.bind_some]
      rw [show slices_EqualFunc_api_Field_api_Field_api_Field_api_Field.f k _ _ _=_ from h3 k (by omega)]
      exact congrArg some (tell_congr ⟨fun h=>⟨n1,n2,⟨n3,n4⟩,n5,fun h'=>absurd h' hk,h.1,h.2⟩,fun h=>⟨h.len,h.fld⟩⟩)
  · refine Ev.pure fun k=>?_
    unfold ctf_alike.f
    rw [if_pos,tell_f (fun h=>hne ⟨h.kind,h.name,h.int,h.num⟩)]
    by_cases a1:(dAt t i).vKind=(dAt u j).vKind
    · by_cases a2:(dAt t i).vName=(dAt u j).vName
      · by_cases a3:(dAt t i).vInt.vSize=(dAt u j).vInt.vSize∧(dAt t i).vInt.vSigned=(dAt u j).vInt.vSigned
        · have a4:(dAt t i).vN≠(dAt u j).vN:=fun h=>hne ⟨a1,a2,a3,h⟩
          rw [bneT a4];simp
        · have:((((dAt t i).vInt.vSize==(dAt u j).vInt.vSize)&&(((dAt t i).vInt.vSigned==(dAt u j).vInt.vSigned)&&true)))=false:=by
            rw [Bool.eq_false_iff]
            intro h
            simp only [Bool.and_true,Bool.and_eq_true,beq_iff_eq] at h
            exact a3 h
          rw [this];simp
      · have:strEq (dAt t i).vName (dAt u j).vName=false:=by
          rw [Bool.eq_false_iff]
          exact fun h=>a2 (strEq_iff.1 h)
        rw [this];simp
    · rw [bneT a1];simp
theorem findV_pos {name:ByteArray} (h:0≤findV t name):∃k:Nat,findV t name=(k:Int)∧k<t.vDefs.length∧namedS (dAt t k)=true∧(dAt t k).vName=name:=by
  unfold findV at h⊢
  split at h
  · next ha=>
    rw [if_pos ha]
    obtain ⟨x,hx,hq⟩:=List.any_eq_true.1 ha
    have hlt:=List.findIdx_lt_length_of_exists ⟨x,hx,hq⟩
    refine ⟨_,rfl,hlt,?_⟩
    have hg:=List.findIdx_getElem (w:=hlt)
    have he:dAt t (t.vDefs.findIdx (nameQ name))=t.vDefs[t.vDefs.findIdx (nameQ name)]:=by
      unfold dAt
      rw [List.getD_eq_getElem?_getD,List.getElem?_eq_getElem hlt]
      rfl
    rw [he]
    unfold nameQ at hg
    simp only [Bool.and_eq_true] at hg
    exact ⟨hg.1,strEq_iff.1 hg.2⟩
  · omega
theorem findV_neg {name:ByteArray} (h:¬0≤findV t name):∀k,k<t.vDefs.length→namedS (dAt t k)=true→(dAt t k).vName≠name:=by
  unfold findV at h
  split at h
  · omega
  · next ha=>
    intro k hk hn he
    refine ha (List.any_eq_true.2 ⟨dAt t k,dAt_mem hk,?_⟩)
    unfold nameQ
    rw [hn,he,strEq_iff.2 rfl];rfl
def CondK (t u:api_Types) (k:Nat):Prop:=namedS (dAt t k)=true→∃j,j<u.vDefs.length∧namedS (dAt u j)=true∧AlikeS t (dAt t k) u (dAt u j)
def EqS (t:api_Types) (i:Nat) (u:api_Types) (j:Nat):Prop:=tx t i=tx u j∧∀k,Rch t i k→CondK t u k
theorem body_ev (W:Wf t l) (V:Wf u m) {k:Nat} (hk:k<t.vDefs.length) (z:Bool):Ev (fun n=>ctf_equal.l0 n t u (k:Int) z) (if tell (CondK t u k)=true then .inr () else .inl false):=by
  by_cases hn:namedS (dAt t k)=true
  · obtain ⟨K1,h1⟩:=find_ev V.few (dAt t k).vName
    by_cases h0:0≤findV u (dAt t k).vName
    · obtain ⟨j,e,hj,hnj,hname⟩:=findV_pos h0
      obtain ⟨K2,h2⟩:=alike_ev W V hk hj
      refine ⟨K1+K2,fun n hn'=>?_⟩
      show ctf_equal.l0 n t u (k:Int) z=_
      rw [ctf_equal.l0,if_pos (by omega),rd_dAt]
      simp only [ctf_named.f,Option.bind_some]
      show (if namedS (dAt t k)=true then _ else _)=_
      rw [if_pos hn,show ctf_find.f n u _=_ from h1 n (by omega),e]
      simp only [Option.bind_some]
      rw [show decide (((j:Nat):Int)<0)=false from decide_eq_false (by omega),rd_dAt]
      simp only [beq_self_eq_true,Bool.and_self,if_true]
      rw [if_pos (fun _=>by omega),show ctf_alike.f n t (dAt t k) u (dAt u j)=_ from h2 n (by omega)]
      simp only [Option.bind_some,Bool.false_or]
      have hc:tell (AlikeS t (dAt t k) u (dAt u j))=tell (CondK t u k):=tell_congr ⟨fun h _=>⟨j,hj,hnj,h⟩,fun h=>by
        obtain ⟨j',hj',hn',ha⟩:=h hn
        have:=name_uniq V hj hj' hnj hn' (by rw [hname,ha.name])
        subst this
        exact ha⟩
      rw [hc]
      cases tell (CondK t u k)<;>rfl
    · refine ⟨K1,fun n hn'=>?_⟩
      have hlt:findV u (dAt t k).vName<0:=by omega
      show ctf_equal.l0 n t u (k:Int) z=_
      rw [ctf_equal.l0,if_pos (by omega),rd_dAt]
      simp only [ctf_named.f,Option.bind_some]
      show (if namedS (dAt t k)=true then _ else _)=_
      rw [if_pos hn,show ctf_find.f n u _=_ from h1 n (by omega)]
      simp only [Option.bind_some]
      rw [decide_eq_true hlt,tell_f (fun h=>by
        obtain ⟨j',hj',hn',ha⟩:=h hn
        exact findV_neg h0 j' hj' hn' ha.name.symm)]
      simp
  · refine Ev.pure fun n=>?_
    rw [ctf_equal.l0,if_pos (by omega),rd_dAt]
    simp only [ctf_named.f,Option.bind_some]
    show (if namedS (dAt t k)=true then _ else _)=_
    rw [if_neg hn,tell_t (show CondK t u k from fun h=>absurd h hn)]
    rfl
theorem allK_ev {f:Nat→Int→Bool→Option (Bool⊕Unit)} {g:Int×Bool→Prop}:∀(mv:List (Int×Bool)),(∀p∈mv,Ev (fun n=>f n p.1 p.2) (if tell (g p)=true then .inr () else .inl false))→Ev (fun n=>allK (f n) mv) (if tell (∀p∈mv,g p)=true then .inr () else .inl false)
  |[],_=>by
    rw [tell_t (by intro p hp;cases hp)]
    exact Ev.pure fun n=>rfl
  |p::r,h=>by
    obtain ⟨K1,h1⟩:=h p List.mem_cons_self
    obtain ⟨K2,h2⟩:=allK_ev r (fun q hq=>h q (List.mem_cons_of_mem _ hq))
    refine ⟨K1+K2,fun n hn=>?_⟩
    show allK (f n) (p::r)=_
    rw [allK,show f n p.1 p.2=_ from h1 n (by omega),show allK (f n) r=_ from h2 n (by omega)]
    simp only [Option.bind_some]
    by_cases c1:g p
    · by_cases c2:∀q∈r,g q
      · rw [tell_t c1,tell_t c2,tell_t (by
          intro q hq
          rcases List.mem_cons.1 hq with rfl|hq
          · exact c1
          · exact c2 q hq)]
        rfl
      · rw [tell_t c1,tell_f c2,tell_f (p:=∀q∈p::r,g q) (fun h=>c2 fun q hq=>h q (List.mem_cons_of_mem _ hq))]
        rfl
    · rw [tell_f c1,tell_f (p:=∀q∈p::r,g q) (fun h=>c1 (h p List.mem_cons_self))]
      by_cases c2:∀q∈r,g q
      · rw [tell_t c2];rfl
      · rw [tell_f c2];rfl
theorem equal_ev (W:Wf t l) (V:Wf u m) {i j:Nat} (hi:i<t.vDefs.length) (hj:j<u.vDefs.length):Ev (fun k=>ctf_equal.f k t (i:Int) u (j:Int)) (tell (EqS t i u j)):=by
  obtain ⟨⟨K1,h1⟩,_⟩:=text_ev W hi
  obtain ⟨⟨K2,h2⟩,_⟩:=text_ev V hj
  by_cases c:tx t i=tx u j
  · obtain ⟨mv,⟨K3,h3⟩,hall,hkeys⟩:=reached_ev W (fr:=[i]) (by intro x hx;rw [List.mem_singleton.1 hx];exact hi) (by simp)
    have hp:∀p∈mv,∃k:Nat,p.1=(k:Int)∧k<t.vDefs.length∧Rch t i k:=fun p hp=>by
      obtain ⟨k,e,x,hx,hr⟩:=(hkeys p.1).1 (List.mem_map.2 ⟨p,hp,rfl⟩)
      rw [List.mem_singleton.1 hx] at hr
      exact ⟨k,e,hr.lt W hi,hr⟩
    obtain ⟨K4,h4⟩:=allK_ev (f:=fun n=>ctf_equal.l0 n t u) (g:=fun p=>CondK t u p.1.toNat) mv (fun p hpm=>by
      obtain ⟨k,e,hk,_⟩:=hp p hpm
      rw [e]
      exact body_ev W V hk p.2)
    refine ⟨K1+K2+K3+K4,fun k hk=>?_⟩
    show ctf_equal.f k t (i:Int) u (j:Int)=_
    unfold ctf_equal.f
    rw [show ctf_text.f k t (i:Int)=_ from h1 k (by omega),show ctf_text.f k u (j:Int)=_ from h2 k (by omega)]
    simp only [Option.bind_some]
    rw [strEq_iff.2 c,if_neg (by simp),show ctf_reached.f k t [((i:Nat):Int)]=_ from h3 k (by omega)]
    simp only [Option.bind_some]
    rw [show allK (ctf_equal.l0 k t u) mv=_ from h4 k (by omega)]
    rw [tell_congr (p:=∀p∈mv,CondK t u p.1.toNat) (q:=EqS t i u j) ⟨fun h=>⟨c,fun q hr=>by
      obtain ⟨p,hpm,e⟩:=List.mem_map.1 ((hkeys ((q:Nat):Int)).2 ⟨q,rfl,i,List.mem_singleton.2 rfl,hr⟩)
      have:=h p hpm
      rw [e] at this
      exact this⟩,fun h p hpm=>by
      obtain ⟨k,e,hk,hr⟩:=hp p hpm
      rw [e]
      exact h.2 k hr⟩]
    cases tell (EqS t i u j)<;>rfl
  · refine ⟨K1+K2,fun k hk=>?_⟩
    show ctf_equal.f k t (i:Int) u (j:Int)=_
    unfold ctf_equal.f
    rw [show ctf_text.f k t (i:Int)=_ from h1 k (by omega),show ctf_text.f k u (j:Int)=_ from h2 k (by omega)]
    simp only [Option.bind_some]
    rw [if_pos (by
      cases hs:strEq (tx t i) (tx u j) with
      |false=>rfl
      |true=>exact absurd (strEq_iff.1 hs) c),tell_f (fun h=>c h.1)]
end
def Typ (t:api_Types) (a:Int) (i:Nat):Prop:=a=(i:Int)∧i<t.vDefs.length∧∃l,Wf t l
theorem given_ev {t:api_Types} (hF:∀d∈t.vDefs,FitD d) (a:Int):(∃i l,a=((i:Nat):Int)∧i<t.vDefs.length∧Wf t l∧Ev (fun k=>ctf_valid.f k t) true∧Ev (fun k=>ctf_given.f k t a) 0)∨(∃e,e≠0∧(∀i,¬Typ t a i)∧Ev (fun k=>ctf_given.f k t a) e):=by
  rcases valid_iff hF with ⟨l,W,hv⟩|⟨hno,hv⟩
  · have h1:=given_good hv a
    by_cases h:0≤a∧a<t.vDefs.length
    · rw [if_pos h] at h1
      exact .inl ⟨a.toNat,l,by omega,by omega,W,hv,h1⟩
    · rw [if_neg h] at h1
      exact .inr ⟨3,by decide,fun i hi=>h ⟨by have:=hi.1;omega,by have:=hi.1;have:=hi.2.1;omega⟩,h1⟩
  · exact .inr ⟨80,by decide,fun i hi=>by obtain ⟨_,_,l,W⟩:=hi;exact hno l W,given_bad hv a⟩
def EqX (t:api_Types) (a:Int) (u:api_Types) (b:Int):Prop:=∃i j,Typ t a i∧Typ u b j∧EqS t i u j
theorem Equal_ev {t u:api_Types} (hF:∀d∈t.vDefs,FitD d) (hG:∀d∈u.vDefs,FitD d) (a b:Int):Ev (fun k=>ctf_Equal.f k t a u b) (tell (EqX t a u b)):=by
  rcases given_ev hF a with ⟨i,l,rfl,hi,W,hv,⟨K1,h1⟩⟩|⟨e,he,hno,⟨K1,h1⟩⟩
  · rcases given_ev hG b with ⟨j,m,rfl,hj,V,hv2,⟨K2,h2⟩⟩|⟨e,he,hno,⟨K2,h2⟩⟩
    · obtain ⟨K3,h3⟩:=equal_ev W V hi hj
      refine ⟨K1+K2+K3,fun k hk=>?_⟩
      show ctf_Equal.f k t (i:Int) u (j:Int)=_
      unfold ctf_Equal.f
      rw [show ctf_given.f k t (i:Int)=_ from h1 k (by omega),show ctf_given.f k u (j:Int)=_ from h2 k (by omega)]
      simp only [Option.bind_some,beq_self_eq_true,Bool.and_self,if_true]
      rw [show ctf_equal.f k t (i:Int) u (j:Int)=_ from h3 k (by omega)]
      simp only [Option.bind_some,Bool.true_and]
      exact congrArg some (tell_congr ⟨fun h=>⟨i,j,⟨rfl,hi,l,W⟩,⟨rfl,hj,m,V⟩,h⟩,fun h=>by
        obtain ⟨i',j',hi',hj',h⟩:=h
        have e1:i=i':=Int.ofNat.inj hi'.1
        have e2:j=j':=Int.ofNat.inj hj'.1
        subst e1 e2
        exact h⟩)
    · refine ⟨K1+K2,fun k hk=>?_⟩
      show ctf_Equal.f k t (i:Int) u b=_
      unfold ctf_Equal.f
      rw [show ctf_given.f k t (i:Int)=_ from h1 k (by omega),show ctf_given.f k u b=_ from h2 k (by omega)]
      simp only [Option.bind_some,beq_self_eq_true,Bool.and_self,if_true]
      rw [show (e==0)=false from by simpa using he,tell_f (fun h=>by
        obtain ⟨i',j',hi',hj',h⟩:=h
        exact hno j' hj')]
      rfl
  · refine ⟨K1,fun k hk=>?_⟩
    show ctf_Equal.f k t a u b=_
    unfold ctf_Equal.f
    rw [show ctf_given.f k t a=_ from h1 k (by omega)]
    simp only [Option.bind_some]
    rw [show (e==0)=false from by simpa using he,tell_f (fun h=>by
      obtain ⟨i',j',hi',hj',h⟩:=h
      exact hno i' hi')]
    rfl
end Go.Proofs.YtfjppgobidjndaaDoor
namespace Go.Proofs.YtfjppgobidjndaaDoor
open Go.RowKit Go.M
section
variable {t u v:api_Types} {l m n:List Int}
theorem AlikeF.refl {k:Int} {f:api_Field}:AlikeF t t k f f:=⟨rfl,rfl,fun _=>rfl⟩
theorem AlikeF.symm {k:Int} {f g:api_Field} (h:AlikeF t u k f g):AlikeF u t k g f:=⟨h.1.symm,h.2.1.symm,fun e=>(h.2.2 e).symm⟩
theorem AlikeF.trans {k:Int} {f g e:api_Field} (h:AlikeF t u k f g) (h2:AlikeF u v k g e):AlikeF t v k f e:=⟨h.1.trans h2.1,h.2.1.trans h2.2.1,fun e=>(h.2.2 e).trans (h2.2.2 e)⟩
theorem AlikeS.refl {d:api_Def}:AlikeS t d t d:=⟨rfl,rfl,⟨rfl,rfl⟩,rfl,fun _=>rfl,rfl,fun _ _=> .refl⟩
theorem AlikeS.symm {d g:api_Def} (h:AlikeS t d u g):AlikeS u g t d:=
  ⟨h.kind.symm,h.name.symm,⟨h.int.1.symm,h.int.2.symm⟩,h.num.symm,fun e=>(h.ref (by rw [h.kind];exact e)).symm,h.len.symm,fun j hj=>by rw [←h.kind];exact (h.fld j (by rw [h.len];exact hj)).symm⟩
theorem AlikeS.trans {d g e:api_Def} (h:AlikeS t d u g) (h2:AlikeS u g v e):AlikeS t d v e:=
  ⟨h.kind.trans h2.kind,h.name.trans h2.name,⟨h.int.1.trans h2.int.1,h.int.2.trans h2.int.2⟩,h.num.trans h2.num,fun e=>(h.ref e).trans (h2.ref (by rw [←h.kind];exact e)),h.len.trans h2.len,
    fun j hj=>(h.fld j hj).trans (by have:=h2.fld j (by rw [←h.len];exact hj);rw [←h.kind] at this;exact this)⟩
def Match (t:api_Types) (d:api_Def) (u:api_Types) (g:api_Def):Prop:=
  (namedS d=true∧namedS g=true∧AlikeS t d u g)∨(d.vKind=2∧g.vKind=2∧tx t d.vRef.toNat=tx u g.vRef.toNat)∨(d.vKind=3∧g.vKind=3∧d.vN=g.vN∧tx t d.vRef.toNat=tx u g.vRef.toNat)
theorem Match.symm {d g:api_Def} (h:Match t d u g):Match u g t d:=by
  rcases h with ⟨a,b,c⟩|⟨a,b,c⟩|⟨a,b,c,d⟩
  · exact .inl ⟨b,a,c.symm⟩
  · exact .inr (.inl ⟨b,a,c.symm⟩)
  · exact .inr (.inr ⟨b,a,c.symm,d.symm⟩)
theorem Match.kind {d g:api_Def} (h:Match t d u g):d.vKind=g.vKind:=by
  rcases h with ⟨a,b,c⟩|⟨a,b,c⟩|⟨a,b,c,d⟩
  · exact c.kind
  · rw [a,b]
  · rw [a,b]
theorem Match.ref {d g:api_Def} (h:Match t d u g) (hk:d.vKind=2∨d.vKind=3∨d.vKind=6):tx t d.vRef.toNat=tx u g.vRef.toNat:=by
  rcases h with ⟨a,b,c⟩|⟨a,b,c⟩|⟨a,b,c,d⟩
  · exact c.ref hk
  · exact c
  · exact d
theorem Match.alike {d g:api_Def} (h:Match t d u g) (hn:namedS d=true):AlikeS t d u g:=by
  obtain ⟨h2,h3⟩:=(named_iff _).1 hn
  rcases h with ⟨a,b,c⟩|⟨a,b,c⟩|⟨a,b,c,d⟩
  · exact c
  · exact absurd a h2
  · exact absurd a h3
theorem Match.named {d g:api_Def} (h:Match t d u g) (hn:namedS d=true):namedS g=true:=by
  obtain ⟨h2,h3⟩:=(named_iff _).1 hn
  exact (named_iff _).2 ⟨by rw [←h.kind];exact h2,by rw [←h.kind];exact h3⟩
theorem Match.kid {d g:api_Def} (h:Match t d u g) {c:Int} (hc:c∈kids d):∃c'∈kids g,tx t c.toNat=tx u c'.toNat:=by
  by_cases hk:d.vKind=2∨d.vKind=3∨d.vKind=6
  · rw [kids_ref hk] at hc
    rw [List.mem_singleton.1 hc]
    exact ⟨g.vRef,by rw [kids_ref (by rw [←h.kind];exact hk)];exact List.mem_singleton.2 rfl,h.ref hk⟩
  · by_cases h4:d.vKind=4
    · have hA:=h.alike ((named_iff _).2 ⟨by omega,by omega⟩)
      rw [kids_struct h4] at hc
      obtain ⟨f,hf,rfl⟩:=List.mem_map.1 hc
      obtain ⟨j,hj,e⟩:=List.mem_iff_getElem.1 hf
      have hfj:fAt d j=f:=by unfold fAt;rw [List.getD_eq_getElem?_getD,List.getElem?_eq_getElem hj];exact e
      have hjg:j<g.vFields.length:=by rw [←hA.len];exact hj
      refine ⟨(fAt g j).vType,?_,?_⟩
      · rw [kids_struct (by rw [←h.kind];exact h4)]
        exact List.mem_map.2 ⟨fAt g j,getD_mem hjg,rfl⟩
      · rw [←hfj];exact (hA.fld j hj).2.2 h4
    · rw [kids_none hk h4] at hc;cases hc
theorem match_of (W:Wf t l) (V:Wf u m) {i k k':Nat} (hi:i<t.vDefs.length) (hc:∀k,Rch t i k→CondK t u k) (hr:Rch t i k) (hk':k'<u.vDefs.length) (he:tx t k=tx u k'):Match t (dAt t k) u (dAt u k'):=by
  have hk:=hr.lt W hi
  rcases tx_eq W V hk hk' he with ⟨a,b,c⟩|h|h
  · obtain ⟨j,hj,hn,hA⟩:=hc k hr a
    have:=name_uniq V hj hk' hn b (by rw [←hA.name,c])
    subst this
    exact .inl ⟨a,b,hA⟩
  · exact .inr (.inl h)
  · exact .inr (.inr h)
section
variable {i j:Nat}
theorem corr_f (W:Wf t l) (V:Wf u m) (hi:i<t.vDefs.length) (hj:j<u.vDefs.length) (E:EqS t i u j) {k:Nat} (h:Rch t i k):∃k',Rch u j k'∧tx t k=tx u k':=by
  induction h with
  |refl=>exact ⟨j, .refl,E.1⟩
  |step h hc ih=>
    obtain ⟨k',hr,he⟩:=ih
    obtain ⟨c',h1,h2⟩:=(match_of W V hi E.2 h (hr.lt V hj) he).kid hc
    exact ⟨c'.toNat, .step hr h1,h2⟩
theorem corr_b (W:Wf t l) (V:Wf u m) (hi:i<t.vDefs.length) (hj:j<u.vDefs.length) (E:EqS t i u j) {k':Nat} (h:Rch u j k'):∃k,Rch t i k∧tx t k=tx u k':=by
  induction h with
  |refl=>exact ⟨i, .refl,E.1⟩
  |step h hc ih=>
    obtain ⟨k,hr,he⟩:=ih
    obtain ⟨c',h1,h2⟩:=(match_of W V hi E.2 hr (h.lt V hj) he).symm.kid hc
    exact ⟨c'.toNat, .step hr h1,h2.symm⟩
theorem EqS.refl (W:Wf t l) (hi:i<t.vDefs.length):EqS t i t i:=⟨rfl,fun k hr hn=>⟨k,hr.lt W hi,hn, .refl⟩⟩
theorem EqS.symm (W:Wf t l) (V:Wf u m) (hi:i<t.vDefs.length) (hj:j<u.vDefs.length) (E:EqS t i u j):EqS u j t i:=by
  refine ⟨E.1.symm,fun k' hr' hn'=>?_⟩
  obtain ⟨k,hr,he⟩:=corr_b W V hi hj E hr'
  have M:=(match_of W V hi E.2 hr (hr'.lt V hj) he).symm
  exact ⟨k,hr.lt W hi,M.named hn',M.alike hn'⟩
theorem EqS.trans {q:Nat} (W:Wf t l) (V:Wf u m) (hi:i<t.vDefs.length) (hj:j<u.vDefs.length) (E:EqS t i u j) (F:EqS u j v q):EqS t i v q:=by
  refine ⟨E.1.trans F.1,fun k hr hn=>?_⟩
  obtain ⟨k',hr',he⟩:=corr_f W V hi hj E hr
  have M:=match_of W V hi E.2 hr (hr'.lt V hj) he
  obtain ⟨k2,h1,h2,h3⟩:=F.2 k' hr' (M.named hn)
  exact ⟨k2,h1,h2,(M.alike hn).trans h3⟩
theorem EqS.part {c c':Nat} (E:EqS t i u j) (hr:Rch t i c) (he:tx t c=tx u c'):EqS t c u c':=⟨he,fun k h=>E.2 k (hr.trans h)⟩
theorem cont_kids {d:api_Def} {c:Int} (h:c∈cont d):c∈kids d:=by
  rcases cont_kind h with e|e|e
  · rw [(inner_ref (known:=[]) (.inl e)).2] at h;rw [kids_ref (by omega)];exact h
  · rw [cont_struct e] at h;rw [kids_struct e];exact h
  · rw [(inner_ref (known:=[]) (.inr e)).2] at h;rw [kids_ref (by omega)];exact h
theorem size_eqP {S:Nat→Prop} (W:Wf t l) (V:Wf u m) (hS:∀k,S k→k<t.vDefs.length) (hSk:∀k,S k→∀c∈kids (dAt t k),S c.toNat) (hM:∀k k',S k→k'<u.vDefs.length→tx t k=tx u k'→Match t (dAt t k) u (dAt u k')):∀(k k':Nat),S k→k'<u.vDefs.length→tx t k=tx u k'→l.getD k 0=m.getD k' 0:=by
  obtain ⟨rk,hg⟩:=W.sz.ex
  obtain ⟨rk',hg'⟩:=V.sz.ex
  have key:∀(R k k':Nat),rk k=R→S k→k'<u.vDefs.length→tx t k=tx u k'→l.getD k 0=m.getD k' 0:=by
    intro R
    induction R using Nat.strongRecOn with
    |_ R ih=>
      intro k k' hR hr hk' he
      have hk:=hS k hr
      have M:=hM k k' hr hk' he
      obtain ⟨_,_,g3,g4⟩:=hg k hk
      obtain ⟨_,_,_,g4'⟩:=hg' k' hk'
      rw [g4,g4']
      show nval (dAt t k) (inner l (dAt t k))=nval (dAt u k') (inner m (dAt u k'))
      have href:(dAt t k).vKind=3∨(dAt t k).vKind=6→inner l (dAt t k)=inner m (dAt u k'):=fun h=>by
        obtain ⟨e1,e2⟩:=inner_ref (known:=l) h
        obtain ⟨e3,e4⟩:=inner_ref (d:=dAt u k') (known:=m) (by rw [←M.kind];exact h)
        rw [e1,e3]
        obtain ⟨r1,r2⟩:=ref_lt W hk (by omega)
        obtain ⟨r3,r4⟩:=ref_lt V hk' (by rw [←M.kind];omega)
        have hcm:(dAt t k).vRef∈cont (dAt t k):=by rw [e2];exact List.mem_singleton.2 rfl
        exact ih _ (by have:=g3 _ hcm;omega) (dAt t k).vRef.toNat (dAt u k').vRef.toNat rfl (hSk k hr _ (cont_kids hcm)) r4 (M.ref (by omega))
      have hkind:=M.kind
      unfold nval
      rw [←hkind]
      by_cases e1:(dAt t k).vKind=1
      · rw [if_pos e1,if_pos e1];exact (M.alike ((named_iff _).2 ⟨by omega,by omega⟩)).int.1
      · rw [if_neg e1,if_neg e1]
        by_cases e2:(dAt t k).vKind=2
        · rw [if_pos e2,if_pos e2]
        · rw [if_neg e2,if_neg e2]
          by_cases e3:(dAt t k).vKind=3
          · rw [if_pos e3,if_pos e3,href (.inl e3)]
            rcases M with ⟨a,b,c⟩|⟨a,b,c⟩|⟨a,b,c,d⟩
            · rw [c.num]
            · omega
            · rw [c]
          · rw [if_neg e3,if_neg e3]
            by_cases e4:(dAt t k).vKind=4
            · rw [if_pos e4,if_pos e4];exact (M.alike ((named_iff _).2 ⟨by omega,by omega⟩)).num
            · rw [if_neg e4,if_neg e4]
              by_cases e5:(dAt t k).vKind=5
              · rw [if_pos e5,if_pos e5]
              · rw [if_neg e5,if_neg e5]
                by_cases e6:(dAt t k).vKind=6
                · rw [if_pos e6,if_pos e6,href (.inr e6)]
                · rw [if_neg e6,if_neg e6]
  exact fun k k'=>key (rk k) k k' rfl
theorem size_eq (W:Wf t l) (V:Wf u m) (hi:i<t.vDefs.length) (hc:∀k,Rch t i k→CondK t u k):∀(k k':Nat),Rch t i k→k'<u.vDefs.length→tx t k=tx u k'→l.getD k 0=m.getD k' 0:=
  size_eqP (S:=Rch t i) W V (fun k h=>h.lt W hi) (fun k h c hc=> .step h hc) (fun k k' h hk' he=>match_of W V hi hc h hk' he)
theorem res_corr (W:Wf t l) (V:Wf u m) (hi:i<t.vDefs.length) (hj:j<u.vDefs.length) (hc:∀k,Rch t i k→CondK t u k) {k k':Nat} (hr:Rch t i k) (hr':Rch u j k') (he:tx t k=tx u k'):
    ∃r r',Ev (fun n=>ctf_resolved.f n t (k:Int)) ((r:Nat):Int)∧Ev (fun n=>ctf_resolved.f n u (k':Int)) ((r':Nat):Int)∧Rch t i r∧Rch u j r'∧tx t r=tx u r':=by
  obtain ⟨rk,hg⟩:=W.sz.ex
  have key:∀(R k k':Nat),rk k=R→Rch t i k→Rch u j k'→tx t k=tx u k'→∃r r',Ev (fun n=>ctf_resolved.f n t (k:Int)) ((r:Nat):Int)∧Ev (fun n=>ctf_resolved.f n u (k':Int)) ((r':Nat):Int)∧Rch t i r∧Rch u j r'∧tx t r=tx u r':=by
    have stay:∀{t:api_Types} {k:Nat},k<t.vDefs.length→(dAt t k).vKind≠6→Ev (fun n=>ctf_resolved.f n t (k:Int)) ((k:Nat):Int):=fun {t k} hk h6=>Ev.succ (Ev.pure fun n=>by
      unfold ctf_resolved.f
      rw [ctf_resolved.l0,if_pos (by omega),rd_dAt,if_neg (beqF h6)]
      rfl)
    have go:∀{t:api_Types} {k r q:Nat},k<t.vDefs.length→(dAt t k).vKind=6→(dAt t k).vRef=((q:Nat):Int)→Ev (fun n=>ctf_resolved.f n t (q:Int)) ((r:Nat):Int)→Ev (fun n=>ctf_resolved.f n t (k:Int)) ((r:Nat):Int):=fun {t k r q} hk h6 hq h=>by
      obtain ⟨K,hK⟩:=h
      refine ⟨K+1,fun n hn=>?_⟩
      obtain ⟨n,rfl⟩:∃x,n=x+1:=⟨n-1,by omega⟩
      have:=hK n (by omega)
      show ctf_resolved.f (n+1) t (k:Int)=_
      unfold ctf_resolved.f
      rw [ctf_resolved.l0,if_pos (by omega),rd_dAt,if_pos (beqT h6),if_pos (by omega),hq]
      exact this
    intro R
    induction R using Nat.strongRecOn with
    |_ R ih=>
      intro k k' hR hr hr' he
      have hk:=hr.lt W hi
      have hk':=hr'.lt V hj
      have M:=match_of W V hi hc hr hk' he
      by_cases h6:(dAt t k).vKind=6
      · have h6':(dAt u k').vKind=6:=by rw [←M.kind];exact h6
        obtain ⟨r1,r2⟩:=ref_lt W hk (by omega)
        obtain ⟨r3,r4⟩:=ref_lt V hk' (by omega)
        have hcm:(dAt t k).vRef∈cont (dAt t k):=by rw [(inner_ref (known:=[]) (.inr h6)).2];exact List.mem_singleton.2 rfl
        have hcm':(dAt u k').vRef∈cont (dAt u k'):=by rw [(inner_ref (known:=[]) (.inr h6')).2];exact List.mem_singleton.2 rfl
        obtain ⟨r,r',a,b,c,d,e⟩:=ih _ (by have:=(hg k hk).2.2.1 _ hcm;omega) (dAt t k).vRef.toNat (dAt u k').vRef.toNat rfl (.step hr (cont_kids hcm)) (.step hr' (cont_kids hcm')) (M.ref (by omega))
        exact ⟨r,r',go hk h6 r1 a,go hk' h6' r3 b,c,d,e⟩
      · exact ⟨k,k',stay hk h6,stay hk' (by rw [←M.kind];exact h6),hr,hr',he⟩
  exact key (rk k) k k' rfl hr hr' he
theorem find_both {p:api_Field→Bool}:∀(a b:List api_Field),a.length=b.length→(∀j,j<a.length→p (a.getD j z_api_Field)=p (b.getD j z_api_Field))→
    (a.find? p=none∧b.find? p=none)∨∃j,j<a.length∧a.find? p=some (a.getD j z_api_Field)∧b.find? p=some (b.getD j z_api_Field)
  |[],[],_,_=> .inl ⟨rfl,rfl⟩
  |[],_::_,h,_=>by simp at h
  |_::_,[],h,_=>by simp at h
  |x::a,y::b,h,hp=>by
    have h0:=hp 0 (by simp)
    rw [List.getD_cons_zero,List.getD_cons_zero] at h0
    rw [List.find?_cons,List.find?_cons,←h0]
    cases hx:p x with
    |true=>exact .inr ⟨0,by simp,rfl,rfl⟩
    |false=>
      rcases find_both a b (by simpa using h) (fun j hj=>by simpa using hp (j+1) (by simpa using hj)) with ⟨h1,h2⟩|⟨j,h1,h2,h3⟩
      · exact .inl ⟨h1,h2⟩
      · exact .inr ⟨j+1,by simpa using h1,by simpa using h2,by simpa using h3⟩
theorem mem_corr (W:Wf t l) (V:Wf u m) (hi:i<t.vDefs.length) (hj:j<u.vDefs.length) (hc:∀k,Rch t i k→CondK t u k) {mt mu:Nat→ByteArray→api_Field×Int} (hmt:MemOk t mt) (hmu:MemOk u mu) {k k':Nat} (hr:Rch t i k) (hr':Rch u j k') (he:tx t k=tx u k') (name:ByteArray):
    (mt k name).2=(mu k' name).2∧((mt k name).2=0→(mt k name).1.vAt=(mu k' name).1.vAt∧Rch t i (mt k name).1.vType.toNat∧Rch u j (mu k' name).1.vType.toNat∧tx t (mt k name).1.vType.toNat=tx u (mu k' name).1.vType.toNat):=by
  obtain ⟨r,r',h1,h2,h3,h4,h5⟩:=res_corr W V hi hj hc hr hr' he
  have hrl:=h3.lt W hi
  have hrl':=h4.lt V hj
  rw [(hmt.ev k name (hr.lt W hi)).uniq (member_ev W.good hrl h1),(hmu.ev k' name (hr'.lt V hj)).uniq (member_ev V.good hrl' h2)]
  have M:=match_of W V hi hc h3 hrl' h5
  show (memS (dAt t r) name).2=(memS (dAt u r') name).2∧((memS (dAt t r) name).2=0→(memS (dAt t r) name).1.vAt=(memS (dAt u r') name).1.vAt∧Rch t i (memS (dAt t r) name).1.vType.toNat∧Rch u j (memS (dAt u r') name).1.vType.toNat∧tx t (memS (dAt t r) name).1.vType.toNat=tx u (memS (dAt u r') name).1.vType.toNat)
  unfold memS
  by_cases k4:(dAt t r).vKind=4
  · have k4':(dAt u r').vKind=4:=by rw [←M.kind];exact k4
    have hA:=M.alike ((named_iff _).2 ⟨by omega,by omega⟩)
    rw [if_neg (fun h=>h k4),if_neg (fun h=>h k4')]
    rcases find_both (p:=fun f=>strEq f.vName name) (dAt t r).vFields (dAt u r').vFields hA.len (fun x hx=>by
      have:=(hA.fld x hx).1
      unfold fAt at this
      show strEq _ name=strEq _ name
      rw [this]) with ⟨a,b⟩|⟨x,hx,a,b⟩
    · rw [a,b];exact ⟨rfl,fun h=>by cases h⟩
    · rw [a,b]
      have hF:=hA.fld x hx
      refine ⟨rfl,fun _=>⟨hF.2.1,?_,?_,hF.2.2 k4⟩⟩
      · exact .step (c:=(fAt (dAt t r) x).vType) h3 (by rw [kids_struct k4];exact List.mem_map.2 ⟨_,getD_mem hx,rfl⟩)
      · exact .step (c:=(fAt (dAt u r') x).vType) h4 (by rw [kids_struct k4'];exact List.mem_map.2 ⟨_,getD_mem (by rw [←hA.len];exact hx),rfl⟩)
  · have k4':(dAt u r').vKind≠4:=by rw [←M.kind];exact k4
    rw [if_pos k4,if_pos k4']
    exact ⟨rfl,fun h=>by cases h⟩
theorem path_corr (W:Wf t l) (V:Wf u m) (hi:i<t.vDefs.length) (hj:j<u.vDefs.length) (hc:∀k,Rch t i k→CondK t u k) {mt mu:Nat→ByteArray→api_Field×Int} (hmt:MemOk t mt) (hmu:MemOk u mu):∀(p:List ByteArray) (k k':Nat) (a:Int),Rch t i k→Rch u j k'→tx t k=tx u k'→
    (pathV mt p k a).2.2=(pathV mu p k' a).2.2∧(pathV mt p k a).2.1=(pathV mu p k' a).2.1∧((pathV mt p k a).2.2=0→∃c c',(pathV mt p k a).1=((c:Nat):Int)∧(pathV mu p k' a).1=((c':Nat):Int)∧Rch t i c∧Rch u j c'∧tx t c=tx u c')
  |[],k,k',a,hr,hr',he=>⟨rfl,rfl,fun _=>⟨k,k',rfl,rfl,hr,hr',he⟩⟩
  |x::p,k,k',a,hr,hr',he=>by
    obtain ⟨h1,h2⟩:=mem_corr W V hi hj hc hmt hmu hr hr' he x
    simp only [pathV]
    by_cases h0:(mt k x).2=0
    · obtain ⟨h3,h4,h5,h6⟩:=h2 h0
      rw [if_neg (fun h=>h h0),if_neg (fun h=>h (by rw [←h1];exact h0)),←h3]
      exact path_corr W V hi hj hc hmt hmu p _ _ _ h4 h5 h6
    · rw [if_pos h0,if_pos (by rw [←h1];exact h0),←h1]
      exact ⟨rfl,rfl,fun h=>absurd h h0⟩
end
theorem Text_ok (W:Wf t l) (hv:Ev (fun k=>ctf_valid.f k t) true) {i:Nat} (hi:i<t.vDefs.length):Ev (fun k=>ctf_Text.f k t (i:Int)) (tx t i,0):=by
  obtain ⟨K,hK⟩:=given_in hv hi
  obtain ⟨⟨K2,hK2⟩,_⟩:=text_ev W hi
  refine ⟨K+K2,fun k hk=>?_⟩
  show ctf_Text.f k t (i:Int)=_
  unfold ctf_Text.f
  rw [show ctf_given.f k t (i:Int)=_ from hK k (by omega)]
  simp only [Option.bind_some]
  rw [if_neg (by decide),show ctf_text.f k t (i:Int)=_ from hK2 k (by omega)]
  rfl
theorem Path_long (hv:Ev (fun k=>ctf_valid.f k t) true) {i:Nat} (hi:i<t.vDefs.length) {p:List ByteArray} (hp:¬p.length≤16):Ev (fun k=>ctf_Path.f k t (i:Int) p) (0,0,2):=by
  obtain ⟨K,hK⟩:=given_in hv hi
  refine ⟨K,fun k hk=>?_⟩
  show ctf_Path.f k t (i:Int) p=_
  unfold ctf_Path.f
  rw [show ctf_given.f k t (i:Int)=_ from hK k hk]
  simp only [Option.bind_some]
  rw [if_neg (by decide),if_pos (decide_eq_true (by omega))]
theorem EqX.in_ (hF:∀d∈t.vDefs,FitD d) (hG:∀d∈u.vDefs,FitD d) {a b:Int} (h:EqX t a u b):∃i j l m,a=((i:Nat):Int)∧b=((j:Nat):Int)∧i<t.vDefs.length∧j<u.vDefs.length∧Wf t l∧Wf u m∧Ev (fun k=>ctf_valid.f k t) true∧Ev (fun k=>ctf_valid.f k u) true∧EqS t i u j:=by
  obtain ⟨i,j,⟨rfl,hi,l,W⟩,⟨rfl,hj,m,V⟩,E⟩:=h
  exact ⟨i,j,l,m,rfl,rfl,hi,hj,W,V,valid_wf hF W,valid_wf hG V,E⟩
theorem EqX.symm {a b:Int} (h:EqX t a u b):EqX u b t a:=by
  obtain ⟨i,j,⟨rfl,hi,l,W⟩,⟨rfl,hj,m,V⟩,E⟩:=h
  exact ⟨j,i,⟨rfl,hj,m,V⟩,⟨rfl,hi,l,W⟩,E.symm W V hi hj⟩
theorem EqX.trans {a b c:Int} (h:EqX t a u b) (g:EqX u b v c):EqX t a v c:=by
  obtain ⟨i,j,⟨rfl,hi,l,W⟩,⟨rfl,hj,m,V⟩,E⟩:=h
  obtain ⟨j',q,⟨e,_,_⟩,hq,F⟩:=g
  have e:j=j':=Int.ofNat.inj e
  subst e
  exact ⟨i,q,⟨rfl,hi,l,W⟩,hq,E.trans W V hi hj F⟩
end
end Go.Proofs.YtfjppgobidjndaaDoor
namespace Go.Proofs.YtfjppgobidjndaaDoor
open Go.RowKit Go.M
theorem pigeon:∀(n:Nat) (f:Nat→Nat),(∀i,i≤n→f i<n)→∃a b,a<b∧b≤n∧f a=f b
  |0,f,h=>absurd (h 0 (Nat.le_refl _)) (by omega)
  |n+1,f,h=>by
    by_cases hx:∃a,a≤n∧f a=f (n+1)
    · obtain ⟨a,h1,h2⟩:=hx
      exact ⟨a,n+1,by omega,by omega,h2⟩
    · have hne:∀a,a≤n→f a≠f (n+1):=fun a ha e=>hx ⟨a,ha,e⟩
      obtain ⟨a,b,h1,h2,h3⟩:=pigeon n (fun i=>if f i=n then f (n+1) else f i) (fun i hi=>by
        have h4:=h i (by omega)
        have h5:=h (n+1) (by omega)
        have h6:=hne i hi
        show (if f i=n then f (n+1) else f i)<n
        split
        · omega
        · omega)
      have h3:(if f a=n then f (n+1) else f a)=(if f b=n then f (n+1) else f b):=h3
      refine ⟨a,b,h1,by omega,?_⟩
      have ha:=hne a (by omega)
      have hb:=hne b h2
      split at h3<;>split at h3<;>omega
def hop (t:api_Types) (i:Nat):Nat:=(dAt t i).vRef.toNat
def hops (t:api_Types):Nat→Nat→Nat
  |0,i=>i
  |e+1,i=>hops t e (hop t i)
theorem hops_add (t:api_Types):∀(a b i:Nat),hops t (a+b) i=hops t b (hops t a i)
  |0,b,i=>by rw [Nat.zero_add];rfl
  |a+1,b,i=>by
    rw [Nat.add_right_comm]
    exact hops_add t a b (hop t i)
section
variable {t:api_Types}
theorem rd_ref {i:Nat}:rd z_api_Def t.vDefs (dAt t i).vRef=dAt t (hop t i):=rfl
theorem lost_iff:∀(m i:Nat),lostS t.vDefs m (dAt t i)=false↔∃e,e≤m∧namedS (dAt t (hops t e i))=true
  |0,i=>by
    simp only [lostS,Bool.not_eq_false']
    refine ⟨fun h=>⟨0,Nat.le_refl _,h⟩,fun ⟨e,he,h⟩=>?_⟩
    obtain rfl:e=0:=by omega
    exact h
  |m+1,i=>by
    simp only [lostS,rd_ref]
    by_cases hn:namedS (dAt t i)=true
    · rw [if_pos hn]
      exact ⟨fun _=>⟨0,by omega,hn⟩,fun _=>rfl⟩
    · rw [if_neg hn,lost_iff m (hop t i)]
      constructor
      · rintro ⟨e,h1,h2⟩
        exact ⟨e+1,by omega,h2⟩
      · rintro ⟨e,h1,h2⟩
        cases e with
        |zero=>exact absurd h2 hn
        |succ e=>exact ⟨e,by omega,h2⟩
theorem lost_soon {n m:Nat} (hlt:∀i,i<n→namedS (dAt t i)=false→hop t i<n) {i:Nat} (hi:i<n) (h:lostS t.vDefs m (dAt t i)=false):lostS t.vDefs n (dAt t i)=false:=by
  obtain ⟨e,_,he⟩:=(lost_iff m i).1 h
  have key:∀e,namedS (dAt t (hops t e i))=true→∃e',e'≤n∧namedS (dAt t (hops t e' i))=true:=by
    intro e
    induction e using Nat.strongRecOn with
    |_ e ih=>
      intro he
      by_cases hen:e≤n
      · exact ⟨e,hen,he⟩
      · by_cases hx:∃e',e'<e∧namedS (dAt t (hops t e' i))=true
        · obtain ⟨e',h1,h2⟩:=hx
          exact ih e' h1 h2
        · have hno:∀e',e'<e→namedS (dAt t (hops t e' i))=false:=fun e' h1=>by
            cases hb:namedS (dAt t (hops t e' i)) with
            |false=>rfl
            |true=>exact absurd ⟨e',h1,hb⟩ hx
          have hin:∀a,a≤n→hops t a i<n:=by
            intro a
            induction a with
            |zero=>intro _;exact hi
            |succ a iha=>
              intro ha
              rw [hops_add t a 1 i]
              exact hlt _ (iha (by omega)) (hno a (by omega))
          obtain ⟨a,b,h1,h2,h3⟩:=pigeon n (fun a=>hops t a i) hin
          have h4:hops t e i=hops t (a+(e-b)) i:=by
            rw [show e=b+(e-b) by omega,hops_add,hops_add,←h3]
            congr 1;omega
          rw [h4] at he
          rw [hno _ (by omega)] at he
          cases he
  obtain ⟨e',h1,h2⟩:=key e he
  exact (lost_iff n i).2 ⟨e',h1,h2⟩
end
def Bd (ch:Nat→List Nat):Nat→Nat→Prop
  |0,q=>ch q=[]
  |B+1,q=>∀c∈ch q,Bd ch B c
theorem Bd.up {ch:Nat→List Nat}:∀{B q:Nat},Bd ch B q→Bd ch (B+1) q
  |0,q,h=>fun c hc=>by rw [show ch q=[] from h] at hc;cases hc
  |B+1,q,h=>fun c hc=>(h c hc).up
theorem Bd.le {ch:Nat→List Nat} {q:Nat}:∀{B C:Nat},B≤C→Bd ch B q→Bd ch C q
  |B,0,h,hb=>by
    obtain rfl:B=0:=by omega
    exact hb
  |B,C+1,h,hb=>by
    by_cases e:B=C+1
    · subst e;exact hb
    · exact (Bd.le (by omega) hb).up
theorem rank_of {ch:Nat→List Nat} {n:Nat} (hlt:∀q,q<n→∀c∈ch q,c<n) (h:∀q,q<n→∃B,Bd ch B q):∃rk:Nat→Nat,∀q,q<n→∀c∈ch q,rk c<rk q:=by
  have hm:∀q,∃B,q<n→Bd ch B q∧∀C,Bd ch C q→B≤C:=by
    intro q
    by_cases hq:q<n
    · obtain ⟨B,hB⟩:=h q hq
      have key:∀B,Bd ch B q→∃A,Bd ch A q∧∀C,Bd ch C q→A≤C:=by
        intro B
        induction B using Nat.strongRecOn with
        |_ B ih=>
          intro hB
          by_cases hx:∃C,C<B∧Bd ch C q
          · obtain ⟨C,h1,h2⟩:=hx
            exact ih C h1 h2
          · exact ⟨B,hB,fun C hC=>by
              rcases Nat.lt_or_ge C B with h|h
              · exact absurd ⟨C,h,hC⟩ hx
              · exact h⟩
      obtain ⟨A,hA⟩:=key B hB
      exact ⟨A,fun _=>hA⟩
    · exact ⟨0,fun h=>absurd h hq⟩
  refine ⟨fun q=>Classical.choose (hm q),fun q hq c hc=>?_⟩
  obtain ⟨h1,_⟩:=Classical.choose_spec (hm q) hq
  obtain ⟨_,h4⟩:=Classical.choose_spec (hm c) (hlt q hq c hc)
  show Classical.choose (hm c)<Classical.choose (hm q)
  generalize Classical.choose (hm q)=B at h1⊢
  cases B with
  |zero=>rw [show ch q=[] from h1] at hc;cases hc
  |succ B=>exact Nat.lt_succ_of_le (h4 B (h1 c hc))
theorem size_match {t u:api_Types} {l m:List Int} (W:Wf t l) (V:Wf u m) (hM:∀k k',k<t.vDefs.length→k'<u.vDefs.length→tx t k=tx u k'→Match t (dAt t k) u (dAt u k')):
    ∀(k k':Nat),k<t.vDefs.length→k'<u.vDefs.length→tx t k=tx u k'→l.getD k 0=m.getD k' 0:=
  size_eqP (S:=fun k=>k<t.vDefs.length) W V (fun k h=>h) (fun k h c hc=>(kids_range W h hc).2) hM
end Go.Proofs.YtfjppgobidjndaaDoor
namespace Go.Proofs.YtfjppgobidjndaaDoor
open Go.RowKit Go.M
abbrev Src:=List (api_Types×Nat)
def sT (s:Src) (q:Nat):api_Types:=(s.getD q (⟨[]⟩,0)).1
def sI (s:Src) (q:Nat):Nat:=(s.getD q (⟨[]⟩,0)).2
def dS (s:Src) (q:Nat):api_Def:=dAt (sT s q) (sI s q)
noncomputable def xS (s:Src) (q:Nat):ByteArray:=tx (sT s q) (sI s q)
abbrev isRef (k:Int):Prop:=k=2∨k=3∨k=6
structure Re (u:api_Types) (s:Src) (q:Nat):Prop where
  kind:(dAt u q).vKind=(dS s q).vKind
  name:(dAt u q).vName=(dS s q).vName
  int:(dAt u q).vInt=(dS s q).vInt
  num:(dAt u q).vN=(dS s q).vN
  ref:isRef (dS s q).vKind→∃r:Nat,(dAt u q).vRef=(r:Int)∧r<s.length∧xS s r=tx (sT s q) (dS s q).vRef.toNat
  ref0:¬isRef (dS s q).vKind→(dAt u q).vRef=(dS s q).vRef
  flen:(dAt u q).vFields.length=(dS s q).vFields.length
  fld:∀j,j<(dS s q).vFields.length→(fAt (dAt u q) j).vName=(fAt (dS s q) j).vName∧(fAt (dAt u q) j).vAt=(fAt (dS s q) j).vAt∧
    ((dS s q).vKind=4→∃r:Nat,(fAt (dAt u q) j).vType=(r:Int)∧r<s.length∧xS s r=tx (sT s q) (fAt (dS s q) j).vType.toNat)∧((dS s q).vKind≠4→(fAt (dAt u q) j).vType=(fAt (dS s q) j).vType)
structure Built (u:api_Types) (s:Src):Prop where
  len:u.vDefs.length=s.length
  few:s.length≤200
  src:∀q,q<s.length→(∃l,Wf (sT s q) l)∧sI s q<(sT s q).vDefs.length
  re:∀q,q<s.length→Re u s q
  names:∀q r,q<s.length→r<s.length→namedS (dS s q)=true→namedS (dS s r)=true→(dS s q).vName=(dS s r).vName→q=r
  same:∀q r,q<s.length→r<s.length→∀k k',k<(sT s q).vDefs.length→k'<(sT s r).vDefs.length→tx (sT s q) k=tx (sT s r) k'→Match (sT s q) (dAt (sT s q) k) (sT s r) (dAt (sT s r) k')
theorem fieldsS_congr {d e:api_Def} {n m:Int}:∀(a b:List api_Field) (ns:List ByteArray),a.length=b.length→(∀j,j<a.length→(a.getD j z_api_Field).vName=(b.getD j z_api_Field).vName)→
    (∀j,j<a.length→fieldOk d n (a.getD j z_api_Field)=true→fieldOk e m (b.getD j z_api_Field)=true)→fieldsS d n ns a=true→fieldsS e m ns b=true
  |[],[],_,_,_,_,_=>rfl
  |[],_::_,_,h,_,_,_=>by simp at h
  |_::_,[],_,h,_,_,_=>by simp at h
  |x::a,y::b,ns,h,hn,hf,hh=>by
    have n0:=hn 0 (by simp)
    have f0:=hf 0 (by simp)
    rw [List.getD_cons_zero,List.getD_cons_zero] at n0 f0
    simp only [fieldsS,Bool.and_eq_true] at hh⊢
    obtain ⟨⟨⟨h1,h2⟩,h3⟩,h4⟩:=hh
    rw [←n0]
    exact ⟨⟨⟨h1,h2⟩,f0 h3⟩,fieldsS_congr a b _ (by simpa using h) (fun j hj=>by simpa using hn (j+1) (by simpa using hj)) (fun j hj=>by simpa using hf (j+1) (by simpa using hj)) h4⟩
theorem fieldOk_5 {d:api_Def} {n:Int} {f:api_Field} (h:d.vKind≠4) (h5:d.vKind≠5):fieldOk d n f=true:=by unfold fieldOk;simp [h,h5]
theorem fieldOk_4 {d:api_Def} {n:Int} {f:api_Field} (h:d.vKind=4) (h0:0≤f.vType) (h1:f.vType<n):fieldOk d n f=true:=by
  unfold fieldOk
  have h2:¬f.vType<0:=by omega
  have h3:¬n≤f.vType:=by omega
  simp [h,h2,h3]
theorem fieldOk_same {d e:api_Def} {n m:Int} {f g:api_Field} (hk:d.vKind=5) (hk2:e.vKind=5) (ht:f.vType=g.vType) (ha:f.vAt=g.vAt) (h:fieldOk d n f=true):fieldOk e m g=true:=by
  unfold fieldOk at h⊢
  rw [hk2,←ht,←ha]
  rw [hk] at h
  simpa using h
theorem defsS_of {n:Nat}:∀(ns:List ByteArray) (l:List api_Def),(∀d∈l,shapedS d (n:Int)=true)→(∀d∈l,namedS d=true→d.vName∉ns)→(∀i j,i<j→j<l.length→namedS (l.getD j z_api_Def)=true→(l.getD i z_api_Def).vName≠(l.getD j z_api_Def).vName)→defsS n ns l=true
  |_,[],_,_,_=>rfl
  |ns,d::r,h1,h2,h3=>by
    simp only [defsS,Bool.and_eq_true,Bool.not_eq_true']
    refine ⟨⟨h1 d List.mem_cons_self,?_⟩,defsS_of _ r (fun x hx=>h1 x (List.mem_cons_of_mem _ hx)) (fun x hx hn hm=>?_) (fun i j hij hj hn=>?_)⟩
    · cases hn:namedS d with
      |false=>rfl
      |true=>
        rw [Bool.true_and,Bool.eq_false_iff]
        intro h
        obtain ⟨y,hy,e⟩:=List.any_eq_true.1 h
        rw [←strEq_iff.1 e] at hy
        exact h2 d List.mem_cons_self hn hy
    · rcases List.mem_cons.1 hm with e|hm
      · obtain ⟨j,hj,ej⟩:=List.mem_iff_getElem.1 hx
        have hg:r.getD j z_api_Def=x:=by rw [List.getD_eq_getElem?_getD,List.getElem?_eq_getElem hj];exact ej
        have:=h3 0 (j+1) (by omega) (by simpa using hj) (by rw [List.getD_cons_succ,hg];exact hn)
        rw [List.getD_cons_succ,List.getD_cons_zero,hg] at this
        exact this e.symm
      · exact h2 x (List.mem_cons_of_mem _ hx) hn hm
    · have:=h3 (i+1) (j+1) (by omega) (by simpa using hj) (by rw [List.getD_cons_succ];exact hn)
      rwa [List.getD_cons_succ,List.getD_cons_succ] at this
section
variable {u:api_Types} {s:Src}
theorem dAt_of_mem {t:api_Types} {d:api_Def} (h:d∈t.vDefs):∃q,q<t.vDefs.length∧dAt t q=d:=by
  obtain ⟨q,hq,e⟩:=List.mem_iff_getElem.1 h
  exact ⟨q,hq,by unfold dAt;rw [List.getD_eq_getElem?_getD,List.getElem?_eq_getElem hq];exact e⟩
theorem Built.named (B:Built u s) {q:Nat} (hq:q<s.length):namedS (dAt u q)=namedS (dS s q):=by
  unfold namedS;rw [(B.re q hq).kind]
theorem Built.shaped (B:Built u s) {q:Nat} (hq:q<s.length):shapedS (dAt u q) (u.vDefs.length:Int)=true:=by
  obtain ⟨⟨l,W⟩,hi⟩:=B.src q hq
  have R:=B.re q hq
  have h:=shaped_mem _ _ W.defs _ (dAt_mem hi)
  have h:shapedS (dS s q) ((sT s q).vDefs.length:Int)=true:=h
  rw [B.len]
  unfold shapedS at h⊢
  rw [R.kind,R.name,R.int,R.num,R.flen]
  cases hs:shp (dS s q).vKind with
  |none=>rw [hs] at h;cases h
  |some σ=>
    rw [hs] at h
    have hσ:σ.vref=decide (isRef (dS s q).vKind):=by
      have:=shp_ref (dS s q).vKind
      rw [hs] at this
      exact this
    simp only [Bool.and_eq_true] at h⊢
    obtain ⟨⟨⟨⟨⟨⟨h1,h2⟩,h3⟩,h4⟩,h5⟩,h6⟩,h7⟩:=h
    refine ⟨⟨⟨⟨⟨⟨h1,h2⟩,?_⟩,h4⟩,h5⟩,h6⟩,?_⟩
    · by_cases hr:isRef (dS s q).vKind
      · obtain ⟨r,e,hlt,_⟩:=R.ref hr
        rw [hσ,decide_eq_true hr,if_pos rfl,e,decide_eq_true (by omega),decide_eq_true (by omega)]
        rfl
      · rw [hσ,decide_eq_false hr,if_neg (by simp)] at h3⊢
        rw [R.ref0 hr];exact h3
    · refine fieldsS_congr (dS s q).vFields (dAt u q).vFields [] R.flen.symm (fun j hj=>(R.fld j hj).1.symm) (fun j hj hok=>?_) h7
      obtain ⟨g1,g2,g3,g4⟩:=R.fld j hj
      by_cases h4:(dS s q).vKind=4
      · obtain ⟨r,e,hlt,_⟩:=g3 h4
        exact fieldOk_4 (by rw [R.kind];exact h4) (by show 0≤(fAt (dAt u q) j).vType;omega) (by show (fAt (dAt u q) j).vType<_;omega)
      · by_cases h5:(dS s q).vKind=5
        · exact fieldOk_same h5 (by rw [R.kind];exact h5) (g4 h4).symm g2.symm hok
        · exact fieldOk_5 (by rw [R.kind];exact h4) (by rw [R.kind];exact h5)
theorem anon_name {d:api_Def} {n:Int} (h:shapedS d n=true) (hn:namedS d=false):d.vName=ByteArray.empty:=by
  have hk:d.vKind=2∨d.vKind=3:=anon_kind (by rw [hn];simp)
  unfold shapedS shp at h
  rcases hk with e|e
  · simp only [e,Int.reduceEq,if_true,if_false,Bool.and_eq_true] at h
    exact strEq_iff.1 h.1.1.1.1.1.1
  · simp only [e,Int.reduceEq,if_true,if_false,Bool.and_eq_true] at h
    exact strEq_iff.1 h.1.1.1.1.1.1
theorem nameS_ne {a:ByteArray} (h:nameS a=true):a≠ByteArray.empty:=by
  rintro rfl
  revert h;decide
theorem Built.defs (B:Built u s):defsS u.vDefs.length [] u.vDefs=true:=by
  have hsh:∀d∈u.vDefs,shapedS d (u.vDefs.length:Int)=true:=fun d hd=>by
    obtain ⟨q,hq,rfl⟩:=dAt_of_mem hd
    exact B.shaped (by rw [←B.len];exact hq)
  refine defsS_of [] u.vDefs hsh (fun _ _ _ h=>by cases h) (fun i j hij hj hn e=>?_)
  have hjs:j<s.length:=by rw [←B.len];exact hj
  have his:i<s.length:=by omega
  have hnj:namedS (dAt u j)=true:=hn
  by_cases hni:namedS (dAt u i)=true
  · have:=B.names i j his hjs (by rw [←B.named his];exact hni) (by rw [←B.named hjs];exact hnj) (by rw [←(B.re i his).name,←(B.re j hjs).name];exact e)
    omega
  · rw [Bool.not_eq_true] at hni
    have h1:=anon_name (B.shaped his) hni
    have h2:=name_of (B.shaped hjs) hnj
    exact nameS_ne h2 ((show (dAt u i).vName=(dAt u j).vName from e).symm.trans h1)
theorem Built.hop (B:Built u s) {q:Nat} (hq:q<s.length) (hr:isRef (dS s q).vKind):hop u q<s.length∧xS s (hop u q)=tx (sT s q) (dS s q).vRef.toNat:=by
  obtain ⟨r,e,h1,h2⟩:=(B.re q hq).ref hr
  unfold Go.Proofs.YtfjppgobidjndaaDoor.hop
  rw [e,Int.toNat_natCast]
  exact ⟨h1,h2⟩
theorem Built.lost (B:Built u s):∀(m q:Nat) (t:api_Types) (k:Nat),q<s.length→(∃l,Wf t l)→k<t.vDefs.length→xS s q=tx t k→lostS t.vDefs m (dAt t k)=false→lostS u.vDefs m (dAt u q)=false:=by
  intro m
  induction m with
  |zero=>
    intro q t k hq hW hk he h
    obtain ⟨l,W⟩:=hW
    obtain ⟨⟨l',W'⟩,hi⟩:=B.src q hq
    simp only [lostS,Bool.not_eq_false'] at h⊢
    rw [B.named hq]
    rcases tx_eq W' W hi hk he with ⟨a,_,_⟩|⟨a,b,c⟩|⟨a,b,c⟩
    · exact a
    · obtain ⟨h2,h3⟩:=(named_iff _).1 h;exact absurd b h2
    · obtain ⟨h2,h3⟩:=(named_iff _).1 h;exact absurd b h3
  |succ m ih=>
    intro q t k hq hW hk he h
    obtain ⟨l,W⟩:=hW
    obtain ⟨⟨l',W'⟩,hi⟩:=B.src q hq
    simp only [lostS,rd_ref] at h⊢
    by_cases hn:namedS (dAt u q)=true
    · rw [if_pos hn]
    · rw [if_neg hn]
      rw [B.named hq] at hn
      have hkind:=anon_kind hn
      obtain ⟨h1,h2⟩:=B.hop hq (by unfold isRef;omega)
      have hkt:namedS (dAt t k)=true→False:=fun hx=>by
        rcases tx_eq W' W hi hk he with ⟨a,_,_⟩|⟨a,b,c⟩|⟨a,b,c⟩
        · exact hn a
        · obtain ⟨h2,h3⟩:=(named_iff _).1 hx;exact h2 b
        · obtain ⟨h2,h3⟩:=(named_iff _).1 hx;exact h3 b
      rw [if_neg hkt] at h
      have hkk:=anon_kind hkt
      have hrl:=ref_lt W hk (by omega)
      have href:tx (sT s q) (dS s q).vRef.toNat=tx t (dAt t k).vRef.toNat:=by
        rcases tx_eq W' W hi hk he with ⟨a,_,_⟩|⟨a,b,c⟩|⟨a,b,c,d⟩
        · exact absurd a hn
        · exact c
        · exact d
      exact ih _ t _ h1 ⟨l,W⟩ hrl.2 (h2.trans href) h
theorem Built.ends (B:Built u s) {q:Nat} (hq:q<s.length):lostS u.vDefs u.vDefs.length (dAt u q)=false:=by
  obtain ⟨⟨l,W⟩,hi⟩:=B.src q hq
  have h:=B.lost _ q (sT s q) (sI s q) hq ⟨l,W⟩ hi rfl (W.ends _ (dAt_mem hi))
  refine lost_soon (t:=u) (n:=u.vDefs.length) (fun i hi hn=>?_) (by rw [B.len];exact hq) h
  rw [B.len] at hi⊢
  rw [B.named hi] at hn
  exact (B.hop hi (by have:=anon_kind (d:=dS s i) (by rw [hn];simp);unfold isRef;omega)).1
theorem Built.sh (B:Built u s):∀d∈u.vDefs,ShD d u.vDefs.length:=defs_of _ _ B.defs
noncomputable def gS (s:Src):List Int:=(List.range s.length).map fun q=>by classical exact if h:∃l,Wf (sT s q) l then (Classical.choose h).getD (sI s q) 0 else 0
theorem gS_at {q:Nat} (hq:q<s.length) {l:List Int} (W:Wf (sT s q) l):(gS s).getD q 0=l.getD (sI s q) 0:=by
  unfold gS
  rw [List.getD_eq_getElem?_getD,List.getElem?_map,List.getElem?_range hq]
  simp only [Option.map_some,Option.getD_some]
  have h:∃l,Wf (sT s q) l:=⟨l,W⟩
  rw [dif_pos h,wf_uniq (Classical.choose_spec h) W]
theorem gS_len:(gS s).length=s.length:=by unfold gS;rw [List.length_map,List.length_range]
theorem Built.cont (B:Built u s) {q:Nat} (hq:q<s.length) {c:Int} (hc:c∈cont (dAt u q)):∃(r:Nat) (c':Int),c=(r:Int)∧r<s.length∧c'∈cont (dS s q)∧xS s r=tx (sT s q) c'.toNat:=by
  have R:=B.re q hq
  rcases cont_kind hc with e|e|e
  · rw [R.kind] at e
    rw [(inner_ref (known:=[]) (.inl (by rw [R.kind];exact e))).2] at hc
    obtain ⟨r,h1,h2,h3⟩:=R.ref (by unfold isRef;omega)
    exact ⟨r,_,by rw [List.mem_singleton.1 hc];exact h1,h2,by rw [(inner_ref (known:=[]) (.inl e)).2];exact List.mem_singleton.2 rfl,h3⟩
  · rw [cont_struct e] at hc
    rw [R.kind] at e
    obtain ⟨f,hf,rfl⟩:=List.mem_map.1 hc
    obtain ⟨j,hj,ej⟩:=List.mem_iff_getElem.1 hf
    have hfj:fAt (dAt u q) j=f:=by unfold fAt;rw [List.getD_eq_getElem?_getD,List.getElem?_eq_getElem hj];exact ej
    rw [R.flen] at hj
    obtain ⟨r,h1,h2,h3⟩:=(R.fld j hj).2.2.1 e
    rw [hfj] at h1
    exact ⟨r,_,h1,h2,by rw [cont_struct e];exact List.mem_map.2 ⟨_,getD_mem hj,rfl⟩,h3⟩
  · rw [R.kind] at e
    rw [(inner_ref (known:=[]) (.inr (by rw [R.kind];exact e))).2] at hc
    obtain ⟨r,h1,h2,h3⟩:=R.ref (by unfold isRef;omega)
    exact ⟨r,_,by rw [List.mem_singleton.1 hc];exact h1,h2,by rw [(inner_ref (known:=[]) (.inr e)).2];exact List.mem_singleton.2 rfl,h3⟩
theorem Built.rank (B:Built u s):∃rk:Nat→Nat,∀q,q<s.length→∀c∈Go.Proofs.YtfjppgobidjndaaDoor.cont (dAt u q),rk c.toNat<rk q:=by
  have hch:∀q,q<s.length→∀c∈(Go.Proofs.YtfjppgobidjndaaDoor.cont (dAt u q)).map Int.toNat,c<s.length:=fun q hq c hc=>by
    obtain ⟨c',h1,rfl⟩:=List.mem_map.1 hc
    obtain ⟨r,_,rfl,h2,_⟩:=B.cont hq h1
    simpa using h2
  have hB:∀q,q<s.length→∃D,Bd (fun q=>(Go.Proofs.YtfjppgobidjndaaDoor.cont (dAt u q)).map Int.toNat) D q:=by
    intro q hq
    obtain ⟨⟨l,W⟩,hi⟩:=B.src q hq
    obtain ⟨rk,hg⟩:=W.sz.ex
    have key:∀(D r k:Nat),rk k=D→r<s.length→k<(sT s q).vDefs.length→xS s r=tx (sT s q) k→Bd (fun q=>(Go.Proofs.YtfjppgobidjndaaDoor.cont (dAt u q)).map Int.toNat) (D+1) r:=by
      intro D
      induction D using Nat.strongRecOn with
      |_ D ih=>
        intro r k hD hr hk he c hc
        obtain ⟨c1,h1,rfl⟩:=List.mem_map.1 hc
        obtain ⟨r2,c2,rfl,h2,h3,h4⟩:=B.cont hr h1
        obtain ⟨_,hir⟩:=B.src r hr
        have M:=B.same r q hr hq _ _ hir hk he
        have hkid:∃c3∈Go.Proofs.YtfjppgobidjndaaDoor.cont (dAt (sT s q) k),tx (sT s r) c2.toNat=tx (sT s q) c3.toNat:=by
          have hk3:=M.kind
          rcases cont_kind h3 with e|e|e
          · have e2:(dAt (sT s q) k).vKind=3:=hk3.symm.trans e
            have h3:c2∈Go.Proofs.YtfjppgobidjndaaDoor.cont (dS s r):=h3
            rw [(inner_ref (known:=[]) (.inl e)).2] at h3
            rw [List.mem_singleton.1 h3]
            exact ⟨_,by rw [(inner_ref (known:=[]) (.inl e2)).2];exact List.mem_singleton.2 rfl,M.ref (.inr (.inl e))⟩
          · have e2:(dAt (sT s q) k).vKind=4:=hk3.symm.trans e
            rw [cont_struct e] at h3
            obtain ⟨c3,h5,h6⟩:=M.kid (c:=c2) (by show c2∈kids (dS s r);rw [kids_struct e];exact h3)
            rw [kids_struct e2] at h5
            exact ⟨c3,by rw [cont_struct e2];exact h5,h6⟩
          · have e2:(dAt (sT s q) k).vKind=6:=hk3.symm.trans e
            have h3:c2∈Go.Proofs.YtfjppgobidjndaaDoor.cont (dS s r):=h3
            rw [(inner_ref (known:=[]) (.inr e)).2] at h3
            rw [List.mem_singleton.1 h3]
            exact ⟨_,by rw [(inner_ref (known:=[]) (.inr e2)).2];exact List.mem_singleton.2 rfl,M.ref (.inr (.inr e))⟩
        obtain ⟨c3,h5,h6⟩:=hkid
        have hlt:=(hg k hk).2.2.1 c3 h5
        have hcr:=cont_range (W.sh _ (dAt_mem hk)) c3 h5
        have:=ih (rk c3.toNat) (by omega) r2 c3.toNat rfl h2 (by omega) (h4.trans h6)
        rw [Int.toNat_natCast]
        exact this.le (by omega)
    exact ⟨_,key _ q (sI s q) rfl hq hi rfl⟩
  obtain ⟨rk,h⟩:=rank_of hch hB
  exact ⟨rk,fun q hq c hc=>h q hq _ (List.mem_map.2 ⟨c,hc,rfl⟩)⟩
theorem Built.size (B:Built u s) {q r k:Nat} (hq:q<s.length) (hr:r<s.length) {l:List Int} (W:Wf (sT s q) l) (hk:k<(sT s q).vDefs.length) (he:xS s r=tx (sT s q) k):(gS s).getD r 0=l.getD k 0:=by
  obtain ⟨⟨m,V⟩,hi⟩:=B.src r hr
  rw [gS_at hr V]
  exact size_match V W (fun a b ha hb=>B.same r q hr hq a b ha hb) _ _ hi hk he
theorem Built.sz (B:Built u s):GoodSz u.vDefs (gS s):=by
  obtain ⟨rk,hrk⟩:=B.rank
  refine ⟨by rw [gS_len,B.len],rk,fun q hq=>?_⟩
  rw [B.len] at hq
  obtain ⟨⟨l,W⟩,hi⟩:=B.src q hq
  obtain ⟨_,hg⟩:=W.sz.ex
  obtain ⟨g1,g2,_,g4⟩:=hg _ hi
  have R:=B.re q hq
  rw [gS_at hq W]
  refine ⟨g1,g2,fun c hc=>hrk q hq c hc,?_⟩
  rw [g4]
  show nval (dS s q) (inner l (dS s q))=nval (dAt u q) (inner (gS s) (dAt u q))
  have href:(dS s q).vKind=3∨(dS s q).vKind=6→inner l (dS s q)=inner (gS s) (dAt u q):=fun h=>by
    rw [(inner_ref (known:=l) h).1,(inner_ref (d:=dAt u q) (known:=gS s) (by rw [R.kind];exact h)).1]
    obtain ⟨r,e,h1,h2⟩:=R.ref (by unfold isRef;omega)
    have hrl:=ref_lt W hi (by show (dS s q).vKind=2∨(dS s q).vKind=3∨(dS s q).vKind=6;omega)
    rw [e]
    exact (B.size hq h1 W hrl.2 h2).symm
  unfold nval
  rw [R.kind,R.int,R.num]
  by_cases e3:(dS s q).vKind=3
  · rw [href (.inl e3)]
  · by_cases e6:(dS s q).vKind=6
    · rw [href (.inr e6)]
    · simp only [if_neg e3,if_neg e6]
theorem placed_congr {l g:List Int} {N:Int}:∀(a b:List api_Field) (x:Int),a.length=b.length→(∀j,j<a.length→(a.getD j z_api_Field).vAt=(b.getD j z_api_Field).vAt∧rd 0 l (a.getD j z_api_Field).vType=rd 0 g (b.getD j z_api_Field).vType)→placedAt l x a=placedAt g x b
  |[],[],x,_,_=>rfl
  |[],_::_,_,h,_=>by simp at h
  |_::_,[],_,h,_=>by simp at h
  |y::a,z::b,x,h,hh=>by
    have h0:=hh 0 (by simp)
    rw [List.getD_cons_zero,List.getD_cons_zero] at h0
    simp only [placedAt,h0.1,h0.2]
    split
    · rfl
    · exact placed_congr (N:=N) a b _ (by simpa using h) (fun j hj=>by simpa using hh (j+1) (by simpa using hj))
theorem Built.wf (B:Built u s):Wf u (gS s):=by
  refine ⟨by rw [B.len];exact B.few,B.defs,B.sz,fun d hd=>?_,fun d hd h4=>?_⟩
  · obtain ⟨q,hq,rfl⟩:=dAt_of_mem hd
    exact B.ends (by rw [←B.len];exact hq)
  · obtain ⟨q,hq,rfl⟩:=dAt_of_mem hd
    rw [B.len] at hq
    obtain ⟨⟨l,W⟩,hi⟩:=B.src q hq
    have R:=B.re q hq
    have h4':(dS s q).vKind=4:=by rw [←R.kind];exact h4
    have hp:=W.placed _ (dAt_mem hi) h4'
    have hp:placedS (dS s q) l=true:=hp
    unfold placedS at hp⊢
    rw [R.num,←placed_congr (l:=l) (g:=gS s) (N:=0) (dS s q).vFields (dAt u q).vFields 0 R.flen.symm (fun j hj=>?_)]
    · exact hp
    · obtain ⟨_,h2,h3,_⟩:=R.fld j hj
      obtain ⟨r,e,hr,hx⟩:=h3 h4'
      have ht:=(W.sh _ (dAt_mem hi)).typ h4' _ (getD_mem (z:=z_api_Field) hj)
      refine ⟨h2.symm,?_⟩
      show rd 0 l (fAt (dS s q) j).vType=rd 0 (gS s) (fAt (dAt u q) j).vType
      rw [e]
      have ht:0≤(fAt (dS s q) j).vType∧(fAt (dS s q) j).vType<(sT s q).vDefs.length:=ht
      exact (B.size hq hr W (by omega) hx).symm
theorem Built.tx (B:Built u s):∀(m q:Nat),q<s.length→lostS u.vDefs m (dAt u q)=false→Go.Proofs.YtfjppgobidjndaaDoor.tx u q=xS s q:=by
  have V:=B.wf
  have base:∀q,q<s.length→namedS (dAt u q)=true→Go.Proofs.YtfjppgobidjndaaDoor.tx u q=xS s q:=fun q hq hn=>by
    obtain ⟨⟨l,W⟩,hi⟩:=B.src q hq
    rw [tx_named (by rw [B.len];exact hq) hn,(B.re q hq).name]
    exact (tx_named hi (by show namedS (dS s q)=true;rw [←B.named hq];exact hn)).symm
  intro m
  induction m with
  |zero=>
    intro q hq h
    simp only [lostS,Bool.not_eq_false'] at h
    exact base q hq h
  |succ m ih=>
    intro q hq h
    simp only [lostS,rd_ref] at h
    by_cases hn:namedS (dAt u q)=true
    · exact base q hq hn
    · rw [if_neg hn] at h
      have hk:=anon_kind hn
      have R:=B.re q hq
      obtain ⟨⟨l,W⟩,hi⟩:=B.src q hq
      obtain ⟨h1,h2⟩:=B.hop hq (by rw [R.kind] at hk;unfold isRef;omega)
      have h3:=ih _ h1 h
      have hqu:q<u.vDefs.length:=by rw [B.len];exact hq
      unfold xS
      rcases hk with e|e
      · rw [tx_ptr V hqu e,tx_ptr W hi (show (dS s q).vKind=2 by rw [←R.kind];exact e)]
        rw [show Go.Proofs.YtfjppgobidjndaaDoor.tx u (dAt u q).vRef.toNat=_ from h3,h2];rfl
      · rw [tx_arr V hqu e,tx_arr W hi (show (dS s q).vKind=3 by rw [←R.kind];exact e)]
        rw [show Go.Proofs.YtfjppgobidjndaaDoor.tx u (dAt u q).vRef.toNat=_ from h3,h2,R.num];rfl
theorem Built.text (B:Built u s) {q:Nat} (hq:q<s.length):Go.Proofs.YtfjppgobidjndaaDoor.tx u q=xS s q:=B.tx _ q hq (B.ends hq)
theorem Built.alike (B:Built u s) {q:Nat} (hq:q<s.length):AlikeS (sT s q) (dS s q) u (dAt u q):=by
  have R:=B.re q hq
  refine ⟨R.kind.symm,R.name.symm,by rw [R.int];exact ⟨rfl,rfl⟩,R.num.symm,fun h=>?_,R.flen.symm,fun j hj=>?_⟩
  · obtain ⟨r,e,h1,h2⟩:=R.ref h
    rw [e,Int.toNat_natCast,B.text h1,h2]
  · obtain ⟨h1,h2,h3,h4⟩:=R.fld j hj
    refine ⟨h1.symm,h2.symm,fun h=>?_⟩
    obtain ⟨r,e,h5,h6⟩:=h3 h
    rw [e,Int.toNat_natCast,B.text h5,h6]
theorem Built.eq (B:Built u s) {t:api_Types} {l:List Int} (W:Wf t l) (hsame:∀q,q<s.length→∀k k',k<t.vDefs.length→k'<(sT s q).vDefs.length→Go.Proofs.YtfjppgobidjndaaDoor.tx t k=Go.Proofs.YtfjppgobidjndaaDoor.tx (sT s q) k'→Match t (dAt t k) (sT s q) (dAt (sT s q) k'))
    {i j:Nat} (hi:i<t.vDefs.length) (hall:∀k,Rch t i k→∃q,q<s.length∧xS s q=Go.Proofs.YtfjppgobidjndaaDoor.tx t k) (hj:j<s.length) (he:xS s j=Go.Proofs.YtfjppgobidjndaaDoor.tx t i):EqS t i u j:=by
  refine ⟨by rw [B.text hj,he],fun k hr hn=>?_⟩
  have hk:=hr.lt W hi
  obtain ⟨q,hq,hx⟩:=hall k hr
  obtain ⟨_,hiq⟩:=B.src q hq
  have M:=hsame q hq k _ hk hiq hx.symm
  have A:=B.alike hq
  refine ⟨q,by rw [B.len];exact hq,?_,(M.alike hn).trans A⟩
  rw [B.named hq]
  exact M.named hn
end
end Go.Proofs.YtfjppgobidjndaaDoor
namespace Go.Proofs.YtfjppgobidjndaaDoor
open Go.RowKit Go.M
theorem mfind_put {ν:Type} (m:List (ByteArray×ν)) (k s:ByteArray) (v:ν):mfind strEq (mput strEq m k v) s=if s=k then some v else mfind strEq m s:=by
  induction m with
  |nil=>
    simp only [mput,mfind]
    by_cases h:s=k
    · rw [if_pos (strEq_iff.2 h),if_pos h]
    · rw [if_neg (fun e=>h (strEq_iff.1 e)),if_neg h]
  |cons p m ih=>
    simp only [mput]
    by_cases hk:strEq k p.1=true
    · rw [if_pos hk]
      have:=strEq_iff.1 hk
      simp only [mfind]
      by_cases hs:s=k
      · rw [if_pos (strEq_iff.2 hs),if_pos hs]
      · rw [if_neg (fun e=>hs (strEq_iff.1 e)),if_neg hs,if_neg (fun e=>hs ((strEq_iff.1 e).trans this.symm))]
    · rw [if_neg hk]
      simp only [mfind]
      by_cases hs:strEq s p.1=true
      · rw [if_pos hs]
        have h1:=strEq_iff.1 hs
        rw [if_neg (fun e=>hk (strEq_iff.2 (e.symm.trans h1))),if_pos hs]
      · rw [if_neg hs,ih,if_neg hs]
theorem fieldsS_names {d:api_Def} {n:Int} {ns:List ByteArray} {l:List api_Field} (h:fieldsS d n ns l=true):∀f∈l,nameS f.vName=true:=fun f hf=>((fields_of ns l h).1 f hf).1
theorem Wf.fit {t:api_Types} {l:List Int} (W:Wf t l):∀d∈t.vDefs,FitD d:=by
  intro d hd
  have h:=shaped_mem _ _ W.defs _ hd
  have hs:=W.sh d hd
  refine ⟨?_,by have:=hs.few;omega,fun f hf=>?_⟩
  · cases hn:namedS d with
    |true=>have:=name_len (name_of h hn);omega
    |false=>rw [anon_name h hn];decide
  · have hf':nameS f.vName=true:=by
      unfold shapedS at h
      cases hsh:shp d.vKind with
      |none=>rw [hsh] at h;cases h
      |some σ=>
        rw [hsh] at h
        simp only [Bool.and_eq_true] at h
        exact fieldsS_names h.2 f hf
    have:=name_len hf'
    omega
def mvS (to:Int→Int) (d:api_Def):api_Def:=
  ⟨d.vKind,d.vName,d.vInt,if isRef d.vKind then to d.vRef else d.vRef,d.vN,if d.vKind=4 then d.vFields.map (fun f=>⟨f.vName,to f.vType,f.vAt⟩) else d.vFields⟩
theorem set_at {α:Type} (a:List α) (x y:α) (b:List α):List.set (a++x::b) a.length y=a++y::b:=by
  induction a with
  |nil=>rfl
  |cons z a ih=>simp only [List.cons_append,List.length_cons,List.set_cons_succ,ih]
theorem getD_at {α:Type} (a:List α) (x z:α) (b:List α):(a++x::b).getD a.length z=x:=by
  rw [List.getD_eq_getElem?_getD,List.getElem?_append_right (Nat.le_refl _),Nat.sub_self];rfl
theorem moved_loop {a1:Nat→Int→Option Int} {to:Int→Int} {L:List api_Field} (hL:L.length≤9223372036854775807):∀(r p:List api_Field),p.length+r.length=L.length→(∀f∈r,Ev (fun k=>a1 k f.vType) (to f.vType))→
    Ev2 (fun k m=>ctf_moved.l0 (a1 k) L m (p.length:Int) (p++r)) (p++r.map (fun f=>⟨f.vName,to f.vType,f.vAt⟩))
  |[],p,hl,_=>by
    refine Ev2.pure fun k m=>?_
    rw [ctf_moved.l0,if_neg (by simp only [List.length_nil] at hl;simp;omega)]
    rfl
  |f::r,p,hl,h=>by
    simp only [List.length_cons] at hl
    have h2:=moved_loop (a1:=a1) (to:=to) hL r (p++[⟨f.vName,to f.vType,f.vAt⟩]) (by simp;omega) (fun g hg=>h g (List.mem_cons_of_mem _ hg))
    have hlt:p.length<L.length:=by omega
    have hr:rd z_api_Field (p++f::r) (p.length:Int)=f:=by rw [rd_nat,getD_at]
    refine Ev2.step (h f List.mem_cons_self) (r:=fun k m v4=>ctf_moved.l0 (a1 k) L m ((p.length+1:Nat):Int) (p++⟨f.vName,v4,f.vAt⟩::r)) ?_ (fun k m=>?_)
    · rw [List.map_cons]
      simp only [List.length_append,List.length_cons,List.length_nil,List.append_assoc,List.singleton_append,Nat.zero_add] at h2
      exact h2
    · rw [ctf_moved.l0,if_pos (by simp;omega),if_pos (by omega),hr]
      simp only [Int.toNat_natCast]
      refine congrArg _ (funext fun v4=>?_)
      rw [if_pos (by omega),wrap_nat hlt hL,set_at]
theorem moved_ev {t:api_Types} {l:List Int} (W:Wf t l) {i:Nat} (hi:i<t.vDefs.length) {a1:Nat→Int→Option Int} {to:Int→Int} (h:∀c∈kids (dAt t i),Ev (fun k=>a1 k c) (to c)):Ev (fun k=>ctf_moved.f k (dAt t i) (a1 k)) (mvS to (dAt t i)):=by
  have hd:=W.sh _ (dAt_mem hi)
  have hfew:=hd.few
  obtain ⟨ms,hms,hsh⟩:=shapes_find (dAt t i).vKind
  have hcl:slices_Clone_api_Field_api_Field.f (dAt t i).vFields=some (dAt t i).vFields:=by unfold slices_Clone_api_Field_api_Field.f;rw [if_pos (by omega)]
  have key:∀(k:Nat),ctf_moved.f k (dAt t i) (a1 k)=((if isRef (dAt t i).vKind then a1 k (dAt t i).vRef else some (dAt t i).vRef).bind fun xx1=>if (dAt t i).vKind=4 then ((ctf_moved.l0 (a1 k) (dAt t i).vFields k 0 (dAt t i).vFields).bind fun xx2=>some ⟨(dAt t i).vKind,(dAt t i).vName,(dAt t i).vInt,xx1,(dAt t i).vN,xx2⟩) else some ⟨(dAt t i).vKind,(dAt t i).vName,(dAt t i).vInt,xx1,(dAt t i).vN,(dAt t i).vFields⟩):=by
    intro k
    unfold ctf_moved.f
    rw [hcl]
    simp only [Option.bind_some]
    rw [hms]
    simp only [Option.bind_some]
    rw [hsh,shp_ref]
    by_cases hk:isRef (dAt t i).vKind
    · rw [if_pos hk,if_pos (decide_eq_true hk),Option.bind_assoc]
      refine congrArg _ (funext fun v=>?_)
      simp only [Option.bind_some,beq_iff_eq]
    · rw [if_neg hk,if_neg (by simpa using hk)]
      simp only [Option.bind_some,beq_iff_eq]
  by_cases hk:isRef (dAt t i).vKind
  · have h4:(dAt t i).vKind≠4:=by unfold isRef at hk;omega
    obtain ⟨K,hK⟩:=h (dAt t i).vRef (by rw [kids_ref hk];exact List.mem_singleton.2 rfl)
    refine ⟨K,fun k hk'=>?_⟩
    show ctf_moved.f k _ _=_
    rw [key k,if_pos hk,show a1 k _=_ from hK k hk']
    simp only [Option.bind_some]
    unfold mvS
    rw [if_neg h4,if_neg h4,if_pos hk]
  · by_cases h4:(dAt t i).vKind=4
    · obtain ⟨K,hK⟩:=(moved_loop (a1:=a1) (to:=to) (L:=(dAt t i).vFields) (by omega) (dAt t i).vFields [] (by simp) (fun f hf=>h f.vType (by rw [kids_struct h4];exact List.mem_map.2 ⟨f,hf,rfl⟩))).diag
      refine ⟨K,fun k hk'=>?_⟩
      show ctf_moved.f k _ _=_
      rw [key k,if_neg hk]
      simp only [Option.bind_some]
      rw [if_pos h4,show ctf_moved.l0 (a1 k) (dAt t i).vFields k 0 (dAt t i).vFields=_ from hK k hk']
      unfold mvS
      rw [if_neg hk,if_pos h4]
      rfl
    · refine Ev.pure fun k=>?_
      rw [key k,if_neg hk]
      simp only [Option.bind_some]
      unfold mvS
      rw [if_neg hk,if_neg h4,if_neg h4]
theorem mvS_id {to:Int→Int} {d:api_Def} (h:∀c∈kids d,to c=c):mvS to d=d:=by
  unfold mvS
  have h1:(if isRef d.vKind then to d.vRef else d.vRef)=d.vRef:=by
    split
    · next hk=>exact h _ (by rw [kids_ref hk];exact List.mem_singleton.2 rfl)
    · rfl
  have h2:(if d.vKind=4 then d.vFields.map (fun f=>(⟨f.vName,to f.vType,f.vAt⟩:api_Field)) else d.vFields)=d.vFields:=by
    split
    · next h4=>
      have:∀f∈d.vFields,(⟨f.vName,to f.vType,f.vAt⟩:api_Field)=f:=fun f hf=>by rw [h _ (by rw [kids_struct h4];exact List.mem_map.2 ⟨f,hf,rfl⟩)]
      rw [List.map_congr_left this,List.map_id']
    · rfl
  rw [h1,h2]
def toS (l:List ctf_source):Src:=l.map fun x=>(x.vt,x.vi.toNat)
theorem toS_len (l:List ctf_source):(toS l).length=l.length:=List.length_map ..
theorem toS_at {l:List ctf_source} {q:Nat} (hq:q<l.length):sT (toS l) q=(l.getD q z_ctf_source).vt∧sI (toS l) q=(l.getD q z_ctf_source).vi.toNat:=by
  unfold sT sI toS
  rw [List.getD_eq_getElem?_getD,List.getElem?_map,List.getD_eq_getElem?_getD,List.getElem?_eq_getElem hq]
  exact ⟨rfl,rfl⟩
structure Pool (m:List (ByteArray×Int)) (l:List ctf_source):Prop where
  src:∀x∈l,(∃s,Wf x.vt s)∧x.vi=((x.vi.toNat:Nat):Int)∧x.vi.toNat<x.vt.vDefs.length
  fst:∀s n,mfind strEq m s=some n→∃q:Nat,n=(q:Int)∧q<l.length∧xS (toS l) q=s
  all:∀q,q<l.length→mfind strEq m (xS (toS l) q)=some (q:Int)
theorem Pool.nil:Pool [] []:=by
  refine ⟨?_,?_,?_⟩
  · intro x hx;cases hx
  · intro s n h;simp [mfind] at h
  · intro q h;simp at h
theorem xS_app {l r:List ctf_source} {q:Nat} (hq:q<l.length):xS (toS (l++r)) q=xS (toS l) q:=by
  unfold xS sT sI toS
  rw [List.map_append,List.getD_eq_getElem?_getD,List.getD_eq_getElem?_getD,List.getElem?_append_left (by simpa using hq)]
theorem xS_last {l:List ctf_source} {x:ctf_source}:xS (toS (l++[x])) l.length=tx x.vt x.vi.toNat:=by
  unfold xS sT sI toS
  rw [List.map_append,List.getD_eq_getElem?_getD,List.getElem?_append_right (by simp)]
  simp
section
variable {m:List (ByteArray×Int)} {l:List ctf_source}
theorem Pool.inj (P:Pool m l) {q r:Nat} (hq:q<l.length) (hr:r<l.length) (h:xS (toS l) q=xS (toS l) r):q=r:=by
  have h1:=P.all q hq
  rw [h,P.all r hr] at h1
  have:=Option.some.inj h1
  omega
theorem Pool.push (P:Pool m l) {t:api_Types} {s:List Int} (W:Wf t s) {i:Nat} (hi:i<t.vDefs.length) (hn:mfind strEq m (tx t i)=none):Pool (mput strEq m (tx t i) (l.length:Int)) (l++[⟨t,(i:Int)⟩]):=by
  refine ⟨fun x hx=>?_,fun s n h=>?_,fun q hq=>?_⟩
  · rcases List.mem_append.1 hx with h|h
    · exact P.src x h
    · rw [List.mem_singleton.1 h];exact ⟨⟨s,W⟩,by simp,by simpa using hi⟩
  · rw [mfind_put] at h
    split at h
    · next e=>
      injection h with h
      exact ⟨l.length,h.symm,by simp,by rw [xS_last,e];rfl⟩
    · obtain ⟨q,h1,h2,h3⟩:=P.fst s n h
      exact ⟨q,h1,by simp;omega,by rw [xS_app h2];exact h3⟩
  · rw [List.length_append,List.length_singleton] at hq
    rw [mfind_put]
    by_cases e:q=l.length
    · subst e;rw [xS_last];exact if_pos rfl
    · have hq':q<l.length:=by omega
      rw [xS_app hq',P.all q hq',if_neg (fun e2=>by rw [←e2,P.all q hq'] at hn;cases hn)]
structure Added (t:api_Types) (m:List (ByteArray×Int)) (l:List ctf_source) (j:Nat) (ix:List Int) (m':List (ByteArray×Int)) (l':List ctf_source):Prop where
  pool:Pool m' l'
  ext:∃r,l'=l++r∧∀x∈r,∃i:Nat,j≤i∧i<t.vDefs.length∧x=⟨t,(i:Int)⟩
  len:ix.length+j=t.vDefs.length
  at_:∀i,i<ix.length→∃q:Nat,ix.getD i 0=(q:Int)∧q<l'.length∧xS (toS l') q=tx t (j+i)
  met:∀q,l.length≤q→q<l'.length→∃i,i<ix.length∧ix.getD i 0=(q:Int)
  few:l'.length≤l.length+ix.length
theorem add_loop {t:api_Types} {s:List Int} (W:Wf t s):∀(e j:Nat) (p:List Int) (m:List (ByteArray×Int)) (l:List ctf_source),j+e=t.vDefs.length→Pool m l→l.length+e≤100000→p.length=j→∃ix m' l',Ev2 (fun k q=>ctf_pool_add.l0 k t q (j:Int) p l m) (p++ix,l',m')∧Added t m l j ix m' l':=by
  have hn:=W.few
  intro e
  induction e with
  |zero=>
    intro j p m l hj P hl hp
    refine ⟨[],m,l,Ev2.pure fun k q=>?_,P,⟨[],by simp,fun _ h=>by cases h⟩,by simpa using hj,fun i h=>by simp at h,fun q h1 h2=>by omega,by simp⟩
    rw [ctf_pool_add.l0,if_neg (by simp;omega),List.append_nil]
  |succ e ih=>
    intro j p m l hj P hl hp
    have hlt:j<t.vDefs.length:=by omega
    obtain ⟨⟨Kt,hKt⟩,_⟩:=text_ev W hlt
    cases hf:mfind strEq m (tx t j) with
    |some n=>
      obtain ⟨q0,e0,h1,h2⟩:=P.fst _ _ hf
      obtain ⟨ix,m',l',⟨K,hK⟩,A⟩:=ih (j+1) (p++[n]) m l (by omega) P (by omega) (by simp;omega)
      obtain ⟨r,hr,hr2⟩:=A.ext
      refine ⟨n::ix,m',l',⟨max Kt K+1,fun k q hk hq=>?_⟩,A.pool,⟨r,hr,fun x hx=>by obtain ⟨i,a,b,c⟩:=hr2 x hx;exact ⟨i,by omega,b,c⟩⟩,by have:=A.len;simp;omega,fun i hi=>?_,fun q h1 h2=>?_,by have:=A.few;simp at this⊢;omega⟩
      · obtain ⟨q,rfl⟩:∃x,q=x+1:=⟨q-1,by omega⟩
        show ctf_pool_add.l0 k t (q+1) _ _ _ _=_
        rw [ctf_pool_add.l0,if_pos (by simp;omega),show ctf_text.f k t (j:Int)=_ from hKt k (by omega)]
        simp only [Option.bind_some]
        rw [hf]
        simp only [Option.isSome_some,Bool.not_true,Bool.false_eq_true,if_false,Option.bind_some,Option.getD_some]
        rw [if_pos (by omega),wrap_nat hlt (by omega),show ctf_pool_add.l0 k t q _ _ _ _=_ from hK k q (by omega) (by omega),List.append_assoc]
        rfl
      · cases i with
        |zero=>
          refine ⟨q0,by simpa using e0,by rw [hr,List.length_append];omega,?_⟩
          rw [hr,xS_app h1,h2];rfl
        |succ i=>
          obtain ⟨q,a,b,c⟩:=A.at_ i (by simpa using hi)
          exact ⟨q,by simpa using a,b,by rw [c];congr 1;omega⟩
      · obtain ⟨i,a,b⟩:=A.met q h1 h2
        exact ⟨i+1,by simpa using a,by simpa using b⟩
    |none=>
      have P2:=P.push W hlt hf
      obtain ⟨ix,m',l',⟨K,hK⟩,A⟩:=ih (j+1) (p++[(l.length:Int)]) _ _ (by omega) P2 (by simp;omega) (by simp;omega)
      obtain ⟨r,hr,hr2⟩:=A.ext
      have hl2:l'.length=l.length+1+r.length:=by rw [hr];simp;omega
      refine ⟨(l.length:Int)::ix,m',l',⟨max Kt K+1,fun k q hk hq=>?_⟩,A.pool,⟨⟨t,(j:Int)⟩::r,by rw [hr];simp,fun x hx=>?_⟩,by have:=A.len;simp;omega,fun i hi=>?_,fun q h1 h2=>?_,by have:=A.few;simp at this⊢;omega⟩
      · obtain ⟨q,rfl⟩:∃x,q=x+1:=⟨q-1,by omega⟩
        show ctf_pool_add.l0 k t (q+1) _ _ _ _=_
        rw [ctf_pool_add.l0,if_pos (by simp;omega),show ctf_text.f k t (j:Int)=_ from hKt k (by omega)]
        simp only [Option.bind_some]
        rw [hf]
        simp only [Option.isSome_none,Bool.not_false,if_true]
        rw [if_pos (by omega)]
        simp only [Option.bind_some]
        rw [if_pos (by omega),wrap_nat hlt (by omega),show ctf_pool_add.l0 k t q _ _ _ _=_ from hK k q (by omega) (by omega),List.append_assoc]
        rfl
      · rcases List.mem_cons.1 hx with h|h
        · exact ⟨j,Nat.le_refl _,hlt,h⟩
        · obtain ⟨i,a,b,c⟩:=hr2 x h;exact ⟨i,by omega,b,c⟩
      · cases i with
        |zero=>
          refine ⟨l.length,by simp,by omega,?_⟩
          rw [hr,xS_app (by simp),xS_last];simp
        |succ i=>
          obtain ⟨q,a,b,c⟩:=A.at_ i (by simpa using hi)
          exact ⟨q,by simpa using a,b,by rw [c];congr 1;omega⟩
      · by_cases e:q=l.length
        · subst e;exact ⟨0,by simp,by simp⟩
        · obtain ⟨i,a,b⟩:=A.met q (by simp;omega) h2
          exact ⟨i+1,by simpa using a,by simpa using b⟩
theorem add_ev {t:api_Types} {s:List Int} (W:Wf t s) (P:Pool m l) (hl:l.length≤50000):∃ix m' l',Ev (fun k=>ctf_pool_add.f k m l t) (ix,m',l')∧Added t m l 0 ix m' l':=by
  obtain ⟨ix,m',l',h,A⟩:=add_loop W t.vDefs.length 0 [] m l (by omega) P (by have:=W.few;omega) rfl
  obtain ⟨K,hK⟩:=h.diag
  refine ⟨ix,m',l',⟨K,fun k hk=>?_⟩,A⟩
  show ctf_pool_add.f k m l t=_
  unfold ctf_pool_add.f
  rw [show ctf_pool_add.l0 k t k 0 [] l m=_ from hK k hk]
  rfl
def posP (m:List (ByteArray×Int)) (s:ByteArray):Int:=(mfind strEq m s).getD 0
noncomputable def outP (m:List (ByteArray×Int)) (l:List ctf_source):api_Types:=⟨l.map fun x=>mvS (fun c=>posP m (tx x.vt c.toNat)) (dAt x.vt x.vi.toNat)⟩
theorem types_loop (P:Pool m l) (hl:l.length≤100000):∀(e j:Nat) (p:List api_Def),j+e=l.length→p.length=j→Ev2 (fun k q=>ctf_pool_types.l0 k m l q (j:Int) p) (p++(outP m (l.drop j)).vDefs):=by
  intro e
  induction e with
  |zero=>
    intro j p hj hp
    refine Ev2.pure fun k q=>?_
    rw [ctf_pool_types.l0,if_neg (by simp;omega),List.drop_eq_nil_of_le (by omega)]
    simp [outP]
  |succ e ih=>
    intro j p hj hp
    have hlt:j<l.length:=by omega
    have hx:=getD_mem (z:=z_ctf_source) hlt
    obtain ⟨⟨s,W⟩,h1,h2⟩:=P.src _ hx
    generalize hxe:l.getD j z_ctf_source=x at hx W h1 h2
    have hmv:=moved_ev W h2 (a1:=fun k z0=>ctf_pool_types_1.f k z0 m x) (to:=fun c=>posP m (tx x.vt c.toNat)) (fun c hc=>by
      obtain ⟨c1,c2⟩:=kids_range W h2 hc
      obtain ⟨⟨K,hK⟩,_⟩:=text_ev W c2
      refine ⟨K,fun k hk=>?_⟩
      show ctf_pool_types_1.f k c m x=_
      unfold ctf_pool_types_1.f
      rw [c1,show ctf_text.f k x.vt _=_ from hK k hk]
      rfl)
    refine Ev2.step hmv (r:=fun k q v1=>ctf_pool_types.l0 k m l q ((j+1:Nat):Int) (p++[v1])) ?_ (fun k q=>?_)
    · have:=ih (j+1) (p++[mvS (fun c=>posP m (tx x.vt c.toNat)) (dAt x.vt x.vi.toNat)]) (by omega) (by simp;omega)
      rw [List.append_assoc] at this
      have hd:l.drop j=x::l.drop (j+1):=by rw [drop_getD z_ctf_source hlt,hxe]
      rw [hd]
      exact this
    · rw [ctf_pool_types.l0,if_pos (by simp;omega),if_pos (by omega),rd_nat,hxe,if_pos (by omega),h1,rd_dAt]
      simp only [Int.toNat_natCast]
      refine congrArg _ (funext fun v=>?_)
      rw [if_pos (by omega),wrap_nat hlt (by omega)]
theorem types_ev (P:Pool m l) (hl:l.length≤100000):Ev (fun k=>ctf_pool_types.f k m l) (outP m l):=by
  have h:=types_loop P hl l.length 0 [] (by omega) rfl
  rw [List.drop_zero] at h
  obtain ⟨K,hK⟩:=h.diag
  refine ⟨K,fun k hk=>?_⟩
  show ctf_pool_types.f k m l=_
  unfold ctf_pool_types.f
  rw [show ctf_pool_types.l0 k m l k 0 []=_ from hK k hk]
  rfl
theorem outP_at {q:Nat} (hq:q<l.length):dAt (outP m l) q=mvS (fun c=>posP m (tx (sT (toS l) q) c.toNat)) (dS (toS l) q):=by
  unfold dAt outP dS
  obtain ⟨h1,h2⟩:=toS_at hq
  rw [h1,h2,List.getD_eq_getElem?_getD,List.getElem?_map,List.getD_eq_getElem?_getD,List.getElem?_eq_getElem hq]
  rfl
theorem outP_len:(outP m l).vDefs.length=l.length:=List.length_map ..
def Has (m:List (ByteArray×Int)) (t:api_Types):Prop:=∀i,i<t.vDefs.length→∃n,mfind strEq m (tx t i)=some n
theorem Pool.re (P:Pool m l) (hH:∀q,q<l.length→Has m (sT (toS l) q)) {q:Nat} (hq:q<l.length):Re (outP m l) (toS l) q:=by
  have hx:=getD_mem (z:=z_ctf_source) hq
  obtain ⟨⟨s,W⟩,h1,h2⟩:=P.src _ hx
  obtain ⟨e1,e2⟩:=toS_at hq
  rw [←e1] at W h2
  rw [←e2] at h2
  have to_:∀c∈kids (dS (toS l) q),∃r:Nat,posP m (tx (sT (toS l) q) c.toNat)=(r:Int)∧r<(toS l).length∧xS (toS l) r=tx (sT (toS l) q) c.toNat:=fun c hc=>by
    obtain ⟨_,c2⟩:=kids_range W h2 hc
    obtain ⟨n,hn⟩:=hH q hq _ c2
    obtain ⟨r,a,b,d⟩:=P.fst _ _ hn
    exact ⟨r,by unfold posP;rw [hn];exact a,by rw [toS_len];exact b,d⟩
  have h:=outP_at (m:=m) hq
  refine ⟨by rw [h];rfl,by rw [h];rfl,by rw [h];rfl,by rw [h];rfl,fun hk=>?_,fun hk=>?_,?_,fun j hj=>?_⟩
  · rw [h]
    obtain ⟨r,a,b,c⟩:=to_ (dS (toS l) q).vRef (by rw [kids_ref hk];exact List.mem_singleton.2 rfl)
    refine ⟨r,?_,b,c⟩
    show (if isRef (dS (toS l) q).vKind then _ else _)=_
    rw [if_pos hk];exact a
  · rw [h]
    show (if isRef (dS (toS l) q).vKind then _ else _)=_
    rw [if_neg hk]
  · rw [h]
    show (if (dS (toS l) q).vKind=4 then _ else _:List api_Field).length=_
    split
    · rw [List.length_map]
    · rfl
  · rw [h]
    by_cases h4:(dS (toS l) q).vKind=4
    · have hf:fAt (mvS (fun c=>posP m (tx (sT (toS l) q) c.toNat)) (dS (toS l) q)) j=⟨(fAt (dS (toS l) q) j).vName,posP m (tx (sT (toS l) q) (fAt (dS (toS l) q) j).vType.toNat),(fAt (dS (toS l) q) j).vAt⟩:=by
        unfold fAt
        show (if (dS (toS l) q).vKind=4 then (dS (toS l) q).vFields.map _ else _).getD j z_api_Field=_
        rw [if_pos h4,List.getD_eq_getElem?_getD,List.getElem?_map,List.getD_eq_getElem?_getD,List.getElem?_eq_getElem hj]
        rfl
      rw [hf]
      exact ⟨rfl,rfl,fun _=>to_ _ (by rw [kids_struct h4];exact List.mem_map.2 ⟨_,getD_mem hj,rfl⟩),fun h=>absurd h4 h⟩
    · have hf:fAt (mvS (fun c=>posP m (tx (sT (toS l) q) c.toNat)) (dS (toS l) q)) j=fAt (dS (toS l) q) j:=by
        unfold fAt
        show (if (dS (toS l) q).vKind=4 then (dS (toS l) q).vFields.map _ else _).getD j z_api_Field=_
        rw [if_neg h4]
      rw [hf]
      exact ⟨rfl,rfl,fun h=>absurd h h4,fun _=>rfl⟩
theorem Pool.built (P:Pool m l) (hl:l.length≤200) (hH:∀q,q<l.length→Has m (sT (toS l) q))
    (hM:∀q r,q<l.length→r<l.length→∀k k',k<(sT (toS l) q).vDefs.length→k'<(sT (toS l) r).vDefs.length→tx (sT (toS l) q) k=tx (sT (toS l) r) k'→Match (sT (toS l) q) (dAt (sT (toS l) q) k) (sT (toS l) r) (dAt (sT (toS l) r) k')):Built (outP m l) (toS l):=by
  have src:∀q,q<(toS l).length→(∃s,Wf (sT (toS l) q) s)∧sI (toS l) q<(sT (toS l) q).vDefs.length:=fun q hq=>by
    rw [toS_len] at hq
    obtain ⟨h,_,h2⟩:=P.src _ (getD_mem (z:=z_ctf_source) hq)
    obtain ⟨e1,e2⟩:=toS_at hq
    rw [e1,e2];exact ⟨h,h2⟩
  refine ⟨by rw [outP_len,toS_len],by rw [toS_len];exact hl,src,fun q hq=>P.re hH (by rw [←toS_len];exact hq),fun q r hq hr hn hn' he=>?_,fun q r hq hr=>hM q r (by rw [←toS_len];exact hq) (by rw [←toS_len];exact hr)⟩
  have h1:xS (toS l) q=(dS (toS l) q).vName:=tx_named (src q hq).2 hn
  have h2:xS (toS l) r=(dS (toS l) r).vName:=tx_named (src r hr).2 hn'
  exact P.inj (by rw [←toS_len];exact hq) (by rw [←toS_len];exact hr) (by rw [h1,h2,he])
end
theorem match_self {t:api_Types} {l:List Int} (W:Wf t l) {k k':Nat} (hk:k<t.vDefs.length) (hk':k'<t.vDefs.length) (h:tx t k=tx t k'):Match t (dAt t k) t (dAt t k'):=by
  rcases tx_eq W W hk hk' h with ⟨a,b,c⟩|x|x
  · have:=name_uniq W hk hk' a b c
    subst this
    exact .inl ⟨a,a, .refl⟩
  · exact .inr (.inl x)
  · exact .inr (.inr x)
end Go.Proofs.YtfjppgobidjndaaDoor
namespace Go.Proofs.YtfjppgobidjndaaDoor
open Go.RowKit Go.M
def taplinelaw08_rising.l0 (a0:List Int):Nat→Int→Option ((Bool)⊕(Unit))
 |0,_=>none
 |m+1,y1_0=>if (decide (y1_0<(a0.length:Int)))=true then (if 0≤y1_0∧y1_0<a0.length then (if ((rd 0 a0 y1_0) !=y1_0)=true then (some (.inl false)) else (taplinelaw08_rising.l0 a0 m (IntKind.wrap .i64 (y1_0+1)))) else none) else (some (.inr ()))
def taplinelaw08_rising.f (k:Nat) (a0:List Int):Option (Bool):=(taplinelaw08_rising.l0 a0 k 0).bind fun xx1=>(match xx1 with| .inl r=>some r| .inr s1=>some true)
set_option maxRecDepth 20000 in
set_option maxHeartbeats 4000000 in
theorem taplinelaw08_rising.calls (k:Nat) (a0:List Int) (A0_0:Option Addr) (c0_0:Nat) {h0:View} {w0:World} (hv:Sees h0 w0) (hr0_0:Rd (Kd.int .i64) h0 A0_0 a0) (hc0_0:a0.length≤c0_0) {r:Bool} (H:taplinelaw08_rising.f k a0=some r):Calls Tryd.prog 31 #[vL A0_0 a0.length c0_0] w0 (fun e w1=>e= .returned (vB r)∧Ext w0 w1):=by
 unfold taplinelaw08_rising.f at H
 have HS:St [] h0 w0 h0 [] w0:=St.init hv
 go_enter Tryd.func31,Tryd.ntmps31
 refine wp_seq ?_
 refine region ?_
 refine rs (vB false) (r_assign rfl) ?_
 try simp only [sc0,sc1]
 refine run_nil ?_
 refine norm_then ?_
 refine wp_seq ?_
 refine wp_seq ?_
 refine region ?_
 refine rs (vI 0) (r_assign rfl) ?_
 try simp only [sc0,sc1]
 refine run_nil ?_
 refine norm_then ?_
 obtain ⟨xx1,H,G1⟩:=of_bind H
 refine loop_patch [2,3,4,5,6,7,8,9,10,11,12,13,14,15] (fun m us w'=>∃y1_0:Int,∃uy1_2 uy1_4 uy1_5 uy1_6 uy1_7 uy1_8 uy1_9 uy1_10 uy1_11 uy1_12 uy1_13 uy1_14 uy1_15:Value,us=[uy1_2,vI y1_0,uy1_4,uy1_5,uy1_6,uy1_7,uy1_8,uy1_9,uy1_10,uy1_11,uy1_12,uy1_13,uy1_14,uy1_15]∧taplinelaw08_rising.l0 a0 m y1_0=some xx1∧St [] h0 w0 h0 [] w') (fun us w'=>∃(s1:Unit),xx1= .inr s1∧∃uo1_2 uo1_3 uo1_4 uo1_5 uo1_6 uo1_7 uo1_8 uo1_9 uo1_10 uo1_11 uo1_12 uo1_13 uo1_14 uo1_15:Value,us=[uo1_2,uo1_3,uo1_4,uo1_5,uo1_6,uo1_7,uo1_8,uo1_9,uo1_10,uo1_11,uo1_12,uo1_13,uo1_14,uo1_15]∧St [] h0 w0 h0 [] w') k [vB false,vI 0,undef,undef,undef,undef,undef,undef,undef,undef,undef,undef,undef,undef] (by simp only [patch,sc0,sc1]) ⟨0,_,_,_,_,_,_,_,_,_,_,_,_,_,rfl,H,HS⟩ ?_ ?_
 ·rintro m us w1 ⟨y1_0,uy1_2,uy1_4,uy1_5,uy1_6,uy1_7,uy1_8,uy1_9,uy1_10,uy1_11,uy1_12,uy1_13,uy1_14,uy1_15,rfl,H,HS1⟩
  cases m with
  |zero=>exact absurd H (by simp [taplinelaw08_rising.l0])
  |succ m=>
   rw [taplinelaw08_rising.l0] at H
   try simp only [patch,sc0,sc1]
   refine wp_seq ?_
   refine wp_seq ?_
   refine region ?_
   refine rs (vI y1_0) (r_move rfl) ?_
   refine rs (vL A0_0 a0.length c0_0) (r_move rfl) ?_
   refine rs (vI (a0.length:Int)) (r_len rfl Tryd.runUnderlying62) ?_
   refine rs (vB (decide (y1_0<(a0.length:Int)))) (r_bin rfl rfl rfl) ?_
   try simp only [sc0,sc1]
   refine run_nil ?_
   refine norm_then ?_
   refine wp_cond_split (t:=(decide (y1_0<(a0.length:Int)))) rfl (fun c1=>?_) (fun c1=>?_)
   ·replace H:=of_pos H c1
    refine wp_skip ?_
    refine norm_then ?_
    refine wp_seq ?_
    refine wp_block ?_
    refine wp_seq ?_
    refine region ?_
    refine rs (vL A0_0 a0.length c0_0) (r_move rfl) ?_
    refine rs (vI y1_0) (r_move rfl) ?_
    obtain ⟨hi1,H⟩:=of_ite H
    obtain ⟨ad1,e1,hel1⟩:=ld_int hr0_0 hi1.1 hi1.2
    refine rs (Value.pointer (some (Addr.add ad1 (y1_0.toNat*1)))) (r_indexA (sz:=1) rfl e1 rfl hi1.1 hi1.2 Tryd.runUnderlying62 Tryd.sizeOf3) ?_
    refine rs (vI (rd 0 a0 y1_0)) (r_load rfl Tryd.isAgg3 (hel1.cell0 HS1.sees rfl)) ?_
    refine run_frame (by simp only [sc0,sc1];rfl) ?_
    refine rs (vI y1_0) (r_move rfl) ?_
    refine rs (vB ((rd 0 a0 y1_0) !=y1_0)) (r_bin rfl rfl rfl) ?_
    try simp only [sc0,sc1]
    refine run_nil ?_
    refine norm_then ?_
    refine wp_cond_split (t:=((rd 0 a0 y1_0) !=y1_0)) rfl (fun c2=>?_) (fun c2=>?_)
    ·replace H:=of_pos H c2
     refine wp_seq ?_
     refine region ?_
     refine rs (vB false) (r_assign rfl) ?_
     try simp only [sc0,sc1]
     refine run_nil ?_
     refine norm_then ?_
     refine wp_ret ?_
     refine ret_block ?_
     refine ret_then ?_
     refine ret_loop ?_
     refine ret_then ?_
     obtain rfl:=Option.some.inj H
     obtain rfl:=Option.some.inj G1
     refine bodyPost_ret (results_1 rfl (one_tmp rfl)) rfl ?_
     exact ⟨rfl,HS1.toE⟩
    ·replace H:=of_neg H (nt c2)
     refine wp_skip ?_
     refine norm_block ?_
     refine norm_then ?_
     refine region ?_
     refine rs (vI y1_0) (r_move rfl) ?_
     refine rs (vI (w64 (y1_0+1))) (r_bin rfl rfl rfl) ?_
     refine rs (vI (w64 (y1_0+1))) (r_assign rfl) ?_
     try simp only [sc0,sc1]
     refine run_nil ?_
     refine again m [uy1_2,vI (w64 (y1_0+1)),vI y1_0,vL A0_0 a0.length c0_0,vI (a0.length:Int),vB (decide (y1_0<(a0.length:Int))),vI y1_0,vI (w64 (y1_0+1)),vL A0_0 a0.length c0_0,vI y1_0,Value.pointer (some (Addr.add ad1 (y1_0.toNat*1))),vI (rd 0 a0 y1_0),vI y1_0,vB ((rd 0 a0 y1_0) !=y1_0)] (Nat.lt_succ_self m) (by simp only [patch,sc0,sc1]) ⟨(w64 (y1_0+1)),_,_,_,_,_,_,_,_,_,_,_,_,_,rfl,H,HS1⟩
   ·replace H:=of_neg H (nt c1)
    refine wp_exit ?_
    refine exit_then ?_
    obtain rfl:=Option.some.inj H
    refine leave [uy1_2,vI y1_0,vI y1_0,vL A0_0 a0.length c0_0,vI (a0.length:Int),vB (decide (y1_0<(a0.length:Int))),uy1_8,uy1_9,uy1_10,uy1_11,uy1_12,uy1_13,uy1_14,uy1_15] (by simp only [patch,sc0,sc1]) ⟨_,rfl,_,_,_,_,_,_,_,_,_,_,_,_,_,_,rfl,HS1⟩
 ·rintro us w2 ⟨s1,rfl,uo1_2,uo1_3,uo1_4,uo1_5,uo1_6,uo1_7,uo1_8,uo1_9,uo1_10,uo1_11,uo1_12,uo1_13,uo1_14,uo1_15,rfl,HS2⟩
  replace H:=G1
  clear G1
  try simp only [patch,sc0,sc1]
  refine norm_then ?_
  refine wp_seq ?_
  refine region ?_
  refine rs (vB true) (r_assign rfl) ?_
  try simp only [sc0,sc1]
  refine run_nil ?_
  refine norm_then ?_
  refine wp_ret ?_
  obtain rfl:=Option.some.inj H
  refine bodyPost_ret (results_1 rfl (one_tmp rfl)) rfl ?_
  exact ⟨rfl,HS2.toE⟩

end Go.Proofs.YtfjppgobidjndaaDoor
namespace Go.Proofs.YtfjppgobidjndaaDoor
open Go.RowKit Go.M
def taplinelaw08_CtfUnique.l0 (k:Nat) (a0:api_Types) (v2:api_Types×(List Int)×Int):Nat→Int→Option ((Bool)⊕(Unit))
 |0,_=>none
 |m+1,y1_0=>if (decide (y1_0<(v2.2.1.length:Int)))=true then (if 0≤y1_0∧y1_0<v2.2.1.length then ((ctf_Equal.f k a0 y1_0 v2.1 (rd 0 v2.2.1 y1_0)).bind fun v5=>(if (!v5)=true then (some (.inl false)) else (taplinelaw08_CtfUnique.l0 k a0 v2 m (IntKind.wrap .i64 (y1_0+1))))) else none) else (some (.inr ()))
def taplinelaw08_CtfUnique.l2 (k:Nat) (v2:api_Types×(List Int)×Int) (y2_0:Int):Nat→Int→Option ((Bool)⊕(Unit))
 |0,_=>none
 |m+1,y3_0=>if (decide (y3_0<y2_0))=true then ((ctf_Text.f k v2.1 y2_0).bind fun v6=>((ctf_Text.f k v2.1 y3_0).bind fun v7=>(if (((v6.2 !=0)||(v7.2 !=0))||(strEq v6.1 v7.1))=true then (some (.inl false)) else (taplinelaw08_CtfUnique.l2 k v2 y2_0 m (IntKind.wrap .i64 (y3_0+1)))))) else (some (.inr ()))
def taplinelaw08_CtfUnique.l1 (k:Nat) (v2:api_Types×(List Int)×Int):Nat→Int→Option ((Bool)⊕(Unit))
 |0,_=>none
 |m+1,y2_0=>if (decide (y2_0<(v2.1.vDefs.length:Int)))=true then ((taplinelaw08_CtfUnique.l2 k v2 y2_0 k 0).bind fun xx3=>(match xx3 with| .inl r=>some (.inl r)| .inr s2=>taplinelaw08_CtfUnique.l1 k v2 m (IntKind.wrap .i64 (y2_0+1)))) else (some (.inr ()))
def taplinelaw08_CtfUnique.f (k:Nat) (a0:api_Types):Option (Bool):=(taplinelaw08_sane.f k).bind fun v1=>((ctf_Unique.f k a0).bind fun v2=>(if (v2.2.2 !=0)=true then ((if (true&&(v1==true))=true then ctf_Check.f k a0 else some 0).bind fun v3=>(some (v1&&(v2.2.2==v3)))) else ((ctf_Check.f k v2.1).bind fun v4=>(if ((v4 !=0)||((v2.2.1.length:Int) !=(a0.vDefs.length:Int)))=true then (some false) else ((taplinelaw08_CtfUnique.l0 k a0 v2 k 0).bind fun xx1=>(match xx1 with| .inl r=>some r| .inr s1=>(taplinelaw08_CtfUnique.l1 k v2 k 0).bind fun xx2=>(match xx2 with| .inl r=>some r| .inr s3=>(ctf_Unique.f k v2.1).bind fun v8=>((if (true&&((v1&&(v8.2.2==0))==true))=true then taplineref08_Same.f k v8.1 v2.1 else some false).bind fun v9=>((if (true&&(((v1&&(v8.2.2==0))&&v9)==true))=true then taplinelaw08_rising.f k v8.2.1 else some false).bind fun v10=>(some (((v1&&(v8.2.2==0))&&v9)&&v10)))))))))))
set_option maxRecDepth 20000 in
set_option maxHeartbeats 4000000 in
theorem taplinelaw08_CtfUnique.calls (k:Nat) (a0:api_Types) (A0_0:Option Addr) (c0_0:Nat) {h0:View} {w0:World} (hv:Sees h0 w0) (ht:Tab w0) (hr0_0:Rd k_api_Def h0 A0_0 a0.vDefs) (hc0_0:a0.vDefs.length≤c0_0) {r:Bool} (H:taplinelaw08_CtfUnique.f k a0=some r):Calls Tryd.prog 5 #[Value.agg #[vL A0_0 a0.vDefs.length c0_0]] w0 (fun e w1=>e= .returned (vB r)∧Ext w0 w1):=by
 unfold taplinelaw08_CtfUnique.f at H
 have HS:St [] h0 w0 h0 [] w0:=St.init hv
 go_enter Tryd.func5,Tryd.ntmps5
 refine wp_seq ?_
 refine region ?_
 refine run_ex rfl rfl (does_box (cs:=#[vL A0_0 a0.vDefs.length c0_0]) rfl rfl) ?_
 rintro w1 _ hE1 ⟨b1,rfl,ge1,hb1⟩
 have HS1:=HS.new hE1 ge1 hb1
 refine rs (vB false) (r_assign rfl) ?_
 try simp only [sc0,sc1]
 refine run_nil ?_
 refine norm_then ?_
 refine wp_seq ?_
 refine region ?_
 obtain ⟨v1,H1,H⟩:=of_bind H
 refine run_eq (v:=vB v1) rfl rfl (does_call_eq Tryd.call13 rfl rfl (taplinelaw08_sane.calls k HS1.sees (ht.s HS1) H1)) ?_
 intro w2 hE2
 have HS2:=HS1.step hE2
 refine rs (vB v1) (r_assign rfl) ?_
 try simp only [sc0,sc1]
 refine run_nil ?_
 refine norm_then ?_
 refine wp_seq ?_
 refine region ?_
 refine rs (Value.agg #[vL A0_0 a0.vDefs.length c0_0]) (r_loadBoxAgg (n:=1) (vs:=[vL A0_0 a0.vDefs.length c0_0]) rfl Tryd.isAgg24 (HS2.look 0 rfl) Tryd.sizeOf24 rfl rfl) ?_
 obtain ⟨v2,H2,H⟩:=of_bind H
 refine run_ex rfl rfl (does_call Tryd.call28 rfl (gives_in (h:=h0) (R:=(fun hx u=>∃(Av2_0_0:Option Addr) (cv2_0_0:Nat),∃(Av2_1_0:Option Addr) (cv2_1_0:Nat),u=Value.tuple #[Value.agg #[vL Av2_0_0 v2.1.vDefs.length cv2_0_0],vL Av2_1_0 v2.2.1.length cv2_1_0,vI v2.2.2]∧v2.1.vDefs.length≤cv2_0_0∧Rd k_api_Def hx Av2_0_0 v2.1.vDefs∧v2.2.1.length≤cv2_1_0∧Rd (Kd.int .i64) hx Av2_1_0 v2.2.1)) (Ext.rfl' w2) ((ctf_Unique.calls k a0 A0_0 c0_0 HS2.sees (ht.s HS2) hr0_0 hc0_0 H2).mono ?_)) rfl) ?_
 ·rintro _ _ ⟨h1,Av2_0_0,cv2_0_0,Av2_1_0,cv2_1_0,rfl,hcv2_0_0,hrv2_0_0,hcv2_1_0,hrv2_1_0,g,ss,x⟩
  exact ⟨h1,_,rfl,⟨Av2_0_0,cv2_0_0,Av2_1_0,cv2_1_0,rfl,hcv2_0_0,hrv2_0_0,hcv2_1_0,hrv2_1_0⟩,g,ss,x⟩
 rintro w3 _ hE3 ⟨h1,⟨Av2_0_0,cv2_0_0,Av2_1_0,cv2_1_0,rfl,hcv2_0_0,hrv2_0_0,hcv2_1_0,hrv2_1_0⟩,gr1,se1⟩
 have HS3:=HS2.view hE3 gr1 se1
 refine rs (Value.tuple #[Value.agg #[vL Av2_0_0 v2.1.vDefs.length cv2_0_0],vL Av2_1_0 v2.2.1.length cv2_1_0,vI v2.2.2]) (r_move rfl) ?_
 refine rs (Value.agg #[vL Av2_0_0 v2.1.vDefs.length cv2_0_0]) (r_extract rfl rfl) ?_
 refine run_frame (by simp only [sc0,sc1];rfl) ?_
 refine rs (vL Av2_1_0 v2.2.1.length cv2_1_0) (r_extract rfl rfl) ?_
 refine rs (vI v2.2.2) (r_extract rfl rfl) ?_
 refine run_ex rfl rfl (does_alloc (cs:=#[vL none 0 0]) Tryd.zeroValue24 rfl) ?_
 rintro w4 _ hE4 ⟨b2,rfl,ge2,hb2⟩
 have HS4:=HS3.new hE4 ge2 hb2
 refine run_st (i:=0) (cs:=[vL none 0 0]) (cs':=[vL Av2_0_0 v2.1.vDefs.length cv2_0_0]) (vs:=[vL Av2_0_0 v2.1.vDefs.length cv2_0_0]) (bs':=[(some b2, .cells #[vL Av2_0_0 v2.1.vDefs.length cv2_0_0] 24 (0,0)),(some b1, .cells #[vL A0_0 a0.vDefs.length c0_0] 24 (0,0))]) rfl rfl Tryd.sizeOf24 rfl rfl (by decide) rfl HS4 rfl (Nat.le_of_ble_eq_true rfl) rfl rfl ?_
 intro w5 HS5
 refine run_frame (by simp only [sc0,sc1];rfl) ?_
 refine rs (vL Av2_1_0 v2.2.1.length cv2_1_0) (r_assign rfl) ?_
 refine rs (vI v2.2.2) (r_assign rfl) ?_
 try simp only [sc0,sc1]
 refine run_nil ?_
 refine norm_then ?_
 refine wp_seq ?_
 refine wp_seq ?_
 refine region ?_
 refine rs (vI v2.2.2) (r_move rfl) ?_
 refine rs (vB (v2.2.2 !=0)) (r_bin rfl rfl rfl) ?_
 try simp only [sc0,sc1]
 refine run_nil ?_
 refine norm_then ?_
 refine wp_cond_split (t:=(v2.2.2 !=0)) rfl (fun c1=>?_) (fun c1=>?_)
 ·replace H:=of_pos H c1
  refine wp_seq ?_
  refine region ?_
  refine rs (vB v1) (r_move rfl) ?_
  refine rs (vB v1) (r_move rfl) ?_
  refine rgs v1 true (vI v2.2.2) rfl rfl rfl rfl (fun hg=>(r_move rfl)) ?_
  refine rgs v1 true (Value.agg #[vL A0_0 a0.vDefs.length c0_0]) rfl rfl rfl rfl (fun hg=>(r_loadBoxAgg (n:=1) (vs:=[vL A0_0 a0.vDefs.length c0_0]) rfl Tryd.isAgg24 (HS5.look 1 rfl) Tryd.sizeOf24 rfl rfl)) ?_
  refine run_frame (by simp only [sc0,sc1];rfl) ?_
  obtain ⟨v3,H3,H⟩:=of_bind H
  refine run_g (b:=v1) (c:=true) (v:=vI v3) rfl rfl rfl rfl (fun hg=>(does_call_eq Tryd.call18 rfl (map1 (gvt (Value.agg #[vL A0_0 a0.vDefs.length c0_0]) hg rfl)) (ctf_Check.calls k a0 A0_0 c0_0 HS5.sees (hr0_0.ext HS5.sub) hc0_0 (of_pos H3 hg)))) ?_
  intro w6 hE5
  have HS6:=HS5.step hE5
  refine rgs v1 true (vB (v2.2.2==v3)) rfl rfl rfl rfl (fun hg=>(r_bin (gvt (vI v2.2.2) hg rfl) (gvt (vI v3) hg rfl) rfl)) ?_
  refine rs (vB (v1&&(v2.2.2==v3))) (r_pick_and rfl (fun hp=>(gvt (vB (v2.2.2==v3)) (and_i rfl hp) rfl)) rfl) ?_
  refine rs (vB (v1&&(v2.2.2==v3))) (r_assign rfl) ?_
  try simp only [sc0,sc1]
  refine run_nil ?_
  refine norm_then ?_
  refine wp_ret ?_
  refine ret_then ?_
  obtain rfl:=Option.some.inj H
  refine bodyPost_ret (results_1 rfl (one_tmp rfl)) rfl ?_
  exact ⟨rfl,HS6.toE⟩
 ·replace H:=of_neg H (nt c1)
  refine wp_skip ?_
  refine norm_then ?_
  refine wp_seq ?_
  refine wp_seq ?_
  refine region ?_
  refine rs (Value.agg #[vL Av2_0_0 v2.1.vDefs.length cv2_0_0]) (r_loadBoxAgg (n:=1) (vs:=[vL Av2_0_0 v2.1.vDefs.length cv2_0_0]) rfl Tryd.isAgg24 (HS5.look 0 rfl) Tryd.sizeOf24 rfl rfl) ?_
  obtain ⟨v4,H4,H⟩:=of_bind H
  refine run_eq (v:=vI v4) rfl rfl (does_call_eq Tryd.call18 rfl rfl (ctf_Check.calls k v2.1 Av2_0_0 cv2_0_0 HS5.sees hrv2_0_0 hcv2_0_0 H4)) ?_
  intro w7 hE6
  have HS7:=HS5.step hE6
  refine rs (vB (v4 !=0)) (r_bin rfl rfl rfl) ?_
  refine rs (vB (v4 !=0)) (r_move rfl) ?_
  refine run_frame (by simp only [sc0,sc1];rfl) ?_
  refine rgs (v4 !=0) true (vL Av2_1_0 v2.2.1.length cv2_1_0) rfl rfl rfl rfl (fun hg=>(r_move rfl)) ?_
  refine rgs (v4 !=0) true (vI (v2.2.1.length:Int)) rfl rfl rfl rfl (fun hg=>(r_len (gvt (vL Av2_1_0 v2.2.1.length cv2_1_0) hg rfl) Tryd.runUnderlying62)) ?_
  refine rgs (v4 !=0) true (vP b1 0) rfl rfl rfl rfl (fun hg=>(r_fieldBox (n:=1) (o':=0) rfl Tryd.runUnderlying24 rfl Tryd.sizeOf22 (by decide) rfl)) ?_
  refine rgs (v4 !=0) true (vL A0_0 a0.vDefs.length c0_0) rfl rfl rfl rfl (fun hg=>(r_loadBox (gvt (vP b1 0) hg rfl) Tryd.isAgg22 (HS7.look 1 rfl) rfl)) ?_
  refine run_frame (by simp only [sc0,sc1];rfl) ?_
  refine rgs (v4 !=0) true (vI (a0.vDefs.length:Int)) rfl rfl rfl rfl (fun hg=>(r_len (gvt (vL A0_0 a0.vDefs.length c0_0) hg rfl) Tryd.runUnderlying22)) ?_
  refine rgs (v4 !=0) true (vB ((v2.2.1.length:Int) !=(a0.vDefs.length:Int))) rfl rfl rfl rfl (fun hg=>(r_bin (gvt (vI (v2.2.1.length:Int)) hg rfl) (gvt (vI (a0.vDefs.length:Int)) hg rfl) rfl)) ?_
  refine rs (vB ((v4 !=0)||((v2.2.1.length:Int) !=(a0.vDefs.length:Int)))) (r_pick_or rfl rfl (fun hp=>(gvt (vB ((v2.2.1.length:Int) !=(a0.vDefs.length:Int))) (and_i rfl hp) rfl))) ?_
  try simp only [sc0,sc1]
  refine run_nil ?_
  refine norm_then ?_
  refine wp_cond_split (t:=((v4 !=0)||((v2.2.1.length:Int) !=(a0.vDefs.length:Int)))) rfl (fun c2=>?_) (fun c2=>?_)
  ·replace H:=of_pos H c2
   refine wp_seq ?_
   refine region ?_
   refine rs (vB false) (r_assign rfl) ?_
   try simp only [sc0,sc1]
   refine run_nil ?_
   refine norm_then ?_
   refine wp_ret ?_
   refine ret_then ?_
   obtain rfl:=Option.some.inj H
   refine bodyPost_ret (results_1 rfl (one_tmp rfl)) rfl ?_
   exact ⟨rfl,HS7.toE⟩
  ·replace H:=of_neg H (nt c2)
   refine wp_skip ?_
   refine norm_then ?_
   refine wp_seq ?_
   refine wp_seq ?_
   refine region ?_
   refine rs (vI 0) (r_assign rfl) ?_
   try simp only [sc0,sc1]
   refine run_nil ?_
   refine norm_then ?_
   obtain ⟨xx1,H,G1⟩:=of_bind H
   refine loop_patch [2,7,44,45,46,47,48,49,50,51,52,53,54,55,56,57,58] (fun m us w'=>∃y1_0:Int,∃uy1_2 uy1_44 uy1_45 uy1_46 uy1_47 uy1_48 uy1_49 uy1_50 uy1_51 uy1_52 uy1_53 uy1_54 uy1_55 uy1_56 uy1_57 uy1_58:Value,us=[uy1_2,vI y1_0,uy1_44,uy1_45,uy1_46,uy1_47,uy1_48,uy1_49,uy1_50,uy1_51,uy1_52,uy1_53,uy1_54,uy1_55,uy1_56,uy1_57,uy1_58]∧taplinelaw08_CtfUnique.l0 k a0 v2 m y1_0=some xx1∧St [] h0 w0 h1 [(some b2, .cells #[vL Av2_0_0 v2.1.vDefs.length cv2_0_0] 24 (0,0)),(some b1, .cells #[vL A0_0 a0.vDefs.length c0_0] 24 (0,0))] w') (fun us w'=>∃(s1:Unit),xx1= .inr s1∧∃uo1_2 uo1_7 uo1_44 uo1_45 uo1_46 uo1_47 uo1_48 uo1_49 uo1_50 uo1_51 uo1_52 uo1_53 uo1_54 uo1_55 uo1_56 uo1_57 uo1_58:Value,us=[uo1_2,uo1_7,uo1_44,uo1_45,uo1_46,uo1_47,uo1_48,uo1_49,uo1_50,uo1_51,uo1_52,uo1_53,uo1_54,uo1_55,uo1_56,uo1_57,uo1_58]∧St [] h0 w0 h1 [(some b2, .cells #[vL Av2_0_0 v2.1.vDefs.length cv2_0_0] 24 (0,0)),(some b1, .cells #[vL A0_0 a0.vDefs.length c0_0] 24 (0,0))] w') k [vB false,vI 0,undef,undef,undef,undef,undef,undef,undef,undef,undef,undef,undef,undef,undef,undef,undef] (by simp only [patch,sc0,sc1]) ⟨0,_,_,_,_,_,_,_,_,_,_,_,_,_,_,_,_,rfl,H,HS7⟩ ?_ ?_
   ·rintro m us w8 ⟨y1_0,uy1_2,uy1_44,uy1_45,uy1_46,uy1_47,uy1_48,uy1_49,uy1_50,uy1_51,uy1_52,uy1_53,uy1_54,uy1_55,uy1_56,uy1_57,uy1_58,rfl,H,HS8⟩
    cases m with
    |zero=>exact absurd H (by simp [taplinelaw08_CtfUnique.l0])
    |succ m=>
     rw [taplinelaw08_CtfUnique.l0] at H
     try simp only [patch,sc0,sc1]
     refine wp_seq ?_
     refine wp_seq ?_
     refine region ?_
     refine rs (vI y1_0) (r_move rfl) ?_
     refine rs (vL Av2_1_0 v2.2.1.length cv2_1_0) (r_move rfl) ?_
     refine rs (vI (v2.2.1.length:Int)) (r_len rfl Tryd.runUnderlying62) ?_
     refine rs (vB (decide (y1_0<(v2.2.1.length:Int)))) (r_bin rfl rfl rfl) ?_
     try simp only [sc0,sc1]
     refine run_nil ?_
     refine norm_then ?_
     refine wp_cond_split (t:=(decide (y1_0<(v2.2.1.length:Int)))) rfl (fun c3=>?_) (fun c3=>?_)
     ·replace H:=of_pos H c3
      refine wp_skip ?_
      refine norm_then ?_
      refine wp_seq ?_
      refine wp_block ?_
      refine wp_seq ?_
      obtain ⟨hi1,H⟩:=of_ite H
      obtain ⟨ad1,e1,hel1⟩:=ld_int hrv2_1_0 hi1.1 hi1.2
      obtain ⟨v5,H5,H⟩:=of_bind H
      refine drawn [.eq (Value.agg #[vL A0_0 a0.vDefs.length c0_0]), .eq (vI y1_0), .eq (Value.agg #[vL Av2_0_0 v2.1.vDefs.length cv2_0_0]), .eq (vL Av2_1_0 v2.2.1.length cv2_1_0), .eq (vI y1_0), .eq (Value.pointer (some (Addr.add ad1 (y1_0.toNat*1)))), .eq (vI (rd 0 v2.2.1 y1_0)), .eq (vB v5), .eq (vB (!v5))] [50,51,52,53,54,55,56,57,58] hmix (by kernel_rfl) rfl (stable_eq (stable_eq (stable_eq (stable_eq (stable_eq (stable_eq (stable_eq (stable_eq (stable_eq stable_nil))))))))) ⟨ob_plain rfl (fun a' w' hE hk=>by have HSd:=HS8.step hE;exact does_eq (r_loadBoxAgg (n:=1) (vs:=[vL A0_0 a0.vDefs.length c0_0]) (show _=vP b1 0 from hk 1 rfl) Tryd.isAgg24 (HSd.look 1 rfl) Tryd.sizeOf24 rfl rfl)),ob_plain rfl (fun a' w' hE hk=>by have HSd:=HS8.step hE;exact does_eq (r_move (show _=vI y1_0 from hk 7 rfl))),ob_plain rfl (fun a' w' hE hk=>by have HSd:=HS8.step hE;exact does_eq (r_loadBoxAgg (n:=1) (vs:=[vL Av2_0_0 v2.1.vDefs.length cv2_0_0]) (show _=vP b2 0 from hk 4 rfl) Tryd.isAgg24 (HSd.look 0 rfl) Tryd.sizeOf24 rfl rfl)),ob_plain rfl (fun a' w' hE hk=>by have HSd:=HS8.step hE;exact does_eq (r_move (show _=vL Av2_1_0 v2.2.1.length cv2_1_0 from hk 5 rfl))),ob_plain rfl (fun a' w' hE hk=>by have HSd:=HS8.step hE;exact does_eq (r_move (show _=vI y1_0 from hk 7 rfl))),ob_plain rfl (fun a' w' hE hk=>by have HSd:=HS8.step hE;exact does_eq (r_indexA (sz:=1) (show _=vL Av2_1_0 v2.2.1.length cv2_1_0 from hk 53 rfl) e1 (show _=vI y1_0 from hk 54 rfl) hi1.1 hi1.2 Tryd.runUnderlying62 Tryd.sizeOf3)),ob_plain rfl (fun a' w' hE hk=>by have HSd:=HS8.step hE;exact does_eq (r_load (show _=Value.pointer (some (Addr.add ad1 (y1_0.toNat*1))) from hk 55 rfl) Tryd.isAgg3 (hel1.cell0 HSd.sees rfl))),ob_plain rfl (fun a' w' hE hk=>by have HSd:=HS8.step hE;exact (does_call_eq Tryd.call29 rfl (map4 (show _=Value.agg #[vL A0_0 a0.vDefs.length c0_0] from hk 50 rfl) (show _=vI y1_0 from hk 51 rfl) (show _=Value.agg #[vL Av2_0_0 v2.1.vDefs.length cv2_0_0] from hk 52 rfl) (show _=vI (rd 0 v2.2.1 y1_0) from hk 56 rfl)) (ctf_Equal.calls k a0 y1_0 v2.1 (rd 0 v2.2.1 y1_0) A0_0 c0_0 Av2_0_0 cv2_0_0 HSd.sees (ht.s HSd) (hr0_0.ext HS8.sub) hc0_0 hrv2_0_0 hcv2_0_0 H5))),ob_plain rfl (fun a' w' hE hk=>by have HSd:=HS8.step hE;exact does_eq (r_not (show _=vB v5 from hk 57 rfl))),trivial⟩ ?_
      intro w9 hE7
      simp only [List.zip_cons_cons,List.zip_nil_left,List.zip_nil_right,finL,sc0,sc1,List.length_cons,List.length_nil,List.drop_succ_cons,List.drop_zero,Nat.zero_add,Nat.reduceAdd]
      have HS9:=HS8.step hE7
      refine run_nil ?_
      refine norm_then ?_
      refine wp_cond_split (t:=(!v5)) rfl (fun c4=>?_) (fun c4=>?_)
      ·replace H:=of_pos H c4
       refine wp_seq ?_
       refine region ?_
       refine rs (vB false) (r_assign rfl) ?_
       try simp only [sc0,sc1]
       refine run_nil ?_
       refine norm_then ?_
       refine wp_ret ?_
       refine ret_block ?_
       refine ret_then ?_
       refine ret_loop ?_
       refine ret_then ?_
       obtain rfl:=Option.some.inj H
       obtain rfl:=Option.some.inj G1
       refine bodyPost_ret (results_1 rfl (one_tmp rfl)) rfl ?_
       exact ⟨rfl,HS9.toE⟩
      ·replace H:=of_neg H (nt c4)
       refine wp_skip ?_
       refine norm_block ?_
       refine norm_then ?_
       refine region ?_
       refine rs (vI y1_0) (r_move rfl) ?_
       refine rs (vI (w64 (y1_0+1))) (r_bin rfl rfl rfl) ?_
       refine rs (vI (w64 (y1_0+1))) (r_assign rfl) ?_
       try simp only [sc0,sc1]
       refine run_nil ?_
       refine again m [uy1_2,vI (w64 (y1_0+1)),vI y1_0,vL Av2_1_0 v2.2.1.length cv2_1_0,vI (v2.2.1.length:Int),vB (decide (y1_0<(v2.2.1.length:Int))),vI y1_0,vI (w64 (y1_0+1)),Value.agg #[vL A0_0 a0.vDefs.length c0_0],vI y1_0,Value.agg #[vL Av2_0_0 v2.1.vDefs.length cv2_0_0],vL Av2_1_0 v2.2.1.length cv2_1_0,vI y1_0,Value.pointer (some (Addr.add ad1 (y1_0.toNat*1))),vI (rd 0 v2.2.1 y1_0),vB v5,vB (!v5)] (Nat.lt_succ_self m) (by simp only [patch,sc0,sc1]) ⟨(w64 (y1_0+1)),_,_,_,_,_,_,_,_,_,_,_,_,_,_,_,_,rfl,H,HS9⟩
     ·replace H:=of_neg H (nt c3)
      refine wp_exit ?_
      refine exit_then ?_
      obtain rfl:=Option.some.inj H
      refine leave [uy1_2,vI y1_0,vI y1_0,vL Av2_1_0 v2.2.1.length cv2_1_0,vI (v2.2.1.length:Int),vB (decide (y1_0<(v2.2.1.length:Int))),uy1_48,uy1_49,uy1_50,uy1_51,uy1_52,uy1_53,uy1_54,uy1_55,uy1_56,uy1_57,uy1_58] (by simp only [patch,sc0,sc1]) ⟨_,rfl,_,_,_,_,_,_,_,_,_,_,_,_,_,_,_,_,_,rfl,HS8⟩
   ·rintro us w10 ⟨s1,rfl,uo1_2,uo1_7,uo1_44,uo1_45,uo1_46,uo1_47,uo1_48,uo1_49,uo1_50,uo1_51,uo1_52,uo1_53,uo1_54,uo1_55,uo1_56,uo1_57,uo1_58,rfl,HS10⟩
    replace H:=G1
    clear G1
    try simp only [patch,sc0,sc1]
    refine norm_then ?_
    refine wp_seq ?_
    refine wp_seq ?_
    refine region ?_
    refine rs (vI 0) (r_assign rfl) ?_
    try simp only [sc0,sc1]
    refine run_nil ?_
    refine norm_then ?_
    obtain ⟨xx2,H,G2⟩:=of_bind H
    refine loop_patch [2,8,9,10,11,12,13,59,60,61,62,63,64,65,66,67,68,69,70,71,72,73,74,75,76,77,78,79,80,81,82,83,84,85,86,87,88,89,90,91,92,93] (fun m us w'=>∃y2_0:Int,∃uy2_2 uy2_9 uy2_10 uy2_11 uy2_12 uy2_13 uy2_59 uy2_60 uy2_61 uy2_62 uy2_63 uy2_64 uy2_65 uy2_66 uy2_67 uy2_68 uy2_69 uy2_70 uy2_71 uy2_72 uy2_73 uy2_74 uy2_75 uy2_76 uy2_77 uy2_78 uy2_79 uy2_80 uy2_81 uy2_82 uy2_83 uy2_84 uy2_85 uy2_86 uy2_87 uy2_88 uy2_89 uy2_90 uy2_91 uy2_92 uy2_93:Value,us=[uy2_2,vI y2_0,uy2_9,uy2_10,uy2_11,uy2_12,uy2_13,uy2_59,uy2_60,uy2_61,uy2_62,uy2_63,uy2_64,uy2_65,uy2_66,uy2_67,uy2_68,uy2_69,uy2_70,uy2_71,uy2_72,uy2_73,uy2_74,uy2_75,uy2_76,uy2_77,uy2_78,uy2_79,uy2_80,uy2_81,uy2_82,uy2_83,uy2_84,uy2_85,uy2_86,uy2_87,uy2_88,uy2_89,uy2_90,uy2_91,uy2_92,uy2_93]∧taplinelaw08_CtfUnique.l1 k v2 m y2_0=some xx2∧St [] h0 w0 h1 [(some b2, .cells #[vL Av2_0_0 v2.1.vDefs.length cv2_0_0] 24 (0,0)),(some b1, .cells #[vL A0_0 a0.vDefs.length c0_0] 24 (0,0))] w') (fun us w'=>∃(s3:Unit),xx2= .inr s3∧∃uo3_2 uo3_8 uo3_9 uo3_10 uo3_11 uo3_12 uo3_13 uo3_59 uo3_60 uo3_61 uo3_62 uo3_63 uo3_64 uo3_65 uo3_66 uo3_67 uo3_68 uo3_69 uo3_70 uo3_71 uo3_72 uo3_73 uo3_74 uo3_75 uo3_76 uo3_77 uo3_78 uo3_79 uo3_80 uo3_81 uo3_82 uo3_83 uo3_84 uo3_85 uo3_86 uo3_87 uo3_88 uo3_89 uo3_90 uo3_91 uo3_92 uo3_93:Value,us=[uo3_2,uo3_8,uo3_9,uo3_10,uo3_11,uo3_12,uo3_13,uo3_59,uo3_60,uo3_61,uo3_62,uo3_63,uo3_64,uo3_65,uo3_66,uo3_67,uo3_68,uo3_69,uo3_70,uo3_71,uo3_72,uo3_73,uo3_74,uo3_75,uo3_76,uo3_77,uo3_78,uo3_79,uo3_80,uo3_81,uo3_82,uo3_83,uo3_84,uo3_85,uo3_86,uo3_87,uo3_88,uo3_89,uo3_90,uo3_91,uo3_92,uo3_93]∧St [] h0 w0 h1 [(some b2, .cells #[vL Av2_0_0 v2.1.vDefs.length cv2_0_0] 24 (0,0)),(some b1, .cells #[vL A0_0 a0.vDefs.length c0_0] 24 (0,0))] w') k [uo1_2,vI 0,undef,undef,undef,undef,undef,undef,undef,undef,undef,undef,undef,undef,undef,undef,undef,undef,undef,undef,undef,undef,undef,undef,undef,undef,undef,undef,undef,undef,undef,undef,undef,undef,undef,undef,undef,undef,undef,undef,undef,undef] (by simp only [patch,sc0,sc1]) ⟨0,_,_,_,_,_,_,_,_,_,_,_,_,_,_,_,_,_,_,_,_,_,_,_,_,_,_,_,_,_,_,_,_,_,_,_,_,_,_,_,_,_,rfl,H,HS10⟩ ?_ ?_
    ·rintro m us w11 ⟨y2_0,uy2_2,uy2_9,uy2_10,uy2_11,uy2_12,uy2_13,uy2_59,uy2_60,uy2_61,uy2_62,uy2_63,uy2_64,uy2_65,uy2_66,uy2_67,uy2_68,uy2_69,uy2_70,uy2_71,uy2_72,uy2_73,uy2_74,uy2_75,uy2_76,uy2_77,uy2_78,uy2_79,uy2_80,uy2_81,uy2_82,uy2_83,uy2_84,uy2_85,uy2_86,uy2_87,uy2_88,uy2_89,uy2_90,uy2_91,uy2_92,uy2_93,rfl,H,HS11⟩
     cases m with
     |zero=>exact absurd H (by simp [taplinelaw08_CtfUnique.l1])
     |succ m=>
      rw [taplinelaw08_CtfUnique.l1] at H
      try simp only [patch,sc0,sc1]
      refine wp_seq ?_
      refine wp_seq ?_
      refine region ?_
      refine rs (vI y2_0) (r_move rfl) ?_
      refine rs (vP b2 0) (r_fieldBox (n:=1) (o':=0) rfl Tryd.runUnderlying24 rfl Tryd.sizeOf22 (by decide) rfl) ?_
      refine rs (vL Av2_0_0 v2.1.vDefs.length cv2_0_0) (r_loadBox rfl Tryd.isAgg22 (HS11.look 0 rfl) rfl) ?_
      refine rs (vI (v2.1.vDefs.length:Int)) (r_len rfl Tryd.runUnderlying22) ?_
      refine run_frame (by simp only [sc0,sc1];rfl) ?_
      refine rs (vB (decide (y2_0<(v2.1.vDefs.length:Int)))) (r_bin rfl rfl rfl) ?_
      try simp only [sc0,sc1]
      refine run_nil ?_
      refine norm_then ?_
      refine wp_cond_split (t:=(decide (y2_0<(v2.1.vDefs.length:Int)))) rfl (fun c5=>?_) (fun c5=>?_)
      ·replace H:=of_pos H c5
       refine wp_skip ?_
       refine norm_then ?_
       refine wp_seq ?_
       refine wp_block ?_
       refine wp_seq ?_
       refine region ?_
       refine rs (vI 0) (r_assign rfl) ?_
       try simp only [sc0,sc1]
       refine run_nil ?_
       refine norm_then ?_
       obtain ⟨xx3,H,G3⟩:=of_bind H
       refine loop_patch [2,9,10,11,12,13,66,67,68,69,70,71,72,73,74,75,76,77,78,79,80,81,82,83,84,85,86,87,88,89,90,91,92,93] (fun m us w'=>∃y3_0:Int,∃uy3_2 uy3_10 uy3_11 uy3_12 uy3_13 uy3_66 uy3_67 uy3_68 uy3_69 uy3_70 uy3_71 uy3_72 uy3_73 uy3_74 uy3_75 uy3_76 uy3_77 uy3_78 uy3_79 uy3_80 uy3_81 uy3_82 uy3_83 uy3_84 uy3_85 uy3_86 uy3_87 uy3_88 uy3_89 uy3_90 uy3_91 uy3_92 uy3_93:Value,us=[uy3_2,vI y3_0,uy3_10,uy3_11,uy3_12,uy3_13,uy3_66,uy3_67,uy3_68,uy3_69,uy3_70,uy3_71,uy3_72,uy3_73,uy3_74,uy3_75,uy3_76,uy3_77,uy3_78,uy3_79,uy3_80,uy3_81,uy3_82,uy3_83,uy3_84,uy3_85,uy3_86,uy3_87,uy3_88,uy3_89,uy3_90,uy3_91,uy3_92,uy3_93]∧taplinelaw08_CtfUnique.l2 k v2 y2_0 m y3_0=some xx3∧St [] h0 w0 h1 [(some b2, .cells #[vL Av2_0_0 v2.1.vDefs.length cv2_0_0] 24 (0,0)),(some b1, .cells #[vL A0_0 a0.vDefs.length c0_0] 24 (0,0))] w') (fun us w'=>∃(s2:Unit),xx3= .inr s2∧∃uo2_2 uo2_9 uo2_10 uo2_11 uo2_12 uo2_13 uo2_66 uo2_67 uo2_68 uo2_69 uo2_70 uo2_71 uo2_72 uo2_73 uo2_74 uo2_75 uo2_76 uo2_77 uo2_78 uo2_79 uo2_80 uo2_81 uo2_82 uo2_83 uo2_84 uo2_85 uo2_86 uo2_87 uo2_88 uo2_89 uo2_90 uo2_91 uo2_92 uo2_93:Value,us=[uo2_2,uo2_9,uo2_10,uo2_11,uo2_12,uo2_13,uo2_66,uo2_67,uo2_68,uo2_69,uo2_70,uo2_71,uo2_72,uo2_73,uo2_74,uo2_75,uo2_76,uo2_77,uo2_78,uo2_79,uo2_80,uo2_81,uo2_82,uo2_83,uo2_84,uo2_85,uo2_86,uo2_87,uo2_88,uo2_89,uo2_90,uo2_91,uo2_92,uo2_93]∧St [] h0 w0 h1 [(some b2, .cells #[vL Av2_0_0 v2.1.vDefs.length cv2_0_0] 24 (0,0)),(some b1, .cells #[vL A0_0 a0.vDefs.length c0_0] 24 (0,0))] w') k [uy2_2,vI 0,uy2_10,uy2_11,uy2_12,uy2_13,uy2_66,uy2_67,uy2_68,uy2_69,uy2_70,uy2_71,uy2_72,uy2_73,uy2_74,uy2_75,uy2_76,uy2_77,uy2_78,uy2_79,uy2_80,uy2_81,uy2_82,uy2_83,uy2_84,uy2_85,uy2_86,uy2_87,uy2_88,uy2_89,uy2_90,uy2_91,uy2_92,uy2_93] (by simp only [patch,sc0,sc1]) ⟨0,_,_,_,_,_,_,_,_,_,_,_,_,_,_,_,_,_,_,_,_,_,_,_,_,_,_,_,_,_,_,_,_,_,rfl,H,HS11⟩ ?_ ?_
       ·rintro m us w12 ⟨y3_0,uy3_2,uy3_10,uy3_11,uy3_12,uy3_13,uy3_66,uy3_67,uy3_68,uy3_69,uy3_70,uy3_71,uy3_72,uy3_73,uy3_74,uy3_75,uy3_76,uy3_77,uy3_78,uy3_79,uy3_80,uy3_81,uy3_82,uy3_83,uy3_84,uy3_85,uy3_86,uy3_87,uy3_88,uy3_89,uy3_90,uy3_91,uy3_92,uy3_93,rfl,H,HS12⟩
        cases m with
        |zero=>exact absurd H (by simp [taplinelaw08_CtfUnique.l2])
        |succ m=>
         rw [taplinelaw08_CtfUnique.l2] at H
         try simp only [patch,sc0,sc1]
         refine wp_seq ?_
         refine wp_seq ?_
         refine region ?_
         refine rs (vI y3_0) (r_move rfl) ?_
         refine rs (vI y2_0) (r_move rfl) ?_
         refine rs (vB (decide (y3_0<y2_0))) (r_bin rfl rfl rfl) ?_
         try simp only [sc0,sc1]
         refine run_nil ?_
         refine norm_then ?_
         refine wp_cond_split (t:=(decide (y3_0<y2_0))) rfl (fun c6=>?_) (fun c6=>?_)
         ·replace H:=of_pos H c6
          refine wp_skip ?_
          refine norm_then ?_
          refine wp_seq ?_
          refine wp_block ?_
          refine wp_seq ?_
          refine region ?_
          refine rs (Value.agg #[vL Av2_0_0 v2.1.vDefs.length cv2_0_0]) (r_loadBoxAgg (n:=1) (vs:=[vL Av2_0_0 v2.1.vDefs.length cv2_0_0]) rfl Tryd.isAgg24 (HS12.look 0 rfl) Tryd.sizeOf24 rfl rfl) ?_
          refine rs (vI y2_0) (r_move rfl) ?_
          obtain ⟨v6,H6,H⟩:=of_bind H
          refine run_eq (v:=Value.tuple #[vS v6.1,vI v6.2]) rfl rfl (does_call_eq Tryd.call20 rfl rfl (ctf_Text.calls k v2.1 y2_0 Av2_0_0 cv2_0_0 HS12.sees (ht.s HS12) hrv2_0_0 hcv2_0_0 H6)) ?_
          intro w13 hE8
          have HS13:=HS12.step hE8
          refine rs (Value.tuple #[vS v6.1,vI v6.2]) (r_move rfl) ?_
          refine run_frame (by simp only [sc0,sc1];rfl) ?_
          refine rs (vS v6.1) (r_extract rfl rfl) ?_
          refine rs (vI v6.2) (r_extract rfl rfl) ?_
          refine rs (vS v6.1) (r_assign rfl) ?_
          refine rs (vI v6.2) (r_assign rfl) ?_
          try simp only [sc0,sc1]
          refine run_nil ?_
          refine norm_then ?_
          refine wp_seq ?_
          refine region ?_
          refine rs (Value.agg #[vL Av2_0_0 v2.1.vDefs.length cv2_0_0]) (r_loadBoxAgg (n:=1) (vs:=[vL Av2_0_0 v2.1.vDefs.length cv2_0_0]) rfl Tryd.isAgg24 (HS13.look 0 rfl) Tryd.sizeOf24 rfl rfl) ?_
          refine rs (vI y3_0) (r_move rfl) ?_
          obtain ⟨v7,H7,H⟩:=of_bind H
          refine run_eq (v:=Value.tuple #[vS v7.1,vI v7.2]) rfl rfl (does_call_eq Tryd.call20 rfl rfl (ctf_Text.calls k v2.1 y3_0 Av2_0_0 cv2_0_0 HS13.sees (ht.s HS13) hrv2_0_0 hcv2_0_0 H7)) ?_
          intro w14 hE9
          have HS14:=HS13.step hE9
          refine rs (Value.tuple #[vS v7.1,vI v7.2]) (r_move rfl) ?_
          refine run_frame (by simp only [sc0,sc1];rfl) ?_
          refine rs (vS v7.1) (r_extract rfl rfl) ?_
          refine rs (vI v7.2) (r_extract rfl rfl) ?_
          refine rs (vS v7.1) (r_assign rfl) ?_
          refine rs (vI v7.2) (r_assign rfl) ?_
          try simp only [sc0,sc1]
          refine run_nil ?_
          refine norm_then ?_
          refine wp_seq ?_
          refine region ?_
          refine rs (vI v6.2) (r_move rfl) ?_
          refine rs (vB (v6.2 !=0)) (r_bin rfl rfl rfl) ?_
          refine rs (vB (v6.2 !=0)) (r_move rfl) ?_
          refine rgs (v6.2 !=0) true (vI v7.2) rfl rfl rfl rfl (fun hg=>(r_move rfl)) ?_
          refine run_frame (by simp only [sc0,sc1];rfl) ?_
          refine rgs (v6.2 !=0) true (vB (v7.2 !=0)) rfl rfl rfl rfl (fun hg=>(r_bin (gvt (vI v7.2) hg rfl) rfl rfl)) ?_
          refine rs (vB ((v6.2 !=0)||(v7.2 !=0))) (r_pick_or rfl rfl (fun hp=>(gvt (vB (v7.2 !=0)) (and_i rfl hp) rfl))) ?_
          refine rs (vB ((v6.2 !=0)||(v7.2 !=0))) (r_move rfl) ?_
          refine rgs ((v6.2 !=0)||(v7.2 !=0)) true (vS v6.1) rfl rfl rfl rfl (fun hg=>(r_move rfl)) ?_
          refine run_frame (by simp only [sc0,sc1];rfl) ?_
          refine rgs ((v6.2 !=0)||(v7.2 !=0)) true (vS v7.1) rfl rfl rfl rfl (fun hg=>(r_move rfl)) ?_
          refine rgs ((v6.2 !=0)||(v7.2 !=0)) true (vB (strEq v6.1 v7.1)) rfl rfl rfl rfl (fun hg=>(r_streql (gvt (vS v6.1) hg rfl) (gvt (vS v7.1) hg rfl))) ?_
          refine rs (vB (((v6.2 !=0)||(v7.2 !=0))||(strEq v6.1 v7.1))) (r_pick_or rfl rfl (fun hp=>(gvt (vB (strEq v6.1 v7.1)) (and_i rfl hp) rfl))) ?_
          try simp only [sc0,sc1]
          refine run_nil ?_
          refine norm_then ?_
          refine wp_cond_split (t:=(((v6.2 !=0)||(v7.2 !=0))||(strEq v6.1 v7.1))) rfl (fun c7=>?_) (fun c7=>?_)
          ·replace H:=of_pos H c7
           refine wp_seq ?_
           refine region ?_
           refine rs (vB false) (r_assign rfl) ?_
           try simp only [sc0,sc1]
           refine run_nil ?_
           refine norm_then ?_
           refine wp_ret ?_
           refine ret_block ?_
           refine ret_then ?_
           refine ret_loop ?_
           refine ret_block ?_
           refine ret_then ?_
           refine ret_loop ?_
           refine ret_then ?_
           obtain rfl:=Option.some.inj H
           obtain rfl:=Option.some.inj G3
           obtain rfl:=Option.some.inj G2
           refine bodyPost_ret (results_1 rfl (one_tmp rfl)) rfl ?_
           exact ⟨rfl,HS14.toE⟩
          ·replace H:=of_neg H (nt c7)
           refine wp_skip ?_
           refine norm_block ?_
           refine norm_then ?_
           refine region ?_
           refine rs (vI y3_0) (r_move rfl) ?_
           refine rs (vI (w64 (y3_0+1))) (r_bin rfl rfl rfl) ?_
           refine rs (vI (w64 (y3_0+1))) (r_assign rfl) ?_
           try simp only [sc0,sc1]
           refine run_nil ?_
           refine again m [uy3_2,vI (w64 (y3_0+1)),vS v6.1,vI v6.2,vS v7.1,vI v7.2,vI y3_0,vI y2_0,vB (decide (y3_0<y2_0)),vI y3_0,vI (w64 (y3_0+1)),Value.tuple #[vS v6.1,vI v6.2],Value.agg #[vL Av2_0_0 v2.1.vDefs.length cv2_0_0],vI y2_0,Value.tuple #[vS v6.1,vI v6.2],vS v6.1,vI v6.2,Value.tuple #[vS v7.1,vI v7.2],Value.agg #[vL Av2_0_0 v2.1.vDefs.length cv2_0_0],vI y3_0,Value.tuple #[vS v7.1,vI v7.2],vS v7.1,vI v7.2,vI v6.2,vB (v6.2 !=0),vB (v6.2 !=0),gv (true&&((v6.2 !=0)==false)) (vI v7.2),gv (true&&((v6.2 !=0)==false)) (vB (v7.2 !=0)),vB ((v6.2 !=0)||(v7.2 !=0)),vB ((v6.2 !=0)||(v7.2 !=0)),gv (true&&(((v6.2 !=0)||(v7.2 !=0))==false)) (vS v6.1),gv (true&&(((v6.2 !=0)||(v7.2 !=0))==false)) (vS v7.1),gv (true&&(((v6.2 !=0)||(v7.2 !=0))==false)) (vB (strEq v6.1 v7.1)),vB (((v6.2 !=0)||(v7.2 !=0))||(strEq v6.1 v7.1))] (Nat.lt_succ_self m) (by simp only [patch,sc0,sc1]) ⟨(w64 (y3_0+1)),_,_,_,_,_,_,_,_,_,_,_,_,_,_,_,_,_,_,_,_,_,_,_,_,_,_,_,_,_,_,_,_,_,rfl,H,HS14⟩
         ·replace H:=of_neg H (nt c6)
          refine wp_exit ?_
          refine exit_then ?_
          obtain rfl:=Option.some.inj H
          refine leave [uy3_2,vI y3_0,uy3_10,uy3_11,uy3_12,uy3_13,vI y3_0,vI y2_0,vB (decide (y3_0<y2_0)),uy3_69,uy3_70,uy3_71,uy3_72,uy3_73,uy3_74,uy3_75,uy3_76,uy3_77,uy3_78,uy3_79,uy3_80,uy3_81,uy3_82,uy3_83,uy3_84,uy3_85,uy3_86,uy3_87,uy3_88,uy3_89,uy3_90,uy3_91,uy3_92,uy3_93] (by simp only [patch,sc0,sc1]) ⟨_,rfl,_,_,_,_,_,_,_,_,_,_,_,_,_,_,_,_,_,_,_,_,_,_,_,_,_,_,_,_,_,_,_,_,_,_,rfl,HS12⟩
       ·rintro us w15 ⟨s2,rfl,uo2_2,uo2_9,uo2_10,uo2_11,uo2_12,uo2_13,uo2_66,uo2_67,uo2_68,uo2_69,uo2_70,uo2_71,uo2_72,uo2_73,uo2_74,uo2_75,uo2_76,uo2_77,uo2_78,uo2_79,uo2_80,uo2_81,uo2_82,uo2_83,uo2_84,uo2_85,uo2_86,uo2_87,uo2_88,uo2_89,uo2_90,uo2_91,uo2_92,uo2_93,rfl,HS15⟩
        replace H:=G3
        clear G3
        try simp only [patch,sc0,sc1]
        refine norm_block ?_
        refine norm_then ?_
        refine region ?_
        refine rs (vI y2_0) (r_move rfl) ?_
        refine rs (vI (w64 (y2_0+1))) (r_bin rfl rfl rfl) ?_
        refine rs (vI (w64 (y2_0+1))) (r_assign rfl) ?_
        try simp only [sc0,sc1]
        refine run_nil ?_
        refine again m [uo2_2,vI (w64 (y2_0+1)),uo2_9,uo2_10,uo2_11,uo2_12,uo2_13,vI y2_0,vP b2 0,vL Av2_0_0 v2.1.vDefs.length cv2_0_0,vI (v2.1.vDefs.length:Int),vB (decide (y2_0<(v2.1.vDefs.length:Int))),vI y2_0,vI (w64 (y2_0+1)),uo2_66,uo2_67,uo2_68,uo2_69,uo2_70,uo2_71,uo2_72,uo2_73,uo2_74,uo2_75,uo2_76,uo2_77,uo2_78,uo2_79,uo2_80,uo2_81,uo2_82,uo2_83,uo2_84,uo2_85,uo2_86,uo2_87,uo2_88,uo2_89,uo2_90,uo2_91,uo2_92,uo2_93] (Nat.lt_succ_self m) (by simp only [patch,sc0,sc1]) ⟨(w64 (y2_0+1)),_,_,_,_,_,_,_,_,_,_,_,_,_,_,_,_,_,_,_,_,_,_,_,_,_,_,_,_,_,_,_,_,_,_,_,_,_,_,_,_,_,rfl,H,HS15⟩
      ·replace H:=of_neg H (nt c5)
       refine wp_exit ?_
       refine exit_then ?_
       obtain rfl:=Option.some.inj H
       refine leave [uy2_2,vI y2_0,uy2_9,uy2_10,uy2_11,uy2_12,uy2_13,vI y2_0,vP b2 0,vL Av2_0_0 v2.1.vDefs.length cv2_0_0,vI (v2.1.vDefs.length:Int),vB (decide (y2_0<(v2.1.vDefs.length:Int))),uy2_64,uy2_65,uy2_66,uy2_67,uy2_68,uy2_69,uy2_70,uy2_71,uy2_72,uy2_73,uy2_74,uy2_75,uy2_76,uy2_77,uy2_78,uy2_79,uy2_80,uy2_81,uy2_82,uy2_83,uy2_84,uy2_85,uy2_86,uy2_87,uy2_88,uy2_89,uy2_90,uy2_91,uy2_92,uy2_93] (by simp only [patch,sc0,sc1]) ⟨_,rfl,_,_,_,_,_,_,_,_,_,_,_,_,_,_,_,_,_,_,_,_,_,_,_,_,_,_,_,_,_,_,_,_,_,_,_,_,_,_,_,_,_,_,rfl,HS11⟩
    ·rintro us w16 ⟨s3,rfl,uo3_2,uo3_8,uo3_9,uo3_10,uo3_11,uo3_12,uo3_13,uo3_59,uo3_60,uo3_61,uo3_62,uo3_63,uo3_64,uo3_65,uo3_66,uo3_67,uo3_68,uo3_69,uo3_70,uo3_71,uo3_72,uo3_73,uo3_74,uo3_75,uo3_76,uo3_77,uo3_78,uo3_79,uo3_80,uo3_81,uo3_82,uo3_83,uo3_84,uo3_85,uo3_86,uo3_87,uo3_88,uo3_89,uo3_90,uo3_91,uo3_92,uo3_93,rfl,HS16⟩
     replace H:=G2
     clear G2
     try simp only [patch,sc0,sc1]
     refine norm_then ?_
     refine wp_seq ?_
     refine region ?_
     refine rs (Value.agg #[vL Av2_0_0 v2.1.vDefs.length cv2_0_0]) (r_loadBoxAgg (n:=1) (vs:=[vL Av2_0_0 v2.1.vDefs.length cv2_0_0]) rfl Tryd.isAgg24 (HS16.look 0 rfl) Tryd.sizeOf24 rfl rfl) ?_
     obtain ⟨v8,H8,H⟩:=of_bind H
     refine run_ex rfl rfl (does_call Tryd.call28 rfl (gives_in (h:=h1) (R:=(fun hx u=>∃(Av8_0_0:Option Addr) (cv8_0_0:Nat),∃(Av8_1_0:Option Addr) (cv8_1_0:Nat),u=Value.tuple #[Value.agg #[vL Av8_0_0 v8.1.vDefs.length cv8_0_0],vL Av8_1_0 v8.2.1.length cv8_1_0,vI v8.2.2]∧v8.1.vDefs.length≤cv8_0_0∧Rd k_api_Def hx Av8_0_0 v8.1.vDefs∧v8.2.1.length≤cv8_1_0∧Rd (Kd.int .i64) hx Av8_1_0 v8.2.1)) (Ext.rfl' w16) ((ctf_Unique.calls k v2.1 Av2_0_0 cv2_0_0 HS16.sees (ht.s HS16) hrv2_0_0 hcv2_0_0 H8).mono ?_)) rfl) ?_
     ·rintro _ _ ⟨h1,Av8_0_0,cv8_0_0,Av8_1_0,cv8_1_0,rfl,hcv8_0_0,hrv8_0_0,hcv8_1_0,hrv8_1_0,g,ss,x⟩
      exact ⟨h1,_,rfl,⟨Av8_0_0,cv8_0_0,Av8_1_0,cv8_1_0,rfl,hcv8_0_0,hrv8_0_0,hcv8_1_0,hrv8_1_0⟩,g,ss,x⟩
     rintro w17 _ hE10 ⟨h2,⟨Av8_0_0,cv8_0_0,Av8_1_0,cv8_1_0,rfl,hcv8_0_0,hrv8_0_0,hcv8_1_0,hrv8_1_0⟩,gr2,se2⟩
     have HS17:=HS16.view hE10 gr2 se2
     replace hrv2_0_0:Rd k_api_Def h2 Av2_0_0 v2.1.vDefs:=hrv2_0_0.ext gr2.1
     replace hrv2_1_0:Rd (Kd.int .i64) h2 Av2_1_0 v2.2.1:=hrv2_1_0.ext gr2.1
     refine rs (Value.tuple #[Value.agg #[vL Av8_0_0 v8.1.vDefs.length cv8_0_0],vL Av8_1_0 v8.2.1.length cv8_1_0,vI v8.2.2]) (r_move rfl) ?_
     refine rs (Value.agg #[vL Av8_0_0 v8.1.vDefs.length cv8_0_0]) (r_extract rfl rfl) ?_
     refine run_frame (by simp only [sc0,sc1];rfl) ?_
     refine rs (vL Av8_1_0 v8.2.1.length cv8_1_0) (r_extract rfl rfl) ?_
     refine rs (vI v8.2.2) (r_extract rfl rfl) ?_
     refine run_ex rfl rfl (does_alloc (cs:=#[vL none 0 0]) Tryd.zeroValue24 rfl) ?_
     rintro w18 _ hE11 ⟨b3,rfl,ge3,hb3⟩
     have HS18:=HS17.new hE11 ge3 hb3
     refine run_st (i:=0) (cs:=[vL none 0 0]) (cs':=[vL Av8_0_0 v8.1.vDefs.length cv8_0_0]) (vs:=[vL Av8_0_0 v8.1.vDefs.length cv8_0_0]) (bs':=[(some b3, .cells #[vL Av8_0_0 v8.1.vDefs.length cv8_0_0] 24 (0,0)),(some b2, .cells #[vL Av2_0_0 v2.1.vDefs.length cv2_0_0] 24 (0,0)),(some b1, .cells #[vL A0_0 a0.vDefs.length c0_0] 24 (0,0))]) rfl rfl Tryd.sizeOf24 rfl rfl (by decide) rfl HS18 rfl (Nat.le_of_ble_eq_true rfl) rfl rfl ?_
     intro w19 HS19
     refine run_frame (by simp only [sc0,sc1];rfl) ?_
     refine rs (vL Av8_1_0 v8.2.1.length cv8_1_0) (r_assign rfl) ?_
     refine rs (vI v8.2.2) (r_assign rfl) ?_
     try simp only [sc0,sc1]
     refine run_nil ?_
     refine norm_then ?_
     refine wp_seq ?_
     refine region ?_
     refine rs (vB v1) (r_move rfl) ?_
     refine rs (vB v1) (r_move rfl) ?_
     refine rgs v1 true (vI v8.2.2) rfl rfl rfl rfl (fun hg=>(r_move rfl)) ?_
     refine rgs v1 true (vB (v8.2.2==0)) rfl rfl rfl rfl (fun hg=>(r_bin (gvt (vI v8.2.2) hg rfl) rfl rfl)) ?_
     refine run_frame (by simp only [sc0,sc1];rfl) ?_
     refine rs (vB (v1&&(v8.2.2==0))) (r_pick_and rfl (fun hp=>(gvt (vB (v8.2.2==0)) (and_i rfl hp) rfl)) rfl) ?_
     refine rs (vB (v1&&(v8.2.2==0))) (r_move rfl) ?_
     refine rgs (v1&&(v8.2.2==0)) true (Value.agg #[vL Av8_0_0 v8.1.vDefs.length cv8_0_0]) rfl rfl rfl rfl (fun hg=>(r_loadBoxAgg (n:=1) (vs:=[vL Av8_0_0 v8.1.vDefs.length cv8_0_0]) rfl Tryd.isAgg24 (HS19.look 0 rfl) Tryd.sizeOf24 rfl rfl)) ?_
     refine rgs (v1&&(v8.2.2==0)) true (Value.agg #[vL Av2_0_0 v2.1.vDefs.length cv2_0_0]) rfl rfl rfl rfl (fun hg=>(r_loadBoxAgg (n:=1) (vs:=[vL Av2_0_0 v2.1.vDefs.length cv2_0_0]) rfl Tryd.isAgg24 (HS19.look 1 rfl) Tryd.sizeOf24 rfl rfl)) ?_
     refine run_frame (by simp only [sc0,sc1];rfl) ?_
     obtain ⟨v9,H9,H⟩:=of_bind H
     refine run_g (b:=(v1&&(v8.2.2==0))) (c:=true) (v:=vB v9) rfl rfl rfl rfl (fun hg=>(does_call_eq Tryd.call30 rfl (map2 (gvt (Value.agg #[vL Av8_0_0 v8.1.vDefs.length cv8_0_0]) hg rfl) (gvt (Value.agg #[vL Av2_0_0 v2.1.vDefs.length cv2_0_0]) hg rfl)) (taplineref08_Same.calls k v8.1 v2.1 Av8_0_0 cv8_0_0 Av2_0_0 cv2_0_0 HS19.sees hrv8_0_0 hcv8_0_0 hrv2_0_0 hcv2_0_0 (of_pos H9 hg)))) ?_
     intro w20 hE12
     have HS20:=HS19.step hE12
     refine rs (vB ((v1&&(v8.2.2==0))&&v9)) (r_pick_and rfl (fun hp=>(gvt (vB v9) (and_i rfl hp) rfl)) rfl) ?_
     refine rs (vB ((v1&&(v8.2.2==0))&&v9)) (r_move rfl) ?_
     refine rgs ((v1&&(v8.2.2==0))&&v9) true (vL Av8_1_0 v8.2.1.length cv8_1_0) rfl rfl rfl rfl (fun hg=>(r_move rfl)) ?_
     refine run_frame (by simp only [sc0,sc1];rfl) ?_
     obtain ⟨v10,H10,H⟩:=of_bind H
     refine run_g (b:=((v1&&(v8.2.2==0))&&v9)) (c:=true) (v:=vB v10) rfl rfl rfl rfl (fun hg=>(does_call_eq Tryd.call31 rfl (map1 (gvt (vL Av8_1_0 v8.2.1.length cv8_1_0) hg rfl)) (taplinelaw08_rising.calls k v8.2.1 Av8_1_0 cv8_1_0 HS20.sees hrv8_1_0 hcv8_1_0 (of_pos H10 hg)))) ?_
     intro w21 hE13
     have HS21:=HS20.step hE13
     refine rs (vB (((v1&&(v8.2.2==0))&&v9)&&v10)) (r_pick_and rfl (fun hp=>(gvt (vB v10) (and_i rfl hp) rfl)) rfl) ?_
     refine rs (vB (((v1&&(v8.2.2==0))&&v9)&&v10)) (r_assign rfl) ?_
     try simp only [sc0,sc1]
     refine run_nil ?_
     refine norm_then ?_
     refine wp_ret ?_
     obtain rfl:=Option.some.inj H
     refine bodyPost_ret (results_1 rfl (one_tmp rfl)) rfl ?_
     exact ⟨rfl,HS21.toE⟩

end Go.Proofs.YtfjppgobidjndaaDoor
namespace Go.Proofs.YtfjppgobidjndaaDoor
open Go.RowKit Go.M
theorem sameF_loop {a:List api_Field} (hl:a.length≤9223372036854775807):∀(e j m:Nat),j+e=a.length→e<m→taplineref08_SameFields.l0 a a m (j:Int)=some (.inr ()):=by
  intro e
  induction e with
  |zero=>
    intro j m hj hm
    obtain ⟨m,rfl⟩:∃q,m=q+1:=⟨m-1,by omega⟩
    rw [taplineref08_SameFields.l0,if_neg (by simp;omega)]
  |succ e ih=>
    intro j m hj hm
    obtain ⟨m,rfl⟩:∃q,m=q+1:=⟨m-1,by omega⟩
    have hlt:j<a.length:=by omega
    rw [taplineref08_SameFields.l0,if_pos (by simp;omega),if_pos (by omega),if_pos (by omega),if_neg (by rw [strEq_iff.2 rfl];simp),wrap_nat hlt hl]
    exact ih (j+1) m (by omega) (by omega)
theorem sameD_refl {d:api_Def} (hl:d.vFields.length≤9223372036854775807):∀k,d.vFields.length<k→taplineref08_SameDef.f k d d=some true:=by
  intro k hk
  unfold taplineref08_SameDef.f
  have hF:taplineref08_SameFields.f k d.vFields d.vFields=some true:=by
    unfold taplineref08_SameFields.f
    rw [if_neg (by simp),show taplineref08_SameFields.l0 _ _ k 0=_ from sameF_loop hl d.vFields.length 0 k (by omega) hk]
    rfl
  rw [strEq_iff.2 rfl]
  simp only [beq_self_eq_true,Bool.and_self,if_true]
  rw [hF]
  rfl
theorem sameT_loop {t:api_Types} (hl:t.vDefs.length≤9223372036854775807) {k:Nat} (hd:∀d∈t.vDefs,taplineref08_SameDef.f k d d=some true):∀(e j m:Nat),j+e=t.vDefs.length→e<m→taplineref08_Same.l0 k t t m (j:Int)=some (.inr ()):=by
  intro e
  induction e with
  |zero=>
    intro j m hj hm
    obtain ⟨m,rfl⟩:∃q,m=q+1:=⟨m-1,by omega⟩
    rw [taplineref08_Same.l0,if_neg (by simp;omega)]
  |succ e ih=>
    intro j m hj hm
    obtain ⟨m,rfl⟩:∃q,m=q+1:=⟨m-1,by omega⟩
    have hlt:j<t.vDefs.length:=by omega
    rw [taplineref08_Same.l0,if_pos (by simp;omega),if_pos (by omega),if_pos (by omega),rd_nat,hd _ (getD_mem hlt)]
    simp only [Option.bind_some,Bool.not_true,Bool.false_eq_true,if_false]
    rw [wrap_nat hlt hl]
    exact ih (j+1) m (by omega) (by omega)
theorem same_refl {t:api_Types} (hl:t.vDefs.length≤9223372036854775807) (hF:∀d∈t.vDefs,FitD d):Ev (fun k=>taplineref08_Same.f k t t) true:=by
  obtain ⟨K,hK⟩:=Ev.all (f:=fun d k=>taplineref08_SameDef.f k d d) (q:=fun _=>true) t.vDefs (fun d hd=>⟨d.vFields.length+1,fun k hk=>sameD_refl (hF d hd).len k (by omega)⟩)
  refine ⟨K+t.vDefs.length+1,fun k hk=>?_⟩
  show taplineref08_Same.f k t t=_
  unfold taplineref08_Same.f
  rw [if_neg (by simp),show taplineref08_Same.l0 k t t k 0=_ from sameT_loop hl (hK k (by omega)) t.vDefs.length 0 k (by omega) (by omega)]
  rfl
theorem sameI_loop {a:List Int} (hl:a.length≤9223372036854775807):∀(e j m:Nat),j+e=a.length→e<m→taplineref08_SameInts.l0 a a m (j:Int)=some (.inr ()):=by
  intro e
  induction e with
  |zero=>
    intro j m hj hm
    obtain ⟨m,rfl⟩:∃q,m=q+1:=⟨m-1,by omega⟩
    rw [taplineref08_SameInts.l0,if_neg (by simp;omega)]
  |succ e ih=>
    intro j m hj hm
    obtain ⟨m,rfl⟩:∃q,m=q+1:=⟨m-1,by omega⟩
    have hlt:j<a.length:=by omega
    rw [taplineref08_SameInts.l0,if_pos (by simp;omega),if_pos (by omega),if_pos (by omega),if_neg (by simp),wrap_nat hlt hl]
    exact ih (j+1) m (by omega) (by omega)
theorem sameI_refl {a:List Int} (hl:a.length≤9223372036854775807):Ev (fun k=>taplineref08_SameInts.f k a a) true:=by
  refine ⟨a.length+1,fun k hk=>?_⟩
  show taplineref08_SameInts.f k a a=_
  unfold taplineref08_SameInts.f
  rw [if_neg (by simp),show taplineref08_SameInts.l0 a a k 0=_ from sameI_loop hl a.length 0 k (by omega) (by omega)]
  rfl
def upto (n:Nat):List Int:=(List.range n).map fun i=>((i:Nat):Int)
theorem upto_at {n j:Nat} (h:j<n):(upto n).getD j 0=(j:Int):=by
  unfold upto
  rw [List.getD_eq_getElem?_getD,List.getElem?_map,List.getElem?_range h];rfl
theorem upto_len (n:Nat):(upto n).length=n:=by unfold upto;simp
theorem rising_loop {n:Nat} (hl:n≤9223372036854775807):∀(e j m:Nat),j+e=n→e<m→taplinelaw08_rising.l0 (upto n) m (j:Int)=some (.inr ()):=by
  intro e
  induction e with
  |zero=>
    intro j m hj hm
    obtain ⟨m,rfl⟩:∃q,m=q+1:=⟨m-1,by omega⟩
    rw [taplinelaw08_rising.l0,if_neg (by rw [upto_len];simp;omega)]
  |succ e ih=>
    intro j m hj hm
    obtain ⟨m,rfl⟩:∃q,m=q+1:=⟨m-1,by omega⟩
    have hlt:j<n:=by omega
    rw [taplinelaw08_rising.l0,if_pos (by rw [upto_len];simp;omega),if_pos (by rw [upto_len];omega),rd_nat,upto_at hlt,if_neg (by simp),wrap_nat hlt hl]
    exact ih (j+1) m (by omega) (by omega)
theorem rising_upto {n:Nat} (hl:n≤9223372036854775807):Ev (fun k=>taplinelaw08_rising.f k (upto n)) true:=by
  refine ⟨n+1,fun k hk=>?_⟩
  show taplinelaw08_rising.f k (upto n)=_
  unfold taplinelaw08_rising.f
  rw [show taplinelaw08_rising.l0 _ k 0=_ from rising_loop hl n 0 k (by omega) (by omega)]
  rfl
section
variable {t:api_Types} {s:List Int} {m m':List (ByteArray×Int)} {l l':List ctf_source} {ix:List Int}
theorem Added.has (A:Added t m l 0 ix m' l'):Has m' t:=fun i hi=>by
  obtain ⟨q,_,h2,h3⟩:=A.at_ i (by have:=A.len;omega)
  have:=A.pool.all q h2
  rw [h3] at this
  simp only [Nat.zero_add] at this
  exact ⟨_,this⟩
theorem Added.keeps {u:api_Types} (P:Pool m l) (A:Added t m l 0 ix m' l') (h:Has m u):Has m' u:=fun i hi=>by
  obtain ⟨n,hn⟩:=h i hi
  obtain ⟨q,_,h2,h3⟩:=P.fst _ _ hn
  obtain ⟨r,hr,_⟩:=A.ext
  refine ⟨(q:Int),?_⟩
  have hl:l.length≤l'.length:=by rw [hr];simp
  have:=A.pool.all q (by omega)
  rw [hr,xS_app h2,h3] at this
  exact this
theorem src_at {l:List ctf_source} {q:Nat} (hq:q<l.length):l.getD q z_ctf_source∈l:=getD_mem hq
theorem uniq_built (W:Wf t s) (A:Added t [] [] 0 ix m' l'):(∀q,q<l'.length→sT (toS l') q=t)∧Built (outP m' l') (toS l'):=by
  obtain ⟨r,hr,hr2⟩:=A.ext
  have hst:∀q,q<l'.length→sT (toS l') q=t:=fun q hq=>by
    rw [(toS_at hq).1]
    have hm:=src_at hq
    rw [hr] at hm
    simp only [List.nil_append] at hm
    obtain ⟨i,_,_,e⟩:=hr2 _ hm
    rw [hr,List.nil_append,e]
  refine ⟨hst,A.pool.built ?_ (fun q hq=>?_) (fun q p hq hp k k' hk hk' he=>?_)⟩
  · have:=A.few;have:=A.len;have:=W.few;simp at*;omega
  · rw [hst q hq];exact A.has
  · rw [hst q hq] at hk he⊢
    rw [hst p hp] at hk' he⊢
    exact match_self W hk hk' he
theorem added_eq (W:Wf t s) (B:Built (outP m' l') (toS l')) (hsame:∀q,q<(toS l').length→∀k k',k<t.vDefs.length→k'<(sT (toS l') q).vDefs.length→tx t k=tx (sT (toS l') q) k'→Match t (dAt t k) (sT (toS l') q) (dAt (sT (toS l') q) k')) (P:Pool m' l') (H:Has m' t) {i q:Nat} (hi:i<t.vDefs.length) (hq:q<l'.length) (he:xS (toS l') q=tx t i):EqX t (i:Int) (outP m' l') (q:Int):=
  ⟨i,q,⟨rfl,hi,s,W⟩,⟨rfl,by rw [outP_len];exact hq,_,B.wf⟩,B.eq W hsame hi (fun k hk=>by
    obtain ⟨n,hn⟩:=H k (hk.lt W hi)
    obtain ⟨r,_,h2,h3⟩:=P.fst _ _ hn
    exact ⟨r,by rw [toS_len];exact h2,h3⟩) (by rw [toS_len];exact hq) he⟩
def srcs (u:api_Types) (n:Nat):List ctf_source:=(List.range n).map fun i=>⟨u,((i:Nat):Int)⟩
theorem srcs_succ (u:api_Types) (n:Nat):srcs u (n+1)=srcs u n++[⟨u,(n:Int)⟩]:=by unfold srcs;rw [List.range_succ,List.map_append];rfl
theorem upto_succ (n:Nat):upto (n+1)=upto n++[(n:Int)]:=by unfold upto;rw [List.range_succ,List.map_append];rfl
theorem srcs_len (u:api_Types) (n:Nat):(srcs u n).length=n:=by unfold srcs;simp
theorem srcs_x {u:api_Types} {n q:Nat} (h:q<n):sT (toS (srcs u n)) q=u∧sI (toS (srcs u n)) q=q:=by
  obtain ⟨h1,h2⟩:=toS_at (l:=srcs u n) (q:=q) (by rw [srcs_len];exact h)
  have:(srcs u n).getD q z_ctf_source=⟨u,(q:Int)⟩:=by
    unfold srcs
    rw [List.getD_eq_getElem?_getD,List.getElem?_map,List.getElem?_range h];rfl
  rw [h1,h2,this]
  exact ⟨rfl,rfl⟩
theorem add_same (W:Wf t s) (hD:∀i k,i<t.vDefs.length→k<t.vDefs.length→tx t i=tx t k→i=k):∀(e j:Nat) (m:List (ByteArray×Int)),j+e=t.vDefs.length→Pool m (srcs t j)→
    ∃m',Pool m' (srcs t t.vDefs.length)∧Ev2 (fun k q=>ctf_pool_add.l0 k t q (j:Int) (upto j) (srcs t j) m) (upto t.vDefs.length,srcs t t.vDefs.length,m'):=by
  have hn:=W.few
  intro e
  induction e with
  |zero=>
    intro j m hj P
    have hj:j=t.vDefs.length:=by omega
    subst hj
    refine ⟨m,P,Ev2.pure fun k q=>?_⟩
    rw [ctf_pool_add.l0,if_neg (by simp)]
  |succ e ih=>
    intro j m hj P
    have hlt:j<t.vDefs.length:=by omega
    obtain ⟨⟨Kt,hKt⟩,_⟩:=text_ev W hlt
    have hf:mfind strEq m (tx t j)=none:=by
      cases h:mfind strEq m (tx t j) with
      |none=>rfl
      |some n=>
        obtain ⟨q,_,h2,h3⟩:=P.fst _ _ h
        rw [srcs_len] at h2
        unfold xS at h3
        rw [(srcs_x h2).1,(srcs_x h2).2] at h3
        have:=hD _ _ (by omega) hlt h3
        omega
    have P2:=P.push W hlt hf
    rw [←srcs_succ,srcs_len] at P2
    obtain ⟨m',P3,K,hK⟩:=ih (j+1) _ (by omega) P2
    refine ⟨m',P3,max Kt K+1,fun k q hk hq=>?_⟩
    obtain ⟨q,rfl⟩:∃x,q=x+1:=⟨q-1,by omega⟩
    show ctf_pool_add.l0 k t (q+1) _ _ _ _=_
    rw [ctf_pool_add.l0,if_pos (by simp;omega),show ctf_text.f k t (j:Int)=_ from hKt k (by omega)]
    simp only [Option.bind_some]
    rw [hf]
    simp only [Option.isSome_none,Bool.not_false,if_true]
    rw [if_pos (by rw [srcs_len];omega)]
    simp only [Option.bind_some]
    rw [if_pos (by rw [upto_len];omega),wrap_nat hlt (by omega),srcs_len]
    have:=hK k q (by omega) (by omega)
    simp only at this
    rw [srcs_succ,upto_succ] at this
    exact this
theorem out_same (W:Wf t s) (P:Pool m' (srcs t t.vDefs.length)):outP m' (srcs t t.vDefs.length)=t:=by
  have hp:∀q,q<t.vDefs.length→posP m' (tx t q)=(q:Int):=fun q hq=>by
    have:=P.all q (by rw [srcs_len];exact hq)
    unfold xS at this
    rw [(srcs_x hq).1,(srcs_x hq).2] at this
    unfold posP
    rw [this];rfl
  have:(outP m' (srcs t t.vDefs.length)).vDefs=t.vDefs:=by
    apply List.ext_getElem
    · rw [outP_len,srcs_len]
    · intro q h1 h2
      have:=outP_at (m:=m') (l:=srcs t t.vDefs.length) (q:=q) (by rw [srcs_len];exact h2)
      unfold dS at this
      rw [(srcs_x h2).1,(srcs_x h2).2,mvS_id (fun c hc=>by
        obtain ⟨c1,c2⟩:=kids_range W h2 hc
        rw [hp _ c2];exact c1.symm)] at this
      unfold dAt at this
      rw [List.getD_eq_getElem?_getD,List.getD_eq_getElem?_getD,List.getElem?_eq_getElem h1,List.getElem?_eq_getElem h2] at this
      exact this
  exact congrArg api_Types.mk this
theorem Unique_of (W:Wf t s) (hv:Ev (fun k=>ctf_valid.f k t) true) (A:Added t [] [] 0 ix m' l') (hA:Ev (fun k=>ctf_pool_add.f k [] [] t) (ix,m',l')):Ev (fun k=>ctf_Unique.f k t) (outP m' l',ix,0):=by
  obtain ⟨K1,h1⟩:=hA
  have hfew:l'.length≤100000:=by have:=A.few;have:=A.len;have:=W.few;simp at*;omega
  obtain ⟨K2,h2⟩:=types_ev A.pool hfew
  obtain ⟨K3,h3⟩:=hv
  refine ⟨K1+K2+K3,fun k hk=>?_⟩
  show ctf_Unique.f k t=_
  unfold ctf_Unique.f
  rw [show ctf_valid.f k t=_ from h3 k (by omega)]
  simp only [Option.bind_some,Bool.not_true,Bool.false_eq_true,if_false]
  rw [show ctf_pool_add.f k [] [] t=_ from h1 k (by omega)]
  simp only [Option.bind_some]
  rw [show ctf_pool_types.f k m' l'=_ from h2 k (by omega)]
  rfl
theorem Unique_ev (W:Wf t s) (hv:Ev (fun k=>ctf_valid.f k t) true):∃ix m' l',Added t [] [] 0 ix m' l'∧Ev (fun k=>ctf_Unique.f k t) (outP m' l',ix,0):=by
  obtain ⟨ix,m',l',h,A⟩:=add_ev W Pool.nil (by simp)
  exact ⟨ix,m',l',A,Unique_of W hv A h⟩
theorem Unique_same (W:Wf t s) (hv:Ev (fun k=>ctf_valid.f k t) true) (hD:∀i k,i<t.vDefs.length→k<t.vDefs.length→tx t i=tx t k→i=k):Ev (fun k=>ctf_Unique.f k t) (t,upto t.vDefs.length,0):=by
  obtain ⟨m',P,h⟩:=add_same W hD t.vDefs.length 0 [] (by omega) Pool.nil
  obtain ⟨K1,h1⟩:=h.diag
  obtain ⟨K2,h2⟩:=types_ev P (by rw [srcs_len];have:=W.few;omega)
  obtain ⟨K3,h3⟩:=hv
  refine ⟨K1+K2+K3,fun k hk=>?_⟩
  show ctf_Unique.f k t=_
  unfold ctf_Unique.f ctf_pool_add.f
  rw [show ctf_valid.f k t=_ from h3 k (by omega)]
  simp only [Option.bind_some,Bool.not_true,Bool.false_eq_true,if_false]
  rw [show ctf_pool_add.l0 k t k 0 [] [] []=_ from h1 k (by omega)]
  simp only [Option.bind_some]
  rw [show ctf_pool_types.f k m' _=_ from h2 k (by omega),out_same W P]
  rfl
theorem Unique_bad (hv:Ev (fun k=>ctf_valid.f k t) false):Ev (fun k=>ctf_Unique.f k t) (⟨[]⟩,[],80):=by
  obtain ⟨K3,h3⟩:=hv
  refine ⟨K3,fun k hk=>?_⟩
  show ctf_Unique.f k t=_
  unfold ctf_Unique.f
  rw [show ctf_valid.f k t=_ from h3 k (by omega)]
  rfl
theorem Check_ev {b:Bool} (hv:Ev (fun k=>ctf_valid.f k t) b):Ev (fun k=>ctf_Check.f k t) (if b=true then 0 else 80):=by
  obtain ⟨K3,h3⟩:=hv
  refine ⟨K3,fun k hk=>?_⟩
  show ctf_Check.f k t=_
  unfold ctf_Check.f
  rw [show ctf_valid.f k t=_ from h3 k (by omega)]
  cases b<;>rfl
end
theorem uq_l0 {t u:api_Types} {ix:List Int} {z:Int} (hl:ix.length≤9223372036854775807) (h:∀i,i<ix.length→Ev (fun k=>ctf_Equal.f k t (i:Int) u (ix.getD i 0)) true):∀(e j:Nat),j+e=ix.length→Ev2 (fun k m=>taplinelaw08_CtfUnique.l0 k t (u,ix,z) m (j:Int)) (.inr ()):=by
  intro e
  induction e with
  |zero=>
    intro j hj
    refine Ev2.pure fun k m=>?_
    rw [taplinelaw08_CtfUnique.l0,if_neg (by simp;omega)]
  |succ e ih=>
    intro j hj
    have hlt:j<ix.length:=by omega
    refine Ev2.step (h j hlt) (r:=fun k m (v5:Bool)=>if (!v5)=true then some (.inl false) else taplinelaw08_CtfUnique.l0 k t (u,ix,z) m ((j+1:Nat):Int)) ?_ (fun k m=>?_)
    · exact ih (j+1) (by omega)
    · rw [taplinelaw08_CtfUnique.l0,if_pos (by simp;omega),if_pos (by simp only [];omega),wrap_nat hlt hl]
      rfl
theorem uq_l2 {u:api_Types} {s:List Int} (V:Wf u s) (hv:Ev (fun k=>ctf_valid.f k u) true) {ix:List Int} {z:Int} {i:Nat} (hi:i<u.vDefs.length) (hne:∀k,k<i→tx u i≠tx u k):∀(e j:Nat),j+e=i→Ev2 (fun k m=>taplinelaw08_CtfUnique.l2 k (u,ix,z) (i:Int) m (j:Int)) (.inr ()):=by
  have hn:=V.few
  intro e
  induction e with
  |zero=>
    intro j hj
    refine Ev2.pure fun k m=>?_
    rw [taplinelaw08_CtfUnique.l2,if_neg (by simp;omega)]
  |succ e ih=>
    intro j hj
    obtain ⟨K1,h1⟩:=Text_ok V hv hi
    obtain ⟨K2,h2⟩:=Text_ok V hv (i:=j) (by omega)
    obtain ⟨K3,h3⟩:=ih (j+1) (by omega)
    refine ⟨K1+K2+K3+1,fun k m hk hm=>?_⟩
    obtain ⟨m,rfl⟩:∃x,m=x+1:=⟨m-1,by omega⟩
    show taplinelaw08_CtfUnique.l2 k (u,ix,z) (i:Int) (m+1) (j:Int)=_
    rw [taplinelaw08_CtfUnique.l2,if_pos (by simp;omega)]
    simp only []
    rw [show ctf_Text.f k u (i:Int)=_ from h1 k (by omega),show ctf_Text.f k u (j:Int)=_ from h2 k (by omega)]
    simp only [Option.bind_some]
    have:strEq (tx u i) (tx u j)=false:=by
      rw [Bool.eq_false_iff];exact fun h=>hne j (by omega) (strEq_iff.1 h)
    rw [this,if_neg (by simp),wrap_nat (j:=j) (n:=i) (by omega) (by omega)]
    exact h3 k m (by omega) (by omega)
theorem uq_l1 {u:api_Types} {s:List Int} (V:Wf u s) (hv:Ev (fun k=>ctf_valid.f k u) true) {ix:List Int} {z:Int} (hD:∀i k,i<u.vDefs.length→k<u.vDefs.length→tx u i=tx u k→i=k):∀(e j:Nat),j+e=u.vDefs.length→Ev2 (fun k m=>taplinelaw08_CtfUnique.l1 k (u,ix,z) m (j:Int)) (.inr ()):=by
  have hn:=V.few
  intro e
  induction e with
  |zero=>
    intro j hj
    refine Ev2.pure fun k m=>?_
    rw [taplinelaw08_CtfUnique.l1,if_neg (by simp;omega)]
  |succ e ih=>
    intro j hj
    have hlt:j<u.vDefs.length:=by omega
    have h2:=(uq_l2 V hv (ix:=ix) (z:=z) hlt (fun k hk he=>by have:=hD _ _ hlt (by omega) he;omega) j 0 (by omega)).diag
    refine Ev2.step h2 (r:=fun k m xx3=>match xx3 with| .inl r=>some (.inl r)| .inr s2=>taplinelaw08_CtfUnique.l1 k (u,ix,z) m ((j+1:Nat):Int)) ?_ (fun k m=>?_)
    · exact ih (j+1) (by omega)
    · rw [taplinelaw08_CtfUnique.l1,if_pos (by simp;omega),wrap_nat hlt (by omega)]
      rfl
theorem unique_ev {t:api_Types} (hF:∀d∈t.vDefs,FitD d):Ev (fun k=>taplinelaw08_CtfUnique.f k t) true:=by
  obtain ⟨Ks,hs⟩:=sane_ev
  rcases valid_iff hF with ⟨s,W,hv⟩|⟨hno,hv⟩
  · obtain ⟨ix,m',l',A,⟨K1,h1⟩⟩:=Unique_ev W hv
    obtain ⟨hst,B⟩:=uniq_built W A
    have V:=B.wf
    have hvu:=valid_wf V.fit V
    obtain ⟨K2,h2⟩:=Check_ev hvu
    have hlen:ix.length=t.vDefs.length:=by have:=A.len;omega
    have hn:=W.few
    have hE:∀i,i<ix.length→Ev (fun k=>ctf_Equal.f k t (i:Int) (outP m' l') (ix.getD i 0)) true:=fun i hi=>by
      obtain ⟨q,e,hq,hx⟩:=A.at_ i hi
      simp only [Nat.zero_add] at hx
      have:=Equal_ev hF V.fit (i:Int) (ix.getD i 0)
      rwa [e,tell_t (added_eq W B (fun q hq k k' hk hk' he=>by
        rw [toS_len] at hq
        rw [hst q hq] at hk' he⊢
        exact match_self W hk hk' he) A.pool A.has (by omega) hq hx),←e] at this
    obtain ⟨K3,h3⟩:=(uq_l0 (z:=0) (by omega) hE ix.length 0 (by omega)).diag
    have hD:∀i k,i<(outP m' l').vDefs.length→k<(outP m' l').vDefs.length→tx (outP m' l') i=tx (outP m' l') k→i=k:=fun i k hi hk he=>by
      rw [outP_len] at hi hk
      rw [B.text (by rw [toS_len];exact hi),B.text (by rw [toS_len];exact hk)] at he
      exact A.pool.inj hi hk he
    obtain ⟨K4,h4⟩:=(uq_l1 V hvu (ix:=ix) (z:=0) hD (outP m' l').vDefs.length 0 (by omega)).diag
    obtain ⟨K5,h5⟩:=Unique_same V hvu hD
    have hun:=V.few
    obtain ⟨K6,h6⟩:=same_refl (t:=outP m' l') (by omega) V.fit
    obtain ⟨K7,h7⟩:=rising_upto (n:=(outP m' l').vDefs.length) (by omega)
    refine ⟨Ks+K1+K2+K3+K4+K5+K6+K7,fun k hk=>?_⟩
    show taplinelaw08_CtfUnique.f k t=_
    unfold taplinelaw08_CtfUnique.f
    rw [show taplinelaw08_sane.f k=some true from hs k (by omega),show ctf_Unique.f k t=_ from h1 k (by omega)]
    simp only [Option.bind_some]
    rw [if_neg (by simp),show ctf_Check.f k _=_ from h2 k (by omega)]
    simp only [Option.bind_some,if_true]
    rw [if_neg (by simp [hlen]),show taplinelaw08_CtfUnique.l0 k t _ k 0=_ from h3 k (by omega)]
    simp only [Option.bind_some]
    rw [show taplinelaw08_CtfUnique.l1 k _ k 0=_ from h4 k (by omega)]
    simp only [Option.bind_some]
    rw [show ctf_Unique.f k _=_ from h5 k (by omega)]
    simp only [Option.bind_some,beq_self_eq_true,Bool.and_self,if_true]
    rw [show taplineref08_Same.f k _ _=_ from h6 k (by omega)]
    simp only [Option.bind_some,beq_self_eq_true,Bool.and_self,if_true]
    rw [show taplinelaw08_rising.f k _=_ from h7 k (by omega)]
    rfl
  · obtain ⟨K1,h1⟩:=Unique_bad hv
    obtain ⟨K2,h2⟩:=Check_ev hv
    refine ⟨Ks+K1+K2,fun k hk=>?_⟩
    show taplinelaw08_CtfUnique.f k t=_
    unfold taplinelaw08_CtfUnique.f
    rw [show taplinelaw08_sane.f k=some true from hs k (by omega),show ctf_Unique.f k t=_ from h1 k (by omega)]
    simp only [Option.bind_some]
    rw [if_pos (by decide),if_pos (by decide),show ctf_Check.f k _=_ from h2 k (by omega)]
    rfl
end Go.Proofs.YtfjppgobidjndaaDoor
namespace Go.Proofs.YtfjppgobidjndaaDoor
open Go.RowKit Go.M
def taplinelaw08_equals.l0 (k:Nat) (a0:api_Types) (a1:api_Types) (a2:List Int):Nat→Int→Option ((Bool)⊕(Unit))
 |0,_=>none
 |m+1,y1_0=>if (decide (y1_0<(a2.length:Int)))=true then (if 0≤y1_0∧y1_0<a2.length then ((ctf_Equal.f k a0 y1_0 a1 (rd 0 a2 y1_0)).bind fun v1=>(if (!v1)=true then (some (.inl false)) else (taplinelaw08_equals.l0 k a0 a1 a2 m (IntKind.wrap .i64 (y1_0+1))))) else none) else (some (.inr ()))
def taplinelaw08_equals.f (k:Nat) (a0:api_Types) (a1:api_Types) (a2:List Int):Option (Bool):=if ((a2.length:Int) !=(a0.vDefs.length:Int))=true then (some false) else ((taplinelaw08_equals.l0 k a0 a1 a2 k 0).bind fun xx1=>(match xx1 with| .inl r=>some r| .inr s1=>some true))
set_option maxRecDepth 20000 in
set_option maxHeartbeats 4000000 in
theorem taplinelaw08_equals.calls (k:Nat) (a0:api_Types) (a1:api_Types) (a2:List Int) (A0_0:Option Addr) (c0_0:Nat) (A1_0:Option Addr) (c1_0:Nat) (A2_0:Option Addr) (c2_0:Nat) {h0:View} {w0:World} (hv:Sees h0 w0) (ht:Tab w0) (hr0_0:Rd k_api_Def h0 A0_0 a0.vDefs) (hc0_0:a0.vDefs.length≤c0_0) (hr1_0:Rd k_api_Def h0 A1_0 a1.vDefs) (hc1_0:a1.vDefs.length≤c1_0) (hr2_0:Rd (Kd.int .i64) h0 A2_0 a2) (hc2_0:a2.length≤c2_0) {r:Bool} (H:taplinelaw08_equals.f k a0 a1 a2=some r):Calls Tryd.prog 36 #[Value.agg #[vL A0_0 a0.vDefs.length c0_0],Value.agg #[vL A1_0 a1.vDefs.length c1_0],vL A2_0 a2.length c2_0] w0 (fun e w1=>e= .returned (vB r)∧Ext w0 w1):=by
 unfold taplinelaw08_equals.f at H
 have HS:St [] h0 w0 h0 [] w0:=St.init hv
 go_enter Tryd.func36,Tryd.ntmps36
 refine wp_seq ?_
 refine region ?_
 refine run_ex rfl rfl (does_box (cs:=#[vL A0_0 a0.vDefs.length c0_0]) rfl rfl) ?_
 rintro w1 _ hE1 ⟨b1,rfl,ge1,hb1⟩
 have HS1:=HS.new hE1 ge1 hb1
 refine run_ex rfl rfl (does_box (cs:=#[vL A1_0 a1.vDefs.length c1_0]) rfl rfl) ?_
 rintro w2 _ hE2 ⟨b2,rfl,ge2,hb2⟩
 have HS2:=HS1.new hE2 ge2 hb2
 refine rs (vB false) (r_assign rfl) ?_
 try simp only [sc0,sc1]
 refine run_nil ?_
 refine norm_then ?_
 refine wp_seq ?_
 refine wp_seq ?_
 refine region ?_
 refine rs (vL A2_0 a2.length c2_0) (r_move rfl) ?_
 refine rs (vI (a2.length:Int)) (r_len rfl Tryd.runUnderlying62) ?_
 refine rs (vP b1 0) (r_fieldBox (n:=1) (o':=0) rfl Tryd.runUnderlying24 rfl Tryd.sizeOf22 (by decide) rfl) ?_
 refine rs (vL A0_0 a0.vDefs.length c0_0) (r_loadBox rfl Tryd.isAgg22 (HS2.look 1 rfl) rfl) ?_
 refine run_frame (by simp only [sc0,sc1];rfl) ?_
 refine rs (vI (a0.vDefs.length:Int)) (r_len rfl Tryd.runUnderlying22) ?_
 refine rs (vB ((a2.length:Int) !=(a0.vDefs.length:Int))) (r_bin rfl rfl rfl) ?_
 try simp only [sc0,sc1]
 refine run_nil ?_
 refine norm_then ?_
 refine wp_cond_split (t:=((a2.length:Int) !=(a0.vDefs.length:Int))) rfl (fun c1=>?_) (fun c1=>?_)
 ·replace H:=of_pos H c1
  refine wp_seq ?_
  refine region ?_
  refine rs (vB false) (r_assign rfl) ?_
  try simp only [sc0,sc1]
  refine run_nil ?_
  refine norm_then ?_
  refine wp_ret ?_
  refine ret_then ?_
  obtain rfl:=Option.some.inj H
  refine bodyPost_ret (results_1 rfl (one_tmp rfl)) rfl ?_
  exact ⟨rfl,HS2.toE⟩
 ·replace H:=of_neg H (nt c1)
  refine wp_skip ?_
  refine norm_then ?_
  refine wp_seq ?_
  refine wp_seq ?_
  refine region ?_
  refine rs (vI 0) (r_assign rfl) ?_
  try simp only [sc0,sc1]
  refine run_nil ?_
  refine norm_then ?_
  obtain ⟨xx1,H,G1⟩:=of_bind H
  refine loop_patch [6,7,14,15,16,17,18,19,20,21,22,23,24,25,26,27,28] (fun m us w'=>∃y1_0:Int,∃uy1_6 uy1_14 uy1_15 uy1_16 uy1_17 uy1_18 uy1_19 uy1_20 uy1_21 uy1_22 uy1_23 uy1_24 uy1_25 uy1_26 uy1_27 uy1_28:Value,us=[uy1_6,vI y1_0,uy1_14,uy1_15,uy1_16,uy1_17,uy1_18,uy1_19,uy1_20,uy1_21,uy1_22,uy1_23,uy1_24,uy1_25,uy1_26,uy1_27,uy1_28]∧taplinelaw08_equals.l0 k a0 a1 a2 m y1_0=some xx1∧St [] h0 w0 h0 [(some b2, .cells #[vL A1_0 a1.vDefs.length c1_0] 24 (0,0)),(some b1, .cells #[vL A0_0 a0.vDefs.length c0_0] 24 (0,0))] w') (fun us w'=>∃(s1:Unit),xx1= .inr s1∧∃uo1_6 uo1_7 uo1_14 uo1_15 uo1_16 uo1_17 uo1_18 uo1_19 uo1_20 uo1_21 uo1_22 uo1_23 uo1_24 uo1_25 uo1_26 uo1_27 uo1_28:Value,us=[uo1_6,uo1_7,uo1_14,uo1_15,uo1_16,uo1_17,uo1_18,uo1_19,uo1_20,uo1_21,uo1_22,uo1_23,uo1_24,uo1_25,uo1_26,uo1_27,uo1_28]∧St [] h0 w0 h0 [(some b2, .cells #[vL A1_0 a1.vDefs.length c1_0] 24 (0,0)),(some b1, .cells #[vL A0_0 a0.vDefs.length c0_0] 24 (0,0))] w') k [vB false,vI 0,undef,undef,undef,undef,undef,undef,undef,undef,undef,undef,undef,undef,undef,undef,undef] (by simp only [patch,sc0,sc1]) ⟨0,_,_,_,_,_,_,_,_,_,_,_,_,_,_,_,_,rfl,H,HS2⟩ ?_ ?_
  ·rintro m us w3 ⟨y1_0,uy1_6,uy1_14,uy1_15,uy1_16,uy1_17,uy1_18,uy1_19,uy1_20,uy1_21,uy1_22,uy1_23,uy1_24,uy1_25,uy1_26,uy1_27,uy1_28,rfl,H,HS3⟩
   cases m with
   |zero=>exact absurd H (by simp [taplinelaw08_equals.l0])
   |succ m=>
    rw [taplinelaw08_equals.l0] at H
    try simp only [patch,sc0,sc1]
    refine wp_seq ?_
    refine wp_seq ?_
    refine region ?_
    refine rs (vI y1_0) (r_move rfl) ?_
    refine rs (vL A2_0 a2.length c2_0) (r_move rfl) ?_
    refine rs (vI (a2.length:Int)) (r_len rfl Tryd.runUnderlying62) ?_
    refine rs (vB (decide (y1_0<(a2.length:Int)))) (r_bin rfl rfl rfl) ?_
    try simp only [sc0,sc1]
    refine run_nil ?_
    refine norm_then ?_
    refine wp_cond_split (t:=(decide (y1_0<(a2.length:Int)))) rfl (fun c2=>?_) (fun c2=>?_)
    ·replace H:=of_pos H c2
     refine wp_skip ?_
     refine norm_then ?_
     refine wp_seq ?_
     refine wp_block ?_
     refine wp_seq ?_
     obtain ⟨hi1,H⟩:=of_ite H
     obtain ⟨ad1,e1,hel1⟩:=ld_int hr2_0 hi1.1 hi1.2
     obtain ⟨v1,H1,H⟩:=of_bind H
     refine drawn [.eq (Value.agg #[vL A0_0 a0.vDefs.length c0_0]), .eq (vI y1_0), .eq (Value.agg #[vL A1_0 a1.vDefs.length c1_0]), .eq (vL A2_0 a2.length c2_0), .eq (vI y1_0), .eq (Value.pointer (some (Addr.add ad1 (y1_0.toNat*1)))), .eq (vI (rd 0 a2 y1_0)), .eq (vB v1), .eq (vB (!v1))] [20,21,22,23,24,25,26,27,28] hmix (by kernel_rfl) rfl (stable_eq (stable_eq (stable_eq (stable_eq (stable_eq (stable_eq (stable_eq (stable_eq (stable_eq stable_nil))))))))) ⟨ob_plain rfl (fun a' w' hE hk=>by have HSd:=HS3.step hE;exact does_eq (r_loadBoxAgg (n:=1) (vs:=[vL A0_0 a0.vDefs.length c0_0]) (show _=vP b1 0 from hk 3 rfl) Tryd.isAgg24 (HSd.look 1 rfl) Tryd.sizeOf24 rfl rfl)),ob_plain rfl (fun a' w' hE hk=>by have HSd:=HS3.step hE;exact does_eq (r_move (show _=vI y1_0 from hk 7 rfl))),ob_plain rfl (fun a' w' hE hk=>by have HSd:=HS3.step hE;exact does_eq (r_loadBoxAgg (n:=1) (vs:=[vL A1_0 a1.vDefs.length c1_0]) (show _=vP b2 0 from hk 4 rfl) Tryd.isAgg24 (HSd.look 0 rfl) Tryd.sizeOf24 rfl rfl)),ob_plain rfl (fun a' w' hE hk=>by have HSd:=HS3.step hE;exact does_eq (r_move (show _=vL A2_0 a2.length c2_0 from hk 2 rfl))),ob_plain rfl (fun a' w' hE hk=>by have HSd:=HS3.step hE;exact does_eq (r_move (show _=vI y1_0 from hk 7 rfl))),ob_plain rfl (fun a' w' hE hk=>by have HSd:=HS3.step hE;exact does_eq (r_indexA (sz:=1) (show _=vL A2_0 a2.length c2_0 from hk 23 rfl) e1 (show _=vI y1_0 from hk 24 rfl) hi1.1 hi1.2 Tryd.runUnderlying62 Tryd.sizeOf3)),ob_plain rfl (fun a' w' hE hk=>by have HSd:=HS3.step hE;exact does_eq (r_load (show _=Value.pointer (some (Addr.add ad1 (y1_0.toNat*1))) from hk 25 rfl) Tryd.isAgg3 (hel1.cell0 HSd.sees rfl))),ob_plain rfl (fun a' w' hE hk=>by have HSd:=HS3.step hE;exact (does_call_eq Tryd.call29 rfl (map4 (show _=Value.agg #[vL A0_0 a0.vDefs.length c0_0] from hk 20 rfl) (show _=vI y1_0 from hk 21 rfl) (show _=Value.agg #[vL A1_0 a1.vDefs.length c1_0] from hk 22 rfl) (show _=vI (rd 0 a2 y1_0) from hk 26 rfl)) (ctf_Equal.calls k a0 y1_0 a1 (rd 0 a2 y1_0) A0_0 c0_0 A1_0 c1_0 HSd.sees (ht.s HSd) hr0_0 hc0_0 hr1_0 hc1_0 H1))),ob_plain rfl (fun a' w' hE hk=>by have HSd:=HS3.step hE;exact does_eq (r_not (show _=vB v1 from hk 27 rfl))),trivial⟩ ?_
     intro w4 hE3
     simp only [List.zip_cons_cons,List.zip_nil_left,List.zip_nil_right,finL,sc0,sc1,List.length_cons,List.length_nil,List.drop_succ_cons,List.drop_zero,Nat.zero_add,Nat.reduceAdd]
     have HS4:=HS3.step hE3
     refine run_nil ?_
     refine norm_then ?_
     refine wp_cond_split (t:=(!v1)) rfl (fun c3=>?_) (fun c3=>?_)
     ·replace H:=of_pos H c3
      refine wp_seq ?_
      refine region ?_
      refine rs (vB false) (r_assign rfl) ?_
      try simp only [sc0,sc1]
      refine run_nil ?_
      refine norm_then ?_
      refine wp_ret ?_
      refine ret_block ?_
      refine ret_then ?_
      refine ret_loop ?_
      refine ret_then ?_
      obtain rfl:=Option.some.inj H
      obtain rfl:=Option.some.inj G1
      refine bodyPost_ret (results_1 rfl (one_tmp rfl)) rfl ?_
      exact ⟨rfl,HS4.toE⟩
     ·replace H:=of_neg H (nt c3)
      refine wp_skip ?_
      refine norm_block ?_
      refine norm_then ?_
      refine region ?_
      refine rs (vI y1_0) (r_move rfl) ?_
      refine rs (vI (w64 (y1_0+1))) (r_bin rfl rfl rfl) ?_
      refine rs (vI (w64 (y1_0+1))) (r_assign rfl) ?_
      try simp only [sc0,sc1]
      refine run_nil ?_
      refine again m [uy1_6,vI (w64 (y1_0+1)),vI y1_0,vL A2_0 a2.length c2_0,vI (a2.length:Int),vB (decide (y1_0<(a2.length:Int))),vI y1_0,vI (w64 (y1_0+1)),Value.agg #[vL A0_0 a0.vDefs.length c0_0],vI y1_0,Value.agg #[vL A1_0 a1.vDefs.length c1_0],vL A2_0 a2.length c2_0,vI y1_0,Value.pointer (some (Addr.add ad1 (y1_0.toNat*1))),vI (rd 0 a2 y1_0),vB v1,vB (!v1)] (Nat.lt_succ_self m) (by simp only [patch,sc0,sc1]) ⟨(w64 (y1_0+1)),_,_,_,_,_,_,_,_,_,_,_,_,_,_,_,_,rfl,H,HS4⟩
    ·replace H:=of_neg H (nt c2)
     refine wp_exit ?_
     refine exit_then ?_
     obtain rfl:=Option.some.inj H
     refine leave [uy1_6,vI y1_0,vI y1_0,vL A2_0 a2.length c2_0,vI (a2.length:Int),vB (decide (y1_0<(a2.length:Int))),uy1_18,uy1_19,uy1_20,uy1_21,uy1_22,uy1_23,uy1_24,uy1_25,uy1_26,uy1_27,uy1_28] (by simp only [patch,sc0,sc1]) ⟨_,rfl,_,_,_,_,_,_,_,_,_,_,_,_,_,_,_,_,_,rfl,HS3⟩
  ·rintro us w5 ⟨s1,rfl,uo1_6,uo1_7,uo1_14,uo1_15,uo1_16,uo1_17,uo1_18,uo1_19,uo1_20,uo1_21,uo1_22,uo1_23,uo1_24,uo1_25,uo1_26,uo1_27,uo1_28,rfl,HS5⟩
   replace H:=G1
   clear G1
   try simp only [patch,sc0,sc1]
   refine norm_then ?_
   refine wp_seq ?_
   refine region ?_
   refine rs (vB true) (r_assign rfl) ?_
   try simp only [sc0,sc1]
   refine run_nil ?_
   refine norm_then ?_
   refine wp_ret ?_
   obtain rfl:=Option.some.inj H
   refine bodyPost_ret (results_1 rfl (one_tmp rfl)) rfl ?_
   exact ⟨rfl,HS5.toE⟩

end Go.Proofs.YtfjppgobidjndaaDoor
namespace Go.Proofs.YtfjppgobidjndaaDoor
open Go.RowKit Go.M
def ctf_Merge.l0 (k:Nat) (a0:api_Types) (a1:api_Types):Nat→Int→Option ((api_Types×(List Int)×(List Int)×Int)⊕(Unit))
 |0,_=>none
 |m+1,y1_0=>if (decide (y1_0<(a0.vDefs.length:Int)))=true then (if 0≤y1_0∧y1_0<a0.vDefs.length then ((ctf_named.f (rd z_api_Def a0.vDefs y1_0)).bind fun v3=>(if (!v3)=true then (ctf_Merge.l0 k a0 a1 m (IntKind.wrap .i64 (y1_0+1))) else ((ctf_find.f k a1 ((rd z_api_Def a0.vDefs y1_0).vName)).bind fun v4=>((if (true&&((decide (v4≥0))==true))=true then ctf_equal.f k a0 y1_0 a1 v4 else some false).bind fun v5=>(if ((decide (v4≥0))&&(!v5))=true then (some (.inl ((⟨[]⟩:api_Types),([]:List Int),([]:List Int),82))) else (ctf_Merge.l0 k a0 a1 m (IntKind.wrap .i64 (y1_0+1)))))))) else none) else (some (.inr ()))
def ctf_Merge.f (k:Nat) (a0:api_Types) (a1:api_Types):Option (api_Types×(List Int)×(List Int)×Int):=(ctf_valid.f k a0).bind fun v1=>((if (true&&((!v1)==false))=true then ctf_valid.f k a1 else some false).bind fun v2=>(if ((!v1)||(!v2))=true then (some ((⟨[]⟩:api_Types),([]:List Int),([]:List Int),80)) else ((ctf_Merge.l0 k a0 a1 k 0).bind fun xx1=>(match xx1 with| .inl r=>some r| .inr s1=>(ctf_pool_add.f k ([]:List (ByteArray×Int)) ([]:List ctf_source) a0).bind fun v6=>((ctf_pool_add.f k v6.2.1 v6.2.2 a1).bind fun v7=>(if (decide (((v7.2.2.length:Nat):Int)>200))=true then (some ((⟨[]⟩:api_Types),([]:List Int),([]:List Int),2)) else ((ctf_pool_types.f k v7.2.1 v7.2.2).bind fun v8=>(some (v8,v6.1,v7.1,0)))))))))
set_option maxRecDepth 20000 in
set_option maxHeartbeats 4000000 in
theorem ctf_Merge.calls (k:Nat) (a0:api_Types) (a1:api_Types) (A0_0:Option Addr) (c0_0:Nat) (A1_0:Option Addr) (c1_0:Nat) {h0:View} {w0:World} (hv:Sees h0 w0) (ht:Tab w0) (hr0_0:Rd k_api_Def h0 A0_0 a0.vDefs) (hc0_0:a0.vDefs.length≤c0_0) (hr1_0:Rd k_api_Def h0 A1_0 a1.vDefs) (hc1_0:a1.vDefs.length≤c1_0) {r:api_Types×(List Int)×(List Int)×Int} (H:ctf_Merge.f k a0 a1=some r):Calls Tryd.prog 34 #[Value.agg #[vL A0_0 a0.vDefs.length c0_0],Value.agg #[vL A1_0 a1.vDefs.length c1_0]] w0 (fun e w1=>∃(h1:View) (A0_0:Option Addr) (c0_0:Nat) (A1_0:Option Addr) (c1_0:Nat) (A2_0:Option Addr) (c2_0:Nat),e= .returned (Value.tuple #[Value.agg #[vL A0_0 r.1.vDefs.length c0_0],vL A1_0 r.2.1.length c1_0,vL A2_0 r.2.2.1.length c2_0,vI r.2.2.2])∧r.1.vDefs.length≤c0_0∧Rd k_api_Def h1 A0_0 r.1.vDefs∧r.2.1.length≤c1_0∧Rd (Kd.int .i64) h1 A1_0 r.2.1∧r.2.2.1.length≤c2_0∧Rd (Kd.int .i64) h1 A2_0 r.2.2.1∧Gr w0.heap.size h0 h1∧Sees h1 w1∧Ext w0 w1):=by
 unfold ctf_Merge.f at H
 have HS:St [] h0 w0 h0 [] w0:=St.init hv
 go_enter Tryd.func34,Tryd.ntmps34
 refine wp_seq ?_
 refine region ?_
 refine run_ex rfl rfl (does_box (cs:=#[vL A0_0 a0.vDefs.length c0_0]) rfl rfl) ?_
 rintro w1 _ hE1 ⟨b1,rfl,ge1,hb1⟩
 have HS1:=HS.new hE1 ge1 hb1
 refine run_ex rfl rfl (does_box (cs:=#[vL A1_0 a1.vDefs.length c1_0]) rfl rfl) ?_
 rintro w2 _ hE2 ⟨b2,rfl,ge2,hb2⟩
 have HS2:=HS1.new hE2 ge2 hb2
 refine run_ex rfl rfl (does_alloc (cs:=#[vL none 0 0]) Tryd.zeroValue24 rfl) ?_
 rintro w3 _ hE3 ⟨b3,rfl,ge3,hb3⟩
 have HS3:=HS2.new hE3 ge3 hb3
 refine rs (vL none 0 0) (r_assign rfl) ?_
 refine run_frame (by simp only [sc0,sc1];rfl) ?_
 refine rs (vL none 0 0) (r_assign rfl) ?_
 refine rs (vI 0) (r_assign rfl) ?_
 try simp only [sc0,sc1]
 refine run_nil ?_
 refine norm_then ?_
 refine wp_seq ?_
 refine wp_seq ?_
 refine region ?_
 refine rs (Value.agg #[vL A0_0 a0.vDefs.length c0_0]) (r_loadBoxAgg (n:=1) (vs:=[vL A0_0 a0.vDefs.length c0_0]) rfl Tryd.isAgg24 (HS3.look 2 rfl) Tryd.sizeOf24 rfl rfl) ?_
 obtain ⟨v1,H1,H⟩:=of_bind H
 refine run_eq (v:=vB v1) rfl rfl (does_call_eq Tryd.call47 rfl rfl (ctf_valid.calls k a0 A0_0 c0_0 HS3.sees hr0_0 hc0_0 H1)) ?_
 intro w4 hE4
 have HS4:=HS3.step hE4
 refine rs (vB (!v1)) (r_not rfl) ?_
 refine rs (vB (!v1)) (r_move rfl) ?_
 refine run_frame (by simp only [sc0,sc1];rfl) ?_
 refine rgs (!v1) true (Value.agg #[vL A1_0 a1.vDefs.length c1_0]) rfl rfl rfl rfl (fun hg=>(r_loadBoxAgg (n:=1) (vs:=[vL A1_0 a1.vDefs.length c1_0]) rfl Tryd.isAgg24 (HS4.look 1 rfl) Tryd.sizeOf24 rfl rfl)) ?_
 obtain ⟨v2,H2,H⟩:=of_bind H
 refine run_g (b:=(!v1)) (c:=true) (v:=vB v2) rfl rfl rfl rfl (fun hg=>(does_call_eq Tryd.call47 rfl (map1 (gvt (Value.agg #[vL A1_0 a1.vDefs.length c1_0]) hg rfl)) (ctf_valid.calls k a1 A1_0 c1_0 HS4.sees hr1_0 hc1_0 (of_pos H2 hg)))) ?_
 intro w5 hE5
 have HS5:=HS4.step hE5
 refine rgs (!v1) true (vB (!v2)) rfl rfl rfl rfl (fun hg=>(r_not (gvt (vB v2) hg rfl))) ?_
 refine rs (vB ((!v1)||(!v2))) (r_pick_or rfl rfl (fun hp=>(gvt (vB (!v2)) (and_i rfl hp) rfl))) ?_
 try simp only [sc0,sc1]
 refine run_nil ?_
 refine norm_then ?_
 refine wp_cond_split (t:=((!v1)||(!v2))) rfl (fun c1=>?_) (fun c1=>?_)
 ·replace H:=of_pos H c1
  refine wp_seq ?_
  refine region ?_
  refine rs (Value.agg #[vL none 0 0]) (r_build0 (cs:=[vL none 0 0]) Tryd.zeroValue24 Tryd.runUnderlying24 (pl:=#[(0,1)]) (fun w=>by simp [Tryd.sizeOf22]) rfl) ?_
  refine run_st (i:=0) (cs:=[vL none 0 0]) (cs':=[vL none 0 0]) (vs:=[vL none 0 0]) (bs':=[(some b3, .cells #[vL none 0 0] 24 (0,0)),(some b2, .cells #[vL A1_0 a1.vDefs.length c1_0] 24 (0,0)),(some b1, .cells #[vL A0_0 a0.vDefs.length c0_0] 24 (0,0))]) rfl rfl Tryd.sizeOf24 rfl rfl (by decide) rfl HS5 rfl (Nat.le_of_ble_eq_true rfl) rfl rfl ?_
  intro w6 HS6
  refine rs (vL none 0 0) (r_assign rfl) ?_
  refine rs (vL none 0 0) (r_assign rfl) ?_
  refine run_frame (by simp only [sc0,sc1];rfl) ?_
  refine rs (vI 80) (r_assign rfl) ?_
  try simp only [sc0,sc1]
  refine run_nil ?_
  refine norm_then ?_
  refine wp_ret ?_
  refine ret_then ?_
  obtain rfl:=Option.some.inj H
  refine bodyPost_ret (results_4 rfl (one_agg rfl Tryd.isAgg24 (HS6.look 0 rfl) Tryd.sizeOf24 rfl) (one_tmp rfl) (one_tmp rfl) (one_tmp rfl)) rfl ?_
  exact ⟨h0,none,0,none,0,none,0,rfl,(Nat.le_refl 0),(Rd.nil _ _ _),(Nat.le_refl 0),(Rd.nil _ _ _),(Nat.le_refl 0),(Rd.nil _ _ _),HS6.gr,HS6.sees,HS6.toE⟩
 ·replace H:=of_neg H (nt c1)
  refine wp_skip ?_
  refine norm_then ?_
  refine wp_seq ?_
  refine wp_seq ?_
  refine region ?_
  refine rs (vP b1 0) (r_fieldBox (n:=1) (o':=0) rfl Tryd.runUnderlying24 rfl Tryd.sizeOf22 (by decide) rfl) ?_
  refine rs (vL A0_0 a0.vDefs.length c0_0) (r_loadBox rfl Tryd.isAgg22 (HS5.look 2 rfl) rfl) ?_
  refine rs (vI (a0.vDefs.length:Int)) (r_len rfl Tryd.runUnderlying22) ?_
  refine rs (vI 0) (r_move rfl) ?_
  try simp only [sc0,sc1]
  refine run_nil ?_
  refine norm_then ?_
  obtain ⟨xx1,H,G1⟩:=of_bind H
  refine loop_patch [5,6,7,8,9,10,26,27,28,29,30,31,32,33,34,35,36,37,38,39,40,41,42,43,44,45,46,47,48,49] (fun m us w'=>∃y1_0:Int,∃uy1_5 uy1_6 uy1_7 uy1_8 uy1_9 uy1_10 uy1_27 uy1_28 uy1_29 uy1_30 uy1_31 uy1_32 uy1_33 uy1_34 uy1_35 uy1_36 uy1_37 uy1_38 uy1_39 uy1_40 uy1_41 uy1_42 uy1_43 uy1_44 uy1_45 uy1_46 uy1_47 uy1_48 uy1_49:Value,us=[uy1_5,uy1_6,uy1_7,uy1_8,uy1_9,uy1_10,vI y1_0,uy1_27,uy1_28,uy1_29,uy1_30,uy1_31,uy1_32,uy1_33,uy1_34,uy1_35,uy1_36,uy1_37,uy1_38,uy1_39,uy1_40,uy1_41,uy1_42,uy1_43,uy1_44,uy1_45,uy1_46,uy1_47,uy1_48,uy1_49]∧ctf_Merge.l0 k a0 a1 m y1_0=some xx1∧St [] h0 w0 h0 [(some b3, .cells #[vL none 0 0] 24 (0,0)),(some b2, .cells #[vL A1_0 a1.vDefs.length c1_0] 24 (0,0)),(some b1, .cells #[vL A0_0 a0.vDefs.length c0_0] 24 (0,0))] w') (fun us w'=>∃(s1:Unit),xx1= .inr s1∧∃uo1_5 uo1_6 uo1_7 uo1_8 uo1_9 uo1_10 uo1_26 uo1_27 uo1_28 uo1_29 uo1_30 uo1_31 uo1_32 uo1_33 uo1_34 uo1_35 uo1_36 uo1_37 uo1_38 uo1_39 uo1_40 uo1_41 uo1_42 uo1_43 uo1_44 uo1_45 uo1_46 uo1_47 uo1_48 uo1_49:Value,us=[uo1_5,uo1_6,uo1_7,uo1_8,uo1_9,uo1_10,uo1_26,uo1_27,uo1_28,uo1_29,uo1_30,uo1_31,uo1_32,uo1_33,uo1_34,uo1_35,uo1_36,uo1_37,uo1_38,uo1_39,uo1_40,uo1_41,uo1_42,uo1_43,uo1_44,uo1_45,uo1_46,uo1_47,uo1_48,uo1_49]∧St [] h0 w0 h0 [(some b3, .cells #[vL none 0 0] 24 (0,0)),(some b2, .cells #[vL A1_0 a1.vDefs.length c1_0] 24 (0,0)),(some b1, .cells #[vL A0_0 a0.vDefs.length c0_0] 24 (0,0))] w') k [vL none 0 0,vL none 0 0,vI 0,undef,undef,undef,vI 0,undef,undef,undef,undef,undef,undef,undef,undef,undef,undef,undef,undef,undef,undef,undef,undef,undef,undef,undef,undef,undef,undef,undef] (by simp only [patch,sc0,sc1]) ⟨0,_,_,_,_,_,_,_,_,_,_,_,_,_,_,_,_,_,_,_,_,_,_,_,_,_,_,_,_,_,rfl,H,HS5⟩ ?_ ?_
  ·rintro m us w7 ⟨y1_0,uy1_5,uy1_6,uy1_7,uy1_8,uy1_9,uy1_10,uy1_27,uy1_28,uy1_29,uy1_30,uy1_31,uy1_32,uy1_33,uy1_34,uy1_35,uy1_36,uy1_37,uy1_38,uy1_39,uy1_40,uy1_41,uy1_42,uy1_43,uy1_44,uy1_45,uy1_46,uy1_47,uy1_48,uy1_49,rfl,H,HS7⟩
   cases m with
   |zero=>exact absurd H (by simp [ctf_Merge.l0])
   |succ m=>
    rw [ctf_Merge.l0] at H
    try simp only [patch,sc0,sc1]
    refine wp_seq ?_
    refine region ?_
    refine rs (vB (decide (y1_0<(a0.vDefs.length:Int)))) (r_bin rfl rfl rfl) ?_
    try simp only [sc0,sc1]
    refine run_nil ?_
    refine norm_then ?_
    refine wp_seq ?_
    refine wp_cond_split (t:=(decide (y1_0<(a0.vDefs.length:Int)))) rfl (fun c2=>?_) (fun c2=>?_)
    ·replace H:=of_pos H c2
     refine wp_skip ?_
     refine norm_then ?_
     refine wp_seq ?_
     refine wp_block ?_
     refine wp_seq ?_
     refine region ?_
     refine rs (vI y1_0) (r_move rfl) ?_
     obtain ⟨hi1,H⟩:=of_ite H
     obtain ⟨ad1,Aad1_6,cad1_6,e1,hel1,hcad1_6,hrad1_6⟩:=ld_api_Def hr0_0 hi1.1 hi1.2
     refine rs (Value.pointer (some (Addr.add ad1 (y1_0.toNat*7)))) (r_indexA (sz:=7) rfl e1 rfl hi1.1 hi1.2 Tryd.runUnderlying22 Tryd.sizeOf34) ?_
     refine rs (Value.agg #[vI ((rd z_api_Def a0.vDefs y1_0).vKind),vS ((rd z_api_Def a0.vDefs y1_0).vName),vI ((rd z_api_Def a0.vDefs y1_0).vInt.vSize),vB ((rd z_api_Def a0.vDefs y1_0).vInt.vSigned),vI ((rd z_api_Def a0.vDefs y1_0).vRef),vI ((rd z_api_Def a0.vDefs y1_0).vN),vL Aad1_6 ((rd z_api_Def a0.vDefs y1_0).vFields).length cad1_6]) (r_loadAgg rfl Tryd.isAgg34 (hel1.sees HS7.sees) Tryd.sizeOf34) ?_
     refine run_ex rfl rfl (does_alloc (cs:=#[vI 0,vS ByteArray.empty,vI 0,vB false,vI 0,vI 0,vL none 0 0]) Tryd.zeroValue34 rfl) ?_
     rintro w8 _ hE6 ⟨b4,rfl,ge4,hb4⟩
     have HS8:=HS7.new hE6 ge4 hb4
     refine run_frame (by simp only [sc0,sc1];rfl) ?_
     refine rs (vI y1_0) (r_assign rfl) ?_
     refine run_st (i:=0) (cs:=[vI 0,vS ByteArray.empty,vI 0,vB false,vI 0,vI 0,vL none 0 0]) (cs':=[vI ((rd z_api_Def a0.vDefs y1_0).vKind),vS ((rd z_api_Def a0.vDefs y1_0).vName),vI ((rd z_api_Def a0.vDefs y1_0).vInt.vSize),vB ((rd z_api_Def a0.vDefs y1_0).vInt.vSigned),vI ((rd z_api_Def a0.vDefs y1_0).vRef),vI ((rd z_api_Def a0.vDefs y1_0).vN),vL Aad1_6 ((rd z_api_Def a0.vDefs y1_0).vFields).length cad1_6]) (vs:=[vI ((rd z_api_Def a0.vDefs y1_0).vKind),vS ((rd z_api_Def a0.vDefs y1_0).vName),vI ((rd z_api_Def a0.vDefs y1_0).vInt.vSize),vB ((rd z_api_Def a0.vDefs y1_0).vInt.vSigned),vI ((rd z_api_Def a0.vDefs y1_0).vRef),vI ((rd z_api_Def a0.vDefs y1_0).vN),vL Aad1_6 ((rd z_api_Def a0.vDefs y1_0).vFields).length cad1_6]) (bs':=[(some b4, .cells #[vI ((rd z_api_Def a0.vDefs y1_0).vKind),vS ((rd z_api_Def a0.vDefs y1_0).vName),vI ((rd z_api_Def a0.vDefs y1_0).vInt.vSize),vB ((rd z_api_Def a0.vDefs y1_0).vInt.vSigned),vI ((rd z_api_Def a0.vDefs y1_0).vRef),vI ((rd z_api_Def a0.vDefs y1_0).vN),vL Aad1_6 ((rd z_api_Def a0.vDefs y1_0).vFields).length cad1_6] 34 (0,0)),(some b3, .cells #[vL none 0 0] 24 (0,0)),(some b2, .cells #[vL A1_0 a1.vDefs.length c1_0] 24 (0,0)),(some b1, .cells #[vL A0_0 a0.vDefs.length c0_0] 24 (0,0))]) rfl rfl Tryd.sizeOf34 rfl rfl (by decide) rfl HS8 rfl (Nat.le_of_ble_eq_true rfl) rfl rfl ?_
     intro w9 HS9
     try simp only [sc0,sc1]
     refine run_nil ?_
     refine norm_then ?_
     refine wp_seq ?_
     refine wp_seq ?_
     refine region ?_
     refine rs (Value.agg #[vI ((rd z_api_Def a0.vDefs y1_0).vKind),vS ((rd z_api_Def a0.vDefs y1_0).vName),vI ((rd z_api_Def a0.vDefs y1_0).vInt.vSize),vB ((rd z_api_Def a0.vDefs y1_0).vInt.vSigned),vI ((rd z_api_Def a0.vDefs y1_0).vRef),vI ((rd z_api_Def a0.vDefs y1_0).vN),vL Aad1_6 ((rd z_api_Def a0.vDefs y1_0).vFields).length cad1_6]) (r_loadBoxAgg (n:=7) (vs:=[vI ((rd z_api_Def a0.vDefs y1_0).vKind),vS ((rd z_api_Def a0.vDefs y1_0).vName),vI ((rd z_api_Def a0.vDefs y1_0).vInt.vSize),vB ((rd z_api_Def a0.vDefs y1_0).vInt.vSigned),vI ((rd z_api_Def a0.vDefs y1_0).vRef),vI ((rd z_api_Def a0.vDefs y1_0).vN),vL Aad1_6 ((rd z_api_Def a0.vDefs y1_0).vFields).length cad1_6]) rfl Tryd.isAgg34 (HS9.look 0 rfl) Tryd.sizeOf34 rfl rfl) ?_
     obtain ⟨v3,H3,H⟩:=of_bind H
     refine run_eq (v:=vB v3) rfl rfl (does_call_eq Tryd.call68 rfl rfl (ctf_named.calls (rd z_api_Def a0.vDefs y1_0) Aad1_6 cad1_6 HS9.sees hrad1_6 hcad1_6 H3)) ?_
     intro w10 hE7
     have HS10:=HS9.step hE7
     refine rs (vB (!v3)) (r_not rfl) ?_
     try simp only [sc0,sc1]
     refine run_nil ?_
     refine norm_then ?_
     refine wp_cond_split (t:=(!v3)) rfl (fun c3=>?_) (fun c3=>?_)
     ·replace H:=of_pos H c3
      refine wp_exit ?_
      refine exit_then ?_
      refine exit_block ?_
      refine norm_then ?_
      refine region ?_
      refine rs (vI (w64 (y1_0+1))) (r_bin rfl rfl rfl) ?_
      refine rs (vI (w64 (y1_0+1))) (r_move rfl) ?_
      try simp only [sc0,sc1]
      refine run_nil ?_
      refine again m [uy1_5,uy1_6,uy1_7,vI y1_0,vP b4 0,uy1_10,vI (w64 (y1_0+1)),vB (decide (y1_0<(a0.vDefs.length:Int))),vI y1_0,Value.pointer (some (Addr.add ad1 (y1_0.toNat*7))),Value.agg #[vI ((rd z_api_Def a0.vDefs y1_0).vKind),vS ((rd z_api_Def a0.vDefs y1_0).vName),vI ((rd z_api_Def a0.vDefs y1_0).vInt.vSize),vB ((rd z_api_Def a0.vDefs y1_0).vInt.vSigned),vI ((rd z_api_Def a0.vDefs y1_0).vRef),vI ((rd z_api_Def a0.vDefs y1_0).vN),vL Aad1_6 ((rd z_api_Def a0.vDefs y1_0).vFields).length cad1_6],Value.agg #[vI ((rd z_api_Def a0.vDefs y1_0).vKind),vS ((rd z_api_Def a0.vDefs y1_0).vName),vI ((rd z_api_Def a0.vDefs y1_0).vInt.vSize),vB ((rd z_api_Def a0.vDefs y1_0).vInt.vSigned),vI ((rd z_api_Def a0.vDefs y1_0).vRef),vI ((rd z_api_Def a0.vDefs y1_0).vN),vL Aad1_6 ((rd z_api_Def a0.vDefs y1_0).vFields).length cad1_6],vB v3,vB (!v3),uy1_34,uy1_35,uy1_36,uy1_37,uy1_38,uy1_39,uy1_40,uy1_41,uy1_42,uy1_43,uy1_44,uy1_45,uy1_46,uy1_47,uy1_48,vI (w64 (y1_0+1))] (Nat.lt_succ_self m) (by simp only [patch,sc0,sc1]) ⟨(w64 (y1_0+1)),_,_,_,_,_,_,_,_,_,_,_,_,_,_,_,_,_,_,_,_,_,_,_,_,_,_,_,_,_,rfl,H,HS10.tail⟩
     ·replace H:=of_neg H (nt c3)
      refine wp_skip ?_
      refine norm_then ?_
      refine wp_seq ?_
      refine region ?_
      refine rs (Value.agg #[vL A1_0 a1.vDefs.length c1_0]) (r_loadBoxAgg (n:=1) (vs:=[vL A1_0 a1.vDefs.length c1_0]) rfl Tryd.isAgg24 (HS10.look 2 rfl) Tryd.sizeOf24 rfl rfl) ?_
      refine rs (vP b4 1) (r_fieldBox (n:=1) (o':=1) rfl Tryd.runUnderlying34 rfl Tryd.sizeOf9 (by decide) rfl) ?_
      refine rs (vS ((rd z_api_Def a0.vDefs y1_0).vName)) (r_loadBox rfl Tryd.isAgg9 (HS10.look 0 rfl) rfl) ?_
      obtain ⟨v4,H4,H⟩:=of_bind H
      refine run_eq (v:=vI v4) rfl rfl (does_call_eq Tryd.call54 rfl rfl (ctf_find.calls k a1 ((rd z_api_Def a0.vDefs y1_0).vName) A1_0 c1_0 HS10.sees hr1_0 hc1_0 H4)) ?_
      intro w11 hE8
      have HS11:=HS10.step hE8
      refine run_frame (by simp only [sc0,sc1];rfl) ?_
      refine rs (vI v4) (r_assign rfl) ?_
      try simp only [sc0,sc1]
      refine run_nil ?_
      refine norm_then ?_
      refine wp_seq ?_
      refine region ?_
      refine rs (vI v4) (r_move rfl) ?_
      refine rs (vB (decide (v4≥0))) (r_bin rfl rfl rfl) ?_
      refine rs (vB (decide (v4≥0))) (r_move rfl) ?_
      refine rgs (decide (v4≥0)) true (Value.agg #[vL A0_0 a0.vDefs.length c0_0]) rfl rfl rfl rfl (fun hg=>(r_loadBoxAgg (n:=1) (vs:=[vL A0_0 a0.vDefs.length c0_0]) rfl Tryd.isAgg24 (HS11.look 3 rfl) Tryd.sizeOf24 rfl rfl)) ?_
      refine run_frame (by simp only [sc0,sc1];rfl) ?_
      refine rgs (decide (v4≥0)) true (vI y1_0) rfl rfl rfl rfl (fun hg=>(r_move rfl)) ?_
      refine rgs (decide (v4≥0)) true (Value.agg #[vL A1_0 a1.vDefs.length c1_0]) rfl rfl rfl rfl (fun hg=>(r_loadBoxAgg (n:=1) (vs:=[vL A1_0 a1.vDefs.length c1_0]) rfl Tryd.isAgg24 (HS11.look 2 rfl) Tryd.sizeOf24 rfl rfl)) ?_
      refine rgs (decide (v4≥0)) true (vI v4) rfl rfl rfl rfl (fun hg=>(r_move rfl)) ?_
      obtain ⟨v5,H5,H⟩:=of_bind H
      refine run_g (b:=(decide (v4≥0))) (c:=true) (v:=vB v5) rfl rfl rfl rfl (fun hg=>(does_call_eq Tryd.call61 rfl (map4 (gvt (Value.agg #[vL A0_0 a0.vDefs.length c0_0]) hg rfl) (gvt (vI y1_0) hg rfl) (gvt (Value.agg #[vL A1_0 a1.vDefs.length c1_0]) hg rfl) (gvt (vI v4) hg rfl)) (ctf_equal.calls k a0 y1_0 a1 v4 A0_0 c0_0 A1_0 c1_0 HS11.sees (ht.s HS11) hr0_0 hc0_0 hr1_0 hc1_0 (of_pos H5 hg)))) ?_
      intro w12 hE9
      have HS12:=HS11.step hE9
      refine run_frame (by simp only [sc0,sc1];rfl) ?_
      refine rgs (decide (v4≥0)) true (vB (!v5)) rfl rfl rfl rfl (fun hg=>(r_not (gvt (vB v5) hg rfl))) ?_
      refine rs (vB ((decide (v4≥0))&&(!v5))) (r_pick_and rfl (fun hp=>(gvt (vB (!v5)) (and_i rfl hp) rfl)) rfl) ?_
      try simp only [sc0,sc1]
      refine run_nil ?_
      refine norm_then ?_
      refine wp_cond_split (t:=((decide (v4≥0))&&(!v5))) rfl (fun c4=>?_) (fun c4=>?_)
      ·replace H:=of_pos H c4
       refine wp_seq ?_
       refine region ?_
       refine rs (Value.agg #[vL none 0 0]) (r_build0 (cs:=[vL none 0 0]) Tryd.zeroValue24 Tryd.runUnderlying24 (pl:=#[(0,1)]) (fun w=>by simp [Tryd.sizeOf22]) rfl) ?_
       refine run_st (i:=1) (cs:=[vL none 0 0]) (cs':=[vL none 0 0]) (vs:=[vL none 0 0]) (bs':=[(some b4, .cells #[vI ((rd z_api_Def a0.vDefs y1_0).vKind),vS ((rd z_api_Def a0.vDefs y1_0).vName),vI ((rd z_api_Def a0.vDefs y1_0).vInt.vSize),vB ((rd z_api_Def a0.vDefs y1_0).vInt.vSigned),vI ((rd z_api_Def a0.vDefs y1_0).vRef),vI ((rd z_api_Def a0.vDefs y1_0).vN),vL Aad1_6 ((rd z_api_Def a0.vDefs y1_0).vFields).length cad1_6] 34 (0,0)),(some b3, .cells #[vL none 0 0] 24 (0,0)),(some b2, .cells #[vL A1_0 a1.vDefs.length c1_0] 24 (0,0)),(some b1, .cells #[vL A0_0 a0.vDefs.length c0_0] 24 (0,0))]) rfl rfl Tryd.sizeOf24 rfl rfl (by decide) rfl HS12 rfl (Nat.le_of_ble_eq_true rfl) rfl rfl ?_
       intro w13 HS13
       refine rs (vL none 0 0) (r_assign rfl) ?_
       refine rs (vL none 0 0) (r_assign rfl) ?_
       refine run_frame (by simp only [sc0,sc1];rfl) ?_
       refine rs (vI 82) (r_assign rfl) ?_
       try simp only [sc0,sc1]
       refine run_nil ?_
       refine norm_then ?_
       refine wp_ret ?_
       refine ret_block ?_
       refine ret_then ?_
       refine ret_loop ?_
       refine ret_then ?_
       obtain rfl:=Option.some.inj H
       obtain rfl:=Option.some.inj G1
       refine bodyPost_ret (results_4 rfl (one_agg rfl Tryd.isAgg24 (HS13.look 1 rfl) Tryd.sizeOf24 rfl) (one_tmp rfl) (one_tmp rfl) (one_tmp rfl)) rfl ?_
       exact ⟨h0,none,0,none,0,none,0,rfl,(Nat.le_refl 0),(Rd.nil _ _ _),(Nat.le_refl 0),(Rd.nil _ _ _),(Nat.le_refl 0),(Rd.nil _ _ _),HS13.gr,HS13.sees,HS13.toE⟩
      ·replace H:=of_neg H (nt c4)
       refine wp_skip ?_
       refine norm_block ?_
       refine norm_then ?_
       refine region ?_
       refine rs (vI (w64 (y1_0+1))) (r_bin rfl rfl rfl) ?_
       refine rs (vI (w64 (y1_0+1))) (r_move rfl) ?_
       try simp only [sc0,sc1]
       refine run_nil ?_
       refine again m [uy1_5,uy1_6,uy1_7,vI y1_0,vP b4 0,vI v4,vI (w64 (y1_0+1)),vB (decide (y1_0<(a0.vDefs.length:Int))),vI y1_0,Value.pointer (some (Addr.add ad1 (y1_0.toNat*7))),Value.agg #[vI ((rd z_api_Def a0.vDefs y1_0).vKind),vS ((rd z_api_Def a0.vDefs y1_0).vName),vI ((rd z_api_Def a0.vDefs y1_0).vInt.vSize),vB ((rd z_api_Def a0.vDefs y1_0).vInt.vSigned),vI ((rd z_api_Def a0.vDefs y1_0).vRef),vI ((rd z_api_Def a0.vDefs y1_0).vN),vL Aad1_6 ((rd z_api_Def a0.vDefs y1_0).vFields).length cad1_6],Value.agg #[vI ((rd z_api_Def a0.vDefs y1_0).vKind),vS ((rd z_api_Def a0.vDefs y1_0).vName),vI ((rd z_api_Def a0.vDefs y1_0).vInt.vSize),vB ((rd z_api_Def a0.vDefs y1_0).vInt.vSigned),vI ((rd z_api_Def a0.vDefs y1_0).vRef),vI ((rd z_api_Def a0.vDefs y1_0).vN),vL Aad1_6 ((rd z_api_Def a0.vDefs y1_0).vFields).length cad1_6],vB v3,vB (!v3),Value.agg #[vL A1_0 a1.vDefs.length c1_0],vP b4 1,vS ((rd z_api_Def a0.vDefs y1_0).vName),vI v4,vI v4,vB (decide (v4≥0)),vB (decide (v4≥0)),gv (true&&((decide (v4≥0))==true)) (Value.agg #[vL A0_0 a0.vDefs.length c0_0]),gv (true&&((decide (v4≥0))==true)) (vI y1_0),gv (true&&((decide (v4≥0))==true)) (Value.agg #[vL A1_0 a1.vDefs.length c1_0]),gv (true&&((decide (v4≥0))==true)) (vI v4),gv (true&&((decide (v4≥0))==true)) (vB v5),gv (true&&((decide (v4≥0))==true)) (vB (!v5)),vB ((decide (v4≥0))&&(!v5)),uy1_48,vI (w64 (y1_0+1))] (Nat.lt_succ_self m) (by simp only [patch,sc0,sc1]) ⟨(w64 (y1_0+1)),_,_,_,_,_,_,_,_,_,_,_,_,_,_,_,_,_,_,_,_,_,_,_,_,_,_,_,_,_,rfl,H,HS12.tail⟩
    ·replace H:=of_neg H (nt c2)
     refine wp_exit ?_
     refine exit_then ?_
     obtain rfl:=Option.some.inj H
     refine leave [uy1_5,uy1_6,uy1_7,uy1_8,uy1_9,uy1_10,vI y1_0,vB (decide (y1_0<(a0.vDefs.length:Int))),uy1_28,uy1_29,uy1_30,uy1_31,uy1_32,uy1_33,uy1_34,uy1_35,uy1_36,uy1_37,uy1_38,uy1_39,uy1_40,uy1_41,uy1_42,uy1_43,uy1_44,uy1_45,uy1_46,uy1_47,uy1_48,uy1_49] (by simp only [patch,sc0,sc1]) ⟨_,rfl,_,_,_,_,_,_,_,_,_,_,_,_,_,_,_,_,_,_,_,_,_,_,_,_,_,_,_,_,_,_,rfl,HS7⟩
  ·rintro us w14 ⟨s1,rfl,uo1_5,uo1_6,uo1_7,uo1_8,uo1_9,uo1_10,uo1_26,uo1_27,uo1_28,uo1_29,uo1_30,uo1_31,uo1_32,uo1_33,uo1_34,uo1_35,uo1_36,uo1_37,uo1_38,uo1_39,uo1_40,uo1_41,uo1_42,uo1_43,uo1_44,uo1_45,uo1_46,uo1_47,uo1_48,uo1_49,rfl,HS14⟩
   replace H:=G1
   clear G1
   try simp only [patch,sc0,sc1]
   refine norm_then ?_
   refine wp_seq ?_
   refine region ?_
   refine run_mkmap HS14 ?_
   intro w15 b5 HS15
   refine rs (Value.agg #[Value.map (some b5),vL none 0 0]) (r_build (cs:=[Value.map (some b5),vL none 0 0]) (ps:=[(0,Value.map (some b5))]) Tryd.zeroValue110 Tryd.runUnderlying110 (pl:=#[(0,1),(1,1)]) (fun w=>by simp [Tryd.sizeOf107,Tryd.sizeOf108]) (parts_1 (show _=Value.map (some b5) from rfl)) rfl) ?_
   refine run_ex rfl rfl (does_box (cs:=#[Value.map (some b5),vL none 0 0]) rfl rfl) ?_
   rintro w16 _ hE10 ⟨b6,rfl,ge5,hb5⟩
   have HS16:=HS15.new hE10 ge5 hb5
   refine rs (vP b6 0) (r_assign rfl) ?_
   try simp only [sc0,sc1]
   refine run_nil ?_
   refine norm_then ?_
   refine wp_seq ?_
   refine drawn_chain [([53,54,56,57],[0,1,3,4]),([],[3,4]),([12,13],[6,7])] [2,5] [[],[],[0,1],[],[],[0,1,2,3,4],[0,1,2,3,4,5],[0,1,2,3,4,5,6]] hmix (by kernel_rfl) ?_
   intro w17 hE11
   have HS17:=HS16.step hE11
   refine chain_eff [vP b6 0,Value.agg #[vL A0_0 a0.vDefs.length c0_0],vP b6 0,Value.agg #[vL A1_0 a1.vDefs.length c1_0]] ?_ rfl rfl ?_
   ·try simp only [patch,sc0,sc1]
    exact allg_cons (good_same (v:=vP b6 0) rfl rfl rfl rfl (r_move rfl)) (allg_cons (good_same (v:=Value.agg #[vL A0_0 a0.vDefs.length c0_0]) rfl rfl rfl rfl (r_loadBoxAgg (n:=1) (vs:=[vL A0_0 a0.vDefs.length c0_0]) rfl Tryd.isAgg24 (HS17.look 4 rfl) Tryd.sizeOf24 rfl rfl)) (allg_cons (good_same (v:=vP b6 0) rfl rfl rfl rfl (r_move rfl)) (allg_cons (good_same (v:=Value.agg #[vL A1_0 a1.vDefs.length c1_0]) rfl rfl rfl rfl (r_loadBoxAgg (n:=1) (vs:=[vL A1_0 a1.vDefs.length c1_0]) rfl Tryd.isAgg24 (HS17.look 3 rfl) Tryd.sizeOf24 rfl rfl)) (allg_nil))))
   try simp only [patch,sc0,sc1]
   obtain ⟨v6,H6,H⟩:=of_bind H
   have HS18:=HS17.nothing (.cells ([]:List Value).toArray 160 (0,0))
   have HS19:=HS18.f2
   have HS20:=HS19.f2
   refine run_call (vs:=[vP b6 0,Value.agg #[vL A0_0 a0.vDefs.length c0_0]]) (caps:=[]) Tryd.call59 rfl rfl (ctf_pool_add.calls k ([]:List (ByteArray×Int)) ([]:List ctf_source) a0 b6 b5 (#[]) 0 none 0 ([]:List Value) A0_0 c0_0 HS20 ht (MapOk.nil) (RowOk.none' k_ctf_source _) hr0_0 hc0_0 H6) ?_
   rintro _ w18 ⟨obv6_f0,cv6_f0,csv6_f0,esv6_p0_0,clv6_p0_0,obv6_p0_1,cv6_p0_1,csv6_p0_1,rfl,hov6_f0,hov6_p0_0,hov6_p0_1,HS21⟩
   refine ⟨_,rfl,?_⟩
   have HS22:=HS21.f6
   have HS23:=HS22.f6
   have HS24:=HS23.f6
   have HS25:=HS24.f5
   have HS26:=HS25.f5
   have HS27:=HS26.f6
   have HS28:=HS27.f6
   refine qn_nil ?_
   try simp only [sc0,sc1]
   refine chain_eff [] ?_ rfl rfl ?_
   ·try simp only [patch,sc0,sc1]
    exact allg_cons (good_same (v:=vP b6 0) rfl rfl rfl rfl (r_move rfl)) (allg_cons (good_same (v:=Value.agg #[vL A1_0 a1.vDefs.length c1_0]) rfl rfl rfl rfl (r_loadBoxAgg (n:=1) (vs:=[vL A1_0 a1.vDefs.length c1_0]) rfl Tryd.isAgg24 (HS28.look 5 rfl) Tryd.sizeOf24 rfl rfl)) (allg_nil))
   try simp only [patch,sc0,sc1]
   obtain ⟨v7,H7,H⟩:=of_bind H
   have HS29:=HS28.f1
   have HS30:=HS29.f3
   have HS31:=HS30.f3
   refine run_call (vs:=[vP b6 0,Value.agg #[vL A1_0 a1.vDefs.length c1_0]]) (caps:=[]) Tryd.call59 rfl rfl (ctf_pool_add.calls k v6.2.1 v6.2.2 a1 b6 b5 esv6_p0_0 clv6_p0_0 obv6_p0_1 cv6_p0_1 csv6_p0_1 A1_0 c1_0 HS31 ht hov6_p0_0 hov6_p0_1 hr1_0 hc1_0 H7) ?_
   rintro _ w19 ⟨obv7_f0,cv7_f0,csv7_f0,esv7_p0_0,clv7_p0_0,obv7_p0_1,cv7_p0_1,csv7_p0_1,rfl,hov7_f0,hov7_p0_0,hov7_p0_1,HS32⟩
   refine ⟨_,rfl,?_⟩
   have HS33:=HS32.f7
   have HS34:=HS33.f7
   have HS35:=HS34.f7
   have HS36:=HS35.f5
   have HS37:=HS36.f5
   have HS38:=HS37.f6
   have HS39:=HS38.f7
   have HS40:=HS39.f7
   refine qn_nil ?_
   try simp only [sc0,sc1]
   refine chain_last [vL (rowA obv6_f0) v6.1.length cv6_f0,vL (rowA obv7_f0) v7.1.length cv7_f0] ?_ ?_
   ·try simp only [patch,sc0,sc1]
    exact allg_cons (good_same (v:=vL (rowA obv6_f0) v6.1.length cv6_f0) rfl rfl rfl rfl (r_assign rfl)) (allg_cons (good_same (v:=vL (rowA obv7_f0) v7.1.length cv7_f0) rfl rfl rfl rfl (r_assign rfl)) (allg_nil))
   try simp only [patch,sc0,sc1]
   refine norm_then ?_
   refine wp_seq ?_
   refine wp_seq ?_
   refine region ?_
   refine rs (vP b6 0) (r_move rfl) ?_
   refine rs (vP b6 0) (r_nilCheck rfl) ?_
   refine rs (vP b6 1) (r_fieldBox (n:=1) (o':=1) rfl Tryd.runUnderlying110 rfl Tryd.sizeOf108 (by decide) rfl) ?_
   refine rs (vL (rowA obv7_p0_1) v7.2.2.length cv7_p0_1) (r_loadBox rfl Tryd.isAgg108 (HS40.look 3 rfl) rfl) ?_
   refine run_frame (by simp only [sc0,sc1];rfl) ?_
   refine rs (vI ((v7.2.2.length:Nat):Int)) (r_lenRow rfl Tryd.runUnderlying108) ?_
   refine rs (vB (decide (((v7.2.2.length:Nat):Int)>200))) (r_bin rfl rfl rfl) ?_
   try simp only [sc0,sc1]
   refine run_nil ?_
   refine norm_then ?_
   refine wp_cond_split (t:=(decide (((v7.2.2.length:Nat):Int)>200))) rfl (fun c5=>?_) (fun c5=>?_)
   ·replace H:=of_pos H c5
    refine wp_seq ?_
    refine region ?_
    refine rs (Value.agg #[vL none 0 0]) (r_build0 (cs:=[vL none 0 0]) Tryd.zeroValue24 Tryd.runUnderlying24 (pl:=#[(0,1)]) (fun w=>by simp [Tryd.sizeOf22]) rfl) ?_
    refine run_st (i:=5) (cs:=[vL none 0 0]) (cs':=[vL none 0 0]) (vs:=[vL none 0 0]) (bs':=[(obv7_f0, .cells (csv7_f0).toArray 3 (0,0)),(obv6_f0, .cells (csv6_f0).toArray 3 (0,0)),(obv7_p0_1, .cells (csv7_p0_1).toArray 160 (0,0)),(some b6, .cells #[Value.map (some b5),vL (rowA obv7_p0_1) v7.2.2.length cv7_p0_1] 110 (0,0)),(some b5, .map esv7_p0_0 clv7_p0_0),(some b3, .cells #[vL none 0 0] 24 (0,0)),(some b2, .cells #[vL A1_0 a1.vDefs.length c1_0] 24 (0,0)),(some b1, .cells #[vL A0_0 a0.vDefs.length c0_0] 24 (0,0))]) rfl rfl Tryd.sizeOf24 rfl rfl (by decide) rfl HS40 rfl (Nat.le_of_ble_eq_true rfl) rfl rfl ?_
    intro w20 HS41
    refine rs (vL none 0 0) (r_assign rfl) ?_
    refine rs (vL none 0 0) (r_assign rfl) ?_
    refine run_frame (by simp only [sc0,sc1];rfl) ?_
    refine rs (vI 2) (r_assign rfl) ?_
    try simp only [sc0,sc1]
    refine run_nil ?_
    refine norm_then ?_
    refine wp_ret ?_
    refine ret_then ?_
    obtain rfl:=Option.some.inj H
    refine bodyPost_ret (results_4 rfl (one_agg rfl Tryd.isAgg24 (HS41.look 5 rfl) Tryd.sizeOf24 rfl) (one_tmp rfl) (one_tmp rfl) (one_tmp rfl)) rfl ?_
    exact ⟨h0,none,0,none,0,none,0,rfl,(Nat.le_refl 0),(Rd.nil _ _ _),(Nat.le_refl 0),(Rd.nil _ _ _),(Nat.le_refl 0),(Rd.nil _ _ _),HS41.gr,HS41.sees,HS41.toE⟩
   ·replace H:=of_neg H (nt c5)
    refine wp_skip ?_
    refine norm_then ?_
    refine wp_seq ?_
    refine region ?_
    refine rs (vP b6 0) (r_move rfl) ?_
    obtain ⟨v8,H8,H⟩:=of_bind H
    have HS42:=HS40.f2
    have HS43:=HS42.f4
    have HS44:=HS43.f4
    refine run_call (vs:=[vP b6 0]) (caps:=[]) Tryd.call60 rfl rfl (ctf_pool_types.calls k v7.2.1 v7.2.2 b6 b5 esv7_p0_0 clv7_p0_0 obv7_p0_1 cv7_p0_1 csv7_p0_1 HS44 ht hov7_p0_0 hov7_p0_1 H8) ?_
    rintro _ w21 ⟨h1,Av8_r0_0,cv8_r0_0,rfl,hcv8_r0_0,hrv8_r0_0,hs3,HS45⟩
    refine ⟨_,rfl,?_⟩
    replace hov7_p0_1:=hov7_p0_1.view hs3
    replace hov7_f0:=hov7_f0.view hs3
    replace hov6_f0:=hov6_f0.view hs3
    have HS46:=HS45.f7
    have HS47:=HS46.f7
    have HS48:=HS47.f7
    have HS49:=HS48.f4
    have HS50:=HS49.f4
    have HS51:=HS50.f5
    have HS52:=HS51.f7
    have HS53:=HS52.f7
    refine rs (vL (rowA obv6_f0) v6.1.length cv6_f0) (r_move rfl) ?_
    refine rs (vL (rowA obv7_f0) v7.1.length cv7_f0) (r_move rfl) ?_
    refine run_frame (by simp only [sc0,sc1];rfl) ?_
    refine run_st (i:=5) (cs:=[vL none 0 0]) (cs':=[vL Av8_r0_0 v8.vDefs.length cv8_r0_0]) (vs:=[vL Av8_r0_0 v8.vDefs.length cv8_r0_0]) (bs':=[(obv7_f0, .cells (csv7_f0).toArray 3 (0,0)),(obv6_f0, .cells (csv6_f0).toArray 3 (0,0)),(obv7_p0_1, .cells (csv7_p0_1).toArray 160 (0,0)),(some b6, .cells #[Value.map (some b5),vL (rowA obv7_p0_1) v7.2.2.length cv7_p0_1] 110 (0,0)),(some b5, .map esv7_p0_0 clv7_p0_0),(some b3, .cells #[vL Av8_r0_0 v8.vDefs.length cv8_r0_0] 24 (0,0)),(some b2, .cells #[vL A1_0 a1.vDefs.length c1_0] 24 (0,0)),(some b1, .cells #[vL A0_0 a0.vDefs.length c0_0] 24 (0,0))]) rfl rfl Tryd.sizeOf24 rfl rfl (by decide) rfl HS53 rfl (Nat.le_of_ble_eq_true rfl) rfl rfl ?_
    intro w22 HS54
    refine rs (vL (rowA obv6_f0) v6.1.length cv6_f0) (r_assign rfl) ?_
    refine rs (vL (rowA obv7_f0) v7.1.length cv7_f0) (r_assign rfl) ?_
    refine rs (vI 0) (r_assign rfl) ?_
    try simp only [sc0,sc1]
    refine run_nil ?_
    refine norm_then ?_
    refine wp_ret ?_
    obtain rfl:=Option.some.inj H
    refine bodyPost_ret (results_4 rfl (one_agg rfl Tryd.isAgg24 (HS54.look 5 rfl) Tryd.sizeOf24 rfl) (one_tmp rfl) (one_tmp rfl) (one_tmp rfl)) rfl ?_
    obtain ⟨h2,HS55,hs4,rdp1⟩:=row_pub HS54 (i:=1) rfl hov6_f0
    replace hov7_f0:=hov7_f0.view hs4
    replace hov7_p0_1:=hov7_p0_1.view hs4
    replace hrv8_r0_0:Rd k_api_Def h2 Av8_r0_0 v8.vDefs:=hrv8_r0_0.ext hs4
    obtain ⟨h3,HS56,hs5,rdp2⟩:=row_pub HS55 (i:=0) rfl hov7_f0
    replace hov7_p0_1:=hov7_p0_1.view hs5
    replace hrv8_r0_0:Rd k_api_Def h3 Av8_r0_0 v8.vDefs:=hrv8_r0_0.ext hs5
    replace rdp1:Rd (Kd.int .i64) h3 (rowA obv6_f0) v6.1:=rdp1.ext hs5
    exact ⟨h3,Av8_r0_0,cv8_r0_0,(rowA obv6_f0),cv6_f0,(rowA obv7_f0),cv7_f0,rfl,hcv8_r0_0,hrv8_r0_0,hov6_f0.cap,rdp1,hov7_f0.cap,rdp2,HS56.gr,HS56.sees,HS56.toE⟩

end Go.Proofs.YtfjppgobidjndaaDoor
namespace Go.Proofs.YtfjppgobidjndaaDoor
open Go.RowKit Go.M
def Comp (t u:api_Types):Prop:=∀i,i<t.vDefs.length→namedS (dAt t i)=true→∀j,j<u.vDefs.length→namedS (dAt u j)=true→(dAt t i).vName=(dAt u j).vName→EqS t i u j
def CompAt (t u:api_Types) (i:Nat):Prop:=namedS (dAt t i)=true→∀j,j<u.vDefs.length→namedS (dAt u j)=true→(dAt t i).vName=(dAt u j).vName→EqS t i u j
section
variable {t u v:api_Types} {s r:List Int}
theorem Comp.symm (W:Wf t s) (V:Wf u r) (h:Comp t u):Comp u t:=fun i hi hn j hj hm e=>(h j hj hm i hi hn e.symm).symm W V hj hi
theorem Comp.refl (W:Wf t s):Comp t t:=fun i hi hn j hj hm e=>by
  have:=name_uniq W hi hj hn hm e
  subst this
  exact EqS.refl W hi
theorem mg_loop (W:Wf t s) (V:Wf u r):∀(e j:Nat),j+e=t.vDefs.length→Ev2 (fun k m=>ctf_Merge.l0 k t u m (j:Int)) (if tell (∀i,j≤i→i<t.vDefs.length→CompAt t u i)=true then .inr () else .inl (⟨[]⟩,[],[],82)):=by
  have hn:=W.few
  intro e
  induction e with
  |zero=>
    intro j hj
    rw [if_pos (tell_t (fun i h1 h2=>by omega))]
    refine Ev2.pure fun k m=>?_
    rw [ctf_Merge.l0,if_neg (by simp;omega)]
  |succ e ih=>
    intro j hj
    have hlt:j<t.vDefs.length:=by omega
    obtain ⟨K,hK⟩:=ih (j+1) (by omega)
    have step:CompAt t u j→tell (∀i,j≤i→i<t.vDefs.length→CompAt t u i)=tell (∀i,j+1≤i→i<t.vDefs.length→CompAt t u i):=fun hc=>tell_congr ⟨fun h i h1 h2=>h i (by omega) h2,fun h i h1 h2=>by
      by_cases e:i=j
      · subst e;exact hc
      · exact h i (by omega) h2⟩
    by_cases hnm:namedS (dAt t j)=true
    · obtain ⟨K1,h1⟩:=find_ev V.few (dAt t j).vName
      by_cases h0:0≤findV u (dAt t j).vName
      · obtain ⟨q,e0,hq,hnq,hname⟩:=findV_pos h0
        obtain ⟨K2,h2⟩:=equal_ev W V hlt hq
        have hcomp:CompAt t u j↔EqS t j u q:=⟨fun h=>h hnm q hq hnq hname.symm,fun h _ q' hq' hn' e'=>by
          have:=name_uniq V hq hq' hnq hn' (by rw [hname,e'])
          subst this;exact h⟩
        refine ⟨K+K1+K2+1,fun k m hk hm=>?_⟩
        obtain ⟨m,rfl⟩:∃x,m=x+1:=⟨m-1,by omega⟩
        show ctf_Merge.l0 k t u (m+1) (j:Int)=_
        rw [ctf_Merge.l0,if_pos (by simp;omega),if_pos (by omega),rd_dAt]
        simp only [ctf_named.f,Option.bind_some]
        show (if (!(namedS (dAt t j)))=true then _ else _)=_
        rw [hnm,if_neg (by simp),show ctf_find.f k u _=_ from h1 k (by omega),e0]
        simp only [Option.bind_some]
        rw [show decide (((q:Nat):Int)≥0)=true from decide_eq_true (by omega)]
        simp only [beq_self_eq_true,Bool.and_self,if_true,Bool.true_and]
        rw [show ctf_equal.f k t (j:Int) u (q:Int)=_ from h2 k (by omega)]
        simp only [Option.bind_some]
        by_cases hE:EqS t j u q
        · rw [tell_t hE,if_neg (by simp),wrap_nat hlt (by omega),step (hcomp.2 hE)]
          exact hK k m (by omega) (by omega)
        · rw [tell_f hE,if_pos (by decide),tell_f (fun h=>hE (hcomp.1 (h j (Nat.le_refl _) hlt)))]
          rfl
      · have hlt0:findV u (dAt t j).vName<0:=by omega
        have hcomp:CompAt t u j:=fun _ q hq hnq e=>absurd e.symm (findV_neg h0 q hq hnq)
        refine ⟨K+K1+1,fun k m hk hm=>?_⟩
        obtain ⟨m,rfl⟩:∃x,m=x+1:=⟨m-1,by omega⟩
        show ctf_Merge.l0 k t u (m+1) (j:Int)=_
        rw [ctf_Merge.l0,if_pos (by simp;omega),if_pos (by omega),rd_dAt]
        simp only [ctf_named.f,Option.bind_some]
        show (if (!(namedS (dAt t j)))=true then _ else _)=_
        rw [hnm,if_neg (by simp),show ctf_find.f k u _=_ from h1 k (by omega)]
        simp only [Option.bind_some]
        rw [show decide (findV u (dAt t j).vName≥0)=false from decide_eq_false (by omega)]
        simp only [Bool.and_false,Bool.false_eq_true,if_false,Option.bind_some,Bool.false_and,show (false==true)=false from rfl]
        rw [wrap_nat hlt (by omega),step hcomp]
        exact hK k m (by omega) (by omega)
    · refine ⟨K+1,fun k m hk hm=>?_⟩
      obtain ⟨m,rfl⟩:∃x,m=x+1:=⟨m-1,by omega⟩
      show ctf_Merge.l0 k t u (m+1) (j:Int)=_
      rw [ctf_Merge.l0,if_pos (by simp;omega),if_pos (by omega),rd_dAt]
      simp only [ctf_named.f,Option.bind_some]
      show (if (!(namedS (dAt t j)))=true then _ else _)=_
      rw [Bool.not_eq_true] at hnm
      rw [hnm,if_pos (by decide),wrap_nat hlt (by omega),step (fun h=>by rw [hnm] at h;cases h)]
      exact hK k m (by omega) (by omega)
structure Both (t u:api_Types) (m1:List (ByteArray×Int)) (l1:List ctf_source) (x1:List Int) (m2:List (ByteArray×Int)) (l2:List ctf_source) (x2:List Int):Prop where
  a:Added t [] [] 0 x1 m1 l1
  b:Added u m1 l1 0 x2 m2 l2
variable {m1 m2:List (ByteArray×Int)} {l1 l2:List ctf_source} {x1 x2:List Int}
theorem Both.len1 (B:Both t u m1 l1 x1 m2 l2 x2):x1.length=t.vDefs.length:=by have:=B.a.len;omega
theorem Both.len2 (B:Both t u m1 l1 x1 m2 l2 x2):x2.length=u.vDefs.length:=by have:=B.b.len;omega
theorem Both.le (B:Both t u m1 l1 x1 m2 l2 x2):l1.length≤l2.length:=by
  obtain ⟨r,hr,_⟩:=B.b.ext
  rw [hr];simp
theorem Both.x1at (B:Both t u m1 l1 x1 m2 l2 x2) {i:Nat} (hi:i<t.vDefs.length):∃q:Nat,x1.getD i 0=(q:Int)∧q<l2.length∧xS (toS l2) q=tx t i:=by
  obtain ⟨q,a,b,c⟩:=B.a.at_ i (by rw [B.len1];exact hi)
  obtain ⟨r,hr,_⟩:=B.b.ext
  simp only [Nat.zero_add] at c
  exact ⟨q,a,by have:=B.le;omega,by rw [hr,xS_app b];exact c⟩
theorem Both.x2at (B:Both t u m1 l1 x1 m2 l2 x2) {i:Nat} (hi:i<u.vDefs.length):∃q:Nat,x2.getD i 0=(q:Int)∧q<l2.length∧xS (toS l2) q=tx u i:=by
  obtain ⟨q,a,b,c⟩:=B.b.at_ i (by rw [B.len2];exact hi)
  simp only [Nat.zero_add] at c
  exact ⟨q,a,b,c⟩
theorem Both.src (B:Both t u m1 l1 x1 m2 l2 x2) {q:Nat} (hq:q<l2.length):sT (toS l2) q=t∨sT (toS l2) q=u:=by
  rw [(toS_at hq).1]
  have hm:=src_at hq
  obtain ⟨r1,e1,h1⟩:=B.a.ext
  obtain ⟨r2,e2,h2⟩:=B.b.ext
  rw [e2,e1,List.nil_append] at hm
  rcases List.mem_append.1 hm with h|h
  · obtain ⟨i,_,_,e⟩:=h1 _ h
    rw [e2,e1,List.nil_append,e];exact .inl rfl
  · obtain ⟨i,_,_,e⟩:=h2 _ h
    rw [e2,e1,List.nil_append,e];exact .inr rfl
theorem Both.met (B:Both t u m1 l1 x1 m2 l2 x2) {q:Nat} (hq:q<l2.length):(∃i,i<t.vDefs.length∧x1.getD i 0=(q:Int))∨(∃i,i<u.vDefs.length∧x2.getD i 0=(q:Int)):=by
  by_cases h:q<l1.length
  · obtain ⟨i,a,b⟩:=B.a.met q (by simp) h
    exact .inl ⟨i,by rw [←B.len1];exact a,b⟩
  · obtain ⟨i,a,b⟩:=B.b.met q (by omega) hq
    exact .inr ⟨i,by rw [←B.len2];exact a,b⟩
theorem Both.has1 (B:Both t u m1 l1 x1 m2 l2 x2):Has m2 t:=B.b.keeps B.a.pool B.a.has
theorem Both.has2 (B:Both t u m1 l1 x1 m2 l2 x2):Has m2 u:=B.b.has
theorem match_two (W:Wf t s) (V:Wf u r) (hc:Comp t u) {k k':Nat} (hk:k<t.vDefs.length) (hk':k'<u.vDefs.length) (he:tx t k=tx u k'):Match t (dAt t k) u (dAt u k'):=by
  rcases tx_eq W V hk hk' he with ⟨a,b,c⟩|h|h
  · exact match_of W V hk (hc k hk a k' hk' b c).2 .refl hk' he
  · exact .inr (.inl h)
  · exact .inr (.inr h)
theorem Both.same (B:Both t u m1 l1 x1 m2 l2 x2) (W:Wf t s) (V:Wf u r) (hc:Comp t u) {q:Nat} (hq:q<l2.length):
    (∀k k',k<t.vDefs.length→k'<(sT (toS l2) q).vDefs.length→tx t k=tx (sT (toS l2) q) k'→Match t (dAt t k) (sT (toS l2) q) (dAt (sT (toS l2) q) k'))∧
    (∀k k',k<u.vDefs.length→k'<(sT (toS l2) q).vDefs.length→tx u k=tx (sT (toS l2) q) k'→Match u (dAt u k) (sT (toS l2) q) (dAt (sT (toS l2) q) k')):=by
  rcases B.src hq with e|e
  · rw [e]
    exact ⟨fun k k' hk hk' he=>match_self W hk hk' he,fun k k' hk hk' he=>(match_two W V hc hk' hk he.symm).symm⟩
  · rw [e]
    exact ⟨fun k k' hk hk' he=>match_two W V hc hk hk' he,fun k k' hk hk' he=>match_self V hk hk' he⟩
theorem Both.built (B:Both t u m1 l1 x1 m2 l2 x2) (W:Wf t s) (V:Wf u r) (hc:Comp t u) (hl:l2.length≤200):Built (outP m2 l2) (toS l2):=by
  refine B.b.pool.built hl (fun q hq=>?_) (fun q p hq hp k k' hk hk' he=>?_)
  · rcases B.src hq with e|e
    · rw [e];exact B.has1
    · rw [e];exact B.has2
  · obtain ⟨h1,h2⟩:=B.same W V hc hp
    rcases B.src hq with e|e
    · rw [e] at hk he⊢;exact h1 k k' hk hk' he
    · rw [e] at hk he⊢;exact h2 k k' hk hk' he
theorem Both.eq1 (B:Both t u m1 l1 x1 m2 l2 x2) (W:Wf t s) (V:Wf u r) (hc:Comp t u) (hl:l2.length≤200) {i:Nat} (hi:i<t.vDefs.length):EqX t (i:Int) (outP m2 l2) (x1.getD i 0):=by
  obtain ⟨q,e,hq,hx⟩:=B.x1at hi
  rw [e]
  exact added_eq W (B.built W V hc hl) (fun q hq=>(B.same W V hc (by rw [←toS_len];exact hq)).1) B.b.pool B.has1 hi hq hx
theorem Both.eq2 (B:Both t u m1 l1 x1 m2 l2 x2) (W:Wf t s) (V:Wf u r) (hc:Comp t u) (hl:l2.length≤200) {i:Nat} (hi:i<u.vDefs.length):EqX u (i:Int) (outP m2 l2) (x2.getD i 0):=by
  obtain ⟨q,e,hq,hx⟩:=B.x2at hi
  rw [e]
  exact added_eq V (B.built W V hc hl) (fun q hq=>(B.same W V hc (by rw [←toS_len];exact hq)).2) B.b.pool B.has2 hi hq hx
theorem pools_ev (W:Wf t s) (V:Wf u r):∃m1 l1 x1 m2 l2 x2,Both t u m1 l1 x1 m2 l2 x2∧l2.length≤400∧Ev (fun k=>ctf_pool_add.f k [] [] t) (x1,m1,l1)∧Ev (fun k=>ctf_pool_add.f k m1 l1 u) (x2,m2,l2):=by
  obtain ⟨x1,m1,l1,h1,A1⟩:=add_ev W Pool.nil (by simp)
  have hl1:l1.length≤200:=by have:=A1.few;have:=A1.len;have:=W.few;simp at*;omega
  obtain ⟨x2,m2,l2,h2,A2⟩:=add_ev V A1.pool (by omega)
  exact ⟨m1,l1,x1,m2,l2,x2,⟨A1,A2⟩,by have:=A2.few;have:=A2.len;have:=V.few;omega,h1,h2⟩
theorem Merge_of (W:Wf t s) (V:Wf u r) (hv:Ev (fun k=>ctf_valid.f k t) true) (hv2:Ev (fun k=>ctf_valid.f k u) true) (B:Both t u m1 l1 x1 m2 l2 x2) (hl:l2.length≤400) (h1:Ev (fun k=>ctf_pool_add.f k [] [] t) (x1,m1,l1)) (h2:Ev (fun k=>ctf_pool_add.f k m1 l1 u) (x2,m2,l2)):
    Ev (fun k=>ctf_Merge.f k t u) (if tell (Comp t u)=true then (if l2.length≤200 then (outP m2 l2,x1,x2,0) else (⟨[]⟩,[],[],2)) else (⟨[]⟩,[],[],82)):=by
  obtain ⟨K1,h1⟩:=h1
  obtain ⟨K2,h2⟩:=h2
  obtain ⟨K3,h3⟩:=hv
  obtain ⟨K4,h4⟩:=hv2
  obtain ⟨K5,h5⟩:=(mg_loop W V t.vDefs.length 0 (by omega)).diag
  obtain ⟨K6,h6⟩:=types_ev B.b.pool (by omega)
  refine ⟨K1+K2+K3+K4+K5+K6,fun k hk=>?_⟩
  show ctf_Merge.f k t u=_
  unfold ctf_Merge.f
  rw [show ctf_valid.f k t=_ from h3 k (by omega),show ctf_valid.f k u=_ from h4 k (by omega)]
  simp only [Option.bind_some,Bool.not_true,beq_self_eq_true,Bool.and_self,if_true,Bool.or_self,Bool.false_eq_true,if_false]
  rw [show ctf_Merge.l0 k t u k 0=_ from h5 k (by omega)]
  have hc:tell (∀i,0≤i→i<t.vDefs.length→CompAt t u i)=tell (Comp t u):=tell_congr ⟨fun h i hi hn=>h i (by omega) hi hn,fun h i _ hi hn=>h i hi hn⟩
  rw [hc]
  by_cases hC:Comp t u
  · rw [tell_t hC,if_pos rfl,if_pos rfl]
    simp only [Option.bind_some]
    rw [show ctf_pool_add.f k [] [] t=_ from h1 k (by omega)]
    simp only [Option.bind_some]
    rw [show ctf_pool_add.f k m1 l1 u=_ from h2 k (by omega)]
    simp only [Option.bind_some]
    by_cases hle:l2.length≤200
    · rw [if_pos hle,if_neg (by simp;omega),show ctf_pool_types.f k m2 l2=_ from h6 k (by omega)]
      rfl
    · rw [if_neg hle,if_pos (by simp;omega)]
  · rw [tell_f hC,if_neg (by decide),if_neg (by decide)]
    rfl
theorem Merge_ev (W:Wf t s) (V:Wf u r) (hv:Ev (fun k=>ctf_valid.f k t) true) (hv2:Ev (fun k=>ctf_valid.f k u) true):∃m1 l1 x1 m2 l2 x2,Both t u m1 l1 x1 m2 l2 x2∧
    Ev (fun k=>ctf_Merge.f k t u) (if tell (Comp t u)=true then (if l2.length≤200 then (outP m2 l2,x1,x2,0) else (⟨[]⟩,[],[],2)) else (⟨[]⟩,[],[],82)):=by
  obtain ⟨m1,l1,x1,m2,l2,x2,B,hl,h1,h2⟩:=pools_ev W V
  exact ⟨m1,l1,x1,m2,l2,x2,B,Merge_of W V hv hv2 B hl h1 h2⟩
theorem Merge_bad (h:Ev (fun k=>ctf_valid.f k t) false∨(Ev (fun k=>ctf_valid.f k t) true∧Ev (fun k=>ctf_valid.f k u) false)):Ev (fun k=>ctf_Merge.f k t u) (⟨[]⟩,[],[],80):=by
  rcases h with ⟨K,hK⟩|⟨⟨K,hK⟩,⟨K2,h2⟩⟩
  · refine ⟨K,fun k hk=>?_⟩
    show ctf_Merge.f k t u=_
    unfold ctf_Merge.f
    rw [show ctf_valid.f k t=_ from hK k hk]
    rfl
  · refine ⟨K+K2,fun k hk=>?_⟩
    show ctf_Merge.f k t u=_
    unfold ctf_Merge.f
    rw [show ctf_valid.f k t=_ from hK k (by omega)]
    simp only [Option.bind_some,Bool.not_true,beq_self_eq_true,Bool.and_self,if_true]
    rw [show ctf_valid.f k u=_ from h2 k (by omega)]
    rfl
theorem Merge_any (hF:∀d∈t.vDefs,FitD d) (hG:∀d∈u.vDefs,FitD d):(∃s r,Wf t s∧Wf u r∧Ev (fun k=>ctf_valid.f k t) true∧Ev (fun k=>ctf_valid.f k u) true)∨(((∀s,¬Wf t s)∨(∀s,¬Wf u s))∧Ev (fun k=>ctf_Merge.f k t u) (⟨[]⟩,[],[],80)):=by
  rcases valid_iff hF with ⟨s,W,hv⟩|⟨hno,hv⟩
  · rcases valid_iff hG with ⟨r,V,hv2⟩|⟨hno,hv2⟩
    · exact .inl ⟨s,r,W,V,hv,hv2⟩
    · exact .inr ⟨.inr hno,Merge_bad (.inr ⟨hv,hv2⟩)⟩
  · exact .inr ⟨.inl hno,Merge_bad (.inl hv)⟩
theorem pool_le {m m':List (ByteArray×Int)} {l l':List ctf_source} (P:Pool m l) (P':Pool m' l') (h:∀q,q<l.length→∃p,p<l'.length∧xS (toS l') p=xS (toS l) q):l.length≤l'.length:=by
  rcases Nat.lt_or_ge l'.length l.length with hlt|hge
  · exfalso
    have hex:∀q,∃p,q<l.length→p<l'.length∧xS (toS l') p=xS (toS l) q:=fun q=>by
      by_cases hq:q<l.length
      · obtain ⟨p,hp⟩:=h q hq;exact ⟨p,fun _=>hp⟩
      · exact ⟨0,fun h=>absurd h hq⟩
    obtain ⟨f,hf⟩:=Classical.axiomOfChoice hex
    obtain ⟨a,b,hab,hb,e⟩:=pigeon l'.length f (fun i hi=>(hf i (by omega)).1)
    have h1:=(hf a (by omega)).2
    have h2:=(hf b (by omega)).2
    rw [e,h2] at h1
    have:=P.inj (by omega) (by omega) h1
    omega
  · exact hge
theorem Both.txt (B:Both t u m1 l1 x1 m2 l2 x2) (x:ByteArray):(∃q,q<l2.length∧xS (toS l2) q=x)↔(∃i,i<t.vDefs.length∧tx t i=x)∨(∃i,i<u.vDefs.length∧tx u i=x):=by
  constructor
  · rintro ⟨q,hq,rfl⟩
    rcases B.met hq with ⟨i,hi,e⟩|⟨i,hi,e⟩
    · obtain ⟨p,e2,_,hx⟩:=B.x1at hi
      have:p=q:=by rw [e] at e2;omega
      subst this
      exact .inl ⟨i,hi,hx.symm⟩
    · obtain ⟨p,e2,_,hx⟩:=B.x2at hi
      have:p=q:=by rw [e] at e2;omega
      subst this
      exact .inr ⟨i,hi,hx.symm⟩
  · rintro (⟨i,hi,rfl⟩|⟨i,hi,rfl⟩)
    · obtain ⟨q,_,hq,hx⟩:=B.x1at hi;exact ⟨q,hq,hx⟩
    · obtain ⟨q,_,hq,hx⟩:=B.x2at hi;exact ⟨q,hq,hx⟩
def Txt (t:api_Types) (x:ByteArray):Prop:=∃i,i<t.vDefs.length∧tx t i=x
theorem both_len {t' u':api_Types} {m1' m2':List (ByteArray×Int)} {l1' l2':List ctf_source} {x1' x2':List Int} (B:Both t u m1 l1 x1 m2 l2 x2) (B':Both t' u' m1' l1' x1' m2' l2' x2') (h:∀x,(Txt t x∨Txt u x)↔(Txt t' x∨Txt u' x)):l2.length=l2'.length:=by
  apply Nat.le_antisymm
  · exact pool_le B.b.pool B'.b.pool (fun q hq=>(B'.txt _).2 ((h _).1 ((B.txt _).1 ⟨q,hq,rfl⟩)))
  · exact pool_le B'.b.pool B.b.pool (fun q hq=>(B.txt _).2 ((h _).2 ((B'.txt _).1 ⟨q,hq,rfl⟩)))
end
theorem list_ext0 {a b:List Int} (hl:a.length=b.length) (h:∀j,j<a.length→a.getD j 0=b.getD j 0):a=b:=list_ext hl h
theorem FitT0:∀d∈(⟨[]⟩:api_Types).vDefs,FitD d:=fun d hd=>by cases hd
end Go.Proofs.YtfjppgobidjndaaDoor
namespace Go.Proofs.YtfjppgobidjndaaDoor
open Go.RowKit Go.M
def taplinelaw08_CtfMerged.l1 (v7:api_Types×(List Int)×(List Int)×Int) (y1_0:Int):Nat→Bool→Int→Option (Bool)
 |0,_,_=>none
 |m+1,y2_0,y2_1=>if (decide (y2_1<(v7.2.1.length:Int)))=true then (if (true&&(y2_0==false))=true→(0≤y2_1∧y2_1<v7.2.1.length) then (taplinelaw08_CtfMerged.l1 v7 y1_0 m (y2_0||((rd 0 v7.2.1 y2_1)==y1_0)) (IntKind.wrap .i64 (y2_1+1))) else none) else (some y2_0)
def taplinelaw08_CtfMerged.l2 (v7:api_Types×(List Int)×(List Int)×Int) (y1_0:Int):Nat→Bool→Int→Option (Bool)
 |0,_,_=>none
 |m+1,y3_0,y3_1=>if (decide (y3_1<(v7.2.2.1.length:Int)))=true then (if (true&&(y3_0==false))=true→(0≤y3_1∧y3_1<v7.2.2.1.length) then (taplinelaw08_CtfMerged.l2 v7 y1_0 m (y3_0||((rd 0 v7.2.2.1 y3_1)==y1_0)) (IntKind.wrap .i64 (y3_1+1))) else none) else (some y3_0)
def taplinelaw08_CtfMerged.l0 (k:Nat) (v7:api_Types×(List Int)×(List Int)×Int):Nat→Int→Option ((Bool)⊕(Unit))
 |0,_=>none
 |m+1,y1_0=>if (decide (y1_0<(v7.1.vDefs.length:Int)))=true then ((taplinelaw08_CtfMerged.l1 v7 y1_0 k false 0).bind fun xx2=>((taplinelaw08_CtfMerged.l2 v7 y1_0 k xx2 0).bind fun xx3=>(if (!xx3)=true then (some (.inl false)) else (taplinelaw08_CtfMerged.l0 k v7 m (IntKind.wrap .i64 (y1_0+1)))))) else (some (.inr ()))
def taplinelaw08_CtfMerged.f (k:Nat) (a0:api_Types) (a1:api_Types):Option (Bool):=(taplinelaw08_sane.f k).bind fun v1=>((ctf_Unique.f k a0).bind fun v2=>((ctf_Merge.f k a0 a0).bind fun v3=>((if ((true&&((v2.2.2 !=v3.2.2.2)==false))&&((v2.2.2==0)==true))=true then taplineref08_Same.f k v2.1 v3.1 else some false).bind fun v4=>((if (((true&&((v2.2.2 !=v3.2.2.2)==false))&&((v2.2.2==0)==true))&&((!v4)==false))=true then taplineref08_SameInts.f k v2.2.1 v3.2.1 else some false).bind fun v5=>((if (((true&&((v2.2.2 !=v3.2.2.2)==false))&&((v2.2.2==0)==true))&&(((!v4)||(!v5))==false))=true then taplineref08_SameInts.f k v2.2.1 v3.2.2.1 else some false).bind fun v6=>(if ((v2.2.2 !=v3.2.2.2)||((v2.2.2==0)&&(((!v4)||(!v5))||(!v6))))=true then (some false) else ((ctf_Merge.f k a0 a1).bind fun v7=>(if (v7.2.2.2 !=0)=true then (some v1) else ((ctf_Check.f k v7.1).bind fun v8=>((if (true&&((v8 !=0)==false))=true then taplinelaw08_equals.f k a0 v7.1 v7.2.1 else some false).bind fun v9=>((if (true&&(((v8 !=0)||(!v9))==false))=true then taplinelaw08_equals.f k a1 v7.1 v7.2.2.1 else some false).bind fun v10=>(if (((v8 !=0)||(!v9))||(!v10))=true then (some false) else ((taplinelaw08_CtfMerged.l0 k v7 k 0).bind fun xx1=>(match xx1 with| .inl r=>some r| .inr s1=>some v1))))))))))))))
set_option maxRecDepth 20000 in
set_option maxHeartbeats 4000000 in
theorem taplinelaw08_CtfMerged.calls (k:Nat) (a0:api_Types) (a1:api_Types) (A0_0:Option Addr) (c0_0:Nat) (A1_0:Option Addr) (c1_0:Nat) {h0:View} {w0:World} (hv:Sees h0 w0) (ht:Tab w0) (hr0_0:Rd k_api_Def h0 A0_0 a0.vDefs) (hc0_0:a0.vDefs.length≤c0_0) (hr1_0:Rd k_api_Def h0 A1_0 a1.vDefs) (hc1_0:a1.vDefs.length≤c1_0) {r:Bool} (H:taplinelaw08_CtfMerged.f k a0 a1=some r):Calls Tryd.prog 8 #[Value.agg #[vL A0_0 a0.vDefs.length c0_0],Value.agg #[vL A1_0 a1.vDefs.length c1_0]] w0 (fun e w1=>e= .returned (vB r)∧Ext w0 w1):=by
 unfold taplinelaw08_CtfMerged.f at H
 have HS:St [] h0 w0 h0 [] w0:=St.init hv
 go_enter Tryd.func8,Tryd.ntmps8
 refine wp_seq ?_
 refine region ?_
 refine run_ex rfl rfl (does_box (cs:=#[vL A0_0 a0.vDefs.length c0_0]) rfl rfl) ?_
 rintro w1 _ hE1 ⟨b1,rfl,ge1,hb1⟩
 have HS1:=HS.new hE1 ge1 hb1
 refine run_ex rfl rfl (does_box (cs:=#[vL A1_0 a1.vDefs.length c1_0]) rfl rfl) ?_
 rintro w2 _ hE2 ⟨b2,rfl,ge2,hb2⟩
 have HS2:=HS1.new hE2 ge2 hb2
 refine rs (vB false) (r_assign rfl) ?_
 try simp only [sc0,sc1]
 refine run_nil ?_
 refine norm_then ?_
 refine wp_seq ?_
 refine region ?_
 obtain ⟨v1,H1,H⟩:=of_bind H
 refine run_eq (v:=vB v1) rfl rfl (does_call_eq Tryd.call13 rfl rfl (taplinelaw08_sane.calls k HS2.sees (ht.s HS2) H1)) ?_
 intro w3 hE3
 have HS3:=HS2.step hE3
 refine rs (vB v1) (r_assign rfl) ?_
 try simp only [sc0,sc1]
 refine run_nil ?_
 refine norm_then ?_
 refine wp_seq ?_
 refine region ?_
 refine rs (Value.agg #[vL A0_0 a0.vDefs.length c0_0]) (r_loadBoxAgg (n:=1) (vs:=[vL A0_0 a0.vDefs.length c0_0]) rfl Tryd.isAgg24 (HS3.look 1 rfl) Tryd.sizeOf24 rfl rfl) ?_
 obtain ⟨v2,H2,H⟩:=of_bind H
 refine run_ex rfl rfl (does_call Tryd.call28 rfl (gives_in (h:=h0) (R:=(fun hx u=>∃(Av2_0_0:Option Addr) (cv2_0_0:Nat),∃(Av2_1_0:Option Addr) (cv2_1_0:Nat),u=Value.tuple #[Value.agg #[vL Av2_0_0 v2.1.vDefs.length cv2_0_0],vL Av2_1_0 v2.2.1.length cv2_1_0,vI v2.2.2]∧v2.1.vDefs.length≤cv2_0_0∧Rd k_api_Def hx Av2_0_0 v2.1.vDefs∧v2.2.1.length≤cv2_1_0∧Rd (Kd.int .i64) hx Av2_1_0 v2.2.1)) (Ext.rfl' w3) ((ctf_Unique.calls k a0 A0_0 c0_0 HS3.sees (ht.s HS3) hr0_0 hc0_0 H2).mono ?_)) rfl) ?_
 ·rintro _ _ ⟨h1,Av2_0_0,cv2_0_0,Av2_1_0,cv2_1_0,rfl,hcv2_0_0,hrv2_0_0,hcv2_1_0,hrv2_1_0,g,ss,x⟩
  exact ⟨h1,_,rfl,⟨Av2_0_0,cv2_0_0,Av2_1_0,cv2_1_0,rfl,hcv2_0_0,hrv2_0_0,hcv2_1_0,hrv2_1_0⟩,g,ss,x⟩
 rintro w4 _ hE4 ⟨h1,⟨Av2_0_0,cv2_0_0,Av2_1_0,cv2_1_0,rfl,hcv2_0_0,hrv2_0_0,hcv2_1_0,hrv2_1_0⟩,gr1,se1⟩
 have HS4:=HS3.view hE4 gr1 se1
 refine rs (Value.tuple #[Value.agg #[vL Av2_0_0 v2.1.vDefs.length cv2_0_0],vL Av2_1_0 v2.2.1.length cv2_1_0,vI v2.2.2]) (r_move rfl) ?_
 refine rs (Value.agg #[vL Av2_0_0 v2.1.vDefs.length cv2_0_0]) (r_extract rfl rfl) ?_
 refine run_frame (by simp only [sc0,sc1];rfl) ?_
 refine rs (vL Av2_1_0 v2.2.1.length cv2_1_0) (r_extract rfl rfl) ?_
 refine rs (vI v2.2.2) (r_extract rfl rfl) ?_
 refine run_ex rfl rfl (does_alloc (cs:=#[vL none 0 0]) Tryd.zeroValue24 rfl) ?_
 rintro w5 _ hE5 ⟨b3,rfl,ge3,hb3⟩
 have HS5:=HS4.new hE5 ge3 hb3
 refine run_st (i:=0) (cs:=[vL none 0 0]) (cs':=[vL Av2_0_0 v2.1.vDefs.length cv2_0_0]) (vs:=[vL Av2_0_0 v2.1.vDefs.length cv2_0_0]) (bs':=[(some b3, .cells #[vL Av2_0_0 v2.1.vDefs.length cv2_0_0] 24 (0,0)),(some b2, .cells #[vL A1_0 a1.vDefs.length c1_0] 24 (0,0)),(some b1, .cells #[vL A0_0 a0.vDefs.length c0_0] 24 (0,0))]) rfl rfl Tryd.sizeOf24 rfl rfl (by decide) rfl HS5 rfl (Nat.le_of_ble_eq_true rfl) rfl rfl ?_
 intro w6 HS6
 refine run_frame (by simp only [sc0,sc1];rfl) ?_
 refine rs (vL Av2_1_0 v2.2.1.length cv2_1_0) (r_assign rfl) ?_
 refine rs (vI v2.2.2) (r_assign rfl) ?_
 try simp only [sc0,sc1]
 refine run_nil ?_
 refine norm_then ?_
 refine wp_seq ?_
 refine region ?_
 refine rs (Value.agg #[vL A0_0 a0.vDefs.length c0_0]) (r_loadBoxAgg (n:=1) (vs:=[vL A0_0 a0.vDefs.length c0_0]) rfl Tryd.isAgg24 (HS6.look 2 rfl) Tryd.sizeOf24 rfl rfl) ?_
 refine rs (Value.agg #[vL A0_0 a0.vDefs.length c0_0]) (r_loadBoxAgg (n:=1) (vs:=[vL A0_0 a0.vDefs.length c0_0]) rfl Tryd.isAgg24 (HS6.look 2 rfl) Tryd.sizeOf24 rfl rfl) ?_
 obtain ⟨v3,H3,H⟩:=of_bind H
 refine run_ex rfl rfl (does_call Tryd.call34 rfl (gives_in (h:=h1) (R:=(fun hx u=>∃(Av3_0_0:Option Addr) (cv3_0_0:Nat),∃(Av3_1_0:Option Addr) (cv3_1_0:Nat),∃(Av3_2_0:Option Addr) (cv3_2_0:Nat),u=Value.tuple #[Value.agg #[vL Av3_0_0 v3.1.vDefs.length cv3_0_0],vL Av3_1_0 v3.2.1.length cv3_1_0,vL Av3_2_0 v3.2.2.1.length cv3_2_0,vI v3.2.2.2]∧v3.1.vDefs.length≤cv3_0_0∧Rd k_api_Def hx Av3_0_0 v3.1.vDefs∧v3.2.1.length≤cv3_1_0∧Rd (Kd.int .i64) hx Av3_1_0 v3.2.1∧v3.2.2.1.length≤cv3_2_0∧Rd (Kd.int .i64) hx Av3_2_0 v3.2.2.1)) (Ext.rfl' w6) ((ctf_Merge.calls k a0 a0 A0_0 c0_0 A0_0 c0_0 HS6.sees (ht.s HS6) (hr0_0.ext HS6.sub) hc0_0 (hr0_0.ext HS6.sub) hc0_0 H3).mono ?_)) rfl) ?_
 ·rintro _ _ ⟨h1,Av3_0_0,cv3_0_0,Av3_1_0,cv3_1_0,Av3_2_0,cv3_2_0,rfl,hcv3_0_0,hrv3_0_0,hcv3_1_0,hrv3_1_0,hcv3_2_0,hrv3_2_0,g,ss,x⟩
  exact ⟨h1,_,rfl,⟨Av3_0_0,cv3_0_0,Av3_1_0,cv3_1_0,Av3_2_0,cv3_2_0,rfl,hcv3_0_0,hrv3_0_0,hcv3_1_0,hrv3_1_0,hcv3_2_0,hrv3_2_0⟩,g,ss,x⟩
 rintro w7 _ hE6 ⟨h2,⟨Av3_0_0,cv3_0_0,Av3_1_0,cv3_1_0,Av3_2_0,cv3_2_0,rfl,hcv3_0_0,hrv3_0_0,hcv3_1_0,hrv3_1_0,hcv3_2_0,hrv3_2_0⟩,gr2,se2⟩
 have HS7:=HS6.view hE6 gr2 se2
 replace hrv2_0_0:Rd k_api_Def h2 Av2_0_0 v2.1.vDefs:=hrv2_0_0.ext gr2.1
 replace hrv2_1_0:Rd (Kd.int .i64) h2 Av2_1_0 v2.2.1:=hrv2_1_0.ext gr2.1
 refine rs (Value.tuple #[Value.agg #[vL Av3_0_0 v3.1.vDefs.length cv3_0_0],vL Av3_1_0 v3.2.1.length cv3_1_0,vL Av3_2_0 v3.2.2.1.length cv3_2_0,vI v3.2.2.2]) (r_move rfl) ?_
 refine run_frame (by simp only [sc0,sc1];rfl) ?_
 refine rs (Value.agg #[vL Av3_0_0 v3.1.vDefs.length cv3_0_0]) (r_extract rfl rfl) ?_
 refine rs (vL Av3_1_0 v3.2.1.length cv3_1_0) (r_extract rfl rfl) ?_
 refine rs (vL Av3_2_0 v3.2.2.1.length cv3_2_0) (r_extract rfl rfl) ?_
 refine rs (vI v3.2.2.2) (r_extract rfl rfl) ?_
 refine run_frame (by simp only [sc0,sc1];rfl) ?_
 refine run_ex rfl rfl (does_alloc (cs:=#[vL none 0 0]) Tryd.zeroValue24 rfl) ?_
 rintro w8 _ hE7 ⟨b4,rfl,ge4,hb4⟩
 have HS8:=HS7.new hE7 ge4 hb4
 refine run_st (i:=0) (cs:=[vL none 0 0]) (cs':=[vL Av3_0_0 v3.1.vDefs.length cv3_0_0]) (vs:=[vL Av3_0_0 v3.1.vDefs.length cv3_0_0]) (bs':=[(some b4, .cells #[vL Av3_0_0 v3.1.vDefs.length cv3_0_0] 24 (0,0)),(some b3, .cells #[vL Av2_0_0 v2.1.vDefs.length cv2_0_0] 24 (0,0)),(some b2, .cells #[vL A1_0 a1.vDefs.length c1_0] 24 (0,0)),(some b1, .cells #[vL A0_0 a0.vDefs.length c0_0] 24 (0,0))]) rfl rfl Tryd.sizeOf24 rfl rfl (by decide) rfl HS8 rfl (Nat.le_of_ble_eq_true rfl) rfl rfl ?_
 intro w9 HS9
 refine rs (vL Av3_1_0 v3.2.1.length cv3_1_0) (r_assign rfl) ?_
 refine rs (vL Av3_2_0 v3.2.2.1.length cv3_2_0) (r_assign rfl) ?_
 refine run_frame (by simp only [sc0,sc1];rfl) ?_
 refine rs (vI v3.2.2.2) (r_assign rfl) ?_
 try simp only [sc0,sc1]
 refine run_nil ?_
 refine norm_then ?_
 refine wp_seq ?_
 refine wp_seq ?_
 refine region ?_
 refine rs (vI v2.2.2) (r_move rfl) ?_
 refine rs (vI v3.2.2.2) (r_move rfl) ?_
 refine rs (vB (v2.2.2 !=v3.2.2.2)) (r_bin rfl rfl rfl) ?_
 refine rs (vB (v2.2.2 !=v3.2.2.2)) (r_move rfl) ?_
 refine run_frame (by simp only [sc0,sc1];rfl) ?_
 refine rgs (v2.2.2 !=v3.2.2.2) true (vI v2.2.2) rfl rfl rfl rfl (fun hg=>(r_move rfl)) ?_
 refine rgs (v2.2.2 !=v3.2.2.2) true (vB (v2.2.2==0)) rfl rfl rfl rfl (fun hg=>(r_bin (gvt (vI v2.2.2) hg rfl) rfl rfl)) ?_
 refine rgs (v2.2.2 !=v3.2.2.2) true (vB (v2.2.2==0)) rfl rfl rfl rfl (fun hg=>(r_move (gvt (vB (v2.2.2==0)) hg rfl))) ?_
 refine rgs (v2.2.2==0) (true&&((v2.2.2 !=v3.2.2.2)==false)) (Value.agg #[vL Av2_0_0 v2.1.vDefs.length cv2_0_0]) rfl rfl rfl rfl (fun hg=>(r_loadBoxAgg (n:=1) (vs:=[vL Av2_0_0 v2.1.vDefs.length cv2_0_0]) rfl Tryd.isAgg24 (HS9.look 1 rfl) Tryd.sizeOf24 rfl rfl)) ?_
 refine run_frame (by simp only [sc0,sc1];rfl) ?_
 refine rgs (v2.2.2==0) (true&&((v2.2.2 !=v3.2.2.2)==false)) (Value.agg #[vL Av3_0_0 v3.1.vDefs.length cv3_0_0]) rfl rfl rfl rfl (fun hg=>(r_loadBoxAgg (n:=1) (vs:=[vL Av3_0_0 v3.1.vDefs.length cv3_0_0]) rfl Tryd.isAgg24 (HS9.look 0 rfl) Tryd.sizeOf24 rfl rfl)) ?_
 obtain ⟨v4,H4,H⟩:=of_bind H
 refine run_g (b:=(v2.2.2==0)) (c:=(true&&((v2.2.2 !=v3.2.2.2)==false))) (v:=vB v4) rfl rfl rfl rfl (fun hg=>(does_call_eq Tryd.call30 rfl (map2 (gvt (Value.agg #[vL Av2_0_0 v2.1.vDefs.length cv2_0_0]) hg rfl) (gvt (Value.agg #[vL Av3_0_0 v3.1.vDefs.length cv3_0_0]) hg rfl)) (taplineref08_Same.calls k v2.1 v3.1 Av2_0_0 cv2_0_0 Av3_0_0 cv3_0_0 HS9.sees hrv2_0_0 hcv2_0_0 hrv3_0_0 hcv3_0_0 (of_pos H4 hg)))) ?_
 intro w10 hE8
 have HS10:=HS9.step hE8
 refine rgs (v2.2.2==0) (true&&((v2.2.2 !=v3.2.2.2)==false)) (vB (!v4)) rfl rfl rfl rfl (fun hg=>(r_not (gvt (vB v4) hg rfl))) ?_
 refine rgs (v2.2.2==0) (true&&((v2.2.2 !=v3.2.2.2)==false)) (vB (!v4)) rfl rfl rfl rfl (fun hg=>(r_move (gvt (vB (!v4)) hg rfl))) ?_
 refine run_frame (by simp only [sc0,sc1];rfl) ?_
 refine rgs (!v4) ((true&&((v2.2.2 !=v3.2.2.2)==false))&&((v2.2.2==0)==true)) (vL Av2_1_0 v2.2.1.length cv2_1_0) rfl rfl rfl rfl (fun hg=>(r_move rfl)) ?_
 refine rgs (!v4) ((true&&((v2.2.2 !=v3.2.2.2)==false))&&((v2.2.2==0)==true)) (vL Av3_1_0 v3.2.1.length cv3_1_0) rfl rfl rfl rfl (fun hg=>(r_move rfl)) ?_
 obtain ⟨v5,H5,H⟩:=of_bind H
 refine run_g (b:=(!v4)) (c:=((true&&((v2.2.2 !=v3.2.2.2)==false))&&((v2.2.2==0)==true))) (v:=vB v5) rfl rfl rfl rfl (fun hg=>(does_call_eq Tryd.call35 rfl (map2 (gvt (vL Av2_1_0 v2.2.1.length cv2_1_0) hg rfl) (gvt (vL Av3_1_0 v3.2.1.length cv3_1_0) hg rfl)) (taplineref08_SameInts.calls k v2.2.1 v3.2.1 Av2_1_0 cv2_1_0 Av3_1_0 cv3_1_0 HS10.sees hrv2_1_0 hcv2_1_0 hrv3_1_0 hcv3_1_0 (of_pos H5 hg)))) ?_
 intro w11 hE9
 have HS11:=HS10.step hE9
 refine rgs (!v4) ((true&&((v2.2.2 !=v3.2.2.2)==false))&&((v2.2.2==0)==true)) (vB (!v5)) rfl rfl rfl rfl (fun hg=>(r_not (gvt (vB v5) hg rfl))) ?_
 refine run_frame (by simp only [sc0,sc1];rfl) ?_
 refine rgs (v2.2.2==0) (true&&((v2.2.2 !=v3.2.2.2)==false)) (vB ((!v4)||(!v5))) rfl rfl rfl rfl (fun hg=>(r_pick_or (gvt (vB (!v4)) hg rfl) rfl (fun hp=>(gvt (vB (!v5)) (and_i hg hp) rfl)))) ?_
 refine rgs (v2.2.2==0) (true&&((v2.2.2 !=v3.2.2.2)==false)) (vB ((!v4)||(!v5))) rfl rfl rfl rfl (fun hg=>(r_move (gvt (vB ((!v4)||(!v5))) hg rfl))) ?_
 refine rgs ((!v4)||(!v5)) ((true&&((v2.2.2 !=v3.2.2.2)==false))&&((v2.2.2==0)==true)) (vL Av2_1_0 v2.2.1.length cv2_1_0) rfl rfl rfl rfl (fun hg=>(r_move rfl)) ?_
 refine rgs ((!v4)||(!v5)) ((true&&((v2.2.2 !=v3.2.2.2)==false))&&((v2.2.2==0)==true)) (vL Av3_2_0 v3.2.2.1.length cv3_2_0) rfl rfl rfl rfl (fun hg=>(r_move rfl)) ?_
 refine run_frame (by simp only [sc0,sc1];rfl) ?_
 obtain ⟨v6,H6,H⟩:=of_bind H
 refine run_g (b:=((!v4)||(!v5))) (c:=((true&&((v2.2.2 !=v3.2.2.2)==false))&&((v2.2.2==0)==true))) (v:=vB v6) rfl rfl rfl rfl (fun hg=>(does_call_eq Tryd.call35 rfl (map2 (gvt (vL Av2_1_0 v2.2.1.length cv2_1_0) hg rfl) (gvt (vL Av3_2_0 v3.2.2.1.length cv3_2_0) hg rfl)) (taplineref08_SameInts.calls k v2.2.1 v3.2.2.1 Av2_1_0 cv2_1_0 Av3_2_0 cv3_2_0 HS11.sees hrv2_1_0 hcv2_1_0 hrv3_2_0 hcv3_2_0 (of_pos H6 hg)))) ?_
 intro w12 hE10
 have HS12:=HS11.step hE10
 refine rgs ((!v4)||(!v5)) ((true&&((v2.2.2 !=v3.2.2.2)==false))&&((v2.2.2==0)==true)) (vB (!v6)) rfl rfl rfl rfl (fun hg=>(r_not (gvt (vB v6) hg rfl))) ?_
 refine rgs (v2.2.2==0) (true&&((v2.2.2 !=v3.2.2.2)==false)) (vB (((!v4)||(!v5))||(!v6))) rfl rfl rfl rfl (fun hg=>(r_pick_or (gvt (vB ((!v4)||(!v5))) hg rfl) rfl (fun hp=>(gvt (vB (!v6)) (and_i hg hp) rfl)))) ?_
 refine rgs (v2.2.2 !=v3.2.2.2) true (vB ((v2.2.2==0)&&(((!v4)||(!v5))||(!v6)))) rfl rfl rfl rfl (fun hg=>(r_pick_and (gvt (vB (v2.2.2==0)) hg rfl) (fun hp=>(gvt (vB (((!v4)||(!v5))||(!v6))) (and_i hg hp) rfl)) rfl)) ?_
 refine run_frame (by simp only [sc0,sc1];rfl) ?_
 refine rs (vB ((v2.2.2 !=v3.2.2.2)||((v2.2.2==0)&&(((!v4)||(!v5))||(!v6))))) (r_pick_or rfl rfl (fun hp=>(gvt (vB ((v2.2.2==0)&&(((!v4)||(!v5))||(!v6)))) (and_i rfl hp) rfl))) ?_
 try simp only [sc0,sc1]
 refine run_nil ?_
 refine norm_then ?_
 refine wp_cond_split (t:=((v2.2.2 !=v3.2.2.2)||((v2.2.2==0)&&(((!v4)||(!v5))||(!v6))))) rfl (fun c1=>?_) (fun c1=>?_)
 ·replace H:=of_pos H c1
  refine wp_seq ?_
  refine region ?_
  refine rs (vB false) (r_assign rfl) ?_
  try simp only [sc0,sc1]
  refine run_nil ?_
  refine norm_then ?_
  refine wp_ret ?_
  refine ret_then ?_
  obtain rfl:=Option.some.inj H
  refine bodyPost_ret (results_1 rfl (one_tmp rfl)) rfl ?_
  exact ⟨rfl,HS12.toE⟩
 ·replace H:=of_neg H (nt c1)
  refine wp_skip ?_
  refine norm_then ?_
  refine wp_seq ?_
  refine region ?_
  refine rs (Value.agg #[vL A0_0 a0.vDefs.length c0_0]) (r_loadBoxAgg (n:=1) (vs:=[vL A0_0 a0.vDefs.length c0_0]) rfl Tryd.isAgg24 (HS12.look 3 rfl) Tryd.sizeOf24 rfl rfl) ?_
  refine rs (Value.agg #[vL A1_0 a1.vDefs.length c1_0]) (r_loadBoxAgg (n:=1) (vs:=[vL A1_0 a1.vDefs.length c1_0]) rfl Tryd.isAgg24 (HS12.look 2 rfl) Tryd.sizeOf24 rfl rfl) ?_
  obtain ⟨v7,H7,H⟩:=of_bind H
  refine run_ex rfl rfl (does_call Tryd.call34 rfl (gives_in (h:=h2) (R:=(fun hx u=>∃(Av7_0_0:Option Addr) (cv7_0_0:Nat),∃(Av7_1_0:Option Addr) (cv7_1_0:Nat),∃(Av7_2_0:Option Addr) (cv7_2_0:Nat),u=Value.tuple #[Value.agg #[vL Av7_0_0 v7.1.vDefs.length cv7_0_0],vL Av7_1_0 v7.2.1.length cv7_1_0,vL Av7_2_0 v7.2.2.1.length cv7_2_0,vI v7.2.2.2]∧v7.1.vDefs.length≤cv7_0_0∧Rd k_api_Def hx Av7_0_0 v7.1.vDefs∧v7.2.1.length≤cv7_1_0∧Rd (Kd.int .i64) hx Av7_1_0 v7.2.1∧v7.2.2.1.length≤cv7_2_0∧Rd (Kd.int .i64) hx Av7_2_0 v7.2.2.1)) (Ext.rfl' w12) ((ctf_Merge.calls k a0 a1 A0_0 c0_0 A1_0 c1_0 HS12.sees (ht.s HS12) (hr0_0.ext HS12.sub) hc0_0 (hr1_0.ext HS12.sub) hc1_0 H7).mono ?_)) rfl) ?_
  ·rintro _ _ ⟨h1,Av7_0_0,cv7_0_0,Av7_1_0,cv7_1_0,Av7_2_0,cv7_2_0,rfl,hcv7_0_0,hrv7_0_0,hcv7_1_0,hrv7_1_0,hcv7_2_0,hrv7_2_0,g,ss,x⟩
   exact ⟨h1,_,rfl,⟨Av7_0_0,cv7_0_0,Av7_1_0,cv7_1_0,Av7_2_0,cv7_2_0,rfl,hcv7_0_0,hrv7_0_0,hcv7_1_0,hrv7_1_0,hcv7_2_0,hrv7_2_0⟩,g,ss,x⟩
  rintro w13 _ hE11 ⟨h3,⟨Av7_0_0,cv7_0_0,Av7_1_0,cv7_1_0,Av7_2_0,cv7_2_0,rfl,hcv7_0_0,hrv7_0_0,hcv7_1_0,hrv7_1_0,hcv7_2_0,hrv7_2_0⟩,gr3,se3⟩
  have HS13:=HS12.view hE11 gr3 se3
  replace hrv2_0_0:Rd k_api_Def h3 Av2_0_0 v2.1.vDefs:=hrv2_0_0.ext gr3.1
  replace hrv2_1_0:Rd (Kd.int .i64) h3 Av2_1_0 v2.2.1:=hrv2_1_0.ext gr3.1
  replace hrv3_0_0:Rd k_api_Def h3 Av3_0_0 v3.1.vDefs:=hrv3_0_0.ext gr3.1
  replace hrv3_1_0:Rd (Kd.int .i64) h3 Av3_1_0 v3.2.1:=hrv3_1_0.ext gr3.1
  replace hrv3_2_0:Rd (Kd.int .i64) h3 Av3_2_0 v3.2.2.1:=hrv3_2_0.ext gr3.1
  refine rs (Value.tuple #[Value.agg #[vL Av7_0_0 v7.1.vDefs.length cv7_0_0],vL Av7_1_0 v7.2.1.length cv7_1_0,vL Av7_2_0 v7.2.2.1.length cv7_2_0,vI v7.2.2.2]) (r_move rfl) ?_
  refine run_frame (by simp only [sc0,sc1];rfl) ?_
  refine rs (Value.agg #[vL Av7_0_0 v7.1.vDefs.length cv7_0_0]) (r_extract rfl rfl) ?_
  refine rs (vL Av7_1_0 v7.2.1.length cv7_1_0) (r_extract rfl rfl) ?_
  refine rs (vL Av7_2_0 v7.2.2.1.length cv7_2_0) (r_extract rfl rfl) ?_
  refine rs (vI v7.2.2.2) (r_extract rfl rfl) ?_
  refine run_frame (by simp only [sc0,sc1];rfl) ?_
  refine run_ex rfl rfl (does_alloc (cs:=#[vL none 0 0]) Tryd.zeroValue24 rfl) ?_
  rintro w14 _ hE12 ⟨b5,rfl,ge5,hb5⟩
  have HS14:=HS13.new hE12 ge5 hb5
  refine run_st (i:=0) (cs:=[vL none 0 0]) (cs':=[vL Av7_0_0 v7.1.vDefs.length cv7_0_0]) (vs:=[vL Av7_0_0 v7.1.vDefs.length cv7_0_0]) (bs':=[(some b5, .cells #[vL Av7_0_0 v7.1.vDefs.length cv7_0_0] 24 (0,0)),(some b4, .cells #[vL Av3_0_0 v3.1.vDefs.length cv3_0_0] 24 (0,0)),(some b3, .cells #[vL Av2_0_0 v2.1.vDefs.length cv2_0_0] 24 (0,0)),(some b2, .cells #[vL A1_0 a1.vDefs.length c1_0] 24 (0,0)),(some b1, .cells #[vL A0_0 a0.vDefs.length c0_0] 24 (0,0))]) rfl rfl Tryd.sizeOf24 rfl rfl (by decide) rfl HS14 rfl (Nat.le_of_ble_eq_true rfl) rfl rfl ?_
  intro w15 HS15
  refine rs (vL Av7_1_0 v7.2.1.length cv7_1_0) (r_assign rfl) ?_
  refine rs (vL Av7_2_0 v7.2.2.1.length cv7_2_0) (r_assign rfl) ?_
  refine run_frame (by simp only [sc0,sc1];rfl) ?_
  refine rs (vI v7.2.2.2) (r_assign rfl) ?_
  try simp only [sc0,sc1]
  refine run_nil ?_
  refine norm_then ?_
  refine wp_seq ?_
  refine wp_seq ?_
  refine region ?_
  refine rs (vI v7.2.2.2) (r_move rfl) ?_
  refine rs (vB (v7.2.2.2 !=0)) (r_bin rfl rfl rfl) ?_
  try simp only [sc0,sc1]
  refine run_nil ?_
  refine norm_then ?_
  refine wp_cond_split (t:=(v7.2.2.2 !=0)) rfl (fun c2=>?_) (fun c2=>?_)
  ·replace H:=of_pos H c2
   refine wp_seq ?_
   refine region ?_
   refine rs (vB v1) (r_move rfl) ?_
   refine rs (vB v1) (r_assign rfl) ?_
   try simp only [sc0,sc1]
   refine run_nil ?_
   refine norm_then ?_
   refine wp_ret ?_
   refine ret_then ?_
   obtain rfl:=Option.some.inj H
   refine bodyPost_ret (results_1 rfl (one_tmp rfl)) rfl ?_
   exact ⟨rfl,HS15.toE⟩
  ·replace H:=of_neg H (nt c2)
   refine wp_skip ?_
   refine norm_then ?_
   refine wp_seq ?_
   refine wp_seq ?_
   refine region ?_
   refine rs (Value.agg #[vL Av7_0_0 v7.1.vDefs.length cv7_0_0]) (r_loadBoxAgg (n:=1) (vs:=[vL Av7_0_0 v7.1.vDefs.length cv7_0_0]) rfl Tryd.isAgg24 (HS15.look 0 rfl) Tryd.sizeOf24 rfl rfl) ?_
   obtain ⟨v8,H8,H⟩:=of_bind H
   refine run_eq (v:=vI v8) rfl rfl (does_call_eq Tryd.call18 rfl rfl (ctf_Check.calls k v7.1 Av7_0_0 cv7_0_0 HS15.sees hrv7_0_0 hcv7_0_0 H8)) ?_
   intro w16 hE13
   have HS16:=HS15.step hE13
   refine rs (vB (v8 !=0)) (r_bin rfl rfl rfl) ?_
   refine rs (vB (v8 !=0)) (r_move rfl) ?_
   refine run_frame (by simp only [sc0,sc1];rfl) ?_
   refine rgs (v8 !=0) true (Value.agg #[vL A0_0 a0.vDefs.length c0_0]) rfl rfl rfl rfl (fun hg=>(r_loadBoxAgg (n:=1) (vs:=[vL A0_0 a0.vDefs.length c0_0]) rfl Tryd.isAgg24 (HS16.look 4 rfl) Tryd.sizeOf24 rfl rfl)) ?_
   refine rgs (v8 !=0) true (Value.agg #[vL Av7_0_0 v7.1.vDefs.length cv7_0_0]) rfl rfl rfl rfl (fun hg=>(r_loadBoxAgg (n:=1) (vs:=[vL Av7_0_0 v7.1.vDefs.length cv7_0_0]) rfl Tryd.isAgg24 (HS16.look 0 rfl) Tryd.sizeOf24 rfl rfl)) ?_
   refine rgs (v8 !=0) true (vL Av7_1_0 v7.2.1.length cv7_1_0) rfl rfl rfl rfl (fun hg=>(r_move rfl)) ?_
   obtain ⟨v9,H9,H⟩:=of_bind H
   refine run_g (b:=(v8 !=0)) (c:=true) (v:=vB v9) rfl rfl rfl rfl (fun hg=>(does_call_eq Tryd.call36 rfl (map3 (gvt (Value.agg #[vL A0_0 a0.vDefs.length c0_0]) hg rfl) (gvt (Value.agg #[vL Av7_0_0 v7.1.vDefs.length cv7_0_0]) hg rfl) (gvt (vL Av7_1_0 v7.2.1.length cv7_1_0) hg rfl)) (taplinelaw08_equals.calls k a0 v7.1 v7.2.1 A0_0 c0_0 Av7_0_0 cv7_0_0 Av7_1_0 cv7_1_0 HS16.sees (ht.s HS16) (hr0_0.ext HS16.sub) hc0_0 hrv7_0_0 hcv7_0_0 hrv7_1_0 hcv7_1_0 (of_pos H9 hg)))) ?_
   intro w17 hE14
   have HS17:=HS16.step hE14
   refine run_frame (by simp only [sc0,sc1];rfl) ?_
   refine rgs (v8 !=0) true (vB (!v9)) rfl rfl rfl rfl (fun hg=>(r_not (gvt (vB v9) hg rfl))) ?_
   refine rs (vB ((v8 !=0)||(!v9))) (r_pick_or rfl rfl (fun hp=>(gvt (vB (!v9)) (and_i rfl hp) rfl))) ?_
   refine rs (vB ((v8 !=0)||(!v9))) (r_move rfl) ?_
   refine rgs ((v8 !=0)||(!v9)) true (Value.agg #[vL A1_0 a1.vDefs.length c1_0]) rfl rfl rfl rfl (fun hg=>(r_loadBoxAgg (n:=1) (vs:=[vL A1_0 a1.vDefs.length c1_0]) rfl Tryd.isAgg24 (HS17.look 3 rfl) Tryd.sizeOf24 rfl rfl)) ?_
   refine run_frame (by simp only [sc0,sc1];rfl) ?_
   refine rgs ((v8 !=0)||(!v9)) true (Value.agg #[vL Av7_0_0 v7.1.vDefs.length cv7_0_0]) rfl rfl rfl rfl (fun hg=>(r_loadBoxAgg (n:=1) (vs:=[vL Av7_0_0 v7.1.vDefs.length cv7_0_0]) rfl Tryd.isAgg24 (HS17.look 0 rfl) Tryd.sizeOf24 rfl rfl)) ?_
   refine rgs ((v8 !=0)||(!v9)) true (vL Av7_2_0 v7.2.2.1.length cv7_2_0) rfl rfl rfl rfl (fun hg=>(r_move rfl)) ?_
   obtain ⟨v10,H10,H⟩:=of_bind H
   refine run_g (b:=((v8 !=0)||(!v9))) (c:=true) (v:=vB v10) rfl rfl rfl rfl (fun hg=>(does_call_eq Tryd.call36 rfl (map3 (gvt (Value.agg #[vL A1_0 a1.vDefs.length c1_0]) hg rfl) (gvt (Value.agg #[vL Av7_0_0 v7.1.vDefs.length cv7_0_0]) hg rfl) (gvt (vL Av7_2_0 v7.2.2.1.length cv7_2_0) hg rfl)) (taplinelaw08_equals.calls k a1 v7.1 v7.2.2.1 A1_0 c1_0 Av7_0_0 cv7_0_0 Av7_2_0 cv7_2_0 HS17.sees (ht.s HS17) (hr1_0.ext HS17.sub) hc1_0 hrv7_0_0 hcv7_0_0 hrv7_2_0 hcv7_2_0 (of_pos H10 hg)))) ?_
   intro w18 hE15
   have HS18:=HS17.step hE15
   refine rgs ((v8 !=0)||(!v9)) true (vB (!v10)) rfl rfl rfl rfl (fun hg=>(r_not (gvt (vB v10) hg rfl))) ?_
   refine run_frame (by simp only [sc0,sc1];rfl) ?_
   refine rs (vB (((v8 !=0)||(!v9))||(!v10))) (r_pick_or rfl rfl (fun hp=>(gvt (vB (!v10)) (and_i rfl hp) rfl))) ?_
   try simp only [sc0,sc1]
   refine run_nil ?_
   refine norm_then ?_
   refine wp_cond_split (t:=(((v8 !=0)||(!v9))||(!v10))) rfl (fun c3=>?_) (fun c3=>?_)
   ·replace H:=of_pos H c3
    refine wp_seq ?_
    refine region ?_
    refine rs (vB false) (r_assign rfl) ?_
    try simp only [sc0,sc1]
    refine run_nil ?_
    refine norm_then ?_
    refine wp_ret ?_
    refine ret_then ?_
    obtain rfl:=Option.some.inj H
    refine bodyPost_ret (results_1 rfl (one_tmp rfl)) rfl ?_
    exact ⟨rfl,HS18.toE⟩
   ·replace H:=of_neg H (nt c3)
    refine wp_skip ?_
    refine norm_then ?_
    refine wp_seq ?_
    refine wp_seq ?_
    refine region ?_
    refine rs (vI 0) (r_assign rfl) ?_
    try simp only [sc0,sc1]
    refine run_nil ?_
    refine norm_then ?_
    obtain ⟨xx1,H,G1⟩:=of_bind H
    refine loop_patch [4,17,18,19,20,89,90,91,92,93,94,95,96,97,98,99,100,101,102,103,104,105,106,107,108,109,110,111,112,113,114,115,116,117,118,119,120,121,122,123,124,125,126,127] (fun m us w'=>∃y1_0:Int,∃uy1_4 uy1_18 uy1_19 uy1_20 uy1_89 uy1_90 uy1_91 uy1_92 uy1_93 uy1_94 uy1_95 uy1_96 uy1_97 uy1_98 uy1_99 uy1_100 uy1_101 uy1_102 uy1_103 uy1_104 uy1_105 uy1_106 uy1_107 uy1_108 uy1_109 uy1_110 uy1_111 uy1_112 uy1_113 uy1_114 uy1_115 uy1_116 uy1_117 uy1_118 uy1_119 uy1_120 uy1_121 uy1_122 uy1_123 uy1_124 uy1_125 uy1_126 uy1_127:Value,us=[uy1_4,vI y1_0,uy1_18,uy1_19,uy1_20,uy1_89,uy1_90,uy1_91,uy1_92,uy1_93,uy1_94,uy1_95,uy1_96,uy1_97,uy1_98,uy1_99,uy1_100,uy1_101,uy1_102,uy1_103,uy1_104,uy1_105,uy1_106,uy1_107,uy1_108,uy1_109,uy1_110,uy1_111,uy1_112,uy1_113,uy1_114,uy1_115,uy1_116,uy1_117,uy1_118,uy1_119,uy1_120,uy1_121,uy1_122,uy1_123,uy1_124,uy1_125,uy1_126,uy1_127]∧taplinelaw08_CtfMerged.l0 k v7 m y1_0=some xx1∧St [] h0 w0 h3 [(some b5, .cells #[vL Av7_0_0 v7.1.vDefs.length cv7_0_0] 24 (0,0)),(some b4, .cells #[vL Av3_0_0 v3.1.vDefs.length cv3_0_0] 24 (0,0)),(some b3, .cells #[vL Av2_0_0 v2.1.vDefs.length cv2_0_0] 24 (0,0)),(some b2, .cells #[vL A1_0 a1.vDefs.length c1_0] 24 (0,0)),(some b1, .cells #[vL A0_0 a0.vDefs.length c0_0] 24 (0,0))] w') (fun us w'=>∃(s1:Unit),xx1= .inr s1∧∃uo3_4 uo3_17 uo3_18 uo3_19 uo3_20 uo3_89 uo3_90 uo3_91 uo3_92 uo3_93 uo3_94 uo3_95 uo3_96 uo3_97 uo3_98 uo3_99 uo3_100 uo3_101 uo3_102 uo3_103 uo3_104 uo3_105 uo3_106 uo3_107 uo3_108 uo3_109 uo3_110 uo3_111 uo3_112 uo3_113 uo3_114 uo3_115 uo3_116 uo3_117 uo3_118 uo3_119 uo3_120 uo3_121 uo3_122 uo3_123 uo3_124 uo3_125 uo3_126 uo3_127:Value,us=[uo3_4,uo3_17,uo3_18,uo3_19,uo3_20,uo3_89,uo3_90,uo3_91,uo3_92,uo3_93,uo3_94,uo3_95,uo3_96,uo3_97,uo3_98,uo3_99,uo3_100,uo3_101,uo3_102,uo3_103,uo3_104,uo3_105,uo3_106,uo3_107,uo3_108,uo3_109,uo3_110,uo3_111,uo3_112,uo3_113,uo3_114,uo3_115,uo3_116,uo3_117,uo3_118,uo3_119,uo3_120,uo3_121,uo3_122,uo3_123,uo3_124,uo3_125,uo3_126,uo3_127]∧St [] h0 w0 h3 [(some b5, .cells #[vL Av7_0_0 v7.1.vDefs.length cv7_0_0] 24 (0,0)),(some b4, .cells #[vL Av3_0_0 v3.1.vDefs.length cv3_0_0] 24 (0,0)),(some b3, .cells #[vL Av2_0_0 v2.1.vDefs.length cv2_0_0] 24 (0,0)),(some b2, .cells #[vL A1_0 a1.vDefs.length c1_0] 24 (0,0)),(some b1, .cells #[vL A0_0 a0.vDefs.length c0_0] 24 (0,0))] w') k [vB false,vI 0,undef,undef,undef,undef,undef,undef,undef,undef,undef,undef,undef,undef,undef,undef,undef,undef,undef,undef,undef,undef,undef,undef,undef,undef,undef,undef,undef,undef,undef,undef,undef,undef,undef,undef,undef,undef,undef,undef,undef,undef,undef,undef] (by simp only [patch,sc0,sc1]) ⟨0,_,_,_,_,_,_,_,_,_,_,_,_,_,_,_,_,_,_,_,_,_,_,_,_,_,_,_,_,_,_,_,_,_,_,_,_,_,_,_,_,_,_,_,rfl,H,HS18⟩ ?_ ?_
    ·rintro m us w19 ⟨y1_0,uy1_4,uy1_18,uy1_19,uy1_20,uy1_89,uy1_90,uy1_91,uy1_92,uy1_93,uy1_94,uy1_95,uy1_96,uy1_97,uy1_98,uy1_99,uy1_100,uy1_101,uy1_102,uy1_103,uy1_104,uy1_105,uy1_106,uy1_107,uy1_108,uy1_109,uy1_110,uy1_111,uy1_112,uy1_113,uy1_114,uy1_115,uy1_116,uy1_117,uy1_118,uy1_119,uy1_120,uy1_121,uy1_122,uy1_123,uy1_124,uy1_125,uy1_126,uy1_127,rfl,H,HS19⟩
     cases m with
     |zero=>exact absurd H (by simp [taplinelaw08_CtfMerged.l0])
     |succ m=>
      rw [taplinelaw08_CtfMerged.l0] at H
      try simp only [patch,sc0,sc1]
      refine wp_seq ?_
      refine wp_seq ?_
      refine region ?_
      refine rs (vI y1_0) (r_move rfl) ?_
      refine rs (vP b5 0) (r_fieldBox (n:=1) (o':=0) rfl Tryd.runUnderlying24 rfl Tryd.sizeOf22 (by decide) rfl) ?_
      refine rs (vL Av7_0_0 v7.1.vDefs.length cv7_0_0) (r_loadBox rfl Tryd.isAgg22 (HS19.look 0 rfl) rfl) ?_
      refine rs (vI (v7.1.vDefs.length:Int)) (r_len rfl Tryd.runUnderlying22) ?_
      refine run_frame (by simp only [sc0,sc1];rfl) ?_
      refine rs (vB (decide (y1_0<(v7.1.vDefs.length:Int)))) (r_bin rfl rfl rfl) ?_
      try simp only [sc0,sc1]
      refine run_nil ?_
      refine norm_then ?_
      refine wp_cond_split (t:=(decide (y1_0<(v7.1.vDefs.length:Int)))) rfl (fun c4=>?_) (fun c4=>?_)
      ·replace H:=of_pos H c4
       refine wp_skip ?_
       refine norm_then ?_
       refine wp_seq ?_
       refine wp_block ?_
       refine wp_seq ?_
       refine region ?_
       refine rs (vB false) (r_assign rfl) ?_
       try simp only [sc0,sc1]
       refine run_nil ?_
       refine norm_then ?_
       refine wp_seq ?_
       refine wp_seq ?_
       refine region ?_
       refine rs (vI 0) (r_assign rfl) ?_
       try simp only [sc0,sc1]
       refine run_nil ?_
       refine norm_then ?_
       obtain ⟨xx2,H,G2⟩:=of_bind H
       refine loop_patch [18,19,96,97,98,99,100,101,102,103,104,105,106,107,108,109,110] (fun m us w'=>∃y2_0:Bool,∃y2_1:Int,∃uy2_96 uy2_97 uy2_98 uy2_99 uy2_100 uy2_101 uy2_102 uy2_103 uy2_104 uy2_105 uy2_106 uy2_107 uy2_108 uy2_109 uy2_110:Value,us=[vB y2_0,vI y2_1,uy2_96,uy2_97,uy2_98,uy2_99,uy2_100,uy2_101,uy2_102,uy2_103,uy2_104,uy2_105,uy2_106,uy2_107,uy2_108,uy2_109,uy2_110]∧taplinelaw08_CtfMerged.l1 v7 y1_0 m y2_0 y2_1=some xx2∧St [] h0 w0 h3 [(some b5, .cells #[vL Av7_0_0 v7.1.vDefs.length cv7_0_0] 24 (0,0)),(some b4, .cells #[vL Av3_0_0 v3.1.vDefs.length cv3_0_0] 24 (0,0)),(some b3, .cells #[vL Av2_0_0 v2.1.vDefs.length cv2_0_0] 24 (0,0)),(some b2, .cells #[vL A1_0 a1.vDefs.length c1_0] 24 (0,0)),(some b1, .cells #[vL A0_0 a0.vDefs.length c0_0] 24 (0,0))] w') (fun us w'=>∃uo1_19 uo1_96 uo1_97 uo1_98 uo1_99 uo1_100 uo1_101 uo1_102 uo1_103 uo1_104 uo1_105 uo1_106 uo1_107 uo1_108 uo1_109 uo1_110:Value,us=[vB xx2,uo1_19,uo1_96,uo1_97,uo1_98,uo1_99,uo1_100,uo1_101,uo1_102,uo1_103,uo1_104,uo1_105,uo1_106,uo1_107,uo1_108,uo1_109,uo1_110]∧St [] h0 w0 h3 [(some b5, .cells #[vL Av7_0_0 v7.1.vDefs.length cv7_0_0] 24 (0,0)),(some b4, .cells #[vL Av3_0_0 v3.1.vDefs.length cv3_0_0] 24 (0,0)),(some b3, .cells #[vL Av2_0_0 v2.1.vDefs.length cv2_0_0] 24 (0,0)),(some b2, .cells #[vL A1_0 a1.vDefs.length c1_0] 24 (0,0)),(some b1, .cells #[vL A0_0 a0.vDefs.length c0_0] 24 (0,0))] w') k [vB false,vI 0,uy1_96,uy1_97,uy1_98,uy1_99,uy1_100,uy1_101,uy1_102,uy1_103,uy1_104,uy1_105,uy1_106,uy1_107,uy1_108,uy1_109,uy1_110] (by simp only [patch,sc0,sc1]) ⟨false,0,_,_,_,_,_,_,_,_,_,_,_,_,_,_,_,rfl,H,HS19⟩ ?_ ?_
       ·rintro m us w20 ⟨y2_0,y2_1,uy2_96,uy2_97,uy2_98,uy2_99,uy2_100,uy2_101,uy2_102,uy2_103,uy2_104,uy2_105,uy2_106,uy2_107,uy2_108,uy2_109,uy2_110,rfl,H,HS20⟩
        cases m with
        |zero=>exact absurd H (by simp [taplinelaw08_CtfMerged.l1])
        |succ m=>
         rw [taplinelaw08_CtfMerged.l1] at H
         try simp only [patch,sc0,sc1]
         refine wp_seq ?_
         refine wp_seq ?_
         refine region ?_
         refine rs (vI y2_1) (r_move rfl) ?_
         refine rs (vL Av7_1_0 v7.2.1.length cv7_1_0) (r_move rfl) ?_
         refine rs (vI (v7.2.1.length:Int)) (r_len rfl Tryd.runUnderlying62) ?_
         refine rs (vB (decide (y2_1<(v7.2.1.length:Int)))) (r_bin rfl rfl rfl) ?_
         try simp only [sc0,sc1]
         refine run_nil ?_
         refine norm_then ?_
         refine wp_cond_split (t:=(decide (y2_1<(v7.2.1.length:Int)))) rfl (fun c5=>?_) (fun c5=>?_)
         ·replace H:=of_pos H c5
          refine wp_skip ?_
          refine norm_then ?_
          refine wp_seq ?_
          refine wp_block ?_
          refine region ?_
          refine rs (vB y2_0) (r_move rfl) ?_
          refine rs (vB y2_0) (r_move rfl) ?_
          refine rgs y2_0 true (vL Av7_1_0 v7.2.1.length cv7_1_0) rfl rfl rfl rfl (fun hg=>(r_move rfl)) ?_
          refine rgs y2_0 true (vI y2_1) rfl rfl rfl rfl (fun hg=>(r_move rfl)) ?_
          refine run_frame (by simp only [sc0,sc1];rfl) ?_
          obtain ⟨hi1,H⟩:=of_ite H
          obtain ⟨ad1,hq1⟩:=gx1 (fun hC:(true&&(y2_0==false))=true=>ld_int hrv7_1_0 (hi1 hC).1 (hi1 hC).2)
          refine rgs y2_0 true (Value.pointer (some (Addr.add ad1 (y2_1.toNat*1)))) rfl rfl rfl rfl (fun hg=>(r_indexA (sz:=1) (gvt (vL Av7_1_0 v7.2.1.length cv7_1_0) hg rfl) (hq1 hg).1 (gvt (vI y2_1) hg rfl) (hi1 hg).1 (hi1 hg).2 Tryd.runUnderlying62 Tryd.sizeOf3)) ?_
          refine rgs y2_0 true (vI (rd 0 v7.2.1 y2_1)) rfl rfl rfl rfl (fun hg=>(r_load (gvt (Value.pointer (some (Addr.add ad1 (y2_1.toNat*1)))) hg rfl) Tryd.isAgg3 (((hq1 hg).2).cell0 HS20.sees rfl))) ?_
          refine rgs y2_0 true (vI y1_0) rfl rfl rfl rfl (fun hg=>(r_move rfl)) ?_
          refine rgs y2_0 true (vB ((rd 0 v7.2.1 y2_1)==y1_0)) rfl rfl rfl rfl (fun hg=>(r_bin (gvt (vI (rd 0 v7.2.1 y2_1)) hg rfl) (gvt (vI y1_0) hg rfl) rfl)) ?_
          refine run_frame (by simp only [sc0,sc1];rfl) ?_
          refine rs (vB (y2_0||((rd 0 v7.2.1 y2_1)==y1_0))) (r_pick_or rfl rfl (fun hp=>(gvt (vB ((rd 0 v7.2.1 y2_1)==y1_0)) (and_i rfl hp) rfl))) ?_
          refine rs (vB (y2_0||((rd 0 v7.2.1 y2_1)==y1_0))) (r_assign rfl) ?_
          try simp only [sc0,sc1]
          refine run_nil ?_
          refine norm_block ?_
          refine norm_then ?_
          refine region ?_
          refine rs (vI y2_1) (r_move rfl) ?_
          refine rs (vI (w64 (y2_1+1))) (r_bin rfl rfl rfl) ?_
          refine rs (vI (w64 (y2_1+1))) (r_assign rfl) ?_
          try simp only [sc0,sc1]
          refine run_nil ?_
          refine again m [vB (y2_0||((rd 0 v7.2.1 y2_1)==y1_0)),vI (w64 (y2_1+1)),vI y2_1,vL Av7_1_0 v7.2.1.length cv7_1_0,vI (v7.2.1.length:Int),vB (decide (y2_1<(v7.2.1.length:Int))),vI y2_1,vI (w64 (y2_1+1)),vB y2_0,vB y2_0,gv (true&&(y2_0==false)) (vL Av7_1_0 v7.2.1.length cv7_1_0),gv (true&&(y2_0==false)) (vI y2_1),gv (true&&(y2_0==false)) (Value.pointer (some (Addr.add ad1 (y2_1.toNat*1)))),gv (true&&(y2_0==false)) (vI (rd 0 v7.2.1 y2_1)),gv (true&&(y2_0==false)) (vI y1_0),gv (true&&(y2_0==false)) (vB ((rd 0 v7.2.1 y2_1)==y1_0)),vB (y2_0||((rd 0 v7.2.1 y2_1)==y1_0))] (Nat.lt_succ_self m) (by simp only [patch,sc0,sc1]) ⟨(y2_0||((rd 0 v7.2.1 y2_1)==y1_0)),(w64 (y2_1+1)),_,_,_,_,_,_,_,_,_,_,_,_,_,_,_,rfl,H,HS20⟩
         ·replace H:=of_neg H (nt c5)
          refine wp_exit ?_
          refine exit_then ?_
          obtain rfl:=Option.some.inj H
          refine leave [vB y2_0,vI y2_1,vI y2_1,vL Av7_1_0 v7.2.1.length cv7_1_0,vI (v7.2.1.length:Int),vB (decide (y2_1<(v7.2.1.length:Int))),uy2_100,uy2_101,uy2_102,uy2_103,uy2_104,uy2_105,uy2_106,uy2_107,uy2_108,uy2_109,uy2_110] (by simp only [patch,sc0,sc1]) ⟨_,_,_,_,_,_,_,_,_,_,_,_,_,_,_,_,rfl,HS20⟩
       ·rintro us w21 ⟨uo1_19,uo1_96,uo1_97,uo1_98,uo1_99,uo1_100,uo1_101,uo1_102,uo1_103,uo1_104,uo1_105,uo1_106,uo1_107,uo1_108,uo1_109,uo1_110,rfl,HS21⟩
        replace H:=G2
        clear G2
        try simp only [patch,sc0,sc1]
        refine norm_then ?_
        refine wp_seq ?_
        refine wp_seq ?_
        refine region ?_
        refine rs (vI 0) (r_assign rfl) ?_
        try simp only [sc0,sc1]
        refine run_nil ?_
        refine norm_then ?_
        obtain ⟨xx3,H,G3⟩:=of_bind H
        refine loop_patch [18,20,111,112,113,114,115,116,117,118,119,120,121,122,123,124,125] (fun m us w'=>∃y3_0:Bool,∃y3_1:Int,∃uy3_111 uy3_112 uy3_113 uy3_114 uy3_115 uy3_116 uy3_117 uy3_118 uy3_119 uy3_120 uy3_121 uy3_122 uy3_123 uy3_124 uy3_125:Value,us=[vB y3_0,vI y3_1,uy3_111,uy3_112,uy3_113,uy3_114,uy3_115,uy3_116,uy3_117,uy3_118,uy3_119,uy3_120,uy3_121,uy3_122,uy3_123,uy3_124,uy3_125]∧taplinelaw08_CtfMerged.l2 v7 y1_0 m y3_0 y3_1=some xx3∧St [] h0 w0 h3 [(some b5, .cells #[vL Av7_0_0 v7.1.vDefs.length cv7_0_0] 24 (0,0)),(some b4, .cells #[vL Av3_0_0 v3.1.vDefs.length cv3_0_0] 24 (0,0)),(some b3, .cells #[vL Av2_0_0 v2.1.vDefs.length cv2_0_0] 24 (0,0)),(some b2, .cells #[vL A1_0 a1.vDefs.length c1_0] 24 (0,0)),(some b1, .cells #[vL A0_0 a0.vDefs.length c0_0] 24 (0,0))] w') (fun us w'=>∃uo2_20 uo2_111 uo2_112 uo2_113 uo2_114 uo2_115 uo2_116 uo2_117 uo2_118 uo2_119 uo2_120 uo2_121 uo2_122 uo2_123 uo2_124 uo2_125:Value,us=[vB xx3,uo2_20,uo2_111,uo2_112,uo2_113,uo2_114,uo2_115,uo2_116,uo2_117,uo2_118,uo2_119,uo2_120,uo2_121,uo2_122,uo2_123,uo2_124,uo2_125]∧St [] h0 w0 h3 [(some b5, .cells #[vL Av7_0_0 v7.1.vDefs.length cv7_0_0] 24 (0,0)),(some b4, .cells #[vL Av3_0_0 v3.1.vDefs.length cv3_0_0] 24 (0,0)),(some b3, .cells #[vL Av2_0_0 v2.1.vDefs.length cv2_0_0] 24 (0,0)),(some b2, .cells #[vL A1_0 a1.vDefs.length c1_0] 24 (0,0)),(some b1, .cells #[vL A0_0 a0.vDefs.length c0_0] 24 (0,0))] w') k [vB xx2,vI 0,uy1_111,uy1_112,uy1_113,uy1_114,uy1_115,uy1_116,uy1_117,uy1_118,uy1_119,uy1_120,uy1_121,uy1_122,uy1_123,uy1_124,uy1_125] (by simp only [patch,sc0,sc1]) ⟨xx2,0,_,_,_,_,_,_,_,_,_,_,_,_,_,_,_,rfl,H,HS21⟩ ?_ ?_
        ·rintro m us w22 ⟨y3_0,y3_1,uy3_111,uy3_112,uy3_113,uy3_114,uy3_115,uy3_116,uy3_117,uy3_118,uy3_119,uy3_120,uy3_121,uy3_122,uy3_123,uy3_124,uy3_125,rfl,H,HS22⟩
         cases m with
         |zero=>exact absurd H (by simp [taplinelaw08_CtfMerged.l2])
         |succ m=>
          rw [taplinelaw08_CtfMerged.l2] at H
          try simp only [patch,sc0,sc1]
          refine wp_seq ?_
          refine wp_seq ?_
          refine region ?_
          refine rs (vI y3_1) (r_move rfl) ?_
          refine rs (vL Av7_2_0 v7.2.2.1.length cv7_2_0) (r_move rfl) ?_
          refine rs (vI (v7.2.2.1.length:Int)) (r_len rfl Tryd.runUnderlying62) ?_
          refine rs (vB (decide (y3_1<(v7.2.2.1.length:Int)))) (r_bin rfl rfl rfl) ?_
          try simp only [sc0,sc1]
          refine run_nil ?_
          refine norm_then ?_
          refine wp_cond_split (t:=(decide (y3_1<(v7.2.2.1.length:Int)))) rfl (fun c6=>?_) (fun c6=>?_)
          ·replace H:=of_pos H c6
           refine wp_skip ?_
           refine norm_then ?_
           refine wp_seq ?_
           refine wp_block ?_
           refine region ?_
           refine rs (vB y3_0) (r_move rfl) ?_
           refine rs (vB y3_0) (r_move rfl) ?_
           refine rgs y3_0 true (vL Av7_2_0 v7.2.2.1.length cv7_2_0) rfl rfl rfl rfl (fun hg=>(r_move rfl)) ?_
           refine rgs y3_0 true (vI y3_1) rfl rfl rfl rfl (fun hg=>(r_move rfl)) ?_
           refine run_frame (by simp only [sc0,sc1];rfl) ?_
           obtain ⟨hi2,H⟩:=of_ite H
           obtain ⟨ad2,hq2⟩:=gx1 (fun hC:(true&&(y3_0==false))=true=>ld_int hrv7_2_0 (hi2 hC).1 (hi2 hC).2)
           refine rgs y3_0 true (Value.pointer (some (Addr.add ad2 (y3_1.toNat*1)))) rfl rfl rfl rfl (fun hg=>(r_indexA (sz:=1) (gvt (vL Av7_2_0 v7.2.2.1.length cv7_2_0) hg rfl) (hq2 hg).1 (gvt (vI y3_1) hg rfl) (hi2 hg).1 (hi2 hg).2 Tryd.runUnderlying62 Tryd.sizeOf3)) ?_
           refine rgs y3_0 true (vI (rd 0 v7.2.2.1 y3_1)) rfl rfl rfl rfl (fun hg=>(r_load (gvt (Value.pointer (some (Addr.add ad2 (y3_1.toNat*1)))) hg rfl) Tryd.isAgg3 (((hq2 hg).2).cell0 HS22.sees rfl))) ?_
           refine rgs y3_0 true (vI y1_0) rfl rfl rfl rfl (fun hg=>(r_move rfl)) ?_
           refine rgs y3_0 true (vB ((rd 0 v7.2.2.1 y3_1)==y1_0)) rfl rfl rfl rfl (fun hg=>(r_bin (gvt (vI (rd 0 v7.2.2.1 y3_1)) hg rfl) (gvt (vI y1_0) hg rfl) rfl)) ?_
           refine run_frame (by simp only [sc0,sc1];rfl) ?_
           refine rs (vB (y3_0||((rd 0 v7.2.2.1 y3_1)==y1_0))) (r_pick_or rfl rfl (fun hp=>(gvt (vB ((rd 0 v7.2.2.1 y3_1)==y1_0)) (and_i rfl hp) rfl))) ?_
           refine rs (vB (y3_0||((rd 0 v7.2.2.1 y3_1)==y1_0))) (r_assign rfl) ?_
           try simp only [sc0,sc1]
           refine run_nil ?_
           refine norm_block ?_
           refine norm_then ?_
           refine region ?_
           refine rs (vI y3_1) (r_move rfl) ?_
           refine rs (vI (w64 (y3_1+1))) (r_bin rfl rfl rfl) ?_
           refine rs (vI (w64 (y3_1+1))) (r_assign rfl) ?_
           try simp only [sc0,sc1]
           refine run_nil ?_
           refine again m [vB (y3_0||((rd 0 v7.2.2.1 y3_1)==y1_0)),vI (w64 (y3_1+1)),vI y3_1,vL Av7_2_0 v7.2.2.1.length cv7_2_0,vI (v7.2.2.1.length:Int),vB (decide (y3_1<(v7.2.2.1.length:Int))),vI y3_1,vI (w64 (y3_1+1)),vB y3_0,vB y3_0,gv (true&&(y3_0==false)) (vL Av7_2_0 v7.2.2.1.length cv7_2_0),gv (true&&(y3_0==false)) (vI y3_1),gv (true&&(y3_0==false)) (Value.pointer (some (Addr.add ad2 (y3_1.toNat*1)))),gv (true&&(y3_0==false)) (vI (rd 0 v7.2.2.1 y3_1)),gv (true&&(y3_0==false)) (vI y1_0),gv (true&&(y3_0==false)) (vB ((rd 0 v7.2.2.1 y3_1)==y1_0)),vB (y3_0||((rd 0 v7.2.2.1 y3_1)==y1_0))] (Nat.lt_succ_self m) (by simp only [patch,sc0,sc1]) ⟨(y3_0||((rd 0 v7.2.2.1 y3_1)==y1_0)),(w64 (y3_1+1)),_,_,_,_,_,_,_,_,_,_,_,_,_,_,_,rfl,H,HS22⟩
          ·replace H:=of_neg H (nt c6)
           refine wp_exit ?_
           refine exit_then ?_
           obtain rfl:=Option.some.inj H
           refine leave [vB y3_0,vI y3_1,vI y3_1,vL Av7_2_0 v7.2.2.1.length cv7_2_0,vI (v7.2.2.1.length:Int),vB (decide (y3_1<(v7.2.2.1.length:Int))),uy3_115,uy3_116,uy3_117,uy3_118,uy3_119,uy3_120,uy3_121,uy3_122,uy3_123,uy3_124,uy3_125] (by simp only [patch,sc0,sc1]) ⟨_,_,_,_,_,_,_,_,_,_,_,_,_,_,_,_,rfl,HS22⟩
        ·rintro us w23 ⟨uo2_20,uo2_111,uo2_112,uo2_113,uo2_114,uo2_115,uo2_116,uo2_117,uo2_118,uo2_119,uo2_120,uo2_121,uo2_122,uo2_123,uo2_124,uo2_125,rfl,HS23⟩
         replace H:=G3
         clear G3
         try simp only [patch,sc0,sc1]
         refine norm_then ?_
         refine wp_seq ?_
         refine region ?_
         refine rs (vB xx3) (r_move rfl) ?_
         refine rs (vB (!xx3)) (r_not rfl) ?_
         try simp only [sc0,sc1]
         refine run_nil ?_
         refine norm_then ?_
         refine wp_cond_split (t:=(!xx3)) rfl (fun c7=>?_) (fun c7=>?_)
         ·replace H:=of_pos H c7
          refine wp_seq ?_
          refine region ?_
          refine rs (vB false) (r_assign rfl) ?_
          try simp only [sc0,sc1]
          refine run_nil ?_
          refine norm_then ?_
          refine wp_ret ?_
          refine ret_block ?_
          refine ret_then ?_
          refine ret_loop ?_
          refine ret_then ?_
          obtain rfl:=Option.some.inj H
          obtain rfl:=Option.some.inj G1
          refine bodyPost_ret (results_1 rfl (one_tmp rfl)) rfl ?_
          exact ⟨rfl,HS23.toE⟩
         ·replace H:=of_neg H (nt c7)
          refine wp_skip ?_
          refine norm_block ?_
          refine norm_then ?_
          refine region ?_
          refine rs (vI y1_0) (r_move rfl) ?_
          refine rs (vI (w64 (y1_0+1))) (r_bin rfl rfl rfl) ?_
          refine rs (vI (w64 (y1_0+1))) (r_assign rfl) ?_
          try simp only [sc0,sc1]
          refine run_nil ?_
          refine again m [uy1_4,vI (w64 (y1_0+1)),vB xx3,uo1_19,uo2_20,vI y1_0,vP b5 0,vL Av7_0_0 v7.1.vDefs.length cv7_0_0,vI (v7.1.vDefs.length:Int),vB (decide (y1_0<(v7.1.vDefs.length:Int))),vI y1_0,vI (w64 (y1_0+1)),uo1_96,uo1_97,uo1_98,uo1_99,uo1_100,uo1_101,uo1_102,uo1_103,uo1_104,uo1_105,uo1_106,uo1_107,uo1_108,uo1_109,uo1_110,uo2_111,uo2_112,uo2_113,uo2_114,uo2_115,uo2_116,uo2_117,uo2_118,uo2_119,uo2_120,uo2_121,uo2_122,uo2_123,uo2_124,uo2_125,vB xx3,vB (!xx3)] (Nat.lt_succ_self m) (by simp only [patch,sc0,sc1]) ⟨(w64 (y1_0+1)),_,_,_,_,_,_,_,_,_,_,_,_,_,_,_,_,_,_,_,_,_,_,_,_,_,_,_,_,_,_,_,_,_,_,_,_,_,_,_,_,_,_,_,rfl,H,HS23⟩
      ·replace H:=of_neg H (nt c4)
       refine wp_exit ?_
       refine exit_then ?_
       obtain rfl:=Option.some.inj H
       refine leave [uy1_4,vI y1_0,uy1_18,uy1_19,uy1_20,vI y1_0,vP b5 0,vL Av7_0_0 v7.1.vDefs.length cv7_0_0,vI (v7.1.vDefs.length:Int),vB (decide (y1_0<(v7.1.vDefs.length:Int))),uy1_94,uy1_95,uy1_96,uy1_97,uy1_98,uy1_99,uy1_100,uy1_101,uy1_102,uy1_103,uy1_104,uy1_105,uy1_106,uy1_107,uy1_108,uy1_109,uy1_110,uy1_111,uy1_112,uy1_113,uy1_114,uy1_115,uy1_116,uy1_117,uy1_118,uy1_119,uy1_120,uy1_121,uy1_122,uy1_123,uy1_124,uy1_125,uy1_126,uy1_127] (by simp only [patch,sc0,sc1]) ⟨_,rfl,_,_,_,_,_,_,_,_,_,_,_,_,_,_,_,_,_,_,_,_,_,_,_,_,_,_,_,_,_,_,_,_,_,_,_,_,_,_,_,_,_,_,_,_,rfl,HS19⟩
    ·rintro us w24 ⟨s1,rfl,uo3_4,uo3_17,uo3_18,uo3_19,uo3_20,uo3_89,uo3_90,uo3_91,uo3_92,uo3_93,uo3_94,uo3_95,uo3_96,uo3_97,uo3_98,uo3_99,uo3_100,uo3_101,uo3_102,uo3_103,uo3_104,uo3_105,uo3_106,uo3_107,uo3_108,uo3_109,uo3_110,uo3_111,uo3_112,uo3_113,uo3_114,uo3_115,uo3_116,uo3_117,uo3_118,uo3_119,uo3_120,uo3_121,uo3_122,uo3_123,uo3_124,uo3_125,uo3_126,uo3_127,rfl,HS24⟩
     replace H:=G1
     clear G1
     try simp only [patch,sc0,sc1]
     refine norm_then ?_
     refine wp_seq ?_
     refine region ?_
     refine rs (vB v1) (r_move rfl) ?_
     refine rs (vB v1) (r_assign rfl) ?_
     try simp only [sc0,sc1]
     refine run_nil ?_
     refine norm_then ?_
     refine wp_ret ?_
     obtain rfl:=Option.some.inj H
     refine bodyPost_ret (results_1 rfl (one_tmp rfl)) rfl ?_
     exact ⟨rfl,HS24.toE⟩

end Go.Proofs.YtfjppgobidjndaaDoor
namespace Go.Proofs.YtfjppgobidjndaaDoor
open Go.RowKit Go.M
section
variable {t u:api_Types} {s r:List Int} {m m':List (ByteArray×Int)} {l l':List ctf_source}
theorem again_loop (W:Wf t s) (P:Pool m l) (H:Has m t):∀(e j:Nat) (p:List Int),j+e=t.vDefs.length→p.length=j→∃ix,Ev2 (fun k q=>ctf_pool_add.l0 k t q (j:Int) p l m) (ix,l,m):=by
  have hn:=W.few
  intro e
  induction e with
  |zero=>
    intro j p hj hp
    refine ⟨p,Ev2.pure fun k q=>?_⟩
    rw [ctf_pool_add.l0,if_neg (by simp;omega)]
  |succ e ih=>
    intro j p hj hp
    have hlt:j<t.vDefs.length:=by omega
    obtain ⟨⟨Kt,hKt⟩,_⟩:=text_ev W hlt
    obtain ⟨n,hf⟩:=H j hlt
    obtain ⟨ix,K,hK⟩:=ih (j+1) (p++[n]) (by omega) (by simp;omega)
    refine ⟨ix,max Kt K+1,fun k q hk hq=>?_⟩
    obtain ⟨q,rfl⟩:∃x,q=x+1:=⟨q-1,by omega⟩
    show ctf_pool_add.l0 k t (q+1) _ _ _ _=_
    rw [ctf_pool_add.l0,if_pos (by simp;omega),show ctf_text.f k t (j:Int)=_ from hKt k (by omega)]
    simp only [Option.bind_some]
    rw [hf]
    simp only [Option.isSome_some,Bool.not_true,Bool.false_eq_true,if_false,Option.bind_some,Option.getD_some]
    rw [if_pos (by omega),wrap_nat hlt (by omega)]
    exact hK k q (by omega) (by omega)
theorem add_again (W:Wf t s) (P:Pool m l) (H:Has m t):∃ix,Ev (fun k=>ctf_pool_add.f k m l t) (ix,m,l):=by
  obtain ⟨ix,h⟩:=again_loop W P H t.vDefs.length 0 [] (by omega) rfl
  obtain ⟨K,hK⟩:=h.diag
  refine ⟨ix,K,fun k hk=>?_⟩
  show ctf_pool_add.f k m l t=_
  unfold ctf_pool_add.f
  rw [show ctf_pool_add.l0 k t k 0 [] l m=_ from hK k hk]
  rfl
theorem Both.self {m1 m2:List (ByteArray×Int)} {l1 l2:List ctf_source} {x1 x2:List Int} (W:Wf t s) (B:Both t t m1 l1 x1 m2 l2 x2) (h2:Ev (fun k=>ctf_pool_add.f k m1 l1 t) (x2,m2,l2)):m2=m1∧l2=l1∧x2=x1:=by
  obtain ⟨ix,h⟩:=add_again W B.a.pool B.a.has
  have:=h2.uniq h
  injection this with e1 e2
  injection e2 with e2 e3
  refine ⟨e2,e3,list_ext0 (by rw [B.len1,B.len2]) (fun j hj=>?_)⟩
  rw [B.len2] at hj
  obtain ⟨q,a,b,c⟩:=B.x1at hj
  obtain ⟨q',a',b',c'⟩:=B.x2at hj
  rw [a,a',B.b.pool.inj b' b (c'.trans c.symm)]
theorem eqs_loop {ix:List Int} (hl:ix.length≤9223372036854775807) (h:∀i,i<ix.length→Ev (fun k=>ctf_Equal.f k t (i:Int) u (ix.getD i 0)) true):∀(e j:Nat),j+e=ix.length→Ev2 (fun k m=>taplinelaw08_equals.l0 k t u ix m (j:Int)) (.inr ()):=by
  intro e
  induction e with
  |zero=>
    intro j hj
    refine Ev2.pure fun k m=>?_
    rw [taplinelaw08_equals.l0,if_neg (by simp;omega)]
  |succ e ih=>
    intro j hj
    have hlt:j<ix.length:=by omega
    refine Ev2.step (h j hlt) (r:=fun k m (v5:Bool)=>if (!v5)=true then some (.inl false) else taplinelaw08_equals.l0 k t u ix m ((j+1:Nat):Int)) ?_ (fun k m=>?_)
    · exact ih (j+1) (by omega)
    · rw [taplinelaw08_equals.l0,if_pos (by simp;omega),if_pos (by omega),wrap_nat hlt hl,rd_nat]
theorem eqs_ev {ix:List Int} (hn:t.vDefs.length≤200) (hl:ix.length=t.vDefs.length) (h:∀i,i<t.vDefs.length→Ev (fun k=>ctf_Equal.f k t (i:Int) u (ix.getD i 0)) true):Ev (fun k=>taplinelaw08_equals.f k t u ix) true:=by
  obtain ⟨K,hK⟩:=(eqs_loop (by omega) (fun i hi=>h i (by omega)) ix.length 0 (by omega)).diag
  refine ⟨K,fun k hk=>?_⟩
  show taplinelaw08_equals.f k t u ix=_
  unfold taplinelaw08_equals.f
  rw [if_neg (by simp [hl]),show taplinelaw08_equals.l0 k t u ix k 0=_ from hK k hk]
  rfl
end
section
variable {c:api_Types} {o p:List Int} {z:Int}
theorem met_1 (y:Int) (hl:o.length≤9223372036854775807):∀(e j m:Nat) (b:Bool),j+e=o.length→e<m→taplinelaw08_CtfMerged.l1 (c,o,p,z) y m b (j:Int)=some (b||(o.drop j).any (· ==y)):=by
  intro e
  induction e with
  |zero=>
    intro j m b hj hm
    obtain ⟨m,rfl⟩:∃q,m=q+1:=⟨m-1,by omega⟩
    rw [taplinelaw08_CtfMerged.l1,if_neg (by simp;omega),List.drop_eq_nil_of_le (by omega)]
    simp
  |succ e ih=>
    intro j m b hj hm
    obtain ⟨m,rfl⟩:∃q,m=q+1:=⟨m-1,by omega⟩
    have hlt:j<o.length:=by omega
    rw [taplinelaw08_CtfMerged.l1,if_pos (by simp;omega),if_pos (fun _=>by simp only [];omega),wrap_nat hlt hl]
    simp only []
    rw [rd_nat,ih (j+1) m _ (by omega) (by omega),drop_getD 0 hlt,List.any_cons,Bool.or_assoc]
theorem met_2 (y:Int) (hl:p.length≤9223372036854775807):∀(e j m:Nat) (b:Bool),j+e=p.length→e<m→taplinelaw08_CtfMerged.l2 (c,o,p,z) y m b (j:Int)=some (b||(p.drop j).any (· ==y)):=by
  intro e
  induction e with
  |zero=>
    intro j m b hj hm
    obtain ⟨m,rfl⟩:∃q,m=q+1:=⟨m-1,by omega⟩
    rw [taplinelaw08_CtfMerged.l2,if_neg (by simp;omega),List.drop_eq_nil_of_le (by omega)]
    simp
  |succ e ih=>
    intro j m b hj hm
    obtain ⟨m,rfl⟩:∃q,m=q+1:=⟨m-1,by omega⟩
    have hlt:j<p.length:=by omega
    rw [taplinelaw08_CtfMerged.l2,if_pos (by simp;omega),if_pos (fun _=>by simp only [];omega),wrap_nat hlt hl]
    simp only []
    rw [rd_nat,ih (j+1) m _ (by omega) (by omega),drop_getD 0 hlt,List.any_cons,Bool.or_assoc]
theorem met_0 (hn:c.vDefs.length≤200) (ho:o.length≤200) (hp:p.length≤200) (h:∀q,q<c.vDefs.length→(o.any (· ==(q:Int))||p.any (· ==(q:Int)))=true):∀(e j m:Nat) (k:Nat),200<k→j+e=c.vDefs.length→e<m→taplinelaw08_CtfMerged.l0 k (c,o,p,z) m (j:Int)=some (.inr ()):=by
  intro e
  induction e with
  |zero=>
    intro j m k hk hj hm
    obtain ⟨m,rfl⟩:∃q,m=q+1:=⟨m-1,by omega⟩
    rw [taplinelaw08_CtfMerged.l0,if_neg (by simp;omega)]
  |succ e ih=>
    intro j m k hk hj hm
    obtain ⟨m,rfl⟩:∃q,m=q+1:=⟨m-1,by omega⟩
    have hlt:j<c.vDefs.length:=by omega
    rw [taplinelaw08_CtfMerged.l0,if_pos (by simp;omega),show taplinelaw08_CtfMerged.l1 (c,o,p,z) (j:Int) k false 0=_ from met_1 (j:Int) (by omega) o.length 0 k false (by omega) (by omega)]
    simp only [Option.bind_some]
    rw [show taplinelaw08_CtfMerged.l2 (c,o,p,z) (j:Int) k _ 0=_ from met_2 (j:Int) (by omega) p.length 0 k _ (by omega) (by omega)]
    simp only [Option.bind_some,List.drop_zero,Bool.false_or]
    rw [h j hlt,if_neg (by simp),wrap_nat hlt (by omega)]
    exact ih (j+1) m k hk (by omega) (by omega)
end
theorem any_of {l:List Int} {i:Nat} {q:Int} (hi:i<l.length) (e:l.getD i 0=q):l.any (· ==q)=true:=List.any_eq_true.2 ⟨_,getD_mem (z:=0) hi,by simpa using e⟩
theorem first_half {t:api_Types} (hF:∀d∈t.vDefs,FitD d):∃v2 v3,Ev (fun k=>ctf_Unique.f k t) v2∧Ev (fun k=>ctf_Merge.f k t t) v3∧(v2.2.2=80∧v3.2.2.2=80∨(v2.2.2=0∧v3.2.2.2=0∧v3.1=v2.1∧v3.2.1=v2.2.1∧v3.2.2.1=v2.2.1∧v2.1.vDefs.length≤200∧v2.2.1.length≤200∧∀d∈v2.1.vDefs,FitD d)):=by
  rcases valid_iff hF with ⟨s,W,hv⟩|⟨hno,hv⟩
  · obtain ⟨m1,l1,x1,m2,l2,x2,B,hl,h1,h2⟩:=pools_ev W W
    obtain ⟨e1,e2,e3⟩:=B.self W h2
    have hM:=Merge_of W W hv hv B hl h1 h2
    have hfew:l2.length≤200:=by rw [e2];have:=B.a.few;have:=B.a.len;have:=W.few;simp at*;omega
    rw [tell_t (Comp.refl W),if_pos rfl,if_pos hfew] at hM
    have V:=(uniq_built W B.a).2.wf
    refine ⟨_,_,Unique_of W hv B.a h1,hM, .inr ⟨rfl,rfl,by simp only [];rw [e1,e2],rfl,e3,?_,?_,V.fit⟩⟩
    · exact V.few
    · show x1.length≤200
      rw [B.len1];exact W.few
  · exact ⟨_,_,Unique_bad hv,Merge_bad (.inl hv), .inl ⟨rfl,rfl⟩⟩
theorem merged_ev {t u:api_Types} (hF:∀d∈t.vDefs,FitD d) (hG:∀d∈u.vDefs,FitD d):Ev (fun k=>taplinelaw08_CtfMerged.f k t u) true:=by
  obtain ⟨Ks,hs⟩:=sane_ev
  obtain ⟨v2,v3,⟨K1,h1⟩,⟨K2,h2⟩,hcase⟩:=first_half hF
  have hhalf:∃b4 b5 b6,Ev (fun k=>if ((true&&((v2.2.2 !=v3.2.2.2)==false))&&((v2.2.2==0)==true))=true then taplineref08_Same.f k v2.1 v3.1 else some false) b4∧
      Ev (fun k=>if (((true&&((v2.2.2 !=v3.2.2.2)==false))&&((v2.2.2==0)==true))&&((!b4)==false))=true then taplineref08_SameInts.f k v2.2.1 v3.2.1 else some false) b5∧
      Ev (fun k=>if (((true&&((v2.2.2 !=v3.2.2.2)==false))&&((v2.2.2==0)==true))&&(((!b4)||(!b5))==false))=true then taplineref08_SameInts.f k v2.2.1 v3.2.2.1 else some false) b6∧
      ((v2.2.2 !=v3.2.2.2)||((v2.2.2==0)&&(((!b4)||(!b5))||(!b6))))=false:=by
    rcases hcase with ⟨a,b⟩|⟨a,b,c,d,e,f,g,hf⟩
    · refine ⟨false,false,false,?_,?_,?_,?_⟩<;>rw [a,b]<;>first|exact Ev.pure fun _=>rfl|rfl
    · refine ⟨true,true,true,?_,?_,?_,?_⟩<;>rw [a,b]
      · simp only [bne_self_eq_false,beq_self_eq_true,Bool.and_self,if_true]
        rw [c];exact same_refl (by omega) hf
      · simp only [bne_self_eq_false,beq_self_eq_true,Bool.and_self,if_true,Bool.not_true]
        rw [d];exact sameI_refl (by omega)
      · simp only [bne_self_eq_false,beq_self_eq_true,Bool.and_self,if_true,Bool.not_true,Bool.or_self]
        rw [e];exact sameI_refl (by omega)
      · rfl
  obtain ⟨b4,b5,b6,⟨K4,h4⟩,⟨K5,h5⟩,⟨K6,h6⟩,hb⟩:=hhalf
  have start:∀k,Ks+K1+K2+K4+K5+K6≤k→taplinelaw08_CtfMerged.f k t u=((ctf_Merge.f k t u).bind fun v7=>(if (v7.2.2.2 !=0)=true then (some true) else ((ctf_Check.f k v7.1).bind fun v8=>((if (true&&((v8 !=0)==false))=true then taplinelaw08_equals.f k t v7.1 v7.2.1 else some false).bind fun v9=>((if (true&&(((v8 !=0)||(!v9))==false))=true then taplinelaw08_equals.f k u v7.1 v7.2.2.1 else some false).bind fun v10=>(if (((v8 !=0)||(!v9))||(!v10))=true then (some false) else ((taplinelaw08_CtfMerged.l0 k v7 k 0).bind fun xx1=>(match xx1 with| .inl r=>some r| .inr s1=>some true)))))))):=by
    intro k hk
    unfold taplinelaw08_CtfMerged.f
    rw [show taplinelaw08_sane.f k=some true from hs k (by omega),show ctf_Unique.f k t=_ from h1 k (by omega),show ctf_Merge.f k t t=_ from h2 k (by omega)]
    simp only [Option.bind_some]
    have h4:=h4 k (by omega)
    have h5:=h5 k (by omega)
    have h6:=h6 k (by omega)
    simp only at h4 h5 h6
    rw [h4]
    simp only [Option.bind_some]
    rw [h5]
    simp only [Option.bind_some]
    rw [h6]
    simp only [Option.bind_some]
    rw [hb,if_neg (by simp)]
    all_goals rfl
  rcases Merge_any hF hG with ⟨s,r,W,V,hv,hv2⟩|⟨_,⟨K7,h7⟩⟩
  · obtain ⟨m1,l1,x1,m2,l2,x2,B,⟨K7,h7⟩⟩:=Merge_ev W V hv hv2
    by_cases hC:Comp t u∧l2.length≤200
    · obtain ⟨hC,hl⟩:=hC
      rw [tell_t hC,if_pos rfl,if_pos hl] at h7
      have C:=(B.built W V hC hl).wf
      have hvc:=valid_wf C.fit C
      obtain ⟨K8,h8⟩:=Check_ev hvc
      obtain ⟨K9,h9⟩:=eqs_ev (t:=t) (u:=outP m2 l2) (ix:=x1) W.few B.len1 (fun i hi=>by
        have:=Equal_ev hF C.fit (i:Int) (x1.getD i 0)
        rwa [tell_t (B.eq1 W V hC hl hi)] at this)
      obtain ⟨K10,h10⟩:=eqs_ev (t:=u) (u:=outP m2 l2) (ix:=x2) V.few B.len2 (fun i hi=>by
        have:=Equal_ev hG C.fit (i:Int) (x2.getD i 0)
        rwa [tell_t (B.eq2 W V hC hl hi)] at this)
      have h11:=fun (k:Nat) (hk:200<k)=>met_0 (c:=outP m2 l2) (o:=x1) (p:=x2) (z:=0) C.few (by rw [B.len1];exact W.few) (by rw [B.len2];exact V.few) (fun q hq=>by
        rw [outP_len] at hq
        rcases B.met hq with ⟨i,a,b⟩|⟨i,a,b⟩
        · rw [any_of (by rw [B.len1];exact a) b];rfl
        · rw [any_of (l:=x2) (by rw [B.len2];exact a) b,Bool.or_true]) (outP m2 l2).vDefs.length 0 k k hk (by omega) (by have:=C.few;omega)
      refine ⟨Ks+K1+K2+K4+K5+K6+K7+K8+K9+K10+201,fun k hk=>?_⟩
      show taplinelaw08_CtfMerged.f k t u=_
      rw [start k (by omega),show ctf_Merge.f k t u=_ from h7 k (by omega)]
      simp only [Option.bind_some]
      rw [if_neg (by simp),show ctf_Check.f k _=_ from h8 k (by omega)]
      simp only [Option.bind_some,if_true]
      rw [if_pos (by decide),show taplinelaw08_equals.f k t _ _=_ from h9 k (by omega)]
      simp only [Option.bind_some]
      rw [if_pos (by decide),show taplinelaw08_equals.f k u _ _=_ from h10 k (by omega)]
      simp only [Option.bind_some]
      rw [if_neg (by decide),show taplinelaw08_CtfMerged.l0 k _ k 0=_ from h11 k (by omega)]
      rfl
    · have he:∃e:Int,e≠0∧(if tell (Comp t u)=true then (if l2.length≤200 then (outP m2 l2,x1,x2,(0:Int)) else (⟨[]⟩,[],[],2)) else (⟨[]⟩,[],[],82))=(⟨[]⟩,[],[],e):=by
        by_cases h1:Comp t u
        · rw [tell_t h1,if_pos rfl,if_neg (fun h=>hC ⟨h1,h⟩)];exact ⟨2,by decide,rfl⟩
        · rw [tell_f h1,if_neg (by decide)];exact ⟨82,by decide,rfl⟩
      obtain ⟨e,he0,he⟩:=he
      rw [he] at h7
      refine ⟨Ks+K1+K2+K4+K5+K6+K7,fun k hk=>?_⟩
      show taplinelaw08_CtfMerged.f k t u=_
      rw [start k (by omega),show ctf_Merge.f k t u=_ from h7 k (by omega)]
      simp only [Option.bind_some]
      rw [if_pos (by simpa using he0)]
  · refine ⟨Ks+K1+K2+K4+K5+K6+K7,fun k hk=>?_⟩
    show taplinelaw08_CtfMerged.f k t u=_
    rw [start k (by omega),show ctf_Merge.f k t u=_ from h7 k (by omega)]
    rfl
end Go.Proofs.YtfjppgobidjndaaDoor
