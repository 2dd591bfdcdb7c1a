/- Parts of a proof, merged by program: Q16 Q17 Q19 Q20 Q21 F31 F5 Q22 F86 F41 F21 F12 Q26. The walks (each function once) and the plain laws; no condition of their own. -/
import Derived.Test.YtfjppgobidjndaaDoorTrm4
set_option linter.unusedVariables false
set_option linter.unusedSimpArgs false
namespace Go.Proofs.YtfjppgobidjndaaDoor
open Go.RowKit Go.M
noncomputable def tell (p:Prop):Bool:=by classical exact decide p
theorem tell_t {p:Prop} (h:p):tell p=true:=by unfold tell;simp [h]
theorem tell_f {p:Prop} (h:¬p):tell p=false:=by unfold tell;simp [h]
theorem tell_iff {p:Prop}:tell p=true↔p:=by unfold tell;simp
theorem tell_not {p:Prop}:tell p=false↔¬p:=by unfold tell;simp
theorem tell_of {p:Prop} {b:Bool} (h:b=true↔p):b=tell p:=by
  by_cases hp:p
  · rw [tell_t hp];exact h.2 hp
  · rw [tell_f hp]
    cases b with
    |false=>rfl
    |true=>exact absurd (h.1 rfl) hp
theorem tell_congr {p q:Prop} (h:p↔q):tell p=tell q:=tell_of (tell_iff.trans h)
def fAt (d:api_Def) (j:Nat):api_Field:=d.vFields.getD j z_api_Field
def AlikeF (t:api_Types) (u:api_Types) (k:Int) (f g:api_Field):Prop:=f.vName=g.vName∧f.vAt=g.vAt∧(k=4→tx t f.vType.toNat=tx u g.vType.toNat)
structure AlikeS (t:api_Types) (d:api_Def) (u:api_Types) (g:api_Def):Prop where
  kind:d.vKind=g.vKind
  name:d.vName=g.vName
  int:d.vInt.vSize=g.vInt.vSize∧d.vInt.vSigned=g.vInt.vSigned
  num:d.vN=g.vN
  ref:d.vKind=2∨d.vKind=3∨d.vKind=6→tx t d.vRef.toNat=tx u g.vRef.toNat
  len:d.vFields.length=g.vFields.length
  fld:∀j,j<d.vFields.length→AlikeF t u d.vKind (fAt d j) (fAt g j)
theorem eqfunc_loop {a b:List api_Field} {p:Nat→api_Field→api_Field→Option Bool} {q:api_Field→api_Field→Prop} (hl:a.length≤9223372036854775807) (hab:a.length=b.length)
    (hp:∀j,j<a.length→Ev (fun k=>p k (a.getD j z_api_Field) (b.getD j z_api_Field)) (tell (q (a.getD j z_api_Field) (b.getD j z_api_Field)))):∀(e j:Nat),j+e=a.length→
    Ev2 (fun k m=>slices_EqualFunc_api_Field_api_Field_api_Field_api_Field.l0 a b (p k) m (j:Int)) (if tell (∀i,j≤i→i<a.length→q (a.getD i z_api_Field) (b.getD i z_api_Field))=true then .inr () else .inl false):=by
  intro e
  induction e with
  |zero=>
    intro j hj
    refine Ev2.pure fun k m=>?_
    rw [slices_EqualFunc_api_Field_api_Field_api_Field_api_Field.l0,if_neg (by simp;omega),if_pos (tell_t (fun i h1 h2=>by omega))]
  |succ e ih=>
    intro j hj
    have hlt:j<a.length:=by omega
    have h2:=ih (j+1) (by omega)
    refine Ev2.step (hp j hlt) (r:=fun k m v1=>if (!v1)=true then (some (.inl false)) else (slices_EqualFunc_api_Field_api_Field_api_Field_api_Field.l0 a b (p k) m ((j+1:Nat):Int))) ?_ (fun k m=>?_)
    · by_cases hq:q (a.getD j z_api_Field) (b.getD j z_api_Field)
      · rw [tell_t hq]
        obtain ⟨K,hK⟩:=h2
        refine ⟨K,fun k m hk hm=>?_⟩
        simp only [Bool.not_true,Bool.false_eq_true,if_false]
        rw [show slices_EqualFunc_api_Field_api_Field_api_Field_api_Field.l0 a b (p k) m ((j+1:Nat):Int)=_ from hK k m hk hm]
        congr 2
        rw [tell_congr (p:=∀i,j+1≤i→i<a.length→q (a.getD i z_api_Field) (b.getD i z_api_Field)) (q:=∀i,j≤i→i<a.length→q (a.getD i z_api_Field) (b.getD i z_api_Field))]
        exact ⟨fun h i h1 h2=>by
          by_cases e:i=j
          · subst e;exact hq
          · exact h i (by omega) h2,fun h i h1 h2=>h i (by omega) h2⟩
      · rw [tell_f hq,if_neg (by rw [tell_f (fun h=>hq (h j (Nat.le_refl _) hlt))];simp)]
        exact ⟨0,fun k m _ _=>rfl⟩
    · rw [slices_EqualFunc_api_Field_api_Field_api_Field_api_Field.l0,if_pos (by simp;omega),if_pos (by omega),if_pos (by omega),rd_nat,rd_nat,wrap_nat hlt hl]
theorem eqfunc_ev {a b:List api_Field} {p:Nat→api_Field→api_Field→Option Bool} {q:api_Field→api_Field→Prop} (hl:a.length≤9223372036854775807)
    (hp:a.length=b.length→∀j,j<a.length→Ev (fun k=>p k (a.getD j z_api_Field) (b.getD j z_api_Field)) (tell (q (a.getD j z_api_Field) (b.getD j z_api_Field)))):
    Ev (fun k=>slices_EqualFunc_api_Field_api_Field_api_Field_api_Field.f k a b (p k)) (tell (a.length=b.length∧∀i,i<a.length→q (a.getD i z_api_Field) (b.getD i z_api_Field))):=by
  by_cases hab:a.length=b.length
  · obtain ⟨K,hK⟩:=(eqfunc_loop hl hab (hp hab) a.length 0 (by omega)).diag
    refine ⟨K,fun k hk=>?_⟩
    show slices_EqualFunc_api_Field_api_Field_api_Field_api_Field.f k a b (p k)=_
    unfold slices_EqualFunc_api_Field_api_Field_api_Field_api_Field.f
    rw [if_neg (by simp;omega),show slices_EqualFunc_api_Field_api_Field_api_Field_api_Field.l0 a b (p k) k 0=_ from hK k hk]
    rw [tell_congr (p:=∀i,0≤i→i<a.length→q (a.getD i z_api_Field) (b.getD i z_api_Field)) (q:=a.length=b.length∧∀i,i<a.length→q (a.getD i z_api_Field) (b.getD i z_api_Field)) ⟨fun h=>⟨hab,fun i hi=>h i (by omega) hi⟩,fun h i _ hi=>h.2 i hi⟩]
    generalize tell (a.length=b.length∧∀i,i<a.length→q (a.getD i z_api_Field) (b.getD i z_api_Field))=x
    cases x<;>rfl
  · refine Ev.pure fun k=>?_
    unfold slices_EqualFunc_api_Field_api_Field_api_Field_api_Field.f
    rw [if_pos (by simp;omega),tell_f (fun h=>hab h.1)]
section
variable {t u:api_Types} {l m:List Int}
theorem alikeF_ev {k:Int} {d:api_Def} {f g:api_Field} (hd:d.vKind=k) (h:k=4→Ev (fun k=>ctf_text.f k t f.vType) (tx t f.vType.toNat)∧Ev (fun k=>ctf_text.f k u g.vType) (tx u g.vType.toNat)):
    Ev (fun k=>ctf_alike_1.f k f g d t u) (tell (AlikeF t u k f g)):=by
  have hs:∀a b:ByteArray,strEq a b=tell (a=b):=fun a b=>tell_of strEq_iff
  have hi:∀a b:Int,(a==b)=tell (a=b):=fun a b=>tell_of beq_iff_eq
  by_cases h4:k=4
  · obtain ⟨⟨K1,h1⟩,⟨K2,h2⟩⟩:=h h4
    refine ⟨max K1 K2,fun n hn=>?_⟩
    show ctf_alike_1.f n f g d t u=_
    unfold ctf_alike_1.f
    rw [show ctf_text.f n t f.vType=_ from h1 n (by omega),show ctf_text.f n u g.vType=_ from h2 n (by omega),hd,h4,hs f.vName,hi f.vAt]
    by_cases c1:f.vName=g.vName
    · by_cases c2:f.vAt=g.vAt
      · simp only [tell_t c1,tell_t c2,Bool.and_self,beq_self_eq_true,bne_self_eq_false,if_true,Option.bind_some,Bool.true_and,Bool.false_or,hs (tx t f.vType.toNat)]
        exact congrArg some (tell_congr ⟨fun h=>⟨c1,c2,fun _=>h⟩,fun h=>h.2.2 rfl⟩)
      · rw [tell_t c1,tell_f c2,tell_f (fun h:AlikeF t u 4 f g=>c2 h.2.1)];rfl
    · rw [tell_f c1,tell_f (fun h:AlikeF t u 4 f g=>c1 h.1)];rfl
  · refine Ev.pure fun n=>?_
    unfold ctf_alike_1.f
    rw [show (d.vKind !=4)=true from by rw [hd];simpa using h4,hs f.vName,hi f.vAt]
    by_cases c1:f.vName=g.vName
    · by_cases c2:f.vAt=g.vAt
      · rw [tell_t c1,tell_t c2,tell_t (show AlikeF t u k f g from ⟨c1,c2,fun h=>absurd h h4⟩)];rfl
      · rw [tell_t c1,tell_f c2,tell_f (fun h:AlikeF t u k f g=>c2 h.2.1)];rfl
    · rw [tell_f c1,tell_f (fun h:AlikeF t u k f g=>c1 h.1)];rfl
theorem alike_ev (W:Wf t l) (V:Wf u m) {i j:Nat} (hi:i<t.vDefs.length) (hj:j<u.vDefs.length):Ev (fun k=>ctf_alike.f k t (dAt t i) u (dAt u j)) (tell (AlikeS t (dAt t i) u (dAt u j))):=by
  have hD:=W.sh _ (dAt_mem hi)
  have hG:=V.sh _ (dAt_mem hj)
  have hlen:=hD.few
  have htx:∀{t:api_Types} {l:List Int} (W:Wf t l) {c:Int},0≤c→c<t.vDefs.length→Ev (fun k=>ctf_text.f k t c) (tx t c.toNat):=fun {t l} W {c} h0 h1=>by
    have:=(text_ev W (i:=c.toNat) (by omega)).1
    rwa [show ((c.toNat:Nat):Int)=c by omega] at this
  by_cases hne:(dAt t i).vKind=(dAt u j).vKind∧(dAt t i).vName=(dAt u j).vName∧((dAt t i).vInt.vSize=(dAt u j).vInt.vSize∧(dAt t i).vInt.vSigned=(dAt u j).vInt.vSigned)∧(dAt t i).vN=(dAt u j).vN
  · obtain ⟨n1,n2,⟨n3,n4⟩,n5⟩:=hne
    obtain ⟨ms,hms,hsh⟩:=shapes_find (dAt t i).vKind
    have hF:=eqfunc_ev (a:=(dAt t i).vFields) (b:=(dAt u j).vFields) (p:=fun k z0 z1=>ctf_alike_1.f k z0 z1 (dAt t i) t u) (q:=AlikeF t u (dAt t i).vKind) (by omega) (fun hab x hx=>alikeF_ev rfl (fun h4=>by
      have r1:=hD.typ h4 _ (getD_mem (z:=z_api_Field) hx)
      have r2:=hG.typ (by omega) _ (getD_mem (z:=z_api_Field) (by omega:x<(dAt u j).vFields.length))
      exact ⟨htx W r1.1 r1.2,htx V r2.1 r2.2⟩))
    obtain ⟨K3,h3⟩:=hF
    have hcond:¬((((((dAt t i).vKind !=(dAt u j).vKind)||(!(strEq (dAt t i).vName (dAt u j).vName)))||(!(((dAt t i).vInt.vSize==(dAt u j).vInt.vSize)&&(((dAt t i).vInt.vSigned==(dAt u j).vInt.vSigned)&&true))))||((dAt t i).vN !=(dAt u j).vN))=true):=by
      rw [n1,n2,n3,n4,n5,strEq_iff.2 rfl];simp
    by_cases hk:(dAt t i).vKind=2∨(dAt t i).vKind=3∨(dAt t i).vKind=6
    · have r1:=hD.ref hk
      have r2:=hG.ref (by rw [←n1];exact hk)
      obtain ⟨K1,h1⟩:=htx W r1.1 r1.2
      obtain ⟨K2,h2⟩:=htx V r2.1 r2.2
      refine ⟨K1+K2+K3,fun k hk'=>?_⟩
      show ctf_alike.f k t (dAt t i) u (dAt u j)=_
      unfold ctf_alike.f
      rw [if_neg hcond,hms]
      simp only [Option.bind_some]
      rw [hsh,shp_ref,decide_eq_true hk]
      simp only [beq_self_eq_true,Bool.and_self,if_true]
      rw [show ctf_text.f k t (dAt t i).vRef=_ from h1 k (by omega),show ctf_text.f k u (dAt u j).vRef=_ from h2 k (by omega)]
      simp only [Option.bind_some,Bool.true_and]
      by_cases c:tx t (dAt t i).vRef.toNat=tx u (dAt u j).vRef.toNat
      · rw [strEq_iff.2 c,if_neg (by simp),show slices_EqualFunc_api_Field_api_Field_api_Field_api_Field.f k _ _ _=_ from h3 k (by omega)]
        exact congrArg some (tell_congr ⟨fun h=>⟨n1,n2,⟨n3,n4⟩,n5,fun _=>c,h.1,h.2⟩,fun h=>⟨h.len,h.fld⟩⟩)
      · rw [if_pos (by
          cases hs:strEq (tx t (dAt t i).vRef.toNat) (tx u (dAt u j).vRef.toNat) with
          |false=>rfl
          |true=>exact absurd (strEq_iff.1 hs) c),tell_f (fun h=>c (h.ref hk))]
    · refine ⟨K3,fun k hk'=>?_⟩
      show ctf_alike.f k t (dAt t i) u (dAt u j)=_
      unfold ctf_alike.f
      rw [if_neg hcond,hms]
      simp only [Option.bind_some]
      rw [hsh,shp_ref,decide_eq_false hk]
      simp only [show (false==true)=false from rfl,Bool.true_and,Bool.false_and,Bool.false_eq_true,if_false,Option.bind_some]
      rw [show slices_EqualFunc_api_Field_api_Field_api_Field_api_Field.f k _ _ _=_ from h3 k (by omega)]
      exact congrArg some (tell_congr ⟨fun h=>⟨n1,n2,⟨n3,n4⟩,n5,fun h'=>absurd h' hk,h.1,h.2⟩,fun h=>⟨h.len,h.fld⟩⟩)
  · refine Ev.pure fun k=>?_
    unfold ctf_alike.f
    rw [if_pos,tell_f (fun h=>hne ⟨h.kind,h.name,h.int,h.num⟩)]
    by_cases a1:(dAt t i).vKind=(dAt u j).vKind
    · by_cases a2:(dAt t i).vName=(dAt u j).vName
      · by_cases a3:(dAt t i).vInt.vSize=(dAt u j).vInt.vSize∧(dAt t i).vInt.vSigned=(dAt u j).vInt.vSigned
        · have a4:(dAt t i).vN≠(dAt u j).vN:=fun h=>hne ⟨a1,a2,a3,h⟩
          rw [bneT a4];simp
        · have:((((dAt t i).vInt.vSize==(dAt u j).vInt.vSize)&&(((dAt t i).vInt.vSigned==(dAt u j).vInt.vSigned)&&true)))=false:=by
            rw [Bool.eq_false_iff]
            intro h
            simp only [Bool.and_true,Bool.and_eq_true,beq_iff_eq] at h
            exact a3 h
          rw [this];simp
      · have:strEq (dAt t i).vName (dAt u j).vName=false:=by
          rw [Bool.eq_false_iff]
          exact fun h=>a2 (strEq_iff.1 h)
        rw [this];simp
    · rw [bneT a1];simp
theorem findV_pos {name:ByteArray} (h:0≤findV t name):∃k:Nat,findV t name=(k:Int)∧k<t.vDefs.length∧namedS (dAt t k)=true∧(dAt t k).vName=name:=by
  unfold findV at h⊢
  split at h
  · next ha=>
    rw [if_pos ha]
    obtain ⟨x,hx,hq⟩:=List.any_eq_true.1 ha
    have hlt:=List.findIdx_lt_length_of_exists ⟨x,hx,hq⟩
    refine ⟨_,rfl,hlt,?_⟩
    have hg:=List.findIdx_getElem (w:=hlt)
    have he:dAt t (t.vDefs.findIdx (nameQ name))=t.vDefs[t.vDefs.findIdx (nameQ name)]:=by
      unfold dAt
      rw [List.getD_eq_getElem?_getD,List.getElem?_eq_getElem hlt]
      rfl
    rw [he]
    unfold nameQ at hg
    simp only [Bool.and_eq_true] at hg
    exact ⟨hg.1,strEq_iff.1 hg.2⟩
  · omega
theorem findV_neg {name:ByteArray} (h:¬0≤findV t name):∀k,k<t.vDefs.length→namedS (dAt t k)=true→(dAt t k).vName≠name:=by
  unfold findV at h
  split at h
  · omega
  · next ha=>
    intro k hk hn he
    refine ha (List.any_eq_true.2 ⟨dAt t k,dAt_mem hk,?_⟩)
    unfold nameQ
    rw [hn,he,strEq_iff.2 rfl];rfl
def CondK (t u:api_Types) (k:Nat):Prop:=namedS (dAt t k)=true→∃j,j<u.vDefs.length∧namedS (dAt u j)=true∧AlikeS t (dAt t k) u (dAt u j)
def EqS (t:api_Types) (i:Nat) (u:api_Types) (j:Nat):Prop:=tx t i=tx u j∧∀k,Rch t i k→CondK t u k
theorem body_ev (W:Wf t l) (V:Wf u m) {k:Nat} (hk:k<t.vDefs.length) (z:Bool):Ev (fun n=>ctf_equal.l0 n t u (k:Int) z) (if tell (CondK t u k)=true then .inr () else .inl false):=by
  by_cases hn:namedS (dAt t k)=true
  · obtain ⟨K1,h1⟩:=find_ev V.few (dAt t k).vName
    by_cases h0:0≤findV u (dAt t k).vName
    · obtain ⟨j,e,hj,hnj,hname⟩:=findV_pos h0
      obtain ⟨K2,h2⟩:=alike_ev W V hk hj
      refine ⟨K1+K2,fun n hn'=>?_⟩
      show ctf_equal.l0 n t u (k:Int) z=_
      rw [ctf_equal.l0,if_pos (by omega),rd_dAt]
      simp only [ctf_named.f,Option.bind_some]
      show (if namedS (dAt t k)=true then _ else _)=_
      rw [if_pos hn,show ctf_find.f n u _=_ from h1 n (by omega),e]
      simp only [Option.bind_some]
      rw [show decide (((j:Nat):Int)<0)=false from decide_eq_false (by omega),rd_dAt]
      simp only [beq_self_eq_true,Bool.and_self,if_true]
      rw [if_pos (fun _=>by omega),show ctf_alike.f n t (dAt t k) u (dAt u j)=_ from h2 n (by omega)]
      simp only [Option.bind_some,Bool.false_or]
      have hc:tell (AlikeS t (dAt t k) u (dAt u j))=tell (CondK t u k):=tell_congr ⟨fun h _=>⟨j,hj,hnj,h⟩,fun h=>by
        obtain ⟨j',hj',hn',ha⟩:=h hn
        have:=name_uniq V hj hj' hnj hn' (by rw [hname,ha.name])
        subst this
        exact ha⟩
      rw [hc]
      cases tell (CondK t u k)<;>rfl
    · refine ⟨K1,fun n hn'=>?_⟩
      have hlt:findV u (dAt t k).vName<0:=by omega
      show ctf_equal.l0 n t u (k:Int) z=_
      rw [ctf_equal.l0,if_pos (by omega),rd_dAt]
      simp only [ctf_named.f,Option.bind_some]
      show (if namedS (dAt t k)=true then _ else _)=_
      rw [if_pos hn,show ctf_find.f n u _=_ from h1 n (by omega)]
      simp only [Option.bind_some]
      rw [decide_eq_true hlt,tell_f (fun h=>by
        obtain ⟨j',hj',hn',ha⟩:=h hn
        exact findV_neg h0 j' hj' hn' ha.name.symm)]
      simp
  · refine Ev.pure fun n=>?_
    rw [ctf_equal.l0,if_pos (by omega),rd_dAt]
    simp only [ctf_named.f,Option.bind_some]
    show (if namedS (dAt t k)=true then _ else _)=_
    rw [if_neg hn,tell_t (show CondK t u k from fun h=>absurd h hn)]
    rfl
theorem allK_ev {f:Nat→Int→Bool→Option (Bool⊕Unit)} {g:Int×Bool→Prop}:∀(mv:List (Int×Bool)),(∀p∈mv,Ev (fun n=>f n p.1 p.2) (if tell (g p)=true then .inr () else .inl false))→Ev (fun n=>allK (f n) mv) (if tell (∀p∈mv,g p)=true then .inr () else .inl false)
  |[],_=>by
    rw [tell_t (by intro p hp;cases hp)]
    exact Ev.pure fun n=>rfl
  |p::r,h=>by
    obtain ⟨K1,h1⟩:=h p List.mem_cons_self
    obtain ⟨K2,h2⟩:=allK_ev r (fun q hq=>h q (List.mem_cons_of_mem _ hq))
    refine ⟨K1+K2,fun n hn=>?_⟩
    show allK (f n) (p::r)=_
    rw [allK,show f n p.1 p.2=_ from h1 n (by omega),show allK (f n) r=_ from h2 n (by omega)]
    simp only [Option.bind_some]
    by_cases c1:g p
    · by_cases c2:∀q∈r,g q
      · rw [tell_t c1,tell_t c2,tell_t (by
          intro q hq
          rcases List.mem_cons.1 hq with rfl|hq
          · exact c1
          · exact c2 q hq)]
        rfl
      · rw [tell_t c1,tell_f c2,tell_f (p:=∀q∈p::r,g q) (fun h=>c2 fun q hq=>h q (List.mem_cons_of_mem _ hq))]
        rfl
    · rw [tell_f c1,tell_f (p:=∀q∈p::r,g q) (fun h=>c1 (h p List.mem_cons_self))]
      by_cases c2:∀q∈r,g q
      · rw [tell_t c2];rfl
      · rw [tell_f c2];rfl
theorem equal_ev (W:Wf t l) (V:Wf u m) {i j:Nat} (hi:i<t.vDefs.length) (hj:j<u.vDefs.length):Ev (fun k=>ctf_equal.f k t (i:Int) u (j:Int)) (tell (EqS t i u j)):=by
  obtain ⟨⟨K1,h1⟩,_⟩:=text_ev W hi
  obtain ⟨⟨K2,h2⟩,_⟩:=text_ev V hj
  by_cases c:tx t i=tx u j
  · obtain ⟨mv,⟨K3,h3⟩,hall,hkeys⟩:=reached_ev W (fr:=[i]) (by intro x hx;rw [List.mem_singleton.1 hx];exact hi) (by simp)
    have hp:∀p∈mv,∃k:Nat,p.1=(k:Int)∧k<t.vDefs.length∧Rch t i k:=fun p hp=>by
      obtain ⟨k,e,x,hx,hr⟩:=(hkeys p.1).1 (List.mem_map.2 ⟨p,hp,rfl⟩)
      rw [List.mem_singleton.1 hx] at hr
      exact ⟨k,e,hr.lt W hi,hr⟩
    obtain ⟨K4,h4⟩:=allK_ev (f:=fun n=>ctf_equal.l0 n t u) (g:=fun p=>CondK t u p.1.toNat) mv (fun p hpm=>by
      obtain ⟨k,e,hk,_⟩:=hp p hpm
      rw [e]
      exact body_ev W V hk p.2)
    refine ⟨K1+K2+K3+K4,fun k hk=>?_⟩
    show ctf_equal.f k t (i:Int) u (j:Int)=_
    unfold ctf_equal.f
    rw [show ctf_text.f k t (i:Int)=_ from h1 k (by omega),show ctf_text.f k u (j:Int)=_ from h2 k (by omega)]
    simp only [Option.bind_some]
    rw [strEq_iff.2 c,if_neg (by simp),show ctf_reached.f k t [((i:Nat):Int)]=_ from h3 k (by omega)]
    simp only [Option.bind_some]
    rw [show allK (ctf_equal.l0 k t u) mv=_ from h4 k (by omega)]
    rw [tell_congr (p:=∀p∈mv,CondK t u p.1.toNat) (q:=EqS t i u j) ⟨fun h=>⟨c,fun q hr=>by
      obtain ⟨p,hpm,e⟩:=List.mem_map.1 ((hkeys ((q:Nat):Int)).2 ⟨q,rfl,i,List.mem_singleton.2 rfl,hr⟩)
      have:=h p hpm
      rw [e] at this
      exact this⟩,fun h p hpm=>by
      obtain ⟨k,e,hk,hr⟩:=hp p hpm
      rw [e]
      exact h.2 k hr⟩]
    cases tell (EqS t i u j)<;>rfl
  · refine ⟨K1+K2,fun k hk=>?_⟩
    show ctf_equal.f k t (i:Int) u (j:Int)=_
    unfold ctf_equal.f
    rw [show ctf_text.f k t (i:Int)=_ from h1 k (by omega),show ctf_text.f k u (j:Int)=_ from h2 k (by omega)]
    simp only [Option.bind_some]
    rw [if_pos (by
      cases hs:strEq (tx t i) (tx u j) with
      |false=>rfl
      |true=>exact absurd (strEq_iff.1 hs) c),tell_f (fun h=>c h.1)]
end
def Typ (t:api_Types) (a:Int) (i:Nat):Prop:=a=(i:Int)∧i<t.vDefs.length∧∃l,Wf t l
theorem given_ev {t:api_Types} (hF:∀d∈t.vDefs,FitD d) (a:Int):(∃i l,a=((i:Nat):Int)∧i<t.vDefs.length∧Wf t l∧Ev (fun k=>ctf_valid.f k t) true∧Ev (fun k=>ctf_given.f k t a) 0)∨(∃e,e≠0∧(∀i,¬Typ t a i)∧Ev (fun k=>ctf_given.f k t a) e):=by
  rcases valid_iff hF with ⟨l,W,hv⟩|⟨hno,hv⟩
  · have h1:=given_good hv a
    by_cases h:0≤a∧a<t.vDefs.length
    · rw [if_pos h] at h1
      exact .inl ⟨a.toNat,l,by omega,by omega,W,hv,h1⟩
    · rw [if_neg h] at h1
      exact .inr ⟨3,by decide,fun i hi=>h ⟨by have:=hi.1;omega,by have:=hi.1;have:=hi.2.1;omega⟩,h1⟩
  · exact .inr ⟨80,by decide,fun i hi=>by obtain ⟨_,_,l,W⟩:=hi;exact hno l W,given_bad hv a⟩
def EqX (t:api_Types) (a:Int) (u:api_Types) (b:Int):Prop:=∃i j,Typ t a i∧Typ u b j∧EqS t i u j
theorem Equal_ev {t u:api_Types} (hF:∀d∈t.vDefs,FitD d) (hG:∀d∈u.vDefs,FitD d) (a b:Int):Ev (fun k=>ctf_Equal.f k t a u b) (tell (EqX t a u b)):=by
  rcases given_ev hF a with ⟨i,l,rfl,hi,W,hv,⟨K1,h1⟩⟩|⟨e,he,hno,⟨K1,h1⟩⟩
  · rcases given_ev hG b with ⟨j,m,rfl,hj,V,hv2,⟨K2,h2⟩⟩|⟨e,he,hno,⟨K2,h2⟩⟩
    · obtain ⟨K3,h3⟩:=equal_ev W V hi hj
      refine ⟨K1+K2+K3,fun k hk=>?_⟩
      show ctf_Equal.f k t (i:Int) u (j:Int)=_
      unfold ctf_Equal.f
      rw [show ctf_given.f k t (i:Int)=_ from h1 k (by omega),show ctf_given.f k u (j:Int)=_ from h2 k (by omega)]
      simp only [Option.bind_some,beq_self_eq_true,Bool.and_self,if_true]
      rw [show ctf_equal.f k t (i:Int) u (j:Int)=_ from h3 k (by omega)]
      simp only [Option.bind_some,Bool.true_and]
      exact congrArg some (tell_congr ⟨fun h=>⟨i,j,⟨rfl,hi,l,W⟩,⟨rfl,hj,m,V⟩,h⟩,fun h=>by
        obtain ⟨i',j',hi',hj',h⟩:=h
        have e1:i=i':=Int.ofNat.inj hi'.1
        have e2:j=j':=Int.ofNat.inj hj'.1
        subst e1 e2
        exact h⟩)
    · refine ⟨K1+K2,fun k hk=>?_⟩
      show ctf_Equal.f k t (i:Int) u b=_
      unfold ctf_Equal.f
      rw [show ctf_given.f k t (i:Int)=_ from h1 k (by omega),show ctf_given.f k u b=_ from h2 k (by omega)]
      simp only [Option.bind_some,beq_self_eq_true,Bool.and_self,if_true]
      rw [show (e==0)=false from by simpa using he,tell_f (fun h=>by
        obtain ⟨i',j',hi',hj',h⟩:=h
        exact hno j' hj')]
      rfl
  · refine ⟨K1,fun k hk=>?_⟩
    show ctf_Equal.f k t a u b=_
    unfold ctf_Equal.f
    rw [show ctf_given.f k t a=_ from h1 k (by omega)]
    simp only [Option.bind_some]
    rw [show (e==0)=false from by simpa using he,tell_f (fun h=>by
      obtain ⟨i',j',hi',hj',h⟩:=h
      exact hno i' hi')]
    rfl
end Go.Proofs.YtfjppgobidjndaaDoor
namespace Go.Proofs.YtfjppgobidjndaaDoor
open Go.RowKit Go.M
section
variable {t u v:api_Types} {l m n:List Int}
theorem AlikeF.refl {k:Int} {f:api_Field}:AlikeF t t k f f:=⟨rfl,rfl,fun _=>rfl⟩
theorem AlikeF.symm {k:Int} {f g:api_Field} (h:AlikeF t u k f g):AlikeF u t k g f:=⟨h.1.symm,h.2.1.symm,fun e=>(h.2.2 e).symm⟩
theorem AlikeF.trans {k:Int} {f g e:api_Field} (h:AlikeF t u k f g) (h2:AlikeF u v k g e):AlikeF t v k f e:=⟨h.1.trans h2.1,h.2.1.trans h2.2.1,fun e=>(h.2.2 e).trans (h2.2.2 e)⟩
theorem AlikeS.refl {d:api_Def}:AlikeS t d t d:=⟨rfl,rfl,⟨rfl,rfl⟩,rfl,fun _=>rfl,rfl,fun _ _=> .refl⟩
theorem AlikeS.symm {d g:api_Def} (h:AlikeS t d u g):AlikeS u g t d:=
  ⟨h.kind.symm,h.name.symm,⟨h.int.1.symm,h.int.2.symm⟩,h.num.symm,fun e=>(h.ref (by rw [h.kind];exact e)).symm,h.len.symm,fun j hj=>by rw [←h.kind];exact (h.fld j (by rw [h.len];exact hj)).symm⟩
theorem AlikeS.trans {d g e:api_Def} (h:AlikeS t d u g) (h2:AlikeS u g v e):AlikeS t d v e:=
  ⟨h.kind.trans h2.kind,h.name.trans h2.name,⟨h.int.1.trans h2.int.1,h.int.2.trans h2.int.2⟩,h.num.trans h2.num,fun e=>(h.ref e).trans (h2.ref (by rw [←h.kind];exact e)),h.len.trans h2.len,
    fun j hj=>(h.fld j hj).trans (by have:=h2.fld j (by rw [←h.len];exact hj);rw [←h.kind] at this;exact this)⟩
def Match (t:api_Types) (d:api_Def) (u:api_Types) (g:api_Def):Prop:=
  (namedS d=true∧namedS g=true∧AlikeS t d u g)∨(d.vKind=2∧g.vKind=2∧tx t d.vRef.toNat=tx u g.vRef.toNat)∨(d.vKind=3∧g.vKind=3∧d.vN=g.vN∧tx t d.vRef.toNat=tx u g.vRef.toNat)
theorem Match.symm {d g:api_Def} (h:Match t d u g):Match u g t d:=by
  rcases h with ⟨a,b,c⟩|⟨a,b,c⟩|⟨a,b,c,d⟩
  · exact .inl ⟨b,a,c.symm⟩
  · exact .inr (.inl ⟨b,a,c.symm⟩)
  · exact .inr (.inr ⟨b,a,c.symm,d.symm⟩)
theorem Match.kind {d g:api_Def} (h:Match t d u g):d.vKind=g.vKind:=by
  rcases h with ⟨a,b,c⟩|⟨a,b,c⟩|⟨a,b,c,d⟩
  · exact c.kind
  · rw [a,b]
  · rw [a,b]
theorem Match.ref {d g:api_Def} (h:Match t d u g) (hk:d.vKind=2∨d.vKind=3∨d.vKind=6):tx t d.vRef.toNat=tx u g.vRef.toNat:=by
  rcases h with ⟨a,b,c⟩|⟨a,b,c⟩|⟨a,b,c,d⟩
  · exact c.ref hk
  · exact c
  · exact d
theorem Match.alike {d g:api_Def} (h:Match t d u g) (hn:namedS d=true):AlikeS t d u g:=by
  obtain ⟨h2,h3⟩:=(named_iff _).1 hn
  rcases h with ⟨a,b,c⟩|⟨a,b,c⟩|⟨a,b,c,d⟩
  · exact c
  · exact absurd a h2
  · exact absurd a h3
theorem Match.named {d g:api_Def} (h:Match t d u g) (hn:namedS d=true):namedS g=true:=by
  obtain ⟨h2,h3⟩:=(named_iff _).1 hn
  exact (named_iff _).2 ⟨by rw [←h.kind];exact h2,by rw [←h.kind];exact h3⟩
theorem Match.kid {d g:api_Def} (h:Match t d u g) {c:Int} (hc:c∈kids d):∃c'∈kids g,tx t c.toNat=tx u c'.toNat:=by
  by_cases hk:d.vKind=2∨d.vKind=3∨d.vKind=6
  · rw [kids_ref hk] at hc
    rw [List.mem_singleton.1 hc]
    exact ⟨g.vRef,by rw [kids_ref (by rw [←h.kind];exact hk)];exact List.mem_singleton.2 rfl,h.ref hk⟩
  · by_cases h4:d.vKind=4
    · have hA:=h.alike ((named_iff _).2 ⟨by omega,by omega⟩)
      rw [kids_struct h4] at hc
      obtain ⟨f,hf,rfl⟩:=List.mem_map.1 hc
      obtain ⟨j,hj,e⟩:=List.mem_iff_getElem.1 hf
      have hfj:fAt d j=f:=by unfold fAt;rw [List.getD_eq_getElem?_getD,List.getElem?_eq_getElem hj];exact e
      have hjg:j<g.vFields.length:=by rw [←hA.len];exact hj
      refine ⟨(fAt g j).vType,?_,?_⟩
      · rw [kids_struct (by rw [←h.kind];exact h4)]
        exact List.mem_map.2 ⟨fAt g j,getD_mem hjg,rfl⟩
      · rw [←hfj];exact (hA.fld j hj).2.2 h4
    · rw [kids_none hk h4] at hc;cases hc
theorem match_of (W:Wf t l) (V:Wf u m) {i k k':Nat} (hi:i<t.vDefs.length) (hc:∀k,Rch t i k→CondK t u k) (hr:Rch t i k) (hk':k'<u.vDefs.length) (he:tx t k=tx u k'):Match t (dAt t k) u (dAt u k'):=by
  have hk:=hr.lt W hi
  rcases tx_eq W V hk hk' he with ⟨a,b,c⟩|h|h
  · obtain ⟨j,hj,hn,hA⟩:=hc k hr a
    have:=name_uniq V hj hk' hn b (by rw [←hA.name,c])
    subst this
    exact .inl ⟨a,b,hA⟩
  · exact .inr (.inl h)
  · exact .inr (.inr h)
section
variable {i j:Nat}
theorem corr_f (W:Wf t l) (V:Wf u m) (hi:i<t.vDefs.length) (hj:j<u.vDefs.length) (E:EqS t i u j) {k:Nat} (h:Rch t i k):∃k',Rch u j k'∧tx t k=tx u k':=by
  induction h with
  |refl=>exact ⟨j, .refl,E.1⟩
  |step h hc ih=>
    obtain ⟨k',hr,he⟩:=ih
    obtain ⟨c',h1,h2⟩:=(match_of W V hi E.2 h (hr.lt V hj) he).kid hc
    exact ⟨c'.toNat, .step hr h1,h2⟩
theorem corr_b (W:Wf t l) (V:Wf u m) (hi:i<t.vDefs.length) (hj:j<u.vDefs.length) (E:EqS t i u j) {k':Nat} (h:Rch u j k'):∃k,Rch t i k∧tx t k=tx u k':=by
  induction h with
  |refl=>exact ⟨i, .refl,E.1⟩
  |step h hc ih=>
    obtain ⟨k,hr,he⟩:=ih
    obtain ⟨c',h1,h2⟩:=(match_of W V hi E.2 hr (h.lt V hj) he).symm.kid hc
    exact ⟨c'.toNat, .step hr h1,h2.symm⟩
theorem EqS.refl (W:Wf t l) (hi:i<t.vDefs.length):EqS t i t i:=⟨rfl,fun k hr hn=>⟨k,hr.lt W hi,hn, .refl⟩⟩
theorem EqS.symm (W:Wf t l) (V:Wf u m) (hi:i<t.vDefs.length) (hj:j<u.vDefs.length) (E:EqS t i u j):EqS u j t i:=by
  refine ⟨E.1.symm,fun k' hr' hn'=>?_⟩
  obtain ⟨k,hr,he⟩:=corr_b W V hi hj E hr'
  have M:=(match_of W V hi E.2 hr (hr'.lt V hj) he).symm
  exact ⟨k,hr.lt W hi,M.named hn',M.alike hn'⟩
theorem EqS.trans {q:Nat} (W:Wf t l) (V:Wf u m) (hi:i<t.vDefs.length) (hj:j<u.vDefs.length) (E:EqS t i u j) (F:EqS u j v q):EqS t i v q:=by
  refine ⟨E.1.trans F.1,fun k hr hn=>?_⟩
  obtain ⟨k',hr',he⟩:=corr_f W V hi hj E hr
  have M:=match_of W V hi E.2 hr (hr'.lt V hj) he
  obtain ⟨k2,h1,h2,h3⟩:=F.2 k' hr' (M.named hn)
  exact ⟨k2,h1,h2,(M.alike hn).trans h3⟩
theorem EqS.part {c c':Nat} (E:EqS t i u j) (hr:Rch t i c) (he:tx t c=tx u c'):EqS t c u c':=⟨he,fun k h=>E.2 k (hr.trans h)⟩
theorem cont_kids {d:api_Def} {c:Int} (h:c∈cont d):c∈kids d:=by
  rcases cont_kind h with e|e|e
  · rw [(inner_ref (known:=[]) (.inl e)).2] at h;rw [kids_ref (by omega)];exact h
  · rw [cont_struct e] at h;rw [kids_struct e];exact h
  · rw [(inner_ref (known:=[]) (.inr e)).2] at h;rw [kids_ref (by omega)];exact h
theorem size_eqP {S:Nat→Prop} (W:Wf t l) (V:Wf u m) (hS:∀k,S k→k<t.vDefs.length) (hSk:∀k,S k→∀c∈kids (dAt t k),S c.toNat) (hM:∀k k',S k→k'<u.vDefs.length→tx t k=tx u k'→Match t (dAt t k) u (dAt u k')):∀(k k':Nat),S k→k'<u.vDefs.length→tx t k=tx u k'→l.getD k 0=m.getD k' 0:=by
  obtain ⟨rk,hg⟩:=W.sz.ex
  obtain ⟨rk',hg'⟩:=V.sz.ex
  have key:∀(R k k':Nat),rk k=R→S k→k'<u.vDefs.length→tx t k=tx u k'→l.getD k 0=m.getD k' 0:=by
    intro R
    induction R using Nat.strongRecOn with
    |_ R ih=>
      intro k k' hR hr hk' he
      have hk:=hS k hr
      have M:=hM k k' hr hk' he
      obtain ⟨_,_,g3,g4⟩:=hg k hk
      obtain ⟨_,_,_,g4'⟩:=hg' k' hk'
      rw [g4,g4']
      show nval (dAt t k) (inner l (dAt t k))=nval (dAt u k') (inner m (dAt u k'))
      have href:(dAt t k).vKind=3∨(dAt t k).vKind=6→inner l (dAt t k)=inner m (dAt u k'):=fun h=>by
        obtain ⟨e1,e2⟩:=inner_ref (known:=l) h
        obtain ⟨e3,e4⟩:=inner_ref (d:=dAt u k') (known:=m) (by rw [←M.kind];exact h)
        rw [e1,e3]
        obtain ⟨r1,r2⟩:=ref_lt W hk (by omega)
        obtain ⟨r3,r4⟩:=ref_lt V hk' (by rw [←M.kind];omega)
        have hcm:(dAt t k).vRef∈cont (dAt t k):=by rw [e2];exact List.mem_singleton.2 rfl
        exact ih _ (by have:=g3 _ hcm;omega) (dAt t k).vRef.toNat (dAt u k').vRef.toNat rfl (hSk k hr _ (cont_kids hcm)) r4 (M.ref (by omega))
      have hkind:=M.kind
      unfold nval
      rw [←hkind]
      by_cases e1:(dAt t k).vKind=1
      · rw [if_pos e1,if_pos e1];exact (M.alike ((named_iff _).2 ⟨by omega,by omega⟩)).int.1
      · rw [if_neg e1,if_neg e1]
        by_cases e2:(dAt t k).vKind=2
        · rw [if_pos e2,if_pos e2]
        · rw [if_neg e2,if_neg e2]
          by_cases e3:(dAt t k).vKind=3
          · rw [if_pos e3,if_pos e3,href (.inl e3)]
            rcases M with ⟨a,b,c⟩|⟨a,b,c⟩|⟨a,b,c,d⟩
            · rw [c.num]
            · omega
            · rw [c]
          · rw [if_neg e3,if_neg e3]
            by_cases e4:(dAt t k).vKind=4
            · rw [if_pos e4,if_pos e4];exact (M.alike ((named_iff _).2 ⟨by omega,by omega⟩)).num
            · rw [if_neg e4,if_neg e4]
              by_cases e5:(dAt t k).vKind=5
              · rw [if_pos e5,if_pos e5]
              · rw [if_neg e5,if_neg e5]
                by_cases e6:(dAt t k).vKind=6
                · rw [if_pos e6,if_pos e6,href (.inr e6)]
                · rw [if_neg e6,if_neg e6]
  exact fun k k'=>key (rk k) k k' rfl
theorem size_eq (W:Wf t l) (V:Wf u m) (hi:i<t.vDefs.length) (hc:∀k,Rch t i k→CondK t u k):∀(k k':Nat),Rch t i k→k'<u.vDefs.length→tx t k=tx u k'→l.getD k 0=m.getD k' 0:=
  size_eqP (S:=Rch t i) W V (fun k h=>h.lt W hi) (fun k h c hc=> .step h hc) (fun k k' h hk' he=>match_of W V hi hc h hk' he)
theorem res_corr (W:Wf t l) (V:Wf u m) (hi:i<t.vDefs.length) (hj:j<u.vDefs.length) (hc:∀k,Rch t i k→CondK t u k) {k k':Nat} (hr:Rch t i k) (hr':Rch u j k') (he:tx t k=tx u k'):
    ∃r r',Ev (fun n=>ctf_resolved.f n t (k:Int)) ((r:Nat):Int)∧Ev (fun n=>ctf_resolved.f n u (k':Int)) ((r':Nat):Int)∧Rch t i r∧Rch u j r'∧tx t r=tx u r':=by
  obtain ⟨rk,hg⟩:=W.sz.ex
  have key:∀(R k k':Nat),rk k=R→Rch t i k→Rch u j k'→tx t k=tx u k'→∃r r',Ev (fun n=>ctf_resolved.f n t (k:Int)) ((r:Nat):Int)∧Ev (fun n=>ctf_resolved.f n u (k':Int)) ((r':Nat):Int)∧Rch t i r∧Rch u j r'∧tx t r=tx u r':=by
    have stay:∀{t:api_Types} {k:Nat},k<t.vDefs.length→(dAt t k).vKind≠6→Ev (fun n=>ctf_resolved.f n t (k:Int)) ((k:Nat):Int):=fun {t k} hk h6=>Ev.succ (Ev.pure fun n=>by
      unfold ctf_resolved.f
      rw [ctf_resolved.l0,if_pos (by omega),rd_dAt,if_neg (beqF h6)]
      rfl)
    have go:∀{t:api_Types} {k r q:Nat},k<t.vDefs.length→(dAt t k).vKind=6→(dAt t k).vRef=((q:Nat):Int)→Ev (fun n=>ctf_resolved.f n t (q:Int)) ((r:Nat):Int)→Ev (fun n=>ctf_resolved.f n t (k:Int)) ((r:Nat):Int):=fun {t k r q} hk h6 hq h=>by
      obtain ⟨K,hK⟩:=h
      refine ⟨K+1,fun n hn=>?_⟩
      obtain ⟨n,rfl⟩:∃x,n=x+1:=⟨n-1,by omega⟩
      have:=hK n (by omega)
      show ctf_resolved.f (n+1) t (k:Int)=_
      unfold ctf_resolved.f
      rw [ctf_resolved.l0,if_pos (by omega),rd_dAt,if_pos (beqT h6),if_pos (by omega),hq]
      exact this
    intro R
    induction R using Nat.strongRecOn with
    |_ R ih=>
      intro k k' hR hr hr' he
      have hk:=hr.lt W hi
      have hk':=hr'.lt V hj
      have M:=match_of W V hi hc hr hk' he
      by_cases h6:(dAt t k).vKind=6
      · have h6':(dAt u k').vKind=6:=by rw [←M.kind];exact h6
        obtain ⟨r1,r2⟩:=ref_lt W hk (by omega)
        obtain ⟨r3,r4⟩:=ref_lt V hk' (by omega)
        have hcm:(dAt t k).vRef∈cont (dAt t k):=by rw [(inner_ref (known:=[]) (.inr h6)).2];exact List.mem_singleton.2 rfl
        have hcm':(dAt u k').vRef∈cont (dAt u k'):=by rw [(inner_ref (known:=[]) (.inr h6')).2];exact List.mem_singleton.2 rfl
        obtain ⟨r,r',a,b,c,d,e⟩:=ih _ (by have:=(hg k hk).2.2.1 _ hcm;omega) (dAt t k).vRef.toNat (dAt u k').vRef.toNat rfl (.step hr (cont_kids hcm)) (.step hr' (cont_kids hcm')) (M.ref (by omega))
        exact ⟨r,r',go hk h6 r1 a,go hk' h6' r3 b,c,d,e⟩
      · exact ⟨k,k',stay hk h6,stay hk' (by rw [←M.kind];exact h6),hr,hr',he⟩
  exact key (rk k) k k' rfl hr hr' he
theorem find_both {p:api_Field→Bool}:∀(a b:List api_Field),a.length=b.length→(∀j,j<a.length→p (a.getD j z_api_Field)=p (b.getD j z_api_Field))→
    (a.find? p=none∧b.find? p=none)∨∃j,j<a.length∧a.find? p=some (a.getD j z_api_Field)∧b.find? p=some (b.getD j z_api_Field)
  |[],[],_,_=> .inl ⟨rfl,rfl⟩
  |[],_::_,h,_=>by simp at h
  |_::_,[],h,_=>by simp at h
  |x::a,y::b,h,hp=>by
    have h0:=hp 0 (by simp)
    rw [List.getD_cons_zero,List.getD_cons_zero] at h0
    rw [List.find?_cons,List.find?_cons,←h0]
    cases hx:p x with
    |true=>exact .inr ⟨0,by simp,rfl,rfl⟩
    |false=>
      rcases find_both a b (by simpa using h) (fun j hj=>by simpa using hp (j+1) (by simpa using hj)) with ⟨h1,h2⟩|⟨j,h1,h2,h3⟩
      · exact .inl ⟨h1,h2⟩
      · exact .inr ⟨j+1,by simpa using h1,by simpa using h2,by simpa using h3⟩
theorem mem_corr (W:Wf t l) (V:Wf u m) (hi:i<t.vDefs.length) (hj:j<u.vDefs.length) (hc:∀k,Rch t i k→CondK t u k) {mt mu:Nat→ByteArray→api_Field×Int} (hmt:MemOk t mt) (hmu:MemOk u mu) {k k':Nat} (hr:Rch t i k) (hr':Rch u j k') (he:tx t k=tx u k') (name:ByteArray):
    (mt k name).2=(mu k' name).2∧((mt k name).2=0→(mt k name).1.vAt=(mu k' name).1.vAt∧Rch t i (mt k name).1.vType.toNat∧Rch u j (mu k' name).1.vType.toNat∧tx t (mt k name).1.vType.toNat=tx u (mu k' name).1.vType.toNat):=by
  obtain ⟨r,r',h1,h2,h3,h4,h5⟩:=res_corr W V hi hj hc hr hr' he
  have hrl:=h3.lt W hi
  have hrl':=h4.lt V hj
  rw [(hmt.ev k name (hr.lt W hi)).uniq (member_ev W.good hrl h1),(hmu.ev k' name (hr'.lt V hj)).uniq (member_ev V.good hrl' h2)]
  have M:=match_of W V hi hc h3 hrl' h5
  show (memS (dAt t r) name).2=(memS (dAt u r') name).2∧((memS (dAt t r) name).2=0→(memS (dAt t r) name).1.vAt=(memS (dAt u r') name).1.vAt∧Rch t i (memS (dAt t r) name).1.vType.toNat∧Rch u j (memS (dAt u r') name).1.vType.toNat∧tx t (memS (dAt t r) name).1.vType.toNat=tx u (memS (dAt u r') name).1.vType.toNat)
  unfold memS
  by_cases k4:(dAt t r).vKind=4
  · have k4':(dAt u r').vKind=4:=by rw [←M.kind];exact k4
    have hA:=M.alike ((named_iff _).2 ⟨by omega,by omega⟩)
    rw [if_neg (fun h=>h k4),if_neg (fun h=>h k4')]
    rcases find_both (p:=fun f=>strEq f.vName name) (dAt t r).vFields (dAt u r').vFields hA.len (fun x hx=>by
      have:=(hA.fld x hx).1
      unfold fAt at this
      show strEq _ name=strEq _ name
      rw [this]) with ⟨a,b⟩|⟨x,hx,a,b⟩
    · rw [a,b];exact ⟨rfl,fun h=>by cases h⟩
    · rw [a,b]
      have hF:=hA.fld x hx
      refine ⟨rfl,fun _=>⟨hF.2.1,?_,?_,hF.2.2 k4⟩⟩
      · exact .step (c:=(fAt (dAt t r) x).vType) h3 (by rw [kids_struct k4];exact List.mem_map.2 ⟨_,getD_mem hx,rfl⟩)
      · exact .step (c:=(fAt (dAt u r') x).vType) h4 (by rw [kids_struct k4'];exact List.mem_map.2 ⟨_,getD_mem (by rw [←hA.len];exact hx),rfl⟩)
  · have k4':(dAt u r').vKind≠4:=by rw [←M.kind];exact k4
    rw [if_pos k4,if_pos k4']
    exact ⟨rfl,fun h=>by cases h⟩
theorem path_corr (W:Wf t l) (V:Wf u m) (hi:i<t.vDefs.length) (hj:j<u.vDefs.length) (hc:∀k,Rch t i k→CondK t u k) {mt mu:Nat→ByteArray→api_Field×Int} (hmt:MemOk t mt) (hmu:MemOk u mu):∀(p:List ByteArray) (k k':Nat) (a:Int),Rch t i k→Rch u j k'→tx t k=tx u k'→
    (pathV mt p k a).2.2=(pathV mu p k' a).2.2∧(pathV mt p k a).2.1=(pathV mu p k' a).2.1∧((pathV mt p k a).2.2=0→∃c c',(pathV mt p k a).1=((c:Nat):Int)∧(pathV mu p k' a).1=((c':Nat):Int)∧Rch t i c∧Rch u j c'∧tx t c=tx u c')
  |[],k,k',a,hr,hr',he=>⟨rfl,rfl,fun _=>⟨k,k',rfl,rfl,hr,hr',he⟩⟩
  |x::p,k,k',a,hr,hr',he=>by
    obtain ⟨h1,h2⟩:=mem_corr W V hi hj hc hmt hmu hr hr' he x
    simp only [pathV]
    by_cases h0:(mt k x).2=0
    · obtain ⟨h3,h4,h5,h6⟩:=h2 h0
      rw [if_neg (fun h=>h h0),if_neg (fun h=>h (by rw [←h1];exact h0)),←h3]
      exact path_corr W V hi hj hc hmt hmu p _ _ _ h4 h5 h6
    · rw [if_pos h0,if_pos (by rw [←h1];exact h0),←h1]
      exact ⟨rfl,rfl,fun h=>absurd h h0⟩
end
theorem Text_ok (W:Wf t l) (hv:Ev (fun k=>ctf_valid.f k t) true) {i:Nat} (hi:i<t.vDefs.length):Ev (fun k=>ctf_Text.f k t (i:Int)) (tx t i,0):=by
  obtain ⟨K,hK⟩:=given_in hv hi
  obtain ⟨⟨K2,hK2⟩,_⟩:=text_ev W hi
  refine ⟨K+K2,fun k hk=>?_⟩
  show ctf_Text.f k t (i:Int)=_
  unfold ctf_Text.f
  rw [show ctf_given.f k t (i:Int)=_ from hK k (by omega)]
  simp only [Option.bind_some]
  rw [if_neg (by decide),show ctf_text.f k t (i:Int)=_ from hK2 k (by omega)]
  rfl
theorem Path_long (hv:Ev (fun k=>ctf_valid.f k t) true) {i:Nat} (hi:i<t.vDefs.length) {p:List ByteArray} (hp:¬p.length≤16):Ev (fun k=>ctf_Path.f k t (i:Int) p) (0,0,2):=by
  obtain ⟨K,hK⟩:=given_in hv hi
  refine ⟨K,fun k hk=>?_⟩
  show ctf_Path.f k t (i:Int) p=_
  unfold ctf_Path.f
  rw [show ctf_given.f k t (i:Int)=_ from hK k hk]
  simp only [Option.bind_some]
  rw [if_neg (by decide),if_pos (decide_eq_true (by omega))]
theorem EqX.in_ (hF:∀d∈t.vDefs,FitD d) (hG:∀d∈u.vDefs,FitD d) {a b:Int} (h:EqX t a u b):∃i j l m,a=((i:Nat):Int)∧b=((j:Nat):Int)∧i<t.vDefs.length∧j<u.vDefs.length∧Wf t l∧Wf u m∧Ev (fun k=>ctf_valid.f k t) true∧Ev (fun k=>ctf_valid.f k u) true∧EqS t i u j:=by
  obtain ⟨i,j,⟨rfl,hi,l,W⟩,⟨rfl,hj,m,V⟩,E⟩:=h
  exact ⟨i,j,l,m,rfl,rfl,hi,hj,W,V,valid_wf hF W,valid_wf hG V,E⟩
theorem EqX.symm {a b:Int} (h:EqX t a u b):EqX u b t a:=by
  obtain ⟨i,j,⟨rfl,hi,l,W⟩,⟨rfl,hj,m,V⟩,E⟩:=h
  exact ⟨j,i,⟨rfl,hj,m,V⟩,⟨rfl,hi,l,W⟩,E.symm W V hi hj⟩
theorem EqX.trans {a b c:Int} (h:EqX t a u b) (g:EqX u b v c):EqX t a v c:=by
  obtain ⟨i,j,⟨rfl,hi,l,W⟩,⟨rfl,hj,m,V⟩,E⟩:=h
  obtain ⟨j',q,⟨e,_,_⟩,hq,F⟩:=g
  have e:j=j':=Int.ofNat.inj e
  subst e
  exact ⟨i,q,⟨rfl,hi,l,W⟩,hq,E.trans W V hi hj F⟩
end
end Go.Proofs.YtfjppgobidjndaaDoor
namespace Go.Proofs.YtfjppgobidjndaaDoor
open Go.RowKit Go.M
theorem pigeon:∀(n:Nat) (f:Nat→Nat),(∀i,i≤n→f i<n)→∃a b,a<b∧b≤n∧f a=f b
  |0,f,h=>absurd (h 0 (Nat.le_refl _)) (by omega)
  |n+1,f,h=>by
    by_cases hx:∃a,a≤n∧f a=f (n+1)
    · obtain ⟨a,h1,h2⟩:=hx
      exact ⟨a,n+1,by omega,by omega,h2⟩
    · have hne:∀a,a≤n→f a≠f (n+1):=fun a ha e=>hx ⟨a,ha,e⟩
      obtain ⟨a,b,h1,h2,h3⟩:=pigeon n (fun i=>if f i=n then f (n+1) else f i) (fun i hi=>by
        have h4:=h i (by omega)
        have h5:=h (n+1) (by omega)
        have h6:=hne i hi
        show (if f i=n then f (n+1) else f i)<n
        split
        · omega
        · omega)
      have h3:(if f a=n then f (n+1) else f a)=(if f b=n then f (n+1) else f b):=h3
      refine ⟨a,b,h1,by omega,?_⟩
      have ha:=hne a (by omega)
      have hb:=hne b h2
      split at h3<;>split at h3<;>omega
def hop (t:api_Types) (i:Nat):Nat:=(dAt t i).vRef.toNat
def hops (t:api_Types):Nat→Nat→Nat
  |0,i=>i
  |e+1,i=>hops t e (hop t i)
theorem hops_add (t:api_Types):∀(a b i:Nat),hops t (a+b) i=hops t b (hops t a i)
  |0,b,i=>by rw [Nat.zero_add];rfl
  |a+1,b,i=>by
    rw [Nat.add_right_comm]
    exact hops_add t a b (hop t i)
section
variable {t:api_Types}
theorem rd_ref {i:Nat}:rd z_api_Def t.vDefs (dAt t i).vRef=dAt t (hop t i):=rfl
theorem lost_iff:∀(m i:Nat),lostS t.vDefs m (dAt t i)=false↔∃e,e≤m∧namedS (dAt t (hops t e i))=true
  |0,i=>by
    simp only [lostS,Bool.not_eq_false']
    refine ⟨fun h=>⟨0,Nat.le_refl _,h⟩,fun ⟨e,he,h⟩=>?_⟩
    obtain rfl:e=0:=by omega
    exact h
  |m+1,i=>by
    simp only [lostS,rd_ref]
    by_cases hn:namedS (dAt t i)=true
    · rw [if_pos hn]
      exact ⟨fun _=>⟨0,by omega,hn⟩,fun _=>rfl⟩
    · rw [if_neg hn,lost_iff m (hop t i)]
      constructor
      · rintro ⟨e,h1,h2⟩
        exact ⟨e+1,by omega,h2⟩
      · rintro ⟨e,h1,h2⟩
        cases e with
        |zero=>exact absurd h2 hn
        |succ e=>exact ⟨e,by omega,h2⟩
theorem lost_soon {n m:Nat} (hlt:∀i,i<n→namedS (dAt t i)=false→hop t i<n) {i:Nat} (hi:i<n) (h:lostS t.vDefs m (dAt t i)=false):lostS t.vDefs n (dAt t i)=false:=by
  obtain ⟨e,_,he⟩:=(lost_iff m i).1 h
  have key:∀e,namedS (dAt t (hops t e i))=true→∃e',e'≤n∧namedS (dAt t (hops t e' i))=true:=by
    intro e
    induction e using Nat.strongRecOn with
    |_ e ih=>
      intro he
      by_cases hen:e≤n
      · exact ⟨e,hen,he⟩
      · by_cases hx:∃e',e'<e∧namedS (dAt t (hops t e' i))=true
        · obtain ⟨e',h1,h2⟩:=hx
          exact ih e' h1 h2
        · have hno:∀e',e'<e→namedS (dAt t (hops t e' i))=false:=fun e' h1=>by
            cases hb:namedS (dAt t (hops t e' i)) with
            |false=>rfl
            |true=>exact absurd ⟨e',h1,hb⟩ hx
          have hin:∀a,a≤n→hops t a i<n:=by
            intro a
            induction a with
            |zero=>intro _;exact hi
            |succ a iha=>
              intro ha
              rw [hops_add t a 1 i]
              exact hlt _ (iha (by omega)) (hno a (by omega))
          obtain ⟨a,b,h1,h2,h3⟩:=pigeon n (fun a=>hops t a i) hin
          have h4:hops t e i=hops t (a+(e-b)) i:=by
            rw [show e=b+(e-b) by omega,hops_add,hops_add,←h3]
            congr 1;omega
          rw [h4] at he
          rw [hno _ (by omega)] at he
          cases he
  obtain ⟨e',h1,h2⟩:=key e he
  exact (lost_iff n i).2 ⟨e',h1,h2⟩
end
def Bd (ch:Nat→List Nat):Nat→Nat→Prop
  |0,q=>ch q=[]
  |B+1,q=>∀c∈ch q,Bd ch B c
theorem Bd.up {ch:Nat→List Nat}:∀{B q:Nat},Bd ch B q→Bd ch (B+1) q
  |0,q,h=>fun c hc=>by rw [show ch q=[] from h] at hc;cases hc
  |B+1,q,h=>fun c hc=>(h c hc).up
theorem Bd.le {ch:Nat→List Nat} {q:Nat}:∀{B C:Nat},B≤C→Bd ch B q→Bd ch C q
  |B,0,h,hb=>by
    obtain rfl:B=0:=by omega
    exact hb
  |B,C+1,h,hb=>by
    by_cases e:B=C+1
    · subst e;exact hb
    · exact (Bd.le (by omega) hb).up
theorem rank_of {ch:Nat→List Nat} {n:Nat} (hlt:∀q,q<n→∀c∈ch q,c<n) (h:∀q,q<n→∃B,Bd ch B q):∃rk:Nat→Nat,∀q,q<n→∀c∈ch q,rk c<rk q:=by
  have hm:∀q,∃B,q<n→Bd ch B q∧∀C,Bd ch C q→B≤C:=by
    intro q
    by_cases hq:q<n
    · obtain ⟨B,hB⟩:=h q hq
      have key:∀B,Bd ch B q→∃A,Bd ch A q∧∀C,Bd ch C q→A≤C:=by
        intro B
        induction B using Nat.strongRecOn with
        |_ B ih=>
          intro hB
          by_cases hx:∃C,C<B∧Bd ch C q
          · obtain ⟨C,h1,h2⟩:=hx
            exact ih C h1 h2
          · exact ⟨B,hB,fun C hC=>by
              rcases Nat.lt_or_ge C B with h|h
              · exact absurd ⟨C,h,hC⟩ hx
              · exact h⟩
      obtain ⟨A,hA⟩:=key B hB
      exact ⟨A,fun _=>hA⟩
    · exact ⟨0,fun h=>absurd h hq⟩
  refine ⟨fun q=>Classical.choose (hm q),fun q hq c hc=>?_⟩
  obtain ⟨h1,_⟩:=Classical.choose_spec (hm q) hq
  obtain ⟨_,h4⟩:=Classical.choose_spec (hm c) (hlt q hq c hc)
  show Classical.choose (hm c)<Classical.choose (hm q)
  generalize Classical.choose (hm q)=B at h1⊢
  cases B with
  |zero=>rw [show ch q=[] from h1] at hc;cases hc
  |succ B=>exact Nat.lt_succ_of_le (h4 B (h1 c hc))
theorem size_match {t u:api_Types} {l m:List Int} (W:Wf t l) (V:Wf u m) (hM:∀k k',k<t.vDefs.length→k'<u.vDefs.length→tx t k=tx u k'→Match t (dAt t k) u (dAt u k')):
    ∀(k k':Nat),k<t.vDefs.length→k'<u.vDefs.length→tx t k=tx u k'→l.getD k 0=m.getD k' 0:=
  size_eqP (S:=fun k=>k<t.vDefs.length) W V (fun k h=>h) (fun k h c hc=>(kids_range W h hc).2) hM
end Go.Proofs.YtfjppgobidjndaaDoor
namespace Go.Proofs.YtfjppgobidjndaaDoor
open Go.RowKit Go.M
abbrev Src:=List (api_Types×Nat)
def sT (s:Src) (q:Nat):api_Types:=(s.getD q (⟨[]⟩,0)).1
def sI (s:Src) (q:Nat):Nat:=(s.getD q (⟨[]⟩,0)).2
def dS (s:Src) (q:Nat):api_Def:=dAt (sT s q) (sI s q)
noncomputable def xS (s:Src) (q:Nat):ByteArray:=tx (sT s q) (sI s q)
abbrev isRef (k:Int):Prop:=k=2∨k=3∨k=6
structure Re (u:api_Types) (s:Src) (q:Nat):Prop where
  kind:(dAt u q).vKind=(dS s q).vKind
  name:(dAt u q).vName=(dS s q).vName
  int:(dAt u q).vInt=(dS s q).vInt
  num:(dAt u q).vN=(dS s q).vN
  ref:isRef (dS s q).vKind→∃r:Nat,(dAt u q).vRef=(r:Int)∧r<s.length∧xS s r=tx (sT s q) (dS s q).vRef.toNat
  ref0:¬isRef (dS s q).vKind→(dAt u q).vRef=(dS s q).vRef
  flen:(dAt u q).vFields.length=(dS s q).vFields.length
  fld:∀j,j<(dS s q).vFields.length→(fAt (dAt u q) j).vName=(fAt (dS s q) j).vName∧(fAt (dAt u q) j).vAt=(fAt (dS s q) j).vAt∧
    ((dS s q).vKind=4→∃r:Nat,(fAt (dAt u q) j).vType=(r:Int)∧r<s.length∧xS s r=tx (sT s q) (fAt (dS s q) j).vType.toNat)∧((dS s q).vKind≠4→(fAt (dAt u q) j).vType=(fAt (dS s q) j).vType)
structure Built (u:api_Types) (s:Src):Prop where
  len:u.vDefs.length=s.length
  few:s.length≤200
  src:∀q,q<s.length→(∃l,Wf (sT s q) l)∧sI s q<(sT s q).vDefs.length
  re:∀q,q<s.length→Re u s q
  names:∀q r,q<s.length→r<s.length→namedS (dS s q)=true→namedS (dS s r)=true→(dS s q).vName=(dS s r).vName→q=r
  same:∀q r,q<s.length→r<s.length→∀k k',k<(sT s q).vDefs.length→k'<(sT s r).vDefs.length→tx (sT s q) k=tx (sT s r) k'→Match (sT s q) (dAt (sT s q) k) (sT s r) (dAt (sT s r) k')
theorem fieldsS_congr {d e:api_Def} {n m:Int}:∀(a b:List api_Field) (ns:List ByteArray),a.length=b.length→(∀j,j<a.length→(a.getD j z_api_Field).vName=(b.getD j z_api_Field).vName)→
    (∀j,j<a.length→fieldOk d n (a.getD j z_api_Field)=true→fieldOk e m (b.getD j z_api_Field)=true)→fieldsS d n ns a=true→fieldsS e m ns b=true
  |[],[],_,_,_,_,_=>rfl
  |[],_::_,_,h,_,_,_=>by simp at h
  |_::_,[],_,h,_,_,_=>by simp at h
  |x::a,y::b,ns,h,hn,hf,hh=>by
    have n0:=hn 0 (by simp)
    have f0:=hf 0 (by simp)
    rw [List.getD_cons_zero,List.getD_cons_zero] at n0 f0
    simp only [fieldsS,Bool.and_eq_true] at hh⊢
    obtain ⟨⟨⟨h1,h2⟩,h3⟩,h4⟩:=hh
    rw [←n0]
    exact ⟨⟨⟨h1,h2⟩,f0 h3⟩,fieldsS_congr a b _ (by simpa using h) (fun j hj=>by simpa using hn (j+1) (by simpa using hj)) (fun j hj=>by simpa using hf (j+1) (by simpa using hj)) h4⟩
theorem fieldOk_5 {d:api_Def} {n:Int} {f:api_Field} (h:d.vKind≠4) (h5:d.vKind≠5):fieldOk d n f=true:=by unfold fieldOk;simp [h,h5]
theorem fieldOk_4 {d:api_Def} {n:Int} {f:api_Field} (h:d.vKind=4) (h0:0≤f.vType) (h1:f.vType<n):fieldOk d n f=true:=by
  unfold fieldOk
  have h2:¬f.vType<0:=by omega
  have h3:¬n≤f.vType:=by omega
  simp [h,h2,h3]
theorem fieldOk_same {d e:api_Def} {n m:Int} {f g:api_Field} (hk:d.vKind=5) (hk2:e.vKind=5) (ht:f.vType=g.vType) (ha:f.vAt=g.vAt) (h:fieldOk d n f=true):fieldOk e m g=true:=by
  unfold fieldOk at h⊢
  rw [hk2,←ht,←ha]
  rw [hk] at h
  simpa using h
theorem defsS_of {n:Nat}:∀(ns:List ByteArray) (l:List api_Def),(∀d∈l,shapedS d (n:Int)=true)→(∀d∈l,namedS d=true→d.vName∉ns)→(∀i j,i<j→j<l.length→namedS (l.getD j z_api_Def)=true→(l.getD i z_api_Def).vName≠(l.getD j z_api_Def).vName)→defsS n ns l=true
  |_,[],_,_,_=>rfl
  |ns,d::r,h1,h2,h3=>by
    simp only [defsS,Bool.and_eq_true,Bool.not_eq_true']
    refine ⟨⟨h1 d List.mem_cons_self,?_⟩,defsS_of _ r (fun x hx=>h1 x (List.mem_cons_of_mem _ hx)) (fun x hx hn hm=>?_) (fun i j hij hj hn=>?_)⟩
    · cases hn:namedS d with
      |false=>rfl
      |true=>
        rw [Bool.true_and,Bool.eq_false_iff]
        intro h
        obtain ⟨y,hy,e⟩:=List.any_eq_true.1 h
        rw [←strEq_iff.1 e] at hy
        exact h2 d List.mem_cons_self hn hy
    · rcases List.mem_cons.1 hm with e|hm
      · obtain ⟨j,hj,ej⟩:=List.mem_iff_getElem.1 hx
        have hg:r.getD j z_api_Def=x:=by rw [List.getD_eq_getElem?_getD,List.getElem?_eq_getElem hj];exact ej
        have:=h3 0 (j+1) (by omega) (by simpa using hj) (by rw [List.getD_cons_succ,hg];exact hn)
        rw [List.getD_cons_succ,List.getD_cons_zero,hg] at this
        exact this e.symm
      · exact h2 x (List.mem_cons_of_mem _ hx) hn hm
    · have:=h3 (i+1) (j+1) (by omega) (by simpa using hj) (by rw [List.getD_cons_succ];exact hn)
      rwa [List.getD_cons_succ,List.getD_cons_succ] at this
section
variable {u:api_Types} {s:Src}
theorem dAt_of_mem {t:api_Types} {d:api_Def} (h:d∈t.vDefs):∃q,q<t.vDefs.length∧dAt t q=d:=by
  obtain ⟨q,hq,e⟩:=List.mem_iff_getElem.1 h
  exact ⟨q,hq,by unfold dAt;rw [List.getD_eq_getElem?_getD,List.getElem?_eq_getElem hq];exact e⟩
theorem Built.named (B:Built u s) {q:Nat} (hq:q<s.length):namedS (dAt u q)=namedS (dS s q):=by
  unfold namedS;rw [(B.re q hq).kind]
theorem Built.shaped (B:Built u s) {q:Nat} (hq:q<s.length):shapedS (dAt u q) (u.vDefs.length:Int)=true:=by
  obtain ⟨⟨l,W⟩,hi⟩:=B.src q hq
  have R:=B.re q hq
  have h:=shaped_mem _ _ W.defs _ (dAt_mem hi)
  have h:shapedS (dS s q) ((sT s q).vDefs.length:Int)=true:=h
  rw [B.len]
  unfold shapedS at h⊢
  rw [R.kind,R.name,R.int,R.num,R.flen]
  cases hs:shp (dS s q).vKind with
  |none=>rw [hs] at h;cases h
  |some σ=>
    rw [hs] at h
    have hσ:σ.vref=decide (isRef (dS s q).vKind):=by
      have:=shp_ref (dS s q).vKind
      rw [hs] at this
      exact this
    simp only [Bool.and_eq_true] at h⊢
    obtain ⟨⟨⟨⟨⟨⟨h1,h2⟩,h3⟩,h4⟩,h5⟩,h6⟩,h7⟩:=h
    refine ⟨⟨⟨⟨⟨⟨h1,h2⟩,?_⟩,h4⟩,h5⟩,h6⟩,?_⟩
    · by_cases hr:isRef (dS s q).vKind
      · obtain ⟨r,e,hlt,_⟩:=R.ref hr
        rw [hσ,decide_eq_true hr,if_pos rfl,e,decide_eq_true (by omega),decide_eq_true (by omega)]
        rfl
      · rw [hσ,decide_eq_false hr,if_neg (by simp)] at h3⊢
        rw [R.ref0 hr];exact h3
    · refine fieldsS_congr (dS s q).vFields (dAt u q).vFields [] R.flen.symm (fun j hj=>(R.fld j hj).1.symm) (fun j hj hok=>?_) h7
      obtain ⟨g1,g2,g3,g4⟩:=R.fld j hj
      by_cases h4:(dS s q).vKind=4
      · obtain ⟨r,e,hlt,_⟩:=g3 h4
        exact fieldOk_4 (by rw [R.kind];exact h4) (by show 0≤(fAt (dAt u q) j).vType;omega) (by show (fAt (dAt u q) j).vType<_;omega)
      · by_cases h5:(dS s q).vKind=5
        · exact fieldOk_same h5 (by rw [R.kind];exact h5) (g4 h4).symm g2.symm hok
        · exact fieldOk_5 (by rw [R.kind];exact h4) (by rw [R.kind];exact h5)
theorem anon_name {d:api_Def} {n:Int} (h:shapedS d n=true) (hn:namedS d=false):d.vName=ByteArray.empty:=by
  have hk:d.vKind=2∨d.vKind=3:=anon_kind (by rw [hn];simp)
  unfold shapedS shp at h
  rcases hk with e|e
  · simp only [e,Int.reduceEq,if_true,if_false,Bool.and_eq_true] at h
    exact strEq_iff.1 h.1.1.1.1.1.1
  · simp only [e,Int.reduceEq,if_true,if_false,Bool.and_eq_true] at h
    exact strEq_iff.1 h.1.1.1.1.1.1
theorem nameS_ne {a:ByteArray} (h:nameS a=true):a≠ByteArray.empty:=by
  rintro rfl
  revert h;decide
theorem Built.defs (B:Built u s):defsS u.vDefs.length [] u.vDefs=true:=by
  have hsh:∀d∈u.vDefs,shapedS d (u.vDefs.length:Int)=true:=fun d hd=>by
    obtain ⟨q,hq,rfl⟩:=dAt_of_mem hd
    exact B.shaped (by rw [←B.len];exact hq)
  refine defsS_of [] u.vDefs hsh (fun _ _ _ h=>by cases h) (fun i j hij hj hn e=>?_)
  have hjs:j<s.length:=by rw [←B.len];exact hj
  have his:i<s.length:=by omega
  have hnj:namedS (dAt u j)=true:=hn
  by_cases hni:namedS (dAt u i)=true
  · have:=B.names i j his hjs (by rw [←B.named his];exact hni) (by rw [←B.named hjs];exact hnj) (by rw [←(B.re i his).name,←(B.re j hjs).name];exact e)
    omega
  · rw [Bool.not_eq_true] at hni
    have h1:=anon_name (B.shaped his) hni
    have h2:=name_of (B.shaped hjs) hnj
    exact nameS_ne h2 ((show (dAt u i).vName=(dAt u j).vName from e).symm.trans h1)
theorem Built.hop (B:Built u s) {q:Nat} (hq:q<s.length) (hr:isRef (dS s q).vKind):hop u q<s.length∧xS s (hop u q)=tx (sT s q) (dS s q).vRef.toNat:=by
  obtain ⟨r,e,h1,h2⟩:=(B.re q hq).ref hr
  unfold Go.Proofs.YtfjppgobidjndaaDoor.hop
  rw [e,Int.toNat_natCast]
  exact ⟨h1,h2⟩
theorem Built.lost (B:Built u s):∀(m q:Nat) (t:api_Types) (k:Nat),q<s.length→(∃l,Wf t l)→k<t.vDefs.length→xS s q=tx t k→lostS t.vDefs m (dAt t k)=false→lostS u.vDefs m (dAt u q)=false:=by
  intro m
  induction m with
  |zero=>
    intro q t k hq hW hk he h
    obtain ⟨l,W⟩:=hW
    obtain ⟨⟨l',W'⟩,hi⟩:=B.src q hq
    simp only [lostS,Bool.not_eq_false'] at h⊢
    rw [B.named hq]
    rcases tx_eq W' W hi hk he with ⟨a,_,_⟩|⟨a,b,c⟩|⟨a,b,c⟩
    · exact a
    · obtain ⟨h2,h3⟩:=(named_iff _).1 h;exact absurd b h2
    · obtain ⟨h2,h3⟩:=(named_iff _).1 h;exact absurd b h3
  |succ m ih=>
    intro q t k hq hW hk he h
    obtain ⟨l,W⟩:=hW
    obtain ⟨⟨l',W'⟩,hi⟩:=B.src q hq
    simp only [lostS,rd_ref] at h⊢
    by_cases hn:namedS (dAt u q)=true
    · rw [if_pos hn]
    · rw [if_neg hn]
      rw [B.named hq] at hn
      have hkind:=anon_kind hn
      obtain ⟨h1,h2⟩:=B.hop hq (by unfold isRef;omega)
      have hkt:namedS (dAt t k)=true→False:=fun hx=>by
        rcases tx_eq W' W hi hk he with ⟨a,_,_⟩|⟨a,b,c⟩|⟨a,b,c⟩
        · exact hn a
        · obtain ⟨h2,h3⟩:=(named_iff _).1 hx;exact h2 b
        · obtain ⟨h2,h3⟩:=(named_iff _).1 hx;exact h3 b
      rw [if_neg hkt] at h
      have hkk:=anon_kind hkt
      have hrl:=ref_lt W hk (by omega)
      have href:tx (sT s q) (dS s q).vRef.toNat=tx t (dAt t k).vRef.toNat:=by
        rcases tx_eq W' W hi hk he with ⟨a,_,_⟩|⟨a,b,c⟩|⟨a,b,c,d⟩
        · exact absurd a hn
        · exact c
        · exact d
      exact ih _ t _ h1 ⟨l,W⟩ hrl.2 (h2.trans href) h
theorem Built.ends (B:Built u s) {q:Nat} (hq:q<s.length):lostS u.vDefs u.vDefs.length (dAt u q)=false:=by
  obtain ⟨⟨l,W⟩,hi⟩:=B.src q hq
  have h:=B.lost _ q (sT s q) (sI s q) hq ⟨l,W⟩ hi rfl (W.ends _ (dAt_mem hi))
  refine lost_soon (t:=u) (n:=u.vDefs.length) (fun i hi hn=>?_) (by rw [B.len];exact hq) h
  rw [B.len] at hi⊢
  rw [B.named hi] at hn
  exact (B.hop hi (by have:=anon_kind (d:=dS s i) (by rw [hn];simp);unfold isRef;omega)).1
theorem Built.sh (B:Built u s):∀d∈u.vDefs,ShD d u.vDefs.length:=defs_of _ _ B.defs
noncomputable def gS (s:Src):List Int:=(List.range s.length).map fun q=>by classical exact if h:∃l,Wf (sT s q) l then (Classical.choose h).getD (sI s q) 0 else 0
theorem gS_at {q:Nat} (hq:q<s.length) {l:List Int} (W:Wf (sT s q) l):(gS s).getD q 0=l.getD (sI s q) 0:=by
  unfold gS
  rw [List.getD_eq_getElem?_getD,List.getElem?_map,List.getElem?_range hq]
  simp only [Option.map_some,Option.getD_some]
  have h:∃l,Wf (sT s q) l:=⟨l,W⟩
  rw [dif_pos h,wf_uniq (Classical.choose_spec h) W]
theorem gS_len:(gS s).length=s.length:=by unfold gS;rw [List.length_map,List.length_range]
theorem Built.cont (B:Built u s) {q:Nat} (hq:q<s.length) {c:Int} (hc:c∈cont (dAt u q)):∃(r:Nat) (c':Int),c=(r:Int)∧r<s.length∧c'∈cont (dS s q)∧xS s r=tx (sT s q) c'.toNat:=by
  have R:=B.re q hq
  rcases cont_kind hc with e|e|e
  · rw [R.kind] at e
    rw [(inner_ref (known:=[]) (.inl (by rw [R.kind];exact e))).2] at hc
    obtain ⟨r,h1,h2,h3⟩:=R.ref (by unfold isRef;omega)
    exact ⟨r,_,by rw [List.mem_singleton.1 hc];exact h1,h2,by rw [(inner_ref (known:=[]) (.inl e)).2];exact List.mem_singleton.2 rfl,h3⟩
  · rw [cont_struct e] at hc
    rw [R.kind] at e
    obtain ⟨f,hf,rfl⟩:=List.mem_map.1 hc
    obtain ⟨j,hj,ej⟩:=List.mem_iff_getElem.1 hf
    have hfj:fAt (dAt u q) j=f:=by unfold fAt;rw [List.getD_eq_getElem?_getD,List.getElem?_eq_getElem hj];exact ej
    rw [R.flen] at hj
    obtain ⟨r,h1,h2,h3⟩:=(R.fld j hj).2.2.1 e
    rw [hfj] at h1
    exact ⟨r,_,h1,h2,by rw [cont_struct e];exact List.mem_map.2 ⟨_,getD_mem hj,rfl⟩,h3⟩
  · rw [R.kind] at e
    rw [(inner_ref (known:=[]) (.inr (by rw [R.kind];exact e))).2] at hc
    obtain ⟨r,h1,h2,h3⟩:=R.ref (by unfold isRef;omega)
    exact ⟨r,_,by rw [List.mem_singleton.1 hc];exact h1,h2,by rw [(inner_ref (known:=[]) (.inr e)).2];exact List.mem_singleton.2 rfl,h3⟩
theorem Built.rank (B:Built u s):∃rk:Nat→Nat,∀q,q<s.length→∀c∈Go.Proofs.YtfjppgobidjndaaDoor.cont (dAt u q),rk c.toNat<rk q:=by
  have hch:∀q,q<s.length→∀c∈(Go.Proofs.YtfjppgobidjndaaDoor.cont (dAt u q)).map Int.toNat,c<s.length:=fun q hq c hc=>by
    obtain ⟨c',h1,rfl⟩:=List.mem_map.1 hc
    obtain ⟨r,_,rfl,h2,_⟩:=B.cont hq h1
    simpa using h2
  have hB:∀q,q<s.length→∃D,Bd (fun q=>(Go.Proofs.YtfjppgobidjndaaDoor.cont (dAt u q)).map Int.toNat) D q:=by
    intro q hq
    obtain ⟨⟨l,W⟩,hi⟩:=B.src q hq
    obtain ⟨rk,hg⟩:=W.sz.ex
    have key:∀(D r k:Nat),rk k=D→r<s.length→k<(sT s q).vDefs.length→xS s r=tx (sT s q) k→Bd (fun q=>(Go.Proofs.YtfjppgobidjndaaDoor.cont (dAt u q)).map Int.toNat) (D+1) r:=by
      intro D
      induction D using Nat.strongRecOn with
      |_ D ih=>
        intro r k hD hr hk he c hc
        obtain ⟨c1,h1,rfl⟩:=List.mem_map.1 hc
        obtain ⟨r2,c2,rfl,h2,h3,h4⟩:=B.cont hr h1
        obtain ⟨_,hir⟩:=B.src r hr
        have M:=B.same r q hr hq _ _ hir hk he
        have hkid:∃c3∈Go.Proofs.YtfjppgobidjndaaDoor.cont (dAt (sT s q) k),tx (sT s r) c2.toNat=tx (sT s q) c3.toNat:=by
          have hk3:=M.kind
          rcases cont_kind h3 with e|e|e
          · have e2:(dAt (sT s q) k).vKind=3:=hk3.symm.trans e
            have h3:c2∈Go.Proofs.YtfjppgobidjndaaDoor.cont (dS s r):=h3
            rw [(inner_ref (known:=[]) (.inl e)).2] at h3
            rw [List.mem_singleton.1 h3]
            exact ⟨_,by rw [(inner_ref (known:=[]) (.inl e2)).2];exact List.mem_singleton.2 rfl,M.ref (.inr (.inl e))⟩
          · have e2:(dAt (sT s q) k).vKind=4:=hk3.symm.trans e
            rw [cont_struct e] at h3
            obtain ⟨c3,h5,h6⟩:=M.kid (c:=c2) (by show c2∈kids (dS s r);rw [kids_struct e];exact h3)
            rw [kids_struct e2] at h5
            exact ⟨c3,by rw [cont_struct e2];exact h5,h6⟩
          · have e2:(dAt (sT s q) k).vKind=6:=hk3.symm.trans e
            have h3:c2∈Go.Proofs.YtfjppgobidjndaaDoor.cont (dS s r):=h3
            rw [(inner_ref (known:=[]) (.inr e)).2] at h3
            rw [List.mem_singleton.1 h3]
            exact ⟨_,by rw [(inner_ref (known:=[]) (.inr e2)).2];exact List.mem_singleton.2 rfl,M.ref (.inr (.inr e))⟩
        obtain ⟨c3,h5,h6⟩:=hkid
        have hlt:=(hg k hk).2.2.1 c3 h5
        have hcr:=cont_range (W.sh _ (dAt_mem hk)) c3 h5
        have:=ih (rk c3.toNat) (by omega) r2 c3.toNat rfl h2 (by omega) (h4.trans h6)
        rw [Int.toNat_natCast]
        exact this.le (by omega)
    exact ⟨_,key _ q (sI s q) rfl hq hi rfl⟩
  obtain ⟨rk,h⟩:=rank_of hch hB
  exact ⟨rk,fun q hq c hc=>h q hq _ (List.mem_map.2 ⟨c,hc,rfl⟩)⟩
theorem Built.size (B:Built u s) {q r k:Nat} (hq:q<s.length) (hr:r<s.length) {l:List Int} (W:Wf (sT s q) l) (hk:k<(sT s q).vDefs.length) (he:xS s r=tx (sT s q) k):(gS s).getD r 0=l.getD k 0:=by
  obtain ⟨⟨m,V⟩,hi⟩:=B.src r hr
  rw [gS_at hr V]
  exact size_match V W (fun a b ha hb=>B.same r q hr hq a b ha hb) _ _ hi hk he
theorem Built.sz (B:Built u s):GoodSz u.vDefs (gS s):=by
  obtain ⟨rk,hrk⟩:=B.rank
  refine ⟨by rw [gS_len,B.len],rk,fun q hq=>?_⟩
  rw [B.len] at hq
  obtain ⟨⟨l,W⟩,hi⟩:=B.src q hq
  obtain ⟨_,hg⟩:=W.sz.ex
  obtain ⟨g1,g2,_,g4⟩:=hg _ hi
  have R:=B.re q hq
  rw [gS_at hq W]
  refine ⟨g1,g2,fun c hc=>hrk q hq c hc,?_⟩
  rw [g4]
  show nval (dS s q) (inner l (dS s q))=nval (dAt u q) (inner (gS s) (dAt u q))
  have href:(dS s q).vKind=3∨(dS s q).vKind=6→inner l (dS s q)=inner (gS s) (dAt u q):=fun h=>by
    rw [(inner_ref (known:=l) h).1,(inner_ref (d:=dAt u q) (known:=gS s) (by rw [R.kind];exact h)).1]
    obtain ⟨r,e,h1,h2⟩:=R.ref (by unfold isRef;omega)
    have hrl:=ref_lt W hi (by show (dS s q).vKind=2∨(dS s q).vKind=3∨(dS s q).vKind=6;omega)
    rw [e]
    exact (B.size hq h1 W hrl.2 h2).symm
  unfold nval
  rw [R.kind,R.int,R.num]
  by_cases e3:(dS s q).vKind=3
  · rw [href (.inl e3)]
  · by_cases e6:(dS s q).vKind=6
    · rw [href (.inr e6)]
    · simp only [if_neg e3,if_neg e6]
theorem placed_congr {l g:List Int} {N:Int}:∀(a b:List api_Field) (x:Int),a.length=b.length→(∀j,j<a.length→(a.getD j z_api_Field).vAt=(b.getD j z_api_Field).vAt∧rd 0 l (a.getD j z_api_Field).vType=rd 0 g (b.getD j z_api_Field).vType)→placedAt l x a=placedAt g x b
  |[],[],x,_,_=>rfl
  |[],_::_,_,h,_=>by simp at h
  |_::_,[],_,h,_=>by simp at h
  |y::a,z::b,x,h,hh=>by
    have h0:=hh 0 (by simp)
    rw [List.getD_cons_zero,List.getD_cons_zero] at h0
    simp only [placedAt,h0.1,h0.2]
    split
    · rfl
    · exact placed_congr (N:=N) a b _ (by simpa using h) (fun j hj=>by simpa using hh (j+1) (by simpa using hj))
theorem Built.wf (B:Built u s):Wf u (gS s):=by
  refine ⟨by rw [B.len];exact B.few,B.defs,B.sz,fun d hd=>?_,fun d hd h4=>?_⟩
  · obtain ⟨q,hq,rfl⟩:=dAt_of_mem hd
    exact B.ends (by rw [←B.len];exact hq)
  · obtain ⟨q,hq,rfl⟩:=dAt_of_mem hd
    rw [B.len] at hq
    obtain ⟨⟨l,W⟩,hi⟩:=B.src q hq
    have R:=B.re q hq
    have h4':(dS s q).vKind=4:=by rw [←R.kind];exact h4
    have hp:=W.placed _ (dAt_mem hi) h4'
    have hp:placedS (dS s q) l=true:=hp
    unfold placedS at hp⊢
    rw [R.num,←placed_congr (l:=l) (g:=gS s) (N:=0) (dS s q).vFields (dAt u q).vFields 0 R.flen.symm (fun j hj=>?_)]
    · exact hp
    · obtain ⟨_,h2,h3,_⟩:=R.fld j hj
      obtain ⟨r,e,hr,hx⟩:=h3 h4'
      have ht:=(W.sh _ (dAt_mem hi)).typ h4' _ (getD_mem (z:=z_api_Field) hj)
      refine ⟨h2.symm,?_⟩
      show rd 0 l (fAt (dS s q) j).vType=rd 0 (gS s) (fAt (dAt u q) j).vType
      rw [e]
      have ht:0≤(fAt (dS s q) j).vType∧(fAt (dS s q) j).vType<(sT s q).vDefs.length:=ht
      exact (B.size hq hr W (by omega) hx).symm
theorem Built.tx (B:Built u s):∀(m q:Nat),q<s.length→lostS u.vDefs m (dAt u q)=false→Go.Proofs.YtfjppgobidjndaaDoor.tx u q=xS s q:=by
  have V:=B.wf
  have base:∀q,q<s.length→namedS (dAt u q)=true→Go.Proofs.YtfjppgobidjndaaDoor.tx u q=xS s q:=fun q hq hn=>by
    obtain ⟨⟨l,W⟩,hi⟩:=B.src q hq
    rw [tx_named (by rw [B.len];exact hq) hn,(B.re q hq).name]
    exact (tx_named hi (by show namedS (dS s q)=true;rw [←B.named hq];exact hn)).symm
  intro m
  induction m with
  |zero=>
    intro q hq h
    simp only [lostS,Bool.not_eq_false'] at h
    exact base q hq h
  |succ m ih=>
    intro q hq h
    simp only [lostS,rd_ref] at h
    by_cases hn:namedS (dAt u q)=true
    · exact base q hq hn
    · rw [if_neg hn] at h
      have hk:=anon_kind hn
      have R:=B.re q hq
      obtain ⟨⟨l,W⟩,hi⟩:=B.src q hq
      obtain ⟨h1,h2⟩:=B.hop hq (by rw [R.kind] at hk;unfold isRef;omega)
      have h3:=ih _ h1 h
      have hqu:q<u.vDefs.length:=by rw [B.len];exact hq
      unfold xS
      rcases hk with e|e
      · rw [tx_ptr V hqu e,tx_ptr W hi (show (dS s q).vKind=2 by rw [←R.kind];exact e)]
        rw [show Go.Proofs.YtfjppgobidjndaaDoor.tx u (dAt u q).vRef.toNat=_ from h3,h2];rfl
      · rw [tx_arr V hqu e,tx_arr W hi (show (dS s q).vKind=3 by rw [←R.kind];exact e)]
        rw [show Go.Proofs.YtfjppgobidjndaaDoor.tx u (dAt u q).vRef.toNat=_ from h3,h2,R.num];rfl
theorem Built.text (B:Built u s) {q:Nat} (hq:q<s.length):Go.Proofs.YtfjppgobidjndaaDoor.tx u q=xS s q:=B.tx _ q hq (B.ends hq)
theorem Built.alike (B:Built u s) {q:Nat} (hq:q<s.length):AlikeS (sT s q) (dS s q) u (dAt u q):=by
  have R:=B.re q hq
  refine ⟨R.kind.symm,R.name.symm,by rw [R.int];exact ⟨rfl,rfl⟩,R.num.symm,fun h=>?_,R.flen.symm,fun j hj=>?_⟩
  · obtain ⟨r,e,h1,h2⟩:=R.ref h
    rw [e,Int.toNat_natCast,B.text h1,h2]
  · obtain ⟨h1,h2,h3,h4⟩:=R.fld j hj
    refine ⟨h1.symm,h2.symm,fun h=>?_⟩
    obtain ⟨r,e,h5,h6⟩:=h3 h
    rw [e,Int.toNat_natCast,B.text h5,h6]
theorem Built.eq (B:Built u s) {t:api_Types} {l:List Int} (W:Wf t l) (hsame:∀q,q<s.length→∀k k',k<t.vDefs.length→k'<(sT s q).vDefs.length→Go.Proofs.YtfjppgobidjndaaDoor.tx t k=Go.Proofs.YtfjppgobidjndaaDoor.tx (sT s q) k'→Match t (dAt t k) (sT s q) (dAt (sT s q) k'))
    {i j:Nat} (hi:i<t.vDefs.length) (hall:∀k,Rch t i k→∃q,q<s.length∧xS s q=Go.Proofs.YtfjppgobidjndaaDoor.tx t k) (hj:j<s.length) (he:xS s j=Go.Proofs.YtfjppgobidjndaaDoor.tx t i):EqS t i u j:=by
  refine ⟨by rw [B.text hj,he],fun k hr hn=>?_⟩
  have hk:=hr.lt W hi
  obtain ⟨q,hq,hx⟩:=hall k hr
  obtain ⟨_,hiq⟩:=B.src q hq
  have M:=hsame q hq k _ hk hiq hx.symm
  have A:=B.alike hq
  refine ⟨q,by rw [B.len];exact hq,?_,(M.alike hn).trans A⟩
  rw [B.named hq]
  exact M.named hn
end
end Go.Proofs.YtfjppgobidjndaaDoor
namespace Go.Proofs.YtfjppgobidjndaaDoor
open Go.RowKit Go.M
theorem mfind_put {ν:Type} (m:List (ByteArray×ν)) (k s:ByteArray) (v:ν):mfind strEq (mput strEq m k v) s=if s=k then some v else mfind strEq m s:=by
  induction m with
  |nil=>
    simp only [mput,mfind]
    by_cases h:s=k
    · rw [if_pos (strEq_iff.2 h),if_pos h]
    · rw [if_neg (fun e=>h (strEq_iff.1 e)),if_neg h]
  |cons p m ih=>
    simp only [mput]
    by_cases hk:strEq k p.1=true
    · rw [if_pos hk]
      have:=strEq_iff.1 hk
      simp only [mfind]
      by_cases hs:s=k
      · rw [if_pos (strEq_iff.2 hs),if_pos hs]
      · rw [if_neg (fun e=>hs (strEq_iff.1 e)),if_neg hs,if_neg (fun e=>hs ((strEq_iff.1 e).trans this.symm))]
    · rw [if_neg hk]
      simp only [mfind]
      by_cases hs:strEq s p.1=true
      · rw [if_pos hs]
        have h1:=strEq_iff.1 hs
        rw [if_neg (fun e=>hk (strEq_iff.2 (e.symm.trans h1))),if_pos hs]
      · rw [if_neg hs,ih,if_neg hs]
theorem fieldsS_names {d:api_Def} {n:Int} {ns:List ByteArray} {l:List api_Field} (h:fieldsS d n ns l=true):∀f∈l,nameS f.vName=true:=fun f hf=>((fields_of ns l h).1 f hf).1
theorem Wf.fit {t:api_Types} {l:List Int} (W:Wf t l):∀d∈t.vDefs,FitD d:=by
  intro d hd
  have h:=shaped_mem _ _ W.defs _ hd
  have hs:=W.sh d hd
  refine ⟨?_,by have:=hs.few;omega,fun f hf=>?_⟩
  · cases hn:namedS d with
    |true=>have:=name_len (name_of h hn);omega
    |false=>rw [anon_name h hn];decide
  · have hf':nameS f.vName=true:=by
      unfold shapedS at h
      cases hsh:shp d.vKind with
      |none=>rw [hsh] at h;cases h
      |some σ=>
        rw [hsh] at h
        simp only [Bool.and_eq_true] at h
        exact fieldsS_names h.2 f hf
    have:=name_len hf'
    omega
def mvS (to:Int→Int) (d:api_Def):api_Def:=
  ⟨d.vKind,d.vName,d.vInt,if isRef d.vKind then to d.vRef else d.vRef,d.vN,if d.vKind=4 then d.vFields.map (fun f=>⟨f.vName,to f.vType,f.vAt⟩) else d.vFields⟩
theorem set_at {α:Type} (a:List α) (x y:α) (b:List α):List.set (a++x::b) a.length y=a++y::b:=by
  induction a with
  |nil=>rfl
  |cons z a ih=>simp only [List.cons_append,List.length_cons,List.set_cons_succ,ih]
theorem getD_at {α:Type} (a:List α) (x z:α) (b:List α):(a++x::b).getD a.length z=x:=by
  rw [List.getD_eq_getElem?_getD,List.getElem?_append_right (Nat.le_refl _),Nat.sub_self];rfl
theorem moved_loop {a1:Nat→Int→Option Int} {to:Int→Int} {L:List api_Field} (hL:L.length≤9223372036854775807):∀(r p:List api_Field),p.length+r.length=L.length→(∀f∈r,Ev (fun k=>a1 k f.vType) (to f.vType))→
    Ev2 (fun k m=>ctf_moved.l0 (a1 k) L m (p.length:Int) (p++r)) (p++r.map (fun f=>⟨f.vName,to f.vType,f.vAt⟩))
  |[],p,hl,_=>by
    refine Ev2.pure fun k m=>?_
    rw [ctf_moved.l0,if_neg (by simp only [List.length_nil] at hl;simp;omega)]
    rfl
  |f::r,p,hl,h=>by
    simp only [List.length_cons] at hl
    have h2:=moved_loop (a1:=a1) (to:=to) hL r (p++[⟨f.vName,to f.vType,f.vAt⟩]) (by simp;omega) (fun g hg=>h g (List.mem_cons_of_mem _ hg))
    have hlt:p.length<L.length:=by omega
    have hr:rd z_api_Field (p++f::r) (p.length:Int)=f:=by rw [rd_nat,getD_at]
    refine Ev2.step (h f List.mem_cons_self) (r:=fun k m v4=>ctf_moved.l0 (a1 k) L m ((p.length+1:Nat):Int) (p++⟨f.vName,v4,f.vAt⟩::r)) ?_ (fun k m=>?_)
    · rw [List.map_cons]
      simp only [List.length_append,List.length_cons,List.length_nil,List.append_assoc,List.singleton_append,Nat.zero_add] at h2
      exact h2
    · rw [ctf_moved.l0,if_pos (by simp;omega),if_pos (by omega),hr]
      simp only [Int.toNat_natCast]
      refine congrArg _ (funext fun v4=>?_)
      rw [if_pos (by omega),wrap_nat hlt hL,set_at]
theorem moved_ev {t:api_Types} {l:List Int} (W:Wf t l) {i:Nat} (hi:i<t.vDefs.length) {a1:Nat→Int→Option Int} {to:Int→Int} (h:∀c∈kids (dAt t i),Ev (fun k=>a1 k c) (to c)):Ev (fun k=>ctf_moved.f k (dAt t i) (a1 k)) (mvS to (dAt t i)):=by
  have hd:=W.sh _ (dAt_mem hi)
  have hfew:=hd.few
  obtain ⟨ms,hms,hsh⟩:=shapes_find (dAt t i).vKind
  have hcl:slices_Clone_api_Field_api_Field.f (dAt t i).vFields=some (dAt t i).vFields:=by unfold slices_Clone_api_Field_api_Field.f;rw [if_pos (by omega)]
  have key:∀(k:Nat),ctf_moved.f k (dAt t i) (a1 k)=((if isRef (dAt t i).vKind then a1 k (dAt t i).vRef else some (dAt t i).vRef).bind fun xx1=>if (dAt t i).vKind=4 then ((ctf_moved.l0 (a1 k) (dAt t i).vFields k 0 (dAt t i).vFields).bind fun xx2=>some ⟨(dAt t i).vKind,(dAt t i).vName,(dAt t i).vInt,xx1,(dAt t i).vN,xx2⟩) else some ⟨(dAt t i).vKind,(dAt t i).vName,(dAt t i).vInt,xx1,(dAt t i).vN,(dAt t i).vFields⟩):=by
    intro k
    unfold ctf_moved.f
    rw [hcl]
    simp only [Option.bind_some]
    rw [hms]
    simp only [Option.bind_some]
    rw [hsh,shp_ref]
    by_cases hk:isRef (dAt t i).vKind
    · rw [if_pos hk,if_pos (decide_eq_true hk),Option.bind_assoc]
      refine congrArg _ (funext fun v=>?_)
      simp only [Option.bind_some,beq_iff_eq]
    · rw [if_neg hk,if_neg (by simpa using hk)]
      simp only [Option.bind_some,beq_iff_eq]
  by_cases hk:isRef (dAt t i).vKind
  · have h4:(dAt t i).vKind≠4:=by unfold isRef at hk;omega
    obtain ⟨K,hK⟩:=h (dAt t i).vRef (by rw [kids_ref hk];exact List.mem_singleton.2 rfl)
    refine ⟨K,fun k hk'=>?_⟩
    show ctf_moved.f k _ _=_
    rw [key k,if_pos hk,show a1 k _=_ from hK k hk']
    simp only [Option.bind_some]
    unfold mvS
    rw [if_neg h4,if_neg h4,if_pos hk]
  · by_cases h4:(dAt t i).vKind=4
    · obtain ⟨K,hK⟩:=(moved_loop (a1:=a1) (to:=to) (L:=(dAt t i).vFields) (by omega) (dAt t i).vFields [] (by simp) (fun f hf=>h f.vType (by rw [kids_struct h4];exact List.mem_map.2 ⟨f,hf,rfl⟩))).diag
      refine ⟨K,fun k hk'=>?_⟩
      show ctf_moved.f k _ _=_
      rw [key k,if_neg hk]
      simp only [Option.bind_some]
      rw [if_pos h4,show ctf_moved.l0 (a1 k) (dAt t i).vFields k 0 (dAt t i).vFields=_ from hK k hk']
      unfold mvS
      rw [if_neg hk,if_pos h4]
      rfl
    · refine Ev.pure fun k=>?_
      rw [key k,if_neg hk]
      simp only [Option.bind_some]
      unfold mvS
      rw [if_neg hk,if_neg h4,if_neg h4]
theorem mvS_id {to:Int→Int} {d:api_Def} (h:∀c∈kids d,to c=c):mvS to d=d:=by
  unfold mvS
  have h1:(if isRef d.vKind then to d.vRef else d.vRef)=d.vRef:=by
    split
    · next hk=>exact h _ (by rw [kids_ref hk];exact List.mem_singleton.2 rfl)
    · rfl
  have h2:(if d.vKind=4 then d.vFields.map (fun f=>(⟨f.vName,to f.vType,f.vAt⟩:api_Field)) else d.vFields)=d.vFields:=by
    split
    · next h4=>
      have:∀f∈d.vFields,(⟨f.vName,to f.vType,f.vAt⟩:api_Field)=f:=fun f hf=>by rw [h _ (by rw [kids_struct h4];exact List.mem_map.2 ⟨f,hf,rfl⟩)]
      rw [List.map_congr_left this,List.map_id']
    · rfl
  rw [h1,h2]
def toS (l:List ctf_source):Src:=l.map fun x=>(x.vt,x.vi.toNat)
theorem toS_len (l:List ctf_source):(toS l).length=l.length:=List.length_map ..
theorem toS_at {l:List ctf_source} {q:Nat} (hq:q<l.length):sT (toS l) q=(l.getD q z_ctf_source).vt∧sI (toS l) q=(l.getD q z_ctf_source).vi.toNat:=by
  unfold sT sI toS
  rw [List.getD_eq_getElem?_getD,List.getElem?_map,List.getD_eq_getElem?_getD,List.getElem?_eq_getElem hq]
  exact ⟨rfl,rfl⟩
structure Pool (m:List (ByteArray×Int)) (l:List ctf_source):Prop where
  src:∀x∈l,(∃s,Wf x.vt s)∧x.vi=((x.vi.toNat:Nat):Int)∧x.vi.toNat<x.vt.vDefs.length
  fst:∀s n,mfind strEq m s=some n→∃q:Nat,n=(q:Int)∧q<l.length∧xS (toS l) q=s
  all:∀q,q<l.length→mfind strEq m (xS (toS l) q)=some (q:Int)
theorem Pool.nil:Pool [] []:=by
  refine ⟨?_,?_,?_⟩
  · intro x hx;cases hx
  · intro s n h;simp [mfind] at h
  · intro q h;simp at h
theorem xS_app {l r:List ctf_source} {q:Nat} (hq:q<l.length):xS (toS (l++r)) q=xS (toS l) q:=by
  unfold xS sT sI toS
  rw [List.map_append,List.getD_eq_getElem?_getD,List.getD_eq_getElem?_getD,List.getElem?_append_left (by simpa using hq)]
theorem xS_last {l:List ctf_source} {x:ctf_source}:xS (toS (l++[x])) l.length=tx x.vt x.vi.toNat:=by
  unfold xS sT sI toS
  rw [List.map_append,List.getD_eq_getElem?_getD,List.getElem?_append_right (by simp)]
  simp
section
variable {m:List (ByteArray×Int)} {l:List ctf_source}
theorem Pool.inj (P:Pool m l) {q r:Nat} (hq:q<l.length) (hr:r<l.length) (h:xS (toS l) q=xS (toS l) r):q=r:=by
  have h1:=P.all q hq
  rw [h,P.all r hr] at h1
  have:=Option.some.inj h1
  omega
theorem Pool.push (P:Pool m l) {t:api_Types} {s:List Int} (W:Wf t s) {i:Nat} (hi:i<t.vDefs.length) (hn:mfind strEq m (tx t i)=none):Pool (mput strEq m (tx t i) (l.length:Int)) (l++[⟨t,(i:Int)⟩]):=by
  refine ⟨fun x hx=>?_,fun s n h=>?_,fun q hq=>?_⟩
  · rcases List.mem_append.1 hx with h|h
    · exact P.src x h
    · rw [List.mem_singleton.1 h];exact ⟨⟨s,W⟩,by simp,by simpa using hi⟩
  · rw [mfind_put] at h
    split at h
    · next e=>
      injection h with h
      exact ⟨l.length,h.symm,by simp,by rw [xS_last,e];rfl⟩
    · obtain ⟨q,h1,h2,h3⟩:=P.fst s n h
      exact ⟨q,h1,by simp;omega,by rw [xS_app h2];exact h3⟩
  · rw [List.length_append,List.length_singleton] at hq
    rw [mfind_put]
    by_cases e:q=l.length
    · subst e;rw [xS_last];exact if_pos rfl
    · have hq':q<l.length:=by omega
      rw [xS_app hq',P.all q hq',if_neg (fun e2=>by rw [←e2,P.all q hq'] at hn;cases hn)]
structure Added (t:api_Types) (m:List (ByteArray×Int)) (l:List ctf_source) (j:Nat) (ix:List Int) (m':List (ByteArray×Int)) (l':List ctf_source):Prop where
  pool:Pool m' l'
  ext:∃r,l'=l++r∧∀x∈r,∃i:Nat,j≤i∧i<t.vDefs.length∧x=⟨t,(i:Int)⟩
  len:ix.length+j=t.vDefs.length
  at_:∀i,i<ix.length→∃q:Nat,ix.getD i 0=(q:Int)∧q<l'.length∧xS (toS l') q=tx t (j+i)
  met:∀q,l.length≤q→q<l'.length→∃i,i<ix.length∧ix.getD i 0=(q:Int)
  few:l'.length≤l.length+ix.length
theorem add_loop {t:api_Types} {s:List Int} (W:Wf t s):∀(e j:Nat) (p:List Int) (m:List (ByteArray×Int)) (l:List ctf_source),j+e=t.vDefs.length→Pool m l→l.length+e≤100000→p.length=j→∃ix m' l',Ev2 (fun k q=>ctf_pool_add.l0 k t q (j:Int) p l m) (p++ix,l',m')∧Added t m l j ix m' l':=by
  have hn:=W.few
  intro e
  induction e with
  |zero=>
    intro j p m l hj P hl hp
    refine ⟨[],m,l,Ev2.pure fun k q=>?_,P,⟨[],by simp,fun _ h=>by cases h⟩,by simpa using hj,fun i h=>by simp at h,fun q h1 h2=>by omega,by simp⟩
    rw [ctf_pool_add.l0,if_neg (by simp;omega),List.append_nil]
  |succ e ih=>
    intro j p m l hj P hl hp
    have hlt:j<t.vDefs.length:=by omega
    obtain ⟨⟨Kt,hKt⟩,_⟩:=text_ev W hlt
    cases hf:mfind strEq m (tx t j) with
    |some n=>
      obtain ⟨q0,e0,h1,h2⟩:=P.fst _ _ hf
      obtain ⟨ix,m',l',⟨K,hK⟩,A⟩:=ih (j+1) (p++[n]) m l (by omega) P (by omega) (by simp;omega)
      obtain ⟨r,hr,hr2⟩:=A.ext
      refine ⟨n::ix,m',l',⟨max Kt K+1,fun k q hk hq=>?_⟩,A.pool,⟨r,hr,fun x hx=>by obtain ⟨i,a,b,c⟩:=hr2 x hx;exact ⟨i,by omega,b,c⟩⟩,by have:=A.len;simp;omega,fun i hi=>?_,fun q h1 h2=>?_,by have:=A.few;simp at this⊢;omega⟩
      · obtain ⟨q,rfl⟩:∃x,q=x+1:=⟨q-1,by omega⟩
        show ctf_pool_add.l0 k t (q+1) _ _ _ _=_
        rw [ctf_pool_add.l0,if_pos (by simp;omega),show ctf_text.f k t (j:Int)=_ from hKt k (by omega)]
        simp only [Option.bind_some]
        rw [hf]
        simp only [Option.isSome_some,Bool.not_true,Bool.false_eq_true,if_false,Option.bind_some,Option.getD_some]
        rw [if_pos (by omega),wrap_nat hlt (by omega),show ctf_pool_add.l0 k t q _ _ _ _=_ from hK k q (by omega) (by omega),List.append_assoc]
        rfl
      · cases i with
        |zero=>
          refine ⟨q0,by simpa using e0,by rw [hr,List.length_append];omega,?_⟩
          rw [hr,xS_app h1,h2];rfl
        |succ i=>
          obtain ⟨q,a,b,c⟩:=A.at_ i (by simpa using hi)
          exact ⟨q,by simpa using a,b,by rw [c];congr 1;omega⟩
      · obtain ⟨i,a,b⟩:=A.met q h1 h2
        exact ⟨i+1,by simpa using a,by simpa using b⟩
    |none=>
      have P2:=P.push W hlt hf
      obtain ⟨ix,m',l',⟨K,hK⟩,A⟩:=ih (j+1) (p++[(l.length:Int)]) _ _ (by omega) P2 (by simp;omega) (by simp;omega)
      obtain ⟨r,hr,hr2⟩:=A.ext
      have hl2:l'.length=l.length+1+r.length:=by rw [hr];simp;omega
      refine ⟨(l.length:Int)::ix,m',l',⟨max Kt K+1,fun k q hk hq=>?_⟩,A.pool,⟨⟨t,(j:Int)⟩::r,by rw [hr];simp,fun x hx=>?_⟩,by have:=A.len;simp;omega,fun i hi=>?_,fun q h1 h2=>?_,by have:=A.few;simp at this⊢;omega⟩
      · obtain ⟨q,rfl⟩:∃x,q=x+1:=⟨q-1,by omega⟩
        show ctf_pool_add.l0 k t (q+1) _ _ _ _=_
        rw [ctf_pool_add.l0,if_pos (by simp;omega),show ctf_text.f k t (j:Int)=_ from hKt k (by omega)]
        simp only [Option.bind_some]
        rw [hf]
        simp only [Option.isSome_none,Bool.not_false,if_true]
        rw [if_pos (by omega)]
        simp only [Option.bind_some]
        rw [if_pos (by omega),wrap_nat hlt (by omega),show ctf_pool_add.l0 k t q _ _ _ _=_ from hK k q (by omega) (by omega),List.append_assoc]
        rfl
      · rcases List.mem_cons.1 hx with h|h
        · exact ⟨j,Nat.le_refl _,hlt,h⟩
        · obtain ⟨i,a,b,c⟩:=hr2 x h;exact ⟨i,by omega,b,c⟩
      · cases i with
        |zero=>
          refine ⟨l.length,by simp,by omega,?_⟩
          rw [hr,xS_app (by simp),xS_last];simp
        |succ i=>
          obtain ⟨q,a,b,c⟩:=A.at_ i (by simpa using hi)
          exact ⟨q,by simpa using a,b,by rw [c];congr 1;omega⟩
      · by_cases e:q=l.length
        · subst e;exact ⟨0,by simp,by simp⟩
        · obtain ⟨i,a,b⟩:=A.met q (by simp;omega) h2
          exact ⟨i+1,by simpa using a,by simpa using b⟩
theorem add_ev {t:api_Types} {s:List Int} (W:Wf t s) (P:Pool m l) (hl:l.length≤50000):∃ix m' l',Ev (fun k=>ctf_pool_add.f k m l t) (ix,m',l')∧Added t m l 0 ix m' l':=by
  obtain ⟨ix,m',l',h,A⟩:=add_loop W t.vDefs.length 0 [] m l (by omega) P (by have:=W.few;omega) rfl
  obtain ⟨K,hK⟩:=h.diag
  refine ⟨ix,m',l',⟨K,fun k hk=>?_⟩,A⟩
  show ctf_pool_add.f k m l t=_
  unfold ctf_pool_add.f
  rw [show ctf_pool_add.l0 k t k 0 [] l m=_ from hK k hk]
  rfl
def posP (m:List (ByteArray×Int)) (s:ByteArray):Int:=(mfind strEq m s).getD 0
noncomputable def outP (m:List (ByteArray×Int)) (l:List ctf_source):api_Types:=⟨l.map fun x=>mvS (fun c=>posP m (tx x.vt c.toNat)) (dAt x.vt x.vi.toNat)⟩
theorem types_loop (P:Pool m l) (hl:l.length≤100000):∀(e j:Nat) (p:List api_Def),j+e=l.length→p.length=j→Ev2 (fun k q=>ctf_pool_types.l0 k m l q (j:Int) p) (p++(outP m (l.drop j)).vDefs):=by
  intro e
  induction e with
  |zero=>
    intro j p hj hp
    refine Ev2.pure fun k q=>?_
    rw [ctf_pool_types.l0,if_neg (by simp;omega),List.drop_eq_nil_of_le (by omega)]
    simp [outP]
  |succ e ih=>
    intro j p hj hp
    have hlt:j<l.length:=by omega
    have hx:=getD_mem (z:=z_ctf_source) hlt
    obtain ⟨⟨s,W⟩,h1,h2⟩:=P.src _ hx
    generalize hxe:l.getD j z_ctf_source=x at hx W h1 h2
    have hmv:=moved_ev W h2 (a1:=fun k z0=>ctf_pool_types_1.f k z0 m x) (to:=fun c=>posP m (tx x.vt c.toNat)) (fun c hc=>by
      obtain ⟨c1,c2⟩:=kids_range W h2 hc
      obtain ⟨⟨K,hK⟩,_⟩:=text_ev W c2
      refine ⟨K,fun k hk=>?_⟩
      show ctf_pool_types_1.f k c m x=_
      unfold ctf_pool_types_1.f
      rw [c1,show ctf_text.f k x.vt _=_ from hK k hk]
      rfl)
    refine Ev2.step hmv (r:=fun k q v1=>ctf_pool_types.l0 k m l q ((j+1:Nat):Int) (p++[v1])) ?_ (fun k q=>?_)
    · have:=ih (j+1) (p++[mvS (fun c=>posP m (tx x.vt c.toNat)) (dAt x.vt x.vi.toNat)]) (by omega) (by simp;omega)
      rw [List.append_assoc] at this
      have hd:l.drop j=x::l.drop (j+1):=by rw [drop_getD z_ctf_source hlt,hxe]
      rw [hd]
      exact this
    · rw [ctf_pool_types.l0,if_pos (by simp;omega),if_pos (by omega),rd_nat,hxe,if_pos (by omega),h1,rd_dAt]
      simp only [Int.toNat_natCast]
      refine congrArg _ (funext fun v=>?_)
      rw [if_pos (by omega),wrap_nat hlt (by omega)]
theorem types_ev (P:Pool m l) (hl:l.length≤100000):Ev (fun k=>ctf_pool_types.f k m l) (outP m l):=by
  have h:=types_loop P hl l.length 0 [] (by omega) rfl
  rw [List.drop_zero] at h
  obtain ⟨K,hK⟩:=h.diag
  refine ⟨K,fun k hk=>?_⟩
  show ctf_pool_types.f k m l=_
  unfold ctf_pool_types.f
  rw [show ctf_pool_types.l0 k m l k 0 []=_ from hK k hk]
  rfl
theorem outP_at {q:Nat} (hq:q<l.length):dAt (outP m l) q=mvS (fun c=>posP m (tx (sT (toS l) q) c.toNat)) (dS (toS l) q):=by
  unfold dAt outP dS
  obtain ⟨h1,h2⟩:=toS_at hq
  rw [h1,h2,List.getD_eq_getElem?_getD,List.getElem?_map,List.getD_eq_getElem?_getD,List.getElem?_eq_getElem hq]
  rfl
theorem outP_len:(outP m l).vDefs.length=l.length:=List.length_map ..
def Has (m:List (ByteArray×Int)) (t:api_Types):Prop:=∀i,i<t.vDefs.length→∃n,mfind strEq m (tx t i)=some n
theorem Pool.re (P:Pool m l) (hH:∀q,q<l.length→Has m (sT (toS l) q)) {q:Nat} (hq:q<l.length):Re (outP m l) (toS l) q:=by
  have hx:=getD_mem (z:=z_ctf_source) hq
  obtain ⟨⟨s,W⟩,h1,h2⟩:=P.src _ hx
  obtain ⟨e1,e2⟩:=toS_at hq
  rw [←e1] at W h2
  rw [←e2] at h2
  have to_:∀c∈kids (dS (toS l) q),∃r:Nat,posP m (tx (sT (toS l) q) c.toNat)=(r:Int)∧r<(toS l).length∧xS (toS l) r=tx (sT (toS l) q) c.toNat:=fun c hc=>by
    obtain ⟨_,c2⟩:=kids_range W h2 hc
    obtain ⟨n,hn⟩:=hH q hq _ c2
    obtain ⟨r,a,b,d⟩:=P.fst _ _ hn
    exact ⟨r,by unfold posP;rw [hn];exact a,by rw [toS_len];exact b,d⟩
  have h:=outP_at (m:=m) hq
  refine ⟨by rw [h];rfl,by rw [h];rfl,by rw [h];rfl,by rw [h];rfl,fun hk=>?_,fun hk=>?_,?_,fun j hj=>?_⟩
  · rw [h]
    obtain ⟨r,a,b,c⟩:=to_ (dS (toS l) q).vRef (by rw [kids_ref hk];exact List.mem_singleton.2 rfl)
    refine ⟨r,?_,b,c⟩
    show (if isRef (dS (toS l) q).vKind then _ else _)=_
    rw [if_pos hk];exact a
  · rw [h]
    show (if isRef (dS (toS l) q).vKind then _ else _)=_
    rw [if_neg hk]
  · rw [h]
    show (if (dS (toS l) q).vKind=4 then _ else _:List api_Field).length=_
    split
    · rw [List.length_map]
    · rfl
  · rw [h]
    by_cases h4:(dS (toS l) q).vKind=4
    · have hf:fAt (mvS (fun c=>posP m (tx (sT (toS l) q) c.toNat)) (dS (toS l) q)) j=⟨(fAt (dS (toS l) q) j).vName,posP m (tx (sT (toS l) q) (fAt (dS (toS l) q) j).vType.toNat),(fAt (dS (toS l) q) j).vAt⟩:=by
        unfold fAt
        show (if (dS (toS l) q).vKind=4 then (dS (toS l) q).vFields.map _ else _).getD j z_api_Field=_
        rw [if_pos h4,List.getD_eq_getElem?_getD,List.getElem?_map,List.getD_eq_getElem?_getD,List.getElem?_eq_getElem hj]
        rfl
      rw [hf]
      exact ⟨rfl,rfl,fun _=>to_ _ (by rw [kids_struct h4];exact List.mem_map.2 ⟨_,getD_mem hj,rfl⟩),fun h=>absurd h4 h⟩
    · have hf:fAt (mvS (fun c=>posP m (tx (sT (toS l) q) c.toNat)) (dS (toS l) q)) j=fAt (dS (toS l) q) j:=by
        unfold fAt
        show (if (dS (toS l) q).vKind=4 then (dS (toS l) q).vFields.map _ else _).getD j z_api_Field=_
        rw [if_neg h4]
      rw [hf]
      exact ⟨rfl,rfl,fun h=>absurd h h4,fun _=>rfl⟩
theorem Pool.built (P:Pool m l) (hl:l.length≤200) (hH:∀q,q<l.length→Has m (sT (toS l) q))
    (hM:∀q r,q<l.length→r<l.length→∀k k',k<(sT (toS l) q).vDefs.length→k'<(sT (toS l) r).vDefs.length→tx (sT (toS l) q) k=tx (sT (toS l) r) k'→Match (sT (toS l) q) (dAt (sT (toS l) q) k) (sT (toS l) r) (dAt (sT (toS l) r) k')):Built (outP m l) (toS l):=by
  have src:∀q,q<(toS l).length→(∃s,Wf (sT (toS l) q) s)∧sI (toS l) q<(sT (toS l) q).vDefs.length:=fun q hq=>by
    rw [toS_len] at hq
    obtain ⟨h,_,h2⟩:=P.src _ (getD_mem (z:=z_ctf_source) hq)
    obtain ⟨e1,e2⟩:=toS_at hq
    rw [e1,e2];exact ⟨h,h2⟩
  refine ⟨by rw [outP_len,toS_len],by rw [toS_len];exact hl,src,fun q hq=>P.re hH (by rw [←toS_len];exact hq),fun q r hq hr hn hn' he=>?_,fun q r hq hr=>hM q r (by rw [←toS_len];exact hq) (by rw [←toS_len];exact hr)⟩
  have h1:xS (toS l) q=(dS (toS l) q).vName:=tx_named (src q hq).2 hn
  have h2:xS (toS l) r=(dS (toS l) r).vName:=tx_named (src r hr).2 hn'
  exact P.inj (by rw [←toS_len];exact hq) (by rw [←toS_len];exact hr) (by rw [h1,h2,he])
end
theorem match_self {t:api_Types} {l:List Int} (W:Wf t l) {k k':Nat} (hk:k<t.vDefs.length) (hk':k'<t.vDefs.length) (h:tx t k=tx t k'):Match t (dAt t k) t (dAt t k'):=by
  rcases tx_eq W W hk hk' h with ⟨a,b,c⟩|x|x
  · have:=name_uniq W hk hk' a b c
    subst this
    exact .inl ⟨a,a, .refl⟩
  · exact .inr (.inl x)
  · exact .inr (.inr x)
end Go.Proofs.YtfjppgobidjndaaDoor
namespace Go.Proofs.YtfjppgobidjndaaDoor
open Go.RowKit Go.M
def taplinelaw08_rising.l0 (a0:List Int):Nat→Int→Option ((Bool)⊕(Unit))
 |0,_=>none
 |m+1,y1_0=>if (decide (y1_0<(a0.length:Int)))=true then (if 0≤y1_0∧y1_0<a0.length then (if ((rd 0 a0 y1_0) !=y1_0)=true then (some (.inl false)) else (taplinelaw08_rising.l0 a0 m (IntKind.wrap .i64 (y1_0+1)))) else none) else (some (.inr ()))
def taplinelaw08_rising.f (k:Nat) (a0:List Int):Option (Bool):=(taplinelaw08_rising.l0 a0 k 0).bind fun xx1=>(match xx1 with| .inl r=>some r| .inr s1=>some true)
set_option maxRecDepth 20000 in
set_option maxHeartbeats 4000000 in
theorem taplinelaw08_rising.calls (k:Nat) (a0:List Int) (A0_0:Option Addr) (c0_0:Nat) {h0:View} {w0:World} (hv:Sees h0 w0) (hr0_0:Rd (Kd.int .i64) h0 A0_0 a0) (hc0_0:a0.length≤c0_0) {r:Bool} (H:taplinelaw08_rising.f k a0=some r):Calls Tryd.prog 31 #[vL A0_0 a0.length c0_0] w0 (fun e w1=>e= .returned (vB r)∧Ext w0 w1):=by
 unfold taplinelaw08_rising.f at H
 have HS:St [] h0 w0 h0 [] w0:=St.init hv
 go_enter Tryd.func31,Tryd.ntmps31
 refine wp_seq ?_
 refine region ?_
 refine rs (vB false) (r_assign rfl) ?_
 try simp only [sc0,sc1]
 refine run_nil ?_
 refine norm_then ?_
 refine wp_seq ?_
 refine wp_seq ?_
 refine region ?_
 refine rs (vI 0) (r_assign rfl) ?_
 try simp only [sc0,sc1]
 refine run_nil ?_
 refine norm_then ?_
 obtain ⟨xx1,H,G1⟩:=of_bind H
 refine loop_patch [2,3,4,5,6,7,8,9,10,11,12,13,14,15] (fun m us w'=>∃y1_0:Int,∃uy1_2 uy1_4 uy1_5 uy1_6 uy1_7 uy1_8 uy1_9 uy1_10 uy1_11 uy1_12 uy1_13 uy1_14 uy1_15:Value,us=[uy1_2,vI y1_0,uy1_4,uy1_5,uy1_6,uy1_7,uy1_8,uy1_9,uy1_10,uy1_11,uy1_12,uy1_13,uy1_14,uy1_15]∧taplinelaw08_rising.l0 a0 m y1_0=some xx1∧St [] h0 w0 h0 [] w') (fun us w'=>∃(s1:Unit),xx1= .inr s1∧∃uo1_2 uo1_3 uo1_4 uo1_5 uo1_6 uo1_7 uo1_8 uo1_9 uo1_10 uo1_11 uo1_12 uo1_13 uo1_14 uo1_15:Value,us=[uo1_2,uo1_3,uo1_4,uo1_5,uo1_6,uo1_7,uo1_8,uo1_9,uo1_10,uo1_11,uo1_12,uo1_13,uo1_14,uo1_15]∧St [] h0 w0 h0 [] w') k [vB false,vI 0,undef,undef,undef,undef,undef,undef,undef,undef,undef,undef,undef,undef] (by simp only [patch,sc0,sc1]) ⟨0,_,_,_,_,_,_,_,_,_,_,_,_,_,rfl,H,HS⟩ ?_ ?_
 ·rintro m us w1 ⟨y1_0,uy1_2,uy1_4,uy1_5,uy1_6,uy1_7,uy1_8,uy1_9,uy1_10,uy1_11,uy1_12,uy1_13,uy1_14,uy1_15,rfl,H,HS1⟩
  cases m with
  |zero=>exact absurd H (by simp [taplinelaw08_rising.l0])
  |succ m=>
   rw [taplinelaw08_rising.l0] at H
   try simp only [patch,sc0,sc1]
   refine wp_seq ?_
   refine wp_seq ?_
   refine region ?_
   refine rs (vI y1_0) (r_move rfl) ?_
   refine rs (vL A0_0 a0.length c0_0) (r_move rfl) ?_
   refine rs (vI (a0.length:Int)) (r_len rfl Tryd.runUnderlying62) ?_
   refine rs (vB (decide (y1_0<(a0.length:Int)))) (r_bin rfl rfl rfl) ?_
   try simp only [sc0,sc1]
   refine run_nil ?_
   refine norm_then ?_
   refine wp_cond_split (t:=(decide (y1_0<(a0.length:Int)))) rfl (fun c1=>?_) (fun c1=>?_)
   ·replace H:=of_pos H c1
    refine wp_skip ?_
    refine norm_then ?_
    refine wp_seq ?_
    refine wp_block ?_
    refine wp_seq ?_
    refine region ?_
    refine rs (vL A0_0 a0.length c0_0) (r_move rfl) ?_
    refine rs (vI y1_0) (r_move rfl) ?_
    obtain ⟨hi1,H⟩:=of_ite H
    obtain ⟨ad1,e1,hel1⟩:=ld_int hr0_0 hi1.1 hi1.2
    refine rs (Value.pointer (some (Addr.add ad1 (y1_0.toNat*1)))) (r_indexA (sz:=1) rfl e1 rfl hi1.1 hi1.2 Tryd.runUnderlying62 Tryd.sizeOf3) ?_
    refine rs (vI (rd 0 a0 y1_0)) (r_load rfl Tryd.isAgg3 (hel1.cell0 HS1.sees rfl)) ?_
    refine run_frame (by simp only [sc0,sc1];rfl) ?_
    refine rs (vI y1_0) (r_move rfl) ?_
    refine rs (vB ((rd 0 a0 y1_0) !=y1_0)) (r_bin rfl rfl rfl) ?_
    try simp only [sc0,sc1]
    refine run_nil ?_
    refine norm_then ?_
    refine wp_cond_split (t:=((rd 0 a0 y1_0) !=y1_0)) rfl (fun c2=>?_) (fun c2=>?_)
    ·replace H:=of_pos H c2
     refine wp_seq ?_
     refine region ?_
     refine rs (vB false) (r_assign rfl) ?_
     try simp only [sc0,sc1]
     refine run_nil ?_
     refine norm_then ?_
     refine wp_ret ?_
     refine ret_block ?_
     refine ret_then ?_
     refine ret_loop ?_
     refine ret_then ?_
     obtain rfl:=Option.some.inj H
     obtain rfl:=Option.some.inj G1
     refine bodyPost_ret (results_1 rfl (one_tmp rfl)) rfl ?_
     exact ⟨rfl,HS1.toE⟩
    ·replace H:=of_neg H (nt c2)
     refine wp_skip ?_
     refine norm_block ?_
     refine norm_then ?_
     refine region ?_
     refine rs (vI y1_0) (r_move rfl) ?_
     refine rs (vI (w64 (y1_0+1))) (r_bin rfl rfl rfl) ?_
     refine rs (vI (w64 (y1_0+1))) (r_assign rfl) ?_
     try simp only [sc0,sc1]
     refine run_nil ?_
     refine again m [uy1_2,vI (w64 (y1_0+1)),vI y1_0,vL A0_0 a0.length c0_0,vI (a0.length:Int),vB (decide (y1_0<(a0.length:Int))),vI y1_0,vI (w64 (y1_0+1)),vL A0_0 a0.length c0_0,vI y1_0,Value.pointer (some (Addr.add ad1 (y1_0.toNat*1))),vI (rd 0 a0 y1_0),vI y1_0,vB ((rd 0 a0 y1_0) !=y1_0)] (Nat.lt_succ_self m) (by simp only [patch,sc0,sc1]) ⟨(w64 (y1_0+1)),_,_,_,_,_,_,_,_,_,_,_,_,_,rfl,H,HS1⟩
   ·replace H:=of_neg H (nt c1)
    refine wp_exit ?_
    refine exit_then ?_
    obtain rfl:=Option.some.inj H
    refine leave [uy1_2,vI y1_0,vI y1_0,vL A0_0 a0.length c0_0,vI (a0.length:Int),vB (decide (y1_0<(a0.length:Int))),uy1_8,uy1_9,uy1_10,uy1_11,uy1_12,uy1_13,uy1_14,uy1_15] (by simp only [patch,sc0,sc1]) ⟨_,rfl,_,_,_,_,_,_,_,_,_,_,_,_,_,_,rfl,HS1⟩
 ·rintro us w2 ⟨s1,rfl,uo1_2,uo1_3,uo1_4,uo1_5,uo1_6,uo1_7,uo1_8,uo1_9,uo1_10,uo1_11,uo1_12,uo1_13,uo1_14,uo1_15,rfl,HS2⟩
  replace H:=G1
  clear G1
  try simp only [patch,sc0,sc1]
  refine norm_then ?_
  refine wp_seq ?_
  refine region ?_
  refine rs (vB true) (r_assign rfl) ?_
  try simp only [sc0,sc1]
  refine run_nil ?_
  refine norm_then ?_
  refine wp_ret ?_
  obtain rfl:=Option.some.inj H
  refine bodyPost_ret (results_1 rfl (one_tmp rfl)) rfl ?_
  exact ⟨rfl,HS2.toE⟩

end Go.Proofs.YtfjppgobidjndaaDoor
namespace Go.Proofs.YtfjppgobidjndaaDoor
open Go.RowKit Go.M
def taplinelaw08_CtfUnique.l0 (k:Nat) (a0:api_Types) (v2:api_Types×(List Int)×Int):Nat→Int→Option ((Bool)⊕(Unit))
 |0,_=>none
 |m+1,y1_0=>if (decide (y1_0<(v2.2.1.length:Int)))=true then (if 0≤y1_0∧y1_0<v2.2.1.length then ((ctf_Equal.f k a0 y1_0 v2.1 (rd 0 v2.2.1 y1_0)).bind fun v5=>(if (!v5)=true then (some (.inl false)) else (taplinelaw08_CtfUnique.l0 k a0 v2 m (IntKind.wrap .i64 (y1_0+1))))) else none) else (some (.inr ()))
def taplinelaw08_CtfUnique.l2 (k:Nat) (v2:api_Types×(List Int)×Int) (y2_0:Int):Nat→Int→Option ((Bool)⊕(Unit))
 |0,_=>none
 |m+1,y3_0=>if (decide (y3_0<y2_0))=true then ((ctf_Text.f k v2.1 y2_0).bind fun v6=>((ctf_Text.f k v2.1 y3_0).bind fun v7=>(if (((v6.2 !=0)||(v7.2 !=0))||(strEq v6.1 v7.1))=true then (some (.inl false)) else (taplinelaw08_CtfUnique.l2 k v2 y2_0 m (IntKind.wrap .i64 (y3_0+1)))))) else (some (.inr ()))
def taplinelaw08_CtfUnique.l1 (k:Nat) (v2:api_Types×(List Int)×Int):Nat→Int→Option ((Bool)⊕(Unit))
 |0,_=>none
 |m+1,y2_0=>if (decide (y2_0<(v2.1.vDefs.length:Int)))=true then ((taplinelaw08_CtfUnique.l2 k v2 y2_0 k 0).bind fun xx3=>(match xx3 with| .inl r=>some (.inl r)| .inr s2=>taplinelaw08_CtfUnique.l1 k v2 m (IntKind.wrap .i64 (y2_0+1)))) else (some (.inr ()))
def taplinelaw08_CtfUnique.f (k:Nat) (a0:api_Types):Option (Bool):=(taplinelaw08_sane.f k).bind fun v1=>((ctf_Unique.f k a0).bind fun v2=>(if (v2.2.2 !=0)=true then ((if (true&&(v1==true))=true then ctf_Check.f k a0 else some 0).bind fun v3=>(some (v1&&(v2.2.2==v3)))) else ((ctf_Check.f k v2.1).bind fun v4=>(if ((v4 !=0)||((v2.2.1.length:Int) !=(a0.vDefs.length:Int)))=true then (some false) else ((taplinelaw08_CtfUnique.l0 k a0 v2 k 0).bind fun xx1=>(match xx1 with| .inl r=>some r| .inr s1=>(taplinelaw08_CtfUnique.l1 k v2 k 0).bind fun xx2=>(match xx2 with| .inl r=>some r| .inr s3=>(ctf_Unique.f k v2.1).bind fun v8=>((if (true&&((v1&&(v8.2.2==0))==true))=true then taplineref08_Same.f k v8.1 v2.1 else some false).bind fun v9=>((if (true&&(((v1&&(v8.2.2==0))&&v9)==true))=true then taplinelaw08_rising.f k v8.2.1 else some false).bind fun v10=>(some (((v1&&(v8.2.2==0))&&v9)&&v10)))))))))))
set_option maxRecDepth 20000 in
set_option maxHeartbeats 4000000 in
theorem taplinelaw08_CtfUnique.calls (k:Nat) (a0:api_Types) (A0_0:Option Addr) (c0_0:Nat) {h0:View} {w0:World} (hv:Sees h0 w0) (ht:Tab w0) (hr0_0:Rd k_api_Def h0 A0_0 a0.vDefs) (hc0_0:a0.vDefs.length≤c0_0) {r:Bool} (H:taplinelaw08_CtfUnique.f k a0=some r):Calls Tryd.prog 5 #[Value.agg #[vL A0_0 a0.vDefs.length c0_0]] w0 (fun e w1=>e= .returned (vB r)∧Ext w0 w1):=by
 unfold taplinelaw08_CtfUnique.f at H
 have HS:St [] h0 w0 h0 [] w0:=St.init hv
 go_enter Tryd.func5,Tryd.ntmps5
 refine wp_seq ?_
 refine region ?_
 refine run_ex rfl rfl (does_box (cs:=#[vL A0_0 a0.vDefs.length c0_0]) rfl rfl) ?_
 rintro w1 _ hE1 ⟨b1,rfl,ge1,hb1⟩
 have HS1:=HS.new hE1 ge1 hb1
 refine rs (vB false) (r_assign rfl) ?_
 try simp only [sc0,sc1]
 refine run_nil ?_
 refine norm_then ?_
 refine wp_seq ?_
 refine region ?_
 obtain ⟨v1,H1,H⟩:=of_bind H
 refine run_eq (v:=vB v1) rfl rfl (does_call_eq Tryd.call13 rfl rfl (taplinelaw08_sane.calls k HS1.sees (ht.s HS1) H1)) ?_
 intro w2 hE2
 have HS2:=HS1.step hE2
 refine rs (vB v1) (r_assign rfl) ?_
 try simp only [sc0,sc1]
 refine run_nil ?_
 refine norm_then ?_
 refine wp_seq ?_
 refine region ?_
 refine rs (Value.agg #[vL A0_0 a0.vDefs.length c0_0]) (r_loadBoxAgg (n:=1) (vs:=[vL A0_0 a0.vDefs.length c0_0]) rfl Tryd.isAgg24 (HS2.look 0 rfl) Tryd.sizeOf24 rfl rfl) ?_
 obtain ⟨v2,H2,H⟩:=of_bind H
 refine run_ex rfl rfl (does_call Tryd.call28 rfl (gives_in (h:=h0) (R:=(fun hx u=>∃(Av2_0_0:Option Addr) (cv2_0_0:Nat),∃(Av2_1_0:Option Addr) (cv2_1_0:Nat),u=Value.tuple #[Value.agg #[vL Av2_0_0 v2.1.vDefs.length cv2_0_0],vL Av2_1_0 v2.2.1.length cv2_1_0,vI v2.2.2]∧v2.1.vDefs.length≤cv2_0_0∧Rd k_api_Def hx Av2_0_0 v2.1.vDefs∧v2.2.1.length≤cv2_1_0∧Rd (Kd.int .i64) hx Av2_1_0 v2.2.1)) (Ext.rfl' w2) ((ctf_Unique.calls k a0 A0_0 c0_0 HS2.sees (ht.s HS2) hr0_0 hc0_0 H2).mono ?_)) rfl) ?_
 ·rintro _ _ ⟨h1,Av2_0_0,cv2_0_0,Av2_1_0,cv2_1_0,rfl,hcv2_0_0,hrv2_0_0,hcv2_1_0,hrv2_1_0,g,ss,x⟩
  exact ⟨h1,_,rfl,⟨Av2_0_0,cv2_0_0,Av2_1_0,cv2_1_0,rfl,hcv2_0_0,hrv2_0_0,hcv2_1_0,hrv2_1_0⟩,g,ss,x⟩
 rintro w3 _ hE3 ⟨h1,⟨Av2_0_0,cv2_0_0,Av2_1_0,cv2_1_0,rfl,hcv2_0_0,hrv2_0_0,hcv2_1_0,hrv2_1_0⟩,gr1,se1⟩
 have HS3:=HS2.view hE3 gr1 se1
 refine rs (Value.tuple #[Value.agg #[vL Av2_0_0 v2.1.vDefs.length cv2_0_0],vL Av2_1_0 v2.2.1.length cv2_1_0,vI v2.2.2]) (r_move rfl) ?_
 refine rs (Value.agg #[vL Av2_0_0 v2.1.vDefs.length cv2_0_0]) (r_extract rfl rfl) ?_
 refine run_frame (by simp only [sc0,sc1];rfl) ?_
 refine rs (vL Av2_1_0 v2.2.1.length cv2_1_0) (r_extract rfl rfl) ?_
 refine rs (vI v2.2.2) (r_extract rfl rfl) ?_
 refine run_ex rfl rfl (does_alloc (cs:=#[vL none 0 0]) Tryd.zeroValue24 rfl) ?_
 rintro w4 _ hE4 ⟨b2,rfl,ge2,hb2⟩
 have HS4:=HS3.new hE4 ge2 hb2
 refine run_st (i:=0) (cs:=[vL none 0 0]) (cs':=[vL Av2_0_0 v2.1.vDefs.length cv2_0_0]) (vs:=[vL Av2_0_0 v2.1.vDefs.length cv2_0_0]) (bs':=[(some b2, .cells #[vL Av2_0_0 v2.1.vDefs.length cv2_0_0] 24 (0,0)),(some b1, .cells #[vL A0_0 a0.vDefs.length c0_0] 24 (0,0))]) rfl rfl Tryd.sizeOf24 rfl rfl (by decide) rfl HS4 rfl (Nat.le_of_ble_eq_true rfl) rfl rfl ?_
 intro w5 HS5
 refine run_frame (by simp only [sc0,sc1];rfl) ?_
 refine rs (vL Av2_1_0 v2.2.1.length cv2_1_0) (r_assign rfl) ?_
 refine rs (vI v2.2.2) (r_assign rfl) ?_
 try simp only [sc0,sc1]
 refine run_nil ?_
 refine norm_then ?_
 refine wp_seq ?_
 refine wp_seq ?_
 refine region ?_
 refine rs (vI v2.2.2) (r_move rfl) ?_
 refine rs (vB (v2.2.2 !=0)) (r_bin rfl rfl rfl) ?_
 try simp only [sc0,sc1]
 refine run_nil ?_
 refine norm_then ?_
 refine wp_cond_split (t:=(v2.2.2 !=0)) rfl (fun c1=>?_) (fun c1=>?_)
 ·replace H:=of_pos H c1
  refine wp_seq ?_
  refine region ?_
  refine rs (vB v1) (r_move rfl) ?_
  refine rs (vB v1) (r_move rfl) ?_
  refine rgs v1 true (vI v2.2.2) rfl rfl rfl rfl (fun hg=>(r_move rfl)) ?_
  refine rgs v1 true (Value.agg #[vL A0_0 a0.vDefs.length c0_0]) rfl rfl rfl rfl (fun hg=>(r_loadBoxAgg (n:=1) (vs:=[vL A0_0 a0.vDefs.length c0_0]) rfl Tryd.isAgg24 (HS5.look 1 rfl) Tryd.sizeOf24 rfl rfl)) ?_
  refine run_frame (by simp only [sc0,sc1];rfl) ?_
  obtain ⟨v3,H3,H⟩:=of_bind H
  refine run_g (b:=v1) (c:=true) (v:=vI v3) rfl rfl rfl rfl (fun hg=>(does_call_eq Tryd.call18 rfl (map1 (gvt (Value.agg #[vL A0_0 a0.vDefs.length c0_0]) hg rfl)) (ctf_Check.calls k a0 A0_0 c0_0 HS5.sees (hr0_0.ext HS5.sub) hc0_0 (of_pos H3 hg)))) ?_
  intro w6 hE5
  have HS6:=HS5.step hE5
  refine rgs v1 true (vB (v2.2.2==v3)) rfl rfl rfl rfl (fun hg=>(r_bin (gvt (vI v2.2.2) hg rfl) (gvt (vI v3) hg rfl) rfl)) ?_
  refine rs (vB (v1&&(v2.2.2==v3))) (r_pick_and rfl (fun hp=>(gvt (vB (v2.2.2==v3)) (and_i rfl hp) rfl)) rfl) ?_
  refine rs (vB (v1&&(v2.2.2==v3))) (r_assign rfl) ?_
  try simp only [sc0,sc1]
  refine run_nil ?_
  refine norm_then ?_
  refine wp_ret ?_
  refine ret_then ?_
  obtain rfl:=Option.some.inj H
  refine bodyPost_ret (results_1 rfl (one_tmp rfl)) rfl ?_
  exact ⟨rfl,HS6.toE⟩
 ·replace H:=of_neg H (nt c1)
  refine wp_skip ?_
  refine norm_then ?_
  refine wp_seq ?_
  refine wp_seq ?_
  refine region ?_
  refine rs (Value.agg #[vL Av2_0_0 v2.1.vDefs.length cv2_0_0]) (r_loadBoxAgg (n:=1) (vs:=[vL Av2_0_0 v2.1.vDefs.length cv2_0_0]) rfl Tryd.isAgg24 (HS5.look 0 rfl) Tryd.sizeOf24 rfl rfl) ?_
  obtain ⟨v4,H4,H⟩:=of_bind H
  refine run_eq (v:=vI v4) rfl rfl (does_call_eq Tryd.call18 rfl rfl (ctf_Check.calls k v2.1 Av2_0_0 cv2_0_0 HS5.sees hrv2_0_0 hcv2_0_0 H4)) ?_
  intro w7 hE6
  have HS7:=HS5.step hE6
  refine rs (vB (v4 !=0)) (r_bin rfl rfl rfl) ?_
  refine rs (vB (v4 !=0)) (r_move rfl) ?_
  refine run_frame (by simp only [sc0,sc1];rfl) ?_
  refine rgs (v4 !=0) true (vL Av2_1_0 v2.2.1.length cv2_1_0) rfl rfl rfl rfl (fun hg=>(r_move rfl)) ?_
  refine rgs (v4 !=0) true (vI (v2.2.1.length:Int)) rfl rfl rfl rfl (fun hg=>(r_len (gvt (vL Av2_1_0 v2.2.1.length cv2_1_0) hg rfl) Tryd.runUnderlying62)) ?_
  refine rgs (v4 !=0) true (vP b1 0) rfl rfl rfl rfl (fun hg=>(r_fieldBox (n:=1) (o':=0) rfl Tryd.runUnderlying24 rfl Tryd.sizeOf22 (by decide) rfl)) ?_
  refine rgs (v4 !=0) true (vL A0_0 a0.vDefs.length c0_0) rfl rfl rfl rfl (fun hg=>(r_loadBox (gvt (vP b1 0) hg rfl) Tryd.isAgg22 (HS7.look 1 rfl) rfl)) ?_
  refine run_frame (by simp only [sc0,sc1];rfl) ?_
  refine rgs (v4 !=0) true (vI (a0.vDefs.length:Int)) rfl rfl rfl rfl (fun hg=>(r_len (gvt (vL A0_0 a0.vDefs.length c0_0) hg rfl) Tryd.runUnderlying22)) ?_
  refine rgs (v4 !=0) true (vB ((v2.2.1.length:Int) !=(a0.vDefs.length:Int))) rfl rfl rfl rfl (fun hg=>(r_bin (gvt (vI (v2.2.1.length:Int)) hg rfl) (gvt (vI (a0.vDefs.length:Int)) hg rfl) rfl)) ?_
  refine rs (vB ((v4 !=0)||((v2.2.1.length:Int) !=(a0.vDefs.length:Int)))) (r_pick_or rfl rfl (fun hp=>(gvt (vB ((v2.2.1.length:Int) !=(a0.vDefs.length:Int))) (and_i rfl hp) rfl))) ?_
  try simp only [sc0,sc1]
  refine run_nil ?_
  refine norm_then ?_
  refine wp_cond_split (t:=((v4 !=0)||((v2.2.1.length:Int) !=(a0.vDefs.length:Int)))) rfl (fun c2=>?_) (fun c2=>?_)
  ·replace H:=of_pos H c2
   refine wp_seq ?_
   refine region ?_
   refine rs (vB false) (r_assign rfl) ?_
   try simp only [sc0,sc1]
   refine run_nil ?_
   refine norm_then ?_
   refine wp_ret ?_
   refine ret_then ?_
   obtain rfl:=Option.some.inj H
   refine bodyPost_ret (results_1 rfl (one_tmp rfl)) rfl ?_
   exact ⟨rfl,HS7.toE⟩
  ·replace H:=of_neg H (nt c2)
   refine wp_skip ?_
   refine norm_then ?_
   refine wp_seq ?_
   refine wp_seq ?_
   refine region ?_
   refine rs (vI 0) (r_assign rfl) ?_
   try simp only [sc0,sc1]
   refine run_nil ?_
   refine norm_then ?_
   obtain ⟨xx1,H,G1⟩:=of_bind H
   refine loop_patch [2,7,44,45,46,47,48,49,50,51,52,53,54,55,56,57,58] (fun m us w'=>∃y1_0:Int,∃uy1_2 uy1_44 uy1_45 uy1_46 uy1_47 uy1_48 uy1_49 uy1_50 uy1_51 uy1_52 uy1_53 uy1_54 uy1_55 uy1_56 uy1_57 uy1_58:Value,us=[uy1_2,vI y1_0,uy1_44,uy1_45,uy1_46,uy1_47,uy1_48,uy1_49,uy1_50,uy1_51,uy1_52,uy1_53,uy1_54,uy1_55,uy1_56,uy1_57,uy1_58]∧taplinelaw08_CtfUnique.l0 k a0 v2 m y1_0=some xx1∧St [] h0 w0 h1 [(some b2, .cells #[vL Av2_0_0 v2.1.vDefs.length cv2_0_0] 24 (0,0)),(some b1, .cells #[vL A0_0 a0.vDefs.length c0_0] 24 (0,0))] w') (fun us w'=>∃(s1:Unit),xx1= .inr s1∧∃uo1_2 uo1_7 uo1_44 uo1_45 uo1_46 uo1_47 uo1_48 uo1_49 uo1_50 uo1_51 uo1_52 uo1_53 uo1_54 uo1_55 uo1_56 uo1_57 uo1_58:Value,us=[uo1_2,uo1_7,uo1_44,uo1_45,uo1_46,uo1_47,uo1_48,uo1_49,uo1_50,uo1_51,uo1_52,uo1_53,uo1_54,uo1_55,uo1_56,uo1_57,uo1_58]∧St [] h0 w0 h1 [(some b2, .cells #[vL Av2_0_0 v2.1.vDefs.length cv2_0_0] 24 (0,0)),(some b1, .cells #[vL A0_0 a0.vDefs.length c0_0] 24 (0,0))] w') k [vB false,vI 0,undef,undef,undef,undef,undef,undef,undef,undef,undef,undef,undef,undef,undef,undef,undef] (by simp only [patch,sc0,sc1]) ⟨0,_,_,_,_,_,_,_,_,_,_,_,_,_,_,_,_,rfl,H,HS7⟩ ?_ ?_
   ·rintro m us w8 ⟨y1_0,uy1_2,uy1_44,uy1_45,uy1_46,uy1_47,uy1_48,uy1_49,uy1_50,uy1_51,uy1_52,uy1_53,uy1_54,uy1_55,uy1_56,uy1_57,uy1_58,rfl,H,HS8⟩
    cases m with
    |zero=>exact absurd H (by simp [taplinelaw08_CtfUnique.l0])
    |succ m=>
     rw [taplinelaw08_CtfUnique.l0] at H
     try simp only [patch,sc0,sc1]
     refine wp_seq ?_
     refine wp_seq ?_
     refine region ?_
     refine rs (vI y1_0) (r_move rfl) ?_
     refine rs (vL Av2_1_0 v2.2.1.length cv2_1_0) (r_move rfl) ?_
     refine rs (vI (v2.2.1.length:Int)) (r_len rfl Tryd.runUnderlying62) ?_
     refine rs (vB (decide (y1_0<(v2.2.1.length:Int)))) (r_bin rfl rfl rfl) ?_
     try simp only [sc0,sc1]
     refine run_nil ?_
     refine norm_then ?_
     refine wp_cond_split (t:=(decide (y1_0<(v2.2.1.length:Int)))) rfl (fun c3=>?_) (fun c3=>?_)
     ·replace H:=of_pos H c3
      refine wp_skip ?_
      refine norm_then ?_
      refine wp_seq ?_
      refine wp_block ?_
      refine wp_seq ?_
      obtain ⟨hi1,H⟩:=of_ite H
      obtain ⟨ad1,e1,hel1⟩:=ld_int hrv2_1_0 hi1.1 hi1.2
      obtain ⟨v5,H5,H⟩:=of_bind H
      refine drawn [.eq (Value.agg #[vL A0_0 a0.vDefs.length c0_0]), .eq (vI y1_0), .eq (Value.agg #[vL Av2_0_0 v2.1.vDefs.length cv2_0_0]), .eq (vL Av2_1_0 v2.2.1.length cv2_1_0), .eq (vI y1_0), .eq (Value.pointer (some (Addr.add ad1 (y1_0.toNat*1)))), .eq (vI (rd 0 v2.2.1 y1_0)), .eq (vB v5), .eq (vB (!v5))] [50,51,52,53,54,55,56,57,58] hmix (by kernel_rfl) rfl (stable_eq (stable_eq (stable_eq (stable_eq (stable_eq (stable_eq (stable_eq (stable_eq (stable_eq stable_nil))))))))) ⟨ob_plain rfl (fun a' w' hE hk=>by have HSd:=HS8.step hE;exact does_eq (r_loadBoxAgg (n:=1) (vs:=[vL A0_0 a0.vDefs.length c0_0]) (show _=vP b1 0 from hk 1 rfl) Tryd.isAgg24 (HSd.look 1 rfl) Tryd.sizeOf24 rfl rfl)),ob_plain rfl (fun a' w' hE hk=>by have HSd:=HS8.step hE;exact does_eq (r_move (show _=vI y1_0 from hk 7 rfl))),ob_plain rfl (fun a' w' hE hk=>by have HSd:=HS8.step hE;exact does_eq (r_loadBoxAgg (n:=1) (vs:=[vL Av2_0_0 v2.1.vDefs.length cv2_0_0]) (show _=vP b2 0 from hk 4 rfl) Tryd.isAgg24 (HSd.look 0 rfl) Tryd.sizeOf24 rfl rfl)),ob_plain rfl (fun a' w' hE hk=>by have HSd:=HS8.step hE;exact does_eq (r_move (show _=vL Av2_1_0 v2.2.1.length cv2_1_0 from hk 5 rfl))),ob_plain rfl (fun a' w' hE hk=>by have HSd:=HS8.step hE;exact does_eq (r_move (show _=vI y1_0 from hk 7 rfl))),ob_plain rfl (fun a' w' hE hk=>by have HSd:=HS8.step hE;exact does_eq (r_indexA (sz:=1) (show _=vL Av2_1_0 v2.2.1.length cv2_1_0 from hk 53 rfl) e1 (show _=vI y1_0 from hk 54 rfl) hi1.1 hi1.2 Tryd.runUnderlying62 Tryd.sizeOf3)),ob_plain rfl (fun a' w' hE hk=>by have HSd:=HS8.step hE;exact does_eq (r_load (show _=Value.pointer (some (Addr.add ad1 (y1_0.toNat*1))) from hk 55 rfl) Tryd.isAgg3 (hel1.cell0 HSd.sees rfl))),ob_plain rfl (fun a' w' hE hk=>by have HSd:=HS8.step hE;exact (does_call_eq Tryd.call29 rfl (map4 (show _=Value.agg #[vL A0_0 a0.vDefs.length c0_0] from hk 50 rfl) (show _=vI y1_0 from hk 51 rfl) (show _=Value.agg #[vL Av2_0_0 v2.1.vDefs.length cv2_0_0] from hk 52 rfl) (show _=vI (rd 0 v2.2.1 y1_0) from hk 56 rfl)) (ctf_Equal.calls k a0 y1_0 v2.1 (rd 0 v2.2.1 y1_0) A0_0 c0_0 Av2_0_0 cv2_0_0 HSd.sees (ht.s HSd) (hr0_0.ext HS8.sub) hc0_0 hrv2_0_0 hcv2_0_0 H5))),ob_plain rfl (fun a' w' hE hk=>by have HSd:=HS8.step hE;exact does_eq (r_not (show _=vB v5 from hk 57 rfl))),trivial⟩ ?_
      intro w9 hE7
      simp only [List.zip_cons_cons,List.zip_nil_left,List.zip_nil_right,finL,sc0,sc1,List.length_cons,List.length_nil,List.drop_succ_cons,List.drop_zero,Nat.zero_add,Nat.reduceAdd]
      have HS9:=HS8.step hE7
      refine run_nil ?_
      refine norm_then ?_
      refine wp_cond_split (t:=(!v5)) rfl (fun c4=>?_) (fun c4=>?_)
      ·replace H:=of_pos H c4
       refine wp_seq ?_
       refine region ?_
       refine rs (vB false) (r_assign rfl) ?_
       try simp only [sc0,sc1]
       refine run_nil ?_
       refine norm_then ?_
       refine wp_ret ?_
       refine ret_block ?_
       refine ret_then ?_
       refine ret_loop ?_
       refine ret_then ?_
       obtain rfl:=Option.some.inj H
       obtain rfl:=Option.some.inj G1
       refine bodyPost_ret (results_1 rfl (one_tmp rfl)) rfl ?_
       exact ⟨rfl,HS9.toE⟩
      ·replace H:=of_neg H (nt c4)
       refine wp_skip ?_
       refine norm_block ?_
       refine norm_then ?_
       refine region ?_
       refine rs (vI y1_0) (r_move rfl) ?_
       refine rs (vI (w64 (y1_0+1))) (r_bin rfl rfl rfl) ?_
       refine rs (vI (w64 (y1_0+1))) (r_assign rfl) ?_
       try simp only [sc0,sc1]
       refine run_nil ?_
       refine again m [uy1_2,vI (w64 (y1_0+1)),vI y1_0,vL Av2_1_0 v2.2.1.length cv2_1_0,vI (v2.2.1.length:Int),vB (decide (y1_0<(v2.2.1.length:Int))),vI y1_0,vI (w64 (y1_0+1)),Value.agg #[vL A0_0 a0.vDefs.length c0_0],vI y1_0,Value.agg #[vL Av2_0_0 v2.1.vDefs.length cv2_0_0],vL Av2_1_0 v2.2.1.length cv2_1_0,vI y1_0,Value.pointer (some (Addr.add ad1 (y1_0.toNat*1))),vI (rd 0 v2.2.1 y1_0),vB v5,vB (!v5)] (Nat.lt_succ_self m) (by simp only [patch,sc0,sc1]) ⟨(w64 (y1_0+1)),_,_,_,_,_,_,_,_,_,_,_,_,_,_,_,_,rfl,H,HS9⟩
     ·replace H:=of_neg H (nt c3)
      refine wp_exit ?_
      refine exit_then ?_
      obtain rfl:=Option.some.inj H
      refine leave [uy1_2,vI y1_0,vI y1_0,vL Av2_1_0 v2.2.1.length cv2_1_0,vI (v2.2.1.length:Int),vB (decide (y1_0<(v2.2.1.length:Int))),uy1_48,uy1_49,uy1_50,uy1_51,uy1_52,uy1_53,uy1_54,uy1_55,uy1_56,uy1_57,uy1_58] (by simp only [patch,sc0,sc1]) ⟨_,rfl,_,_,_,_,_,_,_,_,_,_,_,_,_,_,_,_,_,rfl,HS8⟩
   ·rintro us w10 ⟨s1,rfl,uo1_2,uo1_7,uo1_44,uo1_45,uo1_46,uo1_47,uo1_48,uo1_49,uo1_50,uo1_51,uo1_52,uo1_53,uo1_54,uo1_55,uo1_56,uo1_57,uo1_58,rfl,HS10⟩
    replace H:=G1
    clear G1
    try simp only [patch,sc0,sc1]
    refine norm_then ?_
    refine wp_seq ?_
    refine wp_seq ?_
    refine region ?_
    refine rs (vI 0) (r_assign rfl) ?_
    try simp only [sc0,sc1]
    refine run_nil ?_
    refine norm_then ?_
    obtain ⟨xx2,H,G2⟩:=of_bind H
    refine loop_patch [2,8,9,10,11,12,13,59,60,61,62,63,64,65,66,67,68,69,70,71,72,73,74,75,76,77,78,79,80,81,82,83,84,85,86,87,88,89,90,91,92,93] (fun m us w'=>∃y2_0:Int,∃uy2_2 uy2_9 uy2_10 uy2_11 uy2_12 uy2_13 uy2_59 uy2_60 uy2_61 uy2_62 uy2_63 uy2_64 uy2_65 uy2_66 uy2_67 uy2_68 uy2_69 uy2_70 uy2_71 uy2_72 uy2_73 uy2_74 uy2_75 uy2_76 uy2_77 uy2_78 uy2_79 uy2_80 uy2_81 uy2_82 uy2_83 uy2_84 uy2_85 uy2_86 uy2_87 uy2_88 uy2_89 uy2_90 uy2_91 uy2_92 uy2_93:Value,us=[uy2_2,vI y2_0,uy2_9,uy2_10,uy2_11,uy2_12,uy2_13,uy2_59,uy2_60,uy2_61,uy2_62,uy2_63,uy2_64,uy2_65,uy2_66,uy2_67,uy2_68,uy2_69,uy2_70,uy2_71,uy2_72,uy2_73,uy2_74,uy2_75,uy2_76,uy2_77,uy2_78,uy2_79,uy2_80,uy2_81,uy2_82,uy2_83,uy2_84,uy2_85,uy2_86,uy2_87,uy2_88,uy2_89,uy2_90,uy2_91,uy2_92,uy2_93]∧taplinelaw08_CtfUnique.l1 k v2 m y2_0=some xx2∧St [] h0 w0 h1 [(some b2, .cells #[vL Av2_0_0 v2.1.vDefs.length cv2_0_0] 24 (0,0)),(some b1, .cells #[vL A0_0 a0.vDefs.length c0_0] 24 (0,0))] w') (fun us w'=>∃(s3:Unit),xx2= .inr s3∧∃uo3_2 uo3_8 uo3_9 uo3_10 uo3_11 uo3_12 uo3_13 uo3_59 uo3_60 uo3_61 uo3_62 uo3_63 uo3_64 uo3_65 uo3_66 uo3_67 uo3_68 uo3_69 uo3_70 uo3_71 uo3_72 uo3_73 uo3_74 uo3_75 uo3_76 uo3_77 uo3_78 uo3_79 uo3_80 uo3_81 uo3_82 uo3_83 uo3_84 uo3_85 uo3_86 uo3_87 uo3_88 uo3_89 uo3_90 uo3_91 uo3_92 uo3_93:Value,us=[uo3_2,uo3_8,uo3_9,uo3_10,uo3_11,uo3_12,uo3_13,uo3_59,uo3_60,uo3_61,uo3_62,uo3_63,uo3_64,uo3_65,uo3_66,uo3_67,uo3_68,uo3_69,uo3_70,uo3_71,uo3_72,uo3_73,uo3_74,uo3_75,uo3_76,uo3_77,uo3_78,uo3_79,uo3_80,uo3_81,uo3_82,uo3_83,uo3_84,uo3_85,uo3_86,uo3_87,uo3_88,uo3_89,uo3_90,uo3_91,uo3_92,uo3_93]∧St [] h0 w0 h1 [(some b2, .cells #[vL Av2_0_0 v2.1.vDefs.length cv2_0_0] 24 (0,0)),(some b1, .cells #[vL A0_0 a0.vDefs.length c0_0] 24 (0,0))] w') k [uo1_2,vI 0,undef,undef,undef,undef,undef,undef,undef,undef,undef,undef,undef,undef,undef,undef,undef,undef,undef,undef,undef,undef,undef,undef,undef,undef,undef,undef,undef,undef,undef,undef,undef,undef,undef,undef,undef,undef,undef,undef,undef,undef] (by simp only [patch,sc0,sc1]) ⟨0,_,_,_,_,_,_,_,_,_,_,_,_,_,_,_,_,_,_,_,_,_,_,_,_,_,_,_,_,_,_,_,_,_,_,_,_,_,_,_,_,_,rfl,H,HS10⟩ ?_ ?_
    ·rintro m us w11 ⟨y2_0,uy2_2,uy2_9,uy2_10,uy2_11,uy2_12,uy2_13,uy2_59,uy2_60,uy2_61,uy2_62,uy2_63,uy2_64,uy2_65,uy2_66,uy2_67,uy2_68,uy2_69,uy2_70,uy2_71,uy2_72,uy2_73,uy2_74,uy2_75,uy2_76,uy2_77,uy2_78,uy2_79,uy2_80,uy2_81,uy2_82,uy2_83,uy2_84,uy2_85,uy2_86,uy2_87,uy2_88,uy2_89,uy2_90,uy2_91,uy2_92,uy2_93,rfl,H,HS11⟩
     cases m with
     |zero=>exact absurd H (by simp [taplinelaw08_CtfUnique.l1])
     |succ m=>
      rw [taplinelaw08_CtfUnique.l1] at H
      try simp only [patch,sc0,sc1]
      refine wp_seq ?_
      refine wp_seq ?_
      refine region ?_
      refine rs (vI y2_0) (r_move rfl) ?_
      refine rs (vP b2 0) (r_fieldBox (n:=1) (o':=0) rfl Tryd.runUnderlying24 rfl Tryd.sizeOf22 (by decide) rfl) ?_
      refine rs (vL Av2_0_0 v2.1.vDefs.length cv2_0_0) (r_loadBox rfl Tryd.isAgg22 (HS11.look 0 rfl) rfl) ?_
      refine rs (vI (v2.1.vDefs.length:Int)) (r_len rfl Tryd.runUnderlying22) ?_
      refine run_frame (by simp only [sc0,sc1];rfl) ?_
      refine rs (vB (decide (y2_0<(v2.1.vDefs.length:Int)))) (r_bin rfl rfl rfl) ?_
      try simp only [sc0,sc1]
      refine run_nil ?_
      refine norm_then ?_
      refine wp_cond_split (t:=(decide (y2_0<(v2.1.vDefs.length:Int)))) rfl (fun c5=>?_) (fun c5=>?_)
      ·replace H:=of_pos H c5
       refine wp_skip ?_
       refine norm_then ?_
       refine wp_seq ?_
       refine wp_block ?_
       refine wp_seq ?_
       refine region ?_
       refine rs (vI 0) (r_assign rfl) ?_
       try simp only [sc0,sc1]
       refine run_nil ?_
       refine norm_then ?_
       obtain ⟨xx3,H,G3⟩:=of_bind H
       refine loop_patch [2,9,10,11,12,13,66,67,68,69,70,71,72,73,74,75,76,77,78,79,80,81,82,83,84,85,86,87,88,89,90,91,92,93] (fun m us w'=>∃y3_0:Int,∃uy3_2 uy3_10 uy3_11 uy3_12 uy3_13 uy3_66 uy3_67 uy3_68 uy3_69 uy3_70 uy3_71 uy3_72 uy3_73 uy3_74 uy3_75 uy3_76 uy3_77 uy3_78 uy3_79 uy3_80 uy3_81 uy3_82 uy3_83 uy3_84 uy3_85 uy3_86 uy3_87 uy3_88 uy3_89 uy3_90 uy3_91 uy3_92 uy3_93:Value,us=[uy3_2,vI y3_0,uy3_10,uy3_11,uy3_12,uy3_13,uy3_66,uy3_67,uy3_68,uy3_69,uy3_70,uy3_71,uy3_72,uy3_73,uy3_74,uy3_75,uy3_76,uy3_77,uy3_78,uy3_79,uy3_80,uy3_81,uy3_82,uy3_83,uy3_84,uy3_85,uy3_86,uy3_87,uy3_88,uy3_89,uy3_90,uy3_91,uy3_92,uy3_93]∧taplinelaw08_CtfUnique.l2 k v2 y2_0 m y3_0=some xx3∧St [] h0 w0 h1 [(some b2, .cells #[vL Av2_0_0 v2.1.vDefs.length cv2_0_0] 24 (0,0)),(some b1, .cells #[vL A0_0 a0.vDefs.length c0_0] 24 (0,0))] w') (fun us w'=>∃(s2:Unit),xx3= .inr s2∧∃uo2_2 uo2_9 uo2_10 uo2_11 uo2_12 uo2_13 uo2_66 uo2_67 uo2_68 uo2_69 uo2_70 uo2_71 uo2_72 uo2_73 uo2_74 uo2_75 uo2_76 uo2_77 uo2_78 uo2_79 uo2_80 uo2_81 uo2_82 uo2_83 uo2_84 uo2_85 uo2_86 uo2_87 uo2_88 uo2_89 uo2_90 uo2_91 uo2_92 uo2_93:Value,us=[uo2_2,uo2_9,uo2_10,uo2_11,uo2_12,uo2_13,uo2_66,uo2_67,uo2_68,uo2_69,uo2_70,uo2_71,uo2_72,uo2_73,uo2_74,uo2_75,uo2_76,uo2_77,uo2_78,uo2_79,uo2_80,uo2_81,uo2_82,uo2_83,uo2_84,uo2_85,uo2_86,uo2_87,uo2_88,uo2_89,uo2_90,uo2_91,uo2_92,uo2_93]∧St [] h0 w0 h1 [(some b2, .cells #[vL Av2_0_0 v2.1.vDefs.length cv2_0_0] 24 (0,0)),(some b1, .cells #[vL A0_0 a0.vDefs.length c0_0] 24 (0,0))] w') k [uy2_2,vI 0,uy2_10,uy2_11,uy2_12,uy2_13,uy2_66,uy2_67,uy2_68,uy2_69,uy2_70,uy2_71,uy2_72,uy2_73,uy2_74,uy2_75,uy2_76,uy2_77,uy2_78,uy2_79,uy2_80,uy2_81,uy2_82,uy2_83,uy2_84,uy2_85,uy2_86,uy2_87,uy2_88,uy2_89,uy2_90,uy2_91,uy2_92,uy2_93] (by simp only [patch,sc0,sc1]) ⟨0,_,_,_,_,_,_,_,_,_,_,_,_,_,_,_,_,_,_,_,_,_,_,_,_,_,_,_,_,_,_,_,_,_,rfl,H,HS11⟩ ?_ ?_
       ·rintro m us w12 ⟨y3_0,uy3_2,uy3_10,uy3_11,uy3_12,uy3_13,uy3_66,uy3_67,uy3_68,uy3_69,uy3_70,uy3_71,uy3_72,uy3_73,uy3_74,uy3_75,uy3_76,uy3_77,uy3_78,uy3_79,uy3_80,uy3_81,uy3_82,uy3_83,uy3_84,uy3_85,uy3_86,uy3_87,uy3_88,uy3_89,uy3_90,uy3_91,uy3_92,uy3_93,rfl,H,HS12⟩
        cases m with
        |zero=>exact absurd H (by simp [taplinelaw08_CtfUnique.l2])
        |succ m=>
         rw [taplinelaw08_CtfUnique.l2] at H
         try simp only [patch,sc0,sc1]
         refine wp_seq ?_
         refine wp_seq ?_
         refine region ?_
         refine rs (vI y3_0) (r_move rfl) ?_
         refine rs (vI y2_0) (r_move rfl) ?_
         refine rs (vB (decide (y3_0<y2_0))) (r_bin rfl rfl rfl) ?_
         try simp only [sc0,sc1]
         refine run_nil ?_
         refine norm_then ?_
         refine wp_cond_split (t:=(decide (y3_0<y2_0))) rfl (fun c6=>?_) (fun c6=>?_)
         ·replace H:=of_pos H c6
          refine wp_skip ?_
          refine norm_then ?_
          refine wp_seq ?_
          refine wp_block ?_
          refine wp_seq ?_
          refine region ?_
          refine rs (Value.agg #[vL Av2_0_0 v2.1.vDefs.length cv2_0_0]) (r_loadBoxAgg (n:=1) (vs:=[vL Av2_0_0 v2.1.vDefs.length cv2_0_0]) rfl Tryd.isAgg24 (HS12.look 0 rfl) Tryd.sizeOf24 rfl rfl) ?_
          refine rs (vI y2_0) (r_move rfl) ?_
          obtain ⟨v6,H6,H⟩:=of_bind H
          refine run_eq (v:=Value.tuple #[vS v6.1,vI v6.2]) rfl rfl (does_call_eq Tryd.call20 rfl rfl (ctf_Text.calls k v2.1 y2_0 Av2_0_0 cv2_0_0 HS12.sees (ht.s HS12) hrv2_0_0 hcv2_0_0 H6)) ?_
          intro w13 hE8
          have HS13:=HS12.step hE8
          refine rs (Value.tuple #[vS v6.1,vI v6.2]) (r_move rfl) ?_
          refine run_frame (by simp only [sc0,sc1];rfl) ?_
          refine rs (vS v6.1) (r_extract rfl rfl) ?_
          refine rs (vI v6.2) (r_extract rfl rfl) ?_
          refine rs (vS v6.1) (r_assign rfl) ?_
          refine rs (vI v6.2) (r_assign rfl) ?_
          try simp only [sc0,sc1]
          refine run_nil ?_
          refine norm_then ?_
          refine wp_seq ?_
          refine region ?_
          refine rs (Value.agg #[vL Av2_0_0 v2.1.vDefs.length cv2_0_0]) (r_loadBoxAgg (n:=1) (vs:=[vL Av2_0_0 v2.1.vDefs.length cv2_0_0]) rfl Tryd.isAgg24 (HS13.look 0 rfl) Tryd.sizeOf24 rfl rfl) ?_
          refine rs (vI y3_0) (r_move rfl) ?_
          obtain ⟨v7,H7,H⟩:=of_bind H
          refine run_eq (v:=Value.tuple #[vS v7.1,vI v7.2]) rfl rfl (does_call_eq Tryd.call20 rfl rfl (ctf_Text.calls k v2.1 y3_0 Av2_0_0 cv2_0_0 HS13.sees (ht.s HS13) hrv2_0_0 hcv2_0_0 H7)) ?_
          intro w14 hE9
          have HS14:=HS13.step hE9
          refine rs (Value.tuple #[vS v7.1,vI v7.2]) (r_move rfl) ?_
          refine run_frame (by simp only [sc0,sc1];rfl) ?_
          refine rs (vS v7.1) (r_extract rfl rfl) ?_
          refine rs (vI v7.2) (r_extract rfl rfl) ?_
          refine rs (vS v7.1) (r_assign rfl) ?_
          refine rs (vI v7.2) (r_assign rfl) ?_
          try simp only [sc0,sc1]
          refine run_nil ?_
          refine norm_then ?_
          refine wp_seq ?_
          refine region ?_
          refine rs (vI v6.2) (r_move rfl) ?_
          refine rs (vB (v6.2 !=0)) (r_bin rfl rfl rfl) ?_
          refine rs (vB (v6.2 !=0)) (r_move rfl) ?_
          refine rgs (v6.2 !=0) true (vI v7.2) rfl rfl rfl rfl (fun hg=>(r_move rfl)) ?_
          refine run_frame (by simp only [sc0,sc1];rfl) ?_
          refine rgs (v6.2 !=0) true (vB (v7.2 !=0)) rfl rfl rfl rfl (fun hg=>(r_bin (gvt (vI v7.2) hg rfl) rfl rfl)) ?_
          refine rs (vB ((v6.2 !=0)||(v7.2 !=0))) (r_pick_or rfl rfl (fun hp=>(gvt (vB (v7.2 !=0)) (and_i rfl hp) rfl))) ?_
          refine rs (vB ((v6.2 !=0)||(v7.2 !=0))) (r_move rfl) ?_
          refine rgs ((v6.2 !=0)||(v7.2 !=0)) true (vS v6.1) rfl rfl rfl rfl (fun hg=>(r_move rfl)) ?_
          refine run_frame (by simp only [sc0,sc1];rfl) ?_
          refine rgs ((v6.2 !=0)||(v7.2 !=0)) true (vS v7.1) rfl rfl rfl rfl (fun hg=>(r_move rfl)) ?_
          refine rgs ((v6.2 !=0)||(v7.2 !=0)) true (vB (strEq v6.1 v7.1)) rfl rfl rfl rfl (fun hg=>(r_streql (gvt (vS v6.1) hg rfl) (gvt (vS v7.1) hg rfl))) ?_
          refine rs (vB (((v6.2 !=0)||(v7.2 !=0))||(strEq v6.1 v7.1))) (r_pick_or rfl rfl (fun hp=>(gvt (vB (strEq v6.1 v7.1)) (and_i rfl hp) rfl))) ?_
          try simp only [sc0,sc1]
          refine run_nil ?_
          refine norm_then ?_
          refine wp_cond_split (t:=(((v6.2 !=0)||(v7.2 !=0))||(strEq v6.1 v7.1))) rfl (fun c7=>?_) (fun c7=>?_)
          ·replace H:=of_pos H c7
           refine wp_seq ?_
           refine region ?_
           refine rs (vB false) (r_assign rfl) ?_
           try simp only [sc0,sc1]
           refine run_nil ?_
           refine norm_then ?_
           refine wp_ret ?_
           refine ret_block ?_
           refine ret_then ?_
           refine ret_loop ?_
           refine ret_block ?_
           refine ret_then ?_
           refine ret_loop ?_
           refine ret_then ?_
           obtain rfl:=Option.some.inj H
           obtain rfl:=Option.some.inj G3
           obtain rfl:=Option.some.inj G2
           refine bodyPost_ret (results_1 rfl (one_tmp rfl)) rfl ?_
           exact ⟨rfl,HS14.toE⟩
          ·replace H:=of_neg H (nt c7)
           refine wp_skip ?_
           refine norm_block ?_
           refine norm_then ?_
           refine region ?_
           refine rs (vI y3_0) (r_move rfl) ?_
           refine rs (vI (w64 (y3_0+1))) (r_bin rfl rfl rfl) ?_
           refine rs (vI (w64 (y3_0+1))) (r_assign rfl) ?_
           try simp only [sc0,sc1]
           refine run_nil ?_
           refine again m [uy3_2,vI (w64 (y3_0+1)),vS v6.1,vI v6.2,vS v7.1,vI v7.2,vI y3_0,vI y2_0,vB (decide (y3_0<y2_0)),vI y3_0,vI (w64 (y3_0+1)),Value.tuple #[vS v6.1,vI v6.2],Value.agg #[vL Av2_0_0 v2.1.vDefs.length cv2_0_0],vI y2_0,Value.tuple #[vS v6.1,vI v6.2],vS v6.1,vI v6.2,Value.tuple #[vS v7.1,vI v7.2],Value.agg #[vL Av2_0_0 v2.1.vDefs.length cv2_0_0],vI y3_0,Value.tuple #[vS v7.1,vI v7.2],vS v7.1,vI v7.2,vI v6.2,vB (v6.2 !=0),vB (v6.2 !=0),gv (true&&((v6.2 !=0)==false)) (vI v7.2),gv (true&&((v6.2 !=0)==false)) (vB (v7.2 !=0)),vB ((v6.2 !=0)||(v7.2 !=0)),vB ((v6.2 !=0)||(v7.2 !=0)),gv (true&&(((v6.2 !=0)||(v7.2 !=0))==false)) (vS v6.1),gv (true&&(((v6.2 !=0)||(v7.2 !=0))==false)) (vS v7.1),gv (true&&(((v6.2 !=0)||(v7.2 !=0))==false)) (vB (strEq v6.1 v7.1)),vB (((v6.2 !=0)||(v7.2 !=0))||(strEq v6.1 v7.1))] (Nat.lt_succ_self m) (by simp only [patch,sc0,sc1]) ⟨(w64 (y3_0+1)),_,_,_,_,_,_,_,_,_,_,_,_,_,_,_,_,_,_,_,_,_,_,_,_,_,_,_,_,_,_,_,_,_,rfl,H,HS14⟩
         ·replace H:=of_neg H (nt c6)
          refine wp_exit ?_
          refine exit_then ?_
          obtain rfl:=Option.some.inj H
          refine leave [uy3_2,vI y3_0,uy3_10,uy3_11,uy3_12,uy3_13,vI y3_0,vI y2_0,vB (decide (y3_0<y2_0)),uy3_69,uy3_70,uy3_71,uy3_72,uy3_73,uy3_74,uy3_75,uy3_76,uy3_77,uy3_78,uy3_79,uy3_80,uy3_81,uy3_82,uy3_83,uy3_84,uy3_85,uy3_86,uy3_87,uy3_88,uy3_89,uy3_90,uy3_91,uy3_92,uy3_93] (by simp only [patch,sc0,sc1]) ⟨_,rfl,_,_,_,_,_,_,_,_,_,_,_,_,_,_,_,_,_,_,_,_,_,_,_,_,_,_,_,_,_,_,_,_,_,_,rfl,HS12⟩
       ·rintro us w15 ⟨s2,rfl,uo2_2,uo2_9,uo2_10,uo2_11,uo2_12,uo2_13,uo2_66,uo2_67,uo2_68,uo2_69,uo2_70,uo2_71,uo2_72,uo2_73,uo2_74,uo2_75,uo2_76,uo2_77,uo2_78,uo2_79,uo2_80,uo2_81,uo2_82,uo2_83,uo2_84,uo2_85,uo2_86,uo2_87,uo2_88,uo2_89,uo2_90,uo2_91,uo2_92,uo2_93,rfl,HS15⟩
        replace H:=G3
        clear G3
        try simp only [patch,sc0,sc1]
        refine norm_block ?_
        refine norm_then ?_
        refine region ?_
        refine rs (vI y2_0) (r_move rfl) ?_
        refine rs (vI (w64 (y2_0+1))) (r_bin rfl rfl rfl) ?_
        refine rs (vI (w64 (y2_0+1))) (r_assign rfl) ?_
        try simp only [sc0,sc1]
        refine run_nil ?_
        refine again m [uo2_2,vI (w64 (y2_0+1)),uo2_9,uo2_10,uo2_11,uo2_12,uo2_13,vI y2_0,vP b2 0,vL Av2_0_0 v2.1.vDefs.length cv2_0_0,vI (v2.1.vDefs.length:Int),vB (decide (y2_0<(v2.1.vDefs.length:Int))),vI y2_0,vI (w64 (y2_0+1)),uo2_66,uo2_67,uo2_68,uo2_69,uo2_70,uo2_71,uo2_72,uo2_73,uo2_74,uo2_75,uo2_76,uo2_77,uo2_78,uo2_79,uo2_80,uo2_81,uo2_82,uo2_83,uo2_84,uo2_85,uo2_86,uo2_87,uo2_88,uo2_89,uo2_90,uo2_91,uo2_92,uo2_93] (Nat.lt_succ_self m) (by simp only [patch,sc0,sc1]) ⟨(w64 (y2_0+1)),_,_,_,_,_,_,_,_,_,_,_,_,_,_,_,_,_,_,_,_,_,_,_,_,_,_,_,_,_,_,_,_,_,_,_,_,_,_,_,_,_,rfl,H,HS15⟩
      ·replace H:=of_neg H (nt c5)
       refine wp_exit ?_
       refine exit_then ?_
       obtain rfl:=Option.some.inj H
       refine leave [uy2_2,vI y2_0,uy2_9,uy2_10,uy2_11,uy2_12,uy2_13,vI y2_0,vP b2 0,vL Av2_0_0 v2.1.vDefs.length cv2_0_0,vI (v2.1.vDefs.length:Int),vB (decide (y2_0<(v2.1.vDefs.length:Int))),uy2_64,uy2_65,uy2_66,uy2_67,uy2_68,uy2_69,uy2_70,uy2_71,uy2_72,uy2_73,uy2_74,uy2_75,uy2_76,uy2_77,uy2_78,uy2_79,uy2_80,uy2_81,uy2_82,uy2_83,uy2_84,uy2_85,uy2_86,uy2_87,uy2_88,uy2_89,uy2_90,uy2_91,uy2_92,uy2_93] (by simp only [patch,sc0,sc1]) ⟨_,rfl,_,_,_,_,_,_,_,_,_,_,_,_,_,_,_,_,_,_,_,_,_,_,_,_,_,_,_,_,_,_,_,_,_,_,_,_,_,_,_,_,_,_,rfl,HS11⟩
    ·rintro us w16 ⟨s3,rfl,uo3_2,uo3_8,uo3_9,uo3_10,uo3_11,uo3_12,uo3_13,uo3_59,uo3_60,uo3_61,uo3_62,uo3_63,uo3_64,uo3_65,uo3_66,uo3_67,uo3_68,uo3_69,uo3_70,uo3_71,uo3_72,uo3_73,uo3_74,uo3_75,uo3_76,uo3_77,uo3_78,uo3_79,uo3_80,uo3_81,uo3_82,uo3_83,uo3_84,uo3_85,uo3_86,uo3_87,uo3_88,uo3_89,uo3_90,uo3_91,uo3_92,uo3_93,rfl,HS16⟩
     replace H:=G2
     clear G2
     try simp only [patch,sc0,sc1]
     refine norm_then ?_
     refine wp_seq ?_
     refine region ?_
     refine rs (Value.agg #[vL Av2_0_0 v2.1.vDefs.length cv2_0_0]) (r_loadBoxAgg (n:=1) (vs:=[vL Av2_0_0 v2.1.vDefs.length cv2_0_0]) rfl Tryd.isAgg24 (HS16.look 0 rfl) Tryd.sizeOf24 rfl rfl) ?_
     obtain ⟨v8,H8,H⟩:=of_bind H
     refine run_ex rfl rfl (does_call Tryd.call28 rfl (gives_in (h:=h1) (R:=(fun hx u=>∃(Av8_0_0:Option Addr) (cv8_0_0:Nat),∃(Av8_1_0:Option Addr) (cv8_1_0:Nat),u=Value.tuple #[Value.agg #[vL Av8_0_0 v8.1.vDefs.length cv8_0_0],vL Av8_1_0 v8.2.1.length cv8_1_0,vI v8.2.2]∧v8.1.vDefs.length≤cv8_0_0∧Rd k_api_Def hx Av8_0_0 v8.1.vDefs∧v8.2.1.length≤cv8_1_0∧Rd (Kd.int .i64) hx Av8_1_0 v8.2.1)) (Ext.rfl' w16) ((ctf_Unique.calls k v2.1 Av2_0_0 cv2_0_0 HS16.sees (ht.s HS16) hrv2_0_0 hcv2_0_0 H8).mono ?_)) rfl) ?_
     ·rintro _ _ ⟨h1,Av8_0_0,cv8_0_0,Av8_1_0,cv8_1_0,rfl,hcv8_0_0,hrv8_0_0,hcv8_1_0,hrv8_1_0,g,ss,x⟩
      exact ⟨h1,_,rfl,⟨Av8_0_0,cv8_0_0,Av8_1_0,cv8_1_0,rfl,hcv8_0_0,hrv8_0_0,hcv8_1_0,hrv8_1_0⟩,g,ss,x⟩
     rintro w17 _ hE10 ⟨h2,⟨Av8_0_0,cv8_0_0,Av8_1_0,cv8_1_0,rfl,hcv8_0_0,hrv8_0_0,hcv8_1_0,hrv8_1_0⟩,gr2,se2⟩
     have HS17:=HS16.view hE10 gr2 se2
     replace hrv2_0_0:Rd k_api_Def h2 Av2_0_0 v2.1.vDefs:=hrv2_0_0.ext gr2.1
     replace hrv2_1_0:Rd (Kd.int .i64) h2 Av2_1_0 v2.2.1:=hrv2_1_0.ext gr2.1
     refine rs (Value.tuple #[Value.agg #[vL Av8_0_0 v8.1.vDefs.length cv8_0_0],vL Av8_1_0 v8.2.1.length cv8_1_0,vI v8.2.2]) (r_move rfl) ?_
     refine rs (Value.agg #[vL Av8_0_0 v8.1.vDefs.length cv8_0_0]) (r_extract rfl rfl) ?_
     refine run_frame (by simp only [sc0,sc1];rfl) ?_
     refine rs (vL Av8_1_0 v8.2.1.length cv8_1_0) (r_extract rfl rfl) ?_
     refine rs (vI v8.2.2) (r_extract rfl rfl) ?_
     refine run_ex rfl rfl (does_alloc (cs:=#[vL none 0 0]) Tryd.zeroValue24 rfl) ?_
     rintro w18 _ hE11 ⟨b3,rfl,ge3,hb3⟩
     have HS18:=HS17.new hE11 ge3 hb3
     refine run_st (i:=0) (cs:=[vL none 0 0]) (cs':=[vL Av8_0_0 v8.1.vDefs.length cv8_0_0]) (vs:=[vL Av8_0_0 v8.1.vDefs.length cv8_0_0]) (bs':=[(some b3, .cells #[vL Av8_0_0 v8.1.vDefs.length cv8_0_0] 24 (0,0)),(some b2, .cells #[vL Av2_0_0 v2.1.vDefs.length cv2_0_0] 24 (0,0)),(some b1, .cells #[vL A0_0 a0.vDefs.length c0_0] 24 (0,0))]) rfl rfl Tryd.sizeOf24 rfl rfl (by decide) rfl HS18 rfl (Nat.le_of_ble_eq_true rfl) rfl rfl ?_
     intro w19 HS19
     refine run_frame (by simp only [sc0,sc1];rfl) ?_
     refine rs (vL Av8_1_0 v8.2.1.length cv8_1_0) (r_assign rfl) ?_
     refine rs (vI v8.2.2) (r_assign rfl) ?_
     try simp only [sc0,sc1]
     refine run_nil ?_
     refine norm_then ?_
     refine wp_seq ?_
     refine region ?_
     refine rs (vB v1) (r_move rfl) ?_
     refine rs (vB v1) (r_move rfl) ?_
     refine rgs v1 true (vI v8.2.2) rfl rfl rfl rfl (fun hg=>(r_move rfl)) ?_
     refine rgs v1 true (vB (v8.2.2==0)) rfl rfl rfl rfl (fun hg=>(r_bin (gvt (vI v8.2.2) hg rfl) rfl rfl)) ?_
     refine run_frame (by simp only [sc0,sc1];rfl) ?_
     refine rs (vB (v1&&(v8.2.2==0))) (r_pick_and rfl (fun hp=>(gvt (vB (v8.2.2==0)) (and_i rfl hp) rfl)) rfl) ?_
     refine rs (vB (v1&&(v8.2.2==0))) (r_move rfl) ?_
     refine rgs (v1&&(v8.2.2==0)) true (Value.agg #[vL Av8_0_0 v8.1.vDefs.length cv8_0_0]) rfl rfl rfl rfl (fun hg=>(r_loadBoxAgg (n:=1) (vs:=[vL Av8_0_0 v8.1.vDefs.length cv8_0_0]) rfl Tryd.isAgg24 (HS19.look 0 rfl) Tryd.sizeOf24 rfl rfl)) ?_
     refine rgs (v1&&(v8.2.2==0)) true (Value.agg #[vL Av2_0_0 v2.1.vDefs.length cv2_0_0]) rfl rfl rfl rfl (fun hg=>(r_loadBoxAgg (n:=1) (vs:=[vL Av2_0_0 v2.1.vDefs.length cv2_0_0]) rfl Tryd.isAgg24 (HS19.look 1 rfl) Tryd.sizeOf24 rfl rfl)) ?_
     refine run_frame (by simp only [sc0,sc1];rfl) ?_
     obtain ⟨v9,H9,H⟩:=of_bind H
     refine run_g (b:=(v1&&(v8.2.2==0))) (c:=true) (v:=vB v9) rfl rfl rfl rfl (fun hg=>(does_call_eq Tryd.call30 rfl (map2 (gvt (Value.agg #[vL Av8_0_0 v8.1.vDefs.length cv8_0_0]) hg rfl) (gvt (Value.agg #[vL Av2_0_0 v2.1.vDefs.length cv2_0_0]) hg rfl)) (taplineref08_Same.calls k v8.1 v2.1 Av8_0_0 cv8_0_0 Av2_0_0 cv2_0_0 HS19.sees hrv8_0_0 hcv8_0_0 hrv2_0_0 hcv2_0_0 (of_pos H9 hg)))) ?_
     intro w20 hE12
     have HS20:=HS19.step hE12
     refine rs (vB ((v1&&(v8.2.2==0))&&v9)) (r_pick_and rfl (fun hp=>(gvt (vB v9) (and_i rfl hp) rfl)) rfl) ?_
     refine rs (vB ((v1&&(v8.2.2==0))&&v9)) (r_move rfl) ?_
     refine rgs ((v1&&(v8.2.2==0))&&v9) true (vL Av8_1_0 v8.2.1.length cv8_1_0) rfl rfl rfl rfl (fun hg=>(r_move rfl)) ?_
     refine run_frame (by simp only [sc0,sc1];rfl) ?_
     obtain ⟨v10,H10,H⟩:=of_bind H
     refine run_g (b:=((v1&&(v8.2.2==0))&&v9)) (c:=true) (v:=vB v10) rfl rfl rfl rfl (fun hg=>(does_call_eq Tryd.call31 rfl (map1 (gvt (vL Av8_1_0 v8.2.1.length cv8_1_0) hg rfl)) (taplinelaw08_rising.calls k v8.2.1 Av8_1_0 cv8_1_0 HS20.sees hrv8_1_0 hcv8_1_0 (of_pos H10 hg)))) ?_
     intro w21 hE13
     have HS21:=HS20.step hE13
     refine rs (vB (((v1&&(v8.2.2==0))&&v9)&&v10)) (r_pick_and rfl (fun hp=>(gvt (vB v10) (and_i rfl hp) rfl)) rfl) ?_
     refine rs (vB (((v1&&(v8.2.2==0))&&v9)&&v10)) (r_assign rfl) ?_
     try simp only [sc0,sc1]
     refine run_nil ?_
     refine norm_then ?_
     refine wp_ret ?_
     obtain rfl:=Option.some.inj H
     refine bodyPost_ret (results_1 rfl (one_tmp rfl)) rfl ?_
     exact ⟨rfl,HS21.toE⟩

end Go.Proofs.YtfjppgobidjndaaDoor
namespace Go.Proofs.YtfjppgobidjndaaDoor
open Go.RowKit Go.M
theorem sameF_loop {a:List api_Field} (hl:a.length≤9223372036854775807):∀(e j m:Nat),j+e=a.length→e<m→taplineref08_SameFields.l0 a a m (j:Int)=some (.inr ()):=by
  intro e
  induction e with
  |zero=>
    intro j m hj hm
    obtain ⟨m,rfl⟩:∃q,m=q+1:=⟨m-1,by omega⟩
    rw [taplineref08_SameFields.l0,if_neg (by simp;omega)]
  |succ e ih=>
    intro j m hj hm
    obtain ⟨m,rfl⟩:∃q,m=q+1:=⟨m-1,by omega⟩
    have hlt:j<a.length:=by omega
    rw [taplineref08_SameFields.l0,if_pos (by simp;omega),if_pos (by omega),if_pos (by omega),if_neg (by rw [strEq_iff.2 rfl];simp),wrap_nat hlt hl]
    exact ih (j+1) m (by omega) (by omega)
theorem sameD_refl {d:api_Def} (hl:d.vFields.length≤9223372036854775807):∀k,d.vFields.length<k→taplineref08_SameDef.f k d d=some true:=by
  intro k hk
  unfold taplineref08_SameDef.f
  have hF:taplineref08_SameFields.f k d.vFields d.vFields=some true:=by
    unfold taplineref08_SameFields.f
    rw [if_neg (by simp),show taplineref08_SameFields.l0 _ _ k 0=_ from sameF_loop hl d.vFields.length 0 k (by omega) hk]
    rfl
  rw [strEq_iff.2 rfl]
  simp only [beq_self_eq_true,Bool.and_self,if_true]
  rw [hF]
  rfl
theorem sameT_loop {t:api_Types} (hl:t.vDefs.length≤9223372036854775807) {k:Nat} (hd:∀d∈t.vDefs,taplineref08_SameDef.f k d d=some true):∀(e j m:Nat),j+e=t.vDefs.length→e<m→taplineref08_Same.l0 k t t m (j:Int)=some (.inr ()):=by
  intro e
  induction e with
  |zero=>
    intro j m hj hm
    obtain ⟨m,rfl⟩:∃q,m=q+1:=⟨m-1,by omega⟩
    rw [taplineref08_Same.l0,if_neg (by simp;omega)]
  |succ e ih=>
    intro j m hj hm
    obtain ⟨m,rfl⟩:∃q,m=q+1:=⟨m-1,by omega⟩
    have hlt:j<t.vDefs.length:=by omega
    rw [taplineref08_Same.l0,if_pos (by simp;omega),if_pos (by omega),if_pos (by omega),rd_nat,hd _ (getD_mem hlt)]
    simp only [Option.bind_some,Bool.not_true,Bool.false_eq_true,if_false]
    rw [wrap_nat hlt hl]
    exact ih (j+1) m (by omega) (by omega)
theorem same_refl {t:api_Types} (hl:t.vDefs.length≤9223372036854775807) (hF:∀d∈t.vDefs,FitD d):Ev (fun k=>taplineref08_Same.f k t t) true:=by
  obtain ⟨K,hK⟩:=Ev.all (f:=fun d k=>taplineref08_SameDef.f k d d) (q:=fun _=>true) t.vDefs (fun d hd=>⟨d.vFields.length+1,fun k hk=>sameD_refl (hF d hd).len k (by omega)⟩)
  refine ⟨K+t.vDefs.length+1,fun k hk=>?_⟩
  show taplineref08_Same.f k t t=_
  unfold taplineref08_Same.f
  rw [if_neg (by simp),show taplineref08_Same.l0 k t t k 0=_ from sameT_loop hl (hK k (by omega)) t.vDefs.length 0 k (by omega) (by omega)]
  rfl
theorem sameI_loop {a:List Int} (hl:a.length≤9223372036854775807):∀(e j m:Nat),j+e=a.length→e<m→taplineref08_SameInts.l0 a a m (j:Int)=some (.inr ()):=by
  intro e
  induction e with
  |zero=>
    intro j m hj hm
    obtain ⟨m,rfl⟩:∃q,m=q+1:=⟨m-1,by omega⟩
    rw [taplineref08_SameInts.l0,if_neg (by simp;omega)]
  |succ e ih=>
    intro j m hj hm
    obtain ⟨m,rfl⟩:∃q,m=q+1:=⟨m-1,by omega⟩
    have hlt:j<a.length:=by omega
    rw [taplineref08_SameInts.l0,if_pos (by simp;omega),if_pos (by omega),if_pos (by omega),if_neg (by simp),wrap_nat hlt hl]
    exact ih (j+1) m (by omega) (by omega)
theorem sameI_refl {a:List Int} (hl:a.length≤9223372036854775807):Ev (fun k=>taplineref08_SameInts.f k a a) true:=by
  refine ⟨a.length+1,fun k hk=>?_⟩
  show taplineref08_SameInts.f k a a=_
  unfold taplineref08_SameInts.f
  rw [if_neg (by simp),show taplineref08_SameInts.l0 a a k 0=_ from sameI_loop hl a.length 0 k (by omega) (by omega)]
  rfl
def upto (n:Nat):List Int:=(List.range n).map fun i=>((i:Nat):Int)
theorem upto_at {n j:Nat} (h:j<n):(upto n).getD j 0=(j:Int):=by
  unfold upto
  rw [List.getD_eq_getElem?_getD,List.getElem?_map,List.getElem?_range h];rfl
theorem upto_len (n:Nat):(upto n).length=n:=by unfold upto;simp
theorem rising_loop {n:Nat} (hl:n≤9223372036854775807):∀(e j m:Nat),j+e=n→e<m→taplinelaw08_rising.l0 (upto n) m (j:Int)=some (.inr ()):=by
  intro e
  induction e with
  |zero=>
    intro j m hj hm
    obtain ⟨m,rfl⟩:∃q,m=q+1:=⟨m-1,by omega⟩
    rw [taplinelaw08_rising.l0,if_neg (by rw [upto_len];simp;omega)]
  |succ e ih=>
    intro j m hj hm
    obtain ⟨m,rfl⟩:∃q,m=q+1:=⟨m-1,by omega⟩
    have hlt:j<n:=by omega
    rw [taplinelaw08_rising.l0,if_pos (by rw [upto_len];simp;omega),if_pos (by rw [upto_len];omega),rd_nat,upto_at hlt,if_neg (by simp),wrap_nat hlt hl]
    exact ih (j+1) m (by omega) (by omega)
theorem rising_upto {n:Nat} (hl:n≤9223372036854775807):Ev (fun k=>taplinelaw08_rising.f k (upto n)) true:=by
  refine ⟨n+1,fun k hk=>?_⟩
  show taplinelaw08_rising.f k (upto n)=_
  unfold taplinelaw08_rising.f
  rw [show taplinelaw08_rising.l0 _ k 0=_ from rising_loop hl n 0 k (by omega) (by omega)]
  rfl
section
variable {t:api_Types} {s:List Int} {m m':List (ByteArray×Int)} {l l':List ctf_source} {ix:List Int}
theorem Added.has (A:Added t m l 0 ix m' l'):Has m' t:=fun i hi=>by
  obtain ⟨q,_,h2,h3⟩:=A.at_ i (by have:=A.len;omega)
  have:=A.pool.all q h2
  rw [h3] at this
  simp only [Nat.zero_add] at this
  exact ⟨_,this⟩
theorem Added.keeps {u:api_Types} (P:Pool m l) (A:Added t m l 0 ix m' l') (h:Has m u):Has m' u:=fun i hi=>by
  obtain ⟨n,hn⟩:=h i hi
  obtain ⟨q,_,h2,h3⟩:=P.fst _ _ hn
  obtain ⟨r,hr,_⟩:=A.ext
  refine ⟨(q:Int),?_⟩
  have hl:l.length≤l'.length:=by rw [hr];simp
  have:=A.pool.all q (by omega)
  rw [hr,xS_app h2,h3] at this
  exact this
theorem src_at {l:List ctf_source} {q:Nat} (hq:q<l.length):l.getD q z_ctf_source∈l:=getD_mem hq
theorem uniq_built (W:Wf t s) (A:Added t [] [] 0 ix m' l'):(∀q,q<l'.length→sT (toS l') q=t)∧Built (outP m' l') (toS l'):=by
  obtain ⟨r,hr,hr2⟩:=A.ext
  have hst:∀q,q<l'.length→sT (toS l') q=t:=fun q hq=>by
    rw [(toS_at hq).1]
    have hm:=src_at hq
    rw [hr] at hm
    simp only [List.nil_append] at hm
    obtain ⟨i,_,_,e⟩:=hr2 _ hm
    rw [hr,List.nil_append,e]
  refine ⟨hst,A.pool.built ?_ (fun q hq=>?_) (fun q p hq hp k k' hk hk' he=>?_)⟩
  · have:=A.few;have:=A.len;have:=W.few;simp at*;omega
  · rw [hst q hq];exact A.has
  · rw [hst q hq] at hk he⊢
    rw [hst p hp] at hk' he⊢
    exact match_self W hk hk' he
theorem added_eq (W:Wf t s) (B:Built (outP m' l') (toS l')) (hsame:∀q,q<(toS l').length→∀k k',k<t.vDefs.length→k'<(sT (toS l') q).vDefs.length→tx t k=tx (sT (toS l') q) k'→Match t (dAt t k) (sT (toS l') q) (dAt (sT (toS l') q) k')) (P:Pool m' l') (H:Has m' t) {i q:Nat} (hi:i<t.vDefs.length) (hq:q<l'.length) (he:xS (toS l') q=tx t i):EqX t (i:Int) (outP m' l') (q:Int):=
  ⟨i,q,⟨rfl,hi,s,W⟩,⟨rfl,by rw [outP_len];exact hq,_,B.wf⟩,B.eq W hsame hi (fun k hk=>by
    obtain ⟨n,hn⟩:=H k (hk.lt W hi)
    obtain ⟨r,_,h2,h3⟩:=P.fst _ _ hn
    exact ⟨r,by rw [toS_len];exact h2,h3⟩) (by rw [toS_len];exact hq) he⟩
def srcs (u:api_Types) (n:Nat):List ctf_source:=(List.range n).map fun i=>⟨u,((i:Nat):Int)⟩
theorem srcs_succ (u:api_Types) (n:Nat):srcs u (n+1)=srcs u n++[⟨u,(n:Int)⟩]:=by unfold srcs;rw [List.range_succ,List.map_append];rfl
theorem upto_succ (n:Nat):upto (n+1)=upto n++[(n:Int)]:=by unfold upto;rw [List.range_succ,List.map_append];rfl
theorem srcs_len (u:api_Types) (n:Nat):(srcs u n).length=n:=by unfold srcs;simp
theorem srcs_x {u:api_Types} {n q:Nat} (h:q<n):sT (toS (srcs u n)) q=u∧sI (toS (srcs u n)) q=q:=by
  obtain ⟨h1,h2⟩:=toS_at (l:=srcs u n) (q:=q) (by rw [srcs_len];exact h)
  have:(srcs u n).getD q z_ctf_source=⟨u,(q:Int)⟩:=by
    unfold srcs
    rw [List.getD_eq_getElem?_getD,List.getElem?_map,List.getElem?_range h];rfl
  rw [h1,h2,this]
  exact ⟨rfl,rfl⟩
theorem add_same (W:Wf t s) (hD:∀i k,i<t.vDefs.length→k<t.vDefs.length→tx t i=tx t k→i=k):∀(e j:Nat) (m:List (ByteArray×Int)),j+e=t.vDefs.length→Pool m (srcs t j)→
    ∃m',Pool m' (srcs t t.vDefs.length)∧Ev2 (fun k q=>ctf_pool_add.l0 k t q (j:Int) (upto j) (srcs t j) m) (upto t.vDefs.length,srcs t t.vDefs.length,m'):=by
  have hn:=W.few
  intro e
  induction e with
  |zero=>
    intro j m hj P
    have hj:j=t.vDefs.length:=by omega
    subst hj
    refine ⟨m,P,Ev2.pure fun k q=>?_⟩
    rw [ctf_pool_add.l0,if_neg (by simp)]
  |succ e ih=>
    intro j m hj P
    have hlt:j<t.vDefs.length:=by omega
    obtain ⟨⟨Kt,hKt⟩,_⟩:=text_ev W hlt
    have hf:mfind strEq m (tx t j)=none:=by
      cases h:mfind strEq m (tx t j) with
      |none=>rfl
      |some n=>
        obtain ⟨q,_,h2,h3⟩:=P.fst _ _ h
        rw [srcs_len] at h2
        unfold xS at h3
        rw [(srcs_x h2).1,(srcs_x h2).2] at h3
        have:=hD _ _ (by omega) hlt h3
        omega
    have P2:=P.push W hlt hf
    rw [←srcs_succ,srcs_len] at P2
    obtain ⟨m',P3,K,hK⟩:=ih (j+1) _ (by omega) P2
    refine ⟨m',P3,max Kt K+1,fun k q hk hq=>?_⟩
    obtain ⟨q,rfl⟩:∃x,q=x+1:=⟨q-1,by omega⟩
    show ctf_pool_add.l0 k t (q+1) _ _ _ _=_
    rw [ctf_pool_add.l0,if_pos (by simp;omega),show ctf_text.f k t (j:Int)=_ from hKt k (by omega)]
    simp only [Option.bind_some]
    rw [hf]
    simp only [Option.isSome_none,Bool.not_false,if_true]
    rw [if_pos (by rw [srcs_len];omega)]
    simp only [Option.bind_some]
    rw [if_pos (by rw [upto_len];omega),wrap_nat hlt (by omega),srcs_len]
    have:=hK k q (by omega) (by omega)
    simp only at this
    rw [srcs_succ,upto_succ] at this
    exact this
theorem out_same (W:Wf t s) (P:Pool m' (srcs t t.vDefs.length)):outP m' (srcs t t.vDefs.length)=t:=by
  have hp:∀q,q<t.vDefs.length→posP m' (tx t q)=(q:Int):=fun q hq=>by
    have:=P.all q (by rw [srcs_len];exact hq)
    unfold xS at this
    rw [(srcs_x hq).1,(srcs_x hq).2] at this
    unfold posP
    rw [this];rfl
  have:(outP m' (srcs t t.vDefs.length)).vDefs=t.vDefs:=by
    apply List.ext_getElem
    · rw [outP_len,srcs_len]
    · intro q h1 h2
      have:=outP_at (m:=m') (l:=srcs t t.vDefs.length) (q:=q) (by rw [srcs_len];exact h2)
      unfold dS at this
      rw [(srcs_x h2).1,(srcs_x h2).2,mvS_id (fun c hc=>by
        obtain ⟨c1,c2⟩:=kids_range W h2 hc
        rw [hp _ c2];exact c1.symm)] at this
      unfold dAt at this
      rw [List.getD_eq_getElem?_getD,List.getD_eq_getElem?_getD,List.getElem?_eq_getElem h1,List.getElem?_eq_getElem h2] at this
      exact this
  exact congrArg api_Types.mk this
theorem Unique_of (W:Wf t s) (hv:Ev (fun k=>ctf_valid.f k t) true) (A:Added t [] [] 0 ix m' l') (hA:Ev (fun k=>ctf_pool_add.f k [] [] t) (ix,m',l')):Ev (fun k=>ctf_Unique.f k t) (outP m' l',ix,0):=by
  obtain ⟨K1,h1⟩:=hA
  have hfew:l'.length≤100000:=by have:=A.few;have:=A.len;have:=W.few;simp at*;omega
  obtain ⟨K2,h2⟩:=types_ev A.pool hfew
  obtain ⟨K3,h3⟩:=hv
  refine ⟨K1+K2+K3,fun k hk=>?_⟩
  show ctf_Unique.f k t=_
  unfold ctf_Unique.f
  rw [show ctf_valid.f k t=_ from h3 k (by omega)]
  simp only [Option.bind_some,Bool.not_true,Bool.false_eq_true,if_false]
  rw [show ctf_pool_add.f k [] [] t=_ from h1 k (by omega)]
  simp only [Option.bind_some]
  rw [show ctf_pool_types.f k m' l'=_ from h2 k (by omega)]
  rfl
theorem Unique_ev (W:Wf t s) (hv:Ev (fun k=>ctf_valid.f k t) true):∃ix m' l',Added t [] [] 0 ix m' l'∧Ev (fun k=>ctf_Unique.f k t) (outP m' l',ix,0):=by
  obtain ⟨ix,m',l',h,A⟩:=add_ev W Pool.nil (by simp)
  exact ⟨ix,m',l',A,Unique_of W hv A h⟩
theorem Unique_same (W:Wf t s) (hv:Ev (fun k=>ctf_valid.f k t) true) (hD:∀i k,i<t.vDefs.length→k<t.vDefs.length→tx t i=tx t k→i=k):Ev (fun k=>ctf_Unique.f k t) (t,upto t.vDefs.length,0):=by
  obtain ⟨m',P,h⟩:=add_same W hD t.vDefs.length 0 [] (by omega) Pool.nil
  obtain ⟨K1,h1⟩:=h.diag
  obtain ⟨K2,h2⟩:=types_ev P (by rw [srcs_len];have:=W.few;omega)
  obtain ⟨K3,h3⟩:=hv
  refine ⟨K1+K2+K3,fun k hk=>?_⟩
  show ctf_Unique.f k t=_
  unfold ctf_Unique.f ctf_pool_add.f
  rw [show ctf_valid.f k t=_ from h3 k (by omega)]
  simp only [Option.bind_some,Bool.not_true,Bool.false_eq_true,if_false]
  rw [show ctf_pool_add.l0 k t k 0 [] [] []=_ from h1 k (by omega)]
  simp only [Option.bind_some]
  rw [show ctf_pool_types.f k m' _=_ from h2 k (by omega),out_same W P]
  rfl
theorem Unique_bad (hv:Ev (fun k=>ctf_valid.f k t) false):Ev (fun k=>ctf_Unique.f k t) (⟨[]⟩,[],80):=by
  obtain ⟨K3,h3⟩:=hv
  refine ⟨K3,fun k hk=>?_⟩
  show ctf_Unique.f k t=_
  unfold ctf_Unique.f
  rw [show ctf_valid.f k t=_ from h3 k (by omega)]
  rfl
theorem Check_ev {b:Bool} (hv:Ev (fun k=>ctf_valid.f k t) b):Ev (fun k=>ctf_Check.f k t) (if b=true then 0 else 80):=by
  obtain ⟨K3,h3⟩:=hv
  refine ⟨K3,fun k hk=>?_⟩
  show ctf_Check.f k t=_
  unfold ctf_Check.f
  rw [show ctf_valid.f k t=_ from h3 k (by omega)]
  cases b<;>rfl
end
theorem uq_l0 {t u:api_Types} {ix:List Int} {z:Int} (hl:ix.length≤9223372036854775807) (h:∀i,i<ix.length→Ev (fun k=>ctf_Equal.f k t (i:Int) u (ix.getD i 0)) true):∀(e j:Nat),j+e=ix.length→Ev2 (fun k m=>taplinelaw08_CtfUnique.l0 k t (u,ix,z) m (j:Int)) (.inr ()):=by
  intro e
  induction e with
  |zero=>
    intro j hj
    refine Ev2.pure fun k m=>?_
    rw [taplinelaw08_CtfUnique.l0,if_neg (by simp;omega)]
  |succ e ih=>
    intro j hj
    have hlt:j<ix.length:=by omega
    refine Ev2.step (h j hlt) (r:=fun k m (v5:Bool)=>if (!v5)=true then some (.inl false) else taplinelaw08_CtfUnique.l0 k t (u,ix,z) m ((j+1:Nat):Int)) ?_ (fun k m=>?_)
    · exact ih (j+1) (by omega)
    · rw [taplinelaw08_CtfUnique.l0,if_pos (by simp;omega),if_pos (by simp only [];omega),wrap_nat hlt hl]
      rfl
theorem uq_l2 {u:api_Types} {s:List Int} (V:Wf u s) (hv:Ev (fun k=>ctf_valid.f k u) true) {ix:List Int} {z:Int} {i:Nat} (hi:i<u.vDefs.length) (hne:∀k,k<i→tx u i≠tx u k):∀(e j:Nat),j+e=i→Ev2 (fun k m=>taplinelaw08_CtfUnique.l2 k (u,ix,z) (i:Int) m (j:Int)) (.inr ()):=by
  have hn:=V.few
  intro e
  induction e with
  |zero=>
    intro j hj
    refine Ev2.pure fun k m=>?_
    rw [taplinelaw08_CtfUnique.l2,if_neg (by simp;omega)]
  |succ e ih=>
    intro j hj
    obtain ⟨K1,h1⟩:=Text_ok V hv hi
    obtain ⟨K2,h2⟩:=Text_ok V hv (i:=j) (by omega)
    obtain ⟨K3,h3⟩:=ih (j+1) (by omega)
    refine ⟨K1+K2+K3+1,fun k m hk hm=>?_⟩
    obtain ⟨m,rfl⟩:∃x,m=x+1:=⟨m-1,by omega⟩
    show taplinelaw08_CtfUnique.l2 k (u,ix,z) (i:Int) (m+1) (j:Int)=_
    rw [taplinelaw08_CtfUnique.l2,if_pos (by simp;omega)]
    simp only []
    rw [show ctf_Text.f k u (i:Int)=_ from h1 k (by omega),show ctf_Text.f k u (j:Int)=_ from h2 k (by omega)]
    simp only [Option.bind_some]
    have:strEq (tx u i) (tx u j)=false:=by
      rw [Bool.eq_false_iff];exact fun h=>hne j (by omega) (strEq_iff.1 h)
    rw [this,if_neg (by simp),wrap_nat (j:=j) (n:=i) (by omega) (by omega)]
    exact h3 k m (by omega) (by omega)
theorem uq_l1 {u:api_Types} {s:List Int} (V:Wf u s) (hv:Ev (fun k=>ctf_valid.f k u) true) {ix:List Int} {z:Int} (hD:∀i k,i<u.vDefs.length→k<u.vDefs.length→tx u i=tx u k→i=k):∀(e j:Nat),j+e=u.vDefs.length→Ev2 (fun k m=>taplinelaw08_CtfUnique.l1 k (u,ix,z) m (j:Int)) (.inr ()):=by
  have hn:=V.few
  intro e
  induction e with
  |zero=>
    intro j hj
    refine Ev2.pure fun k m=>?_
    rw [taplinelaw08_CtfUnique.l1,if_neg (by simp;omega)]
  |succ e ih=>
    intro j hj
    have hlt:j<u.vDefs.length:=by omega
    have h2:=(uq_l2 V hv (ix:=ix) (z:=z) hlt (fun k hk he=>by have:=hD _ _ hlt (by omega) he;omega) j 0 (by omega)).diag
    refine Ev2.step h2 (r:=fun k m xx3=>match xx3 with| .inl r=>some (.inl r)| .inr s2=>taplinelaw08_CtfUnique.l1 k (u,ix,z) m ((j+1:Nat):Int)) ?_ (fun k m=>?_)
    · exact ih (j+1) (by omega)
    · rw [taplinelaw08_CtfUnique.l1,if_pos (by simp;omega),wrap_nat hlt (by omega)]
      rfl
theorem unique_ev {t:api_Types} (hF:∀d∈t.vDefs,FitD d):Ev (fun k=>taplinelaw08_CtfUnique.f k t) true:=by
  obtain ⟨Ks,hs⟩:=sane_ev
  rcases valid_iff hF with ⟨s,W,hv⟩|⟨hno,hv⟩
  · obtain ⟨ix,m',l',A,⟨K1,h1⟩⟩:=Unique_ev W hv
    obtain ⟨hst,B⟩:=uniq_built W A
    have V:=B.wf
    have hvu:=valid_wf V.fit V
    obtain ⟨K2,h2⟩:=Check_ev hvu
    have hlen:ix.length=t.vDefs.length:=by have:=A.len;omega
    have hn:=W.few
    have hE:∀i,i<ix.length→Ev (fun k=>ctf_Equal.f k t (i:Int) (outP m' l') (ix.getD i 0)) true:=fun i hi=>by
      obtain ⟨q,e,hq,hx⟩:=A.at_ i hi
      simp only [Nat.zero_add] at hx
      have:=Equal_ev hF V.fit (i:Int) (ix.getD i 0)
      rwa [e,tell_t (added_eq W B (fun q hq k k' hk hk' he=>by
        rw [toS_len] at hq
        rw [hst q hq] at hk' he⊢
        exact match_self W hk hk' he) A.pool A.has (by omega) hq hx),←e] at this
    obtain ⟨K3,h3⟩:=(uq_l0 (z:=0) (by omega) hE ix.length 0 (by omega)).diag
    have hD:∀i k,i<(outP m' l').vDefs.length→k<(outP m' l').vDefs.length→tx (outP m' l') i=tx (outP m' l') k→i=k:=fun i k hi hk he=>by
      rw [outP_len] at hi hk
      rw [B.text (by rw [toS_len];exact hi),B.text (by rw [toS_len];exact hk)] at he
      exact A.pool.inj hi hk he
    obtain ⟨K4,h4⟩:=(uq_l1 V hvu (ix:=ix) (z:=0) hD (outP m' l').vDefs.length 0 (by omega)).diag
    obtain ⟨K5,h5⟩:=Unique_same V hvu hD
    have hun:=V.few
    obtain ⟨K6,h6⟩:=same_refl (t:=outP m' l') (by omega) V.fit
    obtain ⟨K7,h7⟩:=rising_upto (n:=(outP m' l').vDefs.length) (by omega)
    refine ⟨Ks+K1+K2+K3+K4+K5+K6+K7,fun k hk=>?_⟩
    show taplinelaw08_CtfUnique.f k t=_
    unfold taplinelaw08_CtfUnique.f
    rw [show taplinelaw08_sane.f k=some true from hs k (by omega),show ctf_Unique.f k t=_ from h1 k (by omega)]
    simp only [Option.bind_some]
    rw [if_neg (by simp),show ctf_Check.f k _=_ from h2 k (by omega)]
    simp only [Option.bind_some,if_true]
    rw [if_neg (by simp [hlen]),show taplinelaw08_CtfUnique.l0 k t _ k 0=_ from h3 k (by omega)]
    simp only [Option.bind_some]
    rw [show taplinelaw08_CtfUnique.l1 k _ k 0=_ from h4 k (by omega)]
    simp only [Option.bind_some]
    rw [show ctf_Unique.f k _=_ from h5 k (by omega)]
    simp only [Option.bind_some,beq_self_eq_true,Bool.and_self,if_true]
    rw [show taplineref08_Same.f k _ _=_ from h6 k (by omega)]
    simp only [Option.bind_some,beq_self_eq_true,Bool.and_self,if_true]
    rw [show taplinelaw08_rising.f k _=_ from h7 k (by omega)]
    rfl
  · obtain ⟨K1,h1⟩:=Unique_bad hv
    obtain ⟨K2,h2⟩:=Check_ev hv
    refine ⟨Ks+K1+K2,fun k hk=>?_⟩
    show taplinelaw08_CtfUnique.f k t=_
    unfold taplinelaw08_CtfUnique.f
    rw [show taplinelaw08_sane.f k=some true from hs k (by omega),show ctf_Unique.f k t=_ from h1 k (by omega)]
    simp only [Option.bind_some]
    rw [if_pos (by decide),if_pos (by decide),show ctf_Check.f k _=_ from h2 k (by omega)]
    rfl
end Go.Proofs.YtfjppgobidjndaaDoor
namespace Go.Proofs.YtfjppgobidjndaaDoor
open Go.RowKit Go.M
def ctf_Trim_1.f (a0:Int) (x0:List Int):Option (Int):=if 0≤a0∧a0<x0.length then (some (rd 0 x0 a0)) else none
set_option maxRecDepth 20000 in
set_option maxHeartbeats 4000000 in
theorem ctf_Trim_1.calls (a0:Int) (x0:List Int) (bx0:Nat) (Ax0_0:Option Addr) (cx0_0:Nat) {h0:View} {w0:World} (hv:Sees h0 w0) (hrx0_0:Rd (Kd.int .i64) h0 Ax0_0 x0) (hcx0_0:x0.length≤cx0_0) (hx0:w0.heap[bx0]?=some (.cells #[vL Ax0_0 x0.length cx0_0] 62 (0,0))) {r:Int} (H:ctf_Trim_1.f a0 x0=some r):Calls Tryd.prog 86 #[vI a0,vP bx0 0] w0 (fun e w1=>e= .returned (vI r)∧Ext w0 w1):=by
 unfold ctf_Trim_1.f at H
 have HS:St [] h0 w0 h0 [] w0:=St.init hv
 go_enter Tryd.func86,Tryd.ntmps86
 refine wp_seq ?_
 refine region ?_
 refine rs (vI 0) (r_assign rfl) ?_
 try simp only [sc0,sc1]
 refine run_nil ?_
 refine norm_then ?_
 refine wp_seq ?_
 refine region ?_
 refine rs (vL Ax0_0 x0.length cx0_0) (r_loadBox rfl Tryd.isAgg62 (heap_ext hx0 HS.toE) rfl) ?_
 refine rs (vI a0) (r_move rfl) ?_
 obtain ⟨hi1,H⟩:=of_ite H
 obtain ⟨ad1,e1,hel1⟩:=ld_int hrx0_0 hi1.1 hi1.2
 refine rs (Value.pointer (some (Addr.add ad1 (a0.toNat*1)))) (r_indexA (sz:=1) rfl e1 rfl hi1.1 hi1.2 Tryd.runUnderlying62 Tryd.sizeOf3) ?_
 refine rs (vI (rd 0 x0 a0)) (r_load rfl Tryd.isAgg3 (hel1.cell0 HS.sees rfl)) ?_
 refine run_frame (by simp only [sc0,sc1];rfl) ?_
 refine rs (vI (rd 0 x0 a0)) (r_assign rfl) ?_
 try simp only [sc0,sc1]
 refine run_nil ?_
 refine norm_then ?_
 refine wp_ret ?_
 obtain rfl:=Option.some.inj H
 refine bodyPost_ret (results_1 rfl (one_tmp rfl)) rfl ?_
 exact ⟨rfl,HS.toE⟩

end Go.Proofs.YtfjppgobidjndaaDoor
namespace Go.Proofs.YtfjppgobidjndaaDoor
open Go.RowKit Go.M
def ctf_Trim.l0 (k:Nat) (a0:api_Types) (a1:List ByteArray):Nat→Int→(List Int)→Option ((api_Types×(List Int)×Int)⊕((List Int)))
 |0,_,_=>none
 |m+1,y1_0,y1_1=>if (decide (y1_0<(a1.length:Int)))=true then (if 0≤y1_0∧y1_0<a1.length then ((ctf_find.f k a0 (rd ByteArray.empty a1 y1_0)).bind fun v2=>(if (decide (v2<0))=true then (some (.inl ((⟨[]⟩:api_Types),([]:List Int),3))) else (if y1_1.length+1≤4294967296 then (ctf_Trim.l0 k a0 a1 m (IntKind.wrap .i64 (y1_0+1)) (y1_1++([v2]:List Int))) else none))) else none) else (some (.inr y1_1))
def ctf_Trim.l1 (a0:api_Types) (v3:(List (Int×Bool))):Nat→Int→Int→(List Int)→Option ((List Int))
 |0,_,_,_=>none
 |m+1,y2_0,y2_1,y2_2=>if (decide (y2_1<(a0.vDefs.length:Int)))=true then (if ((mfind ieq v3 y2_1).getD false)=true then (if y2_2.length+1≤4294967296 then (ctf_Trim.l1 a0 v3 m (IntKind.wrap .i64 (y2_0+1)) (IntKind.wrap .i64 (y2_1+1)) (y2_2++([y2_0]:List Int))) else none) else (if y2_2.length+1≤4294967296 then (ctf_Trim.l1 a0 v3 m y2_0 (IntKind.wrap .i64 (y2_1+1)) (y2_2++([(-1)]:List Int))) else none)) else (some y2_2)
def ctf_Trim.l2 (k:Nat) (a0:api_Types) (v3:(List (Int×Bool))) (xx2:(List Int)):Nat→Int→(List api_Def)→Option ((List api_Def))
 |0,_,_=>none
 |m+1,y3_0,y3_1=>if (decide (y3_0<(a0.vDefs.length:Int)))=true then (if 0≤y3_0∧y3_0<a0.vDefs.length then (if ((mfind ieq v3 y3_0).getD false)=true then ((ctf_moved.f k (rd z_api_Def a0.vDefs y3_0) (fun z0=>ctf_Trim_1.f z0 xx2)).bind fun v4=>(if y3_1.length+1≤4294967296 then (ctf_Trim.l2 k a0 v3 xx2 m (IntKind.wrap .i64 (y3_0+1)) (y3_1++([v4]:List api_Def))) else none)) else (ctf_Trim.l2 k a0 v3 xx2 m (IntKind.wrap .i64 (y3_0+1)) y3_1)) else none) else (some y3_1)
def ctf_Trim.f (k:Nat) (a0:api_Types) (a1:List ByteArray):Option (api_Types×(List Int)×Int):=(ctf_valid.f k a0).bind fun v1=>(if (!v1)=true then (some ((⟨[]⟩:api_Types),([]:List Int),80)) else (if (decide ((a1.length:Int)>200))=true then (some ((⟨[]⟩:api_Types),([]:List Int),2)) else ((ctf_Trim.l0 k a0 a1 k 0 ([]:List Int)).bind fun xx1=>(match xx1 with| .inl r=>some r| .inr s1=>(ctf_reached.f k a0 s1).bind fun v3=>((ctf_Trim.l1 a0 v3 k 0 0 ([]:List Int)).bind fun xx2=>((ctf_Trim.l2 k a0 v3 xx2 k 0 ([]:List api_Def)).bind fun xx3=>(some ((⟨xx3⟩:api_Types),xx2,0))))))))
set_option maxRecDepth 20000 in
set_option maxHeartbeats 4000000 in
theorem ctf_Trim.calls (k:Nat) (a0:api_Types) (a1:List ByteArray) (A0_0:Option Addr) (c0_0:Nat) (A1_0:Option Addr) (c1_0:Nat) {h0:View} {w0:World} (hv:Sees h0 w0) (hr0_0:Rd k_api_Def h0 A0_0 a0.vDefs) (hc0_0:a0.vDefs.length≤c0_0) (hr1_0:Rd Kd.str h0 A1_0 a1) (hc1_0:a1.length≤c1_0) {r:api_Types×(List Int)×Int} (H:ctf_Trim.f k a0 a1=some r):Calls Tryd.prog 41 #[Value.agg #[vL A0_0 a0.vDefs.length c0_0],vL A1_0 a1.length c1_0] w0 (fun e w1=>∃(h1:View) (A0_0:Option Addr) (c0_0:Nat) (A1_0:Option Addr) (c1_0:Nat),e= .returned (Value.tuple #[Value.agg #[vL A0_0 r.1.vDefs.length c0_0],vL A1_0 r.2.1.length c1_0,vI r.2.2])∧r.1.vDefs.length≤c0_0∧Rd k_api_Def h1 A0_0 r.1.vDefs∧r.2.1.length≤c1_0∧Rd (Kd.int .i64) h1 A1_0 r.2.1∧Gr w0.heap.size h0 h1∧Sees h1 w1∧Ext w0 w1):=by
 unfold ctf_Trim.f at H
 have HS:St [] h0 w0 h0 [] w0:=St.init hv
 go_enter Tryd.func41,Tryd.ntmps41
 refine wp_seq ?_
 refine region ?_
 refine run_ex rfl rfl (does_box (cs:=#[vL A0_0 a0.vDefs.length c0_0]) rfl rfl) ?_
 rintro w1 _ hE1 ⟨b1,rfl,ge1,hb1⟩
 have HS1:=HS.new hE1 ge1 hb1
 refine run_ex rfl rfl (does_alloc (cs:=#[vL none 0 0]) Tryd.zeroValue24 rfl) ?_
 rintro w2 _ hE2 ⟨b2,rfl,ge2,hb2⟩
 have HS2:=HS1.new hE2 ge2 hb2
 refine rs (vL none 0 0) (r_assign rfl) ?_
 refine rs (vI 0) (r_assign rfl) ?_
 try simp only [sc0,sc1]
 refine run_nil ?_
 refine norm_then ?_
 refine wp_seq ?_
 refine wp_seq ?_
 refine region ?_
 refine rs (Value.agg #[vL A0_0 a0.vDefs.length c0_0]) (r_loadBoxAgg (n:=1) (vs:=[vL A0_0 a0.vDefs.length c0_0]) rfl Tryd.isAgg24 (HS2.look 1 rfl) Tryd.sizeOf24 rfl rfl) ?_
 obtain ⟨v1,H1,H⟩:=of_bind H
 refine run_eq (v:=vB v1) rfl rfl (does_call_eq Tryd.call47 rfl rfl (ctf_valid.calls k a0 A0_0 c0_0 HS2.sees hr0_0 hc0_0 H1)) ?_
 intro w3 hE3
 have HS3:=HS2.step hE3
 refine rs (vB (!v1)) (r_not rfl) ?_
 try simp only [sc0,sc1]
 refine run_nil ?_
 refine norm_then ?_
 refine wp_cond_split (t:=(!v1)) rfl (fun c1=>?_) (fun c1=>?_)
 ·replace H:=of_pos H c1
  refine wp_seq ?_
  refine region ?_
  refine rs (Value.agg #[vL none 0 0]) (r_build0 (cs:=[vL none 0 0]) Tryd.zeroValue24 Tryd.runUnderlying24 (pl:=#[(0,1)]) (fun w=>by simp [Tryd.sizeOf22]) rfl) ?_
  refine run_st (i:=0) (cs:=[vL none 0 0]) (cs':=[vL none 0 0]) (vs:=[vL none 0 0]) (bs':=[(some b2, .cells #[vL none 0 0] 24 (0,0)),(some b1, .cells #[vL A0_0 a0.vDefs.length c0_0] 24 (0,0))]) rfl rfl Tryd.sizeOf24 rfl rfl (by decide) rfl HS3 rfl (Nat.le_of_ble_eq_true rfl) rfl rfl ?_
  intro w4 HS4
  refine rs (vL none 0 0) (r_assign rfl) ?_
  refine rs (vI 80) (r_assign rfl) ?_
  try simp only [sc0,sc1]
  refine run_nil ?_
  refine norm_then ?_
  refine wp_ret ?_
  refine ret_then ?_
  obtain rfl:=Option.some.inj H
  refine bodyPost_ret (results_3 rfl (one_agg rfl Tryd.isAgg24 (HS4.look 0 rfl) Tryd.sizeOf24 rfl) (one_tmp rfl) (one_tmp rfl)) rfl ?_
  exact ⟨h0,none,0,none,0,rfl,(Nat.le_refl 0),(Rd.nil _ _ _),(Nat.le_refl 0),(Rd.nil _ _ _),HS4.gr,HS4.sees,HS4.toE⟩
 ·replace H:=of_neg H (nt c1)
  refine wp_skip ?_
  refine norm_then ?_
  refine wp_seq ?_
  refine wp_seq ?_
  refine region ?_
  refine rs (vL A1_0 a1.length c1_0) (r_move rfl) ?_
  refine rs (vI (a1.length:Int)) (r_len rfl Tryd.runUnderlying25) ?_
  refine rs (vB (decide ((a1.length:Int)>200))) (r_bin rfl rfl rfl) ?_
  try simp only [sc0,sc1]
  refine run_nil ?_
  refine norm_then ?_
  refine wp_cond_split (t:=(decide ((a1.length:Int)>200))) rfl (fun c2=>?_) (fun c2=>?_)
  ·replace H:=of_pos H c2
   refine wp_seq ?_
   refine region ?_
   refine rs (Value.agg #[vL none 0 0]) (r_build0 (cs:=[vL none 0 0]) Tryd.zeroValue24 Tryd.runUnderlying24 (pl:=#[(0,1)]) (fun w=>by simp [Tryd.sizeOf22]) rfl) ?_
   refine run_st (i:=0) (cs:=[vL none 0 0]) (cs':=[vL none 0 0]) (vs:=[vL none 0 0]) (bs':=[(some b2, .cells #[vL none 0 0] 24 (0,0)),(some b1, .cells #[vL A0_0 a0.vDefs.length c0_0] 24 (0,0))]) rfl rfl Tryd.sizeOf24 rfl rfl (by decide) rfl HS3 rfl (Nat.le_of_ble_eq_true rfl) rfl rfl ?_
   intro w5 HS5
   refine rs (vL none 0 0) (r_assign rfl) ?_
   refine rs (vI 2) (r_assign rfl) ?_
   try simp only [sc0,sc1]
   refine run_nil ?_
   refine norm_then ?_
   refine wp_ret ?_
   refine ret_then ?_
   obtain rfl:=Option.some.inj H
   refine bodyPost_ret (results_3 rfl (one_agg rfl Tryd.isAgg24 (HS5.look 0 rfl) Tryd.sizeOf24 rfl) (one_tmp rfl) (one_tmp rfl)) rfl ?_
   exact ⟨h0,none,0,none,0,rfl,(Nat.le_refl 0),(Rd.nil _ _ _),(Nat.le_refl 0),(Rd.nil _ _ _),HS5.gr,HS5.sees,HS5.toE⟩
  ·replace H:=of_neg H (nt c2)
   refine wp_skip ?_
   refine norm_then ?_
   refine wp_seq ?_
   refine region ?_
   refine rs (vL none 0 0) (r_assign rfl) ?_
   try simp only [sc0,sc1]
   refine run_nil ?_
   refine norm_then ?_
   refine wp_seq ?_
   refine wp_seq ?_
   refine region ?_
   refine rs (vL A1_0 a1.length c1_0) (r_move rfl) ?_
   refine rs (vI (a1.length:Int)) (r_len rfl Tryd.runUnderlying25) ?_
   refine rs (vI 0) (r_move rfl) ?_
   try simp only [sc0,sc1]
   refine run_nil ?_
   refine norm_then ?_
   have HS6:=HS3.nothing (.cells ([]:List Value).toArray 3 (0,0))
   obtain ⟨xx1,H,G1⟩:=of_bind H
   refine loop_patch [5,6,7,9,10,28,29,30,31,32,33,34,35,36,37,38,39,40,41,42] (fun m us w'=>∃y1_0:Int,∃y1_1:List Int,∃(oby1_1:Option Nat) (cy1_1:Nat),∃csy1_1:List Value,∃uy1_5 uy1_6 uy1_9 uy1_10 uy1_29 uy1_30 uy1_31 uy1_32 uy1_33 uy1_34 uy1_35 uy1_36 uy1_37 uy1_38 uy1_39 uy1_40 uy1_41 uy1_42:Value,us=[uy1_5,uy1_6,vL (rowA oby1_1) y1_1.length cy1_1,uy1_9,uy1_10,vI y1_0,uy1_29,uy1_30,uy1_31,uy1_32,uy1_33,uy1_34,uy1_35,uy1_36,uy1_37,uy1_38,uy1_39,uy1_40,uy1_41,uy1_42]∧ctf_Trim.l0 k a0 a1 m y1_0 y1_1=some xx1∧RowOk (Kd.int .i64) h0 y1_1 oby1_1 y1_1.length cy1_1 csy1_1∧St [] h0 w0 h0 [(oby1_1, .cells (csy1_1).toArray 3 (0,0)),(some b2, .cells #[vL none 0 0] 24 (0,0)),(some b1, .cells #[vL A0_0 a0.vDefs.length c0_0] 24 (0,0))] w') (fun us w'=>∃(s1:(List Int)),xx1= .inr s1∧∃(obo1_0:Option Nat) (co1_0:Nat),∃cso1_0:List Value,∃uo1_5 uo1_6 uo1_9 uo1_10 uo1_28 uo1_29 uo1_30 uo1_31 uo1_32 uo1_33 uo1_34 uo1_35 uo1_36 uo1_37 uo1_38 uo1_39 uo1_40 uo1_41 uo1_42:Value,us=[uo1_5,uo1_6,vL (rowA obo1_0) s1.length co1_0,uo1_9,uo1_10,uo1_28,uo1_29,uo1_30,uo1_31,uo1_32,uo1_33,uo1_34,uo1_35,uo1_36,uo1_37,uo1_38,uo1_39,uo1_40,uo1_41,uo1_42]∧RowOk (Kd.int .i64) h0 s1 obo1_0 s1.length co1_0 cso1_0∧St [] h0 w0 h0 [(obo1_0, .cells (cso1_0).toArray 3 (0,0)),(some b2, .cells #[vL none 0 0] 24 (0,0)),(some b1, .cells #[vL A0_0 a0.vDefs.length c0_0] 24 (0,0))] w') k [vL none 0 0,vI 0,vL none 0 0,undef,undef,vI 0,undef,undef,undef,undef,undef,undef,undef,undef,undef,undef,undef,undef,undef,undef] (by simp only [patch,sc0,sc1]) ⟨0,([]:List Int),none,0,([]:List Value),_,_,_,_,_,_,_,_,_,_,_,_,_,_,_,_,_,_,rfl,H,(RowOk.none' (Kd.int .i64) _).norm,HS6⟩ ?_ ?_
   ·rintro m us w6 ⟨y1_0,y1_1,oby1_1,cy1_1,csy1_1,uy1_5,uy1_6,uy1_9,uy1_10,uy1_29,uy1_30,uy1_31,uy1_32,uy1_33,uy1_34,uy1_35,uy1_36,uy1_37,uy1_38,uy1_39,uy1_40,uy1_41,uy1_42,rfl,H,hoy1_1,HS7⟩
    cases m with
    |zero=>exact absurd H (by simp [ctf_Trim.l0])
    |succ m=>
     rw [ctf_Trim.l0] at H
     try simp only [patch,sc0,sc1]
     refine wp_seq ?_
     refine region ?_
     refine rs (vB (decide (y1_0<(a1.length:Int)))) (r_bin rfl rfl rfl) ?_
     try simp only [sc0,sc1]
     refine run_nil ?_
     refine norm_then ?_
     refine wp_seq ?_
     refine wp_cond_split (t:=(decide (y1_0<(a1.length:Int)))) rfl (fun c3=>?_) (fun c3=>?_)
     ·replace H:=of_pos H c3
      refine wp_skip ?_
      refine norm_then ?_
      refine wp_seq ?_
      refine wp_block ?_
      refine wp_seq ?_
      refine region ?_
      obtain ⟨hi1,H⟩:=of_ite H
      obtain ⟨ad1,e1,hel1⟩:=ld_str hr1_0 hi1.1 hi1.2
      refine rs (Value.pointer (some (Addr.add ad1 (y1_0.toNat*1)))) (r_indexA (sz:=1) rfl e1 rfl hi1.1 hi1.2 Tryd.runUnderlying25 Tryd.sizeOf9) ?_
      refine rs (vS (rd ByteArray.empty a1 y1_0)) (r_load rfl Tryd.isAgg9 (hel1.cell0 HS7.sees rfl)) ?_
      refine rs (vS (rd ByteArray.empty a1 y1_0)) (r_assign rfl) ?_
      try simp only [sc0,sc1]
      refine run_nil ?_
      refine norm_then ?_
      refine wp_seq ?_
      refine region ?_
      refine rs (Value.agg #[vL A0_0 a0.vDefs.length c0_0]) (r_loadBoxAgg (n:=1) (vs:=[vL A0_0 a0.vDefs.length c0_0]) rfl Tryd.isAgg24 (HS7.look 2 rfl) Tryd.sizeOf24 rfl rfl) ?_
      refine rs (vS (rd ByteArray.empty a1 y1_0)) (r_move rfl) ?_
      obtain ⟨v2,H2,H⟩:=of_bind H
      refine run_eq (v:=vI v2) rfl rfl (does_call_eq Tryd.call54 rfl rfl (ctf_find.calls k a0 (rd ByteArray.empty a1 y1_0) A0_0 c0_0 HS7.sees hr0_0 hc0_0 H2)) ?_
      intro w7 hE4
      have HS8:=HS7.step hE4
      refine rs (vI v2) (r_assign rfl) ?_
      try simp only [sc0,sc1]
      refine run_nil ?_
      refine norm_then ?_
      refine wp_seq ?_
      refine wp_seq ?_
      refine region ?_
      refine rs (vI v2) (r_move rfl) ?_
      refine rs (vB (decide (v2<0))) (r_bin rfl rfl rfl) ?_
      try simp only [sc0,sc1]
      refine run_nil ?_
      refine norm_then ?_
      refine wp_cond_split (t:=(decide (v2<0))) rfl (fun c4=>?_) (fun c4=>?_)
      ·replace H:=of_pos H c4
       refine wp_seq ?_
       refine region ?_
       refine rs (Value.agg #[vL none 0 0]) (r_build0 (cs:=[vL none 0 0]) Tryd.zeroValue24 Tryd.runUnderlying24 (pl:=#[(0,1)]) (fun w=>by simp [Tryd.sizeOf22]) rfl) ?_
       refine run_st (i:=1) (cs:=[vL none 0 0]) (cs':=[vL none 0 0]) (vs:=[vL none 0 0]) (bs':=[(oby1_1, .cells (csy1_1).toArray 3 (0,0)),(some b2, .cells #[vL none 0 0] 24 (0,0)),(some b1, .cells #[vL A0_0 a0.vDefs.length c0_0] 24 (0,0))]) rfl rfl Tryd.sizeOf24 rfl rfl (by decide) rfl HS8 rfl (Nat.le_of_ble_eq_true rfl) rfl rfl ?_
       intro w8 HS9
       refine rs (vL none 0 0) (r_assign rfl) ?_
       refine rs (vI 3) (r_assign rfl) ?_
       try simp only [sc0,sc1]
       refine run_nil ?_
       refine norm_then ?_
       refine wp_ret ?_
       refine ret_then ?_
       refine ret_block ?_
       refine ret_then ?_
       refine ret_loop ?_
       refine ret_then ?_
       obtain rfl:=Option.some.inj H
       obtain rfl:=Option.some.inj G1
       refine bodyPost_ret (results_3 rfl (one_agg rfl Tryd.isAgg24 (HS9.look 1 rfl) Tryd.sizeOf24 rfl) (one_tmp rfl) (one_tmp rfl)) rfl ?_
       exact ⟨h0,none,0,none,0,rfl,(Nat.le_refl 0),(Rd.nil _ _ _),(Nat.le_refl 0),(Rd.nil _ _ _),HS9.gr,HS9.sees,HS9.toE⟩
      ·replace H:=of_neg H (nt c4)
       refine wp_skip ?_
       refine norm_then ?_
       refine region ?_
       refine rs (vL (rowA oby1_1) y1_1.length cy1_1) (r_move rfl) ?_
       refine rs (vI v2) (r_move rfl) ?_
       refine run_bs (Kd.int .i64) (xs:=([v2]:List Int)) (n:=1) (cs:=[vI v2]) Tryd.runUnderlying62 Tryd.typeInfo3 Tryd.zeroValue3 rfl rfl (by decide) (by decide) (by decide) [vI v2] (parts_any.trans rfl) rfl rfl rfl rfl (elems_cons (qs:=[vI v2]) rfl (elems_nil (cs:=[]))) HS8 ?_
       intro w9 b3 HS10 ho1
       obtain ⟨hl1,H⟩:=of_ite H
       refine run_app (Kd.int .i64) (q:=1) (cs:=csy1_1) rfl rfl Tryd.runUnderlying62 Tryd.typeInfo3 Tryd.zeroValue3 rfl (by decide) rfl (src_row Tryd.runUnderlying62 HS10 (i:=0) rfl ho1 rfl) ho1.len (src_row_elems ho1) hl1 HS10 rfl hoy1_1 ?_
       intro w10 ob1 c5 cs1 HS11 ho2
       refine run_frame (by simp only [sc0,sc1];rfl) ?_
       refine rs (vL (rowA ob1) (y1_1.length+1) c5) (r_assign rfl) ?_
       try simp only [sc0,sc1]
       refine run_nil ?_
       refine norm_block ?_
       refine norm_then ?_
       refine region ?_
       refine rs (vI (w64 (y1_0+1))) (r_bin rfl rfl rfl) ?_
       refine rs (vI (w64 (y1_0+1))) (r_move rfl) ?_
       try simp only [sc0,sc1]
       refine run_nil ?_
       refine again m [uy1_5,uy1_6,vL (rowA ob1) (y1_1.length+1) c5,vS (rd ByteArray.empty a1 y1_0),vI v2,vI (w64 (y1_0+1)),vB (decide (y1_0<(a1.length:Int))),Value.pointer (some (Addr.add ad1 (y1_0.toNat*1))),vS (rd ByteArray.empty a1 y1_0),Value.agg #[vL A0_0 a0.vDefs.length c0_0],vS (rd ByteArray.empty a1 y1_0),vI v2,vI v2,vB (decide (v2<0)),uy1_37,vL (rowA oby1_1) y1_1.length cy1_1,vI v2,vL (rowA (some b3)) 1 1,vL (rowA ob1) (y1_1.length+1) c5,vI (w64 (y1_0+1))] (Nat.lt_succ_self m) (by simp only [patch,sc0,sc1]) ⟨(w64 (y1_0+1)),(y1_1++([v2]:List Int)),ob1,c5,cs1,_,_,_,_,_,_,_,_,_,_,_,_,_,_,_,_,_,_,(by first|rfl|(rw [ho2.len];done)|(rw [ho2.len];rfl)),H,ho2.norm,HS11.tail⟩
     ·replace H:=of_neg H (nt c3)
      refine wp_exit ?_
      refine exit_then ?_
      obtain rfl:=Option.some.inj H
      refine leave [uy1_5,uy1_6,vL (rowA oby1_1) y1_1.length cy1_1,uy1_9,uy1_10,vI y1_0,vB (decide (y1_0<(a1.length:Int))),uy1_30,uy1_31,uy1_32,uy1_33,uy1_34,uy1_35,uy1_36,uy1_37,uy1_38,uy1_39,uy1_40,uy1_41,uy1_42] (by simp only [patch,sc0,sc1]) ⟨_,rfl,oby1_1,cy1_1,csy1_1,_,_,_,_,_,_,_,_,_,_,_,_,_,_,_,_,_,_,_,rfl,hoy1_1.norm,HS7⟩
   ·rintro us w11 ⟨s1,rfl,obo1_0,co1_0,cso1_0,uo1_5,uo1_6,uo1_9,uo1_10,uo1_28,uo1_29,uo1_30,uo1_31,uo1_32,uo1_33,uo1_34,uo1_35,uo1_36,uo1_37,uo1_38,uo1_39,uo1_40,uo1_41,uo1_42,rfl,hoo1_0,HS12⟩
    replace H:=G1
    clear G1
    try simp only [patch,sc0,sc1]
    refine norm_then ?_
    refine wp_seq ?_
    refine region ?_
    refine rs (Value.agg #[vL A0_0 a0.vDefs.length c0_0]) (r_loadBoxAgg (n:=1) (vs:=[vL A0_0 a0.vDefs.length c0_0]) rfl Tryd.isAgg24 (HS12.look 2 rfl) Tryd.sizeOf24 rfl rfl) ?_
    refine rs (vL (rowA obo1_0) s1.length co1_0) (r_move rfl) ?_
    obtain ⟨v3,H3,H⟩:=of_bind H
    obtain ⟨hl2,hs1,se1,rdl1⟩:=row_lend HS12 (i:=0) rfl hoo1_0
    refine run_ex rfl rfl (does_call Tryd.call84 rfl (map_in (wz:=w11) (ek:=(vI)) (ev:=vB) (m:=v3) (Ext.rfl' _) (ctf_reached.calls k a0 s1 A0_0 c0_0 (rowA obo1_0) co1_0 se1 (hr0_0.ext hs1) hc0_0 rdl1 hoo1_0.cap H3)) rfl) ?_
    rintro w12 _ hE5 ⟨b4,es1,cl1,rfl,ge3,hb3,ho3⟩
    have HS13:=HS12.new hE5 ge3 hb3
    refine rs (Value.map (some b4)) (r_assign rfl) ?_
    try simp only [sc0,sc1]
    refine run_nil ?_
    refine norm_then ?_
    refine wp_seq ?_
    refine region ?_
    refine run_ex rfl rfl (does_alloc (cs:=#[vL none 0 0]) Tryd.zeroValue62 rfl) ?_
    rintro w13 _ hE6 ⟨b5,rfl,ge4,hb4⟩
    have HS14:=HS13.new hE6 ge4 hb4
    try simp only [sc0,sc1]
    refine run_nil ?_
    refine norm_then ?_
    refine wp_seq ?_
    refine region ?_
    refine rs (vI 0) (r_assign rfl) ?_
    try simp only [sc0,sc1]
    refine run_nil ?_
    refine norm_then ?_
    refine wp_seq ?_
    refine wp_seq ?_
    refine region ?_
    refine rs (vP b1 0) (r_fieldBox (n:=1) (o':=0) rfl Tryd.runUnderlying24 rfl Tryd.sizeOf22 (by decide) rfl) ?_
    refine rs (vL A0_0 a0.vDefs.length c0_0) (r_loadBox rfl Tryd.isAgg22 (HS14.look 4 rfl) rfl) ?_
    refine rs (vI (a0.vDefs.length:Int)) (r_len rfl Tryd.runUnderlying22) ?_
    refine rs (vI 0) (r_move rfl) ?_
    try simp only [sc0,sc1]
    refine run_nil ?_
    refine norm_then ?_
    have HS15:=HS14.nothing (.cells ([]:List Value).toArray 3 (0,0))
    obtain ⟨xx2,H,G2⟩:=of_bind H
    refine loop_patch [13,14,49,50,51,52,53,54,55,56,57,58,59,60,61,62,63,64] (fun m us w'=>∃y2_0 y2_1:Int,∃y2_2:List Int,∃(oby2_2:Option Nat) (cy2_2:Nat),∃csy2_2:List Value,∃uy2_14 uy2_50 uy2_51 uy2_52 uy2_53 uy2_54 uy2_55 uy2_56 uy2_57 uy2_58 uy2_59 uy2_60 uy2_61 uy2_62 uy2_63 uy2_64:Value,us=[vI y2_0,uy2_14,vI y2_1,uy2_50,uy2_51,uy2_52,uy2_53,uy2_54,uy2_55,uy2_56,uy2_57,uy2_58,uy2_59,uy2_60,uy2_61,uy2_62,uy2_63,uy2_64]∧ctf_Trim.l1 a0 v3 m y2_0 y2_1 y2_2=some xx2∧RowOk (Kd.int .i64) h0 y2_2 oby2_2 y2_2.length cy2_2 csy2_2∧St [] h0 w0 h0 [(oby2_2, .cells (csy2_2).toArray 3 (0,0)),(some b5, .cells #[vL (rowA oby2_2) y2_2.length cy2_2] 62 (0,0)),(some b4, .map es1 cl1),(obo1_0, .cells (cso1_0).toArray 3 (0,0)),(some b2, .cells #[vL none 0 0] 24 (0,0)),(some b1, .cells #[vL A0_0 a0.vDefs.length c0_0] 24 (0,0))] w') (fun us w'=>∃(obo2_0:Option Nat) (co2_0:Nat),∃cso2_0:List Value,∃uo2_13 uo2_14 uo2_49 uo2_50 uo2_51 uo2_52 uo2_53 uo2_54 uo2_55 uo2_56 uo2_57 uo2_58 uo2_59 uo2_60 uo2_61 uo2_62 uo2_63 uo2_64:Value,us=[uo2_13,uo2_14,uo2_49,uo2_50,uo2_51,uo2_52,uo2_53,uo2_54,uo2_55,uo2_56,uo2_57,uo2_58,uo2_59,uo2_60,uo2_61,uo2_62,uo2_63,uo2_64]∧RowOk (Kd.int .i64) h0 xx2 obo2_0 xx2.length co2_0 cso2_0∧St [] h0 w0 h0 [(obo2_0, .cells (cso2_0).toArray 3 (0,0)),(some b5, .cells #[vL (rowA obo2_0) xx2.length co2_0] 62 (0,0)),(some b4, .map es1 cl1),(obo1_0, .cells (cso1_0).toArray 3 (0,0)),(some b2, .cells #[vL none 0 0] 24 (0,0)),(some b1, .cells #[vL A0_0 a0.vDefs.length c0_0] 24 (0,0))] w') k [vI 0,undef,vI 0,undef,undef,undef,undef,undef,undef,undef,undef,undef,undef,undef,undef,undef,undef,undef] (by simp only [patch,sc0,sc1]) ⟨0,0,([]:List Int),none,0,([]:List Value),_,_,_,_,_,_,_,_,_,_,_,_,_,_,_,_,rfl,H,(RowOk.none' (Kd.int .i64) _).norm,HS15⟩ ?_ ?_
    ·rintro m us w14 ⟨y2_0,y2_1,y2_2,oby2_2,cy2_2,csy2_2,uy2_14,uy2_50,uy2_51,uy2_52,uy2_53,uy2_54,uy2_55,uy2_56,uy2_57,uy2_58,uy2_59,uy2_60,uy2_61,uy2_62,uy2_63,uy2_64,rfl,H,hoy2_2,HS16⟩
     cases m with
     |zero=>exact absurd H (by simp [ctf_Trim.l1])
     |succ m=>
      rw [ctf_Trim.l1] at H
      try simp only [patch,sc0,sc1]
      refine wp_seq ?_
      refine region ?_
      refine rs (vB (decide (y2_1<(a0.vDefs.length:Int)))) (r_bin rfl rfl rfl) ?_
      try simp only [sc0,sc1]
      refine run_nil ?_
      refine norm_then ?_
      refine wp_seq ?_
      refine wp_cond_split (t:=(decide (y2_1<(a0.vDefs.length:Int)))) rfl (fun c6=>?_) (fun c6=>?_)
      ·replace H:=of_pos H c6
       refine wp_skip ?_
       refine norm_then ?_
       refine wp_seq ?_
       refine wp_block ?_
       refine wp_seq ?_
       refine region ?_
       refine rs (vI y2_1) (r_move rfl) ?_
       refine rs (vI y2_1) (r_assign rfl) ?_
       try simp only [sc0,sc1]
       refine run_nil ?_
       refine norm_then ?_
       refine wp_seq ?_
       refine region ?_
       refine rs (Value.map (some b4)) (r_move rfl) ?_
       refine rs (vI y2_1) (r_move rfl) ?_
       refine rs (vB ((mfind ieq v3 y2_1).getD false)) (r_mget (key_int Tryd.runUnderlying3) (k:=y2_1) (m:=v3) (ev:=vB) false rfl rfl Tryd.runUnderlying144 Tryd.zeroValue4 (HS16.look 2 rfl) ho3) ?_
       try simp only [sc0,sc1]
       refine run_nil ?_
       refine norm_then ?_
       refine wp_cond_split (t:=((mfind ieq v3 y2_1).getD false)) rfl (fun c7=>?_) (fun c7=>?_)
       ·replace H:=of_pos H c7
        refine wp_seq ?_
        refine region ?_
        refine rs (vL (rowA oby2_2) y2_2.length cy2_2) (r_loadBox rfl Tryd.isAgg62 (HS16.look 1 rfl) rfl) ?_
        refine rs (vI y2_0) (r_move rfl) ?_
        refine run_bs (Kd.int .i64) (xs:=([y2_0]:List Int)) (n:=1) (cs:=[vI y2_0]) Tryd.runUnderlying62 Tryd.typeInfo3 Tryd.zeroValue3 rfl rfl (by decide) (by decide) (by decide) [vI y2_0] (parts_any.trans rfl) rfl rfl rfl rfl (elems_cons (qs:=[vI y2_0]) rfl (elems_nil (cs:=[]))) HS16 ?_
        intro w15 b6 HS17 ho4
        obtain ⟨hl3,H⟩:=of_ite H
        refine run_app (Kd.int .i64) (q:=1) (cs:=csy2_2) rfl rfl Tryd.runUnderlying62 Tryd.typeInfo3 Tryd.zeroValue3 rfl (by decide) rfl (src_row Tryd.runUnderlying62 HS17 (i:=0) rfl ho4 rfl) ho4.len (src_row_elems ho4) hl3 HS17 rfl hoy2_2 ?_
        intro w16 ob2 c8 cs2 HS18 ho5
        refine run_frame (by simp only [sc0,sc1];rfl) ?_
        refine run_st (i:=2) (cs:=[vL (rowA oby2_2) y2_2.length cy2_2]) (cs':=[vL (rowA ob2) (y2_2.length+1) c8]) (vs:=[vL (rowA ob2) (y2_2.length+1) c8]) (bs':=[((some b6), .cells ([vI y2_0]).toArray 3 (0,0)),(ob2, .cells (cs2).toArray 3 (0,0)),(some b5, .cells #[vL (rowA ob2) (y2_2.length+1) c8] 62 (0,0)),(some b4, .map es1 cl1),(obo1_0, .cells (cso1_0).toArray 3 (0,0)),(some b2, .cells #[vL none 0 0] 24 (0,0)),(some b1, .cells #[vL A0_0 a0.vDefs.length c0_0] 24 (0,0))]) rfl rfl Tryd.sizeOf62 rfl rfl (by decide) rfl HS18 rfl (Nat.le_of_ble_eq_true rfl) rfl rfl ?_
        intro w17 HS19
        try simp only [sc0,sc1]
        refine run_nil ?_
        refine norm_then ?_
        refine region ?_
        refine rs (vI y2_0) (r_move rfl) ?_
        refine rs (vI (w64 (y2_0+1))) (r_bin rfl rfl rfl) ?_
        refine rs (vI (w64 (y2_0+1))) (r_assign rfl) ?_
        try simp only [sc0,sc1]
        refine run_nil ?_
        refine norm_block ?_
        refine norm_then ?_
        refine region ?_
        refine rs (vI (w64 (y2_1+1))) (r_bin rfl rfl rfl) ?_
        refine rs (vI (w64 (y2_1+1))) (r_move rfl) ?_
        try simp only [sc0,sc1]
        refine run_nil ?_
        have HS20:St [] h0 w0 h0 [((some b6), .cells ([vI y2_0]).toArray 3 (0,0)),(ob2, .cells (cs2).toArray 3 (0,0)),(some b5, .cells #[vL (rowA ob2) ((y2_2++([y2_0]:List Int)).length) c8] 62 (0,0)),(some b4, .map es1 cl1),(obo1_0, .cells (cso1_0).toArray 3 (0,0)),(some b2, .cells #[vL none 0 0] 24 (0,0)),(some b1, .cells #[vL A0_0 a0.vDefs.length c0_0] 24 (0,0))] w17:=HS19.cast (by first|rfl|(rw [ho5.len];done)|(rw [ho5.len];rfl))
        have ho6:=ho5.norm
        refine again m [vI (w64 (y2_0+1)),vI y2_1,vI (w64 (y2_1+1)),vB (decide (y2_1<(a0.vDefs.length:Int))),vI y2_1,Value.map (some b4),vI y2_1,vB ((mfind ieq v3 y2_1).getD false),vL (rowA oby2_2) y2_2.length cy2_2,vI y2_0,vL (rowA (some b6)) 1 1,vL (rowA ob2) (y2_2.length+1) c8,vI y2_0,vI (w64 (y2_0+1)),uy2_61,uy2_62,uy2_63,vI (w64 (y2_1+1))] (Nat.lt_succ_self m) (by simp only [patch,sc0,sc1]) ⟨(w64 (y2_0+1)),(w64 (y2_1+1)),(y2_2++([y2_0]:List Int)),ob2,c8,cs2,_,_,_,_,_,_,_,_,_,_,_,_,_,_,_,_,(by first|rfl|(rw [ho5.len];done)|(rw [ho5.len];rfl)),H,ho6.norm,HS20.tail⟩
       ·replace H:=of_neg H (nt c7)
        refine region ?_
        refine rs (vL (rowA oby2_2) y2_2.length cy2_2) (r_loadBox rfl Tryd.isAgg62 (HS16.look 1 rfl) rfl) ?_
        refine run_bs (Kd.int .i64) (xs:=([(-1)]:List Int)) (n:=1) (cs:=[vI (-1)]) Tryd.runUnderlying62 Tryd.typeInfo3 Tryd.zeroValue3 rfl rfl (by decide) (by decide) (by decide) [vI (-1)] (parts_any.trans rfl) rfl rfl rfl rfl (elems_cons (qs:=[vI (-1)]) rfl (elems_nil (cs:=[]))) HS16 ?_
        intro w18 b7 HS21 ho7
        obtain ⟨hl4,H⟩:=of_ite H
        refine run_app (Kd.int .i64) (q:=1) (cs:=csy2_2) rfl rfl Tryd.runUnderlying62 Tryd.typeInfo3 Tryd.zeroValue3 rfl (by decide) rfl (src_row Tryd.runUnderlying62 HS21 (i:=0) rfl ho7 rfl) ho7.len (src_row_elems ho7) hl4 HS21 rfl hoy2_2 ?_
        intro w19 ob3 c9 cs3 HS22 ho8
        refine run_st (i:=2) (cs:=[vL (rowA oby2_2) y2_2.length cy2_2]) (cs':=[vL (rowA ob3) (y2_2.length+1) c9]) (vs:=[vL (rowA ob3) (y2_2.length+1) c9]) (bs':=[((some b7), .cells ([vI (-1)]).toArray 3 (0,0)),(ob3, .cells (cs3).toArray 3 (0,0)),(some b5, .cells #[vL (rowA ob3) (y2_2.length+1) c9] 62 (0,0)),(some b4, .map es1 cl1),(obo1_0, .cells (cso1_0).toArray 3 (0,0)),(some b2, .cells #[vL none 0 0] 24 (0,0)),(some b1, .cells #[vL A0_0 a0.vDefs.length c0_0] 24 (0,0))]) rfl rfl Tryd.sizeOf62 rfl rfl (by decide) rfl HS22 rfl (Nat.le_of_ble_eq_true rfl) rfl rfl ?_
        intro w20 HS23
        try simp only [sc0,sc1]
        refine run_nil ?_
        refine norm_block ?_
        refine norm_then ?_
        refine region ?_
        refine rs (vI (w64 (y2_1+1))) (r_bin rfl rfl rfl) ?_
        refine rs (vI (w64 (y2_1+1))) (r_move rfl) ?_
        try simp only [sc0,sc1]
        refine run_nil ?_
        have HS24:St [] h0 w0 h0 [((some b7), .cells ([vI (-1)]).toArray 3 (0,0)),(ob3, .cells (cs3).toArray 3 (0,0)),(some b5, .cells #[vL (rowA ob3) ((y2_2++([(-1)]:List Int)).length) c9] 62 (0,0)),(some b4, .map es1 cl1),(obo1_0, .cells (cso1_0).toArray 3 (0,0)),(some b2, .cells #[vL none 0 0] 24 (0,0)),(some b1, .cells #[vL A0_0 a0.vDefs.length c0_0] 24 (0,0))] w20:=HS23.cast (by first|rfl|(rw [ho8.len];done)|(rw [ho8.len];rfl))
        have ho9:=ho8.norm
        refine again m [vI y2_0,vI y2_1,vI (w64 (y2_1+1)),vB (decide (y2_1<(a0.vDefs.length:Int))),vI y2_1,Value.map (some b4),vI y2_1,vB ((mfind ieq v3 y2_1).getD false),uy2_55,uy2_56,uy2_57,uy2_58,uy2_59,uy2_60,vL (rowA oby2_2) y2_2.length cy2_2,vL (rowA (some b7)) 1 1,vL (rowA ob3) (y2_2.length+1) c9,vI (w64 (y2_1+1))] (Nat.lt_succ_self m) (by simp only [patch,sc0,sc1]) ⟨y2_0,(w64 (y2_1+1)),(y2_2++([(-1)]:List Int)),ob3,c9,cs3,_,_,_,_,_,_,_,_,_,_,_,_,_,_,_,_,(by first|rfl|(rw [ho8.len];done)|(rw [ho8.len];rfl)),H,ho9.norm,HS24.tail⟩
      ·replace H:=of_neg H (nt c6)
       refine wp_exit ?_
       refine exit_then ?_
       obtain rfl:=Option.some.inj H
       refine leave [vI y2_0,uy2_14,vI y2_1,vB (decide (y2_1<(a0.vDefs.length:Int))),uy2_51,uy2_52,uy2_53,uy2_54,uy2_55,uy2_56,uy2_57,uy2_58,uy2_59,uy2_60,uy2_61,uy2_62,uy2_63,uy2_64] (by simp only [patch,sc0,sc1]) ⟨oby2_2,cy2_2,csy2_2,_,_,_,_,_,_,_,_,_,_,_,_,_,_,_,_,_,_,rfl,hoy2_2.norm,HS16⟩
    ·rintro us w21 ⟨obo2_0,co2_0,cso2_0,uo2_13,uo2_14,uo2_49,uo2_50,uo2_51,uo2_52,uo2_53,uo2_54,uo2_55,uo2_56,uo2_57,uo2_58,uo2_59,uo2_60,uo2_61,uo2_62,uo2_63,uo2_64,rfl,hoo2_0,HS25⟩
     replace H:=G2
     clear G2
     try simp only [patch,sc0,sc1]
     refine norm_then ?_
     refine wp_seq ?_
     refine region ?_
     refine run_ex rfl rfl (does_alloc (cs:=#[vL none 0 0]) Tryd.zeroValue24 rfl) ?_
     rintro w22 _ hE7 ⟨b8,rfl,ge5,hb5⟩
     have HS26:=HS25.new hE7 ge5 hb5
     try simp only [sc0,sc1]
     refine run_nil ?_
     refine norm_then ?_
     refine wp_seq ?_
     refine wp_seq ?_
     refine region ?_
     refine rs (vP b1 0) (r_fieldBox (n:=1) (o':=0) rfl Tryd.runUnderlying24 rfl Tryd.sizeOf22 (by decide) rfl) ?_
     refine rs (vL A0_0 a0.vDefs.length c0_0) (r_loadBox rfl Tryd.isAgg22 (HS26.look 6 rfl) rfl) ?_
     refine rs (vI (a0.vDefs.length:Int)) (r_len rfl Tryd.runUnderlying22) ?_
     refine rs (vI 0) (r_move rfl) ?_
     try simp only [sc0,sc1]
     refine run_nil ?_
     refine norm_then ?_
     obtain ⟨h1,HS27,hs2,rdp1⟩:=row_pub HS26 (i:=1) rfl hoo2_0
     have HS28:St [] h0 w0 h1 [(some b8, .cells #[vL none 0 0] 24 (0,0)),(some b5, .cells #[vL (rowA obo2_0) xx2.length co2_0] 62 (0,0)),(some b4, .map es1 cl1),(obo1_0, .cells (cso1_0).toArray 3 (0,0)),(some b2, .cells #[vL none 0 0] 24 (0,0)),(some b1, .cells #[vL A0_0 a0.vDefs.length c0_0] 24 (0,0))] w22:=HS27
     replace hoo1_0:=hoo1_0.view hs2
     have HS29:=HS28.nothing (.cells ([]:List Value).toArray 34 (0,0))
     obtain ⟨xx3,H,G3⟩:=of_bind H
     refine loop_patch [16,17,68,69,70,71,72,73,74,75,76,77,78,79,80,81,82,83,84] (fun m us w'=>∃y3_0:Int,∃y3_1:List api_Def,∃h2:View,∃(oby3_1:Option Nat) (cy3_1:Nat),∃csy3_1:List Value,∃uy3_16 uy3_17 uy3_69 uy3_70 uy3_71 uy3_72 uy3_73 uy3_74 uy3_75 uy3_76 uy3_77 uy3_78 uy3_79 uy3_80 uy3_81 uy3_82 uy3_83 uy3_84:Value,us=[uy3_16,uy3_17,vI y3_0,uy3_69,uy3_70,uy3_71,uy3_72,uy3_73,uy3_74,uy3_75,uy3_76,uy3_77,uy3_78,uy3_79,uy3_80,uy3_81,uy3_82,uy3_83,uy3_84]∧ctf_Trim.l2 k a0 v3 xx2 m y3_0 y3_1=some xx3∧RowOk k_api_Def h2 y3_1 oby3_1 y3_1.length cy3_1 csy3_1∧Rd (Kd.int .i64) h2 (rowA obo2_0) xx2∧RowOk (Kd.int .i64) h2 s1 obo1_0 s1.length co1_0 cso1_0∧St [] h0 w0 h2 [(oby3_1, .cells (csy3_1).toArray 34 (0,0)),(some b8, .cells #[vL (rowA oby3_1) y3_1.length cy3_1] 24 (0,0)),(some b5, .cells #[vL (rowA obo2_0) xx2.length co2_0] 62 (0,0)),(some b4, .map es1 cl1),(obo1_0, .cells (cso1_0).toArray 3 (0,0)),(some b2, .cells #[vL none 0 0] 24 (0,0)),(some b1, .cells #[vL A0_0 a0.vDefs.length c0_0] 24 (0,0))] w') (fun us w'=>∃(h4:View),∃(obo3_0:Option Nat) (co3_0:Nat),∃cso3_0:List Value,∃uo3_16 uo3_17 uo3_68 uo3_69 uo3_70 uo3_71 uo3_72 uo3_73 uo3_74 uo3_75 uo3_76 uo3_77 uo3_78 uo3_79 uo3_80 uo3_81 uo3_82 uo3_83 uo3_84:Value,us=[uo3_16,uo3_17,uo3_68,uo3_69,uo3_70,uo3_71,uo3_72,uo3_73,uo3_74,uo3_75,uo3_76,uo3_77,uo3_78,uo3_79,uo3_80,uo3_81,uo3_82,uo3_83,uo3_84]∧RowOk k_api_Def h4 xx3 obo3_0 xx3.length co3_0 cso3_0∧Rd (Kd.int .i64) h4 (rowA obo2_0) xx2∧RowOk (Kd.int .i64) h4 s1 obo1_0 s1.length co1_0 cso1_0∧St [] h0 w0 h4 [(obo3_0, .cells (cso3_0).toArray 34 (0,0)),(some b8, .cells #[vL (rowA obo3_0) xx3.length co3_0] 24 (0,0)),(some b5, .cells #[vL (rowA obo2_0) xx2.length co2_0] 62 (0,0)),(some b4, .map es1 cl1),(obo1_0, .cells (cso1_0).toArray 3 (0,0)),(some b2, .cells #[vL none 0 0] 24 (0,0)),(some b1, .cells #[vL A0_0 a0.vDefs.length c0_0] 24 (0,0))] w') k [undef,undef,vI 0,undef,undef,undef,undef,undef,undef,undef,undef,undef,undef,undef,undef,undef,undef,undef,undef] (by simp only [patch,sc0,sc1]) ⟨0,([]:List api_Def),h1,none,0,([]:List Value),_,_,_,_,_,_,_,_,_,_,_,_,_,_,_,_,_,_,rfl,H,(RowOk.none' k_api_Def _).norm,rdp1,hoo1_0,HS29⟩ ?_ ?_
     ·rintro m us w23 ⟨y3_0,y3_1,h2,oby3_1,cy3_1,csy3_1,uy3_16,uy3_17,uy3_69,uy3_70,uy3_71,uy3_72,uy3_73,uy3_74,uy3_75,uy3_76,uy3_77,uy3_78,uy3_79,uy3_80,uy3_81,uy3_82,uy3_83,uy3_84,rfl,H,hoy3_1,rdp1,hoo1_0,HS30⟩
      cases m with
      |zero=>exact absurd H (by simp [ctf_Trim.l2])
      |succ m=>
       rw [ctf_Trim.l2] at H
       try simp only [patch,sc0,sc1]
       refine wp_seq ?_
       refine region ?_
       refine rs (vB (decide (y3_0<(a0.vDefs.length:Int)))) (r_bin rfl rfl rfl) ?_
       try simp only [sc0,sc1]
       refine run_nil ?_
       refine norm_then ?_
       refine wp_seq ?_
       refine wp_cond_split (t:=(decide (y3_0<(a0.vDefs.length:Int)))) rfl (fun c10=>?_) (fun c10=>?_)
       ·replace H:=of_pos H c10
        refine wp_skip ?_
        refine norm_then ?_
        refine wp_seq ?_
        refine wp_block ?_
        refine wp_seq ?_
        refine region ?_
        refine rs (vI y3_0) (r_move rfl) ?_
        obtain ⟨hi2,H⟩:=of_ite H
        obtain ⟨ad2,Aad2_6,cad2_6,e2,hel2,hcad2_6,hrad2_6⟩:=ld_api_Def (hr0_0.ext HS30.sub) hi2.1 hi2.2
        refine rs (Value.pointer (some (Addr.add ad2 (y3_0.toNat*7)))) (r_indexA (sz:=7) rfl e2 rfl hi2.1 hi2.2 Tryd.runUnderlying22 Tryd.sizeOf34) ?_
        refine rs (Value.agg #[vI ((rd z_api_Def a0.vDefs y3_0).vKind),vS ((rd z_api_Def a0.vDefs y3_0).vName),vI ((rd z_api_Def a0.vDefs y3_0).vInt.vSize),vB ((rd z_api_Def a0.vDefs y3_0).vInt.vSigned),vI ((rd z_api_Def a0.vDefs y3_0).vRef),vI ((rd z_api_Def a0.vDefs y3_0).vN),vL Aad2_6 ((rd z_api_Def a0.vDefs y3_0).vFields).length cad2_6]) (r_loadAgg rfl Tryd.isAgg34 (hel2.sees HS30.sees) Tryd.sizeOf34) ?_
        refine run_ex rfl rfl (does_alloc (cs:=#[vI 0,vS ByteArray.empty,vI 0,vB false,vI 0,vI 0,vL none 0 0]) Tryd.zeroValue34 rfl) ?_
        rintro w24 _ hE8 ⟨b9,rfl,ge6,hb6⟩
        have HS31:=HS30.new hE8 ge6 hb6
        refine run_frame (by simp only [sc0,sc1];rfl) ?_
        refine rs (vI y3_0) (r_assign rfl) ?_
        refine run_st (i:=0) (cs:=[vI 0,vS ByteArray.empty,vI 0,vB false,vI 0,vI 0,vL none 0 0]) (cs':=[vI ((rd z_api_Def a0.vDefs y3_0).vKind),vS ((rd z_api_Def a0.vDefs y3_0).vName),vI ((rd z_api_Def a0.vDefs y3_0).vInt.vSize),vB ((rd z_api_Def a0.vDefs y3_0).vInt.vSigned),vI ((rd z_api_Def a0.vDefs y3_0).vRef),vI ((rd z_api_Def a0.vDefs y3_0).vN),vL Aad2_6 ((rd z_api_Def a0.vDefs y3_0).vFields).length cad2_6]) (vs:=[vI ((rd z_api_Def a0.vDefs y3_0).vKind),vS ((rd z_api_Def a0.vDefs y3_0).vName),vI ((rd z_api_Def a0.vDefs y3_0).vInt.vSize),vB ((rd z_api_Def a0.vDefs y3_0).vInt.vSigned),vI ((rd z_api_Def a0.vDefs y3_0).vRef),vI ((rd z_api_Def a0.vDefs y3_0).vN),vL Aad2_6 ((rd z_api_Def a0.vDefs y3_0).vFields).length cad2_6]) (bs':=[(some b9, .cells #[vI ((rd z_api_Def a0.vDefs y3_0).vKind),vS ((rd z_api_Def a0.vDefs y3_0).vName),vI ((rd z_api_Def a0.vDefs y3_0).vInt.vSize),vB ((rd z_api_Def a0.vDefs y3_0).vInt.vSigned),vI ((rd z_api_Def a0.vDefs y3_0).vRef),vI ((rd z_api_Def a0.vDefs y3_0).vN),vL Aad2_6 ((rd z_api_Def a0.vDefs y3_0).vFields).length cad2_6] 34 (0,0)),(oby3_1, .cells (csy3_1).toArray 34 (0,0)),(some b8, .cells #[vL (rowA oby3_1) y3_1.length cy3_1] 24 (0,0)),(some b5, .cells #[vL (rowA obo2_0) xx2.length co2_0] 62 (0,0)),(some b4, .map es1 cl1),(obo1_0, .cells (cso1_0).toArray 3 (0,0)),(some b2, .cells #[vL none 0 0] 24 (0,0)),(some b1, .cells #[vL A0_0 a0.vDefs.length c0_0] 24 (0,0))]) rfl rfl Tryd.sizeOf34 rfl rfl (by decide) rfl HS31 rfl (Nat.le_of_ble_eq_true rfl) rfl rfl ?_
        intro w25 HS32
        try simp only [sc0,sc1]
        refine run_nil ?_
        refine norm_then ?_
        refine wp_seq ?_
        refine region ?_
        refine rs (Value.map (some b4)) (r_move rfl) ?_
        refine rs (vI y3_0) (r_move rfl) ?_
        refine rs (vB ((mfind ieq v3 y3_0).getD false)) (r_mget (key_int Tryd.runUnderlying3) (k:=y3_0) (m:=v3) (ev:=vB) false rfl rfl Tryd.runUnderlying144 Tryd.zeroValue4 (HS32.look 4 rfl) ho3) ?_
        try simp only [sc0,sc1]
        refine run_nil ?_
        refine norm_then ?_
        refine wp_cond_split (t:=((mfind ieq v3 y3_0).getD false)) rfl (fun c11=>?_) (fun c11=>?_)
        ·replace H:=of_pos H c11
         refine drawn_chain [([76,77,78,79],[0,1,2,3]),([],[0,1]),([],[0,1]),([83],[7]),([],[])] [4,5,6,8] [[],[0],[],[],[2,3],[2,3,4],[0,1,2,3,4,5],[0,1,2,3,4,5,6],[0,1,2,3,4,5,6,7]] hmix (by kernel_rfl) ?_
         intro w26 hE9
         have HS33:=HS32.step hE9
         refine chain_eff [vP b8 0,vL (rowA oby3_1) y3_1.length cy3_1,Value.agg #[vI ((rd z_api_Def a0.vDefs y3_0).vKind),vS ((rd z_api_Def a0.vDefs y3_0).vName),vI ((rd z_api_Def a0.vDefs y3_0).vInt.vSize),vB ((rd z_api_Def a0.vDefs y3_0).vInt.vSigned),vI ((rd z_api_Def a0.vDefs y3_0).vRef),vI ((rd z_api_Def a0.vDefs y3_0).vN),vL Aad2_6 ((rd z_api_Def a0.vDefs y3_0).vFields).length cad2_6],Value.func (.func 86) #[] #[vP b5 0]] ?_ rfl rfl ?_
         ·try simp only [patch,sc0,sc1]
          exact allg_cons (good_same (v:=vP b8 0) rfl rfl rfl rfl (r_fieldBox (n:=1) (o':=0) rfl Tryd.runUnderlying24 rfl Tryd.sizeOf22 (by decide) rfl)) (allg_cons (good_same (v:=vL (rowA oby3_1) y3_1.length cy3_1) rfl rfl rfl rfl (r_loadBox rfl Tryd.isAgg22 (HS33.look 2 rfl) rfl)) (allg_cons (good_same (v:=Value.agg #[vI ((rd z_api_Def a0.vDefs y3_0).vKind),vS ((rd z_api_Def a0.vDefs y3_0).vName),vI ((rd z_api_Def a0.vDefs y3_0).vInt.vSize),vB ((rd z_api_Def a0.vDefs y3_0).vInt.vSigned),vI ((rd z_api_Def a0.vDefs y3_0).vRef),vI ((rd z_api_Def a0.vDefs y3_0).vN),vL Aad2_6 ((rd z_api_Def a0.vDefs y3_0).vFields).length cad2_6]) rfl rfl rfl rfl (r_loadBoxAgg (n:=7) (vs:=[vI ((rd z_api_Def a0.vDefs y3_0).vKind),vS ((rd z_api_Def a0.vDefs y3_0).vName),vI ((rd z_api_Def a0.vDefs y3_0).vInt.vSize),vB ((rd z_api_Def a0.vDefs y3_0).vInt.vSigned),vI ((rd z_api_Def a0.vDefs y3_0).vRef),vI ((rd z_api_Def a0.vDefs y3_0).vN),vL Aad2_6 ((rd z_api_Def a0.vDefs y3_0).vFields).length cad2_6]) rfl Tryd.isAgg34 (HS33.look 0 rfl) Tryd.sizeOf34 rfl rfl)) (allg_cons (good_same (v:=Value.func (.func 86) #[] #[vP b5 0]) rfl rfl rfl rfl (r_makeFunc (vs:=[vP b5 0]) rfl)) (allg_nil))))
         try simp only [patch,sc0,sc1]
         obtain ⟨v4,H4,H⟩:=of_bind H
         refine run_ex rfl rfl (does_call Tryd.call85 rfl (gives_in (h:=h2) (R:=(fun hx u=>∃(Av4_0_6:Option Addr) (cv4_0_6:Nat),u=Value.agg #[vI v4.vKind,vS v4.vName,vI v4.vInt.vSize,vB v4.vInt.vSigned,vI v4.vRef,vI v4.vN,vL Av4_0_6 v4.vFields.length cv4_0_6]∧v4.vFields.length≤cv4_0_6∧Rd k_api_Field hx Av4_0_6 v4.vFields)) (Ext.rfl' w26) ((ctf_moved.calls k (rd z_api_Def a0.vDefs y3_0) (fun z0=>ctf_Trim_1.f z0 xx2) Aad2_6 cad2_6 86 [vP b5 0] HS33.sees hrad2_6 hcad2_6 Tryd.call86 (fun z0 h w hE hs hv r H=>ctf_Trim_1.calls z0 xx2 b5 (rowA obo2_0) co2_0 hv (rdp1.ext hs) hoo2_0.cap (heap_ext (HS33.look 3 rfl) hE) H) H4).mono ?_)) rfl) ?_
         ·rintro _ _ ⟨h1,Av4_0_6,cv4_0_6,rfl,hcv4_0_6,hrv4_0_6,g,ss,x⟩
          exact ⟨h1,_,rfl,⟨Av4_0_6,cv4_0_6,rfl,hcv4_0_6,hrv4_0_6⟩,g,ss,x⟩
         rintro w27 _ hE10 ⟨h3,⟨Av4_0_6,cv4_0_6,rfl,hcv4_0_6,hrv4_0_6⟩,gr1,se2⟩
         have HS34:=HS33.view hE10 gr1 se2
         replace rdp1:Rd (Kd.int .i64) h3 (rowA obo2_0) xx2:=rdp1.ext gr1.1
         replace hel2:VCells h3 (Addr.add ad2 (y3_0.toNat*7)) [vI ((rd z_api_Def a0.vDefs y3_0).vKind),vS ((rd z_api_Def a0.vDefs y3_0).vName),vI ((rd z_api_Def a0.vDefs y3_0).vInt.vSize),vB ((rd z_api_Def a0.vDefs y3_0).vInt.vSigned),vI ((rd z_api_Def a0.vDefs y3_0).vRef),vI ((rd z_api_Def a0.vDefs y3_0).vN),vL Aad2_6 ((rd z_api_Def a0.vDefs y3_0).vFields).length cad2_6]:=hel2.sub gr1.1
         replace hrad2_6:Rd k_api_Field h3 Aad2_6 ((rd z_api_Def a0.vDefs y3_0).vFields):=hrad2_6.ext gr1.1
         replace hoy3_1:=hoy3_1.view gr1.1
         replace hoo1_0:=hoo1_0.view gr1.1
         refine qn_nil ?_
         try simp only [sc0,sc1]
         refine chain_eff [] ?_ rfl rfl ?_
         ·try simp only [patch,sc0,sc1]
          exact allg_cons (good_same (v:=vP b8 0) rfl rfl rfl rfl (r_fieldBox (n:=1) (o':=0) rfl Tryd.runUnderlying24 rfl Tryd.sizeOf22 (by decide) rfl)) (allg_cons (good_same (v:=vL (rowA oby3_1) y3_1.length cy3_1) rfl rfl rfl rfl (r_loadBox rfl Tryd.isAgg22 (HS34.look 2 rfl) rfl)) (allg_nil))
         try simp only [patch,sc0,sc1]
         refine run_bs k_api_Def (xs:=([v4]:List api_Def)) (n:=1) (cs:=[vI v4.vKind,vS v4.vName,vI v4.vInt.vSize,vB v4.vInt.vSigned,vI v4.vRef,vI v4.vN,vL Av4_0_6 v4.vFields.length cv4_0_6]) Tryd.runUnderlying22 Tryd.typeInfo34 Tryd.zeroValue34 rfl rfl (by decide) (by decide) (by decide) [Value.agg #[vI v4.vKind,vS v4.vName,vI v4.vInt.vSize,vB v4.vInt.vSigned,vI v4.vRef,vI v4.vN,vL Av4_0_6 v4.vFields.length cv4_0_6]] (parts_any.trans rfl) rfl rfl rfl rfl (elems_cons (qs:=[vI v4.vKind,vS v4.vName,vI v4.vInt.vSize,vB v4.vInt.vSigned,vI v4.vRef,vI v4.vN,vL Av4_0_6 v4.vFields.length cv4_0_6]) ⟨[vI v4.vKind],[vS v4.vName,vI v4.vInt.vSize,vB v4.vInt.vSigned,vI v4.vRef,vI v4.vN,vL Av4_0_6 v4.vFields.length cv4_0_6],rfl,rfl,⟨[vS v4.vName],[vI v4.vInt.vSize,vB v4.vInt.vSigned,vI v4.vRef,vI v4.vN,vL Av4_0_6 v4.vFields.length cv4_0_6],rfl,rfl,⟨[vI v4.vInt.vSize,vB v4.vInt.vSigned],[vI v4.vRef,vI v4.vN,vL Av4_0_6 v4.vFields.length cv4_0_6],rfl,⟨[vI v4.vInt.vSize],[vB v4.vInt.vSigned],rfl,rfl,rfl⟩,⟨[vI v4.vRef],[vI v4.vN,vL Av4_0_6 v4.vFields.length cv4_0_6],rfl,rfl,⟨[vI v4.vN],[vL Av4_0_6 v4.vFields.length cv4_0_6],rfl,rfl,⟨Av4_0_6,cv4_0_6,rfl,hcv4_0_6,hrv4_0_6⟩⟩⟩⟩⟩⟩ (elems_nil (cs:=[]))) HS34 ?_
         intro w28 b10 HS35 ho10
         refine qn_nil ?_
         try simp only [sc0,sc1]
         refine chain_eff [] ?_ rfl rfl ?_
         ·try simp only [patch,sc0,sc1]
          exact allg_cons (good_same (v:=vP b8 0) rfl rfl rfl rfl (r_fieldBox (n:=1) (o':=0) rfl Tryd.runUnderlying24 rfl Tryd.sizeOf22 (by decide) rfl)) (allg_cons (good_same (v:=vL (rowA oby3_1) y3_1.length cy3_1) rfl rfl rfl rfl (r_loadBox rfl Tryd.isAgg22 (HS35.look 3 rfl) rfl)) (allg_nil))
         try simp only [patch,sc0,sc1]
         obtain ⟨hl5,H⟩:=of_ite H
         refine run_app k_api_Def (q:=2) (cs:=csy3_1) rfl rfl Tryd.runUnderlying22 Tryd.typeInfo34 Tryd.zeroValue34 rfl (by decide) rfl (src_row Tryd.runUnderlying22 HS35 (i:=0) rfl ho10 rfl) ho10.len (src_row_elems ho10) hl5 HS35 rfl hoy3_1 ?_
         intro w29 ob4 c12 cs4 HS36 ho11
         refine qn_nil ?_
         try simp only [sc0,sc1]
         refine chain_eff [vP b8 0] ?_ rfl rfl ?_
         ·try simp only [patch,sc0,sc1]
          exact allg_cons (good_same (v:=vP b8 0) rfl rfl rfl rfl (r_fieldBox (n:=1) (o':=0) rfl Tryd.runUnderlying24 rfl Tryd.sizeOf22 (by decide) rfl)) (allg_nil)
         try simp only [patch,sc0,sc1]
         refine run_st (i:=3) (cs:=[vL (rowA oby3_1) y3_1.length cy3_1]) (cs':=[vL (rowA ob4) (y3_1.length+1) c12]) (vs:=[vL (rowA ob4) (y3_1.length+1) c12]) (bs':=[((some b10), .cells ([vI v4.vKind,vS v4.vName,vI v4.vInt.vSize,vB v4.vInt.vSigned,vI v4.vRef,vI v4.vN,vL Av4_0_6 v4.vFields.length cv4_0_6]).toArray 34 (0,0)),(some b9, .cells #[vI ((rd z_api_Def a0.vDefs y3_0).vKind),vS ((rd z_api_Def a0.vDefs y3_0).vName),vI ((rd z_api_Def a0.vDefs y3_0).vInt.vSize),vB ((rd z_api_Def a0.vDefs y3_0).vInt.vSigned),vI ((rd z_api_Def a0.vDefs y3_0).vRef),vI ((rd z_api_Def a0.vDefs y3_0).vN),vL Aad2_6 ((rd z_api_Def a0.vDefs y3_0).vFields).length cad2_6] 34 (0,0)),(ob4, .cells (cs4).toArray 34 (0,0)),(some b8, .cells #[vL (rowA ob4) (y3_1.length+1) c12] 24 (0,0)),(some b5, .cells #[vL (rowA obo2_0) xx2.length co2_0] 62 (0,0)),(some b4, .map es1 cl1),(obo1_0, .cells (cso1_0).toArray 3 (0,0)),(some b2, .cells #[vL none 0 0] 24 (0,0)),(some b1, .cells #[vL A0_0 a0.vDefs.length c0_0] 24 (0,0))]) rfl rfl Tryd.sizeOf22 rfl rfl (by decide) rfl HS36 rfl (Nat.le_of_ble_eq_true rfl) rfl rfl ?_
         intro w30 HS37
         refine qn_nil ?_
         try simp only [sc0,sc1]
         refine chain_last [] ?_ ?_
         ·try simp only [patch,sc0,sc1]
          exact allg_nil
         try simp only [patch,sc0,sc1]
         refine norm_block ?_
         refine norm_then ?_
         refine region ?_
         refine rs (vI (w64 (y3_0+1))) (r_bin rfl rfl rfl) ?_
         refine rs (vI (w64 (y3_0+1))) (r_move rfl) ?_
         try simp only [sc0,sc1]
         refine run_nil ?_
         have HS38:St [] h0 w0 h3 [((some b10), .cells ([vI v4.vKind,vS v4.vName,vI v4.vInt.vSize,vB v4.vInt.vSigned,vI v4.vRef,vI v4.vN,vL Av4_0_6 v4.vFields.length cv4_0_6]).toArray 34 (0,0)),(some b9, .cells #[vI ((rd z_api_Def a0.vDefs y3_0).vKind),vS ((rd z_api_Def a0.vDefs y3_0).vName),vI ((rd z_api_Def a0.vDefs y3_0).vInt.vSize),vB ((rd z_api_Def a0.vDefs y3_0).vInt.vSigned),vI ((rd z_api_Def a0.vDefs y3_0).vRef),vI ((rd z_api_Def a0.vDefs y3_0).vN),vL Aad2_6 ((rd z_api_Def a0.vDefs y3_0).vFields).length cad2_6] 34 (0,0)),(ob4, .cells (cs4).toArray 34 (0,0)),(some b8, .cells #[vL (rowA ob4) ((y3_1++([v4]:List api_Def)).length) c12] 24 (0,0)),(some b5, .cells #[vL (rowA obo2_0) xx2.length co2_0] 62 (0,0)),(some b4, .map es1 cl1),(obo1_0, .cells (cso1_0).toArray 3 (0,0)),(some b2, .cells #[vL none 0 0] 24 (0,0)),(some b1, .cells #[vL A0_0 a0.vDefs.length c0_0] 24 (0,0))] w30:=HS37.cast (by first|rfl|(rw [ho11.len];done)|(rw [ho11.len];rfl))
         have ho12:=ho11.norm
         refine again m [vI y3_0,vP b9 0,vI (w64 (y3_0+1)),vB (decide (y3_0<(a0.vDefs.length:Int))),vI y3_0,Value.pointer (some (Addr.add ad2 (y3_0.toNat*7))),Value.agg #[vI ((rd z_api_Def a0.vDefs y3_0).vKind),vS ((rd z_api_Def a0.vDefs y3_0).vName),vI ((rd z_api_Def a0.vDefs y3_0).vInt.vSize),vB ((rd z_api_Def a0.vDefs y3_0).vInt.vSigned),vI ((rd z_api_Def a0.vDefs y3_0).vRef),vI ((rd z_api_Def a0.vDefs y3_0).vN),vL Aad2_6 ((rd z_api_Def a0.vDefs y3_0).vFields).length cad2_6],Value.map (some b4),vI y3_0,vB ((mfind ieq v3 y3_0).getD false),vP b8 0,vL (rowA oby3_1) y3_1.length cy3_1,Value.agg #[vI ((rd z_api_Def a0.vDefs y3_0).vKind),vS ((rd z_api_Def a0.vDefs y3_0).vName),vI ((rd z_api_Def a0.vDefs y3_0).vInt.vSize),vB ((rd z_api_Def a0.vDefs y3_0).vInt.vSigned),vI ((rd z_api_Def a0.vDefs y3_0).vRef),vI ((rd z_api_Def a0.vDefs y3_0).vN),vL Aad2_6 ((rd z_api_Def a0.vDefs y3_0).vFields).length cad2_6],Value.func (.func 86) #[] #[vP b5 0],Value.agg #[vI v4.vKind,vS v4.vName,vI v4.vInt.vSize,vB v4.vInt.vSigned,vI v4.vRef,vI v4.vN,vL Av4_0_6 v4.vFields.length cv4_0_6],vL (rowA (some b10)) 1 1,vL (rowA ob4) (y3_1.length+1) c12,vP b8 0,vI (w64 (y3_0+1))] (Nat.lt_succ_self m) (by simp only [patch,sc0,sc1]) ⟨(w64 (y3_0+1)),(y3_1++([v4]:List api_Def)),h3,ob4,c12,cs4,_,_,_,_,_,_,_,_,_,_,_,_,_,_,_,_,_,_,(by first|rfl|(rw [ho11.len];done)|(rw [ho11.len];rfl)),H,ho12.norm,rdp1,hoo1_0,HS38.tail.tail⟩
        ·replace H:=of_neg H (nt c11)
         refine wp_skip ?_
         refine norm_block ?_
         refine norm_then ?_
         refine region ?_
         refine rs (vI (w64 (y3_0+1))) (r_bin rfl rfl rfl) ?_
         refine rs (vI (w64 (y3_0+1))) (r_move rfl) ?_
         try simp only [sc0,sc1]
         refine run_nil ?_
         refine again m [vI y3_0,vP b9 0,vI (w64 (y3_0+1)),vB (decide (y3_0<(a0.vDefs.length:Int))),vI y3_0,Value.pointer (some (Addr.add ad2 (y3_0.toNat*7))),Value.agg #[vI ((rd z_api_Def a0.vDefs y3_0).vKind),vS ((rd z_api_Def a0.vDefs y3_0).vName),vI ((rd z_api_Def a0.vDefs y3_0).vInt.vSize),vB ((rd z_api_Def a0.vDefs y3_0).vInt.vSigned),vI ((rd z_api_Def a0.vDefs y3_0).vRef),vI ((rd z_api_Def a0.vDefs y3_0).vN),vL Aad2_6 ((rd z_api_Def a0.vDefs y3_0).vFields).length cad2_6],Value.map (some b4),vI y3_0,vB ((mfind ieq v3 y3_0).getD false),uy3_76,uy3_77,uy3_78,uy3_79,uy3_80,uy3_81,uy3_82,uy3_83,vI (w64 (y3_0+1))] (Nat.lt_succ_self m) (by simp only [patch,sc0,sc1]) ⟨(w64 (y3_0+1)),y3_1,h2,oby3_1,cy3_1,csy3_1,_,_,_,_,_,_,_,_,_,_,_,_,_,_,_,_,_,_,rfl,H,hoy3_1.norm,rdp1,hoo1_0,HS32.tail⟩
       ·replace H:=of_neg H (nt c10)
        refine wp_exit ?_
        refine exit_then ?_
        obtain rfl:=Option.some.inj H
        refine leave [uy3_16,uy3_17,vI y3_0,vB (decide (y3_0<(a0.vDefs.length:Int))),uy3_70,uy3_71,uy3_72,uy3_73,uy3_74,uy3_75,uy3_76,uy3_77,uy3_78,uy3_79,uy3_80,uy3_81,uy3_82,uy3_83,uy3_84] (by simp only [patch,sc0,sc1]) ⟨h2,oby3_1,cy3_1,csy3_1,_,_,_,_,_,_,_,_,_,_,_,_,_,_,_,_,_,_,_,rfl,hoy3_1.norm,rdp1,hoo1_0,HS30⟩
     ·rintro us w31 ⟨h4,obo3_0,co3_0,cso3_0,uo3_16,uo3_17,uo3_68,uo3_69,uo3_70,uo3_71,uo3_72,uo3_73,uo3_74,uo3_75,uo3_76,uo3_77,uo3_78,uo3_79,uo3_80,uo3_81,uo3_82,uo3_83,uo3_84,rfl,hoo3_0,rdp1,hoo1_0,HS39⟩
      replace H:=G3
      clear G3
      try simp only [patch,sc0,sc1]
      refine norm_then ?_
      refine wp_seq ?_
      refine drawn_lazy [.eq (Value.agg #[vL (rowA obo3_0) xx3.length co3_0]), .eq (vL (rowA obo2_0) xx2.length co2_0)] [85,86] 1 86 (vL (rowA obo2_0) xx2.length co2_0) _ _ hmix (by kernel_rfl) rfl rfl rfl rfl rfl (stable_eq (stable_eq stable_nil)) ⟨ob_plain rfl (fun a' w' hE hk=>by have HSd:=HS39.step hE;exact does_eq (r_loadBoxAgg (n:=1) (vs:=[vL (rowA obo3_0) xx3.length co3_0]) (show _=vP b8 0 from hk 15 rfl) Tryd.isAgg24 (HSd.look 1 rfl) Tryd.sizeOf24 rfl rfl)),ob_plain rfl (fun a' w' hE hk=>by have HSd:=HS39.step hE;exact does_eq (r_loadBox (show _=vP b5 0 from hk 12 rfl) Tryd.isAgg62 (HSd.look 2 rfl) rfl)),trivial⟩ ?_
      intro w32 hE11
      simp only [List.zip_cons_cons,List.zip_nil_left,List.zip_nil_right,finL,sc0,sc1,List.length_cons,List.length_nil,List.drop_succ_cons,List.drop_zero,Nat.zero_add,Nat.reduceAdd]
      have HS40:=HS39.step hE11
      refine lazy_st (i:=5) (cs:=[vL none 0 0]) (cs':=[vL (rowA obo3_0) xx3.length co3_0]) (vs:=[vL (rowA obo3_0) xx3.length co3_0]) (bs':=[(obo3_0, .cells (cso3_0).toArray 34 (0,0)),(some b8, .cells #[vL (rowA obo3_0) xx3.length co3_0] 24 (0,0)),(some b5, .cells #[vL (rowA obo2_0) xx2.length co2_0] 62 (0,0)),(some b4, .map es1 cl1),(obo1_0, .cells (cso1_0).toArray 3 (0,0)),(some b2, .cells #[vL (rowA obo3_0) xx3.length co3_0] 24 (0,0)),(some b1, .cells #[vL A0_0 a0.vDefs.length c0_0] 24 (0,0))]) (fun _=>rfl) (fun _=>rfl) Tryd.sizeOf24 rfl rfl (by decide) rfl HS40 rfl (Nat.le_of_ble_eq_true rfl) rfl rfl rfl (Nat.le_of_ble_eq_true rfl) (fun w2 HSl u=>(r_loadBox rfl Tryd.isAgg62 (HSl.look 2 rfl) rfl)) rfl ?_
      intro w33 HS41
      refine rs (vL (rowA obo2_0) xx2.length co2_0) (r_assign rfl) ?_
      refine rs (vI 0) (r_assign rfl) ?_
      try simp only [sc0,sc1]
      refine run_nil ?_
      refine norm_then ?_
      refine wp_ret ?_
      obtain rfl:=Option.some.inj H
      refine bodyPost_ret (results_3 rfl (one_agg rfl Tryd.isAgg24 (HS41.look 5 rfl) Tryd.sizeOf24 rfl) (one_tmp rfl) (one_tmp rfl)) rfl ?_
      obtain ⟨h5,HS42,hs3,rdp2⟩:=row_pub HS41 (i:=0) rfl hoo3_0
      replace hoo1_0:=hoo1_0.view hs3
      replace rdp1:Rd (Kd.int .i64) h5 (rowA obo2_0) xx2:=rdp1.ext hs3
      exact ⟨h5,(rowA obo3_0),co3_0,(rowA obo2_0),co2_0,rfl,hoo3_0.cap,rdp2,hoo2_0.cap,rdp1,HS42.gr,HS42.sees,HS42.toE⟩

end Go.Proofs.YtfjppgobidjndaaDoor
namespace Go.Proofs.YtfjppgobidjndaaDoor
open Go.RowKit Go.M
def ctf_Lookup.f (k:Nat) (a0:api_Types) (a1:ByteArray):Option (Int×Int):=(ctf_valid.f k a0).bind fun v1=>(if (!v1)=true then (some (0,80)) else ((ctf_find.f k a0 a1).bind fun v2=>(if (decide (v2<0))=true then (some (0,3)) else (some (v2,0)))))
set_option maxRecDepth 20000 in
set_option maxHeartbeats 4000000 in
theorem ctf_Lookup.calls (k:Nat) (a0:api_Types) (a1:ByteArray) (A0_0:Option Addr) (c0_0:Nat) {h0:View} {w0:World} (hv:Sees h0 w0) (hr0_0:Rd k_api_Def h0 A0_0 a0.vDefs) (hc0_0:a0.vDefs.length≤c0_0) {r:Int×Int} (H:ctf_Lookup.f k a0 a1=some r):Calls Tryd.prog 21 #[Value.agg #[vL A0_0 a0.vDefs.length c0_0],vS a1] w0 (fun e w1=>e= .returned (Value.tuple #[vI r.1,vI r.2])∧Ext w0 w1):=by
 unfold ctf_Lookup.f at H
 have HS:St [] h0 w0 h0 [] w0:=St.init hv
 go_enter Tryd.func21,Tryd.ntmps21
 refine wp_seq ?_
 refine region ?_
 refine run_ex rfl rfl (does_box (cs:=#[vL A0_0 a0.vDefs.length c0_0]) rfl rfl) ?_
 rintro w1 _ hE1 ⟨b1,rfl,ge1,hb1⟩
 have HS1:=HS.new hE1 ge1 hb1
 refine rs (vI 0) (r_assign rfl) ?_
 refine rs (vI 0) (r_assign rfl) ?_
 try simp only [sc0,sc1]
 refine run_nil ?_
 refine norm_then ?_
 refine wp_seq ?_
 refine wp_seq ?_
 refine region ?_
 refine rs (Value.agg #[vL A0_0 a0.vDefs.length c0_0]) (r_loadBoxAgg (n:=1) (vs:=[vL A0_0 a0.vDefs.length c0_0]) rfl Tryd.isAgg24 (HS1.look 0 rfl) Tryd.sizeOf24 rfl rfl) ?_
 obtain ⟨v1,H1,H⟩:=of_bind H
 refine run_eq (v:=vB v1) rfl rfl (does_call_eq Tryd.call47 rfl rfl (ctf_valid.calls k a0 A0_0 c0_0 HS1.sees hr0_0 hc0_0 H1)) ?_
 intro w2 hE2
 have HS2:=HS1.step hE2
 refine rs (vB (!v1)) (r_not rfl) ?_
 try simp only [sc0,sc1]
 refine run_nil ?_
 refine norm_then ?_
 refine wp_cond_split (t:=(!v1)) rfl (fun c1=>?_) (fun c1=>?_)
 ·replace H:=of_pos H c1
  refine wp_seq ?_
  refine region ?_
  refine rs (vI 0) (r_assign rfl) ?_
  refine rs (vI 80) (r_assign rfl) ?_
  try simp only [sc0,sc1]
  refine run_nil ?_
  refine norm_then ?_
  refine wp_ret ?_
  refine ret_then ?_
  obtain rfl:=Option.some.inj H
  refine bodyPost_ret (results_2 rfl (one_tmp rfl) (one_tmp rfl)) rfl ?_
  exact ⟨rfl,HS2.toE⟩
 ·replace H:=of_neg H (nt c1)
  refine wp_skip ?_
  refine norm_then ?_
  refine wp_seq ?_
  refine region ?_
  refine rs (Value.agg #[vL A0_0 a0.vDefs.length c0_0]) (r_loadBoxAgg (n:=1) (vs:=[vL A0_0 a0.vDefs.length c0_0]) rfl Tryd.isAgg24 (HS2.look 0 rfl) Tryd.sizeOf24 rfl rfl) ?_
  refine rs (vS a1) (r_move rfl) ?_
  obtain ⟨v2,H2,H⟩:=of_bind H
  refine run_eq (v:=vI v2) rfl rfl (does_call_eq Tryd.call54 rfl rfl (ctf_find.calls k a0 a1 A0_0 c0_0 HS2.sees hr0_0 hc0_0 H2)) ?_
  intro w3 hE3
  have HS3:=HS2.step hE3
  refine rs (vI v2) (r_assign rfl) ?_
  try simp only [sc0,sc1]
  refine run_nil ?_
  refine norm_then ?_
  refine wp_seq ?_
  refine wp_seq ?_
  refine region ?_
  refine rs (vI v2) (r_move rfl) ?_
  refine rs (vB (decide (v2<0))) (r_bin rfl rfl rfl) ?_
  try simp only [sc0,sc1]
  refine run_nil ?_
  refine norm_then ?_
  refine wp_cond_split (t:=(decide (v2<0))) rfl (fun c2=>?_) (fun c2=>?_)
  ·replace H:=of_pos H c2
   refine wp_seq ?_
   refine region ?_
   refine rs (vI 0) (r_assign rfl) ?_
   refine rs (vI 3) (r_assign rfl) ?_
   try simp only [sc0,sc1]
   refine run_nil ?_
   refine norm_then ?_
   refine wp_ret ?_
   refine ret_then ?_
   obtain rfl:=Option.some.inj H
   refine bodyPost_ret (results_2 rfl (one_tmp rfl) (one_tmp rfl)) rfl ?_
   exact ⟨rfl,HS3.toE⟩
  ·replace H:=of_neg H (nt c2)
   refine wp_skip ?_
   refine norm_then ?_
   refine wp_seq ?_
   refine region ?_
   refine rs (vI v2) (r_move rfl) ?_
   refine rs (vI v2) (r_assign rfl) ?_
   refine rs (vI 0) (r_assign rfl) ?_
   try simp only [sc0,sc1]
   refine run_nil ?_
   refine norm_then ?_
   refine wp_ret ?_
   obtain rfl:=Option.some.inj H
   refine bodyPost_ret (results_2 rfl (one_tmp rfl) (one_tmp rfl)) rfl ?_
   exact ⟨rfl,HS3.toE⟩

end Go.Proofs.YtfjppgobidjndaaDoor
namespace Go.Proofs.YtfjppgobidjndaaDoor
open Go.RowKit Go.M
def taplinelaw08_CtfTrims.l0 (k:Nat) (a0:api_Types) (v2:api_Types×(List Int)×Int):Nat→Int→Int→Option ((Bool)⊕(Int))
 |0,_,_=>none
 |m+1,y1_0,y1_1=>if (decide (y1_1<(v2.2.1.length:Int)))=true then (if 0≤y1_1∧y1_1<v2.2.1.length then (if (decide ((rd 0 v2.2.1 y1_1)<0))=true then (taplinelaw08_CtfTrims.l0 k a0 v2 m y1_0 (IntKind.wrap .i64 (y1_1+1))) else (if 0≤y1_1∧y1_1<v2.2.1.length then (if (true&&(((rd 0 v2.2.1 y1_1) !=y1_0)==false))=true→(0≤y1_1∧y1_1<v2.2.1.length) then ((if (true&&(((rd 0 v2.2.1 y1_1) !=y1_0)==false))=true then ctf_Equal.f k a0 y1_1 v2.1 (rd 0 v2.2.1 y1_1) else some false).bind fun v4=>(if (((rd 0 v2.2.1 y1_1) !=y1_0)||(!v4))=true then (some (.inl false)) else (taplinelaw08_CtfTrims.l0 k a0 v2 m (IntKind.wrap .i64 (y1_0+1)) (IntKind.wrap .i64 (y1_1+1))))) else none) else none)) else none) else (some (.inr y1_0))
def taplinelaw08_CtfTrims.l1 (k:Nat) (a1:List ByteArray) (v2:api_Types×(List Int)×Int):Nat→Int→Option ((Bool)⊕(Unit))
 |0,_=>none
 |m+1,y2_0=>if (decide (y2_0<(a1.length:Int)))=true then (if 0≤y2_0∧y2_0<a1.length then ((ctf_Lookup.f k v2.1 (rd ByteArray.empty a1 y2_0)).bind fun v8=>(if (v8.2 !=0)=true then (some (.inl false)) else (taplinelaw08_CtfTrims.l1 k a1 v2 m (IntKind.wrap .i64 (y2_0+1))))) else none) else (some (.inr ()))
def taplinelaw08_CtfTrims.f (k:Nat) (a0:api_Types) (a1:List ByteArray):Option (Bool):=(taplinelaw08_sane.f k).bind fun v1=>((ctf_Trim.f k a0 a1).bind fun v2=>(if (v2.2.2 !=0)=true then (some v1) else ((ctf_Check.f k v2.1).bind fun v3=>(if ((v3 !=0)||((v2.2.1.length:Int) !=(a0.vDefs.length:Int)))=true then (some false) else ((taplinelaw08_CtfTrims.l0 k a0 v2 k 0 0).bind fun xx1=>(match xx1 with| .inl r=>some r| .inr s1=>(ctf_Trim.f k v2.1 a1).bind fun v5=>((if (true&&(((s1 !=(v2.1.vDefs.length:Int))||(v5.2.2 !=0))==false))=true then taplineref08_Same.f k v2.1 v5.1 else some false).bind fun v6=>((if (true&&((((s1 !=(v2.1.vDefs.length:Int))||(v5.2.2 !=0))||(!v6))==false))=true then taplinelaw08_rising.f k v5.2.1 else some false).bind fun v7=>(if ((((s1 !=(v2.1.vDefs.length:Int))||(v5.2.2 !=0))||(!v6))||(!v7))=true then (some false) else ((taplinelaw08_CtfTrims.l1 k a1 v2 k 0).bind fun xx2=>(match xx2 with| .inl r=>some r| .inr s2=>some v1)))))))))))
set_option maxRecDepth 20000 in
set_option maxHeartbeats 4000000 in
theorem taplinelaw08_CtfTrims.calls (k:Nat) (a0:api_Types) (a1:List ByteArray) (A0_0:Option Addr) (c0_0:Nat) (A1_0:Option Addr) (c1_0:Nat) {h0:View} {w0:World} (hv:Sees h0 w0) (ht:Tab w0) (hr0_0:Rd k_api_Def h0 A0_0 a0.vDefs) (hc0_0:a0.vDefs.length≤c0_0) (hr1_0:Rd Kd.str h0 A1_0 a1) (hc1_0:a1.length≤c1_0) {r:Bool} (H:taplinelaw08_CtfTrims.f k a0 a1=some r):Calls Tryd.prog 12 #[Value.agg #[vL A0_0 a0.vDefs.length c0_0],vL A1_0 a1.length c1_0] w0 (fun e w1=>e= .returned (vB r)∧Ext w0 w1):=by
 unfold taplinelaw08_CtfTrims.f at H
 have HS:St [] h0 w0 h0 [] w0:=St.init hv
 go_enter Tryd.func12,Tryd.ntmps12
 refine wp_seq ?_
 refine region ?_
 refine run_ex rfl rfl (does_box (cs:=#[vL A0_0 a0.vDefs.length c0_0]) rfl rfl) ?_
 rintro w1 _ hE1 ⟨b1,rfl,ge1,hb1⟩
 have HS1:=HS.new hE1 ge1 hb1
 refine rs (vB false) (r_assign rfl) ?_
 try simp only [sc0,sc1]
 refine run_nil ?_
 refine norm_then ?_
 refine wp_seq ?_
 refine region ?_
 obtain ⟨v1,H1,H⟩:=of_bind H
 refine run_eq (v:=vB v1) rfl rfl (does_call_eq Tryd.call13 rfl rfl (taplinelaw08_sane.calls k HS1.sees (ht.s HS1) H1)) ?_
 intro w2 hE2
 have HS2:=HS1.step hE2
 refine rs (vB v1) (r_assign rfl) ?_
 try simp only [sc0,sc1]
 refine run_nil ?_
 refine norm_then ?_
 refine wp_seq ?_
 refine region ?_
 refine rs (Value.agg #[vL A0_0 a0.vDefs.length c0_0]) (r_loadBoxAgg (n:=1) (vs:=[vL A0_0 a0.vDefs.length c0_0]) rfl Tryd.isAgg24 (HS2.look 0 rfl) Tryd.sizeOf24 rfl rfl) ?_
 refine rs (vL A1_0 a1.length c1_0) (r_move rfl) ?_
 obtain ⟨v2,H2,H⟩:=of_bind H
 refine run_ex rfl rfl (does_call Tryd.call41 rfl (gives_in (h:=h0) (R:=(fun hx u=>∃(Av2_0_0:Option Addr) (cv2_0_0:Nat),∃(Av2_1_0:Option Addr) (cv2_1_0:Nat),u=Value.tuple #[Value.agg #[vL Av2_0_0 v2.1.vDefs.length cv2_0_0],vL Av2_1_0 v2.2.1.length cv2_1_0,vI v2.2.2]∧v2.1.vDefs.length≤cv2_0_0∧Rd k_api_Def hx Av2_0_0 v2.1.vDefs∧v2.2.1.length≤cv2_1_0∧Rd (Kd.int .i64) hx Av2_1_0 v2.2.1)) (Ext.rfl' w2) ((ctf_Trim.calls k a0 a1 A0_0 c0_0 A1_0 c1_0 HS2.sees hr0_0 hc0_0 hr1_0 hc1_0 H2).mono ?_)) rfl) ?_
 ·rintro _ _ ⟨h1,Av2_0_0,cv2_0_0,Av2_1_0,cv2_1_0,rfl,hcv2_0_0,hrv2_0_0,hcv2_1_0,hrv2_1_0,g,ss,x⟩
  exact ⟨h1,_,rfl,⟨Av2_0_0,cv2_0_0,Av2_1_0,cv2_1_0,rfl,hcv2_0_0,hrv2_0_0,hcv2_1_0,hrv2_1_0⟩,g,ss,x⟩
 rintro w3 _ hE3 ⟨h1,⟨Av2_0_0,cv2_0_0,Av2_1_0,cv2_1_0,rfl,hcv2_0_0,hrv2_0_0,hcv2_1_0,hrv2_1_0⟩,gr1,se1⟩
 have HS3:=HS2.view hE3 gr1 se1
 refine rs (Value.tuple #[Value.agg #[vL Av2_0_0 v2.1.vDefs.length cv2_0_0],vL Av2_1_0 v2.2.1.length cv2_1_0,vI v2.2.2]) (r_move rfl) ?_
 refine run_frame (by simp only [sc0,sc1];rfl) ?_
 refine rs (Value.agg #[vL Av2_0_0 v2.1.vDefs.length cv2_0_0]) (r_extract rfl rfl) ?_
 refine rs (vL Av2_1_0 v2.2.1.length cv2_1_0) (r_extract rfl rfl) ?_
 refine rs (vI v2.2.2) (r_extract rfl rfl) ?_
 refine run_ex rfl rfl (does_alloc (cs:=#[vL none 0 0]) Tryd.zeroValue24 rfl) ?_
 rintro w4 _ hE4 ⟨b2,rfl,ge2,hb2⟩
 have HS4:=HS3.new hE4 ge2 hb2
 refine run_frame (by simp only [sc0,sc1];rfl) ?_
 refine run_st (i:=0) (cs:=[vL none 0 0]) (cs':=[vL Av2_0_0 v2.1.vDefs.length cv2_0_0]) (vs:=[vL Av2_0_0 v2.1.vDefs.length cv2_0_0]) (bs':=[(some b2, .cells #[vL Av2_0_0 v2.1.vDefs.length cv2_0_0] 24 (0,0)),(some b1, .cells #[vL A0_0 a0.vDefs.length c0_0] 24 (0,0))]) rfl rfl Tryd.sizeOf24 rfl rfl (by decide) rfl HS4 rfl (Nat.le_of_ble_eq_true rfl) rfl rfl ?_
 intro w5 HS5
 refine rs (vL Av2_1_0 v2.2.1.length cv2_1_0) (r_assign rfl) ?_
 refine rs (vI v2.2.2) (r_assign rfl) ?_
 try simp only [sc0,sc1]
 refine run_nil ?_
 refine norm_then ?_
 refine wp_seq ?_
 refine wp_seq ?_
 refine region ?_
 refine rs (vI v2.2.2) (r_move rfl) ?_
 refine rs (vB (v2.2.2 !=0)) (r_bin rfl rfl rfl) ?_
 try simp only [sc0,sc1]
 refine run_nil ?_
 refine norm_then ?_
 refine wp_cond_split (t:=(v2.2.2 !=0)) rfl (fun c1=>?_) (fun c1=>?_)
 ·replace H:=of_pos H c1
  refine wp_seq ?_
  refine region ?_
  refine rs (vB v1) (r_move rfl) ?_
  refine rs (vB v1) (r_assign rfl) ?_
  try simp only [sc0,sc1]
  refine run_nil ?_
  refine norm_then ?_
  refine wp_ret ?_
  refine ret_then ?_
  obtain rfl:=Option.some.inj H
  refine bodyPost_ret (results_1 rfl (one_tmp rfl)) rfl ?_
  exact ⟨rfl,HS5.toE⟩
 ·replace H:=of_neg H (nt c1)
  refine wp_skip ?_
  refine norm_then ?_
  refine wp_seq ?_
  refine wp_seq ?_
  refine region ?_
  refine rs (Value.agg #[vL Av2_0_0 v2.1.vDefs.length cv2_0_0]) (r_loadBoxAgg (n:=1) (vs:=[vL Av2_0_0 v2.1.vDefs.length cv2_0_0]) rfl Tryd.isAgg24 (HS5.look 0 rfl) Tryd.sizeOf24 rfl rfl) ?_
  obtain ⟨v3,H3,H⟩:=of_bind H
  refine run_eq (v:=vI v3) rfl rfl (does_call_eq Tryd.call18 rfl rfl (ctf_Check.calls k v2.1 Av2_0_0 cv2_0_0 HS5.sees hrv2_0_0 hcv2_0_0 H3)) ?_
  intro w6 hE5
  have HS6:=HS5.step hE5
  refine rs (vB (v3 !=0)) (r_bin rfl rfl rfl) ?_
  refine rs (vB (v3 !=0)) (r_move rfl) ?_
  refine run_frame (by simp only [sc0,sc1];rfl) ?_
  refine rgs (v3 !=0) true (vL Av2_1_0 v2.2.1.length cv2_1_0) rfl rfl rfl rfl (fun hg=>(r_move rfl)) ?_
  refine rgs (v3 !=0) true (vI (v2.2.1.length:Int)) rfl rfl rfl rfl (fun hg=>(r_len (gvt (vL Av2_1_0 v2.2.1.length cv2_1_0) hg rfl) Tryd.runUnderlying62)) ?_
  refine rgs (v3 !=0) true (vP b1 0) rfl rfl rfl rfl (fun hg=>(r_fieldBox (n:=1) (o':=0) rfl Tryd.runUnderlying24 rfl Tryd.sizeOf22 (by decide) rfl)) ?_
  refine rgs (v3 !=0) true (vL A0_0 a0.vDefs.length c0_0) rfl rfl rfl rfl (fun hg=>(r_loadBox (gvt (vP b1 0) hg rfl) Tryd.isAgg22 (HS6.look 1 rfl) rfl)) ?_
  refine run_frame (by simp only [sc0,sc1];rfl) ?_
  refine rgs (v3 !=0) true (vI (a0.vDefs.length:Int)) rfl rfl rfl rfl (fun hg=>(r_len (gvt (vL A0_0 a0.vDefs.length c0_0) hg rfl) Tryd.runUnderlying22)) ?_
  refine rgs (v3 !=0) true (vB ((v2.2.1.length:Int) !=(a0.vDefs.length:Int))) rfl rfl rfl rfl (fun hg=>(r_bin (gvt (vI (v2.2.1.length:Int)) hg rfl) (gvt (vI (a0.vDefs.length:Int)) hg rfl) rfl)) ?_
  refine rs (vB ((v3 !=0)||((v2.2.1.length:Int) !=(a0.vDefs.length:Int)))) (r_pick_or rfl rfl (fun hp=>(gvt (vB ((v2.2.1.length:Int) !=(a0.vDefs.length:Int))) (and_i rfl hp) rfl))) ?_
  try simp only [sc0,sc1]
  refine run_nil ?_
  refine norm_then ?_
  refine wp_cond_split (t:=((v3 !=0)||((v2.2.1.length:Int) !=(a0.vDefs.length:Int)))) rfl (fun c2=>?_) (fun c2=>?_)
  ·replace H:=of_pos H c2
   refine wp_seq ?_
   refine region ?_
   refine rs (vB false) (r_assign rfl) ?_
   try simp only [sc0,sc1]
   refine run_nil ?_
   refine norm_then ?_
   refine wp_ret ?_
   refine ret_then ?_
   obtain rfl:=Option.some.inj H
   refine bodyPost_ret (results_1 rfl (one_tmp rfl)) rfl ?_
   exact ⟨rfl,HS6.toE⟩
  ·replace H:=of_neg H (nt c2)
   refine wp_skip ?_
   refine norm_then ?_
   refine wp_seq ?_
   refine region ?_
   refine rs (vI 0) (r_assign rfl) ?_
   try simp only [sc0,sc1]
   refine run_nil ?_
   refine norm_then ?_
   refine wp_seq ?_
   refine wp_seq ?_
   refine region ?_
   refine rs (vI 0) (r_assign rfl) ?_
   try simp only [sc0,sc1]
   refine run_nil ?_
   refine norm_then ?_
   obtain ⟨xx1,H,G1⟩:=of_bind H
   refine loop_patch [4,9,10,39,40,41,42,43,44,45,46,47,48,49,50,51,52,53,54,55,56,57,58,59,60,61,62,63,64,65,66,67,68] (fun m us w'=>∃y1_0 y1_1:Int,∃uy1_4 uy1_39 uy1_40 uy1_41 uy1_42 uy1_43 uy1_44 uy1_45 uy1_46 uy1_47 uy1_48 uy1_49 uy1_50 uy1_51 uy1_52 uy1_53 uy1_54 uy1_55 uy1_56 uy1_57 uy1_58 uy1_59 uy1_60 uy1_61 uy1_62 uy1_63 uy1_64 uy1_65 uy1_66 uy1_67 uy1_68:Value,us=[uy1_4,vI y1_0,vI y1_1,uy1_39,uy1_40,uy1_41,uy1_42,uy1_43,uy1_44,uy1_45,uy1_46,uy1_47,uy1_48,uy1_49,uy1_50,uy1_51,uy1_52,uy1_53,uy1_54,uy1_55,uy1_56,uy1_57,uy1_58,uy1_59,uy1_60,uy1_61,uy1_62,uy1_63,uy1_64,uy1_65,uy1_66,uy1_67,uy1_68]∧taplinelaw08_CtfTrims.l0 k a0 v2 m y1_0 y1_1=some xx1∧St [] h0 w0 h1 [(some b2, .cells #[vL Av2_0_0 v2.1.vDefs.length cv2_0_0] 24 (0,0)),(some b1, .cells #[vL A0_0 a0.vDefs.length c0_0] 24 (0,0))] w') (fun us w'=>∃(s1:Int),xx1= .inr s1∧∃uo1_4 uo1_10 uo1_39 uo1_40 uo1_41 uo1_42 uo1_43 uo1_44 uo1_45 uo1_46 uo1_47 uo1_48 uo1_49 uo1_50 uo1_51 uo1_52 uo1_53 uo1_54 uo1_55 uo1_56 uo1_57 uo1_58 uo1_59 uo1_60 uo1_61 uo1_62 uo1_63 uo1_64 uo1_65 uo1_66 uo1_67 uo1_68:Value,us=[uo1_4,vI s1,uo1_10,uo1_39,uo1_40,uo1_41,uo1_42,uo1_43,uo1_44,uo1_45,uo1_46,uo1_47,uo1_48,uo1_49,uo1_50,uo1_51,uo1_52,uo1_53,uo1_54,uo1_55,uo1_56,uo1_57,uo1_58,uo1_59,uo1_60,uo1_61,uo1_62,uo1_63,uo1_64,uo1_65,uo1_66,uo1_67,uo1_68]∧St [] h0 w0 h1 [(some b2, .cells #[vL Av2_0_0 v2.1.vDefs.length cv2_0_0] 24 (0,0)),(some b1, .cells #[vL A0_0 a0.vDefs.length c0_0] 24 (0,0))] w') k [vB false,vI 0,vI 0,undef,undef,undef,undef,undef,undef,undef,undef,undef,undef,undef,undef,undef,undef,undef,undef,undef,undef,undef,undef,undef,undef,undef,undef,undef,undef,undef,undef,undef,undef] (by simp only [patch,sc0,sc1]) ⟨0,0,_,_,_,_,_,_,_,_,_,_,_,_,_,_,_,_,_,_,_,_,_,_,_,_,_,_,_,_,_,_,_,rfl,H,HS6⟩ ?_ ?_
   ·rintro m us w7 ⟨y1_0,y1_1,uy1_4,uy1_39,uy1_40,uy1_41,uy1_42,uy1_43,uy1_44,uy1_45,uy1_46,uy1_47,uy1_48,uy1_49,uy1_50,uy1_51,uy1_52,uy1_53,uy1_54,uy1_55,uy1_56,uy1_57,uy1_58,uy1_59,uy1_60,uy1_61,uy1_62,uy1_63,uy1_64,uy1_65,uy1_66,uy1_67,uy1_68,rfl,H,HS7⟩
    cases m with
    |zero=>exact absurd H (by simp [taplinelaw08_CtfTrims.l0])
    |succ m=>
     rw [taplinelaw08_CtfTrims.l0] at H
     try simp only [patch,sc0,sc1]
     refine wp_seq ?_
     refine wp_seq ?_
     refine region ?_
     refine rs (vI y1_1) (r_move rfl) ?_
     refine rs (vL Av2_1_0 v2.2.1.length cv2_1_0) (r_move rfl) ?_
     refine rs (vI (v2.2.1.length:Int)) (r_len rfl Tryd.runUnderlying62) ?_
     refine rs (vB (decide (y1_1<(v2.2.1.length:Int)))) (r_bin rfl rfl rfl) ?_
     try simp only [sc0,sc1]
     refine run_nil ?_
     refine norm_then ?_
     refine wp_cond_split (t:=(decide (y1_1<(v2.2.1.length:Int)))) rfl (fun c3=>?_) (fun c3=>?_)
     ·replace H:=of_pos H c3
      refine wp_skip ?_
      refine norm_then ?_
      refine wp_seq ?_
      refine wp_block ?_
      refine wp_seq ?_
      refine wp_seq ?_
      refine region ?_
      refine rs (vL Av2_1_0 v2.2.1.length cv2_1_0) (r_move rfl) ?_
      refine rs (vI y1_1) (r_move rfl) ?_
      obtain ⟨hi1,H⟩:=of_ite H
      obtain ⟨ad1,e1,hel1⟩:=ld_int hrv2_1_0 hi1.1 hi1.2
      refine rs (Value.pointer (some (Addr.add ad1 (y1_1.toNat*1)))) (r_indexA (sz:=1) rfl e1 rfl hi1.1 hi1.2 Tryd.runUnderlying62 Tryd.sizeOf3) ?_
      refine rs (vI (rd 0 v2.2.1 y1_1)) (r_load rfl Tryd.isAgg3 (hel1.cell0 HS7.sees rfl)) ?_
      refine run_frame (by simp only [sc0,sc1];rfl) ?_
      refine rs (vB (decide ((rd 0 v2.2.1 y1_1)<0))) (r_bin rfl rfl rfl) ?_
      try simp only [sc0,sc1]
      refine run_nil ?_
      refine norm_then ?_
      refine wp_cond_split (t:=(decide ((rd 0 v2.2.1 y1_1)<0))) rfl (fun c4=>?_) (fun c4=>?_)
      ·replace H:=of_pos H c4
       refine wp_exit ?_
       refine exit_then ?_
       refine exit_block ?_
       refine norm_then ?_
       refine region ?_
       refine rs (vI y1_1) (r_move rfl) ?_
       refine rs (vI (w64 (y1_1+1))) (r_bin rfl rfl rfl) ?_
       refine rs (vI (w64 (y1_1+1))) (r_assign rfl) ?_
       try simp only [sc0,sc1]
       refine run_nil ?_
       refine again m [uy1_4,vI y1_0,vI (w64 (y1_1+1)),vI y1_1,vL Av2_1_0 v2.2.1.length cv2_1_0,vI (v2.2.1.length:Int),vB (decide (y1_1<(v2.2.1.length:Int))),vI y1_1,vI (w64 (y1_1+1)),vL Av2_1_0 v2.2.1.length cv2_1_0,vI y1_1,Value.pointer (some (Addr.add ad1 (y1_1.toNat*1))),vI (rd 0 v2.2.1 y1_1),vB (decide ((rd 0 v2.2.1 y1_1)<0)),uy1_50,uy1_51,uy1_52,uy1_53,uy1_54,uy1_55,uy1_56,uy1_57,uy1_58,uy1_59,uy1_60,uy1_61,uy1_62,uy1_63,uy1_64,uy1_65,uy1_66,uy1_67,uy1_68] (Nat.lt_succ_self m) (by simp only [patch,sc0,sc1]) ⟨y1_0,(w64 (y1_1+1)),_,_,_,_,_,_,_,_,_,_,_,_,_,_,_,_,_,_,_,_,_,_,_,_,_,_,_,_,_,_,_,rfl,H,HS7⟩
      ·replace H:=of_neg H (nt c4)
       refine wp_skip ?_
       refine norm_then ?_
       refine wp_seq ?_
       refine wp_seq ?_
       obtain ⟨hi2,H⟩:=of_ite H
       obtain ⟨ad2,e2,hel2⟩:=ld_int hrv2_1_0 hi2.1 hi2.2
       obtain ⟨hi3,H⟩:=of_ite H
       obtain ⟨ad3,hq1⟩:=gx1 (fun hC:(true&&(((rd 0 v2.2.1 y1_1) !=y1_0)==false))=true=>ld_int hrv2_1_0 (hi3 hC).1 (hi3 hC).2)
       obtain ⟨v4,H4,H⟩:=of_bind H
       refine drawn [.eq (vL Av2_1_0 v2.2.1.length cv2_1_0), .eq (vI y1_1), .eq (Value.pointer (some (Addr.add ad2 (y1_1.toNat*1)))), .eq (vI (rd 0 v2.2.1 y1_1)), .eq (vI y1_0), .eq (vB ((rd 0 v2.2.1 y1_1) !=y1_0)), .eq (vB ((rd 0 v2.2.1 y1_1) !=y1_0)), .eq (gv (true&&(((rd 0 v2.2.1 y1_1) !=y1_0)==false)) (Value.agg #[vL A0_0 a0.vDefs.length c0_0])), .eq (gv (true&&(((rd 0 v2.2.1 y1_1) !=y1_0)==false)) (vI y1_1)), .eq (gv (true&&(((rd 0 v2.2.1 y1_1) !=y1_0)==false)) (Value.agg #[vL Av2_0_0 v2.1.vDefs.length cv2_0_0])), .eq (gv (true&&(((rd 0 v2.2.1 y1_1) !=y1_0)==false)) (vL Av2_1_0 v2.2.1.length cv2_1_0)), .eq (gv (true&&(((rd 0 v2.2.1 y1_1) !=y1_0)==false)) (vI y1_1)), .eq (gv (true&&(((rd 0 v2.2.1 y1_1) !=y1_0)==false)) (Value.pointer (some (Addr.add ad3 (y1_1.toNat*1))))), .eq (gv (true&&(((rd 0 v2.2.1 y1_1) !=y1_0)==false)) (vI (rd 0 v2.2.1 y1_1))), .eq (gv (true&&(((rd 0 v2.2.1 y1_1) !=y1_0)==false)) (vB v4)), .eq (gv (true&&(((rd 0 v2.2.1 y1_1) !=y1_0)==false)) (vB (!v4))), .eq (vB (((rd 0 v2.2.1 y1_1) !=y1_0)||(!v4)))] [50,51,52,53,54,55,56,57,58,59,60,61,62,63,64,65,66] hmix (by kernel_rfl) rfl (stable_eq (stable_eq (stable_eq (stable_eq (stable_eq (stable_eq (stable_eq (stable_eq (stable_eq (stable_eq (stable_eq (stable_eq (stable_eq (stable_eq (stable_eq (stable_eq (stable_eq stable_nil))))))))))))))))) ⟨ob_plain rfl (fun a' w' hE hk=>by have HSd:=HS7.step hE;exact does_eq (r_move (show _=vL Av2_1_0 v2.2.1.length cv2_1_0 from hk 7 rfl))),ob_plain rfl (fun a' w' hE hk=>by have HSd:=HS7.step hE;exact does_eq (r_move (show _=vI y1_1 from hk 10 rfl))),ob_plain rfl (fun a' w' hE hk=>by have HSd:=HS7.step hE;exact does_eq (r_indexA (sz:=1) (show _=vL Av2_1_0 v2.2.1.length cv2_1_0 from hk 50 rfl) e2 (show _=vI y1_1 from hk 51 rfl) hi2.1 hi2.2 Tryd.runUnderlying62 Tryd.sizeOf3)),ob_plain rfl (fun a' w' hE hk=>by have HSd:=HS7.step hE;exact does_eq (r_load (show _=Value.pointer (some (Addr.add ad2 (y1_1.toNat*1))) from hk 52 rfl) Tryd.isAgg3 (hel2.cell0 HSd.sees rfl))),ob_plain rfl (fun a' w' hE hk=>by have HSd:=HS7.step hE;exact does_eq (r_move (show _=vI y1_0 from hk 9 rfl))),ob_plain rfl (fun a' w' hE hk=>by have HSd:=HS7.step hE;exact does_eq (r_bin (show _=vI (rd 0 v2.2.1 y1_1) from hk 53 rfl) (show _=vI y1_0 from hk 54 rfl) rfl)),ob_plain rfl (fun a' w' hE hk=>by have HSd:=HS7.step hE;exact does_eq (r_move (show _=vB ((rd 0 v2.2.1 y1_1) !=y1_0) from hk 55 rfl))),ob_guard (b:=((rd 0 v2.2.1 y1_1) !=y1_0)) (c:=true) rfl rfl (by decide) (fun w' u hu=>hu) (fun a' w' hE hk hg=>by have HSd:=HS7.step hE;exact does_eq (r_loadBoxAgg (n:=1) (vs:=[vL A0_0 a0.vDefs.length c0_0]) (show _=vP b1 0 from hk 2 rfl) Tryd.isAgg24 (HSd.look 1 rfl) Tryd.sizeOf24 rfl rfl)),ob_guard (b:=((rd 0 v2.2.1 y1_1) !=y1_0)) (c:=true) rfl rfl (by decide) (fun w' u hu=>hu) (fun a' w' hE hk hg=>by have HSd:=HS7.step hE;exact does_eq (r_move (show _=vI y1_1 from hk 10 rfl))),ob_guard (b:=((rd 0 v2.2.1 y1_1) !=y1_0)) (c:=true) rfl rfl (by decide) (fun w' u hu=>hu) (fun a' w' hE hk hg=>by have HSd:=HS7.step hE;exact does_eq (r_loadBoxAgg (n:=1) (vs:=[vL Av2_0_0 v2.1.vDefs.length cv2_0_0]) (show _=vP b2 0 from hk 6 rfl) Tryd.isAgg24 (HSd.look 0 rfl) Tryd.sizeOf24 rfl rfl)),ob_guard (b:=((rd 0 v2.2.1 y1_1) !=y1_0)) (c:=true) rfl rfl (by decide) (fun w' u hu=>hu) (fun a' w' hE hk hg=>by have HSd:=HS7.step hE;exact does_eq (r_move (show _=vL Av2_1_0 v2.2.1.length cv2_1_0 from hk 7 rfl))),ob_guard (b:=((rd 0 v2.2.1 y1_1) !=y1_0)) (c:=true) rfl rfl (by decide) (fun w' u hu=>hu) (fun a' w' hE hk hg=>by have HSd:=HS7.step hE;exact does_eq (r_move (show _=vI y1_1 from hk 10 rfl))),ob_guard (b:=((rd 0 v2.2.1 y1_1) !=y1_0)) (c:=true) rfl rfl (by decide) (fun w' u hu=>hu) (fun a' w' hE hk hg=>by have HSd:=HS7.step hE;exact does_eq (r_indexA (sz:=1) ((show _=gv (true&&(((rd 0 v2.2.1 y1_1) !=y1_0)==false)) (vL Av2_1_0 v2.2.1.length cv2_1_0) from (show _=gv (true&&(((rd 0 v2.2.1 y1_1) !=y1_0)==false)) (vL Av2_1_0 v2.2.1.length cv2_1_0) from hk 60 rfl)).trans (gv_t hg)) (hq1 hg).1 ((show _=gv (true&&(((rd 0 v2.2.1 y1_1) !=y1_0)==false)) (vI y1_1) from (show _=gv (true&&(((rd 0 v2.2.1 y1_1) !=y1_0)==false)) (vI y1_1) from hk 61 rfl)).trans (gv_t hg)) (hi3 hg).1 (hi3 hg).2 Tryd.runUnderlying62 Tryd.sizeOf3)),ob_guard (b:=((rd 0 v2.2.1 y1_1) !=y1_0)) (c:=true) rfl rfl (by decide) (fun w' u hu=>hu) (fun a' w' hE hk hg=>by have HSd:=HS7.step hE;exact does_eq (r_load ((show _=gv (true&&(((rd 0 v2.2.1 y1_1) !=y1_0)==false)) (Value.pointer (some (Addr.add ad3 (y1_1.toNat*1)))) from (show _=gv (true&&(((rd 0 v2.2.1 y1_1) !=y1_0)==false)) (Value.pointer (some (Addr.add ad3 (y1_1.toNat*1)))) from hk 62 rfl)).trans (gv_t hg)) Tryd.isAgg3 (((hq1 hg).2).cell0 HSd.sees rfl))),ob_guard (b:=((rd 0 v2.2.1 y1_1) !=y1_0)) (c:=true) rfl rfl (by decide) (fun w' u hu=>hu) (fun a' w' hE hk hg=>by have HSd:=HS7.step hE;exact (does_call_eq Tryd.call29 rfl (map4 ((show _=gv (true&&(((rd 0 v2.2.1 y1_1) !=y1_0)==false)) (Value.agg #[vL A0_0 a0.vDefs.length c0_0]) from (show _=gv (true&&(((rd 0 v2.2.1 y1_1) !=y1_0)==false)) (Value.agg #[vL A0_0 a0.vDefs.length c0_0]) from hk 57 rfl)).trans (gv_t hg)) ((show _=gv (true&&(((rd 0 v2.2.1 y1_1) !=y1_0)==false)) (vI y1_1) from (show _=gv (true&&(((rd 0 v2.2.1 y1_1) !=y1_0)==false)) (vI y1_1) from hk 58 rfl)).trans (gv_t hg)) ((show _=gv (true&&(((rd 0 v2.2.1 y1_1) !=y1_0)==false)) (Value.agg #[vL Av2_0_0 v2.1.vDefs.length cv2_0_0]) from (show _=gv (true&&(((rd 0 v2.2.1 y1_1) !=y1_0)==false)) (Value.agg #[vL Av2_0_0 v2.1.vDefs.length cv2_0_0]) from hk 59 rfl)).trans (gv_t hg)) ((show _=gv (true&&(((rd 0 v2.2.1 y1_1) !=y1_0)==false)) (vI (rd 0 v2.2.1 y1_1)) from (show _=gv (true&&(((rd 0 v2.2.1 y1_1) !=y1_0)==false)) (vI (rd 0 v2.2.1 y1_1)) from hk 63 rfl)).trans (gv_t hg))) (ctf_Equal.calls k a0 y1_1 v2.1 (rd 0 v2.2.1 y1_1) A0_0 c0_0 Av2_0_0 cv2_0_0 HSd.sees (ht.s HSd) (hr0_0.ext HS7.sub) hc0_0 hrv2_0_0 hcv2_0_0 (of_pos H4 hg)))),ob_guard (b:=((rd 0 v2.2.1 y1_1) !=y1_0)) (c:=true) rfl rfl (by decide) (fun w' u hu=>hu) (fun a' w' hE hk hg=>by have HSd:=HS7.step hE;exact does_eq (r_not ((show _=gv (true&&(((rd 0 v2.2.1 y1_1) !=y1_0)==false)) (vB v4) from (show _=gv (true&&(((rd 0 v2.2.1 y1_1) !=y1_0)==false)) (vB v4) from hk 64 rfl)).trans (gv_t hg)))),ob_plain rfl (fun a' w' hE hk=>by have HSd:=HS7.step hE;exact does_eq (r_pick_or (show _=vB ((rd 0 v2.2.1 y1_1) !=y1_0) from hk 56 rfl) rfl (fun hp=>((show _=gv (true&&(((rd 0 v2.2.1 y1_1) !=y1_0)==false)) (vB (!v4)) from (show _=gv (true&&(((rd 0 v2.2.1 y1_1) !=y1_0)==false)) (vB (!v4)) from hk 65 rfl)).trans (gv_t (and_i rfl hp)))))),trivial⟩ ?_
       intro w8 hE6
       simp only [List.zip_cons_cons,List.zip_nil_left,List.zip_nil_right,finL,sc0,sc1,List.length_cons,List.length_nil,List.drop_succ_cons,List.drop_zero,Nat.zero_add,Nat.reduceAdd]
       have HS8:=HS7.step hE6
       refine run_nil ?_
       refine norm_then ?_
       refine wp_cond_split (t:=(((rd 0 v2.2.1 y1_1) !=y1_0)||(!v4))) rfl (fun c5=>?_) (fun c5=>?_)
       ·replace H:=of_pos H c5
        refine wp_seq ?_
        refine region ?_
        refine rs (vB false) (r_assign rfl) ?_
        try simp only [sc0,sc1]
        refine run_nil ?_
        refine norm_then ?_
        refine wp_ret ?_
        refine ret_then ?_
        refine ret_block ?_
        refine ret_then ?_
        refine ret_loop ?_
        refine ret_then ?_
        obtain rfl:=Option.some.inj H
        obtain rfl:=Option.some.inj G1
        refine bodyPost_ret (results_1 rfl (one_tmp rfl)) rfl ?_
        exact ⟨rfl,HS8.toE⟩
       ·replace H:=of_neg H (nt c5)
        refine wp_skip ?_
        refine norm_then ?_
        refine region ?_
        refine rs (vI y1_0) (r_move rfl) ?_
        refine rs (vI (w64 (y1_0+1))) (r_bin rfl rfl rfl) ?_
        refine rs (vI (w64 (y1_0+1))) (r_assign rfl) ?_
        try simp only [sc0,sc1]
        refine run_nil ?_
        refine norm_block ?_
        refine norm_then ?_
        refine region ?_
        refine rs (vI y1_1) (r_move rfl) ?_
        refine rs (vI (w64 (y1_1+1))) (r_bin rfl rfl rfl) ?_
        refine rs (vI (w64 (y1_1+1))) (r_assign rfl) ?_
        try simp only [sc0,sc1]
        refine run_nil ?_
        refine again m [uy1_4,vI (w64 (y1_0+1)),vI (w64 (y1_1+1)),vI y1_1,vL Av2_1_0 v2.2.1.length cv2_1_0,vI (v2.2.1.length:Int),vB (decide (y1_1<(v2.2.1.length:Int))),vI y1_1,vI (w64 (y1_1+1)),vL Av2_1_0 v2.2.1.length cv2_1_0,vI y1_1,Value.pointer (some (Addr.add ad1 (y1_1.toNat*1))),vI (rd 0 v2.2.1 y1_1),vB (decide ((rd 0 v2.2.1 y1_1)<0)),vL Av2_1_0 v2.2.1.length cv2_1_0,vI y1_1,Value.pointer (some (Addr.add ad2 (y1_1.toNat*1))),vI (rd 0 v2.2.1 y1_1),vI y1_0,vB ((rd 0 v2.2.1 y1_1) !=y1_0),vB ((rd 0 v2.2.1 y1_1) !=y1_0),gv (true&&(((rd 0 v2.2.1 y1_1) !=y1_0)==false)) (Value.agg #[vL A0_0 a0.vDefs.length c0_0]),gv (true&&(((rd 0 v2.2.1 y1_1) !=y1_0)==false)) (vI y1_1),gv (true&&(((rd 0 v2.2.1 y1_1) !=y1_0)==false)) (Value.agg #[vL Av2_0_0 v2.1.vDefs.length cv2_0_0]),gv (true&&(((rd 0 v2.2.1 y1_1) !=y1_0)==false)) (vL Av2_1_0 v2.2.1.length cv2_1_0),gv (true&&(((rd 0 v2.2.1 y1_1) !=y1_0)==false)) (vI y1_1),gv (true&&(((rd 0 v2.2.1 y1_1) !=y1_0)==false)) (Value.pointer (some (Addr.add ad3 (y1_1.toNat*1)))),gv (true&&(((rd 0 v2.2.1 y1_1) !=y1_0)==false)) (vI (rd 0 v2.2.1 y1_1)),gv (true&&(((rd 0 v2.2.1 y1_1) !=y1_0)==false)) (vB v4),gv (true&&(((rd 0 v2.2.1 y1_1) !=y1_0)==false)) (vB (!v4)),vB (((rd 0 v2.2.1 y1_1) !=y1_0)||(!v4)),vI y1_0,vI (w64 (y1_0+1))] (Nat.lt_succ_self m) (by simp only [patch,sc0,sc1]) ⟨(w64 (y1_0+1)),(w64 (y1_1+1)),_,_,_,_,_,_,_,_,_,_,_,_,_,_,_,_,_,_,_,_,_,_,_,_,_,_,_,_,_,_,_,rfl,H,HS8⟩
     ·replace H:=of_neg H (nt c3)
      refine wp_exit ?_
      refine exit_then ?_
      obtain rfl:=Option.some.inj H
      refine leave [uy1_4,vI y1_0,vI y1_1,vI y1_1,vL Av2_1_0 v2.2.1.length cv2_1_0,vI (v2.2.1.length:Int),vB (decide (y1_1<(v2.2.1.length:Int))),uy1_43,uy1_44,uy1_45,uy1_46,uy1_47,uy1_48,uy1_49,uy1_50,uy1_51,uy1_52,uy1_53,uy1_54,uy1_55,uy1_56,uy1_57,uy1_58,uy1_59,uy1_60,uy1_61,uy1_62,uy1_63,uy1_64,uy1_65,uy1_66,uy1_67,uy1_68] (by simp only [patch,sc0,sc1]) ⟨_,rfl,_,_,_,_,_,_,_,_,_,_,_,_,_,_,_,_,_,_,_,_,_,_,_,_,_,_,_,_,_,_,_,_,rfl,HS7⟩
   ·rintro us w9 ⟨s1,rfl,uo1_4,uo1_10,uo1_39,uo1_40,uo1_41,uo1_42,uo1_43,uo1_44,uo1_45,uo1_46,uo1_47,uo1_48,uo1_49,uo1_50,uo1_51,uo1_52,uo1_53,uo1_54,uo1_55,uo1_56,uo1_57,uo1_58,uo1_59,uo1_60,uo1_61,uo1_62,uo1_63,uo1_64,uo1_65,uo1_66,uo1_67,uo1_68,rfl,HS9⟩
    replace H:=G1
    clear G1
    try simp only [patch,sc0,sc1]
    refine norm_then ?_
    refine wp_seq ?_
    refine region ?_
    refine rs (Value.agg #[vL Av2_0_0 v2.1.vDefs.length cv2_0_0]) (r_loadBoxAgg (n:=1) (vs:=[vL Av2_0_0 v2.1.vDefs.length cv2_0_0]) rfl Tryd.isAgg24 (HS9.look 0 rfl) Tryd.sizeOf24 rfl rfl) ?_
    refine rs (vL A1_0 a1.length c1_0) (r_move rfl) ?_
    obtain ⟨v5,H5,H⟩:=of_bind H
    refine run_ex rfl rfl (does_call Tryd.call41 rfl (gives_in (h:=h1) (R:=(fun hx u=>∃(Av5_0_0:Option Addr) (cv5_0_0:Nat),∃(Av5_1_0:Option Addr) (cv5_1_0:Nat),u=Value.tuple #[Value.agg #[vL Av5_0_0 v5.1.vDefs.length cv5_0_0],vL Av5_1_0 v5.2.1.length cv5_1_0,vI v5.2.2]∧v5.1.vDefs.length≤cv5_0_0∧Rd k_api_Def hx Av5_0_0 v5.1.vDefs∧v5.2.1.length≤cv5_1_0∧Rd (Kd.int .i64) hx Av5_1_0 v5.2.1)) (Ext.rfl' w9) ((ctf_Trim.calls k v2.1 a1 Av2_0_0 cv2_0_0 A1_0 c1_0 HS9.sees hrv2_0_0 hcv2_0_0 (hr1_0.ext HS9.sub) hc1_0 H5).mono ?_)) rfl) ?_
    ·rintro _ _ ⟨h1,Av5_0_0,cv5_0_0,Av5_1_0,cv5_1_0,rfl,hcv5_0_0,hrv5_0_0,hcv5_1_0,hrv5_1_0,g,ss,x⟩
     exact ⟨h1,_,rfl,⟨Av5_0_0,cv5_0_0,Av5_1_0,cv5_1_0,rfl,hcv5_0_0,hrv5_0_0,hcv5_1_0,hrv5_1_0⟩,g,ss,x⟩
    rintro w10 _ hE7 ⟨h2,⟨Av5_0_0,cv5_0_0,Av5_1_0,cv5_1_0,rfl,hcv5_0_0,hrv5_0_0,hcv5_1_0,hrv5_1_0⟩,gr2,se2⟩
    have HS10:=HS9.view hE7 gr2 se2
    replace hrv2_0_0:Rd k_api_Def h2 Av2_0_0 v2.1.vDefs:=hrv2_0_0.ext gr2.1
    replace hrv2_1_0:Rd (Kd.int .i64) h2 Av2_1_0 v2.2.1:=hrv2_1_0.ext gr2.1
    refine rs (Value.tuple #[Value.agg #[vL Av5_0_0 v5.1.vDefs.length cv5_0_0],vL Av5_1_0 v5.2.1.length cv5_1_0,vI v5.2.2]) (r_move rfl) ?_
    refine run_frame (by simp only [sc0,sc1];rfl) ?_
    refine rs (Value.agg #[vL Av5_0_0 v5.1.vDefs.length cv5_0_0]) (r_extract rfl rfl) ?_
    refine rs (vL Av5_1_0 v5.2.1.length cv5_1_0) (r_extract rfl rfl) ?_
    refine rs (vI v5.2.2) (r_extract rfl rfl) ?_
    refine run_ex rfl rfl (does_alloc (cs:=#[vL none 0 0]) Tryd.zeroValue24 rfl) ?_
    rintro w11 _ hE8 ⟨b3,rfl,ge3,hb3⟩
    have HS11:=HS10.new hE8 ge3 hb3
    refine run_frame (by simp only [sc0,sc1];rfl) ?_
    refine run_st (i:=0) (cs:=[vL none 0 0]) (cs':=[vL Av5_0_0 v5.1.vDefs.length cv5_0_0]) (vs:=[vL Av5_0_0 v5.1.vDefs.length cv5_0_0]) (bs':=[(some b3, .cells #[vL Av5_0_0 v5.1.vDefs.length cv5_0_0] 24 (0,0)),(some b2, .cells #[vL Av2_0_0 v2.1.vDefs.length cv2_0_0] 24 (0,0)),(some b1, .cells #[vL A0_0 a0.vDefs.length c0_0] 24 (0,0))]) rfl rfl Tryd.sizeOf24 rfl rfl (by decide) rfl HS11 rfl (Nat.le_of_ble_eq_true rfl) rfl rfl ?_
    intro w12 HS12
    refine rs (vL Av5_1_0 v5.2.1.length cv5_1_0) (r_assign rfl) ?_
    refine rs (vI v5.2.2) (r_assign rfl) ?_
    try simp only [sc0,sc1]
    refine run_nil ?_
    refine norm_then ?_
    refine wp_seq ?_
    refine wp_seq ?_
    refine region ?_
    refine rs (vI s1) (r_move rfl) ?_
    refine rs (vP b2 0) (r_fieldBox (n:=1) (o':=0) rfl Tryd.runUnderlying24 rfl Tryd.sizeOf22 (by decide) rfl) ?_
    refine rs (vL Av2_0_0 v2.1.vDefs.length cv2_0_0) (r_loadBox rfl Tryd.isAgg22 (HS12.look 1 rfl) rfl) ?_
    refine rs (vI (v2.1.vDefs.length:Int)) (r_len rfl Tryd.runUnderlying22) ?_
    refine run_frame (by simp only [sc0,sc1];rfl) ?_
    refine rs (vB (s1 !=(v2.1.vDefs.length:Int))) (r_bin rfl rfl rfl) ?_
    refine rs (vB (s1 !=(v2.1.vDefs.length:Int))) (r_move rfl) ?_
    refine rgs (s1 !=(v2.1.vDefs.length:Int)) true (vI v5.2.2) rfl rfl rfl rfl (fun hg=>(r_move rfl)) ?_
    refine rgs (s1 !=(v2.1.vDefs.length:Int)) true (vB (v5.2.2 !=0)) rfl rfl rfl rfl (fun hg=>(r_bin (gvt (vI v5.2.2) hg rfl) rfl rfl)) ?_
    refine run_frame (by simp only [sc0,sc1];rfl) ?_
    refine rs (vB ((s1 !=(v2.1.vDefs.length:Int))||(v5.2.2 !=0))) (r_pick_or rfl rfl (fun hp=>(gvt (vB (v5.2.2 !=0)) (and_i rfl hp) rfl))) ?_
    refine rs (vB ((s1 !=(v2.1.vDefs.length:Int))||(v5.2.2 !=0))) (r_move rfl) ?_
    refine rgs ((s1 !=(v2.1.vDefs.length:Int))||(v5.2.2 !=0)) true (Value.agg #[vL Av2_0_0 v2.1.vDefs.length cv2_0_0]) rfl rfl rfl rfl (fun hg=>(r_loadBoxAgg (n:=1) (vs:=[vL Av2_0_0 v2.1.vDefs.length cv2_0_0]) rfl Tryd.isAgg24 (HS12.look 1 rfl) Tryd.sizeOf24 rfl rfl)) ?_
    refine rgs ((s1 !=(v2.1.vDefs.length:Int))||(v5.2.2 !=0)) true (Value.agg #[vL Av5_0_0 v5.1.vDefs.length cv5_0_0]) rfl rfl rfl rfl (fun hg=>(r_loadBoxAgg (n:=1) (vs:=[vL Av5_0_0 v5.1.vDefs.length cv5_0_0]) rfl Tryd.isAgg24 (HS12.look 0 rfl) Tryd.sizeOf24 rfl rfl)) ?_
    refine run_frame (by simp only [sc0,sc1];rfl) ?_
    obtain ⟨v6,H6,H⟩:=of_bind H
    refine run_g (b:=((s1 !=(v2.1.vDefs.length:Int))||(v5.2.2 !=0))) (c:=true) (v:=vB v6) rfl rfl rfl rfl (fun hg=>(does_call_eq Tryd.call30 rfl (map2 (gvt (Value.agg #[vL Av2_0_0 v2.1.vDefs.length cv2_0_0]) hg rfl) (gvt (Value.agg #[vL Av5_0_0 v5.1.vDefs.length cv5_0_0]) hg rfl)) (taplineref08_Same.calls k v2.1 v5.1 Av2_0_0 cv2_0_0 Av5_0_0 cv5_0_0 HS12.sees hrv2_0_0 hcv2_0_0 hrv5_0_0 hcv5_0_0 (of_pos H6 hg)))) ?_
    intro w13 hE9
    have HS13:=HS12.step hE9
    refine rgs ((s1 !=(v2.1.vDefs.length:Int))||(v5.2.2 !=0)) true (vB (!v6)) rfl rfl rfl rfl (fun hg=>(r_not (gvt (vB v6) hg rfl))) ?_
    refine rs (vB (((s1 !=(v2.1.vDefs.length:Int))||(v5.2.2 !=0))||(!v6))) (r_pick_or rfl rfl (fun hp=>(gvt (vB (!v6)) (and_i rfl hp) rfl))) ?_
    refine rs (vB (((s1 !=(v2.1.vDefs.length:Int))||(v5.2.2 !=0))||(!v6))) (r_move rfl) ?_
    refine run_frame (by simp only [sc0,sc1];rfl) ?_
    refine rgs (((s1 !=(v2.1.vDefs.length:Int))||(v5.2.2 !=0))||(!v6)) true (vL Av5_1_0 v5.2.1.length cv5_1_0) rfl rfl rfl rfl (fun hg=>(r_move rfl)) ?_
    obtain ⟨v7,H7,H⟩:=of_bind H
    refine run_g (b:=(((s1 !=(v2.1.vDefs.length:Int))||(v5.2.2 !=0))||(!v6))) (c:=true) (v:=vB v7) rfl rfl rfl rfl (fun hg=>(does_call_eq Tryd.call31 rfl (map1 (gvt (vL Av5_1_0 v5.2.1.length cv5_1_0) hg rfl)) (taplinelaw08_rising.calls k v5.2.1 Av5_1_0 cv5_1_0 HS13.sees hrv5_1_0 hcv5_1_0 (of_pos H7 hg)))) ?_
    intro w14 hE10
    have HS14:=HS13.step hE10
    refine rgs (((s1 !=(v2.1.vDefs.length:Int))||(v5.2.2 !=0))||(!v6)) true (vB (!v7)) rfl rfl rfl rfl (fun hg=>(r_not (gvt (vB v7) hg rfl))) ?_
    refine rs (vB ((((s1 !=(v2.1.vDefs.length:Int))||(v5.2.2 !=0))||(!v6))||(!v7))) (r_pick_or rfl rfl (fun hp=>(gvt (vB (!v7)) (and_i rfl hp) rfl))) ?_
    try simp only [sc0,sc1]
    refine run_nil ?_
    refine norm_then ?_
    refine wp_cond_split (t:=((((s1 !=(v2.1.vDefs.length:Int))||(v5.2.2 !=0))||(!v6))||(!v7))) rfl (fun c6=>?_) (fun c6=>?_)
    ·replace H:=of_pos H c6
     refine wp_seq ?_
     refine region ?_
     refine rs (vB false) (r_assign rfl) ?_
     try simp only [sc0,sc1]
     refine run_nil ?_
     refine norm_then ?_
     refine wp_ret ?_
     refine ret_then ?_
     obtain rfl:=Option.some.inj H
     refine bodyPost_ret (results_1 rfl (one_tmp rfl)) rfl ?_
     exact ⟨rfl,HS14.toE⟩
    ·replace H:=of_neg H (nt c6)
     refine wp_skip ?_
     refine norm_then ?_
     refine wp_seq ?_
     refine wp_seq ?_
     refine region ?_
     refine rs (vI 0) (r_assign rfl) ?_
     try simp only [sc0,sc1]
     refine run_nil ?_
     refine norm_then ?_
     obtain ⟨xx2,H,G2⟩:=of_bind H
     refine loop_patch [4,14,15,16,96,97,98,99,100,101,102,103,104,105,106,107,108,109,110,111,112] (fun m us w'=>∃y2_0:Int,∃uy2_4 uy2_15 uy2_16 uy2_96 uy2_97 uy2_98 uy2_99 uy2_100 uy2_101 uy2_102 uy2_103 uy2_104 uy2_105 uy2_106 uy2_107 uy2_108 uy2_109 uy2_110 uy2_111 uy2_112:Value,us=[uy2_4,vI y2_0,uy2_15,uy2_16,uy2_96,uy2_97,uy2_98,uy2_99,uy2_100,uy2_101,uy2_102,uy2_103,uy2_104,uy2_105,uy2_106,uy2_107,uy2_108,uy2_109,uy2_110,uy2_111,uy2_112]∧taplinelaw08_CtfTrims.l1 k a1 v2 m y2_0=some xx2∧St [] h0 w0 h2 [(some b3, .cells #[vL Av5_0_0 v5.1.vDefs.length cv5_0_0] 24 (0,0)),(some b2, .cells #[vL Av2_0_0 v2.1.vDefs.length cv2_0_0] 24 (0,0)),(some b1, .cells #[vL A0_0 a0.vDefs.length c0_0] 24 (0,0))] w') (fun us w'=>∃(s2:Unit),xx2= .inr s2∧∃uo2_4 uo2_14 uo2_15 uo2_16 uo2_96 uo2_97 uo2_98 uo2_99 uo2_100 uo2_101 uo2_102 uo2_103 uo2_104 uo2_105 uo2_106 uo2_107 uo2_108 uo2_109 uo2_110 uo2_111 uo2_112:Value,us=[uo2_4,uo2_14,uo2_15,uo2_16,uo2_96,uo2_97,uo2_98,uo2_99,uo2_100,uo2_101,uo2_102,uo2_103,uo2_104,uo2_105,uo2_106,uo2_107,uo2_108,uo2_109,uo2_110,uo2_111,uo2_112]∧St [] h0 w0 h2 [(some b3, .cells #[vL Av5_0_0 v5.1.vDefs.length cv5_0_0] 24 (0,0)),(some b2, .cells #[vL Av2_0_0 v2.1.vDefs.length cv2_0_0] 24 (0,0)),(some b1, .cells #[vL A0_0 a0.vDefs.length c0_0] 24 (0,0))] w') k [uo1_4,vI 0,undef,undef,undef,undef,undef,undef,undef,undef,undef,undef,undef,undef,undef,undef,undef,undef,undef,undef,undef] (by simp only [patch,sc0,sc1]) ⟨0,_,_,_,_,_,_,_,_,_,_,_,_,_,_,_,_,_,_,_,_,rfl,H,HS14⟩ ?_ ?_
     ·rintro m us w15 ⟨y2_0,uy2_4,uy2_15,uy2_16,uy2_96,uy2_97,uy2_98,uy2_99,uy2_100,uy2_101,uy2_102,uy2_103,uy2_104,uy2_105,uy2_106,uy2_107,uy2_108,uy2_109,uy2_110,uy2_111,uy2_112,rfl,H,HS15⟩
      cases m with
      |zero=>exact absurd H (by simp [taplinelaw08_CtfTrims.l1])
      |succ m=>
       rw [taplinelaw08_CtfTrims.l1] at H
       try simp only [patch,sc0,sc1]
       refine wp_seq ?_
       refine wp_seq ?_
       refine region ?_
       refine rs (vI y2_0) (r_move rfl) ?_
       refine rs (vL A1_0 a1.length c1_0) (r_move rfl) ?_
       refine rs (vI (a1.length:Int)) (r_len rfl Tryd.runUnderlying25) ?_
       refine rs (vB (decide (y2_0<(a1.length:Int)))) (r_bin rfl rfl rfl) ?_
       try simp only [sc0,sc1]
       refine run_nil ?_
       refine norm_then ?_
       refine wp_cond_split (t:=(decide (y2_0<(a1.length:Int)))) rfl (fun c7=>?_) (fun c7=>?_)
       ·replace H:=of_pos H c7
        refine wp_skip ?_
        refine norm_then ?_
        refine wp_seq ?_
        refine wp_block ?_
        refine wp_seq ?_
        obtain ⟨hi4,H⟩:=of_ite H
        obtain ⟨ad4,e4,hel4⟩:=ld_str (hr1_0.ext HS15.sub) hi4.1 hi4.2
        obtain ⟨v8,H8,H⟩:=of_bind H
        refine drawn [.eq (Value.agg #[vL Av2_0_0 v2.1.vDefs.length cv2_0_0]), .eq (vL A1_0 a1.length c1_0), .eq (vI y2_0), .eq (Value.pointer (some (Addr.add ad4 (y2_0.toNat*1)))), .eq (vS (rd ByteArray.empty a1 y2_0)), .eq (Value.tuple #[vI v8.1,vI v8.2]), .eq (Value.tuple #[vI v8.1,vI v8.2]), .eq (vI v8.1), .eq (vI v8.2), .eq (vI v8.1)] [103,104,105,106,107,108,102,109,110,15] hmix (by kernel_rfl) rfl (stable_eq (stable_eq (stable_eq (stable_eq (stable_eq (stable_eq (stable_eq (stable_eq (stable_eq (stable_eq stable_nil)))))))))) ⟨ob_plain rfl (fun a' w' hE hk=>by have HSd:=HS15.step hE;exact does_eq (r_loadBoxAgg (n:=1) (vs:=[vL Av2_0_0 v2.1.vDefs.length cv2_0_0]) (show _=vP b2 0 from hk 6 rfl) Tryd.isAgg24 (HSd.look 1 rfl) Tryd.sizeOf24 rfl rfl)),ob_plain rfl (fun a' w' hE hk=>by have HSd:=HS15.step hE;exact does_eq (r_move (show _=vL A1_0 a1.length c1_0 from hk 1 rfl))),ob_plain rfl (fun a' w' hE hk=>by have HSd:=HS15.step hE;exact does_eq (r_move (show _=vI y2_0 from hk 14 rfl))),ob_plain rfl (fun a' w' hE hk=>by have HSd:=HS15.step hE;exact does_eq (r_indexA (sz:=1) (show _=vL A1_0 a1.length c1_0 from hk 104 rfl) e4 (show _=vI y2_0 from hk 105 rfl) hi4.1 hi4.2 Tryd.runUnderlying25 Tryd.sizeOf9)),ob_plain rfl (fun a' w' hE hk=>by have HSd:=HS15.step hE;exact does_eq (r_load (show _=Value.pointer (some (Addr.add ad4 (y2_0.toNat*1))) from hk 106 rfl) Tryd.isAgg9 (hel4.cell0 HSd.sees rfl))),ob_plain rfl (fun a' w' hE hk=>by have HSd:=HS15.step hE;exact (does_call_eq Tryd.call21 rfl (map2 (show _=Value.agg #[vL Av2_0_0 v2.1.vDefs.length cv2_0_0] from hk 103 rfl) (show _=vS (rd ByteArray.empty a1 y2_0) from hk 107 rfl)) (ctf_Lookup.calls k v2.1 (rd ByteArray.empty a1 y2_0) Av2_0_0 cv2_0_0 HSd.sees hrv2_0_0 hcv2_0_0 H8))),ob_plain rfl (fun a' w' hE hk=>by have HSd:=HS15.step hE;exact does_eq (r_move (show _=Value.tuple #[vI v8.1,vI v8.2] from hk 108 rfl))),ob_plain rfl (fun a' w' hE hk=>by have HSd:=HS15.step hE;exact does_eq (r_extract (show _=Value.tuple #[vI v8.1,vI v8.2] from hk 102 rfl) rfl)),ob_plain rfl (fun a' w' hE hk=>by have HSd:=HS15.step hE;exact does_eq (r_extract (show _=Value.tuple #[vI v8.1,vI v8.2] from hk 102 rfl) rfl)),ob_plain rfl (fun a' w' hE hk=>by have HSd:=HS15.step hE;exact does_eq (r_assign (show _=vI v8.1 from hk 109 rfl))),trivial⟩ ?_
        intro w16 hE11
        simp only [List.zip_cons_cons,List.zip_nil_left,List.zip_nil_right,finL,sc0,sc1,List.length_cons,List.length_nil,List.drop_succ_cons,List.drop_zero,Nat.zero_add,Nat.reduceAdd]
        have HS16:=HS15.step hE11
        refine rs (vI v8.2) (r_assign rfl) ?_
        try simp only [sc0,sc1]
        refine run_nil ?_
        refine norm_then ?_
        refine wp_seq ?_
        refine region ?_
        refine rs (vI v8.2) (r_move rfl) ?_
        refine rs (vB (v8.2 !=0)) (r_bin rfl rfl rfl) ?_
        try simp only [sc0,sc1]
        refine run_nil ?_
        refine norm_then ?_
        refine wp_cond_split (t:=(v8.2 !=0)) rfl (fun c8=>?_) (fun c8=>?_)
        ·replace H:=of_pos H c8
         refine wp_seq ?_
         refine region ?_
         refine rs (vB false) (r_assign rfl) ?_
         try simp only [sc0,sc1]
         refine run_nil ?_
         refine norm_then ?_
         refine wp_ret ?_
         refine ret_block ?_
         refine ret_then ?_
         refine ret_loop ?_
         refine ret_then ?_
         obtain rfl:=Option.some.inj H
         obtain rfl:=Option.some.inj G2
         refine bodyPost_ret (results_1 rfl (one_tmp rfl)) rfl ?_
         exact ⟨rfl,HS16.toE⟩
        ·replace H:=of_neg H (nt c8)
         refine wp_skip ?_
         refine norm_block ?_
         refine norm_then ?_
         refine region ?_
         refine rs (vI y2_0) (r_move rfl) ?_
         refine rs (vI (w64 (y2_0+1))) (r_bin rfl rfl rfl) ?_
         refine rs (vI (w64 (y2_0+1))) (r_assign rfl) ?_
         try simp only [sc0,sc1]
         refine run_nil ?_
         refine again m [uy2_4,vI (w64 (y2_0+1)),vI v8.1,vI v8.2,vI y2_0,vL A1_0 a1.length c1_0,vI (a1.length:Int),vB (decide (y2_0<(a1.length:Int))),vI y2_0,vI (w64 (y2_0+1)),Value.tuple #[vI v8.1,vI v8.2],Value.agg #[vL Av2_0_0 v2.1.vDefs.length cv2_0_0],vL A1_0 a1.length c1_0,vI y2_0,Value.pointer (some (Addr.add ad4 (y2_0.toNat*1))),vS (rd ByteArray.empty a1 y2_0),Value.tuple #[vI v8.1,vI v8.2],vI v8.1,vI v8.2,vI v8.2,vB (v8.2 !=0)] (Nat.lt_succ_self m) (by simp only [patch,sc0,sc1]) ⟨(w64 (y2_0+1)),_,_,_,_,_,_,_,_,_,_,_,_,_,_,_,_,_,_,_,_,rfl,H,HS16⟩
       ·replace H:=of_neg H (nt c7)
        refine wp_exit ?_
        refine exit_then ?_
        obtain rfl:=Option.some.inj H
        refine leave [uy2_4,vI y2_0,uy2_15,uy2_16,vI y2_0,vL A1_0 a1.length c1_0,vI (a1.length:Int),vB (decide (y2_0<(a1.length:Int))),uy2_100,uy2_101,uy2_102,uy2_103,uy2_104,uy2_105,uy2_106,uy2_107,uy2_108,uy2_109,uy2_110,uy2_111,uy2_112] (by simp only [patch,sc0,sc1]) ⟨_,rfl,_,_,_,_,_,_,_,_,_,_,_,_,_,_,_,_,_,_,_,_,_,rfl,HS15⟩
     ·rintro us w17 ⟨s2,rfl,uo2_4,uo2_14,uo2_15,uo2_16,uo2_96,uo2_97,uo2_98,uo2_99,uo2_100,uo2_101,uo2_102,uo2_103,uo2_104,uo2_105,uo2_106,uo2_107,uo2_108,uo2_109,uo2_110,uo2_111,uo2_112,rfl,HS17⟩
      replace H:=G2
      clear G2
      try simp only [patch,sc0,sc1]
      refine norm_then ?_
      refine wp_seq ?_
      refine region ?_
      refine rs (vB v1) (r_move rfl) ?_
      refine rs (vB v1) (r_assign rfl) ?_
      try simp only [sc0,sc1]
      refine run_nil ?_
      refine norm_then ?_
      refine wp_ret ?_
      obtain rfl:=Option.some.inj H
      refine bodyPost_ret (results_1 rfl (one_tmp rfl)) rfl ?_
      exact ⟨rfl,HS17.toE⟩

end Go.Proofs.YtfjppgobidjndaaDoor
namespace Go.Proofs.YtfjppgobidjndaaDoor
open Go.RowKit Go.M
def cntP (P:Nat→Bool) (i:Nat):Nat:=((List.range i).filter P).length
def keepL (P:Nat→Bool) (n:Nat):List Nat:=(List.range n).filter P
def toL (P:Nat→Bool) (n:Nat):List Int:=(List.range n).map fun i=>if P i=true then ((cntP P i:Nat):Int) else-1
section
variable {P:Nat→Bool}
theorem cnt_succ (i:Nat):cntP P (i+1)=cntP P i+if P i=true then 1 else 0:=by
  unfold cntP
  rw [List.range_succ,List.filter_append,List.length_append]
  cases h:P i<;>simp [h]
theorem keep_succ (n:Nat):keepL P (n+1)=keepL P n++if P n=true then [n] else []:=by
  unfold keepL
  rw [List.range_succ,List.filter_append]
  cases h:P n<;>simp [h]
theorem keep_len (n:Nat):(keepL P n).length=cntP P n:=rfl
theorem cntP_le (n:Nat):cntP P n≤n:=by
  induction n with
  |zero=>simp [cntP]
  |succ n ih=>rw [cnt_succ];split<;>omega
theorem keep_at {i:Nat} (hp:P i=true):∀(n:Nat),i<n→cntP P i<(keepL P n).length∧(keepL P n).getD (cntP P i) 0=i:=by
  intro n
  induction n with
  |zero=>intro h;omega
  |succ n ih=>
    intro h
    rw [keep_succ]
    by_cases e:i=n
    · subst e
      rw [if_pos hp]
      refine ⟨by rw [List.length_append,keep_len];simp,?_⟩
      rw [List.getD_eq_getElem?_getD,List.getElem?_append_right (by rw [keep_len];exact Nat.le_refl _),keep_len,Nat.sub_self];rfl
    · obtain ⟨h1,h2⟩:=ih (by omega)
      refine ⟨by rw [List.length_append];omega,?_⟩
      rw [List.getD_eq_getElem?_getD,List.getElem?_append_left h1,←List.getD_eq_getElem?_getD];exact h2
theorem keep_cnt:∀(n q:Nat),q<(keepL P n).length→P ((keepL P n).getD q 0)=true∧(keepL P n).getD q 0<n∧cntP P ((keepL P n).getD q 0)=q:=by
  intro n
  induction n with
  |zero=>intro q h;simp [keepL] at h
  |succ n ih=>
    intro q h
    rw [keep_succ] at h⊢
    by_cases hq:q<(keepL P n).length
    · obtain ⟨a,b,c⟩:=ih q hq
      have:((keepL P n)++if P n=true then [n] else []).getD q 0=(keepL P n).getD q 0:=by
        rw [List.getD_eq_getElem?_getD,List.getElem?_append_left hq,←List.getD_eq_getElem?_getD]
      rw [this]
      exact ⟨a,by omega,c⟩
    · cases hp:P n with
      |false=>rw [hp] at h;simp at h;omega
      |true=>
        rw [hp,if_pos rfl,List.length_append,List.length_singleton] at h
        have hq':q=(keepL P n).length:=by omega
        rw [if_pos rfl]
        have:((keepL P n)++[n]).getD q 0=n:=by
          rw [List.getD_eq_getElem?_getD,List.getElem?_append_right (by omega),hq',Nat.sub_self];rfl
        rw [this]
        exact ⟨hp,by omega,by rw [hq',keep_len]⟩
theorem to_len (n:Nat):(toL P n).length=n:=by unfold toL;simp
theorem to_at {n i:Nat} (hi:i<n):(toL P n).getD i 0=if P i=true then ((cntP P i:Nat):Int) else-1:=by
  unfold toL
  rw [List.getD_eq_getElem?_getD,List.getElem?_map,List.getElem?_range hi];rfl
theorem cnt_all {n:Nat} (h:∀i,i<n→P i=true):∀i,i≤n→cntP P i=i:=by
  intro i
  induction i with
  |zero=>intro _;rfl
  |succ i ih=>intro hi;rw [cnt_succ,ih (by omega),if_pos (h i (by omega))]
theorem to_all {n:Nat} (h:∀i,i<n→P i=true):toL P n=upto n:=by
  refine list_ext (by rw [to_len,upto_len]) (fun j hj=>?_)
  rw [to_len] at hj
  rw [to_at hj,upto_at hj,if_pos (h j hj),cnt_all h j (by omega)]
end
section
variable {t:api_Types} {s:List Int} {P:Nat→Bool}
def outT (P:Nat→Bool) (t:api_Types):api_Types:=⟨(keepL P t.vDefs.length).map fun i=>mvS (fun c=>rd 0 (toL P t.vDefs.length) c) (dAt t i)⟩
def srcT (P:Nat→Bool) (t:api_Types):Src:=(keepL P t.vDefs.length).map fun i=>(t,i)
theorem srcT_len:(srcT P t).length=cntP P t.vDefs.length:=by unfold srcT;rw [List.length_map];rfl
theorem outT_len:(outT P t).vDefs.length=cntP P t.vDefs.length:=by unfold outT;simp only [];rw [List.length_map];rfl
theorem srcT_at {q:Nat} (hq:q<cntP P t.vDefs.length):sT (srcT P t) q=t∧sI (srcT P t) q=(keepL P t.vDefs.length).getD q 0:=by
  unfold sT sI srcT
  have hq:q<(keepL P t.vDefs.length).length:=hq
  rw [List.getD_eq_getElem?_getD,List.getElem?_map,List.getD_eq_getElem?_getD,List.getElem?_eq_getElem hq]
  exact ⟨rfl,rfl⟩
theorem outT_at {q:Nat} (hq:q<cntP P t.vDefs.length):dAt (outT P t) q=mvS (fun c=>rd 0 (toL P t.vDefs.length) c) (dAt t ((keepL P t.vDefs.length).getD q 0)):=by
  unfold outT
  have hq:q<(keepL P t.vDefs.length).length:=hq
  unfold dAt
  simp only []
  rw [List.getD_eq_getElem?_getD,List.getElem?_map,List.getD_eq_getElem?_getD (l:=keepL P t.vDefs.length),List.getElem?_eq_getElem hq]
  rfl
def Closed (P:Nat→Bool) (t:api_Types):Prop:=∀i,i<t.vDefs.length→P i=true→∀c∈kids (dAt t i),P c.toNat=true
theorem to_kid (W:Wf t s) (hc:Closed P t) {i:Nat} (hi:i<t.vDefs.length) (hp:P i=true) {c:Int} (h:c∈kids (dAt t i)):rd 0 (toL P t.vDefs.length) c=((cntP P c.toNat:Nat):Int)∧cntP P c.toNat<cntP P t.vDefs.length∧(keepL P t.vDefs.length).getD (cntP P c.toNat) 0=c.toNat:=by
  obtain ⟨c1,c2⟩:=kids_range W hi h
  have hp2:=hc i hi hp c h
  obtain ⟨h1,h2⟩:=keep_at hp2 _ c2
  refine ⟨?_,h1,h2⟩
  rw [c1,rd_nat,to_at c2,if_pos hp2];rfl
theorem trim_built (W:Wf t s) (hc:Closed P t):Built (outT P t) (srcT P t):=by
  have hat:∀q,q<cntP P t.vDefs.length→P ((keepL P t.vDefs.length).getD q 0)=true∧(keepL P t.vDefs.length).getD q 0<t.vDefs.length∧cntP P ((keepL P t.vDefs.length).getD q 0)=q:=fun q hq=>keep_cnt _ _ hq
  have hx:∀r,r<cntP P t.vDefs.length→xS (srcT P t) r=tx t ((keepL P t.vDefs.length).getD r 0):=fun r hr=>by
    unfold xS;rw [(srcT_at hr).1,(srcT_at hr).2]
  have to_:∀q,q<cntP P t.vDefs.length→∀c∈kids (dAt t ((keepL P t.vDefs.length).getD q 0)),∃r:Nat,rd 0 (toL P t.vDefs.length) c=(r:Int)∧r<(srcT P t).length∧xS (srcT P t) r=tx t c.toNat:=fun q hq c hcm=>by
    obtain ⟨a,b,_⟩:=hat q hq
    obtain ⟨e1,e2,e3⟩:=to_kid W hc b a hcm
    exact ⟨_,e1,by rw [srcT_len];exact e2,by rw [hx _ e2,e3]⟩
  refine ⟨by rw [outT_len,srcT_len],by rw [srcT_len];have:=cntP_le (P:=P) t.vDefs.length;have:=W.few;omega,fun q hq=>?_,fun q hq=>?_,fun q r hq hr hn hn' he=>?_,fun q r hq hr k k' hk hk' he=>?_⟩
  · rw [srcT_len] at hq
    rw [(srcT_at hq).1,(srcT_at hq).2]
    exact ⟨⟨s,W⟩,(hat q hq).2.1⟩
  · rw [srcT_len] at hq
    have h:=outT_at (P:=P) (t:=t) hq
    have hd:dS (srcT P t) q=dAt t ((keepL P t.vDefs.length).getD q 0):=by unfold dS;rw [(srcT_at hq).1,(srcT_at hq).2]
    have hk1:=to_ q hq
    rw [←hd] at h hk1
    refine ⟨by rw [h];rfl,by rw [h];rfl,by rw [h];rfl,by rw [h];rfl,fun hk=>?_,fun hk=>?_,?_,fun j hj=>?_⟩
    · rw [h,(srcT_at hq).1]
      obtain ⟨r,a,b,c⟩:=hk1 (dS (srcT P t) q).vRef (by rw [kids_ref hk];exact List.mem_singleton.2 rfl)
      refine ⟨r,?_,b,c⟩
      show (if isRef (dS (srcT P t) q).vKind then _ else _)=_
      rw [if_pos hk];exact a
    · rw [h]
      show (if isRef (dS (srcT P t) q).vKind then _ else _)=_
      rw [if_neg hk]
    · rw [h]
      show (if (dS (srcT P t) q).vKind=4 then _ else _:List api_Field).length=_
      split
      · rw [List.length_map]
      · rfl
    · rw [h,(srcT_at hq).1]
      by_cases h4:(dS (srcT P t) q).vKind=4
      · have hf:fAt (mvS (fun c=>rd 0 (toL P t.vDefs.length) c) (dS (srcT P t) q)) j=⟨(fAt (dS (srcT P t) q) j).vName,rd 0 (toL P t.vDefs.length) (fAt (dS (srcT P t) q) j).vType,(fAt (dS (srcT P t) q) j).vAt⟩:=by
          unfold fAt
          show (if (dS (srcT P t) q).vKind=4 then (dS (srcT P t) q).vFields.map _ else _).getD j z_api_Field=_
          rw [if_pos h4,List.getD_eq_getElem?_getD,List.getElem?_map,List.getD_eq_getElem?_getD,List.getElem?_eq_getElem hj]
          rfl
        rw [hf]
        exact ⟨rfl,rfl,fun _=>hk1 _ (by rw [kids_struct h4];exact List.mem_map.2 ⟨_,getD_mem hj,rfl⟩),fun h=>absurd h4 h⟩
      · have hf:fAt (mvS (fun c=>rd 0 (toL P t.vDefs.length) c) (dS (srcT P t) q)) j=fAt (dS (srcT P t) q) j:=by
          unfold fAt
          show (if (dS (srcT P t) q).vKind=4 then (dS (srcT P t) q).vFields.map _ else _).getD j z_api_Field=_
          rw [if_neg h4]
        rw [hf]
        exact ⟨rfl,rfl,fun h=>absurd h h4,fun _=>rfl⟩
  · rw [srcT_len] at hq hr
    unfold dS at hn hn' he
    rw [(srcT_at hq).1,(srcT_at hq).2] at hn he
    rw [(srcT_at hr).1,(srcT_at hr).2] at hn' he
    have:=name_uniq W (hat q hq).2.1 (hat r hr).2.1 hn hn' he
    have h1:=(hat q hq).2.2
    rw [this,(hat r hr).2.2] at h1
    exact h1.symm
  · rw [srcT_len] at hq hr
    rw [(srcT_at hq).1] at hk he⊢
    rw [(srcT_at hr).1] at hk' he⊢
    exact match_self W hk hk' he
theorem trim_x (W:Wf t s) (hc:Closed P t) {i:Nat} (hi:i<t.vDefs.length) (hp:P i=true):cntP P i<(outT P t).vDefs.length∧xS (srcT P t) (cntP P i)=tx t i:=by
  obtain ⟨h1,h2⟩:=keep_at hp _ hi
  have h1:cntP P i<cntP P t.vDefs.length:=h1
  refine ⟨by rw [outT_len];exact h1,?_⟩
  unfold xS;rw [(srcT_at h1).1,(srcT_at h1).2,h2]
theorem closed_rch (W:Wf t s) (hc:Closed P t) {i k:Nat} (hi:i<t.vDefs.length) (hp:P i=true) (h:Rch t i k):P k=true:=by
  induction h with
  |refl=>exact hp
  |step h hk ih=>exact hc _ (h.lt W hi) ih _ hk
theorem trim_eq (W:Wf t s) (hc:Closed P t) {i:Nat} (hi:i<t.vDefs.length) (hp:P i=true):EqX t (i:Int) (outT P t) ((cntP P i:Nat):Int):=by
  have B:=trim_built W hc
  obtain ⟨h1,h2⟩:=trim_x W hc hi hp
  refine ⟨i,_,⟨rfl,hi,s,W⟩,⟨rfl,h1,_,B.wf⟩,B.eq W (fun q hq k k' hk hk' he=>?_) hi (fun k hk=>?_) (by rw [←B.len];exact h1) h2⟩
  · rw [srcT_len] at hq
    rw [(srcT_at hq).1] at hk' he⊢
    exact match_self W hk hk' he
  · obtain ⟨a,b⟩:=trim_x W hc (hk.lt W hi) (closed_rch W hc hi hp hk)
    exact ⟨_,by rw [←B.len];exact a,b⟩
theorem kids_mv (to:Int→Int) (d:api_Def):kids (mvS to d)=(kids d).map to:=by
  by_cases hk:isRef d.vKind
  · rw [kids_ref hk,kids_ref (d:=mvS to d) hk]
    show [if isRef d.vKind then to d.vRef else d.vRef]=_
    rw [if_pos hk];rfl
  · by_cases h4:d.vKind=4
    · rw [kids_struct h4,kids_struct (d:=mvS to d) h4]
      show (if d.vKind=4 then d.vFields.map _ else d.vFields:List api_Field).map _=_
      rw [if_pos h4,List.map_map,List.map_map];rfl
    · rw [kids_none hk h4,kids_none (d:=mvS to d) hk h4];rfl
theorem trim_rch (W:Wf t s) (hc:Closed P t) {i k:Nat} (hi:i<t.vDefs.length) (hp:P i=true) (h:Rch t i k):Rch (outT P t) (cntP P i) (cntP P k):=by
  induction h with
  |refl=>exact .refl
  | @step k c h hk ih=>
    have hkl:=h.lt W hi
    have hpk:=closed_rch W hc hi hp h
    obtain ⟨e1,e2,e3⟩:=to_kid W hc hkl hpk hk
    obtain ⟨h1,h2⟩:=keep_at hpk _ hkl
    have:=Rch.step (c:=rd 0 (toL P t.vDefs.length) c) ih (by
      rw [outT_at h1,h2,kids_mv]
      exact List.mem_map.2 ⟨c,hk,rfl⟩)
    rw [e1] at this
    exact this
theorem out_all (W:Wf t s) (h:∀i,i<t.vDefs.length→P i=true):outT P t=t:=by
  have hk:keepL P t.vDefs.length=List.range t.vDefs.length:=List.filter_eq_self.2 fun i hi=>h i (List.mem_range.1 hi)
  have:(outT P t).vDefs=t.vDefs:=by
    apply List.ext_getElem
    · rw [outT_len,cnt_all h _ (Nat.le_refl _)]
    · intro q h1 h2
      have:=outT_at (P:=P) (t:=t) (q:=q) (by rw [cnt_all h _ (Nat.le_refl _)];exact h2)
      rw [show (keepL P t.vDefs.length).getD q 0=q from by rw [hk,List.getD_eq_getElem?_getD,List.getElem?_range h2];rfl,mvS_id (fun c hc=>by
        obtain ⟨c1,c2⟩:=kids_range W h2 hc
        rw [c1,rd_nat,to_at c2,if_pos (h _ c2),cnt_all h _ (by omega)])] at this
      unfold dAt at this
      rw [List.getD_eq_getElem?_getD,List.getD_eq_getElem?_getD,List.getElem?_eq_getElem h1,List.getElem?_eq_getElem h2] at this
      exact this
  exact congrArg api_Types.mk this
theorem natL_app (a:List Nat) (i:Nat):natL (a++[i])=natL a++[(i:Int)]:=by unfold natL;rw [List.map_append];rfl
theorem natL_len (a:List Nat):(natL a).length=a.length:=by unfold natL;simp
theorem tr_l0 (W:Wf t s) {a:List ByteArray} (ha:a.length≤200):∀(e j:Nat) (acc:List Nat),j+e=a.length→acc.length=j→
    (∃fr:List Nat,fr.length=e∧(∀i,i<e→findV t (a.getD (j+i) ByteArray.empty)=((fr.getD i 0:Nat):Int))∧Ev2 (fun k m=>ctf_Trim.l0 k t a m (j:Int) (natL acc)) (.inr (natL (acc++fr))))∨
    ((∃i,i<e∧¬0≤findV t (a.getD (j+i) ByteArray.empty))∧Ev2 (fun k m=>ctf_Trim.l0 k t a m (j:Int) (natL acc)) (.inl (⟨[]⟩,[],3))):=by
  intro e
  induction e with
  |zero=>
    intro j acc hj hacc
    refine .inl ⟨[],rfl,fun i h=>by omega,Ev2.pure fun k m=>?_⟩
    rw [ctf_Trim.l0,if_neg (by simp;omega),List.append_nil]
  |succ e ih=>
    intro j acc hj hacc
    have hlt:j<a.length:=by omega
    obtain ⟨K1,h1⟩:=find_ev W.few (a.getD j ByteArray.empty)
    by_cases h0:0≤findV t (a.getD j ByteArray.empty)
    · obtain ⟨q,e0,hq,_,_⟩:=findV_pos h0
      rcases ih (j+1) (acc++[q]) (by omega) (by simp;omega) with ⟨fr,hfl,hfr,⟨K2,h2⟩⟩|⟨⟨i,hi,hneg⟩,⟨K2,h2⟩⟩
      · refine .inl ⟨q::fr,by simp [hfl],fun i hi=>?_,⟨K1+K2+1,fun k m hk hm=>?_⟩⟩
        · cases i with
          |zero=>exact e0
          |succ i=>
            rw [List.getD_cons_succ,←hfr i (by omega)]
            congr 2;omega
        · obtain ⟨m,rfl⟩:∃x,m=x+1:=⟨m-1,by omega⟩
          show ctf_Trim.l0 k t a (m+1) (j:Int) _=_
          rw [ctf_Trim.l0,if_pos (by simp;omega),if_pos (by omega),rd_nat,show ctf_find.f k t _=_ from h1 k (by omega),e0]
          simp only [Option.bind_some]
          rw [if_neg (by simp),if_pos (by rw [natL_len];omega),wrap_nat hlt (by omega)]
          have:=h2 k m (by omega) (by omega)
          simp only at this
          rw [natL_app,List.append_assoc] at this
          exact this
      · refine .inr ⟨⟨i+1,by omega,by rw [show j+(i+1)=j+1+i by omega];exact hneg⟩,⟨K1+K2+1,fun k m hk hm=>?_⟩⟩
        obtain ⟨m,rfl⟩:∃x,m=x+1:=⟨m-1,by omega⟩
        show ctf_Trim.l0 k t a (m+1) (j:Int) _=_
        rw [ctf_Trim.l0,if_pos (by simp;omega),if_pos (by omega),rd_nat,show ctf_find.f k t _=_ from h1 k (by omega),e0]
        simp only [Option.bind_some]
        rw [if_neg (by simp),if_pos (by rw [natL_len];omega),wrap_nat hlt (by omega)]
        have:=h2 k m (by omega) (by omega)
        simp only at this
        rw [natL_app] at this
        exact this
    · refine .inr ⟨⟨0,by omega,h0⟩,⟨K1+1,fun k m hk hm=>?_⟩⟩
      obtain ⟨m,rfl⟩:∃x,m=x+1:=⟨m-1,by omega⟩
      show ctf_Trim.l0 k t a (m+1) (j:Int) _=_
      rw [ctf_Trim.l0,if_pos (by simp;omega),if_pos (by omega),rd_nat,show ctf_find.f k t _=_ from h1 k (by omega)]
      simp only [Option.bind_some]
      rw [if_pos (decide_eq_true (by omega))]
def keyP (mv:List (Int×Bool)) (i:Nat):Bool:=(mfind ieq mv ((i:Nat):Int)).getD false
theorem tr_l1 {mv:List (Int×Bool)} (hn:t.vDefs.length≤200):∀(e j:Nat),j+e=t.vDefs.length→Ev2 (fun k m=>ctf_Trim.l1 t mv m ((cntP (keyP mv) j:Nat):Int) (j:Int) (toL (keyP mv) j)) (toL (keyP mv) t.vDefs.length):=by
  intro e
  induction e with
  |zero=>
    intro j hj
    have hj:j=t.vDefs.length:=by omega
    subst hj
    refine Ev2.pure fun k m=>?_
    rw [ctf_Trim.l1,if_neg (by simp)]
  |succ e ih=>
    intro j hj
    have hlt:j<t.vDefs.length:=by omega
    have hc:=cntP_le (P:=keyP mv) j
    obtain ⟨K,hK⟩:=ih (j+1) (by omega)
    have htl:toL (keyP mv) (j+1)=toL (keyP mv) j++[if keyP mv j=true then ((cntP (keyP mv) j:Nat):Int) else-1]:=by unfold toL;rw [List.range_succ,List.map_append];rfl
    refine ⟨K+1,fun k m hk hm=>?_⟩
    obtain ⟨m,rfl⟩:∃x,m=x+1:=⟨m-1,by omega⟩
    have:=hK k m (by omega) (by omega)
    simp only at this
    rw [cnt_succ,htl] at this
    show ctf_Trim.l1 t mv (m+1) _ (j:Int) _=_
    rw [ctf_Trim.l1,if_pos (by simp;omega),wrap_nat hlt (by omega)]
    show (if keyP mv j=true then _ else _)=_
    by_cases hp:keyP mv j=true
    · rw [if_pos hp,if_pos (by rw [to_len];omega),wrap_nat (j:=cntP (keyP mv) j) (n:=cntP (keyP mv) j+1) (by omega) (by omega)]
      rw [if_pos hp,if_pos hp] at this
      exact this
    · rw [if_neg hp,if_pos (by rw [to_len];omega)]
      rw [if_neg hp,if_neg hp] at this
      exact this
theorem tr_l2 (W:Wf t s) {mv:List (Int×Bool)} (hc:Closed (keyP mv) t):∀(e j:Nat) (acc:List api_Def),j+e=t.vDefs.length→acc.length≤j→Ev2 (fun k m=>ctf_Trim.l2 k t mv (toL (keyP mv) t.vDefs.length) m (j:Int) acc) (acc++(((List.range e).map (· +j)).filter (keyP mv)).map fun i=>mvS (fun c=>rd 0 (toL (keyP mv) t.vDefs.length) c) (dAt t i)):=by
  have hn:=W.few
  intro e
  induction e with
  |zero=>
    intro j acc hj ha
    refine Ev2.pure fun k m=>?_
    rw [ctf_Trim.l2,if_neg (by simp;omega)]
    simp
  |succ e ih=>
    intro j acc hj ha
    have hlt:j<t.vDefs.length:=by omega
    have hrange:(List.range (e+1)).map (· +j)=j::(List.range e).map (· +(j+1)):=by
      rw [List.range_succ_eq_map,List.map_cons,List.map_map]
      congr 1
      · omega
      · exact List.map_congr_left fun i _=>by simp only [Function.comp_apply];omega
    rw [hrange,List.filter_cons]
    by_cases hp:keyP mv j=true
    · rw [if_pos hp,List.map_cons]
      have hmv:=moved_ev W hlt (a1:=fun _ z0=>ctf_Trim_1.f z0 (toL (keyP mv) t.vDefs.length)) (to:=fun c=>rd 0 (toL (keyP mv) t.vDefs.length) c) (fun c hcm=>Ev.pure fun k=>by
        obtain ⟨c1,c2⟩:=kids_range W hlt hcm
        unfold ctf_Trim_1.f
        rw [if_pos (by rw [to_len];omega)])
      obtain ⟨K1,h1⟩:=hmv
      obtain ⟨K2,h2⟩:=ih (j+1) (acc++[mvS (fun c=>rd 0 (toL (keyP mv) t.vDefs.length) c) (dAt t j)]) (by omega) (by simp;omega)
      refine ⟨K1+K2+1,fun k m hk hm=>?_⟩
      obtain ⟨m,rfl⟩:∃x,m=x+1:=⟨m-1,by omega⟩
      have:=h2 k m (by omega) (by omega)
      simp only at this
      rw [List.append_assoc] at this
      show ctf_Trim.l2 k t mv _ (m+1) (j:Int) acc=_
      rw [ctf_Trim.l2,if_pos (by simp;omega),if_pos (by omega)]
      show (if keyP mv j=true then _ else _)=_
      rw [if_pos hp,rd_dAt,show ctf_moved.f k _ _=_ from h1 k (by omega)]
      simp only [Option.bind_some]
      rw [if_pos (by omega),wrap_nat hlt (by omega)]
      exact this
    · rw [if_neg hp]
      obtain ⟨K2,h2⟩:=ih (j+1) acc (by omega) (by omega)
      refine ⟨K2+1,fun k m hk hm=>?_⟩
      obtain ⟨m,rfl⟩:∃x,m=x+1:=⟨m-1,by omega⟩
      show ctf_Trim.l2 k t mv _ (m+1) (j:Int) acc=_
      rw [ctf_Trim.l2,if_pos (by simp;omega),if_pos (by omega)]
      show (if keyP mv j=true then _ else _)=_
      rw [if_neg hp,wrap_nat hlt (by omega)]
      exact h2 k m (by omega) (by omega)
theorem Trim_ev (W:Wf t s) (hv:Ev (fun k=>ctf_valid.f k t) true) {a:List ByteArray} (ha:a.length≤200):
    (∃(fr:List Nat) (P:Nat→Bool),fr.length=a.length∧(∀i,i<a.length→findV t (a.getD i ByteArray.empty)=((fr.getD i 0:Nat):Int))∧(∀k,P k=true↔∃i∈fr,Rch t i k)∧Ev (fun k=>ctf_Trim.f k t a) (outT P t,toL P t.vDefs.length,0))∨
    ((∃i,i<a.length∧¬0≤findV t (a.getD i ByteArray.empty))∧Ev (fun k=>ctf_Trim.f k t a) (⟨[]⟩,[],3)):=by
  obtain ⟨Kv,hv⟩:=hv
  rcases tr_l0 W ha a.length 0 [] (by omega) rfl with ⟨fr,hfl,hfr,h0⟩|⟨⟨i,hi,hneg⟩,h0⟩
  · left
    obtain ⟨K0,h0⟩:=h0.diag
    simp only [Nat.zero_add,List.nil_append] at hfr h0
    have hin:∀i∈fr,i<t.vDefs.length:=fun i hi=>by
      obtain ⟨j,hj,e⟩:=List.mem_iff_getElem.1 hi
      have h1:=hfr j (by omega)
      have hg:fr.getD j 0=i:=by rw [List.getD_eq_getElem?_getD,List.getElem?_eq_getElem hj];exact e
      rw [hg] at h1
      obtain ⟨q,e2,hq,_⟩:=findV_pos (t:=t) (name:=a.getD j ByteArray.empty) (by rw [h1];omega)
      rw [h1] at e2
      have:=Int.ofNat.inj e2
      omega
    obtain ⟨mv,⟨K1,h1⟩,hall,hkeys⟩:=reached_ev W hin (by omega)
    have hP:∀k,keyP mv k=true↔∃i∈fr,Rch t i k:=fun k=>by
      unfold keyP
      rw [find_keys hall,hkeys]
      constructor
      · rintro ⟨q,e,h⟩
        have:=Int.ofNat.inj e
        subst this;exact h
      · exact fun h=>⟨k,rfl,h⟩
    have hc:Closed (keyP mv) t:=fun i hi hp c hcm=>by
      obtain ⟨q,hq,hr⟩:=(hP i).1 hp
      exact (hP _).2 ⟨q,hq, .step hr hcm⟩
    obtain ⟨K2,h2⟩:=(tr_l1 (mv:=mv) W.few t.vDefs.length 0 (by omega)).diag
    obtain ⟨K3,h3⟩:=(tr_l2 W hc t.vDefs.length 0 [] (by omega) (by simp)).diag
    refine ⟨fr,keyP mv,hfl,hfr,hP,⟨Kv+K0+K1+K2+K3,fun k hk=>?_⟩⟩
    show ctf_Trim.f k t a=_
    unfold ctf_Trim.f
    rw [show ctf_valid.f k t=_ from hv k (by omega)]
    simp only [Option.bind_some,Bool.not_true,Bool.false_eq_true,if_false]
    rw [if_neg (by simp;omega),show ctf_Trim.l0 k t a k 0 []=_ from h0 k (by omega)]
    simp only [Option.bind_some]
    rw [show ctf_reached.f k t (natL fr)=_ from h1 k (by omega)]
    simp only [Option.bind_some]
    rw [show ctf_Trim.l1 t mv k 0 0 []=_ from h2 k (by omega)]
    simp only [Option.bind_some]
    rw [show ctf_Trim.l2 k t mv _ k 0 []=_ from h3 k (by omega)]
    simp only [Option.bind_some,List.nil_append]
    have hr:(List.range t.vDefs.length).map (· +0)=List.range t.vDefs.length:=by simp
    rw [hr]
    rfl
  · right
    obtain ⟨K0,h0⟩:=h0.diag
    refine ⟨⟨i,hi,by simpa using hneg⟩,⟨Kv+K0,fun k hk=>?_⟩⟩
    show ctf_Trim.f k t a=_
    unfold ctf_Trim.f
    rw [show ctf_valid.f k t=_ from hv k (by omega)]
    simp only [Option.bind_some,Bool.not_true,Bool.false_eq_true,if_false]
    rw [if_neg (by simp;omega),show ctf_Trim.l0 k t a k 0 []=_ from h0 k (by omega)]
    rfl
theorem find_is (W:Wf t s) {name:ByteArray} {j:Nat} (hj:j<t.vDefs.length) (hn:namedS (dAt t j)=true) (he:(dAt t j).vName=name):findV t name=(j:Int):=by
  by_cases h:0≤findV t name
  · obtain ⟨k,e,hk,hnk,hname⟩:=findV_pos h
    have:=name_uniq W hj hk hn hnk (by rw [he,hname])
    subst this;exact e
  · exact absurd he (findV_neg h j hj hn)
theorem Lookup_ok (W:Wf t s) (hv:Ev (fun k=>ctf_valid.f k t) true) {name:ByteArray} {j:Nat} (h:findV t name=(j:Int)):Ev (fun k=>ctf_Lookup.f k t name) ((j:Int),0):=by
  obtain ⟨K,hv⟩:=hv
  obtain ⟨K1,h1⟩:=find_ev W.few name
  refine ⟨K+K1,fun k hk=>?_⟩
  show ctf_Lookup.f k t name=_
  unfold ctf_Lookup.f
  rw [show ctf_valid.f k t=_ from hv k (by omega)]
  simp only [Option.bind_some,Bool.not_true,Bool.false_eq_true,if_false]
  rw [show ctf_find.f k t name=_ from h1 k (by omega),h]
  simp only [Option.bind_some]
  rw [if_neg (by simp)]
theorem tm_l0 {u:api_Types} {z:Int} (hn:t.vDefs.length≤200) (h:∀i,i<t.vDefs.length→P i=true→Ev (fun k=>ctf_Equal.f k t (i:Int) u ((cntP P i:Nat):Int)) true):∀(e j:Nat),j+e=t.vDefs.length→Ev2 (fun k m=>taplinelaw08_CtfTrims.l0 k t (u,toL P t.vDefs.length,z) m ((cntP P j:Nat):Int) (j:Int)) (.inr ((cntP P t.vDefs.length:Nat):Int)):=by
  intro e
  induction e with
  |zero=>
    intro j hj
    have hj:j=t.vDefs.length:=by omega
    subst hj
    refine Ev2.pure fun k m=>?_
    rw [taplinelaw08_CtfTrims.l0,if_neg (by simp only [];rw [to_len];simp)]
  |succ e ih=>
    intro j hj
    have hlt:j<t.vDefs.length:=by omega
    have hc:=cntP_le (P:=P) j
    obtain ⟨K,hK⟩:=ih (j+1) (by omega)
    by_cases hp:P j=true
    · obtain ⟨K1,h1⟩:=h j hlt hp
      refine ⟨K+K1+1,fun k m hk hm=>?_⟩
      obtain ⟨m,rfl⟩:∃x,m=x+1:=⟨m-1,by omega⟩
      have:=hK k m (by omega) (by omega)
      simp only at this
      rw [cnt_succ,if_pos hp] at this
      show taplinelaw08_CtfTrims.l0 k t _ (m+1) _ (j:Int)=_
      rw [taplinelaw08_CtfTrims.l0,if_pos (by simp only [];rw [to_len];simp;omega),if_pos (by simp only [];rw [to_len];omega)]
      simp only []
      rw [rd_nat,to_at hlt,if_pos hp,if_neg (by simp),if_pos (by rw [to_len];omega),if_pos (fun _=>by rw [to_len];omega),if_pos (by simp),show ctf_Equal.f k t _ u _=_ from h1 k (by omega)]
      simp only [Option.bind_some]
      rw [if_neg (by simp),wrap_nat hlt (by omega),wrap_nat (j:=cntP P j) (n:=cntP P j+1) (by omega) (by omega)]
      exact this
    · refine ⟨K+1,fun k m hk hm=>?_⟩
      obtain ⟨m,rfl⟩:∃x,m=x+1:=⟨m-1,by omega⟩
      have:=hK k m (by omega) (by omega)
      simp only at this
      rw [cnt_succ,if_neg hp] at this
      show taplinelaw08_CtfTrims.l0 k t _ (m+1) _ (j:Int)=_
      rw [taplinelaw08_CtfTrims.l0,if_pos (by simp only [];rw [to_len];simp;omega),if_pos (by simp only [];rw [to_len];omega)]
      simp only []
      rw [rd_nat,to_at hlt,if_neg hp,if_pos (by decide),wrap_nat hlt (by omega)]
      exact this
theorem tm_l1 {u:api_Types} {x:List Int} {z:Int} {a:List ByteArray} (hn:a.length≤200) (h:∀i,i<a.length→∃y:Int,Ev (fun k=>ctf_Lookup.f k u (a.getD i ByteArray.empty)) (y,0)):∀(e j:Nat),j+e=a.length→Ev2 (fun k m=>taplinelaw08_CtfTrims.l1 k a (u,x,z) m (j:Int)) (.inr ()):=by
  intro e
  induction e with
  |zero=>
    intro j hj
    refine Ev2.pure fun k m=>?_
    rw [taplinelaw08_CtfTrims.l1,if_neg (by simp;omega)]
  |succ e ih=>
    intro j hj
    have hlt:j<a.length:=by omega
    obtain ⟨y,hy⟩:=h j hlt
    refine Ev2.step hy (r:=fun k m (v:Int×Int)=>if (v.2 !=0)=true then some (.inl false) else taplinelaw08_CtfTrims.l1 k a (u,x,z) m ((j+1:Nat):Int)) ?_ (fun k m=>?_)
    · exact ih (j+1) (by omega)
    · rw [taplinelaw08_CtfTrims.l1,if_pos (by simp;omega),if_pos (by omega),wrap_nat hlt (by omega),rd_nat]
end
theorem trims_ev {t:api_Types} (hF:∀d∈t.vDefs,FitD d) (a:List ByteArray):Ev (fun k=>taplinelaw08_CtfTrims.f k t a) true:=by
  obtain ⟨Ks,hs⟩:=sane_ev
  have bad:∀e:Int,e≠0→Ev (fun k=>ctf_Trim.f k t a) (⟨[]⟩,[],e)→Ev (fun k=>taplinelaw08_CtfTrims.f k t a) true:=fun e he ⟨K,hK⟩=>by
    refine ⟨Ks+K,fun k hk=>?_⟩
    show taplinelaw08_CtfTrims.f k t a=_
    unfold taplinelaw08_CtfTrims.f
    rw [show taplinelaw08_sane.f k=some true from hs k (by omega),show ctf_Trim.f k t a=_ from hK k (by omega)]
    simp only [Option.bind_some]
    rw [if_pos (by simpa using he)]
  rcases valid_iff hF with ⟨s,W,hv⟩|⟨hno,⟨K,hK⟩⟩
  · by_cases ha:a.length≤200
    · rcases Trim_ev W hv ha with ⟨fr,P,hfl,hfr,hP,⟨K1,h1⟩⟩|⟨_,h⟩
      · have hc:Closed P t:=fun i hi hp c hcm=>by
          obtain ⟨q,hq,hr⟩:=(hP i).1 hp
          exact (hP _).2 ⟨q,hq, .step hr hcm⟩
        have B:=trim_built W hc
        have V:=B.wf
        have hvu:=valid_wf V.fit V
        have hn:=W.few
        have hun:=V.few
        have hfind:∀i,i<a.length→fr.getD i 0<t.vDefs.length∧P (fr.getD i 0)=true∧findV (outT P t) (a.getD i ByteArray.empty)=((cntP P (fr.getD i 0):Nat):Int):=fun i hi=>by
          have h1:=hfr i hi
          obtain ⟨q,e,hq,hnq,hname⟩:=findV_pos (t:=t) (name:=a.getD i ByteArray.empty) (by rw [h1];omega)
          rw [h1] at e
          have e:fr.getD i 0=q:=Int.ofNat.inj e
          have hp:P q=true:=(hP q).2 ⟨q,by rw [←e];exact getD_mem (by omega), .refl⟩
          rw [e]
          refine ⟨hq,hp,find_is V (trim_x W hc hq hp).1 ?_ ?_⟩
          · obtain ⟨k1,k2⟩:=keep_at hp _ hq
            rw [outT_at k1,k2];exact hnq
          · obtain ⟨k1,k2⟩:=keep_at hp _ hq
            rw [outT_at k1,k2];exact hname
        obtain ⟨K2,h2⟩:=Check_ev hvu
        obtain ⟨K3,h3⟩:=(tm_l0 (u:=outT P t) (z:=0) hn (fun i hi hp=>by
          have:=Equal_ev hF V.fit (i:Int) ((cntP P i:Nat):Int)
          rwa [tell_t (trim_eq W hc hi hp)] at this) t.vDefs.length 0 (by omega)).diag
        have hagain:Ev (fun k=>ctf_Trim.f k (outT P t) a) (outT P t,upto (outT P t).vDefs.length,0):=by
          rcases Trim_ev V hvu ha with ⟨fr2,P2,hfl2,hfr2,hP2,h⟩|⟨⟨i,hi,hneg⟩,_⟩
          · have hall:∀q,q<(outT P t).vDefs.length→P2 q=true:=fun q hq=>by
              rw [outT_len] at hq
              obtain ⟨k1,k2,k3⟩:=keep_cnt _ q hq
              obtain ⟨i,him,hr⟩:=(hP _).1 k1
              obtain ⟨j,hj,e⟩:=List.mem_iff_getElem.1 him
              have hg:fr.getD j 0=i:=by rw [List.getD_eq_getElem?_getD,List.getElem?_eq_getElem hj];exact e
              obtain ⟨f1,f2,f3⟩:=hfind j (by omega)
              have f4:=hfr2 j (by omega)
              rw [f3] at f4
              have f4:cntP P (fr.getD j 0)=fr2.getD j 0:=Int.ofNat.inj f4
              rw [hg] at f1 f2 f4
              refine (hP2 q).2 ⟨cntP P i,by rw [f4];exact getD_mem (by omega),?_⟩
              have:=trim_rch W hc f1 f2 hr
              rwa [k3] at this
            rw [out_all V hall,to_all hall] at h
            exact h
          · exact absurd (by rw [(hfind i hi).2.2];omega) hneg
        obtain ⟨K4,h4⟩:=hagain
        obtain ⟨K5,h5⟩:=same_refl (t:=outT P t) (by omega) V.fit
        obtain ⟨K6,h6⟩:=rising_upto (n:=(outT P t).vDefs.length) (by omega)
        obtain ⟨K7,h7⟩:=(tm_l1 (u:=outT P t) (x:=toL P t.vDefs.length) (z:=0) ha (fun i hi=>⟨_,Lookup_ok V hvu (hfind i hi).2.2⟩) a.length 0 (by omega)).diag
        refine ⟨Ks+K1+K2+K3+K4+K5+K6+K7,fun k hk=>?_⟩
        show taplinelaw08_CtfTrims.f k t a=_
        unfold taplinelaw08_CtfTrims.f
        rw [show taplinelaw08_sane.f k=some true from hs k (by omega),show ctf_Trim.f k t a=_ from h1 k (by omega)]
        simp only [Option.bind_some]
        rw [if_neg (by simp),show ctf_Check.f k _=_ from h2 k (by omega)]
        simp only [Option.bind_some,if_true]
        rw [if_neg (by rw [to_len];simp),show taplinelaw08_CtfTrims.l0 k t _ k 0 0=_ from h3 k (by omega)]
        simp only [Option.bind_some]
        rw [show ctf_Trim.f k (outT P t) a=_ from h4 k (by omega)]
        simp only [Option.bind_some]
        rw [outT_len]
        simp only [bne_self_eq_false,Bool.or_self,beq_self_eq_true,Bool.and_self,if_true]
        rw [show taplineref08_Same.f k _ _=_ from h5 k (by omega)]
        simp only [Option.bind_some,Bool.not_true,Bool.or_self,beq_self_eq_true,Bool.and_self,if_true]
        have h6:taplinelaw08_rising.f k (upto (cntP P t.vDefs.length))=some true:=by rw [←outT_len];exact h6 k (by omega)
        rw [h6]
        simp only [Option.bind_some,Bool.not_true,Bool.or_self,Bool.false_eq_true,if_false]
        rw [show taplinelaw08_CtfTrims.l1 k a _ k 0=_ from h7 k (by omega)]
        rfl
      · exact bad 3 (by decide) h
    · refine bad 2 (by decide) ?_
      obtain ⟨K,hK⟩:=hv
      refine ⟨K,fun k hk=>?_⟩
      show ctf_Trim.f k t a=_
      unfold ctf_Trim.f
      rw [show ctf_valid.f k t=_ from hK k (by omega)]
      simp only [Option.bind_some,Bool.not_true,Bool.false_eq_true,if_false]
      rw [if_pos (by simp;omega)]
  · refine bad 80 (by decide) ⟨K,fun k hk=>?_⟩
    show ctf_Trim.f k t a=_
    unfold ctf_Trim.f
    rw [show ctf_valid.f k t=_ from hK k (by omega)]
    rfl
end Go.Proofs.YtfjppgobidjndaaDoor
