/- Parts of a proof, merged by program: Q13. The walks (each function once) and the plain laws; no condition of their own. -/
import Derived.Test.YtfjppgobidjndaaDoorLok5
set_option linter.unusedVariables false
set_option linter.unusedSimpArgs false
namespace Go.Proofs.YtfjppgobidjndaaDoor
open Go.RowKit Go.M
section
variable {t:api_Types} {l:List Int}
theorem resolved_same (t:api_Types):∀(m:Nat) (i:Int),taplineref08_Resolved.l0 t m i=ctf_resolved.l0 t m i
  |0,i=>rfl
  |m+1,i=>by rw [taplineref08_Resolved.l0,ctf_resolved.l0,resolved_same t m]
theorem Resolve_both (hF:∀d∈t.vDefs,FitD d) (i:Int):∃a e,Ev (fun k=>ctf_Resolve.f k t i) (a,e)∧Ev (fun k=>taplineref08_Resolve.f k t i) ⟨a,e⟩:=by
  rcases given_both hF i with ⟨e,he,h1,⟨K2,hK2⟩⟩|⟨n,l,rfl,hn,W,hv,hs,h1,⟨K2,hK2⟩⟩
  · refine ⟨0,e,Resolve_err h1 he,⟨K2,fun k hk=>?_⟩⟩
    show taplineref08_Resolve.f k t i=_
    unfold taplineref08_Resolve.f
    rw [show taplineref08_given.f k t i=_ from hK2 k hk]
    simp [he]
  · obtain ⟨r,hr,hE,_,_⟩:=resolved_ev W.good n hn
    refine ⟨(r:Int),0,Resolve_ev hv hn hE,?_⟩
    obtain ⟨K3,hK3⟩:=hE
    refine ⟨max K2 K3,fun k hk=>?_⟩
    show taplineref08_Resolve.f k t (n:Int)=_
    unfold taplineref08_Resolve.f
    rw [show taplineref08_given.f k t (n:Int)=_ from hK2 k (by omega)]
    simp only [Option.bind_some]
    have h3:ctf_resolved.f k t (n:Int)=some (r:Int):=hK3 k (by omega)
    unfold ctf_resolved.f at h3
    rw [if_neg (by decide)]
    unfold taplineref08_Resolved.f
    rw [resolved_same,h3]
    rfl
def partOf (x:api_Field×Int):taplineref08_Part:=⟨x.1,x.2⟩
theorem rmember_loop {name:ByteArray} {v:Int}:∀(m:Nat) (y:Int),taplineref08_Member.l0 t name v m y=(ctf_member.l0 t name v m y).map (fun x=>match x with| .inl r=> .inl (partOf r)| .inr s=> .inr s)
  |0,y=>rfl
  |m+1,y=>by
    rw [taplineref08_Member.l0,ctf_member.l0]
    by_cases h1:decide (y<(((rd z_api_Def t.vDefs v).vFields).length:Int))=true
    · rw [if_pos h1,if_pos h1]
      by_cases h2:0≤y∧y<((rd z_api_Def t.vDefs v).vFields).length
      · by_cases h3:strEq (rd z_api_Field (rd z_api_Def t.vDefs v).vFields y).vName name=true
        · simp only [if_pos h2,if_pos h3];rfl
        · simp only [if_pos h2,if_neg h3];exact rmember_loop m _
      · rw [if_neg h2,if_neg h2];rfl
    · rw [if_neg h1,if_neg h1];rfl
theorem rMember_ev {n:Nat} {name:ByteArray} {x:api_Field×Int} (hg:Ev (fun k=>taplineref08_given.f k t (n:Int)) 0) (hx:Ev (fun k=>ctf_member.f k t (n:Int) name) x):Ev (fun k=>taplineref08_Member.f k t (n:Int) name) (partOf x):=by
  obtain ⟨K,hK⟩:=hg
  obtain ⟨K2,hK2⟩:=hx
  refine ⟨max K K2,fun k hk=>?_⟩
  show taplineref08_Member.f k t (n:Int) name=_
  unfold taplineref08_Member.f
  rw [show taplineref08_given.f k t (n:Int)=_ from hK k (by omega)]
  simp only [Option.bind_some]
  have h2:ctf_member.f k t (n:Int) name=_:=hK2 k (by omega)
  unfold ctf_member.f ctf_resolved.f at h2
  rw [if_neg (by decide)]
  unfold taplineref08_Resolved.f
  rw [resolved_same]
  cases hr:ctf_resolved.l0 t k (n:Int) with
  |none=>rw [hr] at h2;cases h2
  |some v=>
    rw [hr] at h2
    simp only [Option.bind_some] at h2⊢
    by_cases h3:0≤v∧v<t.vDefs.length
    · rw [if_pos h3] at h2⊢
      by_cases h4:((rd z_api_Def t.vDefs v).vKind !=4)=true
      · rw [if_pos h4] at h2⊢
        rw [←Option.some.inj h2];rfl
      · rw [if_neg h4] at h2⊢
        rw [rmember_loop]
        cases hm:ctf_member.l0 t name v k 0 with
        |none=>rw [hm] at h2;cases h2
        |some y=>
          rw [hm] at h2
          cases y with
          |inl r=>
            simp only [Option.bind_some,Option.map_some] at h2⊢
            rw [←Option.some.inj h2]
          |inr s=>
            simp only [Option.bind_some,Option.map_some] at h2⊢
            rw [←Option.some.inj h2];rfl
    · rw [if_neg h3] at h2;cases h2
theorem Member_both (hF:∀d∈t.vDefs,FitD d) (i:Int) (name:ByteArray):∃x:api_Field×Int,Ev (fun k=>ctf_Member.f k t i name) x∧Ev (fun k=>taplineref08_Member.f k t i name) (partOf x):=by
  rcases given_both hF i with ⟨e,he,⟨K,hK⟩,⟨K2,hK2⟩⟩|⟨n,l,rfl,hn,W,hv,hs,h1,h2⟩
  · refine ⟨(⟨ByteArray.empty,0,0⟩,e),⟨K,fun k hk=>?_⟩,⟨K2,fun k hk=>?_⟩⟩
    · show ctf_Member.f k t i name=_
      unfold ctf_Member.f
      rw [show ctf_given.f k t i=_ from hK k hk]
      simp [he]
    · show taplineref08_Member.f k t i name=_
      unfold taplineref08_Member.f
      rw [show taplineref08_given.f k t i=_ from hK2 k hk]
      simp [he,partOf]
  · obtain ⟨mem,hm⟩:=mem_ok W.good
    exact ⟨mem n name,Member_ev hv hn (hm.ev n name hn),rMember_ev h2 (hm.ev n name hn)⟩
def reachedOf (x:Int×Int×Int):taplineref08_Reached:=⟨x.1,x.2.1,x.2.2⟩
theorem rpath_loop {mem:Nat→ByteArray→api_Field×Int} (hm:MemOk t mem) (hg:∀n:Nat,n<t.vDefs.length→Ev (fun k=>taplineref08_given.f k t (n:Int)) 0) {p:List ByteArray} (hp:p.length≤9223372036854775807):∀(e j i:Nat) (a:Int),j+e=p.length→i<t.vDefs.length→
    Ev2 (fun k m=>taplineref08_Path.l0 k t p m (i:Int) a (j:Int)) (if (pathV mem (p.drop j) i a).2.2≠0 then .inl (reachedOf (pathV mem (p.drop j) i a)) else .inr ((pathV mem (p.drop j) i a).1,(pathV mem (p.drop j) i a).2.1)):=by
  intro e
  induction e with
  |zero=>
    intro j i a hj hi
    rw [List.drop_eq_nil_of_le (by omega)]
    refine Ev2.pure fun k m=>?_
    rw [taplineref08_Path.l0,if_neg (by simp;omega)]
    simp [pathV]
  |succ e ih=>
    intro j i a hj hi
    have hlt:j<p.length:=by omega
    rw [drop_getD ByteArray.empty hlt]
    have hev:=rMember_ev (hg i hi) (hm.ev i (p.getD j ByteArray.empty) hi)
    have hty:=hm.typ i (p.getD j ByteArray.empty) hi
    have hstep:∀k m,taplineref08_Path.l0 k t p (m+1) (i:Int) a (j:Int)=(taplineref08_Member.f k t (i:Int) (p.getD j ByteArray.empty)).bind fun v2=>if (v2.vE !=0)=true then some (.inl (⟨0,0,v2.vE⟩:taplineref08_Reached)) else taplineref08_Path.l0 k t p m v2.vF.vType (IntKind.wrap .i64 (a+v2.vF.vAt)) (((j+1:Nat)):Int):=by
      intro k m
      rw [taplineref08_Path.l0,if_pos (by simp;omega),if_pos (by omega),rd_nat,wrap_nat hlt hp]
    have hpv:pathV mem (p.getD j ByteArray.empty::p.drop (j+1)) i a=if (mem i (p.getD j ByteArray.empty)).2≠0 then (0,0,(mem i (p.getD j ByteArray.empty)).2) else pathV mem (p.drop (j+1)) (mem i (p.getD j ByteArray.empty)).1.vType.toNat (IntKind.wrap .i64 (a+(mem i (p.getD j ByteArray.empty)).1.vAt)):=rfl
    by_cases h0:(mem i (p.getD j ByteArray.empty)).2=0
    · obtain ⟨h1,h2⟩:=hty h0
      have h3:=ih (j+1) (mem i (p.getD j ByteArray.empty)).1.vType.toNat (IntKind.wrap .i64 (a+(mem i (p.getD j ByteArray.empty)).1.vAt)) (by omega) (by omega)
      rw [if_neg (fun h=>h h0)] at hpv
      rw [hpv]
      refine Ev2.step hev ?_ hstep
      obtain ⟨K,hK⟩:=h3
      refine ⟨K,fun k m hk hm=>?_⟩
      show (if _ then _ else _)=_
      rw [if_neg (bneF (show (partOf (mem i (p.getD j ByteArray.empty))).vE=0 from h0))]
      have:=hK k m hk hm
      rwa [show (((mem i (p.getD j ByteArray.empty)).1.vType.toNat:Nat):Int)=(mem i (p.getD j ByteArray.empty)).1.vType by omega] at this
    · rw [if_pos h0] at hpv
      rw [hpv]
      refine Ev2.step hev ⟨0,fun k m _ _=>?_⟩ hstep
      show (if _ then _ else _)=_
      rw [if_pos (bneT (show (partOf (mem i (p.getD j ByteArray.empty))).vE≠0 from h0)),if_pos h0]
      rfl
theorem Path_both (hF:∀d∈t.vDefs,FitD d) (i:Int) (p:List ByteArray):∃x:Int×Int×Int,Ev (fun k=>ctf_Path.f k t i p) x∧Ev (fun k=>taplineref08_Path.f k t i p) (reachedOf x):=by
  rcases given_both hF i with ⟨e,he,⟨K,hK⟩,⟨K2,hK2⟩⟩|⟨n,l,rfl,hn,W,hv,hs,h1,⟨K2,hK2⟩⟩
  · refine ⟨(0,0,e),⟨K,fun k hk=>?_⟩,⟨K2,fun k hk=>?_⟩⟩
    · show ctf_Path.f k t i p=_
      unfold ctf_Path.f
      rw [show ctf_given.f k t i=_ from hK k hk]
      simp [he]
    · show taplineref08_Path.f k t i p=_
      unfold taplineref08_Path.f
      rw [show taplineref08_given.f k t i=_ from hK2 k hk]
      simp [he,reachedOf]
  · by_cases hp:p.length≤16
    · obtain ⟨mem,hm⟩:=mem_ok W.good
      obtain ⟨h3,_⟩:=Path_ev hm hv hn hp
      refine ⟨_,h3,?_⟩
      have hg:∀n:Nat,n<t.vDefs.length→Ev (fun k=>taplineref08_given.f k t (n:Int)) 0:=fun q hq=>by
        rcases given_both hF (q:Int) with ⟨e,he,h5,h6⟩|⟨_,_,_,_,_,_,_,_,h6⟩
        · exact absurd (h5.uniq (given_in hv hq)) he
        · exact h6
      obtain ⟨K3,hK3⟩:=(rpath_loop hm hg (p:=p) (by omega) p.length 0 n 0 (by omega) hn).diag
      rw [List.drop_zero] at hK3
      refine ⟨max K2 K3,fun k hk=>?_⟩
      show taplineref08_Path.f k t (n:Int) p=_
      unfold taplineref08_Path.f
      rw [show taplineref08_given.f k t (n:Int)=_ from hK2 k (by omega)]
      simp only [Option.bind_some]
      rw [show decide ((p.length:Int)>16)=false from decide_eq_false (by omega)]
      simp only [Bool.and_false,Bool.false_eq_true,if_false,Option.bind_some]
      rw [if_neg (by decide),show taplineref08_Path.l0 k t p k (n:Int) 0 0=_ from hK3 k (by omega)]
      simp only [Option.bind_some]
      generalize pathV mem p n 0=v
      by_cases h0:v.2.2=0
      · rw [if_neg (by simp [h0])]
        obtain ⟨a,b,c⟩:=v
        simp only at h0
        subst h0
        rfl
      · rw [if_pos h0]
    · obtain ⟨K,hK⟩:=h1
      refine ⟨(0,0,2),⟨K,fun k hk=>?_⟩,⟨K2,fun k hk=>?_⟩⟩
      · show ctf_Path.f k t (n:Int) p=_
        unfold ctf_Path.f
        rw [show ctf_given.f k t (n:Int)=_ from hK k hk]
        simp only [Option.bind_some]
        rw [if_neg (by decide),if_pos (decide_eq_true (by omega))]
      · show taplineref08_Path.f k t (n:Int) p=_
        unfold taplineref08_Path.f
        rw [show taplineref08_given.f k t (n:Int)=_ from hK2 k hk]
        simp only [Option.bind_some]
        rw [show decide ((p.length:Int)>16)=true from decide_eq_true (by omega)]
        rfl
theorem Check_both (hF:∀d∈t.vDefs,FitD d):∃e,Ev (fun k=>ctf_Check.f k t) e∧Ev (fun k=>taplineref08_Check.f k t) e:=by
  rcases valid_iff hF with ⟨l,W,⟨K,hK⟩⟩|⟨hno,⟨K,hK⟩⟩
  · rcases rcheck_iff hF with ⟨l2,W2,_,h2⟩|⟨hno,_⟩
    · exact ⟨0,⟨K,fun k hk=>by
        show ctf_Check.f k t=_
        unfold ctf_Check.f
        rw [show ctf_valid.f k t=_ from hK k hk]
        rfl⟩,h2⟩
    · exact absurd W (hno l)
  · rcases rcheck_iff hF with ⟨l2,W2,_,h2⟩|⟨_,h2⟩
    · exact absurd W2 (hno l2)
    · exact ⟨80,⟨K,fun k hk=>by
        show ctf_Check.f k t=_
        unfold ctf_Check.f
        rw [show ctf_valid.f k t=_ from hK k hk]
        rfl⟩,h2⟩
end
theorem strEq_refl (s:ByteArray):strEq s s=true:=strEq_iff.2 rfl
theorem looks_ev {t:api_Types} (hF:∀d∈t.vDefs,FitD d) (x:taplinelaw08_Named):Ev (fun k=>taplinelaw08_CtfLooks.f k t x) true:=by
  obtain ⟨K1,h1⟩:=sane_ev
  obtain ⟨e,⟨K2,h2⟩,⟨K3,h3⟩⟩:=Check_both hF
  obtain ⟨a4,e4,⟨K4,h4⟩,⟨K5,h5⟩⟩:=Size_both hF x.vI
  obtain ⟨a6,e6,⟨K6,h6⟩,⟨K7,h7⟩⟩:=Text_both hF x.vI
  obtain ⟨a8,e8,⟨K8,h8⟩,⟨K9,h9⟩⟩:=Lookup_both hF x.vName
  obtain ⟨a10,e10,⟨K10,h10⟩,⟨K11,h11⟩⟩:=Resolve_both hF x.vI
  obtain ⟨x12,⟨K12,h12⟩,⟨K13,h13⟩⟩:=Member_both hF x.vI x.vName
  obtain ⟨x14,⟨K14,h14⟩,⟨K15,h15⟩⟩:=Path_both hF x.vI x.vPath
  refine ⟨K1+K2+K3+K4+K5+K6+K7+K8+K9+K10+K11+K12+K13+K14+K15,fun k hk=>?_⟩
  show taplinelaw08_CtfLooks.f k t x=_
  unfold taplinelaw08_CtfLooks.f
  have h1:taplinelaw08_sane.f k=some true:=h1 k (by omega)
  have h2:ctf_Check.f k t=some e:=h2 k (by omega)
  have h3:taplineref08_Check.f k t=some e:=h3 k (by omega)
  have h4:ctf_Size.f k t x.vI=some (a4,e4):=h4 k (by omega)
  have h5:taplineref08_Size.f k t x.vI=some ⟨a4,e4⟩:=h5 k (by omega)
  have h6:ctf_Text.f k t x.vI=some (a6,e6):=h6 k (by omega)
  have h7:taplineref08_TextOf.f k t x.vI=some ⟨a6,e6⟩:=h7 k (by omega)
  have h8:ctf_Lookup.f k t x.vName=some (a8,e8):=h8 k (by omega)
  have h9:taplineref08_Lookup.f k t x.vName=some ⟨a8,e8⟩:=h9 k (by omega)
  have h10:ctf_Resolve.f k t x.vI=some (a10,e10):=h10 k (by omega)
  have h11:taplineref08_Resolve.f k t x.vI=some ⟨a10,e10⟩:=h11 k (by omega)
  have h12:ctf_Member.f k t x.vI x.vName=some x12:=h12 k (by omega)
  have h13:taplineref08_Member.f k t x.vI x.vName=some (partOf x12):=h13 k (by omega)
  have h14:ctf_Path.f k t x.vI x.vPath=some x14:=h14 k (by omega)
  have h15:taplineref08_Path.f k t x.vI x.vPath=some (reachedOf x14):=h15 k (by omega)
  rw [h1,h2,h3,h4,h5,h6,h7,h8,h9,h10,h11,h12,h13,h14,h15]
  simp [strEq_refl,partOf,reachedOf]
end Go.Proofs.YtfjppgobidjndaaDoor
