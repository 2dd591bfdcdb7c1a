/- Parts of a proof, merged by program: Q2 Q3 Q4 C0 F18 F53 F20 F59 F117 F85 F103 F60 F28 F105 F62 F30 F35 F106 F107 F109 F108 F70 F69 F37 F42. The walks (each function once) and the plain laws; no condition of their own. -/
import Derived.Test.YtfjppgobidjndaaDoorByt2
import Derived.Test.YtfjppgobidjndaaDoorCards
import Derived.Test.YtfjppgobidjndaaDoorTie
import Derived.WalkKit
import Derived.ProofKit
import Derived.OpenShut
import Derived.Deep.DeepHandedRow
import Derived.Lib.LaidTab
set_option linter.unusedVariables false
set_option linter.unusedSimpArgs false
set_option maxRecDepth 20000
set_option maxHeartbeats 4000000
namespace Go.Proofs.YtfjppgobidjndaaDoor
open Go.RowKit Go.M
theorem drop_getD {α:Type} {l:List α} {j:Nat} (z:α) (h:j<l.length):l.drop j=l.getD j z::l.drop (j+1):=by
 rw [List.drop_eq_getElem_cons h,List.getD_eq_getElem?_getD,List.getElem?_eq_getElem h];rfl
def okByte (i:Nat) (c:Int):Bool:=((decide (c≥97)&&decide (c≤122))||(decide (c≥65)&&decide (c≤90))||(c==95))||(!(i==0)&&decide (c≥48)&&decide (c≤57))
def okFrom:Nat→List Int→Bool
 |_,[]=>true
 |i,c::r=>okByte i c&&okFrom (i+1) r
def nameS (s:ByteArray):Bool:=okFrom 0 (bytesOf s)&& !(strEq s ByteArray.empty)&&decide ((s.size:Int)≤31)
theorem name_loop {s:ByteArray} (hl:(bytesOf s).length≤9223372036854775807):∀(d j m:Nat),j+d=(bytesOf s).length→d<m→
    ctf_isName.l0 s m (j:Int)=some (if okFrom j ((bytesOf s).drop j)=true then .inr () else .inl false):=by
  intro d
  induction d with
  | zero =>
    intro j m hj hm
    obtain ⟨m,rfl⟩:∃q,m=q+1:=⟨m-1,by omega⟩
    rw [ctf_isName.l0,if_neg (by simp;omega),List.drop_eq_nil_of_le (by omega)]
    rfl
  | succ d ih =>
    intro j m hj hm
    obtain ⟨m,rfl⟩:∃q,m=q+1:=⟨m-1,by omega⟩
    have hlt:j<(bytesOf s).length:=by omega
    rw [ctf_isName.l0,if_pos (by simp;omega),if_pos (by omega),rd_nat,drop_getD 0 hlt,wrap_nat hlt hl,ih (j+1) m (by omega) (by omega)]
    have hb:∀c:Int,((!((((decide (c≥97))&&(decide (c≤122)))||((decide (c≥65))&&(decide (c≤90))))||(c==95)))&&(((((j:Nat):Int)==0)||(decide (c<48)))||(decide (c>57))))= !(okByte j c):=by
      intro c
      unfold okByte
      have h1:(((j:Nat):Int)==0)=(j==0):=by cases j<;>simp;omega
      have h2:decide (c<48)= !(decide (c≥48)):=by by_cases h:c<48<;>simp [h]<;>omega
      have h3:decide (c>57)= !(decide (c≤57)):=by by_cases h:c>57<;>simp [h]<;>omega
      rw [h1,h2,h3]
      cases decide (c≥97)<;>cases decide (c≤122)<;>cases decide (c≥65)<;>cases decide (c≤90)<;>cases (c==95)<;>cases (j==0)<;>cases decide (c≥48)<;>cases decide (c≤57)<;>rfl
    rw [hb]
    by_cases h9:okByte j ((bytesOf s).getD j 0)=true
    · simp only [okFrom,h9,Bool.not_true,Bool.false_eq_true,if_false,Bool.true_and]
    · rw [Bool.not_eq_true] at h9
      simp only [okFrom,h9,Bool.not_false,if_true,Bool.false_and,Bool.false_eq_true,if_false]
theorem name_ev {s:ByteArray} (hs:s.size≤9223372036854775807):Ev (fun k=>ctf_isName.f k s) (nameS s):=by
 have hl:=bytesOf_length s
 refine ⟨s.size+1,fun k hk=>?_⟩
 show ctf_isName.f k s=_
 unfold ctf_isName.f
 rw [if_pos hs,show (0:Int)=((0:Nat):Int) from rfl,name_loop (by omega) (bytesOf s).length 0 k (by omega) (by omega),List.drop_zero]
 unfold nameS
 cases okFrom 0 (bytesOf s)<;>simp
def cont (d:api_Def):List Int:=if d.vKind==3||d.vKind==6 then [d.vRef] else if d.vKind==4 then d.vFields.map (·.vType) else []
theorem contained_loop {d:api_Def} (hl:d.vFields.length≤4294967295):∀(e j m:Nat),j+e=d.vFields.length→e<m→
    ctf_contained.l0 d m (j:Int) ((d.vFields.take j).map (·.vType))=some (d.vFields.map (·.vType)):=by
  intro e
  induction e with
  | zero =>
    intro j m hj hm
    obtain ⟨m,rfl⟩:∃q,m=q+1:=⟨m-1,by omega⟩
    rw [ctf_contained.l0,if_neg (by simp;omega),List.take_of_length_le (by omega)]
  | succ e ih =>
    intro j m hj hm
    obtain ⟨m,rfl⟩:∃q,m=q+1:=⟨m-1,by omega⟩
    have hlt:j<d.vFields.length:=by omega
    rw [ctf_contained.l0,if_pos (by simp;omega),if_pos (by omega),if_pos (by simp;omega),rd_nat,wrap_nat hlt (by omega)]
    have:(d.vFields.take j).map (·.vType)++[(d.vFields.getD j z_api_Field).vType]=(d.vFields.take (j+1)).map (·.vType):=by
      rw [List.take_add_one,List.map_append,List.getD_eq_getElem?_getD,List.getElem?_eq_getElem hlt];rfl
    rw [this]
    exact ih (j+1) m (by omega) (by omega)
theorem contained_ev {d:api_Def} (hl:d.vFields.length≤4294967295):Ev (fun k=>ctf_contained.f k d) (cont d):=by
 refine ⟨d.vFields.length+1,fun k hk=>?_⟩
 show ctf_contained.f k d=_
 unfold ctf_contained.f cont
 have:=contained_loop hl d.vFields.length 0 k (by omega) (by omega)
 simp only [List.take_zero,List.map_nil] at this
 rw [show ((0:Nat):Int)=0 from rfl] at this
 rw [this]
 by_cases h3:d.vKind=3
 ·simp [h3]
 ·by_cases h6:d.vKind=6
  ·simp [h6]
  ·by_cases h4:d.vKind=4
   ·simp [h4]
   ·simp [h3,h6,h4]
def shp (k:Int):Option ctf_shape:=
 if k=1 then some ⟨true,true,false,false,false⟩ else if k=2 then some ⟨false,false,true,false,false⟩ else if k=3 then some ⟨false,false,true,true,false⟩
 else if k=4 then some ⟨true,false,false,true,true⟩ else if k=5 then some ⟨true,false,false,false,true⟩ else if k=6 then some ⟨true,false,true,false,false⟩ else none
theorem shapes_find (k:Int):∃m,ctf_shapes.f=some m∧mfind ieq m k=shp k:=by
 refine ⟨_,rfl,?_⟩
 simp only [mput,ieq,Int.reduceBEq,Bool.false_eq_true,if_false,mfind,beq_iff_eq,shp]
def SeenOk (m:List (ByteArray×Bool)) (ns:List ByteArray):Prop:=∀s,(mfind strEq m s).getD false=ns.any (strEq s)
theorem SeenOk.nil:SeenOk [] []:=fun s=>rfl
theorem strEq_comm (a b:ByteArray):strEq a b=strEq b a:=by
  cases h:strEq a b with
  |true=>rw [strEq_iff] at h;subst h;exact (strEq_iff.2 rfl).symm
  | false =>
    cases h2:strEq b a with
    |false=>rfl
    |true=>rw [strEq_iff] at h2;subst h2;rw [strEq_iff.2 rfl] at h;cases h
theorem mfind_mput (m : List (ByteArray × Bool)) (k s : ByteArray) (v : Bool) : mfind strEq (mput strEq m k v) s = if strEq s k = true then some v else mfind strEq m s := by
  induction m with
  |nil=>simp [mput,mfind]
  | cons p m ih =>
    simp only [mput]
    by_cases hk:strEq k p.1=true
    · rw [if_pos hk]
      have:=strEq_iff.1 hk
      simp only [mfind]
      by_cases hs:strEq s k=true
      · rw [if_pos hs,if_pos hs]
      · rw [if_neg hs,if_neg hs,if_neg (by rw [←this];exact hs)]
    · rw [if_neg hk]
      simp only [mfind]
      by_cases hs:strEq s p.1=true
      · rw [if_pos hs]
        have h1:=strEq_iff.1 hs
        subst h1
        rw [if_neg (by rw [strEq_comm];exact hk),if_pos (strEq_iff.2 rfl)]
      · rw [if_neg hs,ih]
        by_cases hsk:strEq s k=true
        · rw [if_pos hsk,if_pos hsk]
        · rw [if_neg hsk,if_neg hsk,if_neg hs]
theorem SeenOk.put {m:List (ByteArray×Bool)} {ns:List ByteArray} (h:SeenOk m ns) (k:ByteArray):SeenOk (mput strEq m k true) (k::ns):=fun s=>by
 rw [mfind_mput,List.any_cons]
 by_cases hs:strEq s k=true
 ·rw [if_pos hs,hs];rfl
 ·rw [if_neg hs,h s]
  have:strEq s k=false:=by simpa using hs
  rw [this];rfl
def fieldOk (d:api_Def) (n:Int) (f:api_Field):Bool:=
 !(((d.vKind==5)&&(((f.vType !=0)||decide (f.vAt<(-2147483648)))||decide (f.vAt>2147483647)))||((d.vKind==4)&&(decide (f.vType<0)||decide (f.vType≥n))))
def fieldsS (d:api_Def) (n:Int):List ByteArray→List api_Field→Bool
 |_,[]=>true
 |ns,f::r=>nameS f.vName&& !(ns.any (strEq f.vName))&&fieldOk d n f&&fieldsS d n (f.vName::ns) r
theorem shaped_loop {d : api_Def} {n : Int} (hl : d.vFields.length ≤ 9223372036854775807) (hz : ∀ f ∈ d.vFields, f.vName.size ≤ 9223372036854775807) : ∀ (e j : Nat) (m : List (ByteArray × Bool)) (ns : List ByteArray), j + e = d.vFields.length → SeenOk m ns →
    ∃v,Ev2 (fun k q=>ctf_shaped.l0 k d n q (j:Int) m) v∧(match v with| .inl b=>b=false∧fieldsS d n ns (d.vFields.drop j)=false| .inr _=>fieldsS d n ns (d.vFields.drop j)=true):=by
  intro e
  induction e with
  | zero =>
    intro j m ns hj hm
    refine ⟨.inr m,Ev2.pure (fun k q=>?_),?_⟩
    · rw [ctf_shaped.l0,if_neg (by simp;omega)]
    · rw [List.drop_eq_nil_of_le (by omega)];rfl
  | succ e ih =>
    intro j m ns hj hm
    have hlt:j<d.vFields.length:=by omega
    have hmem:=getD_mem (z:=z_api_Field) hlt
    obtain ⟨v,hv,hp⟩:=ih (j+1) (mput strEq m (d.vFields.getD j z_api_Field).vName true) ((d.vFields.getD j z_api_Field).vName::ns) (by omega) (hm.put _)
    have hn:=name_ev (hz _ hmem)
    rw [drop_getD z_api_Field hlt]
    have hstep:∀k q,ctf_shaped.l0 k d n (q+1) (j:Int) m=(ctf_isName.f k (d.vFields.getD j z_api_Field).vName).bind fun v4=>if ((!v4)||ns.any (strEq (d.vFields.getD j z_api_Field).vName))=true then some (.inl false) else
        if fieldOk d n (d.vFields.getD j z_api_Field)=false then some (.inl false) else ctf_shaped.l0 k d n q ((j+1:Nat):Int) (mput strEq m (d.vFields.getD j z_api_Field).vName true):=by
      intro k q
      rw [ctf_shaped.l0,if_pos (by simp;omega),if_pos (by omega),rd_nat,wrap_nat hlt hl,hm]
      unfold fieldOk
      simp only [Bool.not_eq_false']
    simp only [fieldsS]
    generalize hf:d.vFields.getD j z_api_Field=f at*
    cases h1:nameS f.vName with
    | false => exact ⟨.inl false, Ev2.step hn (r := fun k q b => if ((!b) || ns.any (strEq f.vName)) = true then some (.inl false) else
        if fieldOk d n f = false then some (.inl false) else ctf_shaped.l0 k d n q ((j + 1 : Nat) : Int) (mput strEq m f.vName true)) ⟨0, fun _ _ _ _ => by simp [h1]⟩ hstep, rfl, by simp⟩
    | true =>
      cases h2:ns.any (strEq f.vName) with
      | true => exact ⟨.inl false, Ev2.step hn (r := fun k q b => if ((!b) || ns.any (strEq f.vName)) = true then some (.inl false) else
        if fieldOk d n f = false then some (.inl false) else ctf_shaped.l0 k d n q ((j + 1 : Nat) : Int) (mput strEq m f.vName true)) ⟨0, fun _ _ _ _ => by simp [h2]⟩ hstep, rfl, by simp⟩
      | false =>
        cases h3:fieldOk d n f with
        | false => exact ⟨.inl false, Ev2.step hn (r := fun k q b => if ((!b) || ns.any (strEq f.vName)) = true then some (.inl false) else
        if fieldOk d n f = false then some (.inl false) else ctf_shaped.l0 k d n q ((j + 1 : Nat) : Int) (mput strEq m f.vName true)) ⟨0, fun _ _ _ _ => by simp [h1, h2, h3]⟩ hstep, rfl, by simp⟩
        | true =>
          refine ⟨v, Ev2.step hn (r := fun k q b => if ((!b) || ns.any (strEq f.vName)) = true then some (.inl false) else
            if fieldOk d n f = false then some (.inl false) else ctf_shaped.l0 k d n q ((j + 1 : Nat) : Int) (mput strEq m f.vName true)) ?_ hstep, ?_⟩
          · obtain ⟨K,hK⟩:=hv
            exact ⟨K,fun k q hk hq=>by simp only [h1,h2,h3];simpa using hK k q hk hq⟩
          · cases v with
            |inl b=>simpa using hp
            |inr b=>simpa using hp
def shapedS (d:api_Def) (n:Int):Bool:=
 match shp d.vKind with
 |none=>false
 |some s=>(if s.vname=true then nameS d.vName else strEq d.vName ByteArray.empty)&&(if s.vint=true then okI d.vInt else ((d.vInt.vSize==0)&&(d.vInt.vSigned==false)))&&
   (if s.vref=true then (decide (0≤d.vRef)&&decide (d.vRef<n)) else (d.vRef==0))&&(if s.vn=true then (decide (1≤d.vN)&&decide (d.vN≤512)) else (d.vN==0))&&
   (s.vfields==decide (0<d.vFields.length))&&decide (d.vFields.length≤32)&&fieldsS d n [] d.vFields
theorem shaped_ev {d : api_Def} {n : Int} (hl : d.vFields.length ≤ 9223372036854775807) (hz : ∀ f ∈ d.vFields, f.vName.size ≤ 9223372036854775807) (hz0 : d.vName.size ≤ 9223372036854775807) :
    Ev (fun k=>ctf_shaped.f k d n) (shapedS d n):=by
  obtain ⟨m,hm,hf⟩:=shapes_find d.vKind
  obtain ⟨Kn,hKn⟩:=name_ev hz0
  obtain ⟨v,hv,hp⟩:=shaped_loop (n:=n) hl hz d.vFields.length 0 [] [] (by omega) SeenOk.nil
  obtain ⟨Kl,hKl⟩:=hv.diag
  refine ⟨max Kn Kl,fun k hk=>?_⟩
  show ctf_shaped.f k d n=_
  have h1:=hKn k (by omega)
  have h2:ctf_shaped.l0 k d n k 0 []=some v:=hKl k (by omega)
  rw [List.drop_zero] at hp
  clear hKl hv
  rcases v with b|b
  · obtain ⟨rfl,hp⟩:=hp
    have h1:ctf_isName.f k d.vName=some (nameS d.vName):=h1
    unfold ctf_shaped.f
    simp only [hm,Option.bind_some,hf,h1,h2,bits_Check.f]
    unfold shapedS
    cases hs:shp d.vKind with
    |none=>simp
    | some s =>
      simp only [Option.isSome_some,Option.getD_some]
      obtain ⟨b1,b2,b3,b4,b5⟩:=s
      have e1:decide (d.vRef<0)= !(decide (0≤d.vRef)):=by by_cases h:d.vRef<0<;>simp [h]<;>omega
      have e2:decide (d.vRef≥n)= !(decide (d.vRef<n)):=by by_cases h:d.vRef<n<;>simp [h]<;>omega
      have e3:decide (d.vN<1)= !(decide (1≤d.vN)):=by by_cases h:d.vN<1<;>simp [h]<;>omega
      have e4:decide (d.vN>512)= !(decide (d.vN≤512)):=by by_cases h:d.vN>512<;>simp [h]<;>omega
      have e5:decide ((d.vFields.length:Int)>0)=decide (0<d.vFields.length):=by by_cases h:0<d.vFields.length<;>simp [h]
      have e6:decide ((d.vFields.length:Int)>32)= !(decide (d.vFields.length≤32)):=by by_cases h:d.vFields.length≤32<;>simp [h]<;>omega
      have e7:(d.vRef !=0)= !(d.vRef==0):=rfl
      have e8:(d.vN !=0)= !(d.vN==0):=rfl
      have e9:∀x:Bool,((if x=true then 0 else 10:Int) !=0)= !x:=fun x=>by cases x<;>rfl
      simp only [e1,e2,e3,e4,e5,e6,e7,e8]
      rw [hp]
      generalize nameS d.vName=c1
      generalize strEq d.vName ByteArray.empty=c2
      generalize okI d.vInt=c3
      generalize (d.vInt.vSize==0)=c4
      generalize (d.vInt.vSigned==false)=c5
      generalize decide (0≤d.vRef)=c6
      generalize decide (d.vRef<n)=c7
      generalize (d.vRef==0)=c8
      generalize decide (1≤d.vN)=c9
      generalize decide (d.vN≤512)=c10
      generalize (d.vN==0)=c11
      generalize decide (0<d.vFields.length)=c12
      generalize decide (d.vFields.length≤32)=c13
      have f1:∀(b c1 c2:Bool) (K:Option Bool),((if (!true)=true then some (!true) else ((if (true&&(b==true))=true then some c1 else some false).bind fun v2=>if (b&& !v2)=true then some (b&& !v2) else some (!b&& !c2)):Option Bool).bind fun xx1=>if xx1=true then some false else K)=if (if b=true then c1 else c2)=true then K else some false:=by
        intro b c1 c2 K;cases b<;>cases c1<;>cases c2<;>rfl
      have f2:∀(b:Bool) (x:Int) (hx:(x !=0)= !c3) (K:Option Bool),((if (true&&(b==true))=true then some x else some 0).bind fun v3=>(((if (b&&(v3 !=0))=true then some (b&&(v3 !=0)) else some (!b&& !(c4&&(c5&&true)))):Option Bool).bind fun xx2=>if xx2=true then some false else K))=if (if b=true then c3 else (c4&&c5))=true then K else some false:=by
        intro b x hx K;cases b
        · cases c4<;>cases c5<;>rfl
        · simp only [Bool.true_and,beq_self_eq_true,if_true,Option.bind_some,hx]
          cases c3<;>rfl
      have f3:∀(b x y z:Bool) (K:Option Bool),(((if (b&&(!x|| !y))=true then some (b&&(!x|| !y)) else some (!b&& !z)):Option Bool).bind fun xx=>if xx=true then some false else K)=if (if b=true then (x&&y) else z)=true then K else some false:=by
        intro b x y z K;cases b<;>cases x<;>cases y<;>cases z<;>rfl
      have f5:∀(b x y:Bool) (K:Option Bool),(((if (b !=x)=true then some (b !=x) else some (!y)):Option Bool).bind fun xx=>if xx=true then some false else K)=if (b==x&&y)=true then K else some false:=by
        intro b x y K;cases b<;>cases x<;>cases y<;>rfl
      rw [f1,f2 _ _ (e9 c3),f3,f3,f5]
      generalize (if b1=true then c1 else c2)=t1
      generalize (if b2=true then c3 else (c4&&c5))=t2
      generalize (if b3=true then (c6&&c7) else c8)=t3
      generalize (if b4=true then (c9&&c10) else c11)=t4
      generalize (b5==c12)=t5
      cases t1<;>cases t2<;>cases t3<;>cases t4<;>cases t5<;>cases c13<;>rfl
  · simp only at hp
    have h1:ctf_isName.f k d.vName=some (nameS d.vName):=h1
    unfold ctf_shaped.f
    simp only [hm,Option.bind_some,hf,h1,h2,bits_Check.f]
    unfold shapedS
    cases hs:shp d.vKind with
    |none=>simp
    | some s =>
      simp only [Option.isSome_some,Option.getD_some]
      obtain ⟨b1,b2,b3,b4,b5⟩:=s
      have e1:decide (d.vRef<0)= !(decide (0≤d.vRef)):=by by_cases h:d.vRef<0<;>simp [h]<;>omega
      have e2:decide (d.vRef≥n)= !(decide (d.vRef<n)):=by by_cases h:d.vRef<n<;>simp [h]<;>omega
      have e3:decide (d.vN<1)= !(decide (1≤d.vN)):=by by_cases h:d.vN<1<;>simp [h]<;>omega
      have e4:decide (d.vN>512)= !(decide (d.vN≤512)):=by by_cases h:d.vN>512<;>simp [h]<;>omega
      have e5:decide ((d.vFields.length:Int)>0)=decide (0<d.vFields.length):=by by_cases h:0<d.vFields.length<;>simp [h]
      have e6:decide ((d.vFields.length:Int)>32)= !(decide (d.vFields.length≤32)):=by by_cases h:d.vFields.length≤32<;>simp [h]<;>omega
      have e7:(d.vRef !=0)= !(d.vRef==0):=rfl
      have e8:(d.vN !=0)= !(d.vN==0):=rfl
      have e9:∀x:Bool,((if x=true then 0 else 10:Int) !=0)= !x:=fun x=>by cases x<;>rfl
      simp only [e1,e2,e3,e4,e5,e6,e7,e8]
      rw [hp]
      generalize nameS d.vName=c1
      generalize strEq d.vName ByteArray.empty=c2
      generalize okI d.vInt=c3
      generalize (d.vInt.vSize==0)=c4
      generalize (d.vInt.vSigned==false)=c5
      generalize decide (0≤d.vRef)=c6
      generalize decide (d.vRef<n)=c7
      generalize (d.vRef==0)=c8
      generalize decide (1≤d.vN)=c9
      generalize decide (d.vN≤512)=c10
      generalize (d.vN==0)=c11
      generalize decide (0<d.vFields.length)=c12
      generalize decide (d.vFields.length≤32)=c13
      have f1:∀(b c1 c2:Bool) (K:Option Bool),((if (!true)=true then some (!true) else ((if (true&&(b==true))=true then some c1 else some false).bind fun v2=>if (b&& !v2)=true then some (b&& !v2) else some (!b&& !c2)):Option Bool).bind fun xx1=>if xx1=true then some false else K)=if (if b=true then c1 else c2)=true then K else some false:=by
        intro b c1 c2 K;cases b<;>cases c1<;>cases c2<;>rfl
      have f2:∀(b:Bool) (x:Int) (hx:(x !=0)= !c3) (K:Option Bool),((if (true&&(b==true))=true then some x else some 0).bind fun v3=>(((if (b&&(v3 !=0))=true then some (b&&(v3 !=0)) else some (!b&& !(c4&&(c5&&true)))):Option Bool).bind fun xx2=>if xx2=true then some false else K))=if (if b=true then c3 else (c4&&c5))=true then K else some false:=by
        intro b x hx K;cases b
        · cases c4<;>cases c5<;>rfl
        · simp only [Bool.true_and,beq_self_eq_true,if_true,Option.bind_some,hx]
          cases c3<;>rfl
      have f3:∀(b x y z:Bool) (K:Option Bool),(((if (b&&(!x|| !y))=true then some (b&&(!x|| !y)) else some (!b&& !z)):Option Bool).bind fun xx=>if xx=true then some false else K)=if (if b=true then (x&&y) else z)=true then K else some false:=by
        intro b x y z K;cases b<;>cases x<;>cases y<;>cases z<;>rfl
      have f5:∀(b x y:Bool) (K:Option Bool),(((if (b !=x)=true then some (b !=x) else some (!y)):Option Bool).bind fun xx=>if xx=true then some false else K)=if (b==x&&y)=true then K else some false:=by
        intro b x y K;cases b<;>cases x<;>cases y<;>rfl
      rw [f1,f2 _ _ (e9 c3),f3,f3,f5]
      generalize (if b1=true then c1 else c2)=t1
      generalize (if b2=true then c3 else (c4&&c5))=t2
      generalize (if b3=true then (c6&&c7) else c8)=t3
      generalize (if b4=true then (c9&&c10) else c11)=t4
      generalize (b5==c12)=t5
      cases t1<;>cases t2<;>cases t3<;>cases t4<;>cases t5<;>cases c13<;>rfl
def nval (d:api_Def) (inner:Int):Int:=
 if d.vKind=1 then d.vInt.vSize else if d.vKind=2 then 8 else if d.vKind=3 then IntKind.wrap .i64 (d.vN*inner) else if d.vKind=4 then d.vN else if d.vKind=5 then 4 else if d.vKind=6 then inner else 0
theorem nval_eq (d:api_Def) (inner:Int):((mfind ieq (mput ieq (mput ieq (mput ieq (mput ieq (mput ieq (mput ieq ([]:List (Int×Int)) 1 d.vInt.vSize) 2 8) 3 (IntKind.wrap .i64 (d.vN*inner))) 4 d.vN) 5 4) 6 inner) d.vKind).getD 0)=nval d inner:=by
 simp only [mput,ieq,Int.reduceBEq,Bool.false_eq_true,if_false,mfind,beq_iff_eq,nval]
 repeat' split
 all_goals rfl
structure ShD (d:api_Def) (n:Nat):Prop where
 kind:1≤d.vKind∧d.vKind≤6
 ref:d.vKind=2∨d.vKind=3∨d.vKind=6→0≤d.vRef∧d.vRef<n
 num:d.vKind=3∨d.vKind=4→1≤d.vN∧d.vN≤512
 int:d.vKind=1→d.vInt.vSize=1∨d.vInt.vSize=2∨d.vInt.vSize=4∨d.vInt.vSize=8
 few:d.vFields.length≤32
 typ:d.vKind=4→∀f∈d.vFields,0≤f.vType∧f.vType<n
 names:(d.vFields.map (·.vName)).Nodup
theorem fields_of {d : api_Def} {n : Int} : ∀ (ns : List ByteArray) (l : List api_Field), fieldsS d n ns l = true → (∀ f ∈ l, nameS f.vName = true ∧ fieldOk d n f = true ∧ f.vName ∉ ns) ∧ (l.map (·.vName)).Nodup
  |_,[],_=>⟨by simp,by simp⟩
  | ns, f :: r, h => by
    simp only [fieldsS,Bool.and_eq_true,Bool.not_eq_true'] at h
    obtain ⟨⟨⟨h1,h2⟩,h3⟩,h4⟩:=h
    obtain ⟨h5,h6⟩:=fields_of _ r h4
    have hn:f.vName∉ns:=fun hm=>by
      have:=List.any_eq_false.1 h2 f.vName hm
      exact this (strEq_iff.2 rfl)
    refine ⟨fun g hg=>?_,?_⟩
    · rcases List.mem_cons.1 hg with rfl|hg
      · exact ⟨h1,h3,hn⟩
      · obtain ⟨a,b,c⟩:=h5 g hg
        exact ⟨a,b,fun hm=>c (List.mem_cons_of_mem _ hm)⟩
    · rw [List.map_cons,List.nodup_cons]
      refine ⟨fun hm=>?_,h6⟩
      obtain ⟨g,hg,e⟩:=List.mem_map.1 hm
      exact (h5 g hg).2.2 (by rw [e];exact List.mem_cons_self)
theorem shaped_of {d:api_Def} {n:Nat} (h:shapedS d (n:Int)=true):ShD d n:=by
  unfold shapedS at h
  cases hs:shp d.vKind with
  |none=>rw [hs] at h;cases h
  | some s =>
    rw [hs] at h
    simp only [Bool.and_eq_true,decide_eq_true_eq] at h
    obtain ⟨⟨⟨⟨⟨⟨h1,h2⟩,h3⟩,h4⟩,h5⟩,h6⟩,h7⟩:=h
    obtain ⟨h8,h9⟩:=fields_of _ _ h7
    unfold shp at hs
    refine ⟨?_,?_,?_,?_,h6,?_,h9⟩
    · repeat' split at hs
      all_goals first|(cases hs;done)|omega
    · intro hk
      repeat' split at hs
      all_goals first|(cases hs;done)|(injection hs with hs;subst hs;simp at h3;omega)|omega
    · intro hk
      repeat' split at hs
      all_goals first|(cases hs;done)|(injection hs with hs;subst hs;simp at h4;omega)|omega
    · intro hk
      rw [if_pos hk] at hs
      injection hs with hs
      subst hs
      simp only [if_true] at h2
      simp only [okI,Bool.or_eq_true,beq_iff_eq] at h2
      omega
    · intro hk f hf
      have:=(h8 f hf).2.1
      simp only [fieldOk,hk] at this
      simp at this
      omega
theorem cont_range {d:api_Def} {n:Nat} (h:ShD d n):∀c∈cont d,0≤c∧c<n:=by
 intro c hc
 unfold cont at hc
 split at hc
 ·rename_i hk
  simp only [Bool.or_eq_true,beq_iff_eq] at hk
  obtain rfl:=List.mem_singleton.1 hc
  exact h.ref (by omega)
 ·split at hc
  ·rename_i hk
   simp only [beq_iff_eq] at hk
   obtain ⟨f,hf,rfl⟩:=List.mem_map.1 hc
   exact h.typ hk f hf
  ·cases hc
def cnt (l:List Bool):Nat:=(l.filter fun b=> !b).length
theorem cnt_le:∀(a b:List Bool),a.length=b.length→(∀j,a.getD j false=true→b.getD j false=true)→cnt b≤cnt a
  |[],[],_,_=>Nat.le_refl _
  |[],_::_,h,_=>by simp at h
  |_::_,[],h,_=>by simp at h
  | x :: a, y :: b, h, hj => by
    have h1:=cnt_le a b (by simpa using h) (fun j hh=>by simpa using hj (j+1) (by simpa using hh))
    have h2:=hj 0
    simp only [List.getD_cons_zero] at h2
    unfold cnt at*
    cases x<;>cases y<;>simp_all<;>omega
theorem cnt_set:∀(a:List Bool) (i:Nat),i<a.length→a.getD i false=false→cnt (a.set i true)+1=cnt a
  |[],i,h,_=>by simp at h
  | x :: a, 0, h, hi => by
    simp only [List.getD_cons_zero] at hi
    subst hi
    simp [cnt]
  | x :: a, i + 1, h, hi => by
    have:=cnt_set a i (by simpa using h) (by simpa using hi)
    unfold cnt at*
    cases x<;>simp_all<;>omega
theorem getD_set {α:Type} {z v:α} {l:List α} {i j:Nat} (hi:i<l.length):(l.set i v).getD j z=if i=j then v else l.getD j z:=by
 by_cases h:i=j
 ·subst h;simp [List.getD_eq_getElem?_getD,hi]
 ·simp [List.getD_eq_getElem?_getD,List.getElem?_set_ne h,h]
section
variable (defs:List api_Def)
def inner (out:List Int) (d:api_Def):Int:=(cont d).foldl (fun _ c=>out.getD c.toNat 0) 0
def Jn (out:List Int):Prop:=∃(rk:Nat→Nat) (B:Nat),∀j,j<defs.length→0<out.getD j 0→
 rk j<B∧out.getD j 0≤512∧(∀c∈cont (defs.getD j z_api_Def),0<out.getD c.toNat 0∧rk c.toNat<rk j)∧out.getD j 0=nval (defs.getD j z_api_Def) (inner out (defs.getD j z_api_Def))
structure Post (out:List Int) (ok:Bool) (bg:List Bool) (out':List Int) (ok':Bool) (bg':List Bool):Prop where
 lo:out'.length=defs.length
 lb:bg'.length=defs.length
 bgm:∀j,bg.getD j false=true→bg'.getD j false=true
 okm:ok'=true→ok=true
 keep:ok'=true→∀j,0<out.getD j 0→out'.getD j 0=out.getD j 0
 stack:ok'=true→∀j,bg.getD j false=true→out.getD j 0≤0→out'.getD j 0≤0
 jn:ok'=true→Jn defs out→Jn defs out'
variable {defs}
theorem Post.rfl' {out:List Int} {ok:Bool} {bg:List Bool} (h1:out.length=defs.length) (h2:bg.length=defs.length):Post defs out ok bg out ok bg:=
 ⟨h1,h2,fun _ h=>h,fun h=>h,fun _ _ _=>rfl,fun _ _ _ h=>h,fun _ h=>h⟩
theorem Post.trans {o1 o2 o3:List Int} {k1 k2 k3:Bool} {b1 b2 b3:List Bool} (h:Post defs o1 k1 b1 o2 k2 b2) (g:Post defs o2 k2 b2 o3 k3 b3):Post defs o1 k1 b1 o3 k3 b3:=by
 refine ⟨g.lo,g.lb,fun j hj=>g.bgm j (h.bgm j hj),fun hk=>h.okm (g.okm hk),fun hk j hj=>?_,fun hk j hb ho=>?_,fun hk hJ=>g.jn hk (h.jn (g.okm hk) hJ)⟩
 ·have:=h.keep (g.okm hk) j hj
  rw [g.keep hk j (by rw [this];exact hj),this]
 ·exact g.stack hk j (h.bgm j hb) (h.stack (g.okm hk) j hb ho)
def CallT (i:Nat) (out:List Int) (ok:Bool) (bg:List Bool):Prop:=∃r out' ok' bg',Ev (fun k=>ctf_sizes_1.f k (i:Int) out ok bg defs) (r,out',ok',bg')∧Post defs out ok bg out' ok' bg'∧(ok'=true→Jn defs out→0<r∧r=out'.getD i 0)
theorem sizes_loop {c0 : Nat} (v1 : List Int) (hv : ∀ c ∈ v1, 0 ≤ c ∧ c < (defs.length : Int)) (hvl : v1.length ≤ 9223372036854775807)
    (hc:∀i out ok bg,i<defs.length→out.length=defs.length→bg.length=defs.length→cnt bg<c0→CallT (defs:=defs) i out ok bg):
    ∀(e j:Nat) (inn:Int) (out:List Int) (ok:Bool) (bg:List Bool),j+e=v1.length→out.length=defs.length→bg.length=defs.length→cnt bg<c0→
    ∃ inn' out' ok' bg', (∃ K, ∀ k m, K ≤ k → K ≤ m → ctf_sizes_1.l0 (ctf_sizes_1.f k) defs v1 m inn (j : Int) ok out bg = some (inn', ok', out', bg')) ∧ Post defs out ok bg out' ok' bg' ∧
      (ok'=true→Jn defs out→(∀c∈v1.drop j,0<out'.getD c.toNat 0)∧inn'=(v1.drop j).foldl (fun _ c=>out'.getD c.toNat 0) inn):=by
  intro e
  induction e with
  | zero =>
    intro j inn out ok bg hj h1 h2 h3
    refine ⟨inn,out,ok,bg,⟨1,fun k m _ hm=>?_⟩,Post.rfl' h1 h2,fun _ _=>?_⟩
    · obtain ⟨m,rfl⟩:∃q,m=q+1:=⟨m-1,by omega⟩
      rw [ctf_sizes_1.l0,if_neg (by simp;omega)]
    · rw [List.drop_eq_nil_of_le (by omega)];simp
  | succ e ih =>
    intro j inn out ok bg hj h1 h2 h3
    have hlt:j<v1.length:=by omega
    have hm:=hv _ (getD_mem (z:=0) hlt)
    obtain ⟨i,hi⟩:∃i:Nat,v1.getD j 0=(i:Int):=⟨(v1.getD j 0).toNat,by omega⟩
    obtain ⟨r,o1,k1,b1,⟨K1,hK1⟩,hP1,hr1⟩:=hc i out ok bg (by omega) h1 h2 h3
    have hcl:=cnt_le bg b1 (by rw [h2,hP1.lb]) hP1.bgm
    obtain ⟨inn',o2,k2,b2,⟨K2,hK2⟩,hP2,hr2⟩:=ih (j+1) r o1 k1 b1 (by omega) hP1.lo hP1.lb (by omega)
    refine ⟨inn',o2,k2,b2,⟨max K1 K2+1,fun k m hk hm'=>?_⟩,hP1.trans hP2,fun hok hJ=>?_⟩
    · obtain ⟨m,rfl⟩:∃q,m=q+1:=⟨m-1,by omega⟩
      rw [ctf_sizes_1.l0,if_pos (by simp;omega),if_pos (by omega),rd_nat,hi,show ctf_sizes_1.f k _ _ _ _ _=_ from hK1 k (by omega)]
      simp only [Option.bind_some]
      rw [wrap_nat hlt hvl]
      exact hK2 k m (by omega) (by omega)
    · obtain ⟨h5,h6⟩:=hr2 hok (hP1.jn (hP2.okm hok) hJ)
      obtain ⟨h7,h8⟩:=hr1 (hP2.okm hok) hJ
      have h9:=hP2.keep hok i (by rw [←h8];exact h7)
      rw [drop_getD 0 hlt,hi]
      refine ⟨fun c hc'=>?_,?_⟩
      · rcases List.mem_cons.1 hc' with rfl|hc'
        · simp only [Int.toNat_natCast]
          rw [h9,←h8];exact h7
        · exact h5 c hc'
      · rw [List.foldl_cons,h6]
        simp only [Int.toNat_natCast]
        rw [h9,←h8]
theorem sizes_call (hS : ∀ d ∈ defs, ShD d defs.length) : ∀ (c : Nat) (i : Nat) (out : List Int) (ok : Bool) (bg : List Bool), i < defs.length → out.length = defs.length → bg.length = defs.length → cnt bg = c → CallT (defs := defs) i out ok bg := by
  intro c
  induction c using Nat.strongRecOn with
  | _ c ihc =>
    intro i out ok bg hi h1 h2 hcnt
    by_cases hA:0<out.getD i 0∨ok=false
    · refine ⟨out.getD i 0,out,ok,bg,⟨1,fun k hk=>?_⟩,Post.rfl' h1 h2,fun hk _=>?_⟩
      · obtain ⟨k,rfl⟩:∃q,k=q+1:=⟨k-1,by omega⟩
        show ctf_sizes_1.f (k+1) _ _ _ _ _=_
        rw [ctf_sizes_1.f, if_pos (by omega), rd_nat, if_pos (by
          rcases hA with h|h
          · simp only [Bool.or_eq_true,decide_eq_true_eq];exact .inl h
          · simp [h]), if_pos (by omega)]
      · rcases hA with h|h
        · exact ⟨h,rfl⟩
        · rw [h] at hk;cases hk
    · have hA1:¬0<out.getD i 0:=fun h=>hA (.inl h)
      have hok:ok=true:=by cases ok with
        |true=>rfl
        |false=>exact absurd (.inr rfl) hA
      subst hok
      cases hb:bg.getD i false with
      | true =>
        refine ⟨0,out,false,bg,⟨1,fun k hk=>?_⟩,⟨h1,h2,fun _ h=>h,(fun h=>by cases h),(fun h=>by cases h),(fun h=>by cases h),(fun h=>by cases h)⟩,(fun h _=>by cases h)⟩
        obtain ⟨k,rfl⟩:∃q,k=q+1:=⟨k-1,by omega⟩
        show ctf_sizes_1.f (k+1) _ _ _ _ _=_
        rw [ctf_sizes_1.f,if_pos (by omega),rd_nat,if_neg (by simp only [Bool.not_true,Bool.or_false,decide_eq_true_eq];exact hA1),if_pos (by omega),rd_nat,if_pos hb]
      | false =>
        have hd:=hS _ (getD_mem (z:=z_api_Def) hi)
        have hcr:=cont_range hd
        have hcs:=cnt_set bg i (by omega) hb
        have hlenc:(cont (defs.getD i z_api_Def)).length≤9223372036854775807:=by
          have:=hd.few
          unfold cont
          split
          · simp
          · split
            · rw [List.length_map];omega
            · simp
        obtain ⟨Kc,hKc⟩:=contained_ev (d:=defs.getD i z_api_Def) (by have:=hd.few;omega)
        obtain ⟨inn,o1,k1,b1,⟨K1,hK1⟩,hP,hr⟩:=sizes_loop (defs:=defs) (c0:=c) (cont (defs.getD i z_api_Def)) hcr hlenc (fun i' out' ok' bg' a b c' d=>ihc (cnt bg') d i' out' ok' bg' a b c' rfl)
          (cont (defs.getD i z_api_Def)).length 0 0 out true (bg.set i true) (by omega) h1 (by simpa using h2) (by omega)
        rw [List.drop_zero] at hr
        have hb1:(bg.set i true).getD i false=true:=by rw [getD_set (by omega),if_pos rfl]
        have hbm:∀j,bg.getD j false=true→(bg.set i true).getD j false=true:=fun j hj=>by
          rw [getD_set (by omega)]
          split
          · rfl
          · exact hj
        have fin : Jn defs out → (k1 && decide (nval (defs.getD i z_api_Def) inn ≤ 512)) = true → 0 < nval (defs.getD i z_api_Def) inn ∧ Jn defs (o1.set i (nval (defs.getD i z_api_Def) inn)) := by
          intro hJ hk
          simp only [Bool.and_eq_true,decide_eq_true_eq] at hk
          obtain ⟨hk1,hn512⟩:=hk
          obtain ⟨hr1,hr2⟩:=hr hk1 hJ
          have hi0:=hP.stack hk1 i hb1 (by omega)
          have hJ1:=hP.jn hk1 hJ
          have hinn:inn=inner o1 (defs.getD i z_api_Def):=hr2
          have hnpos:0<nval (defs.getD i z_api_Def) inn:=by
            obtain ⟨rk,B,hB⟩:=hJ1
            have href:(defs.getD i z_api_Def).vKind=3∨(defs.getD i z_api_Def).vKind=6→0<inn∧inn≤512:=by
              intro hk
              have hcd:cont (defs.getD i z_api_Def)=[(defs.getD i z_api_Def).vRef]:=by
                unfold cont
                rw [if_pos (by simp only [Bool.or_eq_true,beq_iff_eq];exact hk)]
              rw [hcd] at hr1 hcr
              have h5:=hr1 _ (List.mem_singleton.2 rfl)
              have h6:=hcr _ (List.mem_singleton.2 rfl)
              have h7:=hB (defs.getD i z_api_Def).vRef.toNat (by omega) h5
              rw [hinn]
              unfold inner
              rw [hcd]
              simp only [List.foldl_cons,List.foldl_nil]
              exact ⟨h5,h7.2.1⟩
            have hkd:=hd.kind
            have hnum:=hd.num
            have hint:=hd.int
            unfold nval
            by_cases e1:(defs.getD i z_api_Def).vKind=1
            · rw [if_pos e1];have:=hint e1;omega
            · rw [if_neg e1]
              by_cases e2:(defs.getD i z_api_Def).vKind=2
              · rw [if_pos e2];decide
              · rw [if_neg e2]
                by_cases e3:(defs.getD i z_api_Def).vKind=3
                · rw [if_pos e3]
                  obtain ⟨h5,h6⟩:=href (.inl e3)
                  obtain ⟨h7,h8⟩:=hnum (.inl e3)
                  have h9:(defs.getD i z_api_Def).vN*inn≤512*512:=Int.mul_le_mul h8 h6 (by omega) (by omega)
                  have h10:0<(defs.getD i z_api_Def).vN*inn:=Int.mul_pos (by omega) h5
                  rw [wrap_id (by omega) (by omega)]
                  exact h10
                · rw [if_neg e3]
                  by_cases e4:(defs.getD i z_api_Def).vKind=4
                  · rw [if_pos e4];have:=hnum (.inr e4);omega
                  · rw [if_neg e4]
                    by_cases e5:(defs.getD i z_api_Def).vKind=5
                    · rw [if_pos e5];decide
                    · rw [if_neg e5,if_pos (by omega)]
                      exact (href (.inr (by omega))).1
          refine ⟨hnpos,?_⟩
          obtain ⟨rk,B,hB⟩:=hJ1
          have hne:∀c:Int,0<o1.getD c.toNat 0→¬i=c.toNat:=fun c hc e=>by rw [←e] at hc;omega
          have hset:∀j,¬i=j→(o1.set i (nval (defs.getD i z_api_Def) inn)).getD j 0=o1.getD j 0:=fun j hj=>by rw [getD_set (by rw [hP.lo];exact hi),if_neg hj]
          have hin:∀d:api_Def,(∀c∈cont d,0<o1.getD c.toNat 0)→inner (o1.set i (nval (defs.getD i z_api_Def) inn)) d=inner o1 d:=by
            intro d hcd
            have key:∀(l:List Int) (z0:Int),(∀c∈l,0<o1.getD c.toNat 0)→l.foldl (fun _ c=>(o1.set i (nval (defs.getD i z_api_Def) inn)).getD c.toNat 0) z0=l.foldl (fun _ c=>o1.getD c.toNat 0) z0:=by
              intro l
              induction l with
              |nil=>intro _ _;rfl
              | cons c l ihl =>
                intro z0 hcd
                rw [List.foldl_cons,List.foldl_cons,hset _ (hne c (hcd c List.mem_cons_self))]
                exact ihl _ (fun c hc=>hcd c (List.mem_cons_of_mem _ hc))
            exact key _ _ hcd
          refine ⟨fun j=>if i=j then B else rk j,B+1,fun j hj hpos=>?_⟩
          show (if i=j then B else rk j)<B+1∧_∧(∀c:Int,c∈cont (defs.getD j z_api_Def)→_∧(if i=c.toNat then B else rk c.toNat)<(if i=j then B else rk j))∧_
          by_cases hij:i=j
          · subst hij
            rw [getD_set (by rw [hP.lo];exact hi),if_pos rfl,if_pos rfl]
            refine ⟨by omega,hn512,fun c hc=>?_,?_⟩
            · have h5:=hr1 c hc
              have h6:=hcr c hc
              rw [hset _ (hne c h5),if_neg (hne c h5)]
              exact ⟨h5,(hB c.toNat (by omega) h5).1⟩
            · rw [hin _ hr1,←hinn]
          · rw [hset j hij] at hpos⊢
            obtain ⟨h5,h6,h7,h8⟩:=hB j hj hpos
            rw [if_neg hij]
            refine ⟨by omega,h6,fun c hc=>?_,?_⟩
            · obtain ⟨h9,h10⟩:=h7 c hc
              rw [hset _ (hne c h9),if_neg (hne c h9)]
              exact ⟨h9,h10⟩
            · rw [hin _ (fun c hc=>(h7 c hc).1)];exact h8
        refine ⟨nval (defs.getD i z_api_Def) inn,o1.set i (nval (defs.getD i z_api_Def) inn),k1&&decide (nval (defs.getD i z_api_Def) inn≤512),b1,⟨max Kc K1+1,fun k hk=>?_⟩,?_,?_⟩
        · obtain ⟨k,rfl⟩:∃q,k=q+1:=⟨k-1,by omega⟩
          show ctf_sizes_1.f (k+1) _ _ _ _ _=_
          rw [ctf_sizes_1.f,if_pos (by omega),rd_nat,if_neg (by simp only [Bool.not_true,Bool.or_false,decide_eq_true_eq];exact hA1),if_pos (by omega),rd_nat,if_neg (by rw [hb];simp),if_pos (by omega),if_pos (by omega),rd_nat,show ctf_contained.f k _=_ from hKc k (by omega)]
          simp only [Option.bind_some,Int.toNat_natCast]
          rw [show ctf_sizes_1.l0 (ctf_sizes_1.f k) defs _ k 0 0 true out _=_ from hK1 k k (by omega) (by omega)]
          simp only [Option.bind_some]
          rw [if_pos (by rw [hP.lo];omega)]
          simp only [nval_eq]
        · refine ⟨by simp [hP.lo],hP.lb,fun j hj=>hP.bgm j (hbm j hj),fun _=>rfl,fun hk j hj=>?_,fun hk j hj ho=>?_,fun hk hJ=>?_⟩
          · have hk1:k1=true:=by simp only [Bool.and_eq_true] at hk;exact hk.1
            rw [getD_set (by rw [hP.lo];exact hi),if_neg (fun e=>hA1 (by subst e;exact hj))]
            exact hP.keep hk1 j hj
          · have hk1:k1=true:=by simp only [Bool.and_eq_true] at hk;exact hk.1
            rw [getD_set (by rw [hP.lo];exact hi),if_neg (fun e=>by subst e;rw [hb] at hj;cases hj)]
            exact hP.stack hk1 j (hbm j hj) ho
          · exact (fin hJ hk).2
        · intro hk hJ
          refine ⟨(fin hJ hk).1,?_⟩
          rw [getD_set (by rw [hP.lo];exact hi),if_pos rfl]
end
theorem Jn.zero {defs : List api_Def} {n : Nat} : Jn defs (List.replicate n 0) := ⟨fun _ => 0, 0, fun j hj h => by
 exfalso
 rw [List.getD_eq_getElem?_getD,List.getElem?_replicate] at h
 split at h <;> simp at h⟩
theorem all_loop {t : api_Types} (hS : ∀ d ∈ t.vDefs, ShD d t.vDefs.length) (hn : t.vDefs.length ≤ 9223372036854775807) : ∀ (e j : Nat) (ok : Bool) (bg : List Bool) (out : List Int), j + e = t.vDefs.length → out.length = t.vDefs.length → bg.length = t.vDefs.length →
    ∃ok' bg' out',Ev2 (fun k m=>ctf_sizes.l0 k t m (j:Int) ok bg out) (ok',bg',out')∧Post t.vDefs out ok bg out' ok' bg'∧(ok'=true→Jn t.vDefs out→∀q,j≤q→q<t.vDefs.length→0<out'.getD q 0):=by
  intro e
  induction e with
  | zero =>
    intro j ok bg out hj h1 h2
    refine ⟨ok,bg,out,Ev2.pure (fun k m=>?_),Post.rfl' h1 h2,fun _ _ q hq hq2=>by omega⟩
    rw [ctf_sizes.l0,if_neg (by simp;omega)]
  | succ e ih =>
    intro j ok bg out hj h1 h2
    have hlt:j<t.vDefs.length:=by omega
    obtain ⟨r,o1,k1,b1,hE,hP1,hr1⟩:=sizes_call hS (cnt bg) j out ok bg hlt h1 h2 rfl
    obtain ⟨ok',bg',out',hE2,hP2,hr2⟩:=ih (j+1) k1 b1 o1 (by omega) hP1.lo hP1.lb
    refine ⟨ok',bg',out',Ev2.step hE (r:=fun k m (v1:Int×List Int×Bool×List Bool)=>ctf_sizes.l0 k t m (IntKind.wrap .i64 ((j:Int)+1)) v1.2.2.1 v1.2.2.2 v1.2.1) ?_ (fun k m=>?_),hP1.trans hP2,fun hok hJ q hq hq2=>?_⟩
    · simp only
      rw [wrap_nat hlt hn]
      exact hE2
    · rw [ctf_sizes.l0,if_pos (by simp;omega)]
    · by_cases hqj:q=j
      · subst hqj
        obtain ⟨h3,h4⟩:=hr1 (hP2.okm hok) hJ
        rw [hP2.keep hok q (by rw [←h4];exact h3),←h4]
        exact h3
      · exact hr2 hok (hP1.jn (hP2.okm hok) hJ) q (by omega) hq2
theorem sizes_ev {t:api_Types} (hS:∀d∈t.vDefs,ShD d t.vDefs.length) (hn:t.vDefs.length≤200):∃out ok,Ev (fun k=>ctf_sizes.f k t) (out,ok)∧out.length=t.vDefs.length∧(ok=true→Jn t.vDefs out∧∀q,q<t.vDefs.length→0<out.getD q 0):=by
 obtain ⟨ok,bg,out,hE,hP,hr⟩:=all_loop hS (by omega) t.vDefs.length 0 true (List.replicate t.vDefs.length false) (List.replicate t.vDefs.length 0) (by omega) (by simp) (by simp)
 obtain ⟨K,hK⟩:=hE.diag
 refine ⟨out,ok,⟨K,fun k hk=>?_⟩,hP.lo,fun hok=>⟨hP.jn hok Jn.zero,fun q hq=>hr hok Jn.zero q (by omega) hq⟩⟩
 show ctf_sizes.f k t=_
 unfold ctf_sizes.f
 rw [if_pos (by omega),if_pos (by omega)]
 simp only [Int.toNat_natCast]
 rw [show ctf_sizes.l0 k t k 0 true _ _=_ from hK k hk]
 rfl
def placedAt (l:List Int):Int→List api_Field→Option Int
 |at_,[]=>some at_
 |at_,f::r=>if ((decide (f.vAt<at_))||(decide (f.vAt>512)))=true then none else placedAt l (IntKind.wrap .i64 (f.vAt+rd 0 l f.vType)) r
def placedS (d:api_Def) (l:List Int):Bool:=match placedAt l 0 d.vFields with|none=>false|some e=>decide (e≤d.vN)
theorem placed_loop {d:api_Def} {l:List Int} (hl:d.vFields.length≤9223372036854775807) (ht:∀f∈d.vFields,0≤f.vType∧f.vType<l.length):∀(e j m:Nat) (at_:Int),j+e=d.vFields.length→e<m→
    ctf_placed.l0 d l m at_ (j:Int)=some (match placedAt l at_ (d.vFields.drop j) with|none=> .inl false|some a=> .inr a):=by
  intro e
  induction e with
  | zero =>
    intro j m at_ hj hm
    obtain ⟨m,rfl⟩:∃q,m=q+1:=⟨m-1,by omega⟩
    rw [ctf_placed.l0,if_neg (by simp;omega),List.drop_eq_nil_of_le (by omega)]
    rfl
  | succ e ih =>
    intro j m at_ hj hm
    obtain ⟨m,rfl⟩:∃q,m=q+1:=⟨m-1,by omega⟩
    have hlt:j<d.vFields.length:=by omega
    have hf:=ht _ (getD_mem (z:=z_api_Field) hlt)
    rw [ctf_placed.l0,if_pos (by simp;omega),if_pos (by omega),rd_nat,drop_getD z_api_Field hlt]
    simp only [placedAt]
    by_cases hc:((decide ((d.vFields.getD j z_api_Field).vAt<at_))||(decide ((d.vFields.getD j z_api_Field).vAt>512)))=true
    · rw [if_pos hc,if_pos hc]
    · rw [if_neg hc,if_neg hc,if_pos hf,wrap_nat hlt hl,ih (j+1) m _ (by omega) (by omega)]
theorem placed_ev {d:api_Def} {l:List Int} (hl:d.vFields.length≤9223372036854775807) (ht:∀f∈d.vFields,0≤f.vType∧f.vType<l.length):Ev (fun k=>ctf_placed.f k d l) (placedS d l):=by
 refine ⟨d.vFields.length+1,fun k hk=>?_⟩
 show ctf_placed.f k d l=_
 unfold ctf_placed.f placedS
 rw [show ctf_placed.l0 d l k 0 0=_ from placed_loop hl ht d.vFields.length 0 k 0 (by omega) (by omega),List.drop_zero]
 cases placedAt l 0 d.vFields<;>rfl
def namedS (d:api_Def):Bool:=(d.vKind !=2)&&(d.vKind !=3)
def lostS (defs:List api_Def):Nat→api_Def→Bool
 |0,d=> !namedS d
 |m+1,d=>if namedS d=true then false else lostS defs m (rd z_api_Def defs d.vRef)
theorem ends_loop {t : api_Types} (hS : ∀ d ∈ t.vDefs, ShD d t.vDefs.length) (hn : t.vDefs.length ≤ 9223372036854775807) : ∀ (e j m : Nat) (d : api_Def), d ∈ t.vDefs → j + e = t.vDefs.length → e < m →
    ((ctf_ends_1.l0 t m (j:Int) d.vKind d.vName d.vInt.vSize d.vInt.vSigned d.vRef d.vN d.vFields).bind fun xx1=>(match xx1 with| .inl r=>some r| .inr s1=>(ctf_named.f (⟨s1.1,s1.2.1,(⟨s1.2.2.1,s1.2.2.2.1⟩:api_Int),s1.2.2.2.2.1,s1.2.2.2.2.2.1,s1.2.2.2.2.2.2⟩:api_Def)).bind fun v2=>(some (!v2))))=some (lostS t.vDefs e d):=by
  intro e
  induction e with
  | zero =>
    intro j m d hd hj hm
    obtain ⟨m,rfl⟩:∃q,m=q+1:=⟨m-1,by omega⟩
    rw [ctf_ends_1.l0,if_neg (by simp;omega)]
    rfl
  | succ e ih =>
    intro j m d hd hj hm
    obtain ⟨m,rfl⟩:∃q,m=q+1:=⟨m-1,by omega⟩
    rw [ctf_ends_1.l0,if_pos (by simp;omega)]
    simp only [ctf_named.f,Option.bind_some,lostS]
    show (Option.bind (if namedS d=true then _ else _) _)=_
    by_cases hnm:namedS d=true
    · rw [if_pos hnm,if_pos hnm];rfl
    · rw [if_neg hnm,if_neg hnm]
      have hk:d.vKind=2∨d.vKind=3:=by
        unfold namedS at hnm
        by_cases h2:d.vKind=2
        · exact .inl h2
        · by_cases h3:d.vKind=3
          · exact .inr h3
          · exact absurd (by simp [h2,h3]) hnm
      have hr:=(hS d hd).ref (by omega)
      rw [if_pos hr,wrap_nat (show j<t.vDefs.length by omega) hn]
      have:=ih (j+1) m (rd z_api_Def t.vDefs d.vRef) (rd_mem hr.1 hr.2) (by omega) (by omega)
      simp only [ctf_named.f,Option.bind_some] at this
      exact this
theorem ends_ev {t:api_Types} (hS:∀d∈t.vDefs,ShD d t.vDefs.length) (hn:t.vDefs.length≤200):Ev (fun k=>ctf_ends.f k t) (!(t.vDefs.any (lostS t.vDefs t.vDefs.length))):=by
 have h := contains_ev (l := t.vDefs) (p := fun k z0 => ctf_ends_1.f k z0 t) (q := lostS t.vDefs t.vDefs.length) (fun z hz => ⟨t.vDefs.length + 1, fun k hk => by
  show ctf_ends_1.f k z t=_
  unfold ctf_ends_1.f
  exact ends_loop hS (by omega) t.vDefs.length 0 k z hz (by omega) (by omega)⟩) (by omega)
 exact (h.bind (g:=fun k v1=>some (!v1)) (Ev.pure fun _=>rfl)).congr fun k=>rfl
def defsS (n:Nat):List ByteArray→List api_Def→Bool
 |_,[]=>true
 |ns,d::r=>shapedS d (n:Int)&& !(namedS d&&ns.any (strEq d.vName))&&defsS n (d.vName::ns) r
structure FitD (d:api_Def):Prop where
 name:d.vName.size≤9223372036854775807
 len:d.vFields.length≤9223372036854775807
 names:∀f∈d.vFields,f.vName.size≤9223372036854775807
theorem valid_loop {t : api_Types} (hF : ∀ d ∈ t.vDefs, FitD d) (hn : t.vDefs.length ≤ 9223372036854775807) : ∀ (e j : Nat) (m : List (ByteArray × Bool)) (ns : List ByteArray), j + e = t.vDefs.length → SeenOk m ns →
    ∃v,Ev2 (fun k q=>ctf_valid.l0 k t q (j:Int) m) v∧(match v with| .inl b=>b=false∧defsS t.vDefs.length ns (t.vDefs.drop j)=false| .inr _=>defsS t.vDefs.length ns (t.vDefs.drop j)=true):=by
  intro e
  induction e with
  | zero =>
    intro j m ns hj hm
    refine ⟨.inr m,Ev2.pure (fun k q=>?_),?_⟩
    · rw [ctf_valid.l0,if_neg (by simp;omega)]
    · rw [List.drop_eq_nil_of_le (by omega)];rfl
  | succ e ih =>
    intro j m ns hj hm
    have hlt:j<t.vDefs.length:=by omega
    have hmem:=getD_mem (z:=z_api_Def) hlt
    have hFd:=hF _ hmem
    obtain ⟨v,hv,hp⟩:=ih (j+1) (mput strEq m (t.vDefs.getD j z_api_Def).vName true) ((t.vDefs.getD j z_api_Def).vName::ns) (by omega) (hm.put _)
    have hs:=shaped_ev (n:=(t.vDefs.length:Int)) hFd.len hFd.names hFd.name
    rw [drop_getD z_api_Def hlt]
    have hstep:∀k q,ctf_valid.l0 k t (q+1) (j:Int) m=(ctf_shaped.f k (t.vDefs.getD j z_api_Def) (t.vDefs.length:Int)).bind fun v1=>
        if ((!v1)||(namedS (t.vDefs.getD j z_api_Def)&&ns.any (strEq (t.vDefs.getD j z_api_Def).vName)))=true then some (.inl false) else ctf_valid.l0 k t q ((j+1:Nat):Int) (mput strEq m (t.vDefs.getD j z_api_Def).vName true):=by
      intro k q
      rw [ctf_valid.l0,if_pos (by simp;omega),if_pos (by omega),rd_nat,wrap_nat hlt hn,hm]
      congr 1
      funext v1
      simp only [ctf_named.f]
      cases v1 with
      |false=>simp
      |true=>rfl
    simp only [defsS]
    generalize hf:t.vDefs.getD j z_api_Def=d at*
    by_cases hc:(shapedS d (t.vDefs.length:Int)&& !(namedS d&&ns.any (strEq d.vName)))=true
    · refine ⟨v,Ev2.step hs (r:=fun k q v1=>if ((!v1)||(namedS d&&ns.any (strEq d.vName)))=true then some (.inl false) else ctf_valid.l0 k t q ((j+1:Nat):Int) (mput strEq m d.vName true)) ?_ hstep,?_⟩
      · obtain ⟨K,hK⟩:=hv
        refine ⟨K,fun k q hk hq=>?_⟩
        simp only [Bool.and_eq_true,Bool.not_eq_true'] at hc
        show (if _ then _ else _)=_
        rw [hc.1,hc.2]
        simpa using hK k q hk hq
      · rw [hc]
        cases v with
        |inl b=>simpa using hp
        |inr b=>simpa using hp
    · rw [Bool.not_eq_true] at hc
      refine ⟨.inl false,Ev2.step hs (r:=fun k q v1=>if ((!v1)||(namedS d&&ns.any (strEq d.vName)))=true then some (.inl false) else ctf_valid.l0 k t q ((j+1:Nat):Int) (mput strEq m d.vName true)) ⟨0,fun k q _ _=>?_⟩ hstep,rfl,by rw [hc];rfl⟩
      show (if _ then _ else _)=_
      rw [if_pos]
      cases h1:shapedS d (t.vDefs.length:Int) with
      |false=>rfl
      |true=>rw [h1] at hc;simpa using hc
theorem defs_of {n:Nat}:∀(ns:List ByteArray) (l:List api_Def),defsS n ns l=true→∀d∈l,ShD d n
  |_,[],_=>by simp
  | ns, d :: r, h => by
    simp only [defsS,Bool.and_eq_true] at h
    intro x hx
    rcases List.mem_cons.1 hx with rfl|hx
    · exact shaped_of h.1.1
    · exact defs_of _ r h.2 x hx
structure GoodT (t:api_Types) (l:List Int):Prop where
 few:t.vDefs.length≤200
 sh:∀d∈t.vDefs,ShD d t.vDefs.length
 sizes:Ev (fun k=>ctf_sizes.f k t) (l,true)
 len:l.length=t.vDefs.length
 jn:Jn t.vDefs l
 pos:∀q,q<t.vDefs.length→0<l.getD q 0
 ends:∀d∈t.vDefs,lostS t.vDefs t.vDefs.length d=false
 placed:∀d∈t.vDefs,d.vKind=4→placedS d l=true
 defs:defsS t.vDefs.length [] t.vDefs=true
theorem valid_ev {t : api_Types} (hF : ∀ d ∈ t.vDefs, FitD d) : ∃ b, Ev (fun k => ctf_valid.f k t) b ∧ (b = true → ∃ l, GoodT t l) := by
  by_cases hn:(t.vDefs.length:Int)>200
  · refine ⟨false,Ev.pure (fun k=>?_),fun h=>by cases h⟩
    unfold ctf_valid.f
    rw [if_pos (by simpa using hn)]
  · have hn : t.vDefs.length ≤ 200 := by omega
    have hcond:¬decide ((t.vDefs.length:Int)>200)=true:=by simp;omega
    obtain ⟨v,hv,hp⟩:=valid_loop hF (by omega) t.vDefs.length 0 [] [] (by omega) SeenOk.nil
    rw [List.drop_zero] at hp
    cases v with
    | inl b =>
      simp only at hp
      obtain ⟨rfl,hp⟩:=hp
      obtain ⟨K,hK⟩:=hv.diag
      refine ⟨false,⟨K,fun k hk=>?_⟩,fun h=>by cases h⟩
      show ctf_valid.f k t=_
      unfold ctf_valid.f
      rw [if_neg hcond,show ctf_valid.l0 k t k 0 []=_ from hK k hk]
      rfl
    | inr m =>
      simp only at hp
      have hS:=defs_of _ _ hp
      obtain ⟨out,ok,hsz,hlen,hok⟩:=sizes_ev hS hn
      obtain ⟨K,hK⟩:=hv.diag
      obtain ⟨K2,hK2⟩:=hsz
      cases ok with
      | false =>
        refine ⟨false,⟨max K K2,fun k hk=>?_⟩,fun h=>by cases h⟩
        show ctf_valid.f k t=_
        unfold ctf_valid.f
        rw [if_neg hcond,show ctf_valid.l0 k t k 0 []=_ from hK k (by omega)]
        simp only [Option.bind_some]
        rw [show ctf_sizes.f k t=_ from hK2 k (by omega)]
        simp
      | true =>
        obtain ⟨hJ,hpos⟩:=hok rfl
        obtain ⟨K3,hK3⟩:=ends_ev hS hn
        obtain ⟨K4, hK4⟩ := contains_ev (l := t.vDefs) (p := fun k z0 => ctf_valid_1.f k z0 out) (q := fun d => (d.vKind == 4) && !(placedS d out)) (fun d hd => by
          by_cases h4:d.vKind=4
          · have:=placed_ev (d:=d) (l:=out) (hF d hd).len (fun f hf=>by have:=(hS d hd).typ h4 f hf;rw [hlen];exact this)
            exact (this.bind (g:=fun k v1=>some ((d.vKind==4)&&(!v1))) (Ev.pure fun _=>rfl)).congr fun k=>by
              unfold ctf_valid_1.f
              rw [if_pos (by simp [h4])]
          · refine Ev.pure fun k=>?_
            unfold ctf_valid_1.f
            rw [if_neg (by simp [h4])]
            simp [h4]) (by omega)
        cases he:t.vDefs.any (lostS t.vDefs t.vDefs.length) with
        | true =>
          refine ⟨false,⟨max (max K K2) K3,fun k hk=>?_⟩,fun h=>by cases h⟩
          show ctf_valid.f k t=_
          unfold ctf_valid.f
          rw [if_neg hcond,show ctf_valid.l0 k t k 0 []=_ from hK k (by omega)]
          simp only [Option.bind_some]
          rw [show ctf_sizes.f k t=_ from hK2 k (by omega)]
          simp only [Option.bind_some]
          rw [show ctf_ends.f k t=_ from hK3 k (by omega),he]
          simp
        | false =>
          refine ⟨!(t.vDefs.any fun d=>(d.vKind==4)&& !(placedS d out)),⟨max (max K K2) (max K3 K4),fun k hk=>?_⟩,fun h=>⟨out,hn,hS,⟨K2,hK2⟩,hlen,hJ,hpos,fun d hd=>?_,fun d hd h4=>?_,hp⟩⟩
          · show ctf_valid.f k t=_
            unfold ctf_valid.f
            rw [if_neg hcond,show ctf_valid.l0 k t k 0 []=_ from hK k (by omega)]
            simp only [Option.bind_some]
            rw [show ctf_sizes.f k t=_ from hK2 k (by omega)]
            simp only [Option.bind_some]
            rw [show ctf_ends.f k t=_ from hK3 k (by omega),he]
            simp only [Bool.not_true,Bool.not_false,beq_self_eq_true,Bool.and_self,if_true,Option.bind_some,Bool.or_self,Bool.false_eq_true,if_false]
            rw [show slices_ContainsFunc_api_Def_api_Def.f k t.vDefs _=_ from hK4 k (by omega)]
            rfl
          · have:=List.any_eq_false.1 he d hd
            simpa using this
          · simp only [Bool.not_eq_true'] at h
            have:=List.any_eq_false.1 h d hd
            simpa [h4] using this
end Go.Proofs.YtfjppgobidjndaaDoor
namespace Go.Proofs.YtfjppgobidjndaaDoor
open Go.ChangeShapes Go.WideShapes Go.ChangeAt Go.RowKit Go.M
set_option maxRecDepth 100000
theorem own:ownKnob Tryd.prog.godebug=none:=by kernel_rfl
theorem laidOut:laidOutB Tryd.prog=true:=by kernel_rfl
theorem gPow : Tryd.prog.globalNamed "internal/strconv.uint64pow10" = some 0 := by kernel_rfl
theorem gPowType:(Tryd.prog.globals[0]?).map (·.type)=some 194:=by kernel_rfl
theorem cells194:Tryd.prog.cellsOf 194=20:=by kernel_rfl
theorem cells168:Tryd.prog.cellsOf 168=1:=by kernel_rfl
theorem laid_tail {P:Program} {x:String×DataW Unit} {rest:List (String×DataW Unit)} {W:World} (h:laidMet P (x::rest) W):laidMet P rest W:=by
 obtain ⟨ps,⟨g',t',cs,fuel,p,q,hg',ht',hvar,hd,hr,e⟩,hn,hc⟩:=h
 subst e
 refine ⟨q,hr,?_,fun b off hm=>hc b off (List.mem_append_right _ hm)⟩
 exact (List.nodup_append.1 hn).2.1
abbrev laid3 : List (String × DataW Unit) := [("math/bits.deBruijn32tab", Rows.laid_math_bits_deBruijn32tab), ("math/bits.deBruijn64tab", Rows.laid_math_bits_deBruijn64tab), ("internal/strconv.uint64pow10", Rows.laid_internal_strconv_uint64pow10)]
theorem tab_of {W:World} (h:laidMetH Tryd.prog laid3 W):Tab W:=
 Lib.tabIs_of_head (rest:=[]) (zs:=Lib.pow10Tab) gPow gPowType Tryd.underlying194 Tryd.underlying168 cells168 cells194 (laid_tail (laid_tail h))
section
variable {H:Type} {enc:TypeId×Value→H} {W:World}
theorem max63 {n:Nat} (h:n≤maxLen):n≤9223372036854775807:=by unfold maxLen at h;omega
theorem op3:Opn enc Tryd.prog W 3 (Kd.int .i64) (fun n=>(Lit.int .i64 n).wf=true):=op_int Tryd.underlying3 (by kernel_rfl)
theorem op4:Opn enc Tryd.prog W 4 Kd.bool (fun _=>True):=op_bool Tryd.underlying4 (by kernel_rfl)
theorem op9:Opn enc Tryd.prog W 9 Kd.str (fun s=>s.size≤maxLen):=op_str Tryd.underlying9 (by kernel_rfl)
def FitT (t:api_Types):Prop:=t.vDefs.length≤9223372036854775807∧∀d∈t.vDefs,FitD d
theorem law_post {fn:Func} {s:ChangeSpec} {args:Array Value} {ds gs:List (DataW H)} {before:List MemPlace} {W':World} (hT:∀t∈fn.params.toList,Tryd.prog.readableRec t=true∧t<Tryd.prog.types.size) (hr:fn.resultTypes=#[4]) (hvs:s.vars=[])
  (hfn:s.fn H (ds++gs)={results:=[.lit (.bool true)],args:=ds}) (hW:DataW.Whole enc Tryd.prog fn.params.toList s.vars false W args.toList ds gs before) (hE:Ext W W'):s.post enc Tryd.prog fn false true false false W args (.bool true) W':=by
 have hW':=hW
 obtain ⟨p,q,hA,hV,e,hfz,hnd⟩:=hW
 rw [hvs] at hV
 obtain ⟨rfl,rfl⟩:=trodVars_none hV
 have hlt:∀x∈p,x.block<W.heap.size:=fun x hx=>hW'.lt x (by rw [e];exact List.mem_append_left _ hx)
 refine ⟨ds,[],before,[],p,[],hW',?_,?_,?_,Below.frame hE _,fun h=>by cases h⟩
 ·rw [hfn,hr]
  exact trodAll_cons_mk (shut_bool Tryd.underlying4 _) trodAll_mk0
 ·rw [hfn]
  exact all_stays laidOut hE hT hA hlt (fun x hx=>by simpa using hlt x hx)
 ·rw [hfn,hvs]
  rfl
end
def nums32:List Int:=[0,1,28,2,29,14,24,3,30,22,20,15,25,17,4,8,31,27,13,23,21,19,16,7,26,12,18,6,11,5,10,9]
def nums64:List Int:=[0,1,56,2,57,49,28,3,61,58,42,50,38,29,17,4,62,47,59,36,45,43,51,22,53,39,33,30,24,18,12,5,63,55,48,27,60,41,37,16,46,35,44,21,52,32,23,11,54,26,40,15,34,20,31,10,25,14,19,9,13,8,7,6]
def numsPow:List Int:=[1,10,100,1000,10000,100000,1000000,10000000,100000000,1000000000,10000000000,100000000000,1000000000000,10000000000000,100000000000000,1000000000000000,10000000000000000,100000000000000000,1000000000000000000,10000000000000000000]
def lay (k:IntKind) (zs:List Int):Obj→Obj
 | .cells _ t frozen=> .cells (zs.map fun z=>Value.int k z).toArray t frozen
 |o=>o
noncomputable def laidWorld (os:Os):World:=
 {World.holding Tryd.prog os ⟨#[],#[],[]⟩ with heap:=(((World.holding Tryd.prog os ⟨#[],#[],[]⟩).heap.modify 0 (lay .u64 numsPow)).modify 1 (lay .u8 nums32)).modify 2 (lay .u8 nums64)}
theorem laid_met (os:Os) (args:Array Value):laidMet Tryd.prog laid3 ((laidWorld os).forCall (fun _ _=>0) ⟨#[],args,[]⟩).memory:=
 laidMet_of_run' 8 (by kernel_rfl) (by kernel_rfl)
end Go.Proofs.YtfjppgobidjndaaDoor
namespace Go.Proofs.YtfjppgobidjndaaDoor
open Go.RowKit Go.M
def ctf_Check.f (k:Nat) (a0:api_Types):Option (Int):=(ctf_valid.f k a0).bind fun v1=>(if (!v1)=true then (some 80) else (some 0))
theorem ctf_Check.calls (k:Nat) (a0:api_Types) (A0_0:Option Addr) (c0_0:Nat) {h0:View} {w0:World} (hv:Sees h0 w0) (hr0_0:Rd k_api_Def h0 A0_0 a0.vDefs) (hc0_0:a0.vDefs.length≤c0_0) {r:Int} (H:ctf_Check.f k a0=some r):Calls Tryd.prog 18 #[Value.agg #[vL A0_0 a0.vDefs.length c0_0]] w0 (fun e w1=>e= .returned (vI r)∧Ext w0 w1):=by
 unfold ctf_Check.f at H
 have HS:St [] h0 w0 h0 [] w0:=St.init hv
 go_enter Tryd.func18,Tryd.ntmps18
 refine wp_seq<|region<|run_ex rfl rfl (does_box (cs:=#[vL A0_0 a0.vDefs.length c0_0]) rfl rfl) ?_
 rintro w1 _ hE1 ⟨b1,rfl,ge1,hb1⟩
 have HS1:=HS.new hE1 ge1 hb1
 refine rs (vI 0) (r_assign rfl) ?_
 try simp only [sc0,sc1]
 refine run_nil<|norm_then<|wp_seq<|wp_seq<|region<|rs (Value.agg #[vL A0_0 a0.vDefs.length c0_0]) (r_loadBoxAgg (n:=1) (vs:=[vL A0_0 a0.vDefs.length c0_0]) rfl Tryd.isAgg24 (HS1.look 0 rfl) Tryd.sizeOf24 rfl rfl) ?_
 obtain ⟨v1,H1,H⟩:=of_bind H
 refine run_eq (v:=vB v1) rfl rfl (does_call_eq Tryd.call47 rfl rfl (ctf_valid.calls k a0 A0_0 c0_0 HS1.sees hr0_0 hc0_0 H1)) ?_
 intro w2 hE2
 have HS2:=HS1.step hE2
 refine rs (vB (!v1)) (r_not rfl) ?_
 try simp only [sc0,sc1]
 refine run_nil<|norm_then<|wp_cond_split (t:=(!v1)) rfl (fun c1=>?_) (fun c1=>?_)
 ·replace H:=of_pos H c1
  refine wp_seq<|region<|rs (vI 80) (r_assign rfl) ?_
  try simp only [sc0,sc1]
  refine run_nil<|norm_then<|wp_ret<|ret_then ?_
  obtain rfl:=Option.some.inj H
  exact bodyPost_ret (results_1 rfl (one_tmp rfl)) rfl<|⟨rfl,HS2.toE⟩
 ·replace H:=of_neg H (nt c1)
  refine wp_skip<|norm_then<|wp_seq<|region<|rs (vI 0) (r_assign rfl) ?_
  try simp only [sc0,sc1]
  refine run_nil<|norm_then<|wp_ret ?_
  obtain rfl:=Option.some.inj H
  exact bodyPost_ret (results_1 rfl (one_tmp rfl)) rfl<|⟨rfl,HS2.toE⟩
def ctf_text.f:Nat→api_Types→Int→Option (ByteArray)
 |0,_,_=>none
 |k+1,a0,a1=>if 0≤a1∧a1<a0.vDefs.length then (if ((rd z_api_Def a0.vDefs a1).vKind==2)=true then ((ctf_text.f k a0 ((rd z_api_Def a0.vDefs a1).vRef)).bind fun v1=>(if v1.size+(⟨#[32,42]⟩:ByteArray).size≤9223372036854775807 then (some (v1++(⟨#[32,42]⟩:ByteArray))) else none)) else (if ((rd z_api_Def a0.vDefs a1).vKind==3)=true then ((ctf_text.f k a0 ((rd z_api_Def a0.vDefs a1).vRef)).bind fun v2=>(if v2.size+(⟨#[32,91]⟩:ByteArray).size≤9223372036854775807 then ((strconv_Itoa.f ((rd z_api_Def a0.vDefs a1).vN)).bind fun v3=>(if (v2++(⟨#[32,91]⟩:ByteArray)).size+v3.size≤9223372036854775807 then (if ((v2++(⟨#[32,91]⟩:ByteArray))++v3).size+(⟨#[93]⟩:ByteArray).size≤9223372036854775807 then (some (((v2++(⟨#[32,91]⟩:ByteArray))++v3)++(⟨#[93]⟩:ByteArray))) else none) else none)) else none)) else (some ((rd z_api_Def a0.vDefs a1).vName)))) else none
theorem ctf_text.calls:∀(k:Nat) (a0:api_Types) (a1:Int) (A0_0:Option Addr) (c0_0:Nat) {h0:View} {w0:World} (hv:Sees h0 w0) (ht:Tab w0) (hr0_0:Rd k_api_Def h0 A0_0 a0.vDefs) (hc0_0:a0.vDefs.length≤c0_0) {r:ByteArray} (H:ctf_text.f k a0 a1=some r),Calls Tryd.prog 53 #[Value.agg #[vL A0_0 a0.vDefs.length c0_0],vI a1] w0 (fun e w1=>e= .returned (vS r)∧Ext w0 w1):=by
 intro k
 induction k with
 |zero=>
  intros
  rename_i H
  exact absurd H (by simp [ctf_text.f])
 |succ k ih=>
  intro a0 a1 A0_0 c0_0 h0 w0 hv ht hr0_0 hc0_0 r H
  rw [ctf_text.f] at H
  have HS:St [] h0 w0 h0 [] w0:=St.init hv
  go_enter Tryd.func53,Tryd.ntmps53
  refine wp_seq<|region<|run_ex rfl rfl (does_box (cs:=#[vL A0_0 a0.vDefs.length c0_0]) rfl rfl) ?_
  rintro w1 _ hE1 ⟨b1,rfl,ge1,hb1⟩
  have HS1:=HS.new hE1 ge1 hb1
  refine rs (vS ByteArray.empty) (r_assign rfl) ?_
  try simp only [sc0,sc1]
  refine run_nil<|norm_then<|wp_seq<|region<|rs (vP b1 0) (r_fieldBox (n:=1) (o':=0) rfl Tryd.runUnderlying24 rfl Tryd.sizeOf22 (by decide) rfl)<|rs (vL A0_0 a0.vDefs.length c0_0) (r_loadBox rfl Tryd.isAgg22 (HS1.look 0 rfl) rfl)<|rs (vI a1) (r_move rfl) ?_
  obtain ⟨hi1,H⟩:=of_ite H
  obtain ⟨ad1,Aad1_6,cad1_6,e1,hel1,hcad1_6,hrad1_6⟩:=ld_api_Def hr0_0 hi1.1 hi1.2
  refine rs (Value.pointer (some (Addr.add ad1 (a1.toNat*7)))) (r_indexA (sz:=7) rfl e1 rfl hi1.1 hi1.2 Tryd.runUnderlying22 Tryd.sizeOf34)<|run_frame (by simp only [sc0,sc1];rfl) ?_
  refine rs (Value.agg #[vI ((rd z_api_Def a0.vDefs a1).vKind),vS ((rd z_api_Def a0.vDefs a1).vName),vI ((rd z_api_Def a0.vDefs a1).vInt.vSize),vB ((rd z_api_Def a0.vDefs a1).vInt.vSigned),vI ((rd z_api_Def a0.vDefs a1).vRef),vI ((rd z_api_Def a0.vDefs a1).vN),vL Aad1_6 ((rd z_api_Def a0.vDefs a1).vFields).length cad1_6]) (r_loadAgg rfl Tryd.isAgg34 (hel1.sees HS1.sees) Tryd.sizeOf34)<|run_ex rfl rfl (does_alloc (cs:=#[vI 0,vS ByteArray.empty,vI 0,vB false,vI 0,vI 0,vL none 0 0]) Tryd.zeroValue34 rfl) ?_
  rintro w2 _ hE2 ⟨b2,rfl,ge2,hb2⟩
  have HS2:=HS1.new hE2 ge2 hb2
  refine run_st (i:=0) (cs:=[vI 0,vS ByteArray.empty,vI 0,vB false,vI 0,vI 0,vL none 0 0]) (cs':=[vI ((rd z_api_Def a0.vDefs a1).vKind),vS ((rd z_api_Def a0.vDefs a1).vName),vI ((rd z_api_Def a0.vDefs a1).vInt.vSize),vB ((rd z_api_Def a0.vDefs a1).vInt.vSigned),vI ((rd z_api_Def a0.vDefs a1).vRef),vI ((rd z_api_Def a0.vDefs a1).vN),vL Aad1_6 ((rd z_api_Def a0.vDefs a1).vFields).length cad1_6]) (vs:=[vI ((rd z_api_Def a0.vDefs a1).vKind),vS ((rd z_api_Def a0.vDefs a1).vName),vI ((rd z_api_Def a0.vDefs a1).vInt.vSize),vB ((rd z_api_Def a0.vDefs a1).vInt.vSigned),vI ((rd z_api_Def a0.vDefs a1).vRef),vI ((rd z_api_Def a0.vDefs a1).vN),vL Aad1_6 ((rd z_api_Def a0.vDefs a1).vFields).length cad1_6]) (bs':=[(some b2, .cells #[vI ((rd z_api_Def a0.vDefs a1).vKind),vS ((rd z_api_Def a0.vDefs a1).vName),vI ((rd z_api_Def a0.vDefs a1).vInt.vSize),vB ((rd z_api_Def a0.vDefs a1).vInt.vSigned),vI ((rd z_api_Def a0.vDefs a1).vRef),vI ((rd z_api_Def a0.vDefs a1).vN),vL Aad1_6 ((rd z_api_Def a0.vDefs a1).vFields).length cad1_6] 34 (0,0)),(some b1, .cells #[vL A0_0 a0.vDefs.length c0_0] 24 (0,0))]) rfl rfl Tryd.sizeOf34 rfl rfl (by decide) rfl HS2 rfl (Nat.le_of_ble_eq_true rfl) rfl rfl ?_
  intro w3 HS3
  try simp only [sc0,sc1]
  refine run_nil<|norm_then<|wp_seq<|wp_seq<|region<|rs (vP b2 0) (r_fieldBox (n:=1) (o':=0) rfl Tryd.runUnderlying34 rfl Tryd.sizeOf3 (by decide) rfl)<|rs (vI ((rd z_api_Def a0.vDefs a1).vKind)) (r_loadBox rfl Tryd.isAgg3 (HS3.look 0 rfl) rfl) ?_
  try simp only [sc0,sc1]
  refine run_nil<|norm_then<|wp_block<|wp_seq<|region<|rs (vB ((rd z_api_Def a0.vDefs a1).vKind==2)) (r_bin rfl rfl rfl)<|rs (vB ((rd z_api_Def a0.vDefs a1).vKind==2)) (r_assign rfl) ?_
  try simp only [sc0,sc1]
  refine run_nil<|norm_then<|wp_cond_split (t:=((rd z_api_Def a0.vDefs a1).vKind==2)) rfl (fun c1=>?_) (fun c1=>?_)
  ·replace H:=of_pos H c1
   refine wp_seq<|region<|rs (Value.agg #[vL A0_0 a0.vDefs.length c0_0]) (r_loadBoxAgg (n:=1) (vs:=[vL A0_0 a0.vDefs.length c0_0]) rfl Tryd.isAgg24 (HS3.look 1 rfl) Tryd.sizeOf24 rfl rfl)<|rs (vP b2 4) (r_fieldBox (n:=1) (o':=4) rfl Tryd.runUnderlying34 rfl Tryd.sizeOf3 (by decide) rfl)<|rs (vI ((rd z_api_Def a0.vDefs a1).vRef)) (r_loadBox rfl Tryd.isAgg3 (HS3.look 0 rfl) rfl) ?_
   obtain ⟨v1,H1,H⟩:=of_bind H
   refine run_eq (v:=vS v1) rfl rfl (does_call_eq Tryd.call53 rfl rfl (ih a0 ((rd z_api_Def a0.vDefs a1).vRef) A0_0 c0_0 HS3.sees (ht.s HS3) hr0_0 hc0_0 H1)) ?_
   intro w4 hE3
   have HS4:=HS3.step hE3
   refine run_frame (by simp only [sc0,sc1];rfl) ?_
   obtain ⟨hb3,H⟩:=of_ite H
   refine rs (vS (v1++(⟨#[32,42]⟩:ByteArray))) (r_stradd rfl rfl hb3)<|rs (vS (v1++(⟨#[32,42]⟩:ByteArray))) (r_assign rfl) ?_
   try simp only [sc0,sc1]
   refine run_nil<|norm_then<|wp_ret<|ret_block<|ret_then ?_
   obtain rfl:=Option.some.inj H
   exact bodyPost_ret (results_1 rfl (one_tmp rfl)) rfl<|⟨rfl,HS4.toE⟩
  ·replace H:=of_neg H (nt c1)
   refine wp_seq<|region<|rs (vB ((rd z_api_Def a0.vDefs a1).vKind==3)) (r_bin rfl rfl rfl)<|rs (vB ((rd z_api_Def a0.vDefs a1).vKind==3)) (r_assign rfl) ?_
   try simp only [sc0,sc1]
   refine run_nil<|norm_then<|wp_cond_split (t:=((rd z_api_Def a0.vDefs a1).vKind==3)) rfl (fun c2=>?_) (fun c2=>?_)
   ·replace H:=of_pos H c2
    refine wp_seq ?_
    obtain ⟨v2,H2,H⟩:=of_bind H
    obtain ⟨hb4,H⟩:=of_ite H
    obtain ⟨v3,H3,H⟩:=of_bind H
    obtain ⟨hb5,H⟩:=of_ite H
    obtain ⟨hb6,H⟩:=of_ite H
    refine drawn [.eq (Value.agg #[vL A0_0 a0.vDefs.length c0_0]), .eq (vP b2 4), .eq (vI ((rd z_api_Def a0.vDefs a1).vRef)), .eq (vS v2), .eq (vS (v2++(⟨#[32,91]⟩:ByteArray))), .eq (vP b2 5), .eq (vI ((rd z_api_Def a0.vDefs a1).vN)), .eq (vS v3), .eq (vS ((v2++(⟨#[32,91]⟩:ByteArray))++v3)), .eq (vS (((v2++(⟨#[32,91]⟩:ByteArray))++v3)++(⟨#[93]⟩:ByteArray)))] [22,23,24,25,26,27,28,29,30,31] hmix (by kernel_rfl) rfl (stable_eq (stable_eq (stable_eq (stable_eq (stable_eq (stable_eq (stable_eq (stable_eq (stable_eq (stable_eq stable_nil)))))))))) ⟨ob_plain rfl (fun a' w' hE hk=>by have HSd:=HS3.step hE;exact does_eq (r_loadBoxAgg (n:=1) (vs:=[vL A0_0 a0.vDefs.length c0_0]) (show _=vP b1 0 from hk 2 rfl) Tryd.isAgg24 (HSd.look 1 rfl) Tryd.sizeOf24 rfl rfl)),ob_plain rfl (fun a' w' hE hk=>by have HSd:=HS3.step hE;exact does_eq (r_fieldBox (n:=1) (o':=4) (show _=vP b2 0 from hk 5 rfl) Tryd.runUnderlying34 rfl Tryd.sizeOf3 (by decide) rfl)),ob_plain rfl (fun a' w' hE hk=>by have HSd:=HS3.step hE;exact does_eq (r_loadBox (show _=vP b2 4 from hk 23 rfl) Tryd.isAgg3 (HSd.look 0 rfl) rfl)),ob_plain rfl (fun a' w' hE hk=>by have HSd:=HS3.step hE;exact (does_call_eq Tryd.call53 rfl (map2 (show _=Value.agg #[vL A0_0 a0.vDefs.length c0_0] from hk 22 rfl) (show _=vI ((rd z_api_Def a0.vDefs a1).vRef) from hk 24 rfl)) (ih a0 ((rd z_api_Def a0.vDefs a1).vRef) A0_0 c0_0 HSd.sees (ht.s HSd) hr0_0 hc0_0 H2))),ob_plain rfl (fun a' w' hE hk=>by have HSd:=HS3.step hE;exact does_eq (r_stradd (show _=vS v2 from hk 25 rfl) rfl hb4)),ob_plain rfl (fun a' w' hE hk=>by have HSd:=HS3.step hE;exact does_eq (r_fieldBox (n:=1) (o':=5) (show _=vP b2 0 from hk 5 rfl) Tryd.runUnderlying34 rfl Tryd.sizeOf3 (by decide) rfl)),ob_plain rfl (fun a' w' hE hk=>by have HSd:=HS3.step hE;exact does_eq (r_loadBox (show _=vP b2 5 from hk 27 rfl) Tryd.isAgg3 (HSd.look 0 rfl) rfl)),ob_plain rfl (fun a' w' hE hk=>by have HSd:=HS3.step hE;exact (does_call_eq Tryd.call99 rfl (map1 (show _=vI ((rd z_api_Def a0.vDefs a1).vN) from hk 28 rfl)) (strconv_Itoa.calls ((rd z_api_Def a0.vDefs a1).vN) HSd.sees (ht.s HSd) H3))),ob_plain rfl (fun a' w' hE hk=>by have HSd:=HS3.step hE;exact does_eq (r_stradd (show _=vS (v2++(⟨#[32,91]⟩:ByteArray)) from hk 26 rfl) (show _=vS v3 from hk 29 rfl) hb5)),ob_plain rfl (fun a' w' hE hk=>by have HSd:=HS3.step hE;exact does_eq (r_stradd (show _=vS ((v2++(⟨#[32,91]⟩:ByteArray))++v3) from hk 30 rfl) rfl hb6)),trivial⟩ ?_
    intro w5 hE4
    simp only [List.zip_cons_cons,List.zip_nil_left,List.zip_nil_right,finL,sc0,sc1,List.length_cons,List.length_nil,List.drop_succ_cons,List.drop_zero,Nat.zero_add,Nat.reduceAdd]
    have HS5:=HS3.step hE4
    refine rs (vS (((v2++(⟨#[32,91]⟩:ByteArray))++v3)++(⟨#[93]⟩:ByteArray))) (r_assign rfl) ?_
    try simp only [sc0,sc1]
    refine run_nil<|norm_then<|wp_ret<|ret_block<|ret_then ?_
    obtain rfl:=Option.some.inj H
    exact bodyPost_ret (results_1 rfl (one_tmp rfl)) rfl<|⟨rfl,HS5.toE⟩
   ·replace H:=of_neg H (nt c2)
    refine wp_skip<|norm_block<|norm_then<|wp_seq<|region<|rs (vP b2 1) (r_fieldBox (n:=1) (o':=1) rfl Tryd.runUnderlying34 rfl Tryd.sizeOf9 (by decide) rfl)<|rs (vS ((rd z_api_Def a0.vDefs a1).vName)) (r_loadBox rfl Tryd.isAgg9 (HS3.look 0 rfl) rfl)<|rs (vS ((rd z_api_Def a0.vDefs a1).vName)) (r_assign rfl) ?_
    try simp only [sc0,sc1]
    refine run_nil<|norm_then<|wp_ret ?_
    obtain rfl:=Option.some.inj H
    exact bodyPost_ret (results_1 rfl (one_tmp rfl)) rfl<|⟨rfl,HS3.toE⟩
def ctf_Text.f (k:Nat) (a0:api_Types) (a1:Int):Option (ByteArray×Int):=(ctf_given.f k a0 a1).bind fun v1=>(if (v1 !=0)=true then (some (ByteArray.empty,v1)) else ((ctf_text.f k a0 a1).bind fun v2=>(some (v2,0))))
theorem ctf_Text.calls (k:Nat) (a0:api_Types) (a1:Int) (A0_0:Option Addr) (c0_0:Nat) {h0:View} {w0:World} (hv:Sees h0 w0) (ht:Tab w0) (hr0_0:Rd k_api_Def h0 A0_0 a0.vDefs) (hc0_0:a0.vDefs.length≤c0_0) {r:ByteArray×Int} (H:ctf_Text.f k a0 a1=some r):Calls Tryd.prog 20 #[Value.agg #[vL A0_0 a0.vDefs.length c0_0],vI a1] w0 (fun e w1=>e= .returned (Value.tuple #[vS r.1,vI r.2])∧Ext w0 w1):=by
 unfold ctf_Text.f at H
 have HS:St [] h0 w0 h0 [] w0:=St.init hv
 go_enter Tryd.func20,Tryd.ntmps20
 refine wp_seq<|region<|run_ex rfl rfl (does_box (cs:=#[vL A0_0 a0.vDefs.length c0_0]) rfl rfl) ?_
 rintro w1 _ hE1 ⟨b1,rfl,ge1,hb1⟩
 have HS1:=HS.new hE1 ge1 hb1
 refine rs (vS ByteArray.empty) (r_assign rfl)<|rs (vI 0) (r_assign rfl) ?_
 try simp only [sc0,sc1]
 refine run_nil<|norm_then<|wp_seq<|wp_seq<|region<|rs (Value.agg #[vL A0_0 a0.vDefs.length c0_0]) (r_loadBoxAgg (n:=1) (vs:=[vL A0_0 a0.vDefs.length c0_0]) rfl Tryd.isAgg24 (HS1.look 0 rfl) Tryd.sizeOf24 rfl rfl)<|rs (vI a1) (r_move rfl) ?_
 obtain ⟨v1,H1,H⟩:=of_bind H
 refine run_eq (v:=vI v1) rfl rfl (does_call_eq Tryd.call43 rfl rfl (ctf_given.calls k a0 a1 A0_0 c0_0 HS1.sees hr0_0 hc0_0 H1)) ?_
 intro w2 hE2
 have HS2:=HS1.step hE2
 refine rs (vI v1) (r_assign rfl) ?_
 try simp only [sc0,sc1]
 refine run_nil<|norm_then<|wp_seq<|region<|rs (vI v1) (r_move rfl)<|rs (vB (v1 !=0)) (r_bin rfl rfl rfl) ?_
 try simp only [sc0,sc1]
 refine run_nil<|norm_then<|wp_cond_split (t:=(v1 !=0)) rfl (fun c1=>?_) (fun c1=>?_)
 ·replace H:=of_pos H c1
  refine wp_seq<|region<|rs (vI v1) (r_move rfl)<|rs (vS ByteArray.empty) (r_assign rfl)<|rs (vI v1) (r_assign rfl) ?_
  try simp only [sc0,sc1]
  refine run_nil<|norm_then<|wp_ret<|ret_then ?_
  obtain rfl:=Option.some.inj H
  exact bodyPost_ret (results_2 rfl (one_tmp rfl) (one_tmp rfl)) rfl<|⟨rfl,HS2.toE⟩
 ·replace H:=of_neg H (nt c1)
  refine wp_skip<|norm_then<|wp_seq<|region<|rs (Value.agg #[vL A0_0 a0.vDefs.length c0_0]) (r_loadBoxAgg (n:=1) (vs:=[vL A0_0 a0.vDefs.length c0_0]) rfl Tryd.isAgg24 (HS2.look 0 rfl) Tryd.sizeOf24 rfl rfl)<|rs (vI a1) (r_move rfl) ?_
  obtain ⟨v2,H2,H⟩:=of_bind H
  refine run_eq (v:=vS v2) rfl rfl (does_call_eq Tryd.call53 rfl rfl (ctf_text.calls k a0 a1 A0_0 c0_0 HS2.sees (ht.s HS2) hr0_0 hc0_0 H2)) ?_
  intro w3 hE3
  have HS3:=HS2.step hE3
  refine rs (vS v2) (r_assign rfl)<|run_frame (by simp only [sc0,sc1];rfl) ?_
  refine rs (vI 0) (r_assign rfl) ?_
  try simp only [sc0,sc1]
  refine run_nil<|norm_then<|wp_ret ?_
  obtain rfl:=Option.some.inj H
  exact bodyPost_ret (results_2 rfl (one_tmp rfl) (one_tmp rfl)) rfl<|⟨rfl,HS3.toE⟩
def ctf_pool_add.l0 (k:Nat) (a1:api_Types):Nat→Int→(List Int)→(List ctf_source)→(List (ByteArray×Int))→Option ((List Int)×(List ctf_source)×(List (ByteArray×Int)))
 |0,_,_,_,_=>none
 |m+1,y1_0,y1_1,y1_2,y1_3=>if (decide (y1_0<(a1.vDefs.length:Int)))=true then ((ctf_text.f k a1 y1_0).bind fun v1=>(((if (!((mfind strEq y1_3 v1).isSome))=true then (if y1_2.length+1≤4294967296 then (some (((y1_2.length:Nat):Int),(y1_2++([(⟨(⟨a1.vDefs⟩:api_Types),y1_0⟩:ctf_source)]:List ctf_source)),(mput strEq y1_3 v1 ((y1_2.length:Nat):Int)))) else none) else (some (((mfind strEq y1_3 v1).getD 0),y1_2,y1_3))):Option (Int×(List ctf_source)×(List (ByteArray×Int)))).bind fun xx2=>(if y1_1.length+1≤4294967296 then (ctf_pool_add.l0 k a1 m (IntKind.wrap .i64 (y1_0+1)) (y1_1++([xx2.1]:List Int)) xx2.2.1 xx2.2.2) else none))) else (some (y1_1,y1_2,y1_3))
def ctf_pool_add.f (k:Nat) (p0_0:List (ByteArray×Int)) (p0_1:List ctf_source) (a1:api_Types):Option ((List Int)×(List (ByteArray×Int))×(List ctf_source)):=(ctf_pool_add.l0 k a1 k 0 ([]:List Int) p0_1 p0_0).bind fun xx1=>(some (xx1.1,xx1.2.2,xx1.2.1))
theorem ctf_pool_add.calls (k:Nat) (p0_0:List (ByteArray×Int)) (p0_1:List ctf_source) (a1:api_Types) (bp0:Nat) (mp0_0:Nat) (esp0_0:Array MapEntry) (clp0_0:Nat) (obp0_1:Option Nat) (cp0_1:Nat) (csp0_1:List Value) (A1_0:Option Addr) (c1_0:Nat) {h0:View} {w0:World} {h:View} {w:World} {rest:List Res} (HS:St [] h0 w0 h ((some bp0, .cells #[Value.map (some mp0_0),vL (rowA obp0_1) p0_1.length cp0_1] 110 (0,0))::(some mp0_0, .map esp0_0 clp0_0)::(obp0_1, .cells (csp0_1).toArray 160 (0,0))::rest) w) (ht:Tab w0) (hop0_0:MapOk vS (vI) p0_0 esp0_0 clp0_0) (hop0_1:RowOk k_ctf_source h p0_1 obp0_1 p0_1.length cp0_1 csp0_1) (hr1_0:Rd k_api_Def h A1_0 a1.vDefs) (hc1_0:a1.vDefs.length≤c1_0) {r:(List Int)×(List (ByteArray×Int))×(List ctf_source)} (H:ctf_pool_add.f k p0_0 p0_1 a1=some r):Calls Tryd.prog 59 #[vP bp0 0,Value.agg #[vL A1_0 a1.vDefs.length c1_0]] w (fun e w1=>∃(obz_f0:Option Nat) (cz_f0:Nat) (csz_f0:List Value),∃(esz_p0_0:Array MapEntry) (clz_p0_0:Nat),∃(obz_p0_1:Option Nat) (cz_p0_1:Nat) (csz_p0_1:List Value),e= .returned (vL (rowA obz_f0) r.1.length cz_f0)∧RowOk (Kd.int .i64) h r.1 obz_f0 r.1.length cz_f0 csz_f0∧MapOk vS (vI) r.2.1 esz_p0_0 clz_p0_0∧RowOk k_ctf_source h r.2.2 obz_p0_1 r.2.2.length cz_p0_1 csz_p0_1∧St [] h0 w0 h ((obz_f0, .cells (csz_f0).toArray 3 (0,0))::(some bp0, .cells #[Value.map (some mp0_0),vL (rowA obz_p0_1) r.2.2.length cz_p0_1] 110 (0,0))::(some mp0_0, .map esz_p0_0 clz_p0_0)::(obz_p0_1, .cells (csz_p0_1).toArray 160 (0,0))::rest) w1):=by
 unfold ctf_pool_add.f at H
 have hsub:Sub h h:=Sub.rfl' h
 go_enter Tryd.func59,Tryd.ntmps59
 refine wp_seq<|region<|run_ex rfl rfl (does_box (cs:=#[vL A1_0 a1.vDefs.length c1_0]) rfl rfl) ?_
 rintro w1 _ hE1 ⟨b1,rfl,ge1,hb1⟩
 have HS1:=HS.new hE1 ge1 hb1
 refine rs (vL none 0 0) (r_assign rfl) ?_
 try simp only [sc0,sc1]
 refine run_nil<|norm_then<|wp_seq<|region<|rs (vL none 0 0) (r_assign rfl) ?_
 try simp only [sc0,sc1]
 refine run_nil<|norm_then<|wp_seq<|wp_seq<|region<|rs (vP b1 0) (r_fieldBox (n:=1) (o':=0) rfl Tryd.runUnderlying24 rfl Tryd.sizeOf22 (by decide) rfl)<|rs (vL A1_0 a1.vDefs.length c1_0) (r_loadBox rfl Tryd.isAgg22 (HS1.look 0 rfl) rfl)<|rs (vI (a1.vDefs.length:Int)) (r_len rfl Tryd.runUnderlying22)<|rs (vI 0) (r_move rfl) ?_
 try simp only [sc0,sc1]
 refine run_nil<|norm_then ?_
 have HS2:=HS1.nothing (.cells ([]:List Value).toArray 3 (0,0))
 obtain ⟨xx1,H,G1⟩:=of_bind H
 refine loop_j [5,6,7,8,9,13,14,15,16,17,18,19,20,21,22,23,24,25,26,27,28,29,30,31,32,33,34,35,36,37,38,39,40,41,42,43,44,45,46,47,48,49,50,51,52,53,54,55,56,57] (fun m us w'=>∃y1_0:Int,∃y1_1:List Int,∃y1_2:List ctf_source,∃(y1_3:List (ByteArray×Int)),∃(oby1_1:Option Nat) (cy1_1:Nat),∃(csy1_1:List Value),∃(oby1_2:Option Nat) (cy1_2:Nat),∃(csy1_2:List Value),∃(esy1_3:Array MapEntry) (cly1_3:Nat),Fit us (fun uy1=>[vL (rowA oby1_1) y1_1.length cy1_1,(uy1 1),(uy1 2),(uy1 3),(uy1 4),vI y1_0,(uy1 6),(uy1 7),(uy1 8),(uy1 9),(uy1 10),(uy1 11),(uy1 12),(uy1 13),(uy1 14),(uy1 15),(uy1 16),(uy1 17),(uy1 18),(uy1 19),(uy1 20),(uy1 21),(uy1 22),(uy1 23),(uy1 24),(uy1 25),(uy1 26),(uy1 27),(uy1 28),(uy1 29),(uy1 30),(uy1 31),(uy1 32),(uy1 33),(uy1 34),(uy1 35),(uy1 36),(uy1 37),(uy1 38),(uy1 39),(uy1 40),(uy1 41),(uy1 42),(uy1 43),(uy1 44),(uy1 45),(uy1 46),(uy1 47),(uy1 48),(uy1 49)])∧ctf_pool_add.l0 k a1 m y1_0 y1_1 y1_2 y1_3=some xx1∧RowOk (Kd.int .i64) h y1_1 oby1_1 y1_1.length cy1_1 csy1_1∧RowOk k_ctf_source h y1_2 oby1_2 y1_2.length cy1_2 csy1_2∧MapOk vS (vI) y1_3 esy1_3 cly1_3∧St [] h0 w0 h ((oby1_1, .cells (csy1_1).toArray 3 (0,0))::(some b1, .cells #[vL A1_0 a1.vDefs.length c1_0] 24 (0,0))::(some bp0, .cells #[Value.map (some mp0_0),vL (rowA oby1_2) y1_2.length cy1_2] 110 (0,0))::(some mp0_0, .map esy1_3 cly1_3)::(oby1_2, .cells (csy1_2).toArray 160 (0,0))::rest) w') (fun us w'=>∃(obo1_0:Option Nat) (co1_0:Nat),∃(cso1_0:List Value),∃(obo1_1:Option Nat) (co1_1:Nat),∃(cso1_1:List Value),∃(eso1_2:Array MapEntry) (clo1_2:Nat),Fit us (fun uo1=>[vL (rowA obo1_0) xx1.1.length co1_0,(uo1 1),(uo1 2),(uo1 3),(uo1 4),(uo1 5),(uo1 6),(uo1 7),(uo1 8),(uo1 9),(uo1 10),(uo1 11),(uo1 12),(uo1 13),(uo1 14),(uo1 15),(uo1 16),(uo1 17),(uo1 18),(uo1 19),(uo1 20),(uo1 21),(uo1 22),(uo1 23),(uo1 24),(uo1 25),(uo1 26),(uo1 27),(uo1 28),(uo1 29),(uo1 30),(uo1 31),(uo1 32),(uo1 33),(uo1 34),(uo1 35),(uo1 36),(uo1 37),(uo1 38),(uo1 39),(uo1 40),(uo1 41),(uo1 42),(uo1 43),(uo1 44),(uo1 45),(uo1 46),(uo1 47),(uo1 48),(uo1 49)])∧RowOk (Kd.int .i64) h xx1.1 obo1_0 xx1.1.length co1_0 cso1_0∧RowOk k_ctf_source h xx1.2.1 obo1_1 xx1.2.1.length co1_1 cso1_1∧MapOk vS (vI) xx1.2.2 eso1_2 clo1_2∧St [] h0 w0 h ((obo1_0, .cells (cso1_0).toArray 3 (0,0))::(some b1, .cells #[vL A1_0 a1.vDefs.length c1_0] 24 (0,0))::(some bp0, .cells #[Value.map (some mp0_0),vL (rowA obo1_1) xx1.2.1.length co1_1] 110 (0,0))::(some mp0_0, .map eso1_2 clo1_2)::(obo1_1, .cells (cso1_1).toArray 160 (0,0))::rest) w') k ⟨0,([]:List Int),p0_1,p0_0,none,0,([]:List Value),obp0_1,cp0_1,csp0_1,esp0_0,clp0_0,(fit rfl),H,(RowOk.none' (Kd.int .i64) _).norm,hop0_1.norm,hop0_0,HS2⟩ ?_ ?_
 ·rintro m us w2 ⟨y1_0,y1_1,y1_2,y1_3,oby1_1,cy1_1,csy1_1,oby1_2,cy1_2,csy1_2,esy1_3,cly1_3,huy1,H,hoy1_1,hoy1_2,hoy1_3,HS3⟩
  obtain ⟨uy1,rfl⟩:=unj huy1
  cases m with
  |zero=>exact absurd H (by simp [ctf_pool_add.l0])
  |succ m=>
   rw [ctf_pool_add.l0] at H
   try simp only [patch,sc0,sc1]
   refine wp_seq<|region<|rs (vB (decide (y1_0<(a1.vDefs.length:Int)))) (r_bin rfl rfl rfl) ?_
   try simp only [sc0,sc1]
   refine run_nil<|norm_then<|wp_seq<|wp_cond_split (t:=(decide (y1_0<(a1.vDefs.length:Int)))) rfl (fun c1=>?_) (fun c1=>?_)
   ·replace H:=of_pos H c1
    refine wp_skip<|norm_then<|wp_seq<|wp_block<|wp_seq<|region<|rs (vI y1_0) (r_move rfl)<|rs (vI y1_0) (r_assign rfl) ?_
    try simp only [sc0,sc1]
    refine run_nil<|norm_then<|wp_seq<|region<|rs (Value.agg #[vL A1_0 a1.vDefs.length c1_0]) (r_loadBoxAgg (n:=1) (vs:=[vL A1_0 a1.vDefs.length c1_0]) rfl Tryd.isAgg24 (HS3.look 1 rfl) Tryd.sizeOf24 rfl rfl)<|rs (vI y1_0) (r_move rfl) ?_
    obtain ⟨v1,H1,H⟩:=of_bind H
    refine run_eq (v:=vS v1) rfl rfl (does_call_eq Tryd.call53 rfl rfl (ctf_text.calls k a1 y1_0 A1_0 c1_0 HS3.sees (ht.s HS3) hr1_0 hc1_0 H1)) ?_
    intro w3 hE2
    have HS4:=HS3.step hE2
    refine rs (vS v1) (r_assign rfl) ?_
    try simp only [sc0,sc1]
    refine run_nil<|norm_then<|wp_seq<|region<|rs (vP bp0 0) (r_move rfl)<|rs (vP bp0 0) (r_nilCheck rfl)<|rs (vP bp0 0) (r_fieldBox (n:=1) (o':=0) rfl Tryd.runUnderlying110 rfl Tryd.sizeOf107 (by decide) rfl)<|rs (Value.map (some mp0_0)) (r_loadBox rfl Tryd.isAgg107 (HS4.look 2 rfl) rfl)<|run_frame (by simp only [sc0,sc1];rfl) ?_
    refine rs (vS v1) (r_move rfl)<|rs (Value.tuple #[vI ((mfind strEq y1_3 v1).getD 0),vB ((mfind strEq y1_3 v1).isSome)]) (r_mget2 (key_str Tryd.runUnderlying9) (k:=v1) (m:=y1_3) (ev:=(vI)) 0 rfl rfl Tryd.runUnderlying107 Tryd.zeroValue3 (HS4.look 3 rfl) hoy1_3)<|rs (Value.tuple #[vI ((mfind strEq y1_3 v1).getD 0),vB ((mfind strEq y1_3 v1).isSome)]) (r_move rfl)<|rs (vI ((mfind strEq y1_3 v1).getD 0)) (r_extract rfl rfl)<|run_frame (by simp only [sc0,sc1];rfl) ?_
    refine rs (vB ((mfind strEq y1_3 v1).isSome)) (r_extract rfl rfl)<|rs (vI ((mfind strEq y1_3 v1).getD 0)) (r_assign rfl)<|rs (vB ((mfind strEq y1_3 v1).isSome)) (r_assign rfl) ?_
    try simp only [sc0,sc1]
    refine run_nil<|norm_then<|wp_seq<|wp_seq<|region<|rs (vB ((mfind strEq y1_3 v1).isSome)) (r_move rfl)<|rs (vB (!((mfind strEq y1_3 v1).isSome))) (r_not rfl) ?_
    try simp only [sc0,sc1]
    refine run_nil<|norm_then ?_
    obtain ⟨xx2,H,G2⟩:=of_bind H
    refine cut_patch [8,30,31,32,33,34,35,36,37,38,39,40,41,42,43,44,45,46,47,48,49,50,51,52] (fun us w'=>∃(obj1_1:Option Nat) (cj1_1:Nat),∃(csj1_1:List Value),∃(esj1_2:Array MapEntry) (clj1_2:Nat),Fit us (fun uj1=>[vI xx2.1,(uj1 1),(uj1 2),(uj1 3),(uj1 4),(uj1 5),(uj1 6),(uj1 7),(uj1 8),(uj1 9),(uj1 10),(uj1 11),(uj1 12),(uj1 13),(uj1 14),(uj1 15),(uj1 16),(uj1 17),(uj1 18),(uj1 19),(uj1 20),(uj1 21),(uj1 22),(uj1 23)])∧RowOk k_ctf_source h xx2.2.1 obj1_1 xx2.2.1.length cj1_1 csj1_1∧MapOk vS (vI) xx2.2.2 esj1_2 clj1_2∧St [] h0 w0 h ((oby1_1, .cells (csy1_1).toArray 3 (0,0))::(some b1, .cells #[vL A1_0 a1.vDefs.length c1_0] 24 (0,0))::(some bp0, .cells #[Value.map (some mp0_0),vL (rowA obj1_1) xx2.2.1.length cj1_1] 110 (0,0))::(some mp0_0, .map esj1_2 clj1_2)::(obj1_1, .cells (csj1_1).toArray 160 (0,0))::rest) w') ?_ ?_
    ·refine wp_cond_split (t:=(!((mfind strEq y1_3 v1).isSome))) rfl (fun c2=>?_) (fun c2=>?_)
     ·replace H:=of_pos H c2
      refine wp_seq<|region<|rs (vP bp0 0) (r_move rfl)<|rs (vP bp0 0) (r_nilCheck rfl)<|rs (vP bp0 1) (r_fieldBox (n:=1) (o':=1) rfl Tryd.runUnderlying110 rfl Tryd.sizeOf108 (by decide) rfl)<|rs (vL (rowA oby1_2) y1_2.length cy1_2) (r_loadBox rfl Tryd.isAgg108 (HS4.look 2 rfl) rfl)<|run_frame (by simp only [sc0,sc1];rfl) ?_
      refine rs (vI ((y1_2.length:Nat):Int)) (r_lenRow rfl Tryd.runUnderlying108)<|rs (vI ((y1_2.length:Nat):Int)) (r_assign rfl) ?_
      try simp only [sc0,sc1]
      refine run_nil<|norm_then<|wp_seq<|region<|rs (vP bp0 0) (r_move rfl)<|rs (vP bp0 0) (r_nilCheck rfl)<|rs (vP bp0 0) (r_fieldBox (n:=1) (o':=0) rfl Tryd.runUnderlying110 rfl Tryd.sizeOf107 (by decide) rfl)<|rs (Value.map (some mp0_0)) (r_loadBox rfl Tryd.isAgg107 (HS4.look 2 rfl) rfl)<|run_frame (by simp only [sc0,sc1];rfl) ?_
      refine rs (vS v1) (r_move rfl)<|rs (vI ((y1_2.length:Nat):Int)) (r_move rfl)<|mupd (key_str Tryd.runUnderlying9) (i:=3) (k:=v1) (v:=((y1_2.length:Nat):Int)) (ev:=(vI)) (m:=y1_3) (by first|exact .inl rfl|exact .inr rfl) rfl rfl rfl rfl rfl Tryd.runUnderlying107 HS4 rfl hoy1_3 ?_
      intro w4 es1 cl1 HS5 ho1
      try simp only [sc0,sc1]
      refine run_nil<|norm_then<|drawn_chain [([41,42,43,44,45,46,47,48],[0,1,2,3,4,5,6,7]),([],[0,1,2,3,4]),([51,52],[0,10,11]),([],[])] [8,9,12] [[],[],[1],[1,2],[1,2,3],[],[],[5,6],[5,6,7],[1,2,3,4,5,6,7,8],[0,1,2,3,4,5,6,7,8,9],[0,1,2,3,4,5,6,7,8,9,10],[0,1,2,3,4,5,6,7,8,9,10,11]] hmix (by kernel_rfl) ?_
      intro w5 hE3
      have HS6:=HS5.step hE3
      refine chain_eff [vP bp0 0,vP bp0 0,vP bp0 0,vP bp0 1,vL (rowA oby1_2) y1_2.length cy1_2,Value.agg #[vL A1_0 a1.vDefs.length c1_0],vI y1_0,Value.agg #[vL A1_0 a1.vDefs.length c1_0,vI y1_0]] ?_ rfl rfl ?_
      ·try simp only [patch,sc0,sc1]
       exact allg_cons (good_same (v:=vP bp0 0) rfl rfl rfl rfl (r_move rfl)) (allg_cons (good_same (v:=vP bp0 0) rfl rfl rfl rfl (r_move rfl)) (allg_cons (good_same (v:=vP bp0 0) rfl rfl rfl rfl (r_nilCheck rfl)) (allg_cons (good_same (v:=vP bp0 1) rfl rfl rfl rfl (r_fieldBox (n:=1) (o':=1) rfl Tryd.runUnderlying110 rfl Tryd.sizeOf108 (by decide) rfl)) (allg_cons (good_same (v:=vL (rowA oby1_2) y1_2.length cy1_2) rfl rfl rfl rfl (r_loadBox rfl Tryd.isAgg108 (HS6.look 2 rfl) rfl)) (allg_cons (good_same (v:=Value.agg #[vL A1_0 a1.vDefs.length c1_0]) rfl rfl rfl rfl (r_loadBoxAgg (n:=1) (vs:=[vL A1_0 a1.vDefs.length c1_0]) rfl Tryd.isAgg24 (HS6.look 1 rfl) Tryd.sizeOf24 rfl rfl)) (allg_cons (good_same (v:=vI y1_0) rfl rfl rfl rfl (r_move rfl)) (allg_cons (good_same (v:=Value.agg #[vL A1_0 a1.vDefs.length c1_0,vI y1_0]) rfl rfl rfl rfl (r_build (cs:=[vL A1_0 a1.vDefs.length c1_0,vI y1_0]) (ps:=[(0,Value.agg #[vL A1_0 a1.vDefs.length c1_0]),(1,vI y1_0)]) Tryd.zeroValue160 Tryd.runUnderlying160 (pl:=#[(0,1),(1,1)]) (fun w=>by simp [Tryd.sizeOf24,Tryd.sizeOf3]) (parts_2 (show _=Value.agg #[vL A1_0 a1.vDefs.length c1_0] from rfl) (show _=vI y1_0 from rfl)) rfl)) (allg_nil))))))))
      try simp only [patch,sc0,sc1]
      refine run_bs k_ctf_source (xs:=([(⟨(⟨a1.vDefs⟩:api_Types),y1_0⟩:ctf_source)]:List ctf_source)) (n:=1) (cs:=[vL A1_0 a1.vDefs.length c1_0,vI y1_0]) Tryd.runUnderlying108 Tryd.typeInfo160 Tryd.zeroValue160 rfl rfl (by decide) (by decide) (by decide) [Value.agg #[vL A1_0 a1.vDefs.length c1_0,vI y1_0]] (parts_any.trans rfl) rfl rfl rfl rfl (elems_cons (qs:=[vL A1_0 a1.vDefs.length c1_0,vI y1_0]) ⟨[vL A1_0 a1.vDefs.length c1_0],[vI y1_0],rfl,⟨A1_0,c1_0,rfl,hc1_0,hr1_0⟩,rfl⟩ (elems_nil (cs:=[]))) HS6 ?_
      intro w6 b2 HS7 ho2
      refine qn_nil ?_
      try simp only [sc0,sc1]
      refine chain_eff [] ?_ rfl rfl ?_
      ·try simp only [patch,sc0,sc1]
       exact allg_cons (good_same (v:=vP bp0 0) rfl rfl rfl rfl (r_move rfl)) (allg_cons (good_same (v:=vP bp0 0) rfl rfl rfl rfl (r_move rfl)) (allg_cons (good_same (v:=vP bp0 0) rfl rfl rfl rfl (r_nilCheck rfl)) (allg_cons (good_same (v:=vP bp0 1) rfl rfl rfl rfl (r_fieldBox (n:=1) (o':=1) rfl Tryd.runUnderlying110 rfl Tryd.sizeOf108 (by decide) rfl)) (allg_cons (good_same (v:=vL (rowA oby1_2) y1_2.length cy1_2) rfl rfl rfl rfl (r_loadBox rfl Tryd.isAgg108 (HS7.look 3 rfl) rfl)) (allg_nil)))))
      try simp only [patch,sc0,sc1]
      obtain ⟨hl1,H⟩:=of_ite H
      refine run_app k_ctf_source (q:=5) (cs:=csy1_2) rfl rfl Tryd.runUnderlying108 Tryd.typeInfo160 Tryd.zeroValue160 rfl (by decide) rfl (src_row Tryd.runUnderlying108 HS7 (i:=0) rfl ho2 rfl) ho2.len (src_row_elems ho2) hl1 HS7 rfl hoy1_2 ?_
      intro w7 ob1 c3 cs1 HS8 ho3
      refine qn_nil ?_
      try simp only [sc0,sc1]
      refine chain_eff [vP bp0 0,vP bp0 1] ?_ rfl rfl ?_
      ·try simp only [patch,sc0,sc1]
       exact allg_cons (good_same (v:=vP bp0 0) rfl rfl rfl rfl (r_move rfl)) (allg_cons (good_same (v:=vP bp0 0) rfl rfl rfl rfl (r_nilCheck rfl)) (allg_cons (good_same (v:=vP bp0 1) rfl rfl rfl rfl (r_fieldBox (n:=1) (o':=1) rfl Tryd.runUnderlying110 rfl Tryd.sizeOf108 (by decide) rfl)) (allg_nil)))
      try simp only [patch,sc0,sc1]
      refine run_st (i:=3) (cs:=[Value.map (some mp0_0),vL (rowA oby1_2) y1_2.length cy1_2]) (cs':=[Value.map (some mp0_0),vL (rowA ob1) (y1_2.length+1) c3]) (vs:=[vL (rowA ob1) (y1_2.length+1) c3]) (bs':=(((some b2), .cells ([vL A1_0 a1.vDefs.length c1_0,vI y1_0]).toArray 160 (0,0))::(oby1_1, .cells (csy1_1).toArray 3 (0,0))::(some b1, .cells #[vL A1_0 a1.vDefs.length c1_0] 24 (0,0))::(some bp0, .cells #[Value.map (some mp0_0),vL (rowA ob1) (y1_2.length+1) c3] 110 (0,0))::(some mp0_0, .map es1 cl1)::(ob1, .cells (cs1).toArray 160 (0,0))::rest)) rfl rfl Tryd.sizeOf108 rfl rfl (by decide) rfl HS8 rfl (Nat.le_of_ble_eq_true rfl) rfl rfl ?_
      intro w8 HS9
      refine qn_nil ?_
      try simp only [sc0,sc1]
      refine chain_last [] ?_ ?_
      ·try simp only [patch,sc0,sc1]
       exact allg_nil
      try simp only [patch,sc0,sc1]
      obtain rfl:=Option.some.inj H
      have HS10:St [] h0 w0 h (((some b2), .cells ([vL A1_0 a1.vDefs.length c1_0,vI y1_0]).toArray 160 (0,0))::(oby1_1, .cells (csy1_1).toArray 3 (0,0))::(some b1, .cells #[vL A1_0 a1.vDefs.length c1_0] 24 (0,0))::(some bp0, .cells #[Value.map (some mp0_0),vL (rowA ob1) ((y1_2++([(⟨(⟨a1.vDefs⟩:api_Types),y1_0⟩:ctf_source)]:List ctf_source)).length) c3] 110 (0,0))::(some mp0_0, .map es1 cl1)::(ob1, .cells (cs1).toArray 160 (0,0))::rest) w8:=HS9.cast (by first|rfl|(rw [ho3.len];done)|(rw [ho3.len];rfl))
      have ho4:=ho3.norm
      refine met_j rfl ⟨ob1,c3,cs1,es1,cl1,(fit (by first|rfl|(rw [ho3.len];done)|(rw [ho3.len];rfl))),ho4.norm,ho1,HS10.tail⟩
     ·replace H:=of_neg H (nt c2)
      refine wp_skip ?_
      obtain rfl:=Option.some.inj H
      refine met_j rfl ⟨oby1_2,cy1_2,csy1_2,esy1_3,cly1_3,(fit rfl),hoy1_2.norm,hoy1_3,HS4⟩
    ·rintro us w9 ⟨obj1_1,cj1_1,csj1_1,esj1_2,clj1_2,huj1,hoj1_1,hoj1_2,HS11⟩
     obtain ⟨uj1,rfl⟩:=unj huj1
     replace H:=G2
     clear G2
     try simp only [patch,sc0,sc1]
     refine region<|rs (vL (rowA oby1_1) y1_1.length cy1_1) (r_move rfl)<|rs (vI xx2.1) (r_move rfl)<|run_bs (Kd.int .i64) (xs:=([xx2.1]:List Int)) (n:=1) (cs:=[vI xx2.1]) Tryd.runUnderlying62 Tryd.typeInfo3 Tryd.zeroValue3 rfl rfl (by decide) (by decide) (by decide) [vI xx2.1] (parts_any.trans rfl) rfl rfl rfl rfl (elems_cons (qs:=[vI xx2.1]) rfl (elems_nil (cs:=[]))) HS11 ?_
     intro w10 b3 HS12 ho5
     obtain ⟨hl2,H⟩:=of_ite H
     refine run_app (Kd.int .i64) (q:=1) (cs:=csy1_1) rfl rfl Tryd.runUnderlying62 Tryd.typeInfo3 Tryd.zeroValue3 rfl (by decide) rfl (src_row Tryd.runUnderlying62 HS12 (i:=0) rfl ho5 rfl) ho5.len (src_row_elems ho5) hl2 HS12 rfl hoy1_1 ?_
     intro w11 ob2 c4 cs2 HS13 ho6
     refine run_frame (by simp only [sc0,sc1];rfl) ?_
     refine rs (vL (rowA ob2) (y1_1.length+1) c4) (r_assign rfl) ?_
     try simp only [sc0,sc1]
     refine run_nil<|norm_block<|norm_then<|region<|rs (vI (w64 (y1_0+1))) (r_bin rfl rfl rfl)<|rs (vI (w64 (y1_0+1))) (r_move rfl) ?_
     try simp only [sc0,sc1]
     refine run_nil<|again_j m (Nat.lt_succ_self m) rfl ⟨(w64 (y1_0+1)),(y1_1++([xx2.1]:List Int)),xx2.2.1,xx2.2.2,ob2,c4,cs2,obj1_1,cj1_1,csj1_1,esj1_2,clj1_2,(fit (by first|rfl|(rw [ho6.len];done)|(rw [ho6.len];rfl))),H,ho6.norm,hoj1_1.norm,hoj1_2,HS13.tail⟩
   ·replace H:=of_neg H (nt c1)
    refine wp_exit<|exit_then ?_
    obtain rfl:=Option.some.inj H
    refine leave_j rfl ⟨oby1_1,cy1_1,csy1_1,oby1_2,cy1_2,csy1_2,esy1_3,cly1_3,(fit rfl),hoy1_1.norm,hoy1_2.norm,hoy1_3,HS3⟩
 ·rintro us w12 ⟨obo1_0,co1_0,cso1_0,obo1_1,co1_1,cso1_1,eso1_2,clo1_2,huo1,hoo1_0,hoo1_1,hoo1_2,HS14⟩
  obtain ⟨uo1,rfl⟩:=unj huo1
  replace H:=G1
  clear G1
  try simp only [patch,sc0,sc1]
  refine norm_then<|wp_seq<|region<|rs (vL (rowA obo1_0) xx1.1.length co1_0) (r_move rfl)<|rs (vL (rowA obo1_0) xx1.1.length co1_0) (r_assign rfl) ?_
  try simp only [sc0,sc1]
  refine run_nil<|norm_then<|wp_ret ?_
  obtain rfl:=Option.some.inj H
  refine bodyPost_ret (results_1 rfl (one_tmp rfl)) rfl ?_
  have HS15:=HS14.d1
  exact ⟨obo1_0,co1_0,cso1_0,eso1_2,clo1_2,obo1_1,co1_1,cso1_1,rfl,hoo1_0,hoo1_2,hoo1_1,HS15⟩
def slices_Clone_api_Field_api_Field.f (a0:List api_Field):Option (List api_Field):=if a0.length≤4294967296 then some a0 else none
theorem slices_Clone_api_Field_api_Field.calls (a0 : List api_Field) (A0_0 : Option Addr) (c0_0 : Nat) {h0 : View} {w0 : World} {h : View} {w : World} {rest : List Res} (HS : St [] h0 w0 h (rest) w) (hr0_0 : Rd k_api_Field h A0_0 a0) (hc0_0 : a0.length ≤ c0_0) {r : (List api_Field)} (H : slices_Clone_api_Field_api_Field.f a0 = some r) : Calls Tryd.prog 117 #[Value.slice A0_0 a0.length c0_0] w (fun e w1 => ∃ (obz_f0 : Option Nat) (cz_f0 : Nat) (csz_f0 : List Value), e = .returned (Value.slice (rowA obz_f0) r.length cz_f0) ∧ RowOk k_api_Field h r obz_f0 r.length cz_f0 csz_f0 ∧ St [] h0 w0 h ((obz_f0, .cells (csz_f0).toArray 36 (0, 0)) :: rest) w1) := by
  unfold slices_Clone_api_Field_api_Field.f at H
  obtain ⟨hl,H⟩:=of_ite H
  obtain rfl:=Option.some.inj H
  go_enter Tryd.func117,Tryd.ntmps117
  refine wp_seq ?_
  refine region ?_
  refine run_same (v:=Value.slice none 0 0) rfl rfl (r_assign rfl) ?_
  try simp only [List.set_cons_zero,List.set_cons_succ]
  refine run_nil ?_
  refine norm_then ?_
  refine wp_seq ?_
  refine wp_seq ?_
  refine region ?_
  refine run_same (v:=Value.slice A0_0 a0.length c0_0) rfl rfl (r_move rfl) ?_
  refine run_same (v:=Value.bool A0_0.isNone) rfl rfl (r_eqlnil rfl rfl Tryd.runUnderlying32) ?_
  try simp only [List.set_cons_zero,List.set_cons_succ]
  refine run_nil ?_
  refine norm_then ?_
  refine wp_cond_split (t:=A0_0.isNone) rfl (fun cn=>?_) (fun cn=>?_)
  · have ha:a0=[]:=by
      cases a0 with
      |nil=>rfl
      | cons x xs =>
        obtain ⟨ad,e,_⟩:=hr0_0.2 (by simp)
        subst e
        cases cn
    subst ha
    refine wp_seq ?_
    refine region ?_
    refine run_same (v:=Value.slice none 0 0) rfl rfl (r_assign rfl) ?_
    try simp only [List.set_cons_zero,List.set_cons_succ]
    refine run_nil ?_
    refine norm_then ?_
    refine wp_ret ?_
    refine ret_then ?_
    refine bodyPost_ret (results_1 rfl (one_tmp rfl)) rfl ?_
    exact ⟨none,0,[],rfl,RowOk.none' _ _,HS.nothing _⟩
  · refine wp_skip ?_
    refine norm_then ?_
    refine wp_seq ?_
    refine region ?_
    refine run_bs0 k_api_Field Tryd.runUnderlying32 Tryd.typeInfo36 HS ?_
    intro w1 b1 HS1 ho1
    refine run_same (v:=Value.slice A0_0 a0.length c0_0) rfl rfl (r_move rfl) ?_
    obtain ⟨nw1,sr1,hn1⟩:=src_rd (c:=c0_0) one_api_Field Tryd.runUnderlying32 HS1.sees hr0_0
    refine run_app k_api_Field (q:=0) (cs:=[]) rfl rfl Tryd.runUnderlying32 Tryd.typeInfo36 Tryd.zeroValue36 rfl (by decide) rfl sr1 rfl hn1 (by omega) HS1 rfl ho1 ?_
    intro w2 ob2 c2 cs2 HS2 ho2
    refine run_same (v:=Value.slice (rowA ob2) (0+a0.length) c2) rfl rfl (r_assign rfl) ?_
    try simp only [List.set_cons_zero,List.set_cons_succ]
    refine run_nil ?_
    refine norm_then ?_
    refine wp_ret ?_
    refine bodyPost_ret (results_1 rfl (one_tmp rfl)) rfl ?_
    have ho3:=ho2.norm
    simp only [List.nil_append] at ho3
    exact ⟨ob2,c2,cs2,by simp,ho3,HS2⟩
def ctf_moved.l0 (a1:(Int→Option Int)) (v1:(List api_Field)):Nat→Int→(List api_Field)→Option ((List api_Field))
 |0,_,_=>none
 |m+1,y1_0,y1_1=>if (decide (y1_0<((v1.length:Nat):Int)))=true then (if 0≤y1_0∧y1_0<((v1.length:Nat):Int) then ((a1 ((rd z_api_Field y1_1 y1_0).vType)).bind fun v4=>(if 0≤y1_0∧y1_0<((v1.length:Nat):Int) then (ctf_moved.l0 a1 v1 m (IntKind.wrap .i64 (y1_0+1)) (List.set y1_1 y1_0.toNat (⟨(rd z_api_Field y1_1 y1_0).vName,v4,(rd z_api_Field y1_1 y1_0).vAt⟩:api_Field))) else none)) else none) else (some y1_1)
def ctf_moved.f (k:Nat) (a0:api_Def) (a1:Int→Option Int):Option (api_Def):=(slices_Clone_api_Field_api_Field.f a0.vFields).bind fun v1=>((ctf_shapes.f).bind fun v2=>(((if ((mfind ieq v2 a0.vKind).getD z_ctf_shape).vref=true then ((a1 a0.vRef).bind fun v3=>(some v3)) else (some a0.vRef)):Option (Int)).bind fun xx1=>(if (a0.vKind==4)=true then ((ctf_moved.l0 a1 v1 k 0 v1).bind fun xx2=>(some (⟨a0.vKind,a0.vName,(⟨a0.vInt.vSize,a0.vInt.vSigned⟩:api_Int),xx1,a0.vN,xx2⟩:api_Def))) else (some (⟨a0.vKind,a0.vName,(⟨a0.vInt.vSize,a0.vInt.vSigned⟩:api_Int),xx1,a0.vN,v1⟩:api_Def)))))
theorem ctf_moved.calls (k:Nat) (a0:api_Def) (a1:Int→Option Int) (A0_6:Option Addr) (c0_6:Nat) (fid1:Nat) (cap1:List Value) {h0:View} {w0:World} (hv:Sees h0 w0) (hr0_6:Rd k_api_Field h0 A0_6 a0.vFields) (hc0_6:a0.vFields.length≤c0_6) (hent1:∀args w,(callFunc fid1 args).run Tryd.prog w= .ok (.enter fid1 args) w) (hfp1:∀(z0:Int) (h:View) (w:World),Ext w0 w→Sub h0 h→Sees h w→∀(r:Int),a1 z0=some r→Calls Tryd.prog fid1 ([vI z0]++cap1).toArray w (fun e w1=>e= .returned (vI r)∧Ext w w1)) {r:api_Def} (H:ctf_moved.f k a0 a1=some r):Calls Tryd.prog 85 #[Value.agg #[vI a0.vKind,vS a0.vName,vI a0.vInt.vSize,vB a0.vInt.vSigned,vI a0.vRef,vI a0.vN,vL A0_6 a0.vFields.length c0_6],Value.func (.func fid1) #[] cap1.toArray] w0 (fun e w1=>∃(h1:View) (A0_6:Option Addr) (c0_6:Nat),e= .returned (Value.agg #[vI r.vKind,vS r.vName,vI r.vInt.vSize,vB r.vInt.vSigned,vI r.vRef,vI r.vN,vL A0_6 r.vFields.length c0_6])∧r.vFields.length≤c0_6∧Rd k_api_Field h1 A0_6 r.vFields∧Gr w0.heap.size h0 h1∧Sees h1 w1∧Ext w0 w1):=by
 unfold ctf_moved.f at H
 have HS:St [] h0 w0 h0 [] w0:=St.init hv
 go_enter Tryd.func85,Tryd.ntmps85
 refine wp_seq<|region<|run_ex rfl rfl (does_box (cs:=#[vI a0.vKind,vS a0.vName,vI a0.vInt.vSize,vB a0.vInt.vSigned,vI a0.vRef,vI a0.vN,vL A0_6 a0.vFields.length c0_6]) rfl rfl) ?_
 rintro w1 _ hE1 ⟨b1,rfl,ge1,hb1⟩
 have HS1:=HS.new hE1 ge1 hb1
 refine run_ex rfl rfl (does_alloc (cs:=#[vI 0,vS ByteArray.empty,vI 0,vB false,vI 0,vI 0,vL none 0 0]) Tryd.zeroValue34 rfl) ?_
 rintro w2 _ hE2 ⟨b2,rfl,ge2,hb2⟩
 have HS2:=HS1.new hE2 ge2 hb2
 try simp only [sc0,sc1]
 refine run_nil<|norm_then<|wp_seq<|region<|rs (vP b1 6) (r_fieldBox (n:=1) (o':=6) rfl Tryd.runUnderlying34 rfl Tryd.sizeOf32 (by decide) rfl)<|rs (vL A0_6 a0.vFields.length c0_6) (r_loadBox rfl Tryd.isAgg32 (HS2.look 1 rfl) rfl) ?_
 obtain ⟨v1,H1,H⟩:=of_bind H
 refine run_call (vs:=[vL A0_6 a0.vFields.length c0_6]) (caps:=[]) Tryd.call117 rfl rfl (slices_Clone_api_Field_api_Field.calls a0.vFields A0_6 c0_6 HS2 hr0_6 hc0_6 H1) ?_
 rintro _ w3 ⟨obv1_f0,cv1_f0,csv1_f0,rfl,hov1_f0,HS3⟩
 refine ⟨_,rfl,?_⟩
 refine rs (vP b1 6) (r_fieldBox (n:=1) (o':=6) rfl Tryd.runUnderlying34 rfl Tryd.sizeOf32 (by decide) rfl)<|run_frame (by simp only [sc0,sc1];rfl) ?_
 refine run_st (i:=2) (cs:=[vI a0.vKind,vS a0.vName,vI a0.vInt.vSize,vB a0.vInt.vSigned,vI a0.vRef,vI a0.vN,vL A0_6 a0.vFields.length c0_6]) (cs':=[vI a0.vKind,vS a0.vName,vI a0.vInt.vSize,vB a0.vInt.vSigned,vI a0.vRef,vI a0.vN,vL (rowA obv1_f0) v1.length cv1_f0]) (vs:=[vL (rowA obv1_f0) v1.length cv1_f0]) (bs':=[(obv1_f0, .cells (csv1_f0).toArray 36 (0,0)),(some b2, .cells #[vI 0,vS ByteArray.empty,vI 0,vB false,vI 0,vI 0,vL none 0 0] 34 (0,0)),(some b1, .cells #[vI a0.vKind,vS a0.vName,vI a0.vInt.vSize,vB a0.vInt.vSigned,vI a0.vRef,vI a0.vN,vL (rowA obv1_f0) v1.length cv1_f0] 34 (0,0))]) rfl rfl Tryd.sizeOf32 rfl rfl (by decide) rfl HS3 rfl (Nat.le_of_ble_eq_true rfl) rfl rfl ?_
 intro w4 HS4
 try simp only [sc0,sc1]
 refine run_nil<|norm_then<|wp_seq<|wp_seq ?_
 obtain ⟨v2,H2,H⟩:=of_bind H
 refine drawn [.ex (NewMap w4 (vI) e_ctf_shape v2), .eq (vP b1 0), .eq (vI a0.vKind), .eq (Value.agg #[vB (((mfind ieq v2 a0.vKind).getD z_ctf_shape).vname),vB (((mfind ieq v2 a0.vKind).getD z_ctf_shape).vint),vB (((mfind ieq v2 a0.vKind).getD z_ctf_shape).vref),vB (((mfind ieq v2 a0.vKind).getD z_ctf_shape).vn),vB (((mfind ieq v2 a0.vKind).getD z_ctf_shape).vfields)]), .eq (vB (((mfind ieq v2 a0.vKind).getD z_ctf_shape).vref))] [10,11,12,13,14] hmix (by kernel_rfl) rfl (stable_ex NewMap.stable (stable_eq (stable_eq (stable_eq (stable_eq stable_nil))))) ⟨ob_plain rfl (fun a' w' hE hk=>by have HSd:=HS4.step hE;exact does_call Tryd.call116 rfl (map_in hE (ctf_shapes.calls HSd.sees H2)) rfl),ob_plain rfl (fun a' w' hE hk=>by have HSd:=HS4.step hE;exact does_eq (r_fieldBox (n:=1) (o':=0) (show _=vP b1 0 from hk 2 rfl) Tryd.runUnderlying34 rfl Tryd.sizeOf3 (by decide) rfl)),ob_plain rfl (fun a' w' hE hk=>by have HSd:=HS4.step hE;exact does_eq (r_loadBox (show _=vP b1 0 from hk 11 rfl) Tryd.isAgg3 (HSd.look 2 rfl) rfl)),ob_plain rfl (fun a' w' hE hk=>by obtain ⟨_,_,_,e10,_,hb10,ho10⟩:=hk 10 rfl;have HSd:=HS4.step hE;exact does_eq (r_mget (key_int Tryd.runUnderlying3) (k:=a0.vKind) (m:=v2) (ev:=e_ctf_shape) z_ctf_shape e10 (show _=vI a0.vKind from hk 12 rfl) Tryd.runUnderlying172 Tryd.zeroValue171 hb10 ho10)),ob_plain rfl (fun a' w' hE hk=>by have HSd:=HS4.step hE;exact does_eq (r_field (show _=Value.agg #[vB (((mfind ieq v2 a0.vKind).getD z_ctf_shape).vname),vB (((mfind ieq v2 a0.vKind).getD z_ctf_shape).vint),vB (((mfind ieq v2 a0.vKind).getD z_ctf_shape).vref),vB (((mfind ieq v2 a0.vKind).getD z_ctf_shape).vn),vB (((mfind ieq v2 a0.vKind).getD z_ctf_shape).vfields)] from hk 13 rfl) Tryd.runUnderlying171 rfl Tryd.isAgg4 rfl)),trivial⟩ ?_
 intro w5 hE3
 simp only [List.zip_cons_cons,List.zip_nil_left,List.zip_nil_right,finL,sc0,sc1,List.length_cons,List.length_nil,List.drop_succ_cons,List.drop_zero,Nat.zero_add,Nat.reduceAdd]
 rintro _ ⟨b3,es1,cl1,rfl,ge3,hb3,ho1⟩
 have HS5:=HS4.new hE3 ge3 hb3
 refine run_nil<|norm_then ?_
 obtain ⟨xx1,H,G1⟩:=of_bind H
 refine cut_patch [15,16,17,18,19] (fun us w'=>Fit us (fun uj1=>[(uj1 0),(uj1 1),(uj1 2),(uj1 3),(uj1 4)])∧St [] h0 w0 h0 [(some b3, .map es1 cl1),(obv1_f0, .cells (csv1_f0).toArray 36 (0,0)),(some b2, .cells #[vI 0,vS ByteArray.empty,vI 0,vB false,vI 0,vI 0,vL none 0 0] 34 (0,0)),(some b1, .cells #[vI a0.vKind,vS a0.vName,vI a0.vInt.vSize,vB a0.vInt.vSigned,vI xx1,vI a0.vN,vL (rowA obv1_f0) v1.length cv1_f0] 34 (0,0))] w') ?_ ?_
 ·refine wp_cond_split (t:=((mfind ieq v2 a0.vKind).getD z_ctf_shape).vref) rfl (fun c1=>?_) (fun c1=>?_)
  ·replace H:=of_pos H c1
   refine region<|rs (Value.func (.func fid1) #[] cap1.toArray) (r_move rfl)<|rs (vP b1 4) (r_fieldBox (n:=1) (o':=4) rfl Tryd.runUnderlying34 rfl Tryd.sizeOf3 (by decide) rfl)<|rs (vI a0.vRef) (r_loadBox rfl Tryd.isAgg3 (HS5.look 3 rfl) rfl) ?_
   obtain ⟨v3,H3,H⟩:=of_bind H
   refine run_eq (v:=vI v3) rfl rfl (does_callv (vs:=[vI a0.vRef]) (caps:=cap1) hent1 rfl rfl (hfp1 a0.vRef _ _ HS5.toE HS5.sub HS5.sees _ H3)) ?_
   intro w6 hE4
   have HS6:=HS5.step hE4
   refine run_frame (by simp only [sc0,sc1];rfl) ?_
   refine rs (vP b1 4) (r_fieldBox (n:=1) (o':=4) rfl Tryd.runUnderlying34 rfl Tryd.sizeOf3 (by decide) rfl)<|run_st (i:=3) (cs:=[vI a0.vKind,vS a0.vName,vI a0.vInt.vSize,vB a0.vInt.vSigned,vI a0.vRef,vI a0.vN,vL (rowA obv1_f0) v1.length cv1_f0]) (cs':=[vI a0.vKind,vS a0.vName,vI a0.vInt.vSize,vB a0.vInt.vSigned,vI v3,vI a0.vN,vL (rowA obv1_f0) v1.length cv1_f0]) (vs:=[vI v3]) (bs':=[(some b3, .map es1 cl1),(obv1_f0, .cells (csv1_f0).toArray 36 (0,0)),(some b2, .cells #[vI 0,vS ByteArray.empty,vI 0,vB false,vI 0,vI 0,vL none 0 0] 34 (0,0)),(some b1, .cells #[vI a0.vKind,vS a0.vName,vI a0.vInt.vSize,vB a0.vInt.vSigned,vI v3,vI a0.vN,vL (rowA obv1_f0) v1.length cv1_f0] 34 (0,0))]) rfl rfl Tryd.sizeOf3 rfl rfl (by decide) rfl HS6 rfl (Nat.le_of_ble_eq_true rfl) rfl rfl ?_
   intro w7 HS7
   try simp only [sc0,sc1]
   refine run_nil ?_
   obtain rfl:=Option.some.inj H
   refine met_j rfl ⟨(fit rfl),HS7⟩
  ·replace H:=of_neg H (nt c1)
   refine wp_skip ?_
   obtain rfl:=Option.some.inj H
   refine met_j rfl ⟨(fit rfl),HS5⟩
 ·rintro us w8 ⟨huj1,HS8⟩
  obtain ⟨uj1,rfl⟩:=unj huj1
  replace H:=G1
  clear G1
  try simp only [patch,sc0,sc1]
  refine wp_seq<|wp_seq<|region<|rs (vP b1 0) (r_fieldBox (n:=1) (o':=0) rfl Tryd.runUnderlying34 rfl Tryd.sizeOf3 (by decide) rfl)<|rs (vI a0.vKind) (r_loadBox rfl Tryd.isAgg3 (HS8.look 3 rfl) rfl)<|rs (vB (a0.vKind==4)) (r_bin rfl rfl rfl) ?_
  try simp only [sc0,sc1]
  refine run_nil<|norm_then<|wp_cond_split (t:=(a0.vKind==4)) rfl (fun c2=>?_) (fun c2=>?_)
  ·replace H:=of_pos H c2
   refine wp_seq<|region<|rs (vP b1 6) (r_fieldBox (n:=1) (o':=6) rfl Tryd.runUnderlying34 rfl Tryd.sizeOf32 (by decide) rfl)<|rs (vL (rowA obv1_f0) v1.length cv1_f0) (r_loadBox rfl Tryd.isAgg32 (HS8.look 3 rfl) rfl)<|rs (vI ((v1.length:Nat):Int)) (r_lenRow rfl Tryd.runUnderlying32)<|rs (vI 0) (r_move rfl) ?_
   try simp only [sc0,sc1]
   refine run_nil<|norm_then ?_
   obtain ⟨xx2,H,G2⟩:=of_bind H
   refine loop_j [5,26,27,28,29,30,31,32,33,34,35,36,37,38,39,40,41,42] (fun m us w'=>∃y1_0:Int,∃y1_1:List api_Field,∃csy1_1:List Value,Fit us (fun uy1=>[(uy1 0),vI y1_0,(uy1 2),(uy1 3),(uy1 4),(uy1 5),(uy1 6),(uy1 7),(uy1 8),(uy1 9),(uy1 10),(uy1 11),(uy1 12),(uy1 13),(uy1 14),(uy1 15),(uy1 16),(uy1 17)])∧ctf_moved.l0 a1 v1 m y1_0 y1_1=some xx2∧RowOk k_api_Field h0 y1_1 obv1_f0 v1.length cv1_f0 csy1_1∧St [] h0 w0 h0 [(some b3, .map es1 cl1),(obv1_f0, .cells (csy1_1).toArray 36 (0,0)),(some b2, .cells #[vI 0,vS ByteArray.empty,vI 0,vB false,vI 0,vI 0,vL none 0 0] 34 (0,0)),(some b1, .cells #[vI a0.vKind,vS a0.vName,vI a0.vInt.vSize,vB a0.vInt.vSigned,vI xx1,vI a0.vN,vL (rowA obv1_f0) v1.length cv1_f0] 34 (0,0))] w') (fun us w'=>∃(cso1_0:List Value),Fit us (fun uo1=>[(uo1 0),(uo1 1),(uo1 2),(uo1 3),(uo1 4),(uo1 5),(uo1 6),(uo1 7),(uo1 8),(uo1 9),(uo1 10),(uo1 11),(uo1 12),(uo1 13),(uo1 14),(uo1 15),(uo1 16),(uo1 17)])∧RowOk k_api_Field h0 xx2 obv1_f0 v1.length cv1_f0 cso1_0∧St [] h0 w0 h0 [(some b3, .map es1 cl1),(obv1_f0, .cells (cso1_0).toArray 36 (0,0)),(some b2, .cells #[vI 0,vS ByteArray.empty,vI 0,vB false,vI 0,vI 0,vL none 0 0] 34 (0,0)),(some b1, .cells #[vI a0.vKind,vS a0.vName,vI a0.vInt.vSize,vB a0.vInt.vSigned,vI xx1,vI a0.vN,vL (rowA obv1_f0) v1.length cv1_f0] 34 (0,0))] w') k ⟨0,v1,csv1_f0,(fit rfl),H,hov1_f0,HS8⟩ ?_ ?_
   ·rintro m us w9 ⟨y1_0,y1_1,csy1_1,huy1,H,hoy1_1,HS9⟩
    obtain ⟨uy1,rfl⟩:=unj huy1
    cases m with
    |zero=>exact absurd H (by simp [ctf_moved.l0])
    |succ m=>
     rw [ctf_moved.l0] at H
     try simp only [patch,sc0,sc1]
     refine wp_seq<|region<|rs (vB (decide (y1_0<((v1.length:Nat):Int)))) (r_bin rfl rfl rfl) ?_
     try simp only [sc0,sc1]
     refine run_nil<|norm_then<|wp_seq<|wp_cond_split (t:=(decide (y1_0<((v1.length:Nat):Int)))) rfl (fun c3=>?_) (fun c3=>?_)
     ·replace H:=of_pos H c3
      refine wp_skip<|norm_then<|wp_seq<|wp_block<|wp_seq<|region<|rs (vI y1_0) (r_move rfl)<|rs (vI y1_0) (r_assign rfl) ?_
      try simp only [sc0,sc1]
      refine run_nil<|norm_then ?_
      obtain ⟨hi1,H⟩:=of_ite H
      obtain ⟨rb1,_,hrb1,⟨_,_,rfl,rfl,⟨_,_,rfl,rfl,rfl⟩⟩,hp1⟩:=hoy1_1.at z_api_Field hi1.1 hi1.2
      obtain ⟨v4,H4,H⟩:=of_bind H
      refine drawn [.eq (vP b1 6), .eq (vL (rowA obv1_f0) v1.length cv1_f0), .eq (vI y1_0), .eq (Value.func (.func fid1) #[] cap1.toArray), .eq (vP b1 6), .eq (vL (rowA obv1_f0) v1.length cv1_f0), .eq (vI y1_0), .eq (Value.pointer (some ⟨rb1,y1_0.toNat*3+0,none⟩)), .eq (Value.pointer (some ⟨rb1,y1_0.toNat*3+1,none⟩)), .eq (vI ((rd z_api_Field y1_1 y1_0).vType)), .eq (vI v4)] [29,30,31,32,33,34,35,36,37,38,39] hmix (by kernel_rfl) rfl (stable_eq (stable_eq (stable_eq (stable_eq (stable_eq (stable_eq (stable_eq (stable_eq (stable_eq (stable_eq (stable_eq stable_nil))))))))))) ⟨ob_plain rfl (fun a' w' hE hk=>by have HSd:=HS9.step hE;exact does_eq (r_fieldBox (n:=1) (o':=6) (show _=vP b1 0 from hk 2 rfl) Tryd.runUnderlying34 rfl Tryd.sizeOf32 (by decide) rfl)),ob_plain rfl (fun a' w' hE hk=>by have HSd:=HS9.step hE;exact does_eq (r_loadBox (show _=vP b1 6 from hk 29 rfl) Tryd.isAgg32 (HSd.look 3 rfl) rfl)),ob_plain rfl (fun a' w' hE hk=>by have HSd:=HS9.step hE;exact does_eq (r_move (show _=vI y1_0 from hk 5 rfl))),ob_plain rfl (fun a' w' hE hk=>by have HSd:=HS9.step hE;exact does_eq (r_move (show _=Value.func (.func fid1) #[] cap1.toArray from hk 1 rfl))),ob_plain rfl (fun a' w' hE hk=>by have HSd:=HS9.step hE;exact does_eq (r_fieldBox (n:=1) (o':=6) (show _=vP b1 0 from hk 2 rfl) Tryd.runUnderlying34 rfl Tryd.sizeOf32 (by decide) rfl)),ob_plain rfl (fun a' w' hE hk=>by have HSd:=HS9.step hE;exact does_eq (r_loadBox (show _=vP b1 6 from hk 33 rfl) Tryd.isAgg32 (HSd.look 3 rfl) rfl)),ob_plain rfl (fun a' w' hE hk=>by have HSd:=HS9.step hE;exact does_eq (r_move (show _=vI y1_0 from hk 5 rfl))),ob_plain rfl (fun a' w' hE hk=>by have HSd:=HS9.step hE;exact does_eq (r_indexRow (sz:=3) (show _=vL (rowA obv1_f0) v1.length cv1_f0 from hk 34 rfl) hrb1 (show _=vI y1_0 from hk 35 rfl) hi1.1 hi1.2 Tryd.runUnderlying32 Tryd.sizeOf36)),ob_plain rfl (fun a' w' hE hk=>by have HSd:=HS9.step hE;exact does_eq (r_fieldBox (n:=1) (o':=y1_0.toNat*3+1) (show _=Value.pointer (some ⟨rb1,y1_0.toNat*3+0,none⟩) from hk 36 rfl) Tryd.runUnderlying36 rfl Tryd.sizeOf3 (by decide) rfl)),ob_plain rfl (fun a' w' hE hk=>by have HSd:=HS9.step hE;exact does_eq (r_loadBox (cs:=csy1_1) (show _=Value.pointer (some ⟨rb1,y1_0.toNat*3+1,none⟩) from hk 37 rfl) Tryd.isAgg3 (HSd.lookr 1 rfl hrb1) (hp1 1 _ rfl))),ob_plain rfl (fun a' w' hE hk=>by have HSd:=HS9.step hE;exact (does_callv (vs:=[vI ((rd z_api_Field y1_1 y1_0).vType)]) (caps:=cap1) hent1 (show _=Value.func (.func fid1) #[] cap1.toArray from hk 32 rfl) (map1 (show _=vI ((rd z_api_Field y1_1 y1_0).vType) from hk 38 rfl)) (hfp1 ((rd z_api_Field y1_1 y1_0).vType) _ _ HSd.toE HS9.sub HSd.sees _ H4))),trivial⟩ ?_
      intro w10 hE5
      simp only [List.zip_cons_cons,List.zip_nil_left,List.zip_nil_right,finL,sc0,sc1,List.length_cons,List.length_nil,List.drop_succ_cons,List.drop_zero,Nat.zero_add,Nat.reduceAdd]
      have HS10:=HS9.step hE5
      obtain ⟨hi2,H⟩:=of_ite H
      obtain ⟨rb2,_,hrb2,⟨_,_,rfl,rfl,⟨_,_,rfl,rfl,rfl⟩⟩,hp2⟩:=hoy1_1.at z_api_Field hi2.1 hi2.2
      refine rs (Value.pointer (some ⟨rb2,y1_0.toNat*3+0,none⟩)) (r_indexRow (sz:=3) rfl hrb2 rfl hi2.1 hi2.2 Tryd.runUnderlying32 Tryd.sizeOf36)<|rs (Value.pointer (some ⟨rb2,y1_0.toNat*3+1,none⟩)) (r_fieldBox (n:=1) (o':=y1_0.toNat*3+1) rfl Tryd.runUnderlying36 rfl Tryd.sizeOf3 (by decide) rfl)<|run_str (i:=1) (cs:=csy1_1) (v:=vI v4) hrb2 rfl rfl Tryd.sizeOf3 rfl rfl HS10 rfl (hoy1_1.inb hi2.1 hi2.2 (m:=2) (by decide)) ?_
      intro w11 HS11
      have ho2:=hoy1_1.set (o:=1) (v:=vI v4) (x':=(⟨(rd z_api_Field y1_1 y1_0).vName,v4,(rd z_api_Field y1_1 y1_0).vAt⟩:api_Field)) hi2.1 hi2.2 hp2 ⟨[vS ((rd z_api_Field y1_1 y1_0).vName)],[vI v4,vI ((rd z_api_Field y1_1 y1_0).vAt)],rfl,rfl,⟨[vI v4],[vI ((rd z_api_Field y1_1 y1_0).vAt)],rfl,rfl,rfl⟩⟩ (Nat.le_of_ble_eq_true rfl)
      try simp only [sc0,sc1]
      refine run_nil<|norm_block<|norm_then<|region<|rs (vI (w64 (y1_0+1))) (r_bin rfl rfl rfl)<|rs (vI (w64 (y1_0+1))) (r_move rfl) ?_
      try simp only [sc0,sc1]
      refine run_nil<|again_j m (Nat.lt_succ_self m) rfl ⟨(w64 (y1_0+1)),(List.set y1_1 y1_0.toNat (⟨(rd z_api_Field y1_1 y1_0).vName,v4,(rd z_api_Field y1_1 y1_0).vAt⟩:api_Field)),(List.set csy1_1 (y1_0.toNat*3+1) (vI v4)),(fit rfl),H,ho2,HS11⟩
     ·replace H:=of_neg H (nt c3)
      refine wp_exit<|exit_then ?_
      obtain rfl:=Option.some.inj H
      refine leave_j rfl ⟨csy1_1,(fit rfl),hoy1_1,HS9⟩
   ·rintro us w12 ⟨cso1_0,huo1,hoo1_0,HS12⟩
    obtain ⟨uo1,rfl⟩:=unj huo1
    replace H:=G2
    clear G2
    try simp only [patch,sc0,sc1]
    refine norm_then<|wp_seq<|region<|rs (Value.agg #[vI a0.vKind,vS a0.vName,vI a0.vInt.vSize,vB a0.vInt.vSigned,vI xx1,vI a0.vN,vL (rowA obv1_f0) v1.length cv1_f0]) (r_loadBoxAgg (n:=7) (vs:=[vI a0.vKind,vS a0.vName,vI a0.vInt.vSize,vB a0.vInt.vSigned,vI xx1,vI a0.vN,vL (rowA obv1_f0) v1.length cv1_f0]) rfl Tryd.isAgg34 (HS12.look 3 rfl) Tryd.sizeOf34 rfl rfl)<|run_st (i:=2) (cs:=[vI 0,vS ByteArray.empty,vI 0,vB false,vI 0,vI 0,vL none 0 0]) (cs':=[vI a0.vKind,vS a0.vName,vI a0.vInt.vSize,vB a0.vInt.vSigned,vI xx1,vI a0.vN,vL (rowA obv1_f0) v1.length cv1_f0]) (vs:=[vI a0.vKind,vS a0.vName,vI a0.vInt.vSize,vB a0.vInt.vSigned,vI xx1,vI a0.vN,vL (rowA obv1_f0) v1.length cv1_f0]) (bs':=[(some b3, .map es1 cl1),(obv1_f0, .cells (cso1_0).toArray 36 (0,0)),(some b2, .cells #[vI a0.vKind,vS a0.vName,vI a0.vInt.vSize,vB a0.vInt.vSigned,vI xx1,vI a0.vN,vL (rowA obv1_f0) v1.length cv1_f0] 34 (0,0)),(some b1, .cells #[vI a0.vKind,vS a0.vName,vI a0.vInt.vSize,vB a0.vInt.vSigned,vI xx1,vI a0.vN,vL (rowA obv1_f0) v1.length cv1_f0] 34 (0,0))]) rfl rfl Tryd.sizeOf34 rfl rfl (by decide) rfl HS12 rfl (Nat.le_of_ble_eq_true rfl) rfl rfl ?_
    intro w13 HS13
    try simp only [sc0,sc1]
    refine run_nil<|norm_then<|wp_ret ?_
    obtain rfl:=Option.some.inj H
    refine bodyPost_ret (results_1 rfl (one_agg rfl Tryd.isAgg34 (HS13.look 2 rfl) Tryd.sizeOf34 rfl)) rfl ?_
    obtain ⟨h1,HS14,hs2,rdp1⟩:=row_pub HS13 (i:=1) rfl hoo1_0
    exact ⟨h1,(rowA obv1_f0),cv1_f0,(by first|rfl|(rw [hoo1_0.len];done)|(rw [hoo1_0.len];rfl)),hoo1_0.cap,rdp1,HS14.gr,HS14.sees,HS14.toE⟩
  ·replace H:=of_neg H (nt c2)
   refine wp_skip<|norm_then<|wp_seq<|region<|rs (Value.agg #[vI a0.vKind,vS a0.vName,vI a0.vInt.vSize,vB a0.vInt.vSigned,vI xx1,vI a0.vN,vL (rowA obv1_f0) v1.length cv1_f0]) (r_loadBoxAgg (n:=7) (vs:=[vI a0.vKind,vS a0.vName,vI a0.vInt.vSize,vB a0.vInt.vSigned,vI xx1,vI a0.vN,vL (rowA obv1_f0) v1.length cv1_f0]) rfl Tryd.isAgg34 (HS8.look 3 rfl) Tryd.sizeOf34 rfl rfl)<|run_st (i:=2) (cs:=[vI 0,vS ByteArray.empty,vI 0,vB false,vI 0,vI 0,vL none 0 0]) (cs':=[vI a0.vKind,vS a0.vName,vI a0.vInt.vSize,vB a0.vInt.vSigned,vI xx1,vI a0.vN,vL (rowA obv1_f0) v1.length cv1_f0]) (vs:=[vI a0.vKind,vS a0.vName,vI a0.vInt.vSize,vB a0.vInt.vSigned,vI xx1,vI a0.vN,vL (rowA obv1_f0) v1.length cv1_f0]) (bs':=[(some b3, .map es1 cl1),(obv1_f0, .cells (csv1_f0).toArray 36 (0,0)),(some b2, .cells #[vI a0.vKind,vS a0.vName,vI a0.vInt.vSize,vB a0.vInt.vSigned,vI xx1,vI a0.vN,vL (rowA obv1_f0) v1.length cv1_f0] 34 (0,0)),(some b1, .cells #[vI a0.vKind,vS a0.vName,vI a0.vInt.vSize,vB a0.vInt.vSigned,vI xx1,vI a0.vN,vL (rowA obv1_f0) v1.length cv1_f0] 34 (0,0))]) rfl rfl Tryd.sizeOf34 rfl rfl (by decide) rfl HS8 rfl (Nat.le_of_ble_eq_true rfl) rfl rfl ?_
   intro w14 HS15
   try simp only [sc0,sc1]
   refine run_nil<|norm_then<|wp_ret ?_
   obtain rfl:=Option.some.inj H
   refine bodyPost_ret (results_1 rfl (one_agg rfl Tryd.isAgg34 (HS15.look 2 rfl) Tryd.sizeOf34 rfl)) rfl ?_
   obtain ⟨h2,HS16,hs3,rdp2⟩:=row_pub HS15 (i:=1) rfl hov1_f0
   exact ⟨h2,(rowA obv1_f0),cv1_f0,rfl,hov1_f0.cap,rdp2,HS16.gr,HS16.sees,HS16.toE⟩
def ctf_pool_types_1.f (k:Nat) (a0:Int) (x0p_0:List (ByteArray×Int)) (x1:ctf_source):Option (Int):=(ctf_text.f k x1.vt a0).bind fun v1=>(some ((mfind strEq x0p_0 v1).getD 0))
theorem ctf_pool_types_1.calls (k:Nat) (a0:Int) (x0p_0:List (ByteArray×Int)) (x1:ctf_source) (bx0:Nat) (bx0p:Nat) (mx0p_0:Nat) (esx0p_0:Array MapEntry) (clx0p_0:Nat) (ux0p_1:Value) (bx1:Nat) (Ax1_0:Option Addr) (cx1_0:Nat) {h0:View} {w0:World} (hv:Sees h0 w0) (ht:Tab w0) (hox0p_0:MapOk vS (vI) x0p_0 esx0p_0 clx0p_0) (hmx0p_0:w0.heap[mx0p_0]?=some (.map esx0p_0 clx0p_0)) (hxx0p:w0.heap[bx0p]?=some (.cells #[Value.map (some mx0p_0),ux0p_1] 110 (0,0))) (hxx0:w0.heap[bx0]?=some (.cells #[vP bx0p 0] 106 (0,0))) (hrx1_0:Rd k_api_Def h0 Ax1_0 x1.vt.vDefs) (hcx1_0:x1.vt.vDefs.length≤cx1_0) (hx1:w0.heap[bx1]?=some (.cells #[vL Ax1_0 x1.vt.vDefs.length cx1_0,vI x1.vi] 160 (0,0))) {r:Int} (H:ctf_pool_types_1.f k a0 x0p_0 x1=some r):Calls Tryd.prog 103 #[vI a0,vP bx0 0,vP bx1 0] w0 (fun e w1=>e= .returned (vI r)∧Ext w0 w1):=by
 unfold ctf_pool_types_1.f at H
 have HS:St [] h0 w0 h0 [] w0:=St.init hv
 go_enter Tryd.func103,Tryd.ntmps103
 refine wp_seq<|region<|rs (vI 0) (r_assign rfl) ?_
 try simp only [sc0,sc1]
 refine run_nil<|norm_then<|wp_seq ?_
 obtain ⟨v1,H1,H⟩:=of_bind H
 refine drawn [.eq (vP bx0p 0), .eq (vP bx0p 0), .eq (vP bx0p 0), .eq (Value.map (some mx0p_0)), .eq (vP bx1 0), .eq (Value.agg #[vL Ax1_0 x1.vt.vDefs.length cx1_0]), .eq (vI a0), .eq (vS v1), .eq (vI ((mfind strEq x0p_0 v1).getD 0))] [5,6,7,8,9,10,11,12,13] hmix (by kernel_rfl) rfl (stable_eq (stable_eq (stable_eq (stable_eq (stable_eq (stable_eq (stable_eq (stable_eq (stable_eq stable_nil))))))))) ⟨ob_plain rfl (fun a' w' hE hk=>by have HSd:=HS.step hE;exact does_eq (r_loadBox (show _=vP bx0 0 from hk 1 rfl) Tryd.isAgg106 (heap_ext hxx0 HSd.toE) rfl)),ob_plain rfl (fun a' w' hE hk=>by have HSd:=HS.step hE;exact does_eq (r_nilCheck (show _=vP bx0p 0 from hk 5 rfl))),ob_plain rfl (fun a' w' hE hk=>by have HSd:=HS.step hE;exact does_eq (r_fieldBox (n:=1) (o':=0) (show _=vP bx0p 0 from hk 6 rfl) Tryd.runUnderlying110 rfl Tryd.sizeOf107 (by decide) rfl)),ob_plain rfl (fun a' w' hE hk=>by have HSd:=HS.step hE;exact does_eq (r_loadBox (show _=vP bx0p 0 from hk 7 rfl) Tryd.isAgg107 (heap_ext hxx0p HSd.toE) rfl)),ob_plain rfl (fun a' w' hE hk=>by have HSd:=HS.step hE;exact does_eq (r_fieldBox (n:=1) (o':=0) (show _=vP bx1 0 from hk 2 rfl) Tryd.runUnderlying160 rfl Tryd.sizeOf24 (by decide) rfl)),ob_plain rfl (fun a' w' hE hk=>by have HSd:=HS.step hE;exact does_eq (r_loadBoxAgg (n:=1) (vs:=[vL Ax1_0 x1.vt.vDefs.length cx1_0]) (show _=vP bx1 0 from hk 9 rfl) Tryd.isAgg24 (heap_ext hx1 HSd.toE) Tryd.sizeOf24 rfl rfl)),ob_plain rfl (fun a' w' hE hk=>by have HSd:=HS.step hE;exact does_eq (r_move (show _=vI a0 from hk 0 rfl))),ob_plain rfl (fun a' w' hE hk=>by have HSd:=HS.step hE;exact (does_call_eq Tryd.call53 rfl (map2 (show _=Value.agg #[vL Ax1_0 x1.vt.vDefs.length cx1_0] from hk 10 rfl) (show _=vI a0 from hk 11 rfl)) (ctf_text.calls k x1.vt a0 Ax1_0 cx1_0 HSd.sees (ht.s HSd) hrx1_0 hcx1_0 H1))),ob_plain rfl (fun a' w' hE hk=>by have HSd:=HS.step hE;exact does_eq (r_mget (key_str Tryd.runUnderlying9) (k:=v1) (m:=x0p_0) (ev:=(vI)) 0 (show _=Value.map (some mx0p_0) from hk 8 rfl) (show _=vS v1 from hk 12 rfl) Tryd.runUnderlying107 Tryd.zeroValue3 (heap_ext hmx0p_0 HSd.toE) hox0p_0)),trivial⟩ ?_
 intro w1 hE1
 simp only [List.zip_cons_cons,List.zip_nil_left,List.zip_nil_right,finL,sc0,sc1,List.length_cons,List.length_nil,List.drop_succ_cons,List.drop_zero,Nat.zero_add,Nat.reduceAdd]
 have HS1:=HS.step hE1
 refine rs (vI ((mfind strEq x0p_0 v1).getD 0)) (r_assign rfl) ?_
 try simp only [sc0,sc1]
 refine run_nil<|norm_then<|wp_ret ?_
 obtain rfl:=Option.some.inj H
 exact bodyPost_ret (results_1 rfl (one_tmp rfl)) rfl<|⟨rfl,HS1.toE⟩
def ctf_pool_types.l0 (k:Nat) (p0_0:List (ByteArray×Int)) (p0_1:List ctf_source):Nat→Int→(List api_Def)→Option ((List api_Def))
 |0,_,_=>none
 |m+1,y1_0,y1_1=>if (decide (y1_0<((p0_1.length:Nat):Int)))=true then (if 0≤y1_0∧y1_0<((p0_1.length:Nat):Int) then (if 0≤(rd z_ctf_source p0_1 y1_0).vi∧(rd z_ctf_source p0_1 y1_0).vi<((rd z_ctf_source p0_1 y1_0).vt.vDefs).length then ((ctf_moved.f k (rd z_api_Def ((rd z_ctf_source p0_1 y1_0).vt.vDefs) ((rd z_ctf_source p0_1 y1_0).vi)) (fun z0=>ctf_pool_types_1.f k z0 p0_0 (rd z_ctf_source p0_1 y1_0))).bind fun v1=>(if y1_1.length+1≤4294967296 then (ctf_pool_types.l0 k p0_0 p0_1 m (IntKind.wrap .i64 (y1_0+1)) (y1_1++([v1]:List api_Def))) else none)) else none) else none) else (some y1_1)
def ctf_pool_types.f (k:Nat) (p0_0:List (ByteArray×Int)) (p0_1:List ctf_source):Option (api_Types):=(ctf_pool_types.l0 k p0_0 p0_1 k 0 ([]:List api_Def)).bind fun xx1=>(some (⟨xx1⟩:api_Types))
theorem ctf_pool_types.calls (k:Nat) (p0_0:List (ByteArray×Int)) (p0_1:List ctf_source) (bp0:Nat) (mp0_0:Nat) (esp0_0:Array MapEntry) (clp0_0:Nat) (obp0_1:Option Nat) (cp0_1:Nat) (csp0_1:List Value) {h0:View} {w0:World} {h:View} {w:World} {rest:List Res} (HS:St [] h0 w0 h ((some bp0, .cells #[Value.map (some mp0_0),vL (rowA obp0_1) p0_1.length cp0_1] 110 (0,0))::(some mp0_0, .map esp0_0 clp0_0)::(obp0_1, .cells (csp0_1).toArray 160 (0,0))::rest) w) (ht:Tab w0) (hop0_0:MapOk vS (vI) p0_0 esp0_0 clp0_0) (hop0_1:RowOk k_ctf_source h p0_1 obp0_1 p0_1.length cp0_1 csp0_1) {r:api_Types} (H:ctf_pool_types.f k p0_0 p0_1=some r):Calls Tryd.prog 60 #[vP bp0 0] w (fun e w1=>∃(h1:View),∃(Az_r0_0:Option Addr) (cz_r0_0:Nat),e= .returned (Value.agg #[vL Az_r0_0 r.vDefs.length cz_r0_0])∧r.vDefs.length≤cz_r0_0∧Rd k_api_Def h1 Az_r0_0 r.vDefs∧Sub h h1∧St [] h0 w0 h1 ((some bp0, .cells #[Value.map (some mp0_0),vL (rowA obp0_1) p0_1.length cp0_1] 110 (0,0))::(some mp0_0, .map esp0_0 clp0_0)::(obp0_1, .cells (csp0_1).toArray 160 (0,0))::rest) w1):=by
 unfold ctf_pool_types.f at H
 have hsub:Sub h h:=Sub.rfl' h
 go_enter Tryd.func60,Tryd.ntmps60
 refine wp_seq<|region<|run_ex rfl rfl (does_box (cs:=#[vP bp0 0]) rfl rfl) ?_
 rintro w1 _ hE1 ⟨b1,rfl,ge1,hb1⟩
 have HS1:=HS.new hE1 ge1 hb1
 refine run_ex rfl rfl (does_alloc (cs:=#[vL none 0 0]) Tryd.zeroValue24 rfl) ?_
 rintro w2 _ hE2 ⟨b2,rfl,ge2,hb2⟩
 have HS2:=HS1.new hE2 ge2 hb2
 try simp only [sc0,sc1]
 refine run_nil<|norm_then<|wp_seq<|region<|run_ex rfl rfl (does_alloc (cs:=#[vL none 0 0]) Tryd.zeroValue24 rfl) ?_
 rintro w3 _ hE3 ⟨b3,rfl,ge3,hb3⟩
 have HS3:=HS2.new hE3 ge3 hb3
 try simp only [sc0,sc1]
 refine run_nil<|norm_then<|wp_seq<|wp_seq<|region<|rs (vP bp0 0) (r_loadBox rfl Tryd.isAgg106 (HS3.look 2 rfl) rfl)<|rs (vP bp0 0) (r_nilCheck rfl)<|rs (vP bp0 1) (r_fieldBox (n:=1) (o':=1) rfl Tryd.runUnderlying110 rfl Tryd.sizeOf108 (by decide) rfl)<|rs (vL (rowA obp0_1) p0_1.length cp0_1) (r_loadBox rfl Tryd.isAgg108 (HS3.look 3 rfl) rfl)<|run_frame (by simp only [sc0,sc1];rfl) ?_
 refine rs (vI ((p0_1.length:Nat):Int)) (r_lenRow rfl Tryd.runUnderlying108)<|rs (vI 0) (r_move rfl) ?_
 try simp only [sc0,sc1]
 refine run_nil<|norm_then ?_
 have HS4:=HS3.nothing (.cells ([]:List Value).toArray 34 (0,0))
 obtain ⟨xx1,H,G1⟩:=of_bind H
 refine loop_j [5,11,12,13,14,15,16,17,18,19,20,21,22,23,24,25,26,27,28,29] (fun m us w'=>∃y1_0:Int,∃y1_1:List api_Def,∃h1:View,∃(oby1_1:Option Nat) (cy1_1:Nat),∃(csy1_1:List Value),Fit us (fun uy1=>[(uy1 0),vI y1_0,(uy1 2),(uy1 3),(uy1 4),(uy1 5),(uy1 6),(uy1 7),(uy1 8),(uy1 9),(uy1 10),(uy1 11),(uy1 12),(uy1 13),(uy1 14),(uy1 15),(uy1 16),(uy1 17),(uy1 18),(uy1 19)])∧ctf_pool_types.l0 k p0_0 p0_1 m y1_0 y1_1=some xx1∧RowOk k_api_Def h1 y1_1 oby1_1 y1_1.length cy1_1 csy1_1∧Sub h h1∧RowOk k_ctf_source h1 p0_1 obp0_1 p0_1.length cp0_1 csp0_1∧St [] h0 w0 h1 ((oby1_1, .cells (csy1_1).toArray 34 (0,0))::(some b3, .cells #[vL (rowA oby1_1) y1_1.length cy1_1] 24 (0,0))::(some b2, .cells #[vL none 0 0] 24 (0,0))::(some b1, .cells #[vP bp0 0] 106 (0,0))::(some bp0, .cells #[Value.map (some mp0_0),vL (rowA obp0_1) p0_1.length cp0_1] 110 (0,0))::(some mp0_0, .map esp0_0 clp0_0)::(obp0_1, .cells (csp0_1).toArray 160 (0,0))::rest) w') (fun us w'=>∃(h3:View),∃(obo1_0:Option Nat) (co1_0:Nat),∃(cso1_0:List Value),Fit us (fun uo1=>[(uo1 0),(uo1 1),(uo1 2),(uo1 3),(uo1 4),(uo1 5),(uo1 6),(uo1 7),(uo1 8),(uo1 9),(uo1 10),(uo1 11),(uo1 12),(uo1 13),(uo1 14),(uo1 15),(uo1 16),(uo1 17),(uo1 18),(uo1 19)])∧RowOk k_api_Def h3 xx1 obo1_0 xx1.length co1_0 cso1_0∧Sub h h3∧RowOk k_ctf_source h3 p0_1 obp0_1 p0_1.length cp0_1 csp0_1∧St [] h0 w0 h3 ((obo1_0, .cells (cso1_0).toArray 34 (0,0))::(some b3, .cells #[vL (rowA obo1_0) xx1.length co1_0] 24 (0,0))::(some b2, .cells #[vL none 0 0] 24 (0,0))::(some b1, .cells #[vP bp0 0] 106 (0,0))::(some bp0, .cells #[Value.map (some mp0_0),vL (rowA obp0_1) p0_1.length cp0_1] 110 (0,0))::(some mp0_0, .map esp0_0 clp0_0)::(obp0_1, .cells (csp0_1).toArray 160 (0,0))::rest) w') k ⟨0,([]:List api_Def),h,none,0,([]:List Value),(fit rfl),H,(RowOk.none' k_api_Def _).norm,hsub,hop0_1,HS4⟩ ?_ ?_
 ·rintro m us w4 ⟨y1_0,y1_1,h1,oby1_1,cy1_1,csy1_1,huy1,H,hoy1_1,hsub,hop0_1,HS5⟩
  obtain ⟨uy1,rfl⟩:=unj huy1
  cases m with
  |zero=>exact absurd H (by simp [ctf_pool_types.l0])
  |succ m=>
   rw [ctf_pool_types.l0] at H
   try simp only [patch,sc0,sc1]
   refine wp_seq<|region<|rs (vB (decide (y1_0<((p0_1.length:Nat):Int)))) (r_bin rfl rfl rfl) ?_
   try simp only [sc0,sc1]
   refine run_nil<|norm_then<|wp_seq<|wp_cond_split (t:=(decide (y1_0<((p0_1.length:Nat):Int)))) rfl (fun c1=>?_) (fun c1=>?_)
   ·replace H:=of_pos H c1
    refine wp_skip<|norm_then<|wp_seq<|wp_block<|wp_seq<|region ?_
    obtain ⟨hi1,H⟩:=of_ite H
    obtain ⟨rb1,_,hrb1,⟨_,_,rfl,⟨Arb1_0,crb1_0,rfl,hcrb1_0,hrrb1_0⟩,rfl⟩,hp1⟩:=hop0_1.at z_ctf_source hi1.1 hi1.2
    refine rs (Value.pointer (some ⟨rb1,y1_0.toNat*2+0,none⟩)) (r_indexRow (sz:=2) rfl hrb1 rfl hi1.1 hi1.2 Tryd.runUnderlying108 Tryd.sizeOf160)<|rs (Value.agg #[vL Arb1_0 ((rd z_ctf_source p0_1 y1_0).vt.vDefs).length crb1_0,vI ((rd z_ctf_source p0_1 y1_0).vi)]) (r_loadBoxAgg (cs:=csp0_1) (n:=2) (vs:=[vL Arb1_0 ((rd z_ctf_source p0_1 y1_0).vt.vDefs).length crb1_0,vI ((rd z_ctf_source p0_1 y1_0).vi)]) rfl Tryd.isAgg160 (HS5.lookr 6 rfl hrb1) Tryd.sizeOf160 (take_of hp1 rfl) rfl)<|run_ex rfl rfl (does_alloc (cs:=#[vL none 0 0,vI 0]) Tryd.zeroValue160 rfl) ?_
    rintro w5 _ hE4 ⟨b4,rfl,ge4,hb4⟩
    have HS6:=HS5.new hE4 ge4 hb4
    refine run_st (i:=0) (cs:=[vL none 0 0,vI 0]) (cs':=[vL Arb1_0 ((rd z_ctf_source p0_1 y1_0).vt.vDefs).length crb1_0,vI ((rd z_ctf_source p0_1 y1_0).vi)]) (vs:=[vL Arb1_0 ((rd z_ctf_source p0_1 y1_0).vt.vDefs).length crb1_0,vI ((rd z_ctf_source p0_1 y1_0).vi)]) (bs':=((some b4, .cells #[vL Arb1_0 ((rd z_ctf_source p0_1 y1_0).vt.vDefs).length crb1_0,vI ((rd z_ctf_source p0_1 y1_0).vi)] 160 (0,0))::(oby1_1, .cells (csy1_1).toArray 34 (0,0))::(some b3, .cells #[vL (rowA oby1_1) y1_1.length cy1_1] 24 (0,0))::(some b2, .cells #[vL none 0 0] 24 (0,0))::(some b1, .cells #[vP bp0 0] 106 (0,0))::(some bp0, .cells #[Value.map (some mp0_0),vL (rowA obp0_1) p0_1.length cp0_1] 110 (0,0))::(some mp0_0, .map esp0_0 clp0_0)::(obp0_1, .cells (csp0_1).toArray 160 (0,0))::rest)) rfl rfl Tryd.sizeOf160 rfl rfl (by decide) rfl HS6 rfl (Nat.le_of_ble_eq_true rfl) rfl rfl ?_
    intro w6 HS7
    try simp only [sc0,sc1]
    refine run_nil<|norm_then<|drawn_chain [([15,16,17,18,19,20,21,22,23,24],[0,1,2,3,4,5,6,7,8,9]),([],[0,1]),([],[0,1]),([28],[13]),([],[])] [10,11,12,14] [[],[0],[],[2],[2,3],[],[5],[2,3,4,5,6],[2,3,4,5,6,7],[],[2,3,4,5,6,7,8,9],[2,3,4,5,6,7,8,9,10],[0,1,2,3,4,5,6,7,8,9,10,11],[0,1,2,3,4,5,6,7,8,9,10,11,12],[0,1,2,3,4,5,6,7,8,9,10,11,12,13]] hmix (by kernel_rfl) ?_
    intro w7 hE5
    have HS8:=HS7.step hE5
    obtain ⟨hi2,H⟩:=of_ite H
    obtain ⟨ad1,Aad1_6,cad1_6,e1,hel1,hcad1_6,hrad1_6⟩:=ld_api_Def hrrb1_0 hi2.1 hi2.2
    refine chain_eff [vP b3 0,vL (rowA oby1_1) y1_1.length cy1_1,vP b4 0,vP b4 0,vL Arb1_0 ((rd z_ctf_source p0_1 y1_0).vt.vDefs).length crb1_0,vP b4 1,vI ((rd z_ctf_source p0_1 y1_0).vi),Value.pointer (some (Addr.add ad1 (((rd z_ctf_source p0_1 y1_0).vi).toNat*7))),Value.agg #[vI ((rd z_api_Def ((rd z_ctf_source p0_1 y1_0).vt.vDefs) ((rd z_ctf_source p0_1 y1_0).vi)).vKind),vS ((rd z_api_Def ((rd z_ctf_source p0_1 y1_0).vt.vDefs) ((rd z_ctf_source p0_1 y1_0).vi)).vName),vI ((rd z_api_Def ((rd z_ctf_source p0_1 y1_0).vt.vDefs) ((rd z_ctf_source p0_1 y1_0).vi)).vInt.vSize),vB ((rd z_api_Def ((rd z_ctf_source p0_1 y1_0).vt.vDefs) ((rd z_ctf_source p0_1 y1_0).vi)).vInt.vSigned),vI ((rd z_api_Def ((rd z_ctf_source p0_1 y1_0).vt.vDefs) ((rd z_ctf_source p0_1 y1_0).vi)).vRef),vI ((rd z_api_Def ((rd z_ctf_source p0_1 y1_0).vt.vDefs) ((rd z_ctf_source p0_1 y1_0).vi)).vN),vL Aad1_6 ((rd z_api_Def ((rd z_ctf_source p0_1 y1_0).vt.vDefs) ((rd z_ctf_source p0_1 y1_0).vi)).vFields).length cad1_6],Value.func (.func 103) #[] #[vP b1 0,vP b4 0]] ?_ rfl rfl ?_
    ·try simp only [patch,sc0,sc1]
     exact allg_cons (good_same (v:=vP b3 0) rfl rfl rfl rfl (r_fieldBox (n:=1) (o':=0) rfl Tryd.runUnderlying24 rfl Tryd.sizeOf22 (by decide) rfl)) (allg_cons (good_same (v:=vL (rowA oby1_1) y1_1.length cy1_1) rfl rfl rfl rfl (r_loadBox rfl Tryd.isAgg22 (HS8.look 2 rfl) rfl)) (allg_cons (good_same (v:=vP b4 0) rfl rfl rfl rfl (r_fieldBox (n:=1) (o':=0) rfl Tryd.runUnderlying160 rfl Tryd.sizeOf24 (by decide) rfl)) (allg_cons (good_same (v:=vP b4 0) rfl rfl rfl rfl (r_fieldBox (n:=1) (o':=0) rfl Tryd.runUnderlying24 rfl Tryd.sizeOf22 (by decide) rfl)) (allg_cons (good_same (v:=vL Arb1_0 ((rd z_ctf_source p0_1 y1_0).vt.vDefs).length crb1_0) rfl rfl rfl rfl (r_loadBox rfl Tryd.isAgg22 (HS8.look 0 rfl) rfl)) (allg_cons (good_same (v:=vP b4 1) rfl rfl rfl rfl (r_fieldBox (n:=1) (o':=1) rfl Tryd.runUnderlying160 rfl Tryd.sizeOf3 (by decide) rfl)) (allg_cons (good_same (v:=vI ((rd z_ctf_source p0_1 y1_0).vi)) rfl rfl rfl rfl (r_loadBox rfl Tryd.isAgg3 (HS8.look 0 rfl) rfl)) (allg_cons (good_same (v:=Value.pointer (some (Addr.add ad1 (((rd z_ctf_source p0_1 y1_0).vi).toNat*7)))) rfl rfl rfl rfl (r_indexA (sz:=7) rfl e1 rfl hi2.1 hi2.2 Tryd.runUnderlying22 Tryd.sizeOf34)) (allg_cons (good_same (v:=Value.agg #[vI ((rd z_api_Def ((rd z_ctf_source p0_1 y1_0).vt.vDefs) ((rd z_ctf_source p0_1 y1_0).vi)).vKind),vS ((rd z_api_Def ((rd z_ctf_source p0_1 y1_0).vt.vDefs) ((rd z_ctf_source p0_1 y1_0).vi)).vName),vI ((rd z_api_Def ((rd z_ctf_source p0_1 y1_0).vt.vDefs) ((rd z_ctf_source p0_1 y1_0).vi)).vInt.vSize),vB ((rd z_api_Def ((rd z_ctf_source p0_1 y1_0).vt.vDefs) ((rd z_ctf_source p0_1 y1_0).vi)).vInt.vSigned),vI ((rd z_api_Def ((rd z_ctf_source p0_1 y1_0).vt.vDefs) ((rd z_ctf_source p0_1 y1_0).vi)).vRef),vI ((rd z_api_Def ((rd z_ctf_source p0_1 y1_0).vt.vDefs) ((rd z_ctf_source p0_1 y1_0).vi)).vN),vL Aad1_6 ((rd z_api_Def ((rd z_ctf_source p0_1 y1_0).vt.vDefs) ((rd z_ctf_source p0_1 y1_0).vi)).vFields).length cad1_6]) rfl rfl rfl rfl (r_loadAgg rfl Tryd.isAgg34 (hel1.sees HS8.sees) Tryd.sizeOf34)) (allg_cons (good_same (v:=Value.func (.func 103) #[] #[vP b1 0,vP b4 0]) rfl rfl rfl rfl (r_makeFunc (vs:=[vP b1 0,vP b4 0]) rfl)) (allg_nil))))))))))
    try simp only [patch,sc0,sc1]
    obtain ⟨v1,H1,H⟩:=of_bind H
    refine run_ex rfl rfl (does_call Tryd.call85 rfl (gives_in (h:=h1) (R:=(fun hx u=>∃(Av1_0_6:Option Addr) (cv1_0_6:Nat),u=Value.agg #[vI v1.vKind,vS v1.vName,vI v1.vInt.vSize,vB v1.vInt.vSigned,vI v1.vRef,vI v1.vN,vL Av1_0_6 v1.vFields.length cv1_0_6]∧v1.vFields.length≤cv1_0_6∧Rd k_api_Field hx Av1_0_6 v1.vFields)) (Ext.rfl' w7) ((ctf_moved.calls k (rd z_api_Def ((rd z_ctf_source p0_1 y1_0).vt.vDefs) ((rd z_ctf_source p0_1 y1_0).vi)) (fun z0=>ctf_pool_types_1.f k z0 p0_0 (rd z_ctf_source p0_1 y1_0)) Aad1_6 cad1_6 103 [vP b1 0,vP b4 0] HS8.sees hrad1_6 hcad1_6 Tryd.call103 (fun z0 h w hE hs hv r H=>ctf_pool_types_1.calls k z0 p0_0 (rd z_ctf_source p0_1 y1_0) b1 bp0 mp0_0 esp0_0 clp0_0 (vL (rowA obp0_1) p0_1.length cp0_1) b4 Arb1_0 crb1_0 hv ((ht.s HS8).e hE) hop0_0 (heap_ext (HS8.look 6 rfl) hE) (heap_ext (HS8.look 5 rfl) hE) (heap_ext (HS8.look 4 rfl) hE) (hrrb1_0.ext hs) hcrb1_0 (heap_ext (HS8.look 0 rfl) hE) H) H1).mono ?_)) rfl) ?_
    ·rintro _ _ ⟨h1,Av1_0_6,cv1_0_6,rfl,hcv1_0_6,hrv1_0_6,g,ss,x⟩
     exact ⟨h1,_,rfl,⟨Av1_0_6,cv1_0_6,rfl,hcv1_0_6,hrv1_0_6⟩,g,ss,x⟩
    rintro w8 _ hE6 ⟨h2,⟨Av1_0_6,cv1_0_6,rfl,hcv1_0_6,hrv1_0_6⟩,gr1,se1⟩
    have HS9:=HS8.view hE6 gr1 se1
    replace hsub:Sub h h2:=hsub.then gr1.1
    replace hrrb1_0:Rd k_api_Def h2 Arb1_0 ((rd z_ctf_source p0_1 y1_0).vt.vDefs):=hrrb1_0.ext gr1.1
    replace hel1:VCells h2 (Addr.add ad1 (((rd z_ctf_source p0_1 y1_0).vi).toNat*7)) [vI ((rd z_api_Def ((rd z_ctf_source p0_1 y1_0).vt.vDefs) ((rd z_ctf_source p0_1 y1_0).vi)).vKind),vS ((rd z_api_Def ((rd z_ctf_source p0_1 y1_0).vt.vDefs) ((rd z_ctf_source p0_1 y1_0).vi)).vName),vI ((rd z_api_Def ((rd z_ctf_source p0_1 y1_0).vt.vDefs) ((rd z_ctf_source p0_1 y1_0).vi)).vInt.vSize),vB ((rd z_api_Def ((rd z_ctf_source p0_1 y1_0).vt.vDefs) ((rd z_ctf_source p0_1 y1_0).vi)).vInt.vSigned),vI ((rd z_api_Def ((rd z_ctf_source p0_1 y1_0).vt.vDefs) ((rd z_ctf_source p0_1 y1_0).vi)).vRef),vI ((rd z_api_Def ((rd z_ctf_source p0_1 y1_0).vt.vDefs) ((rd z_ctf_source p0_1 y1_0).vi)).vN),vL Aad1_6 ((rd z_api_Def ((rd z_ctf_source p0_1 y1_0).vt.vDefs) ((rd z_ctf_source p0_1 y1_0).vi)).vFields).length cad1_6]:=hel1.sub gr1.1
    replace hrad1_6:Rd k_api_Field h2 Aad1_6 ((rd z_api_Def ((rd z_ctf_source p0_1 y1_0).vt.vDefs) ((rd z_ctf_source p0_1 y1_0).vi)).vFields):=hrad1_6.ext gr1.1
    replace hoy1_1:=hoy1_1.view gr1.1
    replace hop0_1:=hop0_1.view gr1.1
    refine qn_nil ?_
    try simp only [sc0,sc1]
    refine chain_eff [] ?_ rfl rfl ?_
    ·try simp only [patch,sc0,sc1]
     exact allg_cons (good_same (v:=vP b3 0) rfl rfl rfl rfl (r_fieldBox (n:=1) (o':=0) rfl Tryd.runUnderlying24 rfl Tryd.sizeOf22 (by decide) rfl)) (allg_cons (good_same (v:=vL (rowA oby1_1) y1_1.length cy1_1) rfl rfl rfl rfl (r_loadBox rfl Tryd.isAgg22 (HS9.look 2 rfl) rfl)) (allg_nil))
    try simp only [patch,sc0,sc1]
    refine run_bs k_api_Def (xs:=([v1]:List api_Def)) (n:=1) (cs:=[vI v1.vKind,vS v1.vName,vI v1.vInt.vSize,vB v1.vInt.vSigned,vI v1.vRef,vI v1.vN,vL Av1_0_6 v1.vFields.length cv1_0_6]) Tryd.runUnderlying22 Tryd.typeInfo34 Tryd.zeroValue34 rfl rfl (by decide) (by decide) (by decide) [Value.agg #[vI v1.vKind,vS v1.vName,vI v1.vInt.vSize,vB v1.vInt.vSigned,vI v1.vRef,vI v1.vN,vL Av1_0_6 v1.vFields.length cv1_0_6]] (parts_any.trans rfl) rfl rfl rfl rfl (elems_cons (qs:=[vI v1.vKind,vS v1.vName,vI v1.vInt.vSize,vB v1.vInt.vSigned,vI v1.vRef,vI v1.vN,vL Av1_0_6 v1.vFields.length cv1_0_6]) ⟨[vI v1.vKind],[vS v1.vName,vI v1.vInt.vSize,vB v1.vInt.vSigned,vI v1.vRef,vI v1.vN,vL Av1_0_6 v1.vFields.length cv1_0_6],rfl,rfl,⟨[vS v1.vName],[vI v1.vInt.vSize,vB v1.vInt.vSigned,vI v1.vRef,vI v1.vN,vL Av1_0_6 v1.vFields.length cv1_0_6],rfl,rfl,⟨[vI v1.vInt.vSize,vB v1.vInt.vSigned],[vI v1.vRef,vI v1.vN,vL Av1_0_6 v1.vFields.length cv1_0_6],rfl,⟨[vI v1.vInt.vSize],[vB v1.vInt.vSigned],rfl,rfl,rfl⟩,⟨[vI v1.vRef],[vI v1.vN,vL Av1_0_6 v1.vFields.length cv1_0_6],rfl,rfl,⟨[vI v1.vN],[vL Av1_0_6 v1.vFields.length cv1_0_6],rfl,rfl,⟨Av1_0_6,cv1_0_6,rfl,hcv1_0_6,hrv1_0_6⟩⟩⟩⟩⟩⟩ (elems_nil (cs:=[]))) HS9 ?_
    intro w9 b5 HS10 ho1
    refine qn_nil ?_
    try simp only [sc0,sc1]
    refine chain_eff [] ?_ rfl rfl ?_
    ·try simp only [patch,sc0,sc1]
     exact allg_cons (good_same (v:=vP b3 0) rfl rfl rfl rfl (r_fieldBox (n:=1) (o':=0) rfl Tryd.runUnderlying24 rfl Tryd.sizeOf22 (by decide) rfl)) (allg_cons (good_same (v:=vL (rowA oby1_1) y1_1.length cy1_1) rfl rfl rfl rfl (r_loadBox rfl Tryd.isAgg22 (HS10.look 3 rfl) rfl)) (allg_nil))
    try simp only [patch,sc0,sc1]
    obtain ⟨hl1,H⟩:=of_ite H
    refine run_app k_api_Def (q:=2) (cs:=csy1_1) rfl rfl Tryd.runUnderlying22 Tryd.typeInfo34 Tryd.zeroValue34 rfl (by decide) rfl (src_row Tryd.runUnderlying22 HS10 (i:=0) rfl ho1 rfl) ho1.len (src_row_elems ho1) hl1 HS10 rfl hoy1_1 ?_
    intro w10 ob1 c2 cs1 HS11 ho2
    refine qn_nil ?_
    try simp only [sc0,sc1]
    refine chain_eff [vP b3 0] ?_ rfl rfl ?_
    ·try simp only [patch,sc0,sc1]
     exact allg_cons (good_same (v:=vP b3 0) rfl rfl rfl rfl (r_fieldBox (n:=1) (o':=0) rfl Tryd.runUnderlying24 rfl Tryd.sizeOf22 (by decide) rfl)) (allg_nil)
    try simp only [patch,sc0,sc1]
    refine run_st (i:=3) (cs:=[vL (rowA oby1_1) y1_1.length cy1_1]) (cs':=[vL (rowA ob1) (y1_1.length+1) c2]) (vs:=[vL (rowA ob1) (y1_1.length+1) c2]) (bs':=(((some b5), .cells ([vI v1.vKind,vS v1.vName,vI v1.vInt.vSize,vB v1.vInt.vSigned,vI v1.vRef,vI v1.vN,vL Av1_0_6 v1.vFields.length cv1_0_6]).toArray 34 (0,0))::(some b4, .cells #[vL Arb1_0 ((rd z_ctf_source p0_1 y1_0).vt.vDefs).length crb1_0,vI ((rd z_ctf_source p0_1 y1_0).vi)] 160 (0,0))::(ob1, .cells (cs1).toArray 34 (0,0))::(some b3, .cells #[vL (rowA ob1) (y1_1.length+1) c2] 24 (0,0))::(some b2, .cells #[vL none 0 0] 24 (0,0))::(some b1, .cells #[vP bp0 0] 106 (0,0))::(some bp0, .cells #[Value.map (some mp0_0),vL (rowA obp0_1) p0_1.length cp0_1] 110 (0,0))::(some mp0_0, .map esp0_0 clp0_0)::(obp0_1, .cells (csp0_1).toArray 160 (0,0))::rest)) rfl rfl Tryd.sizeOf22 rfl rfl (by decide) rfl HS11 rfl (Nat.le_of_ble_eq_true rfl) rfl rfl ?_
    intro w11 HS12
    refine qn_nil ?_
    try simp only [sc0,sc1]
    refine chain_last [] ?_ ?_
    ·try simp only [patch,sc0,sc1]
     exact allg_nil
    try simp only [patch,sc0,sc1]
    refine norm_block<|norm_then<|region<|rs (vI (w64 (y1_0+1))) (r_bin rfl rfl rfl)<|rs (vI (w64 (y1_0+1))) (r_move rfl) ?_
    try simp only [sc0,sc1]
    refine run_nil ?_
    have HS13:St [] h0 w0 h2 (((some b5), .cells ([vI v1.vKind,vS v1.vName,vI v1.vInt.vSize,vB v1.vInt.vSigned,vI v1.vRef,vI v1.vN,vL Av1_0_6 v1.vFields.length cv1_0_6]).toArray 34 (0,0))::(some b4, .cells #[vL Arb1_0 ((rd z_ctf_source p0_1 y1_0).vt.vDefs).length crb1_0,vI ((rd z_ctf_source p0_1 y1_0).vi)] 160 (0,0))::(ob1, .cells (cs1).toArray 34 (0,0))::(some b3, .cells #[vL (rowA ob1) ((y1_1++([v1]:List api_Def)).length) c2] 24 (0,0))::(some b2, .cells #[vL none 0 0] 24 (0,0))::(some b1, .cells #[vP bp0 0] 106 (0,0))::(some bp0, .cells #[Value.map (some mp0_0),vL (rowA obp0_1) p0_1.length cp0_1] 110 (0,0))::(some mp0_0, .map esp0_0 clp0_0)::(obp0_1, .cells (csp0_1).toArray 160 (0,0))::rest) w11:=HS12.cast (by first|rfl|(rw [ho2.len];done)|(rw [ho2.len];rfl))
    have ho3:=ho2.norm
    refine again_j m (Nat.lt_succ_self m) rfl ⟨(w64 (y1_0+1)),(y1_1++([v1]:List api_Def)),h2,ob1,c2,cs1,(fit (by first|rfl|(rw [ho2.len];done)|(rw [ho2.len];rfl))),H,ho3.norm,hsub,hop0_1,HS13.tail.tail⟩
   ·replace H:=of_neg H (nt c1)
    refine wp_exit<|exit_then ?_
    obtain rfl:=Option.some.inj H
    refine leave_j rfl ⟨h1,oby1_1,cy1_1,csy1_1,(fit rfl),hoy1_1.norm,hsub,hop0_1,HS5⟩
 ·rintro us w12 ⟨h3,obo1_0,co1_0,cso1_0,huo1,hoo1_0,hsub,hop0_1,HS14⟩
  obtain ⟨uo1,rfl⟩:=unj huo1
  replace H:=G1
  clear G1
  try simp only [patch,sc0,sc1]
  refine norm_then<|wp_seq<|region<|rs (Value.agg #[vL (rowA obo1_0) xx1.length co1_0]) (r_loadBoxAgg (n:=1) (vs:=[vL (rowA obo1_0) xx1.length co1_0]) rfl Tryd.isAgg24 (HS14.look 1 rfl) Tryd.sizeOf24 rfl rfl)<|run_st (i:=2) (cs:=[vL none 0 0]) (cs':=[vL (rowA obo1_0) xx1.length co1_0]) (vs:=[vL (rowA obo1_0) xx1.length co1_0]) (bs':=((obo1_0, .cells (cso1_0).toArray 34 (0,0))::(some b3, .cells #[vL (rowA obo1_0) xx1.length co1_0] 24 (0,0))::(some b2, .cells #[vL (rowA obo1_0) xx1.length co1_0] 24 (0,0))::(some b1, .cells #[vP bp0 0] 106 (0,0))::(some bp0, .cells #[Value.map (some mp0_0),vL (rowA obp0_1) p0_1.length cp0_1] 110 (0,0))::(some mp0_0, .map esp0_0 clp0_0)::(obp0_1, .cells (csp0_1).toArray 160 (0,0))::rest)) rfl rfl Tryd.sizeOf24 rfl rfl (by decide) rfl HS14 rfl (Nat.le_of_ble_eq_true rfl) rfl rfl ?_
  intro w13 HS15
  try simp only [sc0,sc1]
  refine run_nil<|norm_then<|wp_ret ?_
  obtain rfl:=Option.some.inj H
  refine bodyPost_ret (results_1 rfl (one_agg rfl Tryd.isAgg24 (HS15.look 2 rfl) Tryd.sizeOf24 rfl)) rfl ?_
  obtain ⟨h4,HS16,hs1,rdp1⟩:=row_pub HS15 (i:=0) rfl hoo1_0
  have HS17:St [] h0 w0 h4 ((some b3, .cells #[vL (rowA obo1_0) xx1.length co1_0] 24 (0,0))::(some b2, .cells #[vL (rowA obo1_0) xx1.length co1_0] 24 (0,0))::(some b1, .cells #[vP bp0 0] 106 (0,0))::(some bp0, .cells #[Value.map (some mp0_0),vL (rowA obp0_1) p0_1.length cp0_1] 110 (0,0))::(some mp0_0, .map esp0_0 clp0_0)::(obp0_1, .cells (csp0_1).toArray 160 (0,0))::rest) w13:=HS16
  replace hsub:Sub h h4:=hsub.then hs1
  replace hop0_1:=hop0_1.view hs1
  have HS18:=HS17.d2
  have HS19:=HS18.d1
  have HS20:=HS19.d0
  exact ⟨h4,(rowA obo1_0),co1_0,rfl,hoo1_0.cap,rdp1,hsub,HS20⟩
def ctf_Unique.f (k:Nat) (a0:api_Types):Option (api_Types×(List Int)×Int):=(ctf_valid.f k a0).bind fun v1=>(if (!v1)=true then (some ((⟨[]⟩:api_Types),([]:List Int),80)) else ((ctf_pool_add.f k ([]:List (ByteArray×Int)) ([]:List ctf_source) a0).bind fun v2=>((ctf_pool_types.f k v2.2.1 v2.2.2).bind fun v3=>(some (v3,v2.1,0)))))
theorem ctf_Unique.calls (k:Nat) (a0:api_Types) (A0_0:Option Addr) (c0_0:Nat) {h0:View} {w0:World} (hv:Sees h0 w0) (ht:Tab w0) (hr0_0:Rd k_api_Def h0 A0_0 a0.vDefs) (hc0_0:a0.vDefs.length≤c0_0) {r:api_Types×(List Int)×Int} (H:ctf_Unique.f k a0=some r):Calls Tryd.prog 28 #[Value.agg #[vL A0_0 a0.vDefs.length c0_0]] w0 (fun e w1=>∃(h1:View) (A0_0:Option Addr) (c0_0:Nat) (A1_0:Option Addr) (c1_0:Nat),e= .returned (Value.tuple #[Value.agg #[vL A0_0 r.1.vDefs.length c0_0],vL A1_0 r.2.1.length c1_0,vI r.2.2])∧r.1.vDefs.length≤c0_0∧Rd k_api_Def h1 A0_0 r.1.vDefs∧r.2.1.length≤c1_0∧Rd (Kd.int .i64) h1 A1_0 r.2.1∧Gr w0.heap.size h0 h1∧Sees h1 w1∧Ext w0 w1):=by
 unfold ctf_Unique.f at H
 have HS:St [] h0 w0 h0 [] w0:=St.init hv
 go_enter Tryd.func28,Tryd.ntmps28
 refine wp_seq<|region<|run_ex rfl rfl (does_box (cs:=#[vL A0_0 a0.vDefs.length c0_0]) rfl rfl) ?_
 rintro w1 _ hE1 ⟨b1,rfl,ge1,hb1⟩
 have HS1:=HS.new hE1 ge1 hb1
 refine run_ex rfl rfl (does_alloc (cs:=#[vL none 0 0]) Tryd.zeroValue24 rfl) ?_
 rintro w2 _ hE2 ⟨b2,rfl,ge2,hb2⟩
 have HS2:=HS1.new hE2 ge2 hb2
 refine rs (vL none 0 0) (r_assign rfl)<|rs (vI 0) (r_assign rfl) ?_
 try simp only [sc0,sc1]
 refine run_nil<|norm_then<|wp_seq<|wp_seq<|region<|rs (Value.agg #[vL A0_0 a0.vDefs.length c0_0]) (r_loadBoxAgg (n:=1) (vs:=[vL A0_0 a0.vDefs.length c0_0]) rfl Tryd.isAgg24 (HS2.look 1 rfl) Tryd.sizeOf24 rfl rfl) ?_
 obtain ⟨v1,H1,H⟩:=of_bind H
 refine run_eq (v:=vB v1) rfl rfl (does_call_eq Tryd.call47 rfl rfl (ctf_valid.calls k a0 A0_0 c0_0 HS2.sees hr0_0 hc0_0 H1)) ?_
 intro w3 hE3
 have HS3:=HS2.step hE3
 refine rs (vB (!v1)) (r_not rfl) ?_
 try simp only [sc0,sc1]
 refine run_nil<|norm_then<|wp_cond_split (t:=(!v1)) rfl (fun c1=>?_) (fun c1=>?_)
 ·replace H:=of_pos H c1
  refine wp_seq<|region<|rs (Value.agg #[vL none 0 0]) (r_build0 (cs:=[vL none 0 0]) Tryd.zeroValue24 Tryd.runUnderlying24 (pl:=#[(0,1)]) (fun w=>by simp [Tryd.sizeOf22]) rfl) ?_
  refine run_st (i:=0) (cs:=[vL none 0 0]) (cs':=[vL none 0 0]) (vs:=[vL none 0 0]) (bs':=[(some b2, .cells #[vL none 0 0] 24 (0,0)),(some b1, .cells #[vL A0_0 a0.vDefs.length c0_0] 24 (0,0))]) rfl rfl Tryd.sizeOf24 rfl rfl (by decide) rfl HS3 rfl (Nat.le_of_ble_eq_true rfl) rfl rfl ?_
  intro w4 HS4
  refine rs (vL none 0 0) (r_assign rfl)<|rs (vI 80) (r_assign rfl) ?_
  try simp only [sc0,sc1]
  refine run_nil<|norm_then<|wp_ret<|ret_then ?_
  obtain rfl:=Option.some.inj H
  exact bodyPost_ret (results_3 rfl (one_agg rfl Tryd.isAgg24 (HS4.look 0 rfl) Tryd.sizeOf24 rfl) (one_tmp rfl) (one_tmp rfl)) rfl<|⟨h0,none,0,none,0,rfl,(Nat.le_refl 0),(Rd.nil _ _ _),(Nat.le_refl 0),(Rd.nil _ _ _),HS4.gr,HS4.sees,HS4.toE⟩
 ·replace H:=of_neg H (nt c1)
  refine wp_skip<|norm_then<|wp_seq<|region<|run_mkmap HS3 ?_
  intro w5 b3 HS5
  refine rs (Value.agg #[Value.map (some b3),vL none 0 0]) (r_build (cs:=[Value.map (some b3),vL none 0 0]) (ps:=[(0,Value.map (some b3))]) Tryd.zeroValue110 Tryd.runUnderlying110 (pl:=#[(0,1),(1,1)]) (fun w=>by simp [Tryd.sizeOf107,Tryd.sizeOf108]) (parts_1 (show _=Value.map (some b3) from rfl)) rfl) ?_
  refine run_ex rfl rfl (does_box (cs:=#[Value.map (some b3),vL none 0 0]) rfl rfl) ?_
  rintro w6 _ hE4 ⟨b4,rfl,ge3,hb3⟩
  have HS6:=HS5.new hE4 ge3 hb3
  refine rs (vP b4 0) (r_assign rfl) ?_
  try simp only [sc0,sc1]
  refine run_nil<|norm_then<|wp_seq<|region<|rs (vP b4 0) (r_move rfl)<|rs (Value.agg #[vL A0_0 a0.vDefs.length c0_0]) (r_loadBoxAgg (n:=1) (vs:=[vL A0_0 a0.vDefs.length c0_0]) rfl Tryd.isAgg24 (HS6.look 3 rfl) Tryd.sizeOf24 rfl rfl) ?_
  obtain ⟨v2,H2,H⟩:=of_bind H
  have HS7:=HS6.nothing (.cells ([]:List Value).toArray 160 (0,0))
  have HS8:=HS7.f2
  have HS9:=HS8.f2
  refine run_call (vs:=[vP b4 0,Value.agg #[vL A0_0 a0.vDefs.length c0_0]]) (caps:=[]) Tryd.call59 rfl rfl (ctf_pool_add.calls k ([]:List (ByteArray×Int)) ([]:List ctf_source) a0 b4 b3 (#[]) 0 none 0 ([]:List Value) A0_0 c0_0 HS9 ht (MapOk.nil) (RowOk.none' k_ctf_source _) hr0_0 hc0_0 H2) ?_
  rintro _ w7 ⟨obv2_f0,cv2_f0,csv2_f0,esv2_p0_0,clv2_p0_0,obv2_p0_1,cv2_p0_1,csv2_p0_1,rfl,hov2_f0,hov2_p0_0,hov2_p0_1,HS10⟩
  refine ⟨_,rfl,?_⟩
  have HS11:=HS10.f5
  have HS12:=HS11.f5
  have HS13:=HS12.f4
  have HS14:=HS13.f4
  have HS15:=HS14.f5
  have HS16:=HS15.f5
  refine rs (vL (rowA obv2_f0) v2.1.length cv2_f0) (r_assign rfl) ?_
  try simp only [sc0,sc1]
  refine run_nil<|norm_then<|wp_seq<|region<|rs (vP b4 0) (r_move rfl) ?_
  obtain ⟨v3,H3,H⟩:=of_bind H
  have HS17:=HS16.f1
  have HS18:=HS17.f3
  have HS19:=HS18.f3
  refine run_call (vs:=[vP b4 0]) (caps:=[]) Tryd.call60 rfl rfl (ctf_pool_types.calls k v2.2.1 v2.2.2 b4 b3 esv2_p0_0 clv2_p0_0 obv2_p0_1 cv2_p0_1 csv2_p0_1 HS19 ht hov2_p0_0 hov2_p0_1 H3) ?_
  rintro _ w8 ⟨h1,Av3_r0_0,cv3_r0_0,rfl,hcv3_r0_0,hrv3_r0_0,hs2,HS20⟩
  refine ⟨_,rfl,?_⟩
  replace hov2_p0_1:=hov2_p0_1.view hs2
  replace hov2_f0:=hov2_f0.view hs2
  have HS21:=HS20.f5
  have HS22:=HS21.f5
  have HS23:=HS22.f3
  have HS24:=HS23.f3
  have HS25:=HS24.f4
  have HS26:=HS25.f5
  refine rs (vL (rowA obv2_f0) v2.1.length cv2_f0) (r_move rfl)<|run_st (i:=4) (cs:=[vL none 0 0]) (cs':=[vL Av3_r0_0 v3.vDefs.length cv3_r0_0]) (vs:=[vL Av3_r0_0 v3.vDefs.length cv3_r0_0]) (bs':=[(obv2_f0, .cells (csv2_f0).toArray 3 (0,0)),(obv2_p0_1, .cells (csv2_p0_1).toArray 160 (0,0)),(some b4, .cells #[Value.map (some b3),vL (rowA obv2_p0_1) v2.2.2.length cv2_p0_1] 110 (0,0)),(some b3, .map esv2_p0_0 clv2_p0_0),(some b2, .cells #[vL Av3_r0_0 v3.vDefs.length cv3_r0_0] 24 (0,0)),(some b1, .cells #[vL A0_0 a0.vDefs.length c0_0] 24 (0,0))]) rfl rfl Tryd.sizeOf24 rfl rfl (by decide) rfl HS26 rfl (Nat.le_of_ble_eq_true rfl) rfl rfl ?_
  intro w9 HS27
  refine run_frame (by simp only [sc0,sc1];rfl) ?_
  refine rs (vL (rowA obv2_f0) v2.1.length cv2_f0) (r_assign rfl)<|rs (vI 0) (r_assign rfl) ?_
  try simp only [sc0,sc1]
  refine run_nil<|norm_then<|wp_ret ?_
  obtain rfl:=Option.some.inj H
  refine bodyPost_ret (results_3 rfl (one_agg rfl Tryd.isAgg24 (HS27.look 4 rfl) Tryd.sizeOf24 rfl) (one_tmp rfl) (one_tmp rfl)) rfl ?_
  obtain ⟨h2,HS28,hs3,rdp1⟩:=row_pub HS27 (i:=0) rfl hov2_f0
  replace hov2_p0_1:=hov2_p0_1.view hs3
  replace hrv3_r0_0:Rd k_api_Def h2 Av3_r0_0 v3.vDefs:=hrv3_r0_0.ext hs3
  exact ⟨h2,Av3_r0_0,cv3_r0_0,(rowA obv2_f0),cv2_f0,rfl,hcv3_r0_0,hrv3_r0_0,hov2_f0.cap,rdp1,HS28.gr,HS28.sees,HS28.toE⟩
def taplineref08_SameFields.l0 (a0:List api_Field) (a1:List api_Field):Nat→Int→Option ((Bool)⊕(Unit))
 |0,_=>none
 |m+1,y1_0=>if (decide (y1_0<(a0.length:Int)))=true then (if 0≤y1_0∧y1_0<a0.length then (if 0≤y1_0∧y1_0<a1.length then (if (!((strEq ((rd z_api_Field a0 y1_0).vName) ((rd z_api_Field a1 y1_0).vName))&&(((rd z_api_Field a0 y1_0).vType==(rd z_api_Field a1 y1_0).vType)&&(((rd z_api_Field a0 y1_0).vAt==(rd z_api_Field a1 y1_0).vAt)&&true))))=true then (some (.inl false)) else (taplineref08_SameFields.l0 a0 a1 m (IntKind.wrap .i64 (y1_0+1)))) else none) else none) else (some (.inr ()))
def taplineref08_SameFields.f (k:Nat) (a0:List api_Field) (a1:List api_Field):Option (Bool):=if ((a0.length:Int) !=(a1.length:Int))=true then (some false) else ((taplineref08_SameFields.l0 a0 a1 k 0).bind fun xx1=>(match xx1 with| .inl r=>some r| .inr s1=>some true))
theorem taplineref08_SameFields.calls (k:Nat) (a0:List api_Field) (a1:List api_Field) (A0_0:Option Addr) (c0_0:Nat) (A1_0:Option Addr) (c1_0:Nat) {h0:View} {w0:World} (hv:Sees h0 w0) (hr0_0:Rd k_api_Field h0 A0_0 a0) (hc0_0:a0.length≤c0_0) (hr1_0:Rd k_api_Field h0 A1_0 a1) (hc1_0:a1.length≤c1_0) {r:Bool} (H:taplineref08_SameFields.f k a0 a1=some r):Calls Tryd.prog 105 #[vL A0_0 a0.length c0_0,vL A1_0 a1.length c1_0] w0 (fun e w1=>e= .returned (vB r)∧Ext w0 w1):=by
 unfold taplineref08_SameFields.f at H
 have HS:St [] h0 w0 h0 [] w0:=St.init hv
 go_enter Tryd.func105,Tryd.ntmps105
 refine wp_seq<|region<|rs (vB false) (r_assign rfl) ?_
 try simp only [sc0,sc1]
 refine run_nil<|norm_then<|wp_seq<|wp_seq<|region<|rs (vL A0_0 a0.length c0_0) (r_move rfl)<|rs (vI (a0.length:Int)) (r_len rfl Tryd.runUnderlying32)<|rs (vL A1_0 a1.length c1_0) (r_move rfl)<|rs (vI (a1.length:Int)) (r_len rfl Tryd.runUnderlying32)<|run_frame (by simp only [sc0,sc1];rfl) ?_
 refine rs (vB ((a0.length:Int) !=(a1.length:Int))) (r_bin rfl rfl rfl) ?_
 try simp only [sc0,sc1]
 refine run_nil<|norm_then<|wp_cond_split (t:=((a0.length:Int) !=(a1.length:Int))) rfl (fun c1=>?_) (fun c1=>?_)
 ·replace H:=of_pos H c1
  refine wp_seq<|region<|rs (vB false) (r_assign rfl) ?_
  try simp only [sc0,sc1]
  refine run_nil<|norm_then<|wp_ret<|ret_then ?_
  obtain rfl:=Option.some.inj H
  exact bodyPost_ret (results_1 rfl (one_tmp rfl)) rfl<|⟨rfl,HS.toE⟩
 ·replace H:=of_neg H (nt c1)
  refine wp_skip<|norm_then<|wp_seq<|wp_seq<|region<|rs (vI 0) (r_assign rfl) ?_
  try simp only [sc0,sc1]
  refine run_nil<|norm_then ?_
  obtain ⟨xx1,H,G1⟩:=of_bind H
  refine loop_j [4,5,11,12,13,14,15,16,17,18,19,20,21,22,23,24,25] (fun m us w'=>∃(y1_0:Int),Fit us (fun uy1=>[(uy1 0),vI y1_0,(uy1 2),(uy1 3),(uy1 4),(uy1 5),(uy1 6),(uy1 7),(uy1 8),(uy1 9),(uy1 10),(uy1 11),(uy1 12),(uy1 13),(uy1 14),(uy1 15),(uy1 16)])∧taplineref08_SameFields.l0 a0 a1 m y1_0=some xx1∧St [] h0 w0 h0 [] w') (fun us w'=>∃(s1:Unit),xx1= .inr s1∧Fit us (fun uo1=>[(uo1 0),(uo1 1),(uo1 2),(uo1 3),(uo1 4),(uo1 5),(uo1 6),(uo1 7),(uo1 8),(uo1 9),(uo1 10),(uo1 11),(uo1 12),(uo1 13),(uo1 14),(uo1 15),(uo1 16)])∧St [] h0 w0 h0 [] w') k ⟨0,(fit rfl),H,HS⟩ ?_ ?_
  ·rintro m us w1 ⟨y1_0,huy1,H,HS1⟩
   obtain ⟨uy1,rfl⟩:=unj huy1
   cases m with
   |zero=>exact absurd H (by simp [taplineref08_SameFields.l0])
   |succ m=>
    rw [taplineref08_SameFields.l0] at H
    try simp only [patch,sc0,sc1]
    refine wp_seq<|wp_seq<|region<|rs (vI y1_0) (r_move rfl)<|rs (vL A0_0 a0.length c0_0) (r_move rfl)<|rs (vI (a0.length:Int)) (r_len rfl Tryd.runUnderlying32)<|rs (vB (decide (y1_0<(a0.length:Int)))) (r_bin rfl rfl rfl) ?_
    try simp only [sc0,sc1]
    refine run_nil<|norm_then<|wp_cond_split (t:=(decide (y1_0<(a0.length:Int)))) rfl (fun c2=>?_) (fun c2=>?_)
    ·replace H:=of_pos H c2
     refine wp_skip<|norm_then<|wp_seq<|wp_block<|wp_seq ?_
     obtain ⟨hi1,H⟩:=of_ite H
     obtain ⟨ad1,e1,hel1⟩:=ld_api_Field hr0_0 hi1.1 hi1.2
     obtain ⟨hi2,H⟩:=of_ite H
     obtain ⟨ad2,e2,hel2⟩:=ld_api_Field hr1_0 hi2.1 hi2.2
     refine drawn [.eq (vL A0_0 a0.length c0_0), .eq (vI y1_0), .eq (Value.pointer (some (Addr.add ad1 (y1_0.toNat*3)))), .eq (Value.agg #[vS ((rd z_api_Field a0 y1_0).vName),vI ((rd z_api_Field a0 y1_0).vType),vI ((rd z_api_Field a0 y1_0).vAt)]), .eq (vL A1_0 a1.length c1_0), .eq (vI y1_0), .eq (Value.pointer (some (Addr.add ad2 (y1_0.toNat*3)))), .eq (Value.agg #[vS ((rd z_api_Field a1 y1_0).vName),vI ((rd z_api_Field a1 y1_0).vType),vI ((rd z_api_Field a1 y1_0).vAt)]), .eq (vB (!((strEq ((rd z_api_Field a0 y1_0).vName) ((rd z_api_Field a1 y1_0).vName))&&(((rd z_api_Field a0 y1_0).vType==(rd z_api_Field a1 y1_0).vType)&&(((rd z_api_Field a0 y1_0).vAt==(rd z_api_Field a1 y1_0).vAt)&&true)))))] [17,18,19,20,21,22,23,24,25] hmix (by kernel_rfl) rfl (stable_eq (stable_eq (stable_eq (stable_eq (stable_eq (stable_eq (stable_eq (stable_eq (stable_eq stable_nil))))))))) ⟨ob_plain rfl (fun a' w' hE hk=>by have HSd:=HS1.step hE;exact does_eq (r_move (show _=vL A0_0 a0.length c0_0 from hk 0 rfl))),ob_plain rfl (fun a' w' hE hk=>by have HSd:=HS1.step hE;exact does_eq (r_move (show _=vI y1_0 from hk 5 rfl))),ob_plain rfl (fun a' w' hE hk=>by have HSd:=HS1.step hE;exact does_eq (r_indexA (sz:=3) (show _=vL A0_0 a0.length c0_0 from hk 17 rfl) e1 (show _=vI y1_0 from hk 18 rfl) hi1.1 hi1.2 Tryd.runUnderlying32 Tryd.sizeOf36)),ob_plain rfl (fun a' w' hE hk=>by have HSd:=HS1.step hE;exact does_eq (r_loadAgg (show _=Value.pointer (some (Addr.add ad1 (y1_0.toNat*3))) from hk 19 rfl) Tryd.isAgg36 (hel1.sees HSd.sees) Tryd.sizeOf36)),ob_plain rfl (fun a' w' hE hk=>by have HSd:=HS1.step hE;exact does_eq (r_move (show _=vL A1_0 a1.length c1_0 from hk 1 rfl))),ob_plain rfl (fun a' w' hE hk=>by have HSd:=HS1.step hE;exact does_eq (r_move (show _=vI y1_0 from hk 5 rfl))),ob_plain rfl (fun a' w' hE hk=>by have HSd:=HS1.step hE;exact does_eq (r_indexA (sz:=3) (show _=vL A1_0 a1.length c1_0 from hk 21 rfl) e2 (show _=vI y1_0 from hk 22 rfl) hi2.1 hi2.2 Tryd.runUnderlying32 Tryd.sizeOf36)),ob_plain rfl (fun a' w' hE hk=>by have HSd:=HS1.step hE;exact does_eq (r_loadAgg (show _=Value.pointer (some (Addr.add ad2 (y1_0.toNat*3))) from hk 23 rfl) Tryd.isAgg36 (hel2.sees HSd.sees) Tryd.sizeOf36)),ob_plain rfl (fun a' w' hE hk=>by have HSd:=HS1.step hE;exact does_eq (r_aggneq (show _=Value.agg #[vS ((rd z_api_Field a0 y1_0).vName),vI ((rd z_api_Field a0 y1_0).vType),vI ((rd z_api_Field a0 y1_0).vAt)] from hk 20 rfl) (show _=Value.agg #[vS ((rd z_api_Field a1 y1_0).vName),vI ((rd z_api_Field a1 y1_0).vType),vI ((rd z_api_Field a1 y1_0).vAt)] from hk 24 rfl) Tryd.eqGuardType36 (eqr_agg Tryd.stoodInHeld36 Tryd.underlying36 (eqf_cons (by decide) (part_one Tryd.isAgg9 rfl) (part_one Tryd.isAgg9 rfl) (eqr_str Tryd.underlying9) (eqf_cons (by decide) (part_one Tryd.isAgg3 rfl) (part_one Tryd.isAgg3 rfl) (eqr_int Tryd.underlying3) (eqf_cons (by decide) (part_one Tryd.isAgg3 rfl) (part_one Tryd.isAgg3 rfl) (eqr_int Tryd.underlying3) eqf_nil)))))),trivial⟩ ?_
     intro w2 hE1
     simp only [List.zip_cons_cons,List.zip_nil_left,List.zip_nil_right,finL,sc0,sc1,List.length_cons,List.length_nil,List.drop_succ_cons,List.drop_zero,Nat.zero_add,Nat.reduceAdd]
     have HS2:=HS1.step hE1
     refine run_nil<|norm_then<|wp_cond_split (t:=(!((strEq ((rd z_api_Field a0 y1_0).vName) ((rd z_api_Field a1 y1_0).vName))&&(((rd z_api_Field a0 y1_0).vType==(rd z_api_Field a1 y1_0).vType)&&(((rd z_api_Field a0 y1_0).vAt==(rd z_api_Field a1 y1_0).vAt)&&true))))) rfl (fun c3=>?_) (fun c3=>?_)
     ·replace H:=of_pos H c3
      refine wp_seq<|region<|rs (vB false) (r_assign rfl) ?_
      try simp only [sc0,sc1]
      refine run_nil<|norm_then<|wp_ret<|ret_block<|ret_then<|ret_loop<|ret_then ?_
      obtain rfl:=Option.some.inj H
      obtain rfl:=Option.some.inj G1
      exact bodyPost_ret (results_1 rfl (one_tmp rfl)) rfl<|⟨rfl,HS2.toE⟩
     ·replace H:=of_neg H (nt c3)
      refine wp_skip<|norm_block<|norm_then<|region<|rs (vI y1_0) (r_move rfl)<|rs (vI (w64 (y1_0+1))) (r_bin rfl rfl rfl)<|rs (vI (w64 (y1_0+1))) (r_assign rfl) ?_
      try simp only [sc0,sc1]
      refine run_nil<|again_j m (Nat.lt_succ_self m) rfl ⟨(w64 (y1_0+1)),(fit rfl),H,HS2⟩
    ·replace H:=of_neg H (nt c2)
     refine wp_exit<|exit_then ?_
     obtain rfl:=Option.some.inj H
     refine leave_j rfl ⟨_,rfl,(fit rfl),HS1⟩
  ·rintro us w3 ⟨s1,rfl,huo1,HS3⟩
   obtain ⟨uo1,rfl⟩:=unj huo1
   replace H:=G1
   clear G1
   try simp only [patch,sc0,sc1]
   refine norm_then<|wp_seq<|region<|rs (vB true) (r_assign rfl) ?_
   try simp only [sc0,sc1]
   refine run_nil<|norm_then<|wp_ret ?_
   obtain rfl:=Option.some.inj H
   exact bodyPost_ret (results_1 rfl (one_tmp rfl)) rfl<|⟨rfl,HS3.toE⟩
def taplineref08_SameDef.f (k:Nat) (a0:api_Def) (a1:api_Def):Option (Bool):=(if (true&&((((((a0.vKind==a1.vKind)&&(strEq a0.vName a1.vName))&&((a0.vInt.vSize==a1.vInt.vSize)&&((a0.vInt.vSigned==a1.vInt.vSigned)&&true)))&&(a0.vRef==a1.vRef))&&(a0.vN==a1.vN))==true))=true then taplineref08_SameFields.f k a0.vFields a1.vFields else some false).bind fun v1=>(some ((((((a0.vKind==a1.vKind)&&(strEq a0.vName a1.vName))&&((a0.vInt.vSize==a1.vInt.vSize)&&((a0.vInt.vSigned==a1.vInt.vSigned)&&true)))&&(a0.vRef==a1.vRef))&&(a0.vN==a1.vN))&&v1))
theorem taplineref08_SameDef.calls (k:Nat) (a0:api_Def) (a1:api_Def) (A0_6:Option Addr) (c0_6:Nat) (A1_6:Option Addr) (c1_6:Nat) {h0:View} {w0:World} (hv:Sees h0 w0) (hr0_6:Rd k_api_Field h0 A0_6 a0.vFields) (hc0_6:a0.vFields.length≤c0_6) (hr1_6:Rd k_api_Field h0 A1_6 a1.vFields) (hc1_6:a1.vFields.length≤c1_6) {r:Bool} (H:taplineref08_SameDef.f k a0 a1=some r):Calls Tryd.prog 62 #[Value.agg #[vI a0.vKind,vS a0.vName,vI a0.vInt.vSize,vB a0.vInt.vSigned,vI a0.vRef,vI a0.vN,vL A0_6 a0.vFields.length c0_6],Value.agg #[vI a1.vKind,vS a1.vName,vI a1.vInt.vSize,vB a1.vInt.vSigned,vI a1.vRef,vI a1.vN,vL A1_6 a1.vFields.length c1_6]] w0 (fun e w1=>e= .returned (vB r)∧Ext w0 w1):=by
 unfold taplineref08_SameDef.f at H
 have HS:St [] h0 w0 h0 [] w0:=St.init hv
 go_enter Tryd.func62,Tryd.ntmps62
 refine wp_seq<|region<|run_ex rfl rfl (does_box (cs:=#[vI a0.vKind,vS a0.vName,vI a0.vInt.vSize,vB a0.vInt.vSigned,vI a0.vRef,vI a0.vN,vL A0_6 a0.vFields.length c0_6]) rfl rfl) ?_
 rintro w1 _ hE1 ⟨b1,rfl,ge1,hb1⟩
 have HS1:=HS.new hE1 ge1 hb1
 refine run_ex rfl rfl (does_box (cs:=#[vI a1.vKind,vS a1.vName,vI a1.vInt.vSize,vB a1.vInt.vSigned,vI a1.vRef,vI a1.vN,vL A1_6 a1.vFields.length c1_6]) rfl rfl) ?_
 rintro w2 _ hE2 ⟨b2,rfl,ge2,hb2⟩
 have HS2:=HS1.new hE2 ge2 hb2
 refine rs (vB false) (r_assign rfl) ?_
 try simp only [sc0,sc1]
 refine run_nil<|norm_then<|wp_seq<|region<|rs (vP b1 0) (r_fieldBox (n:=1) (o':=0) rfl Tryd.runUnderlying34 rfl Tryd.sizeOf3 (by decide) rfl)<|rs (vI a0.vKind) (r_loadBox rfl Tryd.isAgg3 (HS2.look 1 rfl) rfl)<|rs (vP b2 0) (r_fieldBox (n:=1) (o':=0) rfl Tryd.runUnderlying34 rfl Tryd.sizeOf3 (by decide) rfl)<|rs (vI a1.vKind) (r_loadBox rfl Tryd.isAgg3 (HS2.look 0 rfl) rfl)<|run_frame (by simp only [sc0,sc1];rfl) ?_
 refine rs (vB (a0.vKind==a1.vKind)) (r_bin rfl rfl rfl)<|rs (vB (a0.vKind==a1.vKind)) (r_move rfl)<|rgs (a0.vKind==a1.vKind) true (vP b1 1) rfl rfl rfl rfl (fun hg=>(r_fieldBox (n:=1) (o':=1) rfl Tryd.runUnderlying34 rfl Tryd.sizeOf9 (by decide) rfl))<|rgs (a0.vKind==a1.vKind) true (vS a0.vName) rfl rfl rfl rfl (fun hg=>(r_loadBox (gvt (vP b1 1) hg rfl) Tryd.isAgg9 (HS2.look 1 rfl) rfl))<|run_frame (by simp only [sc0,sc1];rfl) ?_
 refine rgs (a0.vKind==a1.vKind) true (vP b2 1) rfl rfl rfl rfl (fun hg=>(r_fieldBox (n:=1) (o':=1) rfl Tryd.runUnderlying34 rfl Tryd.sizeOf9 (by decide) rfl))<|rgs (a0.vKind==a1.vKind) true (vS a1.vName) rfl rfl rfl rfl (fun hg=>(r_loadBox (gvt (vP b2 1) hg rfl) Tryd.isAgg9 (HS2.look 0 rfl) rfl))<|rgs (a0.vKind==a1.vKind) true (vB (strEq a0.vName a1.vName)) rfl rfl rfl rfl (fun hg=>(r_streql (gvt (vS a0.vName) hg rfl) (gvt (vS a1.vName) hg rfl)))<|rs (vB ((a0.vKind==a1.vKind)&&(strEq a0.vName a1.vName))) (r_pick_and rfl (fun hp=>(gvt (vB (strEq a0.vName a1.vName)) (and_i rfl hp) rfl)) rfl)<|run_frame (by simp only [sc0,sc1];rfl) ?_
 refine rs (vB ((a0.vKind==a1.vKind)&&(strEq a0.vName a1.vName))) (r_move rfl)<|rgs ((a0.vKind==a1.vKind)&&(strEq a0.vName a1.vName)) true (vP b1 2) rfl rfl rfl rfl (fun hg=>(r_fieldBox (n:=2) (o':=2) rfl Tryd.runUnderlying34 rfl Tryd.sizeOf31 (by decide) rfl))<|rgs ((a0.vKind==a1.vKind)&&(strEq a0.vName a1.vName)) true (Value.agg #[vI a0.vInt.vSize,vB a0.vInt.vSigned]) rfl rfl rfl rfl (fun hg=>(r_loadBoxAgg (n:=2) (vs:=[vI a0.vInt.vSize,vB a0.vInt.vSigned]) (gvt (vP b1 2) hg rfl) Tryd.isAgg31 (HS2.look 1 rfl) Tryd.sizeOf31 rfl rfl))<|rgs ((a0.vKind==a1.vKind)&&(strEq a0.vName a1.vName)) true (vP b2 2) rfl rfl rfl rfl (fun hg=>(r_fieldBox (n:=2) (o':=2) rfl Tryd.runUnderlying34 rfl Tryd.sizeOf31 (by decide) rfl))<|run_frame (by simp only [sc0,sc1];rfl) ?_
 refine rgs ((a0.vKind==a1.vKind)&&(strEq a0.vName a1.vName)) true (Value.agg #[vI a1.vInt.vSize,vB a1.vInt.vSigned]) rfl rfl rfl rfl (fun hg=>(r_loadBoxAgg (n:=2) (vs:=[vI a1.vInt.vSize,vB a1.vInt.vSigned]) (gvt (vP b2 2) hg rfl) Tryd.isAgg31 (HS2.look 0 rfl) Tryd.sizeOf31 rfl rfl))<|rgs ((a0.vKind==a1.vKind)&&(strEq a0.vName a1.vName)) true (vB ((a0.vInt.vSize==a1.vInt.vSize)&&((a0.vInt.vSigned==a1.vInt.vSigned)&&true))) rfl rfl rfl rfl (fun hg=>(r_aggeql (gvt (Value.agg #[vI a0.vInt.vSize,vB a0.vInt.vSigned]) hg rfl) (gvt (Value.agg #[vI a1.vInt.vSize,vB a1.vInt.vSigned]) hg rfl) Tryd.eqGuardType31 (eqr_agg Tryd.stoodInHeld31 Tryd.underlying31 (eqf_cons (by decide) (part_one Tryd.isAgg3 rfl) (part_one Tryd.isAgg3 rfl) (eqr_int Tryd.underlying3) (eqf_cons (by decide) (part_one Tryd.isAgg4 rfl) (part_one Tryd.isAgg4 rfl) (eqr_bool Tryd.underlying4) eqf_nil)))))<|rs (vB (((a0.vKind==a1.vKind)&&(strEq a0.vName a1.vName))&&((a0.vInt.vSize==a1.vInt.vSize)&&((a0.vInt.vSigned==a1.vInt.vSigned)&&true)))) (r_pick_and rfl (fun hp=>(gvt (vB ((a0.vInt.vSize==a1.vInt.vSize)&&((a0.vInt.vSigned==a1.vInt.vSigned)&&true))) (and_i rfl hp) rfl)) rfl)<|rs (vB (((a0.vKind==a1.vKind)&&(strEq a0.vName a1.vName))&&((a0.vInt.vSize==a1.vInt.vSize)&&((a0.vInt.vSigned==a1.vInt.vSigned)&&true)))) (r_move rfl)<|run_frame (by simp only [sc0,sc1];rfl) ?_
 refine rgs (((a0.vKind==a1.vKind)&&(strEq a0.vName a1.vName))&&((a0.vInt.vSize==a1.vInt.vSize)&&((a0.vInt.vSigned==a1.vInt.vSigned)&&true))) true (vP b1 4) rfl rfl rfl rfl (fun hg=>(r_fieldBox (n:=1) (o':=4) rfl Tryd.runUnderlying34 rfl Tryd.sizeOf3 (by decide) rfl))<|rgs (((a0.vKind==a1.vKind)&&(strEq a0.vName a1.vName))&&((a0.vInt.vSize==a1.vInt.vSize)&&((a0.vInt.vSigned==a1.vInt.vSigned)&&true))) true (vI a0.vRef) rfl rfl rfl rfl (fun hg=>(r_loadBox (gvt (vP b1 4) hg rfl) Tryd.isAgg3 (HS2.look 1 rfl) rfl))<|rgs (((a0.vKind==a1.vKind)&&(strEq a0.vName a1.vName))&&((a0.vInt.vSize==a1.vInt.vSize)&&((a0.vInt.vSigned==a1.vInt.vSigned)&&true))) true (vP b2 4) rfl rfl rfl rfl (fun hg=>(r_fieldBox (n:=1) (o':=4) rfl Tryd.runUnderlying34 rfl Tryd.sizeOf3 (by decide) rfl))<|rgs (((a0.vKind==a1.vKind)&&(strEq a0.vName a1.vName))&&((a0.vInt.vSize==a1.vInt.vSize)&&((a0.vInt.vSigned==a1.vInt.vSigned)&&true))) true (vI a1.vRef) rfl rfl rfl rfl (fun hg=>(r_loadBox (gvt (vP b2 4) hg rfl) Tryd.isAgg3 (HS2.look 0 rfl) rfl))<|run_frame (by simp only [sc0,sc1];rfl) ?_
 refine rgs (((a0.vKind==a1.vKind)&&(strEq a0.vName a1.vName))&&((a0.vInt.vSize==a1.vInt.vSize)&&((a0.vInt.vSigned==a1.vInt.vSigned)&&true))) true (vB (a0.vRef==a1.vRef)) rfl rfl rfl rfl (fun hg=>(r_bin (gvt (vI a0.vRef) hg rfl) (gvt (vI a1.vRef) hg rfl) rfl))<|rs (vB ((((a0.vKind==a1.vKind)&&(strEq a0.vName a1.vName))&&((a0.vInt.vSize==a1.vInt.vSize)&&((a0.vInt.vSigned==a1.vInt.vSigned)&&true)))&&(a0.vRef==a1.vRef))) (r_pick_and rfl (fun hp=>(gvt (vB (a0.vRef==a1.vRef)) (and_i rfl hp) rfl)) rfl)<|rs (vB ((((a0.vKind==a1.vKind)&&(strEq a0.vName a1.vName))&&((a0.vInt.vSize==a1.vInt.vSize)&&((a0.vInt.vSigned==a1.vInt.vSigned)&&true)))&&(a0.vRef==a1.vRef))) (r_move rfl)<|rgs ((((a0.vKind==a1.vKind)&&(strEq a0.vName a1.vName))&&((a0.vInt.vSize==a1.vInt.vSize)&&((a0.vInt.vSigned==a1.vInt.vSigned)&&true)))&&(a0.vRef==a1.vRef)) true (vP b1 5) rfl rfl rfl rfl (fun hg=>(r_fieldBox (n:=1) (o':=5) rfl Tryd.runUnderlying34 rfl Tryd.sizeOf3 (by decide) rfl))<|run_frame (by simp only [sc0,sc1];rfl) ?_
 refine rgs ((((a0.vKind==a1.vKind)&&(strEq a0.vName a1.vName))&&((a0.vInt.vSize==a1.vInt.vSize)&&((a0.vInt.vSigned==a1.vInt.vSigned)&&true)))&&(a0.vRef==a1.vRef)) true (vI a0.vN) rfl rfl rfl rfl (fun hg=>(r_loadBox (gvt (vP b1 5) hg rfl) Tryd.isAgg3 (HS2.look 1 rfl) rfl))<|rgs ((((a0.vKind==a1.vKind)&&(strEq a0.vName a1.vName))&&((a0.vInt.vSize==a1.vInt.vSize)&&((a0.vInt.vSigned==a1.vInt.vSigned)&&true)))&&(a0.vRef==a1.vRef)) true (vP b2 5) rfl rfl rfl rfl (fun hg=>(r_fieldBox (n:=1) (o':=5) rfl Tryd.runUnderlying34 rfl Tryd.sizeOf3 (by decide) rfl))<|rgs ((((a0.vKind==a1.vKind)&&(strEq a0.vName a1.vName))&&((a0.vInt.vSize==a1.vInt.vSize)&&((a0.vInt.vSigned==a1.vInt.vSigned)&&true)))&&(a0.vRef==a1.vRef)) true (vI a1.vN) rfl rfl rfl rfl (fun hg=>(r_loadBox (gvt (vP b2 5) hg rfl) Tryd.isAgg3 (HS2.look 0 rfl) rfl))<|rgs ((((a0.vKind==a1.vKind)&&(strEq a0.vName a1.vName))&&((a0.vInt.vSize==a1.vInt.vSize)&&((a0.vInt.vSigned==a1.vInt.vSigned)&&true)))&&(a0.vRef==a1.vRef)) true (vB (a0.vN==a1.vN)) rfl rfl rfl rfl (fun hg=>(r_bin (gvt (vI a0.vN) hg rfl) (gvt (vI a1.vN) hg rfl) rfl))<|run_frame (by simp only [sc0,sc1];rfl) ?_
 refine rs (vB (((((a0.vKind==a1.vKind)&&(strEq a0.vName a1.vName))&&((a0.vInt.vSize==a1.vInt.vSize)&&((a0.vInt.vSigned==a1.vInt.vSigned)&&true)))&&(a0.vRef==a1.vRef))&&(a0.vN==a1.vN))) (r_pick_and rfl (fun hp=>(gvt (vB (a0.vN==a1.vN)) (and_i rfl hp) rfl)) rfl)<|rs (vB (((((a0.vKind==a1.vKind)&&(strEq a0.vName a1.vName))&&((a0.vInt.vSize==a1.vInt.vSize)&&((a0.vInt.vSigned==a1.vInt.vSigned)&&true)))&&(a0.vRef==a1.vRef))&&(a0.vN==a1.vN))) (r_move rfl)<|rgs (((((a0.vKind==a1.vKind)&&(strEq a0.vName a1.vName))&&((a0.vInt.vSize==a1.vInt.vSize)&&((a0.vInt.vSigned==a1.vInt.vSigned)&&true)))&&(a0.vRef==a1.vRef))&&(a0.vN==a1.vN)) true (vP b1 6) rfl rfl rfl rfl (fun hg=>(r_fieldBox (n:=1) (o':=6) rfl Tryd.runUnderlying34 rfl Tryd.sizeOf32 (by decide) rfl))<|rgs (((((a0.vKind==a1.vKind)&&(strEq a0.vName a1.vName))&&((a0.vInt.vSize==a1.vInt.vSize)&&((a0.vInt.vSigned==a1.vInt.vSigned)&&true)))&&(a0.vRef==a1.vRef))&&(a0.vN==a1.vN)) true (vL A0_6 a0.vFields.length c0_6) rfl rfl rfl rfl (fun hg=>(r_loadBox (gvt (vP b1 6) hg rfl) Tryd.isAgg32 (HS2.look 1 rfl) rfl))<|run_frame (by simp only [sc0,sc1];rfl) ?_
 refine rgs (((((a0.vKind==a1.vKind)&&(strEq a0.vName a1.vName))&&((a0.vInt.vSize==a1.vInt.vSize)&&((a0.vInt.vSigned==a1.vInt.vSigned)&&true)))&&(a0.vRef==a1.vRef))&&(a0.vN==a1.vN)) true (vP b2 6) rfl rfl rfl rfl (fun hg=>(r_fieldBox (n:=1) (o':=6) rfl Tryd.runUnderlying34 rfl Tryd.sizeOf32 (by decide) rfl))<|rgs (((((a0.vKind==a1.vKind)&&(strEq a0.vName a1.vName))&&((a0.vInt.vSize==a1.vInt.vSize)&&((a0.vInt.vSigned==a1.vInt.vSigned)&&true)))&&(a0.vRef==a1.vRef))&&(a0.vN==a1.vN)) true (vL A1_6 a1.vFields.length c1_6) rfl rfl rfl rfl (fun hg=>(r_loadBox (gvt (vP b2 6) hg rfl) Tryd.isAgg32 (HS2.look 0 rfl) rfl)) ?_
 obtain ⟨v1,H1,H⟩:=of_bind H
 refine run_g (b:=(((((a0.vKind==a1.vKind)&&(strEq a0.vName a1.vName))&&((a0.vInt.vSize==a1.vInt.vSize)&&((a0.vInt.vSigned==a1.vInt.vSigned)&&true)))&&(a0.vRef==a1.vRef))&&(a0.vN==a1.vN))) (c:=true) (v:=vB v1) rfl rfl rfl rfl (fun hg=>(does_call_eq Tryd.call105 rfl (map2 (gvt (vL A0_6 a0.vFields.length c0_6) hg rfl) (gvt (vL A1_6 a1.vFields.length c1_6) hg rfl)) (taplineref08_SameFields.calls k a0.vFields a1.vFields A0_6 c0_6 A1_6 c1_6 HS2.sees hr0_6 hc0_6 hr1_6 hc1_6 (of_pos H1 hg)))) ?_
 intro w3 hE3
 have HS3:=HS2.step hE3
 refine rs (vB ((((((a0.vKind==a1.vKind)&&(strEq a0.vName a1.vName))&&((a0.vInt.vSize==a1.vInt.vSize)&&((a0.vInt.vSigned==a1.vInt.vSigned)&&true)))&&(a0.vRef==a1.vRef))&&(a0.vN==a1.vN))&&v1)) (r_pick_and rfl (fun hp=>(gvt (vB v1) (and_i rfl hp) rfl)) rfl)<|run_frame (by simp only [sc0,sc1];rfl) ?_
 refine rs (vB ((((((a0.vKind==a1.vKind)&&(strEq a0.vName a1.vName))&&((a0.vInt.vSize==a1.vInt.vSize)&&((a0.vInt.vSigned==a1.vInt.vSigned)&&true)))&&(a0.vRef==a1.vRef))&&(a0.vN==a1.vN))&&v1)) (r_assign rfl) ?_
 try simp only [sc0,sc1]
 refine run_nil<|norm_then<|wp_ret ?_
 obtain rfl:=Option.some.inj H
 exact bodyPost_ret (results_1 rfl (one_tmp rfl)) rfl<|⟨rfl,HS3.toE⟩
def taplineref08_Same.l0 (k:Nat) (a0:api_Types) (a1:api_Types):Nat→Int→Option ((Bool)⊕(Unit))
 |0,_=>none
 |m+1,y1_0=>if (decide (y1_0<(a0.vDefs.length:Int)))=true then (if 0≤y1_0∧y1_0<a0.vDefs.length then (if 0≤y1_0∧y1_0<a1.vDefs.length then ((taplineref08_SameDef.f k (rd z_api_Def a0.vDefs y1_0) (rd z_api_Def a1.vDefs y1_0)).bind fun v1=>(if (!v1)=true then (some (.inl false)) else (taplineref08_Same.l0 k a0 a1 m (IntKind.wrap .i64 (y1_0+1))))) else none) else none) else (some (.inr ()))
def taplineref08_Same.f (k:Nat) (a0:api_Types) (a1:api_Types):Option (Bool):=if ((a0.vDefs.length:Int) !=(a1.vDefs.length:Int))=true then (some false) else ((taplineref08_Same.l0 k a0 a1 k 0).bind fun xx1=>(match xx1 with| .inl r=>some r| .inr s1=>some true))
theorem taplineref08_Same.calls (k:Nat) (a0:api_Types) (a1:api_Types) (A0_0:Option Addr) (c0_0:Nat) (A1_0:Option Addr) (c1_0:Nat) {h0:View} {w0:World} (hv:Sees h0 w0) (hr0_0:Rd k_api_Def h0 A0_0 a0.vDefs) (hc0_0:a0.vDefs.length≤c0_0) (hr1_0:Rd k_api_Def h0 A1_0 a1.vDefs) (hc1_0:a1.vDefs.length≤c1_0) {r:Bool} (H:taplineref08_Same.f k a0 a1=some r):Calls Tryd.prog 30 #[Value.agg #[vL A0_0 a0.vDefs.length c0_0],Value.agg #[vL A1_0 a1.vDefs.length c1_0]] w0 (fun e w1=>e= .returned (vB r)∧Ext w0 w1):=by
 unfold taplineref08_Same.f at H
 have HS:St [] h0 w0 h0 [] w0:=St.init hv
 go_enter Tryd.func30,Tryd.ntmps30
 refine wp_seq<|region<|run_ex rfl rfl (does_box (cs:=#[vL A0_0 a0.vDefs.length c0_0]) rfl rfl) ?_
 rintro w1 _ hE1 ⟨b1,rfl,ge1,hb1⟩
 have HS1:=HS.new hE1 ge1 hb1
 refine run_ex rfl rfl (does_box (cs:=#[vL A1_0 a1.vDefs.length c1_0]) rfl rfl) ?_
 rintro w2 _ hE2 ⟨b2,rfl,ge2,hb2⟩
 have HS2:=HS1.new hE2 ge2 hb2
 refine rs (vB false) (r_assign rfl) ?_
 try simp only [sc0,sc1]
 refine run_nil<|norm_then<|wp_seq<|wp_seq<|region<|rs (vP b1 0) (r_fieldBox (n:=1) (o':=0) rfl Tryd.runUnderlying24 rfl Tryd.sizeOf22 (by decide) rfl)<|rs (vL A0_0 a0.vDefs.length c0_0) (r_loadBox rfl Tryd.isAgg22 (HS2.look 1 rfl) rfl)<|rs (vI (a0.vDefs.length:Int)) (r_len rfl Tryd.runUnderlying22)<|rs (vP b2 0) (r_fieldBox (n:=1) (o':=0) rfl Tryd.runUnderlying24 rfl Tryd.sizeOf22 (by decide) rfl)<|run_frame (by simp only [sc0,sc1];rfl) ?_
 refine rs (vL A1_0 a1.vDefs.length c1_0) (r_loadBox rfl Tryd.isAgg22 (HS2.look 0 rfl) rfl)<|rs (vI (a1.vDefs.length:Int)) (r_len rfl Tryd.runUnderlying22)<|rs (vB ((a0.vDefs.length:Int) !=(a1.vDefs.length:Int))) (r_bin rfl rfl rfl) ?_
 try simp only [sc0,sc1]
 refine run_nil<|norm_then<|wp_cond_split (t:=((a0.vDefs.length:Int) !=(a1.vDefs.length:Int))) rfl (fun c1=>?_) (fun c1=>?_)
 ·replace H:=of_pos H c1
  refine wp_seq<|region<|rs (vB false) (r_assign rfl) ?_
  try simp only [sc0,sc1]
  refine run_nil<|norm_then<|wp_ret<|ret_then ?_
  obtain rfl:=Option.some.inj H
  exact bodyPost_ret (results_1 rfl (one_tmp rfl)) rfl<|⟨rfl,HS2.toE⟩
 ·replace H:=of_neg H (nt c1)
  refine wp_skip<|norm_then<|wp_seq<|wp_seq<|region<|rs (vI 0) (r_assign rfl) ?_
  try simp only [sc0,sc1]
  refine run_nil<|norm_then ?_
  obtain ⟨xx1,H,G1⟩:=of_bind H
  refine loop_j [4,5,13,14,15,16,17,18,19,20,21,22,23,24,25,26,27,28,29,30,31] (fun m us w'=>∃(y1_0:Int),Fit us (fun uy1=>[(uy1 0),vI y1_0,(uy1 2),(uy1 3),(uy1 4),(uy1 5),(uy1 6),(uy1 7),(uy1 8),(uy1 9),(uy1 10),(uy1 11),(uy1 12),(uy1 13),(uy1 14),(uy1 15),(uy1 16),(uy1 17),(uy1 18),(uy1 19),(uy1 20)])∧taplineref08_Same.l0 k a0 a1 m y1_0=some xx1∧St [] h0 w0 h0 [(some b2, .cells #[vL A1_0 a1.vDefs.length c1_0] 24 (0,0)),(some b1, .cells #[vL A0_0 a0.vDefs.length c0_0] 24 (0,0))] w') (fun us w'=>∃(s1:Unit),xx1= .inr s1∧Fit us (fun uo1=>[(uo1 0),(uo1 1),(uo1 2),(uo1 3),(uo1 4),(uo1 5),(uo1 6),(uo1 7),(uo1 8),(uo1 9),(uo1 10),(uo1 11),(uo1 12),(uo1 13),(uo1 14),(uo1 15),(uo1 16),(uo1 17),(uo1 18),(uo1 19),(uo1 20)])∧St [] h0 w0 h0 [(some b2, .cells #[vL A1_0 a1.vDefs.length c1_0] 24 (0,0)),(some b1, .cells #[vL A0_0 a0.vDefs.length c0_0] 24 (0,0))] w') k ⟨0,(fit rfl),H,HS2⟩ ?_ ?_
  ·rintro m us w3 ⟨y1_0,huy1,H,HS3⟩
   obtain ⟨uy1,rfl⟩:=unj huy1
   cases m with
   |zero=>exact absurd H (by simp [taplineref08_Same.l0])
   |succ m=>
    rw [taplineref08_Same.l0] at H
    try simp only [patch,sc0,sc1]
    refine wp_seq<|wp_seq<|region<|rs (vI y1_0) (r_move rfl)<|rs (vP b1 0) (r_fieldBox (n:=1) (o':=0) rfl Tryd.runUnderlying24 rfl Tryd.sizeOf22 (by decide) rfl)<|rs (vL A0_0 a0.vDefs.length c0_0) (r_loadBox rfl Tryd.isAgg22 (HS3.look 1 rfl) rfl)<|rs (vI (a0.vDefs.length:Int)) (r_len rfl Tryd.runUnderlying22)<|run_frame (by simp only [sc0,sc1];rfl) ?_
    refine rs (vB (decide (y1_0<(a0.vDefs.length:Int)))) (r_bin rfl rfl rfl) ?_
    try simp only [sc0,sc1]
    refine run_nil<|norm_then<|wp_cond_split (t:=(decide (y1_0<(a0.vDefs.length:Int)))) rfl (fun c2=>?_) (fun c2=>?_)
    ·replace H:=of_pos H c2
     refine wp_skip<|norm_then<|wp_seq<|wp_block<|wp_seq ?_
     obtain ⟨hi1,H⟩:=of_ite H
     obtain ⟨ad1,Aad1_6,cad1_6,e1,hel1,hcad1_6,hrad1_6⟩:=ld_api_Def hr0_0 hi1.1 hi1.2
     obtain ⟨hi2,H⟩:=of_ite H
     obtain ⟨ad2,Aad2_6,cad2_6,e2,hel2,hcad2_6,hrad2_6⟩:=ld_api_Def hr1_0 hi2.1 hi2.2
     obtain ⟨v1,H1,H⟩:=of_bind H
     refine drawn [.eq (vP b1 0), .eq (vL A0_0 a0.vDefs.length c0_0), .eq (vI y1_0), .eq (Value.pointer (some (Addr.add ad1 (y1_0.toNat*7)))), .eq (Value.agg #[vI ((rd z_api_Def a0.vDefs y1_0).vKind),vS ((rd z_api_Def a0.vDefs y1_0).vName),vI ((rd z_api_Def a0.vDefs y1_0).vInt.vSize),vB ((rd z_api_Def a0.vDefs y1_0).vInt.vSigned),vI ((rd z_api_Def a0.vDefs y1_0).vRef),vI ((rd z_api_Def a0.vDefs y1_0).vN),vL Aad1_6 ((rd z_api_Def a0.vDefs y1_0).vFields).length cad1_6]), .eq (vP b2 0), .eq (vL A1_0 a1.vDefs.length c1_0), .eq (vI y1_0), .eq (Value.pointer (some (Addr.add ad2 (y1_0.toNat*7)))), .eq (Value.agg #[vI ((rd z_api_Def a1.vDefs y1_0).vKind),vS ((rd z_api_Def a1.vDefs y1_0).vName),vI ((rd z_api_Def a1.vDefs y1_0).vInt.vSize),vB ((rd z_api_Def a1.vDefs y1_0).vInt.vSigned),vI ((rd z_api_Def a1.vDefs y1_0).vRef),vI ((rd z_api_Def a1.vDefs y1_0).vN),vL Aad2_6 ((rd z_api_Def a1.vDefs y1_0).vFields).length cad2_6]), .eq (vB v1), .eq (vB (!v1))] [20,21,22,23,24,25,26,27,28,29,30,31] hmix (by kernel_rfl) rfl (stable_eq (stable_eq (stable_eq (stable_eq (stable_eq (stable_eq (stable_eq (stable_eq (stable_eq (stable_eq (stable_eq (stable_eq stable_nil)))))))))))) ⟨ob_plain rfl (fun a' w' hE hk=>by have HSd:=HS3.step hE;exact does_eq (r_fieldBox (n:=1) (o':=0) (show _=vP b1 0 from hk 2 rfl) Tryd.runUnderlying24 rfl Tryd.sizeOf22 (by decide) rfl)),ob_plain rfl (fun a' w' hE hk=>by have HSd:=HS3.step hE;exact does_eq (r_loadBox (show _=vP b1 0 from hk 20 rfl) Tryd.isAgg22 (HSd.look 1 rfl) rfl)),ob_plain rfl (fun a' w' hE hk=>by have HSd:=HS3.step hE;exact does_eq (r_move (show _=vI y1_0 from hk 5 rfl))),ob_plain rfl (fun a' w' hE hk=>by have HSd:=HS3.step hE;exact does_eq (r_indexA (sz:=7) (show _=vL A0_0 a0.vDefs.length c0_0 from hk 21 rfl) e1 (show _=vI y1_0 from hk 22 rfl) hi1.1 hi1.2 Tryd.runUnderlying22 Tryd.sizeOf34)),ob_plain rfl (fun a' w' hE hk=>by have HSd:=HS3.step hE;exact does_eq (r_loadAgg (show _=Value.pointer (some (Addr.add ad1 (y1_0.toNat*7))) from hk 23 rfl) Tryd.isAgg34 (hel1.sees HSd.sees) Tryd.sizeOf34)),ob_plain rfl (fun a' w' hE hk=>by have HSd:=HS3.step hE;exact does_eq (r_fieldBox (n:=1) (o':=0) (show _=vP b2 0 from hk 3 rfl) Tryd.runUnderlying24 rfl Tryd.sizeOf22 (by decide) rfl)),ob_plain rfl (fun a' w' hE hk=>by have HSd:=HS3.step hE;exact does_eq (r_loadBox (show _=vP b2 0 from hk 25 rfl) Tryd.isAgg22 (HSd.look 0 rfl) rfl)),ob_plain rfl (fun a' w' hE hk=>by have HSd:=HS3.step hE;exact does_eq (r_move (show _=vI y1_0 from hk 5 rfl))),ob_plain rfl (fun a' w' hE hk=>by have HSd:=HS3.step hE;exact does_eq (r_indexA (sz:=7) (show _=vL A1_0 a1.vDefs.length c1_0 from hk 26 rfl) e2 (show _=vI y1_0 from hk 27 rfl) hi2.1 hi2.2 Tryd.runUnderlying22 Tryd.sizeOf34)),ob_plain rfl (fun a' w' hE hk=>by have HSd:=HS3.step hE;exact does_eq (r_loadAgg (show _=Value.pointer (some (Addr.add ad2 (y1_0.toNat*7))) from hk 28 rfl) Tryd.isAgg34 (hel2.sees HSd.sees) Tryd.sizeOf34)),ob_plain rfl (fun a' w' hE hk=>by have HSd:=HS3.step hE;exact (does_call_eq Tryd.call62 rfl (map2 (show _=Value.agg #[vI ((rd z_api_Def a0.vDefs y1_0).vKind),vS ((rd z_api_Def a0.vDefs y1_0).vName),vI ((rd z_api_Def a0.vDefs y1_0).vInt.vSize),vB ((rd z_api_Def a0.vDefs y1_0).vInt.vSigned),vI ((rd z_api_Def a0.vDefs y1_0).vRef),vI ((rd z_api_Def a0.vDefs y1_0).vN),vL Aad1_6 ((rd z_api_Def a0.vDefs y1_0).vFields).length cad1_6] from hk 24 rfl) (show _=Value.agg #[vI ((rd z_api_Def a1.vDefs y1_0).vKind),vS ((rd z_api_Def a1.vDefs y1_0).vName),vI ((rd z_api_Def a1.vDefs y1_0).vInt.vSize),vB ((rd z_api_Def a1.vDefs y1_0).vInt.vSigned),vI ((rd z_api_Def a1.vDefs y1_0).vRef),vI ((rd z_api_Def a1.vDefs y1_0).vN),vL Aad2_6 ((rd z_api_Def a1.vDefs y1_0).vFields).length cad2_6] from hk 29 rfl)) (taplineref08_SameDef.calls k (rd z_api_Def a0.vDefs y1_0) (rd z_api_Def a1.vDefs y1_0) Aad1_6 cad1_6 Aad2_6 cad2_6 HSd.sees hrad1_6 hcad1_6 hrad2_6 hcad2_6 H1))),ob_plain rfl (fun a' w' hE hk=>by have HSd:=HS3.step hE;exact does_eq (r_not (show _=vB v1 from hk 30 rfl))),trivial⟩ ?_
     intro w4 hE3
     simp only [List.zip_cons_cons,List.zip_nil_left,List.zip_nil_right,finL,sc0,sc1,List.length_cons,List.length_nil,List.drop_succ_cons,List.drop_zero,Nat.zero_add,Nat.reduceAdd]
     have HS4:=HS3.step hE3
     refine run_nil<|norm_then<|wp_cond_split (t:=(!v1)) rfl (fun c3=>?_) (fun c3=>?_)
     ·replace H:=of_pos H c3
      refine wp_seq<|region<|rs (vB false) (r_assign rfl) ?_
      try simp only [sc0,sc1]
      refine run_nil<|norm_then<|wp_ret<|ret_block<|ret_then<|ret_loop<|ret_then ?_
      obtain rfl:=Option.some.inj H
      obtain rfl:=Option.some.inj G1
      exact bodyPost_ret (results_1 rfl (one_tmp rfl)) rfl<|⟨rfl,HS4.toE⟩
     ·replace H:=of_neg H (nt c3)
      refine wp_skip<|norm_block<|norm_then<|region<|rs (vI y1_0) (r_move rfl)<|rs (vI (w64 (y1_0+1))) (r_bin rfl rfl rfl)<|rs (vI (w64 (y1_0+1))) (r_assign rfl) ?_
      try simp only [sc0,sc1]
      refine run_nil<|again_j m (Nat.lt_succ_self m) rfl ⟨(w64 (y1_0+1)),(fit rfl),H,HS4⟩
    ·replace H:=of_neg H (nt c2)
     refine wp_exit<|exit_then ?_
     obtain rfl:=Option.some.inj H
     refine leave_j rfl ⟨_,rfl,(fit rfl),HS3⟩
  ·rintro us w5 ⟨s1,rfl,huo1,HS5⟩
   obtain ⟨uo1,rfl⟩:=unj huo1
   replace H:=G1
   clear G1
   try simp only [patch,sc0,sc1]
   refine norm_then<|wp_seq<|region<|rs (vB true) (r_assign rfl) ?_
   try simp only [sc0,sc1]
   refine run_nil<|norm_then<|wp_ret ?_
   obtain rfl:=Option.some.inj H
   exact bodyPost_ret (results_1 rfl (one_tmp rfl)) rfl<|⟨rfl,HS5.toE⟩
def taplineref08_SameInts.l0 (a0:List Int) (a1:List Int):Nat→Int→Option ((Bool)⊕(Unit))
 |0,_=>none
 |m+1,y1_0=>if (decide (y1_0<(a0.length:Int)))=true then (if 0≤y1_0∧y1_0<a0.length then (if 0≤y1_0∧y1_0<a1.length then (if ((rd 0 a0 y1_0) !=(rd 0 a1 y1_0))=true then (some (.inl false)) else (taplineref08_SameInts.l0 a0 a1 m (IntKind.wrap .i64 (y1_0+1)))) else none) else none) else (some (.inr ()))
def taplineref08_SameInts.f (k:Nat) (a0:List Int) (a1:List Int):Option (Bool):=if ((a0.length:Int) !=(a1.length:Int))=true then (some false) else ((taplineref08_SameInts.l0 a0 a1 k 0).bind fun xx1=>(match xx1 with| .inl r=>some r| .inr s1=>some true))
theorem taplineref08_SameInts.calls (k:Nat) (a0:List Int) (a1:List Int) (A0_0:Option Addr) (c0_0:Nat) (A1_0:Option Addr) (c1_0:Nat) {h0:View} {w0:World} (hv:Sees h0 w0) (hr0_0:Rd (Kd.int .i64) h0 A0_0 a0) (hc0_0:a0.length≤c0_0) (hr1_0:Rd (Kd.int .i64) h0 A1_0 a1) (hc1_0:a1.length≤c1_0) {r:Bool} (H:taplineref08_SameInts.f k a0 a1=some r):Calls Tryd.prog 35 #[vL A0_0 a0.length c0_0,vL A1_0 a1.length c1_0] w0 (fun e w1=>e= .returned (vB r)∧Ext w0 w1):=by
 unfold taplineref08_SameInts.f at H
 have HS:St [] h0 w0 h0 [] w0:=St.init hv
 go_enter Tryd.func35,Tryd.ntmps35
 refine wp_seq<|region<|rs (vB false) (r_assign rfl) ?_
 try simp only [sc0,sc1]
 refine run_nil<|norm_then<|wp_seq<|wp_seq<|region<|rs (vL A0_0 a0.length c0_0) (r_move rfl)<|rs (vI (a0.length:Int)) (r_len rfl Tryd.runUnderlying62)<|rs (vL A1_0 a1.length c1_0) (r_move rfl)<|rs (vI (a1.length:Int)) (r_len rfl Tryd.runUnderlying62)<|run_frame (by simp only [sc0,sc1];rfl) ?_
 refine rs (vB ((a0.length:Int) !=(a1.length:Int))) (r_bin rfl rfl rfl) ?_
 try simp only [sc0,sc1]
 refine run_nil<|norm_then<|wp_cond_split (t:=((a0.length:Int) !=(a1.length:Int))) rfl (fun c1=>?_) (fun c1=>?_)
 ·replace H:=of_pos H c1
  refine wp_seq<|region<|rs (vB false) (r_assign rfl) ?_
  try simp only [sc0,sc1]
  refine run_nil<|norm_then<|wp_ret<|ret_then ?_
  obtain rfl:=Option.some.inj H
  exact bodyPost_ret (results_1 rfl (one_tmp rfl)) rfl<|⟨rfl,HS.toE⟩
 ·replace H:=of_neg H (nt c1)
  refine wp_skip<|norm_then<|wp_seq<|wp_seq<|region<|rs (vI 0) (r_assign rfl) ?_
  try simp only [sc0,sc1]
  refine run_nil<|norm_then ?_
  obtain ⟨xx1,H,G1⟩:=of_bind H
  refine loop_j [4,5,11,12,13,14,15,16,17,18,19,20,21,22,23,24,25] (fun m us w'=>∃(y1_0:Int),Fit us (fun uy1=>[(uy1 0),vI y1_0,(uy1 2),(uy1 3),(uy1 4),(uy1 5),(uy1 6),(uy1 7),(uy1 8),(uy1 9),(uy1 10),(uy1 11),(uy1 12),(uy1 13),(uy1 14),(uy1 15),(uy1 16)])∧taplineref08_SameInts.l0 a0 a1 m y1_0=some xx1∧St [] h0 w0 h0 [] w') (fun us w'=>∃(s1:Unit),xx1= .inr s1∧Fit us (fun uo1=>[(uo1 0),(uo1 1),(uo1 2),(uo1 3),(uo1 4),(uo1 5),(uo1 6),(uo1 7),(uo1 8),(uo1 9),(uo1 10),(uo1 11),(uo1 12),(uo1 13),(uo1 14),(uo1 15),(uo1 16)])∧St [] h0 w0 h0 [] w') k ⟨0,(fit rfl),H,HS⟩ ?_ ?_
  ·rintro m us w1 ⟨y1_0,huy1,H,HS1⟩
   obtain ⟨uy1,rfl⟩:=unj huy1
   cases m with
   |zero=>exact absurd H (by simp [taplineref08_SameInts.l0])
   |succ m=>
    rw [taplineref08_SameInts.l0] at H
    try simp only [patch,sc0,sc1]
    refine wp_seq<|wp_seq<|region<|rs (vI y1_0) (r_move rfl)<|rs (vL A0_0 a0.length c0_0) (r_move rfl)<|rs (vI (a0.length:Int)) (r_len rfl Tryd.runUnderlying62)<|rs (vB (decide (y1_0<(a0.length:Int)))) (r_bin rfl rfl rfl) ?_
    try simp only [sc0,sc1]
    refine run_nil<|norm_then<|wp_cond_split (t:=(decide (y1_0<(a0.length:Int)))) rfl (fun c2=>?_) (fun c2=>?_)
    ·replace H:=of_pos H c2
     refine wp_skip<|norm_then<|wp_seq<|wp_block<|wp_seq ?_
     obtain ⟨hi1,H⟩:=of_ite H
     obtain ⟨ad1,e1,hel1⟩:=ld_int hr0_0 hi1.1 hi1.2
     obtain ⟨hi2,H⟩:=of_ite H
     obtain ⟨ad2,e2,hel2⟩:=ld_int hr1_0 hi2.1 hi2.2
     refine drawn [.eq (vL A0_0 a0.length c0_0), .eq (vI y1_0), .eq (Value.pointer (some (Addr.add ad1 (y1_0.toNat*1)))), .eq (vI (rd 0 a0 y1_0)), .eq (vL A1_0 a1.length c1_0), .eq (vI y1_0), .eq (Value.pointer (some (Addr.add ad2 (y1_0.toNat*1)))), .eq (vI (rd 0 a1 y1_0)), .eq (vB ((rd 0 a0 y1_0) !=(rd 0 a1 y1_0)))] [17,18,19,20,21,22,23,24,25] hmix (by kernel_rfl) rfl (stable_eq (stable_eq (stable_eq (stable_eq (stable_eq (stable_eq (stable_eq (stable_eq (stable_eq stable_nil))))))))) ⟨ob_plain rfl (fun a' w' hE hk=>by have HSd:=HS1.step hE;exact does_eq (r_move (show _=vL A0_0 a0.length c0_0 from hk 0 rfl))),ob_plain rfl (fun a' w' hE hk=>by have HSd:=HS1.step hE;exact does_eq (r_move (show _=vI y1_0 from hk 5 rfl))),ob_plain rfl (fun a' w' hE hk=>by have HSd:=HS1.step hE;exact does_eq (r_indexA (sz:=1) (show _=vL A0_0 a0.length c0_0 from hk 17 rfl) e1 (show _=vI y1_0 from hk 18 rfl) hi1.1 hi1.2 Tryd.runUnderlying62 Tryd.sizeOf3)),ob_plain rfl (fun a' w' hE hk=>by have HSd:=HS1.step hE;exact does_eq (r_load (show _=Value.pointer (some (Addr.add ad1 (y1_0.toNat*1))) from hk 19 rfl) Tryd.isAgg3 (hel1.cell0 HSd.sees rfl))),ob_plain rfl (fun a' w' hE hk=>by have HSd:=HS1.step hE;exact does_eq (r_move (show _=vL A1_0 a1.length c1_0 from hk 1 rfl))),ob_plain rfl (fun a' w' hE hk=>by have HSd:=HS1.step hE;exact does_eq (r_move (show _=vI y1_0 from hk 5 rfl))),ob_plain rfl (fun a' w' hE hk=>by have HSd:=HS1.step hE;exact does_eq (r_indexA (sz:=1) (show _=vL A1_0 a1.length c1_0 from hk 21 rfl) e2 (show _=vI y1_0 from hk 22 rfl) hi2.1 hi2.2 Tryd.runUnderlying62 Tryd.sizeOf3)),ob_plain rfl (fun a' w' hE hk=>by have HSd:=HS1.step hE;exact does_eq (r_load (show _=Value.pointer (some (Addr.add ad2 (y1_0.toNat*1))) from hk 23 rfl) Tryd.isAgg3 (hel2.cell0 HSd.sees rfl))),ob_plain rfl (fun a' w' hE hk=>by have HSd:=HS1.step hE;exact does_eq (r_bin (show _=vI (rd 0 a0 y1_0) from hk 20 rfl) (show _=vI (rd 0 a1 y1_0) from hk 24 rfl) rfl)),trivial⟩ ?_
     intro w2 hE1
     simp only [List.zip_cons_cons,List.zip_nil_left,List.zip_nil_right,finL,sc0,sc1,List.length_cons,List.length_nil,List.drop_succ_cons,List.drop_zero,Nat.zero_add,Nat.reduceAdd]
     have HS2:=HS1.step hE1
     refine run_nil<|norm_then<|wp_cond_split (t:=((rd 0 a0 y1_0) !=(rd 0 a1 y1_0))) rfl (fun c3=>?_) (fun c3=>?_)
     ·replace H:=of_pos H c3
      refine wp_seq<|region<|rs (vB false) (r_assign rfl) ?_
      try simp only [sc0,sc1]
      refine run_nil<|norm_then<|wp_ret<|ret_block<|ret_then<|ret_loop<|ret_then ?_
      obtain rfl:=Option.some.inj H
      obtain rfl:=Option.some.inj G1
      exact bodyPost_ret (results_1 rfl (one_tmp rfl)) rfl<|⟨rfl,HS2.toE⟩
     ·replace H:=of_neg H (nt c3)
      refine wp_skip<|norm_block<|norm_then<|region<|rs (vI y1_0) (r_move rfl)<|rs (vI (w64 (y1_0+1))) (r_bin rfl rfl rfl)<|rs (vI (w64 (y1_0+1))) (r_assign rfl) ?_
      try simp only [sc0,sc1]
      refine run_nil<|again_j m (Nat.lt_succ_self m) rfl ⟨(w64 (y1_0+1)),(fit rfl),H,HS2⟩
    ·replace H:=of_neg H (nt c2)
     refine wp_exit<|exit_then ?_
     obtain rfl:=Option.some.inj H
     refine leave_j rfl ⟨_,rfl,(fit rfl),HS1⟩
  ·rintro us w3 ⟨s1,rfl,huo1,HS3⟩
   obtain ⟨uo1,rfl⟩:=unj huo1
   replace H:=G1
   clear G1
   try simp only [patch,sc0,sc1]
   refine norm_then<|wp_seq<|region<|rs (vB true) (r_assign rfl) ?_
   try simp only [sc0,sc1]
   refine run_nil<|norm_then<|wp_ret ?_
   obtain rfl:=Option.some.inj H
   exact bodyPost_ret (results_1 rfl (one_tmp rfl)) rfl<|⟨rfl,HS3.toE⟩
def ctf_put.l0:Nat→Int→(List Int)→Option (Int×(List Int))
 |0,_,_=>none
 |m+1,y1_0,y1_1=>if (decide (y1_0>127))=true then (if y1_1.length+1≤4294967296 then (ctf_put.l0 m (iShr .u64 y1_0 7) (y1_1++([(iOr .u8 (IntKind.wrap .u8 y1_0) 128)]:List Int))) else none) else (some (y1_0,y1_1))
def ctf_put.f (k:Nat) (a0:List Int) (a1:Int):Option ((List Int)):=((if (decide (a1<0))=true then (some (iNot .u64 (iShl .u64 (IntKind.wrap .u64 a1) 1))) else (some (iShl .u64 (IntKind.wrap .u64 a1) 1))):Option (Int)).bind fun xx1=>((ctf_put.l0 k xx1 a0).bind fun xx2=>(if xx2.2.length+1≤4294967296 then (some (xx2.2++([(IntKind.wrap .u8 xx2.1)]:List Int))) else none))
theorem ctf_put.calls (k:Nat) (a0:List Int) (a1:Int) (oba0:Option Nat) (ca0:Nat) (csa0:List Value) (fra0:Nat×Nat) {h0:View} {w0:World} {h:View} {w:World} {rest:List Res} (HS:St [] h0 w0 h ((oba0, .cells (csa0).toArray 5 fra0)::rest) w) (hoa0:RowOk (Kd.int .u8) h a0 oba0 a0.length ca0 csa0) (hfa0:FrOk fra0 csa0.length) {r:(List Int)} (H:ctf_put.f k a0 a1=some r):Calls Tryd.prog 106 #[vL (rowA oba0) a0.length ca0,vI a1] w (fun e w1=>∃(obz_a0:Option Nat) (cz_a0:Nat) (csz_a0:List Value),∃(frz_a0:Nat×Nat),e= .returned (vL (rowA obz_a0) r.length cz_a0)∧FrOk frz_a0 csz_a0.length∧RowOk (Kd.int .u8) h r obz_a0 r.length cz_a0 csz_a0∧St [] h0 w0 h ((obz_a0, .cells (csz_a0).toArray 5 frz_a0)::rest) w1):=by
 unfold ctf_put.f at H
 have hsub:Sub h h:=Sub.rfl' h
 go_enter Tryd.func106,Tryd.ntmps106
 refine wp_seq<|region<|rs (vL none 0 0) (r_assign rfl) ?_
 try simp only [sc0,sc1]
 refine run_nil<|norm_then<|wp_seq<|region<|rs (vI a1) (r_move rfl)<|rs (Value.int .u64 (IntKind.wrap .u64 a1)) (r_conv rfl Tryd.runUnderlying3 Tryd.runUnderlying168)<|rs (Value.int .u64 (iShl .u64 (IntKind.wrap .u64 a1) 1)) (r_shl rfl rfl (by decide))<|rs (Value.int .u64 (iShl .u64 (IntKind.wrap .u64 a1) 1)) (r_assign rfl) ?_
 try simp only [sc0,sc1]
 refine run_nil<|norm_then<|wp_seq<|wp_seq<|region<|rs (vI a1) (r_move rfl)<|rs (vB (decide (a1<0))) (r_bin rfl rfl rfl) ?_
 try simp only [sc0,sc1]
 refine run_nil<|norm_then ?_
 obtain ⟨xx1,H,G1⟩:=of_bind H
 refine cut_patch [5,11,12] (fun us w'=>Fit us (fun uj1=>[Value.int .u64 xx1,(uj1 1),(uj1 2)])∧St [] h0 w0 h ((oba0, .cells (csa0).toArray 5 fra0)::rest) w') ?_ ?_
 ·refine wp_cond_split (t:=(decide (a1<0))) rfl (fun c1=>?_) (fun c1=>?_)
  ·replace H:=of_pos H c1
   refine region<|rs (Value.int .u64 (iShl .u64 (IntKind.wrap .u64 a1) 1)) (r_move rfl)<|rs (Value.int .u64 (iNot .u64 (iShl .u64 (IntKind.wrap .u64 a1) 1))) (r_inot rfl)<|rs (Value.int .u64 (iNot .u64 (iShl .u64 (IntKind.wrap .u64 a1) 1))) (r_assign rfl) ?_
   try simp only [sc0,sc1]
   refine run_nil ?_
   obtain rfl:=Option.some.inj H
   refine met_j rfl ⟨(fit rfl),HS⟩
  ·replace H:=of_neg H (nt c1)
   refine wp_skip ?_
   obtain rfl:=Option.some.inj H
   refine met_j rfl ⟨(fit rfl),HS⟩
 ·rintro us w1 ⟨huj1,HS1⟩
  obtain ⟨uj1,rfl⟩:=unj huj1
  replace H:=G1
  clear G1
  try simp only [patch,sc0,sc1]
  refine wp_seq ?_
  obtain ⟨xx2,H,G2⟩:=of_bind H
  refine loop_j [0,5,13,14,15,16,17,18,19,20,21,22] (fun m us w'=>∃y1_0:Int,∃y1_1:List Int,∃(oby1_1:Option Nat) (cy1_1:Nat),∃csy1_1:List Value,∃fry1_1:Nat×Nat,Fit us (fun uy1=>[vL (rowA oby1_1) y1_1.length cy1_1,Value.int .u64 y1_0,(uy1 2),(uy1 3),(uy1 4),(uy1 5),(uy1 6),(uy1 7),(uy1 8),(uy1 9),(uy1 10),(uy1 11)])∧ctf_put.l0 m y1_0 y1_1=some xx2∧FrOk fry1_1 csy1_1.length∧RowOk (Kd.int .u8) h y1_1 oby1_1 y1_1.length cy1_1 csy1_1∧St [] h0 w0 h ((oby1_1, .cells (csy1_1).toArray 5 fry1_1)::rest) w') (fun us w'=>∃(obo1_1:Option Nat) (co1_1:Nat),∃cso1_1:List Value,∃fro1_1:Nat×Nat,Fit us (fun uo1=>[vL (rowA obo1_1) xx2.2.length co1_1,Value.int .u64 xx2.1,(uo1 2),(uo1 3),(uo1 4),(uo1 5),(uo1 6),(uo1 7),(uo1 8),(uo1 9),(uo1 10),(uo1 11)])∧FrOk fro1_1 cso1_1.length∧RowOk (Kd.int .u8) h xx2.2 obo1_1 xx2.2.length co1_1 cso1_1∧St [] h0 w0 h ((obo1_1, .cells (cso1_1).toArray 5 fro1_1)::rest) w') k ⟨xx1,a0,oba0,ca0,csa0,fra0,(fit rfl),H,hfa0,hoa0.norm,HS1⟩ ?_ ?_
  ·rintro m us w2 ⟨y1_0,y1_1,oby1_1,cy1_1,csy1_1,fry1_1,huy1,H,hfy1_1,hoy1_1,HS2⟩
   obtain ⟨uy1,rfl⟩:=unj huy1
   cases m with
   |zero=>exact absurd H (by simp [ctf_put.l0])
   |succ m=>
    rw [ctf_put.l0] at H
    try simp only [patch,sc0,sc1]
    refine wp_seq<|wp_seq<|region<|rs (Value.int .u64 y1_0) (r_move rfl)<|rs (vB (decide (y1_0>127))) (r_bin rfl rfl rfl) ?_
    try simp only [sc0,sc1]
    refine run_nil<|norm_then<|wp_cond_split (t:=(decide (y1_0>127))) rfl (fun c2=>?_) (fun c2=>?_)
    ·replace H:=of_pos H c2
     refine wp_skip<|norm_then<|wp_block<|wp_seq<|region<|rs (vL (rowA oby1_1) y1_1.length cy1_1) (r_move rfl)<|rs (Value.int .u64 y1_0) (r_move rfl)<|rs (Value.int .u8 (IntKind.wrap .u8 y1_0)) (r_conv rfl Tryd.runUnderlying168 Tryd.runUnderlying5)<|rs (Value.int .u8 (iOr .u8 (IntKind.wrap .u8 y1_0) 128)) (r_or rfl rfl)<|run_frame (by simp only [sc0,sc1];rfl) ?_
     refine run_bs (Kd.int .u8) (xs:=([(iOr .u8 (IntKind.wrap .u8 y1_0) 128)]:List Int)) (n:=1) (cs:=[Value.int .u8 (iOr .u8 (IntKind.wrap .u8 y1_0) 128)]) Tryd.runUnderlying80 Tryd.typeInfo5 Tryd.zeroValue5 rfl rfl (by decide) (by decide) (by decide) [Value.int .u8 (iOr .u8 (IntKind.wrap .u8 y1_0) 128)] (parts_any.trans rfl) rfl rfl rfl rfl (elems_cons (qs:=[Value.int .u8 (iOr .u8 (IntKind.wrap .u8 y1_0) 128)]) rfl (elems_nil (cs:=[]))) HS2 ?_
     intro w3 b1 HS3 ho1
     obtain ⟨hl1,H⟩:=of_ite H
     refine run_appf (Kd.int .u8) (q:=1) (cs:=csy1_1) rfl rfl Tryd.runUnderlying80 Tryd.typeInfo5 Tryd.zeroValue5 rfl (by decide) rfl (src_row Tryd.runUnderlying80 HS3 (i:=0) rfl ho1 rfl) ho1.len (src_row_elems ho1) hl1 HS3 rfl hfy1_1 hoy1_1 ?_
     rintro w4 ob1 c3 cs1 fr1 ⟨hf1,_⟩ HS4 ho2
     refine rs (vL (rowA ob1) (y1_1.length+1) c3) (r_assign rfl) ?_
     try simp only [sc0,sc1]
     refine run_nil<|norm_then<|region<|rs (Value.int .u64 y1_0) (r_move rfl)<|rs (Value.int .u64 (iShr .u64 y1_0 7)) (r_shr rfl rfl (by decide))<|rs (Value.int .u64 (iShr .u64 y1_0 7)) (r_assign rfl) ?_
     try simp only [sc0,sc1]
     refine run_nil<|norm_block<|again_j m (Nat.lt_succ_self m) rfl ⟨(iShr .u64 y1_0 7),(y1_1++([(iOr .u8 (IntKind.wrap .u8 y1_0) 128)]:List Int)),ob1,c3,cs1,fr1,(fit (by first|rfl|(rw [ho2.len];done)|(rw [ho2.len];rfl))),H,hf1,ho2.norm,HS4.tail⟩
    ·replace H:=of_neg H (nt c2)
     refine wp_exit<|exit_then ?_
     obtain rfl:=Option.some.inj H
     refine leave_j rfl ⟨oby1_1,cy1_1,csy1_1,fry1_1,(fit rfl),hfy1_1,hoy1_1.norm,HS2⟩
  ·rintro us w5 ⟨obo1_1,co1_1,cso1_1,fro1_1,huo1,hfo1_1,hoo1_1,HS5⟩
   obtain ⟨uo1,rfl⟩:=unj huo1
   replace H:=G2
   clear G2
   try simp only [patch,sc0,sc1]
   refine norm_then<|wp_seq<|region<|rs (vL (rowA obo1_1) xx2.2.length co1_1) (r_move rfl)<|rs (Value.int .u64 xx2.1) (r_move rfl)<|rs (Value.int .u8 (IntKind.wrap .u8 xx2.1)) (r_conv rfl Tryd.runUnderlying168 Tryd.runUnderlying5)<|run_bs (Kd.int .u8) (xs:=([(IntKind.wrap .u8 xx2.1)]:List Int)) (n:=1) (cs:=[Value.int .u8 (IntKind.wrap .u8 xx2.1)]) Tryd.runUnderlying80 Tryd.typeInfo5 Tryd.zeroValue5 rfl rfl (by decide) (by decide) (by decide) [Value.int .u8 (IntKind.wrap .u8 xx2.1)] (parts_any.trans rfl) rfl rfl rfl rfl (elems_cons (qs:=[Value.int .u8 (IntKind.wrap .u8 xx2.1)]) rfl (elems_nil (cs:=[]))) HS5 ?_
   intro w6 b2 HS6 ho3
   refine run_frame (by simp only [sc0,sc1];rfl) ?_
   obtain ⟨hl2,H⟩:=of_ite H
   refine run_appf (Kd.int .u8) (q:=1) (cs:=cso1_1) rfl rfl Tryd.runUnderlying80 Tryd.typeInfo5 Tryd.zeroValue5 rfl (by decide) rfl (src_row Tryd.runUnderlying80 HS6 (i:=0) rfl ho3 rfl) ho3.len (src_row_elems ho3) hl2 HS6 rfl hfo1_1 hoo1_1 ?_
   rintro w7 ob2 c4 cs2 fr2 ⟨hf2,_⟩ HS7 ho4
   refine rs (vL (rowA ob2) (xx2.2.length+1) c4) (r_assign rfl) ?_
   try simp only [sc0,sc1]
   refine run_nil<|norm_then<|wp_ret ?_
   obtain rfl:=Option.some.inj H
   refine bodyPost_ret (results_1 rfl (one_tmp rfl)) rfl ?_
   have ho5:=ho3.norm
   have ho6:=ho4.norm
   have HS8:=HS7.d0
   exact ⟨ob2,c4,cs2,fr2,(by first|rfl|(rw [ho4.len];done)|(rw [ho4.len];rfl)),hf2,ho6,HS8⟩
def ctf_putString.f (k:Nat) (a0:List Int) (a1:ByteArray):Option ((List Int)):=(ctf_put.f k a0 (a1.size:Int)).bind fun v1=>(if v1.length+a1.size≤4294967296 then (some (v1++(bytesOf a1))) else none)
theorem ctf_putString.calls (k:Nat) (a0:List Int) (a1:ByteArray) (oba0:Option Nat) (ca0:Nat) (csa0:List Value) (fra0:Nat×Nat) {h0:View} {w0:World} {h:View} {w:World} {rest:List Res} (HS:St [] h0 w0 h ((oba0, .cells (csa0).toArray 5 fra0)::rest) w) (hoa0:RowOk (Kd.int .u8) h a0 oba0 a0.length ca0 csa0) (hfa0:FrOk fra0 csa0.length) {r:(List Int)} (H:ctf_putString.f k a0 a1=some r):Calls Tryd.prog 107 #[vL (rowA oba0) a0.length ca0,vS a1] w (fun e w1=>∃(obz_a0:Option Nat) (cz_a0:Nat) (csz_a0:List Value),∃(frz_a0:Nat×Nat),e= .returned (vL (rowA obz_a0) r.length cz_a0)∧FrOk frz_a0 csz_a0.length∧RowOk (Kd.int .u8) h r obz_a0 r.length cz_a0 csz_a0∧St [] h0 w0 h ((obz_a0, .cells (csz_a0).toArray 5 frz_a0)::rest) w1):=by
 unfold ctf_putString.f at H
 have hsub:Sub h h:=Sub.rfl' h
 go_enter Tryd.func107,Tryd.ntmps107
 refine wp_seq<|region<|rs (vL none 0 0) (r_assign rfl) ?_
 try simp only [sc0,sc1]
 refine run_nil<|norm_then<|wp_seq<|region<|rs (vL (rowA oba0) a0.length ca0) (r_move rfl)<|rs (vS a1) (r_move rfl)<|rs (vI (a1.size:Int)) (r_lenStr rfl Tryd.runUnderlying9) ?_
 obtain ⟨v1,H1,H⟩:=of_bind H
 refine run_call (vs:=[vL (rowA oba0) a0.length ca0,vI (a1.size:Int)]) (caps:=[]) Tryd.call106 rfl rfl (ctf_put.calls k a0 (a1.size:Int) oba0 ca0 csa0 fra0 HS hoa0 hfa0 H1) ?_
 rintro _ w1 ⟨obv1_a0,cv1_a0,csv1_a0,frv1_a0,rfl,hfv1_a0,hov1_a0,HS1⟩
 refine ⟨_,rfl,?_⟩
 refine run_frame (by simp only [sc0,sc1];rfl) ?_
 refine rs (vS a1) (r_move rfl) ?_
 obtain ⟨hl1,H⟩:=of_ite H
 refine run_appf (Kd.int .u8) (q:=0) (cs:=csv1_a0) rfl rfl Tryd.runUnderlying80 Tryd.typeInfo5 Tryd.zeroValue5 rfl (by decide) rfl (Src.ofString _ (under_of Tryd.runUnderlying9) a1) (bytesOf_length _) (src_str_elems _) hl1 HS1 rfl hfv1_a0 hov1_a0 ?_
 rintro w2 ob1 c1 cs1 fr1 ⟨hf1,_⟩ HS2 ho1
 refine rs (vL (rowA ob1) (v1.length+a1.size) c1) (r_assign rfl) ?_
 try simp only [sc0,sc1]
 refine run_nil<|norm_then<|wp_ret ?_
 obtain rfl:=Option.some.inj H
 refine bodyPost_ret (results_1 rfl (one_tmp rfl)) rfl ?_
 have ho2:=ho1.norm
 exact ⟨ob1,c1,cs1,fr1,(by first|rfl|(rw [ho1.len];done)|(rw [ho1.len];rfl)),hf1,ho2,HS2⟩
def ctf_putField.f (k:Nat) (a0:List Int) (a1:api_Field):Option ((List Int)):=(ctf_putString.f k a0 a1.vName).bind fun v1=>((ctf_put.f k v1 a1.vType).bind fun v2=>((ctf_put.f k v2 a1.vAt).bind fun v3=>(some v3)))
theorem ctf_putField.calls (k:Nat) (a0:List Int) (a1:api_Field) (oba0:Option Nat) (ca0:Nat) (csa0:List Value) (fra0:Nat×Nat) {h0:View} {w0:World} {h:View} {w:World} {rest:List Res} (HS:St [] h0 w0 h ((oba0, .cells (csa0).toArray 5 fra0)::rest) w) (hoa0:RowOk (Kd.int .u8) h a0 oba0 a0.length ca0 csa0) (hfa0:FrOk fra0 csa0.length) {r:(List Int)} (H:ctf_putField.f k a0 a1=some r):Calls Tryd.prog 109 #[vL (rowA oba0) a0.length ca0,Value.agg #[vS a1.vName,vI a1.vType,vI a1.vAt]] w (fun e w1=>∃(obz_a0:Option Nat) (cz_a0:Nat) (csz_a0:List Value),∃(frz_a0:Nat×Nat),e= .returned (vL (rowA obz_a0) r.length cz_a0)∧FrOk frz_a0 csz_a0.length∧RowOk (Kd.int .u8) h r obz_a0 r.length cz_a0 csz_a0∧St [] h0 w0 h ((obz_a0, .cells (csz_a0).toArray 5 frz_a0)::rest) w1):=by
 unfold ctf_putField.f at H
 have hsub:Sub h h:=Sub.rfl' h
 go_enter Tryd.func109,Tryd.ntmps109
 refine wp_seq<|region<|run_ex rfl rfl (does_box (cs:=#[vS a1.vName,vI a1.vType,vI a1.vAt]) rfl rfl) ?_
 rintro w1 _ hE1 ⟨b1,rfl,ge1,hb1⟩
 have HS1:=HS.new hE1 ge1 hb1
 refine rs (vL none 0 0) (r_assign rfl) ?_
 try simp only [sc0,sc1]
 refine run_nil<|norm_then<|wp_seq<|drawn_chain [([5,6,7,9,10,12,13],[0,1,2,4,5,7,8]),([],[4,5,7,8]),([],[7,8]),([4],[10])] [3,6,9] [[],[],[1],[0,1,2],[],[4],[0,1,2,3,4,5],[],[7],[0,1,2,3,4,5,6,7,8],[0,1,2,3,4,5,6,7,8,9]] hmix (by kernel_rfl) ?_
 intro w2 hE2
 have HS2:=HS1.step hE2
 refine chain_eff [vL (rowA oba0) a0.length ca0,vP b1 0,vS a1.vName,vP b1 1,vI a1.vType,vP b1 2,vI a1.vAt] ?_ rfl rfl ?_
 ·try simp only [patch,sc0,sc1]
  exact allg_cons (good_same (v:=vL (rowA oba0) a0.length ca0) rfl rfl rfl rfl (r_move rfl)) (allg_cons (good_same (v:=vP b1 0) rfl rfl rfl rfl (r_fieldBox (n:=1) (o':=0) rfl Tryd.runUnderlying36 rfl Tryd.sizeOf9 (by decide) rfl)) (allg_cons (good_same (v:=vS a1.vName) rfl rfl rfl rfl (r_loadBox rfl Tryd.isAgg9 (HS2.look 0 rfl) rfl)) (allg_cons (good_same (v:=vP b1 1) rfl rfl rfl rfl (r_fieldBox (n:=1) (o':=1) rfl Tryd.runUnderlying36 rfl Tryd.sizeOf3 (by decide) rfl)) (allg_cons (good_same (v:=vI a1.vType) rfl rfl rfl rfl (r_loadBox rfl Tryd.isAgg3 (HS2.look 0 rfl) rfl)) (allg_cons (good_same (v:=vP b1 2) rfl rfl rfl rfl (r_fieldBox (n:=1) (o':=2) rfl Tryd.runUnderlying36 rfl Tryd.sizeOf3 (by decide) rfl)) (allg_cons (good_same (v:=vI a1.vAt) rfl rfl rfl rfl (r_loadBox rfl Tryd.isAgg3 (HS2.look 0 rfl) rfl)) (allg_nil)))))))
 try simp only [patch,sc0,sc1]
 obtain ⟨v1,H1,H⟩:=of_bind H
 have HS3:=HS2.f1
 refine run_call (vs:=[vL (rowA oba0) a0.length ca0,vS a1.vName]) (caps:=[]) Tryd.call107 rfl rfl (ctf_putString.calls k a0 a1.vName oba0 ca0 csa0 fra0 HS3 hoa0 hfa0 H1) ?_
 rintro _ w3 ⟨obv1_a0,cv1_a0,csv1_a0,frv1_a0,rfl,hfv1_a0,hov1_a0,HS4⟩
 refine ⟨_,rfl,?_⟩
 have HS5:=HS4.f1
 refine qn_nil ?_
 try simp only [sc0,sc1]
 refine chain_eff [] ?_ rfl rfl ?_
 ·try simp only [patch,sc0,sc1]
  exact allg_cons (good_same (v:=vP b1 1) rfl rfl rfl rfl (r_fieldBox (n:=1) (o':=1) rfl Tryd.runUnderlying36 rfl Tryd.sizeOf3 (by decide) rfl)) (allg_cons (good_same (v:=vI a1.vType) rfl rfl rfl rfl (r_loadBox rfl Tryd.isAgg3 (HS5.look 0 rfl) rfl)) (allg_cons (good_same (v:=vP b1 2) rfl rfl rfl rfl (r_fieldBox (n:=1) (o':=2) rfl Tryd.runUnderlying36 rfl Tryd.sizeOf3 (by decide) rfl)) (allg_cons (good_same (v:=vI a1.vAt) rfl rfl rfl rfl (r_loadBox rfl Tryd.isAgg3 (HS5.look 0 rfl) rfl)) (allg_nil))))
 try simp only [patch,sc0,sc1]
 obtain ⟨v2,H2,H⟩:=of_bind H
 have HS6:=HS5.f1
 refine run_call (vs:=[vL (rowA obv1_a0) v1.length cv1_a0,vI a1.vType]) (caps:=[]) Tryd.call106 rfl rfl (ctf_put.calls k v1 a1.vType obv1_a0 cv1_a0 csv1_a0 frv1_a0 HS6 hov1_a0 hfv1_a0 H2) ?_
 rintro _ w4 ⟨obv2_a0,cv2_a0,csv2_a0,frv2_a0,rfl,hfv2_a0,hov2_a0,HS7⟩
 refine ⟨_,rfl,?_⟩
 have HS8:=HS7.f1
 refine qn_nil ?_
 try simp only [sc0,sc1]
 refine chain_eff [] ?_ rfl rfl ?_
 ·try simp only [patch,sc0,sc1]
  exact allg_cons (good_same (v:=vP b1 2) rfl rfl rfl rfl (r_fieldBox (n:=1) (o':=2) rfl Tryd.runUnderlying36 rfl Tryd.sizeOf3 (by decide) rfl)) (allg_cons (good_same (v:=vI a1.vAt) rfl rfl rfl rfl (r_loadBox rfl Tryd.isAgg3 (HS8.look 0 rfl) rfl)) (allg_nil))
 try simp only [patch,sc0,sc1]
 obtain ⟨v3,H3,H⟩:=of_bind H
 have HS9:=HS8.f1
 refine run_call (vs:=[vL (rowA obv2_a0) v2.length cv2_a0,vI a1.vAt]) (caps:=[]) Tryd.call106 rfl rfl (ctf_put.calls k v2 a1.vAt obv2_a0 cv2_a0 csv2_a0 frv2_a0 HS9 hov2_a0 hfv2_a0 H3) ?_
 rintro _ w5 ⟨obv3_a0,cv3_a0,csv3_a0,frv3_a0,rfl,hfv3_a0,hov3_a0,HS10⟩
 refine ⟨_,rfl,?_⟩
 have HS11:=HS10.f1
 refine qn_nil ?_
 try simp only [sc0,sc1]
 refine chain_last [vL (rowA obv3_a0) v3.length cv3_a0] ?_ ?_
 ·try simp only [patch,sc0,sc1]
  exact allg_cons (good_same (v:=vL (rowA obv3_a0) v3.length cv3_a0) rfl rfl rfl rfl (r_assign rfl)) (allg_nil)
 try simp only [patch,sc0,sc1]
 refine norm_then<|wp_ret ?_
 obtain rfl:=Option.some.inj H
 refine bodyPost_ret (results_1 rfl (one_tmp rfl)) rfl ?_
 have HS12:=HS11.d0
 exact ⟨obv3_a0,cv3_a0,csv3_a0,frv3_a0,rfl,hfv3_a0,hov3_a0,HS12⟩
def ctf_putList_api_Field.l0 (k:Nat) (a1:List api_Field):Nat→Int→(List Int)→Option ((List Int))
 |0,_,_=>none
 |m+1,y1_0,y1_1=>if (decide (y1_0<(a1.length:Int)))=true then (if 0≤y1_0∧y1_0<a1.length then ((ctf_putField.f k y1_1 (rd z_api_Field a1 y1_0)).bind fun v2=>(ctf_putList_api_Field.l0 k a1 m (IntKind.wrap .i64 (y1_0+1)) v2)) else none) else (some y1_1)
def ctf_putList_api_Field.f (k:Nat) (a0:List Int) (a1:List api_Field):Option ((List Int)):=(ctf_put.f k a0 (a1.length:Int)).bind fun v1=>((ctf_putList_api_Field.l0 k a1 k 0 v1).bind fun xx1=>(some xx1))
theorem ctf_putList_api_Field.calls (k:Nat) (a0:List Int) (a1:List api_Field) (oba0:Option Nat) (ca0:Nat) (csa0:List Value) (fra0:Nat×Nat) (A1_0:Option Addr) (c1_0:Nat) {h0:View} {w0:World} {h:View} {w:World} {rest:List Res} (HS:St [] h0 w0 h ((oba0, .cells (csa0).toArray 5 fra0)::rest) w) (hoa0:RowOk (Kd.int .u8) h a0 oba0 a0.length ca0 csa0) (hfa0:FrOk fra0 csa0.length) (hr1_0:Rd k_api_Field h A1_0 a1) (hc1_0:a1.length≤c1_0) {r:(List Int)} (H:ctf_putList_api_Field.f k a0 a1=some r):Calls Tryd.prog 108 #[vL (rowA oba0) a0.length ca0,vL A1_0 a1.length c1_0,Value.func (.func 109) #[] #[]] w (fun e w1=>∃(obz_a0:Option Nat) (cz_a0:Nat) (csz_a0:List Value),∃(frz_a0:Nat×Nat),e= .returned (vL (rowA obz_a0) r.length cz_a0)∧FrOk frz_a0 csz_a0.length∧RowOk (Kd.int .u8) h r obz_a0 r.length cz_a0 csz_a0∧St [] h0 w0 h ((obz_a0, .cells (csz_a0).toArray 5 frz_a0)::rest) w1):=by
 unfold ctf_putList_api_Field.f at H
 have hsub:Sub h h:=Sub.rfl' h
 go_enter Tryd.func108,Tryd.ntmps108
 refine wp_seq<|region<|rs (vL none 0 0) (r_assign rfl) ?_
 try simp only [sc0,sc1]
 refine run_nil<|norm_then<|wp_seq<|region<|rs (vL (rowA oba0) a0.length ca0) (r_move rfl)<|rs (vL A1_0 a1.length c1_0) (r_move rfl)<|rs (vI (a1.length:Int)) (r_len rfl Tryd.runUnderlying32) ?_
 obtain ⟨v1,H1,H⟩:=of_bind H
 refine run_call (vs:=[vL (rowA oba0) a0.length ca0,vI (a1.length:Int)]) (caps:=[]) Tryd.call106 rfl rfl (ctf_put.calls k a0 (a1.length:Int) oba0 ca0 csa0 fra0 HS hoa0 hfa0 H1) ?_
 rintro _ w1 ⟨obv1_a0,cv1_a0,csv1_a0,frv1_a0,rfl,hfv1_a0,hov1_a0,HS1⟩
 refine ⟨_,rfl,?_⟩
 refine run_frame (by simp only [sc0,sc1];rfl) ?_
 refine rs (vL (rowA obv1_a0) v1.length cv1_a0) (r_assign rfl) ?_
 try simp only [sc0,sc1]
 refine run_nil<|norm_then<|wp_seq<|wp_seq<|region<|rs (vL A1_0 a1.length c1_0) (r_move rfl)<|rs (vI (a1.length:Int)) (r_len rfl Tryd.runUnderlying32)<|rs (vI 0) (r_move rfl) ?_
 try simp only [sc0,sc1]
 refine run_nil<|norm_then ?_
 obtain ⟨xx1,H,G1⟩:=of_bind H
 refine loop_j [0,8,15,16,17,18,19,20,21,22,23] (fun m us w'=>∃y1_0:Int,∃y1_1:List Int,∃(oby1_1:Option Nat) (cy1_1:Nat),∃csy1_1:List Value,∃fry1_1:Nat×Nat,Fit us (fun uy1=>[vL (rowA oby1_1) y1_1.length cy1_1,(uy1 1),vI y1_0,(uy1 3),(uy1 4),(uy1 5),(uy1 6),(uy1 7),(uy1 8),(uy1 9),(uy1 10)])∧ctf_putList_api_Field.l0 k a1 m y1_0 y1_1=some xx1∧FrOk fry1_1 csy1_1.length∧RowOk (Kd.int .u8) h y1_1 oby1_1 y1_1.length cy1_1 csy1_1∧St [] h0 w0 h ((oby1_1, .cells (csy1_1).toArray 5 fry1_1)::rest) w') (fun us w'=>∃(obo1_0:Option Nat) (co1_0:Nat),∃cso1_0:List Value,∃fro1_0:Nat×Nat,Fit us (fun uo1=>[vL (rowA obo1_0) xx1.length co1_0,(uo1 1),(uo1 2),(uo1 3),(uo1 4),(uo1 5),(uo1 6),(uo1 7),(uo1 8),(uo1 9),(uo1 10)])∧FrOk fro1_0 cso1_0.length∧RowOk (Kd.int .u8) h xx1 obo1_0 xx1.length co1_0 cso1_0∧St [] h0 w0 h ((obo1_0, .cells (cso1_0).toArray 5 fro1_0)::rest) w') k ⟨0,v1,obv1_a0,cv1_a0,csv1_a0,frv1_a0,(fit rfl),H,hfv1_a0,hov1_a0.norm,HS1⟩ ?_ ?_
 ·rintro m us w2 ⟨y1_0,y1_1,oby1_1,cy1_1,csy1_1,fry1_1,huy1,H,hfy1_1,hoy1_1,HS2⟩
  obtain ⟨uy1,rfl⟩:=unj huy1
  cases m with
  |zero=>exact absurd H (by simp [ctf_putList_api_Field.l0])
  |succ m=>
   rw [ctf_putList_api_Field.l0] at H
   try simp only [patch,sc0,sc1]
   refine wp_seq<|region<|rs (vB (decide (y1_0<(a1.length:Int)))) (r_bin rfl rfl rfl) ?_
   try simp only [sc0,sc1]
   refine run_nil<|norm_then<|wp_seq<|wp_cond_split (t:=(decide (y1_0<(a1.length:Int)))) rfl (fun c1=>?_) (fun c1=>?_)
   ·replace H:=of_pos H c1
    refine wp_skip<|norm_then<|wp_seq<|wp_block<|wp_seq<|region ?_
    obtain ⟨hi1,H⟩:=of_ite H
    obtain ⟨ad1,e1,hel1⟩:=ld_api_Field hr1_0 hi1.1 hi1.2
    refine rs (Value.pointer (some (Addr.add ad1 (y1_0.toNat*3)))) (r_indexA (sz:=3) rfl e1 rfl hi1.1 hi1.2 Tryd.runUnderlying32 Tryd.sizeOf36)<|rs (Value.agg #[vS ((rd z_api_Field a1 y1_0).vName),vI ((rd z_api_Field a1 y1_0).vType),vI ((rd z_api_Field a1 y1_0).vAt)]) (r_loadAgg rfl Tryd.isAgg36 (hel1.sees HS2.sees) Tryd.sizeOf36)<|run_ex rfl rfl (does_alloc (cs:=#[vS ByteArray.empty,vI 0,vI 0]) Tryd.zeroValue36 rfl) ?_
    rintro w3 _ hE1 ⟨b1,rfl,ge1,hb1⟩
    have HS3:=HS2.new hE1 ge1 hb1
    refine run_st (i:=0) (cs:=[vS ByteArray.empty,vI 0,vI 0]) (cs':=[vS ((rd z_api_Field a1 y1_0).vName),vI ((rd z_api_Field a1 y1_0).vType),vI ((rd z_api_Field a1 y1_0).vAt)]) (vs:=[vS ((rd z_api_Field a1 y1_0).vName),vI ((rd z_api_Field a1 y1_0).vType),vI ((rd z_api_Field a1 y1_0).vAt)]) (bs':=((some b1, .cells #[vS ((rd z_api_Field a1 y1_0).vName),vI ((rd z_api_Field a1 y1_0).vType),vI ((rd z_api_Field a1 y1_0).vAt)] 36 (0,0))::(oby1_1, .cells (csy1_1).toArray 5 fry1_1)::rest)) rfl rfl Tryd.sizeOf36 rfl rfl (by decide) rfl HS3 rfl (Nat.le_of_ble_eq_true rfl) rfl rfl ?_
    intro w4 HS4
    try simp only [sc0,sc1]
    refine run_nil<|norm_then<|region<|rs (Value.func (.func 109) #[] #[]) (r_move rfl)<|rs (vL (rowA oby1_1) y1_1.length cy1_1) (r_move rfl)<|rs (Value.agg #[vS ((rd z_api_Field a1 y1_0).vName),vI ((rd z_api_Field a1 y1_0).vType),vI ((rd z_api_Field a1 y1_0).vAt)]) (r_loadBoxAgg (n:=3) (vs:=[vS ((rd z_api_Field a1 y1_0).vName),vI ((rd z_api_Field a1 y1_0).vType),vI ((rd z_api_Field a1 y1_0).vAt)]) rfl Tryd.isAgg36 (HS4.look 0 rfl) Tryd.sizeOf36 rfl rfl) ?_
    obtain ⟨v2,H2,H⟩:=of_bind H
    have HS5:=HS4.f1
    refine run_call (vs:=[vL (rowA oby1_1) y1_1.length cy1_1,Value.agg #[vS ((rd z_api_Field a1 y1_0).vName),vI ((rd z_api_Field a1 y1_0).vType),vI ((rd z_api_Field a1 y1_0).vAt)]]) (caps:=[]) Tryd.call109 rfl rfl (ctf_putField.calls k y1_1 (rd z_api_Field a1 y1_0) oby1_1 cy1_1 csy1_1 fry1_1 HS5 hoy1_1 hfy1_1 H2) ?_
    rintro _ w5 ⟨obv2_a0,cv2_a0,csv2_a0,frv2_a0,rfl,hfv2_a0,hov2_a0,HS6⟩
    refine ⟨_,rfl,?_⟩
    have HS7:=HS6.f1
    refine run_frame (by simp only [sc0,sc1];rfl) ?_
    refine rs (vL (rowA obv2_a0) v2.length cv2_a0) (r_assign rfl) ?_
    try simp only [sc0,sc1]
    refine run_nil<|norm_block<|norm_then<|region<|rs (vI (w64 (y1_0+1))) (r_bin rfl rfl rfl)<|rs (vI (w64 (y1_0+1))) (r_move rfl) ?_
    try simp only [sc0,sc1]
    refine run_nil<|again_j m (Nat.lt_succ_self m) rfl ⟨(w64 (y1_0+1)),v2,obv2_a0,cv2_a0,csv2_a0,frv2_a0,(fit rfl),H,hfv2_a0,hov2_a0.norm,HS7.tail⟩
   ·replace H:=of_neg H (nt c1)
    refine wp_exit<|exit_then ?_
    obtain rfl:=Option.some.inj H
    refine leave_j rfl ⟨oby1_1,cy1_1,csy1_1,fry1_1,(fit rfl),hfy1_1,hoy1_1.norm,HS2⟩
 ·rintro us w6 ⟨obo1_0,co1_0,cso1_0,fro1_0,huo1,hfo1_0,hoo1_0,HS8⟩
  obtain ⟨uo1,rfl⟩:=unj huo1
  replace H:=G1
  clear G1
  try simp only [patch,sc0,sc1]
  refine norm_then<|wp_seq<|region<|rs (vL (rowA obo1_0) xx1.length co1_0) (r_move rfl)<|rs (vL (rowA obo1_0) xx1.length co1_0) (r_assign rfl) ?_
  try simp only [sc0,sc1]
  refine run_nil<|norm_then<|wp_ret ?_
  obtain rfl:=Option.some.inj H
  exact bodyPost_ret (results_1 rfl (one_tmp rfl)) rfl<|⟨obo1_0,co1_0,cso1_0,fro1_0,rfl,hfo1_0,hoo1_0,HS8⟩
def ctf_putDef.f (k:Nat) (a0:List Int) (a1:api_Def):Option ((List Int)):=(ctf_put.f k a0 a1.vKind).bind fun v1=>((ctf_putString.f k v1 a1.vName).bind fun v2=>((ctf_put.f k v2 a1.vInt.vSize).bind fun v3=>(((if a1.vInt.vSigned=true then (if v3.length+1≤4294967296 then (some (v3++([1]:List Int))) else none) else (if v3.length+1≤4294967296 then (some (v3++([0]:List Int))) else none)):Option ((List Int))).bind fun xx1=>((ctf_put.f k xx1 a1.vRef).bind fun v4=>((ctf_put.f k v4 a1.vN).bind fun v5=>((ctf_putList_api_Field.f k v5 a1.vFields).bind fun v6=>(some v6)))))))
theorem ctf_putDef.calls (k:Nat) (a0:List Int) (a1:api_Def) (oba0:Option Nat) (ca0:Nat) (csa0:List Value) (fra0:Nat×Nat) (A1_6:Option Addr) (c1_6:Nat) {h0:View} {w0:World} {h:View} {w:World} {rest:List Res} (HS:St [] h0 w0 h ((oba0, .cells (csa0).toArray 5 fra0)::rest) w) (hoa0:RowOk (Kd.int .u8) h a0 oba0 a0.length ca0 csa0) (hfa0:FrOk fra0 csa0.length) (hr1_6:Rd k_api_Field h A1_6 a1.vFields) (hc1_6:a1.vFields.length≤c1_6) {r:(List Int)} (H:ctf_putDef.f k a0 a1=some r):Calls Tryd.prog 70 #[vL (rowA oba0) a0.length ca0,Value.agg #[vI a1.vKind,vS a1.vName,vI a1.vInt.vSize,vB a1.vInt.vSigned,vI a1.vRef,vI a1.vN,vL A1_6 a1.vFields.length c1_6]] w (fun e w1=>∃(obz_a0:Option Nat) (cz_a0:Nat) (csz_a0:List Value),∃(frz_a0:Nat×Nat),e= .returned (vL (rowA obz_a0) r.length cz_a0)∧FrOk frz_a0 csz_a0.length∧RowOk (Kd.int .u8) h r obz_a0 r.length cz_a0 csz_a0∧St [] h0 w0 h ((obz_a0, .cells (csz_a0).toArray 5 frz_a0)::rest) w1):=by
 unfold ctf_putDef.f at H
 have hsub:Sub h h:=Sub.rfl' h
 go_enter Tryd.func70,Tryd.ntmps70
 refine wp_seq<|region<|run_ex rfl rfl (does_box (cs:=#[vI a1.vKind,vS a1.vName,vI a1.vInt.vSize,vB a1.vInt.vSigned,vI a1.vRef,vI a1.vN,vL A1_6 a1.vFields.length c1_6]) rfl rfl) ?_
 rintro w1 _ hE1 ⟨b1,rfl,ge1,hb1⟩
 have HS1:=HS.new hE1 ge1 hb1
 refine rs (vL none 0 0) (r_assign rfl) ?_
 try simp only [sc0,sc1]
 refine run_nil<|norm_then<|wp_seq<|drawn_chain [([5,6,7,9,10,12,13,14],[0,1,2,4,5,7,8,9]),([],[4,5,7,8,9]),([],[7,8,9]),([0],[11])] [3,6,10] [[],[],[1],[0,1,2],[],[4],[0,1,2,3,4,5],[],[7],[7,8],[0,1,2,3,4,5,6,7,8,9],[0,1,2,3,4,5,6,7,8,9,10]] hmix (by kernel_rfl) ?_
 intro w2 hE2
 have HS2:=HS1.step hE2
 refine chain_eff [vL (rowA oba0) a0.length ca0,vP b1 0,vI a1.vKind,vP b1 1,vS a1.vName,vP b1 2,vP b1 2,vI a1.vInt.vSize] ?_ rfl rfl ?_
 ·try simp only [patch,sc0,sc1]
  exact allg_cons (good_same (v:=vL (rowA oba0) a0.length ca0) rfl rfl rfl rfl (r_move rfl)) (allg_cons (good_same (v:=vP b1 0) rfl rfl rfl rfl (r_fieldBox (n:=1) (o':=0) rfl Tryd.runUnderlying34 rfl Tryd.sizeOf3 (by decide) rfl)) (allg_cons (good_same (v:=vI a1.vKind) rfl rfl rfl rfl (r_loadBox rfl Tryd.isAgg3 (HS2.look 0 rfl) rfl)) (allg_cons (good_same (v:=vP b1 1) rfl rfl rfl rfl (r_fieldBox (n:=1) (o':=1) rfl Tryd.runUnderlying34 rfl Tryd.sizeOf9 (by decide) rfl)) (allg_cons (good_same (v:=vS a1.vName) rfl rfl rfl rfl (r_loadBox rfl Tryd.isAgg9 (HS2.look 0 rfl) rfl)) (allg_cons (good_same (v:=vP b1 2) rfl rfl rfl rfl (r_fieldBox (n:=2) (o':=2) rfl Tryd.runUnderlying34 rfl Tryd.sizeOf31 (by decide) rfl)) (allg_cons (good_same (v:=vP b1 2) rfl rfl rfl rfl (r_fieldBox (n:=1) (o':=2) rfl Tryd.runUnderlying31 rfl Tryd.sizeOf3 (by decide) rfl)) (allg_cons (good_same (v:=vI a1.vInt.vSize) rfl rfl rfl rfl (r_loadBox rfl Tryd.isAgg3 (HS2.look 0 rfl) rfl)) (allg_nil))))))))
 try simp only [patch,sc0,sc1]
 obtain ⟨v1,H1,H⟩:=of_bind H
 have HS3:=HS2.f1
 refine run_call (vs:=[vL (rowA oba0) a0.length ca0,vI a1.vKind]) (caps:=[]) Tryd.call106 rfl rfl (ctf_put.calls k a0 a1.vKind oba0 ca0 csa0 fra0 HS3 hoa0 hfa0 H1) ?_
 rintro _ w3 ⟨obv1_a0,cv1_a0,csv1_a0,frv1_a0,rfl,hfv1_a0,hov1_a0,HS4⟩
 refine ⟨_,rfl,?_⟩
 have HS5:=HS4.f1
 refine qn_nil ?_
 try simp only [sc0,sc1]
 refine chain_eff [] ?_ rfl rfl ?_
 ·try simp only [patch,sc0,sc1]
  exact allg_cons (good_same (v:=vP b1 1) rfl rfl rfl rfl (r_fieldBox (n:=1) (o':=1) rfl Tryd.runUnderlying34 rfl Tryd.sizeOf9 (by decide) rfl)) (allg_cons (good_same (v:=vS a1.vName) rfl rfl rfl rfl (r_loadBox rfl Tryd.isAgg9 (HS5.look 0 rfl) rfl)) (allg_cons (good_same (v:=vP b1 2) rfl rfl rfl rfl (r_fieldBox (n:=2) (o':=2) rfl Tryd.runUnderlying34 rfl Tryd.sizeOf31 (by decide) rfl)) (allg_cons (good_same (v:=vP b1 2) rfl rfl rfl rfl (r_fieldBox (n:=1) (o':=2) rfl Tryd.runUnderlying31 rfl Tryd.sizeOf3 (by decide) rfl)) (allg_cons (good_same (v:=vI a1.vInt.vSize) rfl rfl rfl rfl (r_loadBox rfl Tryd.isAgg3 (HS5.look 0 rfl) rfl)) (allg_nil)))))
 try simp only [patch,sc0,sc1]
 obtain ⟨v2,H2,H⟩:=of_bind H
 have HS6:=HS5.f1
 refine run_call (vs:=[vL (rowA obv1_a0) v1.length cv1_a0,vS a1.vName]) (caps:=[]) Tryd.call107 rfl rfl (ctf_putString.calls k v1 a1.vName obv1_a0 cv1_a0 csv1_a0 frv1_a0 HS6 hov1_a0 hfv1_a0 H2) ?_
 rintro _ w4 ⟨obv2_a0,cv2_a0,csv2_a0,frv2_a0,rfl,hfv2_a0,hov2_a0,HS7⟩
 refine ⟨_,rfl,?_⟩
 have HS8:=HS7.f1
 refine qn_nil ?_
 try simp only [sc0,sc1]
 refine chain_eff [] ?_ rfl rfl ?_
 ·try simp only [patch,sc0,sc1]
  exact allg_cons (good_same (v:=vP b1 2) rfl rfl rfl rfl (r_fieldBox (n:=2) (o':=2) rfl Tryd.runUnderlying34 rfl Tryd.sizeOf31 (by decide) rfl)) (allg_cons (good_same (v:=vP b1 2) rfl rfl rfl rfl (r_fieldBox (n:=1) (o':=2) rfl Tryd.runUnderlying31 rfl Tryd.sizeOf3 (by decide) rfl)) (allg_cons (good_same (v:=vI a1.vInt.vSize) rfl rfl rfl rfl (r_loadBox rfl Tryd.isAgg3 (HS8.look 0 rfl) rfl)) (allg_nil)))
 try simp only [patch,sc0,sc1]
 obtain ⟨v3,H3,H⟩:=of_bind H
 have HS9:=HS8.f1
 refine run_call (vs:=[vL (rowA obv2_a0) v2.length cv2_a0,vI a1.vInt.vSize]) (caps:=[]) Tryd.call106 rfl rfl (ctf_put.calls k v2 a1.vInt.vSize obv2_a0 cv2_a0 csv2_a0 frv2_a0 HS9 hov2_a0 hfv2_a0 H3) ?_
 rintro _ w5 ⟨obv3_a0,cv3_a0,csv3_a0,frv3_a0,rfl,hfv3_a0,hov3_a0,HS10⟩
 refine ⟨_,rfl,?_⟩
 have HS11:=HS10.f1
 refine qn_nil ?_
 try simp only [sc0,sc1]
 refine chain_last [vL (rowA obv3_a0) v3.length cv3_a0] ?_ ?_
 ·try simp only [patch,sc0,sc1]
  exact allg_cons (good_same (v:=vL (rowA obv3_a0) v3.length cv3_a0) rfl rfl rfl rfl (r_assign rfl)) (allg_nil)
 try simp only [patch,sc0,sc1]
 refine norm_then<|wp_seq<|wp_seq<|region<|rs (vP b1 2) (r_fieldBox (n:=2) (o':=2) rfl Tryd.runUnderlying34 rfl Tryd.sizeOf31 (by decide) rfl)<|rs (vP b1 3) (r_fieldBox (n:=1) (o':=3) rfl Tryd.runUnderlying31 rfl Tryd.sizeOf4 (by decide) rfl)<|rs (vB a1.vInt.vSigned) (r_loadBox rfl Tryd.isAgg4 (HS11.look 0 rfl) rfl) ?_
 try simp only [sc0,sc1]
 refine run_nil<|norm_then ?_
 obtain ⟨xx1,H,G1⟩:=of_bind H
 refine cut_patch [0,19,20,21,22,23,24] (fun us w'=>∃(obj1_0:Option Nat) (cj1_0:Nat),∃csj1_0:List Value,∃frj1_0:Nat×Nat,Fit us (fun uj1=>[vL (rowA obj1_0) xx1.length cj1_0,(uj1 1),(uj1 2),(uj1 3),(uj1 4),(uj1 5),(uj1 6)])∧FrOk frj1_0 csj1_0.length∧RowOk (Kd.int .u8) h xx1 obj1_0 xx1.length cj1_0 csj1_0∧St [] h0 w0 h ((some b1, .cells #[vI a1.vKind,vS a1.vName,vI a1.vInt.vSize,vB a1.vInt.vSigned,vI a1.vRef,vI a1.vN,vL A1_6 a1.vFields.length c1_6] 34 (0,0))::(obj1_0, .cells (csj1_0).toArray 5 frj1_0)::rest) w') ?_ ?_
 ·refine wp_cond_split (t:=a1.vInt.vSigned) rfl (fun c1=>?_) (fun c1=>?_)
  ·replace H:=of_pos H c1
   refine region<|rs (vL (rowA obv3_a0) v3.length cv3_a0) (r_move rfl)<|run_bs (Kd.int .u8) (xs:=([1]:List Int)) (n:=1) (cs:=[Value.int .u8 1]) Tryd.runUnderlying80 Tryd.typeInfo5 Tryd.zeroValue5 rfl rfl (by decide) (by decide) (by decide) [Value.int .u8 1] (parts_any.trans rfl) rfl rfl rfl rfl (elems_cons (qs:=[Value.int .u8 1]) rfl (elems_nil (cs:=[]))) HS11 ?_
   intro w6 b2 HS12 ho1
   obtain ⟨hl1,H⟩:=of_ite H
   refine run_appf (Kd.int .u8) (q:=2) (cs:=csv3_a0) rfl rfl Tryd.runUnderlying80 Tryd.typeInfo5 Tryd.zeroValue5 rfl (by decide) rfl (src_row Tryd.runUnderlying80 HS12 (i:=0) rfl ho1 rfl) ho1.len (src_row_elems ho1) hl1 HS12 rfl hfv3_a0 hov3_a0 ?_
   rintro w7 ob1 c2 cs1 fr1 ⟨hf1,_⟩ HS13 ho2
   refine rs (vL (rowA ob1) (v3.length+1) c2) (r_assign rfl) ?_
   try simp only [sc0,sc1]
   refine run_nil ?_
   obtain rfl:=Option.some.inj H
   refine met_j rfl ⟨ob1,c2,cs1,fr1,(fit (by first|rfl|(rw [ho2.len];done)|(rw [ho2.len];rfl))),hf1,ho2.norm,HS13.tail⟩
  ·replace H:=of_neg H (nt c1)
   refine region<|rs (vL (rowA obv3_a0) v3.length cv3_a0) (r_move rfl)<|run_bs (Kd.int .u8) (xs:=([0]:List Int)) (n:=1) (cs:=[Value.int .u8 0]) Tryd.runUnderlying80 Tryd.typeInfo5 Tryd.zeroValue5 rfl rfl (by decide) (by decide) (by decide) [Value.int .u8 0] (parts_any.trans rfl) rfl rfl rfl rfl (elems_cons (qs:=[Value.int .u8 0]) rfl (elems_nil (cs:=[]))) HS11 ?_
   intro w8 b3 HS14 ho3
   obtain ⟨hl2,H⟩:=of_ite H
   refine run_appf (Kd.int .u8) (q:=2) (cs:=csv3_a0) rfl rfl Tryd.runUnderlying80 Tryd.typeInfo5 Tryd.zeroValue5 rfl (by decide) rfl (src_row Tryd.runUnderlying80 HS14 (i:=0) rfl ho3 rfl) ho3.len (src_row_elems ho3) hl2 HS14 rfl hfv3_a0 hov3_a0 ?_
   rintro w9 ob2 c3 cs2 fr2 ⟨hf2,_⟩ HS15 ho4
   refine rs (vL (rowA ob2) (v3.length+1) c3) (r_assign rfl) ?_
   try simp only [sc0,sc1]
   refine run_nil ?_
   obtain rfl:=Option.some.inj H
   refine met_j rfl ⟨ob2,c3,cs2,fr2,(fit (by first|rfl|(rw [ho4.len];done)|(rw [ho4.len];rfl))),hf2,ho4.norm,HS15.tail⟩
 ·rintro us w10 ⟨obj1_0,cj1_0,csj1_0,frj1_0,huj1,hfj1_0,hoj1_0,HS16⟩
  obtain ⟨uj1,rfl⟩:=unj huj1
  replace H:=G1
  clear G1
  try simp only [patch,sc0,sc1]
  refine wp_seq<|drawn_chain [([25,26,27,29,30,32,33],[0,1,2,4,5,7,8]),([],[4,5,7,8]),([],[7,8]),([4],[10])] [3,6,9] [[],[],[1],[0,1,2],[],[4],[0,1,2,3,4,5],[],[7],[0,1,2,3,4,5,6,7,8],[0,1,2,3,4,5,6,7,8,9]] hmix (by kernel_rfl) ?_
  intro w11 hE3
  have HS17:=HS16.step hE3
  refine chain_eff [vL (rowA obj1_0) xx1.length cj1_0,vP b1 4,vI a1.vRef,vP b1 5,vI a1.vN,vP b1 6,vL A1_6 a1.vFields.length c1_6] ?_ rfl rfl ?_
  ·try simp only [patch,sc0,sc1]
   exact allg_cons (good_same (v:=vL (rowA obj1_0) xx1.length cj1_0) rfl rfl rfl rfl (r_move rfl)) (allg_cons (good_same (v:=vP b1 4) rfl rfl rfl rfl (r_fieldBox (n:=1) (o':=4) rfl Tryd.runUnderlying34 rfl Tryd.sizeOf3 (by decide) rfl)) (allg_cons (good_same (v:=vI a1.vRef) rfl rfl rfl rfl (r_loadBox rfl Tryd.isAgg3 (HS17.look 0 rfl) rfl)) (allg_cons (good_same (v:=vP b1 5) rfl rfl rfl rfl (r_fieldBox (n:=1) (o':=5) rfl Tryd.runUnderlying34 rfl Tryd.sizeOf3 (by decide) rfl)) (allg_cons (good_same (v:=vI a1.vN) rfl rfl rfl rfl (r_loadBox rfl Tryd.isAgg3 (HS17.look 0 rfl) rfl)) (allg_cons (good_same (v:=vP b1 6) rfl rfl rfl rfl (r_fieldBox (n:=1) (o':=6) rfl Tryd.runUnderlying34 rfl Tryd.sizeOf32 (by decide) rfl)) (allg_cons (good_same (v:=vL A1_6 a1.vFields.length c1_6) rfl rfl rfl rfl (r_loadBox rfl Tryd.isAgg32 (HS17.look 0 rfl) rfl)) (allg_nil)))))))
  try simp only [patch,sc0,sc1]
  obtain ⟨v4,H4,H⟩:=of_bind H
  have HS18:=HS17.f1
  refine run_call (vs:=[vL (rowA obj1_0) xx1.length cj1_0,vI a1.vRef]) (caps:=[]) Tryd.call106 rfl rfl (ctf_put.calls k xx1 a1.vRef obj1_0 cj1_0 csj1_0 frj1_0 HS18 hoj1_0 hfj1_0 H4) ?_
  rintro _ w12 ⟨obv4_a0,cv4_a0,csv4_a0,frv4_a0,rfl,hfv4_a0,hov4_a0,HS19⟩
  refine ⟨_,rfl,?_⟩
  have HS20:=HS19.f1
  refine qn_nil ?_
  try simp only [sc0,sc1]
  refine chain_eff [] ?_ rfl rfl ?_
  ·try simp only [patch,sc0,sc1]
   exact allg_cons (good_same (v:=vP b1 5) rfl rfl rfl rfl (r_fieldBox (n:=1) (o':=5) rfl Tryd.runUnderlying34 rfl Tryd.sizeOf3 (by decide) rfl)) (allg_cons (good_same (v:=vI a1.vN) rfl rfl rfl rfl (r_loadBox rfl Tryd.isAgg3 (HS20.look 0 rfl) rfl)) (allg_cons (good_same (v:=vP b1 6) rfl rfl rfl rfl (r_fieldBox (n:=1) (o':=6) rfl Tryd.runUnderlying34 rfl Tryd.sizeOf32 (by decide) rfl)) (allg_cons (good_same (v:=vL A1_6 a1.vFields.length c1_6) rfl rfl rfl rfl (r_loadBox rfl Tryd.isAgg32 (HS20.look 0 rfl) rfl)) (allg_nil))))
  try simp only [patch,sc0,sc1]
  obtain ⟨v5,H5,H⟩:=of_bind H
  have HS21:=HS20.f1
  refine run_call (vs:=[vL (rowA obv4_a0) v4.length cv4_a0,vI a1.vN]) (caps:=[]) Tryd.call106 rfl rfl (ctf_put.calls k v4 a1.vN obv4_a0 cv4_a0 csv4_a0 frv4_a0 HS21 hov4_a0 hfv4_a0 H5) ?_
  rintro _ w13 ⟨obv5_a0,cv5_a0,csv5_a0,frv5_a0,rfl,hfv5_a0,hov5_a0,HS22⟩
  refine ⟨_,rfl,?_⟩
  have HS23:=HS22.f1
  refine qn_nil ?_
  try simp only [sc0,sc1]
  refine chain_eff [] ?_ rfl rfl ?_
  ·try simp only [patch,sc0,sc1]
   exact allg_cons (good_same (v:=vP b1 6) rfl rfl rfl rfl (r_fieldBox (n:=1) (o':=6) rfl Tryd.runUnderlying34 rfl Tryd.sizeOf32 (by decide) rfl)) (allg_cons (good_same (v:=vL A1_6 a1.vFields.length c1_6) rfl rfl rfl rfl (r_loadBox rfl Tryd.isAgg32 (HS23.look 0 rfl) rfl)) (allg_nil))
  try simp only [patch,sc0,sc1]
  obtain ⟨v6,H6,H⟩:=of_bind H
  have HS24:=HS23.f1
  refine run_call (vs:=[vL (rowA obv5_a0) v5.length cv5_a0,vL A1_6 a1.vFields.length c1_6,Value.func (.func 109) #[] #[]]) (caps:=[]) Tryd.call108 rfl rfl (ctf_putList_api_Field.calls k v5 a1.vFields obv5_a0 cv5_a0 csv5_a0 frv5_a0 A1_6 c1_6 HS24 hov5_a0 hfv5_a0 hr1_6 hc1_6 H6) ?_
  rintro _ w14 ⟨obv6_a0,cv6_a0,csv6_a0,frv6_a0,rfl,hfv6_a0,hov6_a0,HS25⟩
  refine ⟨_,rfl,?_⟩
  have HS26:=HS25.f1
  refine qn_nil ?_
  try simp only [sc0,sc1]
  refine chain_last [vL (rowA obv6_a0) v6.length cv6_a0] ?_ ?_
  ·try simp only [patch,sc0,sc1]
   exact allg_cons (good_same (v:=vL (rowA obv6_a0) v6.length cv6_a0) rfl rfl rfl rfl (r_assign rfl)) (allg_nil)
  try simp only [patch,sc0,sc1]
  refine norm_then<|wp_ret ?_
  obtain rfl:=Option.some.inj H
  refine bodyPost_ret (results_1 rfl (one_tmp rfl)) rfl ?_
  have HS27:=HS26.d0
  exact ⟨obv6_a0,cv6_a0,csv6_a0,frv6_a0,rfl,hfv6_a0,hov6_a0,HS27⟩
def ctf_putList_api_Def.l0 (k:Nat) (a1:List api_Def):Nat→Int→(List Int)→Option ((List Int))
 |0,_,_=>none
 |m+1,y1_0,y1_1=>if (decide (y1_0<(a1.length:Int)))=true then (if 0≤y1_0∧y1_0<a1.length then ((ctf_putDef.f k y1_1 (rd z_api_Def a1 y1_0)).bind fun v2=>(ctf_putList_api_Def.l0 k a1 m (IntKind.wrap .i64 (y1_0+1)) v2)) else none) else (some y1_1)
def ctf_putList_api_Def.f (k:Nat) (a0:List Int) (a1:List api_Def):Option ((List Int)):=(ctf_put.f k a0 (a1.length:Int)).bind fun v1=>((ctf_putList_api_Def.l0 k a1 k 0 v1).bind fun xx1=>(some xx1))
theorem ctf_putList_api_Def.calls (k:Nat) (a0:List Int) (a1:List api_Def) (oba0:Option Nat) (ca0:Nat) (csa0:List Value) (fra0:Nat×Nat) (A1_0:Option Addr) (c1_0:Nat) {h0:View} {w0:World} {h:View} {w:World} {rest:List Res} (HS:St [] h0 w0 h ((oba0, .cells (csa0).toArray 5 fra0)::rest) w) (hoa0:RowOk (Kd.int .u8) h a0 oba0 a0.length ca0 csa0) (hfa0:FrOk fra0 csa0.length) (hr1_0:Rd k_api_Def h A1_0 a1) (hc1_0:a1.length≤c1_0) {r:(List Int)} (H:ctf_putList_api_Def.f k a0 a1=some r):Calls Tryd.prog 69 #[vL (rowA oba0) a0.length ca0,vL A1_0 a1.length c1_0,Value.func (.func 70) #[] #[]] w (fun e w1=>∃(obz_a0:Option Nat) (cz_a0:Nat) (csz_a0:List Value),∃(frz_a0:Nat×Nat),e= .returned (vL (rowA obz_a0) r.length cz_a0)∧FrOk frz_a0 csz_a0.length∧RowOk (Kd.int .u8) h r obz_a0 r.length cz_a0 csz_a0∧St [] h0 w0 h ((obz_a0, .cells (csz_a0).toArray 5 frz_a0)::rest) w1):=by
 unfold ctf_putList_api_Def.f at H
 have hsub:Sub h h:=Sub.rfl' h
 go_enter Tryd.func69,Tryd.ntmps69
 refine wp_seq<|region<|rs (vL none 0 0) (r_assign rfl) ?_
 try simp only [sc0,sc1]
 refine run_nil<|norm_then<|wp_seq<|region<|rs (vL (rowA oba0) a0.length ca0) (r_move rfl)<|rs (vL A1_0 a1.length c1_0) (r_move rfl)<|rs (vI (a1.length:Int)) (r_len rfl Tryd.runUnderlying22) ?_
 obtain ⟨v1,H1,H⟩:=of_bind H
 refine run_call (vs:=[vL (rowA oba0) a0.length ca0,vI (a1.length:Int)]) (caps:=[]) Tryd.call106 rfl rfl (ctf_put.calls k a0 (a1.length:Int) oba0 ca0 csa0 fra0 HS hoa0 hfa0 H1) ?_
 rintro _ w1 ⟨obv1_a0,cv1_a0,csv1_a0,frv1_a0,rfl,hfv1_a0,hov1_a0,HS1⟩
 refine ⟨_,rfl,?_⟩
 refine run_frame (by simp only [sc0,sc1];rfl) ?_
 refine rs (vL (rowA obv1_a0) v1.length cv1_a0) (r_assign rfl) ?_
 try simp only [sc0,sc1]
 refine run_nil<|norm_then<|wp_seq<|wp_seq<|region<|rs (vL A1_0 a1.length c1_0) (r_move rfl)<|rs (vI (a1.length:Int)) (r_len rfl Tryd.runUnderlying22)<|rs (vI 0) (r_move rfl) ?_
 try simp only [sc0,sc1]
 refine run_nil<|norm_then ?_
 obtain ⟨xx1,H,G1⟩:=of_bind H
 refine loop_j [0,8,15,16,17,18,19,20,21,22,23] (fun m us w'=>∃y1_0:Int,∃y1_1:List Int,∃(oby1_1:Option Nat) (cy1_1:Nat),∃csy1_1:List Value,∃fry1_1:Nat×Nat,Fit us (fun uy1=>[vL (rowA oby1_1) y1_1.length cy1_1,(uy1 1),vI y1_0,(uy1 3),(uy1 4),(uy1 5),(uy1 6),(uy1 7),(uy1 8),(uy1 9),(uy1 10)])∧ctf_putList_api_Def.l0 k a1 m y1_0 y1_1=some xx1∧FrOk fry1_1 csy1_1.length∧RowOk (Kd.int .u8) h y1_1 oby1_1 y1_1.length cy1_1 csy1_1∧St [] h0 w0 h ((oby1_1, .cells (csy1_1).toArray 5 fry1_1)::rest) w') (fun us w'=>∃(obo1_0:Option Nat) (co1_0:Nat),∃cso1_0:List Value,∃fro1_0:Nat×Nat,Fit us (fun uo1=>[vL (rowA obo1_0) xx1.length co1_0,(uo1 1),(uo1 2),(uo1 3),(uo1 4),(uo1 5),(uo1 6),(uo1 7),(uo1 8),(uo1 9),(uo1 10)])∧FrOk fro1_0 cso1_0.length∧RowOk (Kd.int .u8) h xx1 obo1_0 xx1.length co1_0 cso1_0∧St [] h0 w0 h ((obo1_0, .cells (cso1_0).toArray 5 fro1_0)::rest) w') k ⟨0,v1,obv1_a0,cv1_a0,csv1_a0,frv1_a0,(fit rfl),H,hfv1_a0,hov1_a0.norm,HS1⟩ ?_ ?_
 ·rintro m us w2 ⟨y1_0,y1_1,oby1_1,cy1_1,csy1_1,fry1_1,huy1,H,hfy1_1,hoy1_1,HS2⟩
  obtain ⟨uy1,rfl⟩:=unj huy1
  cases m with
  |zero=>exact absurd H (by simp [ctf_putList_api_Def.l0])
  |succ m=>
   rw [ctf_putList_api_Def.l0] at H
   try simp only [patch,sc0,sc1]
   refine wp_seq<|region<|rs (vB (decide (y1_0<(a1.length:Int)))) (r_bin rfl rfl rfl) ?_
   try simp only [sc0,sc1]
   refine run_nil<|norm_then<|wp_seq<|wp_cond_split (t:=(decide (y1_0<(a1.length:Int)))) rfl (fun c1=>?_) (fun c1=>?_)
   ·replace H:=of_pos H c1
    refine wp_skip<|norm_then<|wp_seq<|wp_block<|wp_seq<|region ?_
    obtain ⟨hi1,H⟩:=of_ite H
    obtain ⟨ad1,Aad1_6,cad1_6,e1,hel1,hcad1_6,hrad1_6⟩:=ld_api_Def hr1_0 hi1.1 hi1.2
    refine rs (Value.pointer (some (Addr.add ad1 (y1_0.toNat*7)))) (r_indexA (sz:=7) rfl e1 rfl hi1.1 hi1.2 Tryd.runUnderlying22 Tryd.sizeOf34)<|rs (Value.agg #[vI ((rd z_api_Def a1 y1_0).vKind),vS ((rd z_api_Def a1 y1_0).vName),vI ((rd z_api_Def a1 y1_0).vInt.vSize),vB ((rd z_api_Def a1 y1_0).vInt.vSigned),vI ((rd z_api_Def a1 y1_0).vRef),vI ((rd z_api_Def a1 y1_0).vN),vL Aad1_6 ((rd z_api_Def a1 y1_0).vFields).length cad1_6]) (r_loadAgg rfl Tryd.isAgg34 (hel1.sees HS2.sees) Tryd.sizeOf34)<|run_ex rfl rfl (does_alloc (cs:=#[vI 0,vS ByteArray.empty,vI 0,vB false,vI 0,vI 0,vL none 0 0]) Tryd.zeroValue34 rfl) ?_
    rintro w3 _ hE1 ⟨b1,rfl,ge1,hb1⟩
    have HS3:=HS2.new hE1 ge1 hb1
    refine run_st (i:=0) (cs:=[vI 0,vS ByteArray.empty,vI 0,vB false,vI 0,vI 0,vL none 0 0]) (cs':=[vI ((rd z_api_Def a1 y1_0).vKind),vS ((rd z_api_Def a1 y1_0).vName),vI ((rd z_api_Def a1 y1_0).vInt.vSize),vB ((rd z_api_Def a1 y1_0).vInt.vSigned),vI ((rd z_api_Def a1 y1_0).vRef),vI ((rd z_api_Def a1 y1_0).vN),vL Aad1_6 ((rd z_api_Def a1 y1_0).vFields).length cad1_6]) (vs:=[vI ((rd z_api_Def a1 y1_0).vKind),vS ((rd z_api_Def a1 y1_0).vName),vI ((rd z_api_Def a1 y1_0).vInt.vSize),vB ((rd z_api_Def a1 y1_0).vInt.vSigned),vI ((rd z_api_Def a1 y1_0).vRef),vI ((rd z_api_Def a1 y1_0).vN),vL Aad1_6 ((rd z_api_Def a1 y1_0).vFields).length cad1_6]) (bs':=((some b1, .cells #[vI ((rd z_api_Def a1 y1_0).vKind),vS ((rd z_api_Def a1 y1_0).vName),vI ((rd z_api_Def a1 y1_0).vInt.vSize),vB ((rd z_api_Def a1 y1_0).vInt.vSigned),vI ((rd z_api_Def a1 y1_0).vRef),vI ((rd z_api_Def a1 y1_0).vN),vL Aad1_6 ((rd z_api_Def a1 y1_0).vFields).length cad1_6] 34 (0,0))::(oby1_1, .cells (csy1_1).toArray 5 fry1_1)::rest)) rfl rfl Tryd.sizeOf34 rfl rfl (by decide) rfl HS3 rfl (Nat.le_of_ble_eq_true rfl) rfl rfl ?_
    intro w4 HS4
    try simp only [sc0,sc1]
    refine run_nil<|norm_then<|region<|rs (Value.func (.func 70) #[] #[]) (r_move rfl)<|rs (vL (rowA oby1_1) y1_1.length cy1_1) (r_move rfl)<|rs (Value.agg #[vI ((rd z_api_Def a1 y1_0).vKind),vS ((rd z_api_Def a1 y1_0).vName),vI ((rd z_api_Def a1 y1_0).vInt.vSize),vB ((rd z_api_Def a1 y1_0).vInt.vSigned),vI ((rd z_api_Def a1 y1_0).vRef),vI ((rd z_api_Def a1 y1_0).vN),vL Aad1_6 ((rd z_api_Def a1 y1_0).vFields).length cad1_6]) (r_loadBoxAgg (n:=7) (vs:=[vI ((rd z_api_Def a1 y1_0).vKind),vS ((rd z_api_Def a1 y1_0).vName),vI ((rd z_api_Def a1 y1_0).vInt.vSize),vB ((rd z_api_Def a1 y1_0).vInt.vSigned),vI ((rd z_api_Def a1 y1_0).vRef),vI ((rd z_api_Def a1 y1_0).vN),vL Aad1_6 ((rd z_api_Def a1 y1_0).vFields).length cad1_6]) rfl Tryd.isAgg34 (HS4.look 0 rfl) Tryd.sizeOf34 rfl rfl) ?_
    obtain ⟨v2,H2,H⟩:=of_bind H
    have HS5:=HS4.f1
    refine run_call (vs:=[vL (rowA oby1_1) y1_1.length cy1_1,Value.agg #[vI ((rd z_api_Def a1 y1_0).vKind),vS ((rd z_api_Def a1 y1_0).vName),vI ((rd z_api_Def a1 y1_0).vInt.vSize),vB ((rd z_api_Def a1 y1_0).vInt.vSigned),vI ((rd z_api_Def a1 y1_0).vRef),vI ((rd z_api_Def a1 y1_0).vN),vL Aad1_6 ((rd z_api_Def a1 y1_0).vFields).length cad1_6]]) (caps:=[]) Tryd.call70 rfl rfl (ctf_putDef.calls k y1_1 (rd z_api_Def a1 y1_0) oby1_1 cy1_1 csy1_1 fry1_1 Aad1_6 cad1_6 HS5 hoy1_1 hfy1_1 hrad1_6 hcad1_6 H2) ?_
    rintro _ w5 ⟨obv2_a0,cv2_a0,csv2_a0,frv2_a0,rfl,hfv2_a0,hov2_a0,HS6⟩
    refine ⟨_,rfl,?_⟩
    have HS7:=HS6.f1
    refine run_frame (by simp only [sc0,sc1];rfl) ?_
    refine rs (vL (rowA obv2_a0) v2.length cv2_a0) (r_assign rfl) ?_
    try simp only [sc0,sc1]
    refine run_nil<|norm_block<|norm_then<|region<|rs (vI (w64 (y1_0+1))) (r_bin rfl rfl rfl)<|rs (vI (w64 (y1_0+1))) (r_move rfl) ?_
    try simp only [sc0,sc1]
    refine run_nil<|again_j m (Nat.lt_succ_self m) rfl ⟨(w64 (y1_0+1)),v2,obv2_a0,cv2_a0,csv2_a0,frv2_a0,(fit rfl),H,hfv2_a0,hov2_a0.norm,HS7.tail⟩
   ·replace H:=of_neg H (nt c1)
    refine wp_exit<|exit_then ?_
    obtain rfl:=Option.some.inj H
    refine leave_j rfl ⟨oby1_1,cy1_1,csy1_1,fry1_1,(fit rfl),hfy1_1,hoy1_1.norm,HS2⟩
 ·rintro us w6 ⟨obo1_0,co1_0,cso1_0,fro1_0,huo1,hfo1_0,hoo1_0,HS8⟩
  obtain ⟨uo1,rfl⟩:=unj huo1
  replace H:=G1
  clear G1
  try simp only [patch,sc0,sc1]
  refine norm_then<|wp_seq<|region<|rs (vL (rowA obo1_0) xx1.length co1_0) (r_move rfl)<|rs (vL (rowA obo1_0) xx1.length co1_0) (r_assign rfl) ?_
  try simp only [sc0,sc1]
  refine run_nil<|norm_then<|wp_ret ?_
  obtain rfl:=Option.some.inj H
  exact bodyPost_ret (results_1 rfl (one_tmp rfl)) rfl<|⟨obo1_0,co1_0,cso1_0,fro1_0,rfl,hfo1_0,hoo1_0,HS8⟩
def ctf_Encode.f (k:Nat) (a0:api_Types):Option ((List Int)×Int):=(ctf_valid.f k a0).bind fun v1=>(if (!v1)=true then (some (([]:List Int),80)) else ((ctf_putList_api_Def.f k ([67,84,70,1]:List Int) a0.vDefs).bind fun v2=>(some (v2,0))))
theorem ctf_Encode.calls (k:Nat) (a0:api_Types) (A0_0:Option Addr) (c0_0:Nat) {h0:View} {w0:World} (hv:Sees h0 w0) (hr0_0:Rd k_api_Def h0 A0_0 a0.vDefs) (hc0_0:a0.vDefs.length≤c0_0) {r:(List Int)×Int} (H:ctf_Encode.f k a0=some r):Calls Tryd.prog 37 #[Value.agg #[vL A0_0 a0.vDefs.length c0_0]] w0 (fun e w1=>∃(h1:View) (A0_0:Option Addr) (c0_0:Nat),e= .returned (Value.tuple #[vL A0_0 r.1.length c0_0,vI r.2])∧r.1.length≤c0_0∧Rd (Kd.int .u8) h1 A0_0 r.1∧Gr w0.heap.size h0 h1∧Sees h1 w1∧Ext w0 w1):=by
 unfold ctf_Encode.f at H
 have HS:St [] h0 w0 h0 [] w0:=St.init hv
 go_enter Tryd.func37,Tryd.ntmps37
 refine wp_seq<|region<|run_ex rfl rfl (does_box (cs:=#[vL A0_0 a0.vDefs.length c0_0]) rfl rfl) ?_
 rintro w1 _ hE1 ⟨b1,rfl,ge1,hb1⟩
 have HS1:=HS.new hE1 ge1 hb1
 refine rs (vL none 0 0) (r_assign rfl)<|rs (vI 0) (r_assign rfl) ?_
 try simp only [sc0,sc1]
 refine run_nil<|norm_then<|wp_seq<|wp_seq<|region<|rs (Value.agg #[vL A0_0 a0.vDefs.length c0_0]) (r_loadBoxAgg (n:=1) (vs:=[vL A0_0 a0.vDefs.length c0_0]) rfl Tryd.isAgg24 (HS1.look 0 rfl) Tryd.sizeOf24 rfl rfl) ?_
 obtain ⟨v1,H1,H⟩:=of_bind H
 refine run_eq (v:=vB v1) rfl rfl (does_call_eq Tryd.call47 rfl rfl (ctf_valid.calls k a0 A0_0 c0_0 HS1.sees hr0_0 hc0_0 H1)) ?_
 intro w2 hE2
 have HS2:=HS1.step hE2
 refine rs (vB (!v1)) (r_not rfl) ?_
 try simp only [sc0,sc1]
 refine run_nil<|norm_then<|wp_cond_split (t:=(!v1)) rfl (fun c1=>?_) (fun c1=>?_)
 ·replace H:=of_pos H c1
  refine wp_seq<|region<|rs (vL none 0 0) (r_assign rfl)<|rs (vI 80) (r_assign rfl) ?_
  try simp only [sc0,sc1]
  refine run_nil<|norm_then<|wp_ret<|ret_then ?_
  obtain rfl:=Option.some.inj H
  exact bodyPost_ret (results_2 rfl (one_tmp rfl) (one_tmp rfl)) rfl<|⟨h0,none,0,rfl,(Nat.le_refl 0),(Rd.nil _ _ _),HS2.gr,HS2.sees,HS2.toE⟩
 ·replace H:=of_neg H (nt c1)
  refine wp_skip<|norm_then<|wp_seq<|region<|run_bs (Kd.int .u8) (xs:=([67,84,70,1]:List Int)) (n:=4) (cs:=[Value.int .u8 67,Value.int .u8 84,Value.int .u8 70,Value.int .u8 1]) Tryd.runUnderlying80 Tryd.typeInfo5 Tryd.zeroValue5 rfl rfl (by decide) (by decide) (by decide) [Value.int .u8 67,Value.int .u8 84,Value.int .u8 70,Value.int .u8 1] (parts_any.trans rfl) rfl rfl rfl rfl (elems_cons (qs:=[Value.int .u8 67]) rfl (elems_cons (qs:=[Value.int .u8 84]) rfl (elems_cons (qs:=[Value.int .u8 70]) rfl (elems_cons (qs:=[Value.int .u8 1]) rfl (elems_nil (cs:=[])))))) HS2 ?_
  intro w3 b2 HS3 ho1
  refine Go.M.run_mark (b:=b2) (q:=0) (cs:=[Value.int .u8 67,Value.int .u8 84,Value.int .u8 70,Value.int .u8 1]) rfl rfl Tryd.runUnderlying80 Tryd.runUnderlying5 HS3 rfl ?_
  intro w4 HS4
  refine rs (vP b1 0) (r_fieldBox (n:=1) (o':=0) rfl Tryd.runUnderlying24 rfl Tryd.sizeOf22 (by decide) rfl)<|rs (vL A0_0 a0.vDefs.length c0_0) (r_loadBox rfl Tryd.isAgg22 (HS4.look 1 rfl) rfl)<|run_frame (by simp only [sc0,sc1];rfl) ?_
  obtain ⟨v2,H2,H⟩:=of_bind H
  have ho2:=ho1.norm
  refine run_call (vs:=[vL (rowA (some b2)) (([67,84,70,1]:List Int).length) 4,vL A0_0 a0.vDefs.length c0_0,Value.func (.func 70) #[] #[]]) (caps:=[]) Tryd.call69 rfl (map3 (show _=vL (rowA (some b2)) (([67,84,70,1]:List Int).length) 4 from by first|rfl|(rw [ho1.len];done)|(rw [ho1.len];rfl)) rfl rfl) (ctf_putList_api_Def.calls k ([67,84,70,1]:List Int) a0.vDefs (some b2) 4 [Value.int .u8 67,Value.int .u8 84,Value.int .u8 70,Value.int .u8 1] (List.length ([Value.int .u8 67,Value.int .u8 84,Value.int .u8 70,Value.int .u8 1]),List.length ([Value.int .u8 67,Value.int .u8 84,Value.int .u8 70,Value.int .u8 1])+1) A0_0 c0_0 HS4 ho2 frok_end hr0_0 hc0_0 H2) ?_
  rintro _ w5 ⟨obv2_a0,cv2_a0,csv2_a0,frv2_a0,rfl,hfv2_a0,hov2_a0,HS5⟩
  refine ⟨_,rfl,?_⟩
  refine rs (vL (rowA obv2_a0) v2.length cv2_a0) (r_assign rfl)<|rs (vI 0) (r_assign rfl) ?_
  try simp only [sc0,sc1]
  refine run_nil<|norm_then<|wp_ret ?_
  obtain rfl:=Option.some.inj H
  refine bodyPost_ret (results_2 rfl (one_tmp rfl) (one_tmp rfl)) rfl ?_
  obtain ⟨h1,HS6,hs2,rdp1⟩:=row_pub HS5 (i:=0) rfl hov2_a0
  exact ⟨h1,(rowA obv2_a0),cv2_a0,rfl,hov2_a0.cap,rdp1,HS6.gr,HS6.sees,HS6.toE⟩
def taplinelaw08_sample.f:Option (api_Types):=some (⟨([(⟨1,(⟨#[105,110,116,51,50]⟩:ByteArray),(⟨4,true⟩:api_Int),0,0,[]⟩:api_Def),(⟨4,(⟨#[116,104,114,101,97,100,95,116]⟩:ByteArray),(⟨0,false⟩:api_Int),0,24,([(⟨(⟨#[116,95,116,105,100]⟩:ByteArray),0,0⟩:api_Field),(⟨(⟨#[116,95,110,101,120,116]⟩:ByteArray),2,8⟩:api_Field),(⟨(⟨#[116,95,110,97,109,101]⟩:ByteArray),3,16⟩:api_Field)]:List api_Field)⟩:api_Def),(⟨2,ByteArray.empty,(⟨0,false⟩:api_Int),1,0,[]⟩:api_Def),(⟨3,ByteArray.empty,(⟨0,false⟩:api_Int),4,8,[]⟩:api_Def),(⟨1,(⟨#[99,104,97,114]⟩:ByteArray),(⟨1,true⟩:api_Int),0,0,[]⟩:api_Def)]:List api_Def)⟩:api_Types)
theorem taplinelaw08_sample.calls {h0:View} {w0:World} (hv:Sees h0 w0) {r:api_Types} (H:taplinelaw08_sample.f=some r):Calls Tryd.prog 42 #[] w0 (fun e w1=>∃(h1:View) (A0_0:Option Addr) (c0_0:Nat),e= .returned (Value.agg #[vL A0_0 r.vDefs.length c0_0])∧r.vDefs.length≤c0_0∧Rd k_api_Def h1 A0_0 r.vDefs∧Gr w0.heap.size h0 h1∧Sees h1 w1∧Ext w0 w1):=by
 unfold taplinelaw08_sample.f at H
 have HS:St [] h0 w0 h0 [] w0:=St.init hv
 go_enter Tryd.func42,Tryd.ntmps42
 refine wp_seq<|region<|run_ex rfl rfl (does_alloc (cs:=#[vL none 0 0]) Tryd.zeroValue24 rfl) ?_
 rintro w1 _ hE1 ⟨b1,rfl,ge1,hb1⟩
 have HS1:=HS.new hE1 ge1 hb1
 try simp only [sc0,sc1]
 refine run_nil<|norm_then<|wp_seq<|region<|rs (Value.agg #[vS (⟨#[116,95,116,105,100]⟩:ByteArray),vI 0,vI 0]) (r_build (cs:=[vS (⟨#[116,95,116,105,100]⟩:ByteArray),vI 0,vI 0]) (ps:=[(0,vS (⟨#[116,95,116,105,100]⟩:ByteArray)),(1,vI 0),(2,vI 0)]) Tryd.zeroValue36 Tryd.runUnderlying36 (pl:=#[(0,1),(1,1),(2,1)]) (fun w=>by simp [Tryd.sizeOf3,Tryd.sizeOf9]) (parts_3 (show _=vS (⟨#[116,95,116,105,100]⟩:ByteArray) from rfl) (show _=vI 0 from rfl) (show _=vI 0 from rfl)) rfl) ?_
 refine rs (Value.agg #[vS (⟨#[116,95,110,101,120,116]⟩:ByteArray),vI 2,vI 8]) (r_build (cs:=[vS (⟨#[116,95,110,101,120,116]⟩:ByteArray),vI 2,vI 8]) (ps:=[(0,vS (⟨#[116,95,110,101,120,116]⟩:ByteArray)),(1,vI 2),(2,vI 8)]) Tryd.zeroValue36 Tryd.runUnderlying36 (pl:=#[(0,1),(1,1),(2,1)]) (fun w=>by simp [Tryd.sizeOf3,Tryd.sizeOf9]) (parts_3 (show _=vS (⟨#[116,95,110,101,120,116]⟩:ByteArray) from rfl) (show _=vI 2 from rfl) (show _=vI 8 from rfl)) rfl) ?_
 refine rs (Value.agg #[vS (⟨#[116,95,110,97,109,101]⟩:ByteArray),vI 3,vI 16]) (r_build (cs:=[vS (⟨#[116,95,110,97,109,101]⟩:ByteArray),vI 3,vI 16]) (ps:=[(0,vS (⟨#[116,95,110,97,109,101]⟩:ByteArray)),(1,vI 3),(2,vI 16)]) Tryd.zeroValue36 Tryd.runUnderlying36 (pl:=#[(0,1),(1,1),(2,1)]) (fun w=>by simp [Tryd.sizeOf3,Tryd.sizeOf9]) (parts_3 (show _=vS (⟨#[116,95,110,97,109,101]⟩:ByteArray) from rfl) (show _=vI 3 from rfl) (show _=vI 16 from rfl)) rfl) ?_
 refine run_bs k_api_Field (xs:=([(⟨(⟨#[116,95,116,105,100]⟩:ByteArray),0,0⟩:api_Field),(⟨(⟨#[116,95,110,101,120,116]⟩:ByteArray),2,8⟩:api_Field),(⟨(⟨#[116,95,110,97,109,101]⟩:ByteArray),3,16⟩:api_Field)]:List api_Field)) (n:=3) (cs:=[vS (⟨#[116,95,116,105,100]⟩:ByteArray),vI 0,vI 0,vS (⟨#[116,95,110,101,120,116]⟩:ByteArray),vI 2,vI 8,vS (⟨#[116,95,110,97,109,101]⟩:ByteArray),vI 3,vI 16]) Tryd.runUnderlying32 Tryd.typeInfo36 Tryd.zeroValue36 rfl rfl (by decide) (by decide) (by decide) [Value.agg #[vS (⟨#[116,95,116,105,100]⟩:ByteArray),vI 0,vI 0],Value.agg #[vS (⟨#[116,95,110,101,120,116]⟩:ByteArray),vI 2,vI 8],Value.agg #[vS (⟨#[116,95,110,97,109,101]⟩:ByteArray),vI 3,vI 16]] (parts_any.trans rfl) rfl rfl rfl rfl (elems_cons (qs:=[vS (⟨#[116,95,116,105,100]⟩:ByteArray),vI 0,vI 0]) ⟨[vS (⟨#[116,95,116,105,100]⟩:ByteArray)],[vI 0,vI 0],rfl,rfl,⟨[vI 0],[vI 0],rfl,rfl,rfl⟩⟩ (elems_cons (qs:=[vS (⟨#[116,95,110,101,120,116]⟩:ByteArray),vI 2,vI 8]) ⟨[vS (⟨#[116,95,110,101,120,116]⟩:ByteArray)],[vI 2,vI 8],rfl,rfl,⟨[vI 2],[vI 8],rfl,rfl,rfl⟩⟩ (elems_cons (qs:=[vS (⟨#[116,95,110,97,109,101]⟩:ByteArray),vI 3,vI 16]) ⟨[vS (⟨#[116,95,110,97,109,101]⟩:ByteArray)],[vI 3,vI 16],rfl,rfl,⟨[vI 3],[vI 16],rfl,rfl,rfl⟩⟩ (elems_nil (cs:=[]))))) HS1 ?_
 intro w2 b2 HS2 ho1
 refine run_frame (by simp only [sc0,sc1];rfl) ?_
 refine rs (Value.agg #[vI 4,vS (⟨#[116,104,114,101,97,100,95,116]⟩:ByteArray),vI 0,vB false,vI 0,vI 24,vL (rowA (some b2)) 3 3]) (r_build (cs:=[vI 4,vS (⟨#[116,104,114,101,97,100,95,116]⟩:ByteArray),vI 0,vB false,vI 0,vI 24,vL (rowA (some b2)) 3 3]) (ps:=[(0,vI 4),(1,vS (⟨#[116,104,114,101,97,100,95,116]⟩:ByteArray)),(4,vI 24),(5,vL (rowA (some b2)) 3 3)]) Tryd.zeroValue34 Tryd.runUnderlying34 (pl:=#[(0,1),(1,1),(2,2),(4,1),(5,1),(6,1)]) (fun w=>by simp [Tryd.sizeOf3,Tryd.sizeOf31,Tryd.sizeOf32,Tryd.sizeOf9]) (parts_4 (show _=vI 4 from rfl) (show _=vS (⟨#[116,104,114,101,97,100,95,116]⟩:ByteArray) from rfl) (show _=vI 24 from rfl) (show _=vL (rowA (some b2)) 3 3 from rfl)) rfl) ?_
 refine run_ex rfl rfl (does_alloc (cs:=#[vI 0,vS ByteArray.empty,vI 0,vB false,vI 0,vI 0,vL none 0 0]) Tryd.zeroValue34 rfl) ?_
 rintro w3 _ hE2 ⟨b3,rfl,ge2,hb2⟩
 have HS3:=HS2.new hE2 ge2 hb2
 refine run_st (i:=0) (cs:=[vI 0,vS ByteArray.empty,vI 0,vB false,vI 0,vI 0,vL none 0 0]) (cs':=[vI 4,vS (⟨#[116,104,114,101,97,100,95,116]⟩:ByteArray),vI 0,vB false,vI 0,vI 24,vL (rowA (some b2)) 3 3]) (vs:=[vI 4,vS (⟨#[116,104,114,101,97,100,95,116]⟩:ByteArray),vI 0,vB false,vI 0,vI 24,vL (rowA (some b2)) 3 3]) (bs':=[(some b3, .cells #[vI 4,vS (⟨#[116,104,114,101,97,100,95,116]⟩:ByteArray),vI 0,vB false,vI 0,vI 24,vL (rowA (some b2)) 3 3] 34 (0,0)),((some b2), .cells ([vS (⟨#[116,95,116,105,100]⟩:ByteArray),vI 0,vI 0,vS (⟨#[116,95,110,101,120,116]⟩:ByteArray),vI 2,vI 8,vS (⟨#[116,95,110,97,109,101]⟩:ByteArray),vI 3,vI 16]).toArray 36 (0,0)),(some b1, .cells #[vL none 0 0] 24 (0,0))]) rfl rfl Tryd.sizeOf34 rfl rfl (by decide) rfl HS3 rfl (Nat.le_of_ble_eq_true rfl) rfl rfl ?_
 intro w4 HS4
 try simp only [sc0,sc1]
 refine run_nil<|norm_then<|wp_seq<|region<|rs (Value.agg #[vI 4,vB true]) (r_build (cs:=[vI 4,vB true]) (ps:=[(0,vI 4),(1,vB true)]) Tryd.zeroValue31 Tryd.runUnderlying31 (pl:=#[(0,1),(1,1)]) (fun w=>by simp [Tryd.sizeOf3,Tryd.sizeOf4]) (parts_2 (show _=vI 4 from rfl) (show _=vB true from rfl)) rfl) ?_
 refine rs (Value.agg #[vI 1,vS (⟨#[105,110,116,51,50]⟩:ByteArray),vI 4,vB true,vI 0,vI 0,vL none 0 0]) (r_build (cs:=[vI 1,vS (⟨#[105,110,116,51,50]⟩:ByteArray),vI 4,vB true,vI 0,vI 0,vL none 0 0]) (ps:=[(0,vI 1),(1,vS (⟨#[105,110,116,51,50]⟩:ByteArray)),(2,Value.agg #[vI 4,vB true])]) Tryd.zeroValue34 Tryd.runUnderlying34 (pl:=#[(0,1),(1,1),(2,2),(4,1),(5,1),(6,1)]) (fun w=>by simp [Tryd.sizeOf3,Tryd.sizeOf31,Tryd.sizeOf32,Tryd.sizeOf9]) (parts_3 (show _=vI 1 from rfl) (show _=vS (⟨#[105,110,116,51,50]⟩:ByteArray) from rfl) (show _=Value.agg #[vI 4,vB true] from rfl)) rfl) ?_
 refine rs (Value.agg #[vI 4,vS (⟨#[116,104,114,101,97,100,95,116]⟩:ByteArray),vI 0,vB false,vI 0,vI 24,vL (rowA (some b2)) 3 3]) (r_loadBoxAgg (n:=7) (vs:=[vI 4,vS (⟨#[116,104,114,101,97,100,95,116]⟩:ByteArray),vI 0,vB false,vI 0,vI 24,vL (rowA (some b2)) 3 3]) rfl Tryd.isAgg34 (HS4.look 0 rfl) Tryd.sizeOf34 rfl rfl)<|rs (Value.agg #[vI 2,vS ByteArray.empty,vI 0,vB false,vI 1,vI 0,vL none 0 0]) (r_build (cs:=[vI 2,vS ByteArray.empty,vI 0,vB false,vI 1,vI 0,vL none 0 0]) (ps:=[(0,vI 2),(3,vI 1)]) Tryd.zeroValue34 Tryd.runUnderlying34 (pl:=#[(0,1),(1,1),(2,2),(4,1),(5,1),(6,1)]) (fun w=>by simp [Tryd.sizeOf3,Tryd.sizeOf31,Tryd.sizeOf32,Tryd.sizeOf9]) (parts_2 (show _=vI 2 from rfl) (show _=vI 1 from rfl)) rfl) ?_
 refine run_frame (by simp only [sc0,sc1];rfl) ?_
 refine rs (Value.agg #[vI 3,vS ByteArray.empty,vI 0,vB false,vI 4,vI 8,vL none 0 0]) (r_build (cs:=[vI 3,vS ByteArray.empty,vI 0,vB false,vI 4,vI 8,vL none 0 0]) (ps:=[(0,vI 3),(3,vI 4),(4,vI 8)]) Tryd.zeroValue34 Tryd.runUnderlying34 (pl:=#[(0,1),(1,1),(2,2),(4,1),(5,1),(6,1)]) (fun w=>by simp [Tryd.sizeOf3,Tryd.sizeOf31,Tryd.sizeOf32,Tryd.sizeOf9]) (parts_3 (show _=vI 3 from rfl) (show _=vI 4 from rfl) (show _=vI 8 from rfl)) rfl) ?_
 refine rs (Value.agg #[vI 1,vB true]) (r_build (cs:=[vI 1,vB true]) (ps:=[(0,vI 1),(1,vB true)]) Tryd.zeroValue31 Tryd.runUnderlying31 (pl:=#[(0,1),(1,1)]) (fun w=>by simp [Tryd.sizeOf3,Tryd.sizeOf4]) (parts_2 (show _=vI 1 from rfl) (show _=vB true from rfl)) rfl) ?_
 refine rs (Value.agg #[vI 1,vS (⟨#[99,104,97,114]⟩:ByteArray),vI 1,vB true,vI 0,vI 0,vL none 0 0]) (r_build (cs:=[vI 1,vS (⟨#[99,104,97,114]⟩:ByteArray),vI 1,vB true,vI 0,vI 0,vL none 0 0]) (ps:=[(0,vI 1),(1,vS (⟨#[99,104,97,114]⟩:ByteArray)),(2,Value.agg #[vI 1,vB true])]) Tryd.zeroValue34 Tryd.runUnderlying34 (pl:=#[(0,1),(1,1),(2,2),(4,1),(5,1),(6,1)]) (fun w=>by simp [Tryd.sizeOf3,Tryd.sizeOf31,Tryd.sizeOf32,Tryd.sizeOf9]) (parts_3 (show _=vI 1 from rfl) (show _=vS (⟨#[99,104,97,114]⟩:ByteArray) from rfl) (show _=Value.agg #[vI 1,vB true] from rfl)) rfl) ?_
 have HS5:St [] h0 w0 h0 [(some b3, .cells #[vI 4,vS (⟨#[116,104,114,101,97,100,95,116]⟩:ByteArray),vI 0,vB false,vI 0,vI 24,vL (rowA (some b2)) (([(⟨(⟨#[116,95,116,105,100]⟩:ByteArray),0,0⟩:api_Field),(⟨(⟨#[116,95,110,101,120,116]⟩:ByteArray),2,8⟩:api_Field),(⟨(⟨#[116,95,110,97,109,101]⟩:ByteArray),3,16⟩:api_Field)]:List api_Field).length) 3] 34 (0,0)),((some b2), .cells ([vS (⟨#[116,95,116,105,100]⟩:ByteArray),vI 0,vI 0,vS (⟨#[116,95,110,101,120,116]⟩:ByteArray),vI 2,vI 8,vS (⟨#[116,95,110,97,109,101]⟩:ByteArray),vI 3,vI 16]).toArray 36 (0,0)),(some b1, .cells #[vL none 0 0] 24 (0,0))] w4:=HS4.cast (by first|rfl|(rw [ho1.len];done)|(rw [ho1.len];rfl))
 have ho2:=ho1.norm
 obtain ⟨h1,HS6,hs1,rdp1⟩:=row_pub HS5 (i:=1) rfl ho2
 have HS7:St [] h0 w0 h1 [(some b3, .cells #[vI 4,vS (⟨#[116,104,114,101,97,100,95,116]⟩:ByteArray),vI 0,vB false,vI 0,vI 24,vL (rowA (some b2)) ([(⟨(⟨#[116,95,116,105,100]⟩:ByteArray),0,0⟩:api_Field),(⟨(⟨#[116,95,110,101,120,116]⟩:ByteArray),2,8⟩:api_Field),(⟨(⟨#[116,95,110,97,109,101]⟩:ByteArray),3,16⟩:api_Field)]:List api_Field).length 3] 34 (0,0)),(some b1, .cells #[vL none 0 0] 24 (0,0))] w4:=HS6
 refine run_bs k_api_Def (xs:=([(⟨1,(⟨#[105,110,116,51,50]⟩:ByteArray),(⟨4,true⟩:api_Int),0,0,[]⟩:api_Def),(⟨4,(⟨#[116,104,114,101,97,100,95,116]⟩:ByteArray),(⟨0,false⟩:api_Int),0,24,([(⟨(⟨#[116,95,116,105,100]⟩:ByteArray),0,0⟩:api_Field),(⟨(⟨#[116,95,110,101,120,116]⟩:ByteArray),2,8⟩:api_Field),(⟨(⟨#[116,95,110,97,109,101]⟩:ByteArray),3,16⟩:api_Field)]:List api_Field)⟩:api_Def),(⟨2,ByteArray.empty,(⟨0,false⟩:api_Int),1,0,[]⟩:api_Def),(⟨3,ByteArray.empty,(⟨0,false⟩:api_Int),4,8,[]⟩:api_Def),(⟨1,(⟨#[99,104,97,114]⟩:ByteArray),(⟨1,true⟩:api_Int),0,0,[]⟩:api_Def)]:List api_Def)) (n:=5) (cs:=[vI 1,vS (⟨#[105,110,116,51,50]⟩:ByteArray),vI 4,vB true,vI 0,vI 0,vL none 0 0,vI 4,vS (⟨#[116,104,114,101,97,100,95,116]⟩:ByteArray),vI 0,vB false,vI 0,vI 24,vL (rowA (some b2)) ([(⟨(⟨#[116,95,116,105,100]⟩:ByteArray),0,0⟩:api_Field),(⟨(⟨#[116,95,110,101,120,116]⟩:ByteArray),2,8⟩:api_Field),(⟨(⟨#[116,95,110,97,109,101]⟩:ByteArray),3,16⟩:api_Field)]:List api_Field).length 3,vI 2,vS ByteArray.empty,vI 0,vB false,vI 1,vI 0,vL none 0 0,vI 3,vS ByteArray.empty,vI 0,vB false,vI 4,vI 8,vL none 0 0,vI 1,vS (⟨#[99,104,97,114]⟩:ByteArray),vI 1,vB true,vI 0,vI 0,vL none 0 0]) Tryd.runUnderlying22 Tryd.typeInfo34 Tryd.zeroValue34 rfl rfl (by decide) (by decide) (by decide) [Value.agg #[vI 1,vS (⟨#[105,110,116,51,50]⟩:ByteArray),vI 4,vB true,vI 0,vI 0,vL none 0 0],Value.agg #[vI 4,vS (⟨#[116,104,114,101,97,100,95,116]⟩:ByteArray),vI 0,vB false,vI 0,vI 24,vL (rowA (some b2)) ([(⟨(⟨#[116,95,116,105,100]⟩:ByteArray),0,0⟩:api_Field),(⟨(⟨#[116,95,110,101,120,116]⟩:ByteArray),2,8⟩:api_Field),(⟨(⟨#[116,95,110,97,109,101]⟩:ByteArray),3,16⟩:api_Field)]:List api_Field).length 3],Value.agg #[vI 2,vS ByteArray.empty,vI 0,vB false,vI 1,vI 0,vL none 0 0],Value.agg #[vI 3,vS ByteArray.empty,vI 0,vB false,vI 4,vI 8,vL none 0 0],Value.agg #[vI 1,vS (⟨#[99,104,97,114]⟩:ByteArray),vI 1,vB true,vI 0,vI 0,vL none 0 0]] (parts_any.trans rfl) rfl rfl rfl rfl (elems_cons (qs:=[vI 1,vS (⟨#[105,110,116,51,50]⟩:ByteArray),vI 4,vB true,vI 0,vI 0,vL none 0 0]) ⟨[vI 1],[vS (⟨#[105,110,116,51,50]⟩:ByteArray),vI 4,vB true,vI 0,vI 0,vL none 0 0],rfl,rfl,⟨[vS (⟨#[105,110,116,51,50]⟩:ByteArray)],[vI 4,vB true,vI 0,vI 0,vL none 0 0],rfl,rfl,⟨[vI 4,vB true],[vI 0,vI 0,vL none 0 0],rfl,⟨[vI 4],[vB true],rfl,rfl,rfl⟩,⟨[vI 0],[vI 0,vL none 0 0],rfl,rfl,⟨[vI 0],[vL none 0 0],rfl,rfl,⟨none,0,rfl,(Nat.le_refl 0),(Rd.nil _ _ _)⟩⟩⟩⟩⟩⟩ (elems_cons (qs:=[vI 4,vS (⟨#[116,104,114,101,97,100,95,116]⟩:ByteArray),vI 0,vB false,vI 0,vI 24,vL (rowA (some b2)) ([(⟨(⟨#[116,95,116,105,100]⟩:ByteArray),0,0⟩:api_Field),(⟨(⟨#[116,95,110,101,120,116]⟩:ByteArray),2,8⟩:api_Field),(⟨(⟨#[116,95,110,97,109,101]⟩:ByteArray),3,16⟩:api_Field)]:List api_Field).length 3]) ⟨[vI 4],[vS (⟨#[116,104,114,101,97,100,95,116]⟩:ByteArray),vI 0,vB false,vI 0,vI 24,vL (rowA (some b2)) ([(⟨(⟨#[116,95,116,105,100]⟩:ByteArray),0,0⟩:api_Field),(⟨(⟨#[116,95,110,101,120,116]⟩:ByteArray),2,8⟩:api_Field),(⟨(⟨#[116,95,110,97,109,101]⟩:ByteArray),3,16⟩:api_Field)]:List api_Field).length 3],rfl,rfl,⟨[vS (⟨#[116,104,114,101,97,100,95,116]⟩:ByteArray)],[vI 0,vB false,vI 0,vI 24,vL (rowA (some b2)) ([(⟨(⟨#[116,95,116,105,100]⟩:ByteArray),0,0⟩:api_Field),(⟨(⟨#[116,95,110,101,120,116]⟩:ByteArray),2,8⟩:api_Field),(⟨(⟨#[116,95,110,97,109,101]⟩:ByteArray),3,16⟩:api_Field)]:List api_Field).length 3],rfl,rfl,⟨[vI 0,vB false],[vI 0,vI 24,vL (rowA (some b2)) ([(⟨(⟨#[116,95,116,105,100]⟩:ByteArray),0,0⟩:api_Field),(⟨(⟨#[116,95,110,101,120,116]⟩:ByteArray),2,8⟩:api_Field),(⟨(⟨#[116,95,110,97,109,101]⟩:ByteArray),3,16⟩:api_Field)]:List api_Field).length 3],rfl,⟨[vI 0],[vB false],rfl,rfl,rfl⟩,⟨[vI 0],[vI 24,vL (rowA (some b2)) ([(⟨(⟨#[116,95,116,105,100]⟩:ByteArray),0,0⟩:api_Field),(⟨(⟨#[116,95,110,101,120,116]⟩:ByteArray),2,8⟩:api_Field),(⟨(⟨#[116,95,110,97,109,101]⟩:ByteArray),3,16⟩:api_Field)]:List api_Field).length 3],rfl,rfl,⟨[vI 24],[vL (rowA (some b2)) ([(⟨(⟨#[116,95,116,105,100]⟩:ByteArray),0,0⟩:api_Field),(⟨(⟨#[116,95,110,101,120,116]⟩:ByteArray),2,8⟩:api_Field),(⟨(⟨#[116,95,110,97,109,101]⟩:ByteArray),3,16⟩:api_Field)]:List api_Field).length 3],rfl,rfl,⟨(rowA (some b2)),3,rfl,ho2.cap,rdp1⟩⟩⟩⟩⟩⟩ (elems_cons (qs:=[vI 2,vS ByteArray.empty,vI 0,vB false,vI 1,vI 0,vL none 0 0]) ⟨[vI 2],[vS ByteArray.empty,vI 0,vB false,vI 1,vI 0,vL none 0 0],rfl,rfl,⟨[vS ByteArray.empty],[vI 0,vB false,vI 1,vI 0,vL none 0 0],rfl,rfl,⟨[vI 0,vB false],[vI 1,vI 0,vL none 0 0],rfl,⟨[vI 0],[vB false],rfl,rfl,rfl⟩,⟨[vI 1],[vI 0,vL none 0 0],rfl,rfl,⟨[vI 0],[vL none 0 0],rfl,rfl,⟨none,0,rfl,(Nat.le_refl 0),(Rd.nil _ _ _)⟩⟩⟩⟩⟩⟩ (elems_cons (qs:=[vI 3,vS ByteArray.empty,vI 0,vB false,vI 4,vI 8,vL none 0 0]) ⟨[vI 3],[vS ByteArray.empty,vI 0,vB false,vI 4,vI 8,vL none 0 0],rfl,rfl,⟨[vS ByteArray.empty],[vI 0,vB false,vI 4,vI 8,vL none 0 0],rfl,rfl,⟨[vI 0,vB false],[vI 4,vI 8,vL none 0 0],rfl,⟨[vI 0],[vB false],rfl,rfl,rfl⟩,⟨[vI 4],[vI 8,vL none 0 0],rfl,rfl,⟨[vI 8],[vL none 0 0],rfl,rfl,⟨none,0,rfl,(Nat.le_refl 0),(Rd.nil _ _ _)⟩⟩⟩⟩⟩⟩ (elems_cons (qs:=[vI 1,vS (⟨#[99,104,97,114]⟩:ByteArray),vI 1,vB true,vI 0,vI 0,vL none 0 0]) ⟨[vI 1],[vS (⟨#[99,104,97,114]⟩:ByteArray),vI 1,vB true,vI 0,vI 0,vL none 0 0],rfl,rfl,⟨[vS (⟨#[99,104,97,114]⟩:ByteArray)],[vI 1,vB true,vI 0,vI 0,vL none 0 0],rfl,rfl,⟨[vI 1,vB true],[vI 0,vI 0,vL none 0 0],rfl,⟨[vI 1],[vB true],rfl,rfl,rfl⟩,⟨[vI 0],[vI 0,vL none 0 0],rfl,rfl,⟨[vI 0],[vL none 0 0],rfl,rfl,⟨none,0,rfl,(Nat.le_refl 0),(Rd.nil _ _ _)⟩⟩⟩⟩⟩⟩ (elems_nil (cs:=[]))))))) HS7 ?_
 intro w5 b4 HS8 ho3
 refine run_frame (by simp only [sc0,sc1];rfl) ?_
 refine rs (Value.agg #[vL (rowA (some b4)) 5 5]) (r_build (cs:=[vL (rowA (some b4)) 5 5]) (ps:=[(0,vL (rowA (some b4)) 5 5)]) Tryd.zeroValue24 Tryd.runUnderlying24 (pl:=#[(0,1)]) (fun w=>by simp [Tryd.sizeOf22]) (parts_1 (show _=vL (rowA (some b4)) 5 5 from rfl)) rfl) ?_
 refine run_st (i:=2) (cs:=[vL none 0 0]) (cs':=[vL (rowA (some b4)) 5 5]) (vs:=[vL (rowA (some b4)) 5 5]) (bs':=[((some b4), .cells ([vI 1,vS (⟨#[105,110,116,51,50]⟩:ByteArray),vI 4,vB true,vI 0,vI 0,vL none 0 0,vI 4,vS (⟨#[116,104,114,101,97,100,95,116]⟩:ByteArray),vI 0,vB false,vI 0,vI 24,vL (rowA (some b2)) ([(⟨(⟨#[116,95,116,105,100]⟩:ByteArray),0,0⟩:api_Field),(⟨(⟨#[116,95,110,101,120,116]⟩:ByteArray),2,8⟩:api_Field),(⟨(⟨#[116,95,110,97,109,101]⟩:ByteArray),3,16⟩:api_Field)]:List api_Field).length 3,vI 2,vS ByteArray.empty,vI 0,vB false,vI 1,vI 0,vL none 0 0,vI 3,vS ByteArray.empty,vI 0,vB false,vI 4,vI 8,vL none 0 0,vI 1,vS (⟨#[99,104,97,114]⟩:ByteArray),vI 1,vB true,vI 0,vI 0,vL none 0 0]).toArray 34 (0,0)),(some b3, .cells #[vI 4,vS (⟨#[116,104,114,101,97,100,95,116]⟩:ByteArray),vI 0,vB false,vI 0,vI 24,vL (rowA (some b2)) ([(⟨(⟨#[116,95,116,105,100]⟩:ByteArray),0,0⟩:api_Field),(⟨(⟨#[116,95,110,101,120,116]⟩:ByteArray),2,8⟩:api_Field),(⟨(⟨#[116,95,110,97,109,101]⟩:ByteArray),3,16⟩:api_Field)]:List api_Field).length 3] 34 (0,0)),(some b1, .cells #[vL (rowA (some b4)) 5 5] 24 (0,0))]) rfl rfl Tryd.sizeOf24 rfl rfl (by decide) rfl HS8 rfl (Nat.le_of_ble_eq_true rfl) rfl rfl ?_
 intro w6 HS9
 try simp only [sc0,sc1]
 refine run_nil<|norm_then<|wp_ret ?_
 obtain rfl:=Option.some.inj H
 refine bodyPost_ret (results_1 rfl (one_agg rfl Tryd.isAgg24 (HS9.look 2 rfl) Tryd.sizeOf24 rfl)) rfl ?_
 obtain ⟨h2,HS10,hs2,rdp2⟩:=row_pub HS9 (i:=0) rfl ho3
 replace rdp1:Rd k_api_Field h2 (rowA (some b2)) ([(⟨(⟨#[116,95,116,105,100]⟩:ByteArray),0,0⟩:api_Field),(⟨(⟨#[116,95,110,101,120,116]⟩:ByteArray),2,8⟩:api_Field),(⟨(⟨#[116,95,110,97,109,101]⟩:ByteArray),3,16⟩:api_Field)]:List api_Field):=rdp1.ext hs2
 exact ⟨h2,(rowA (some b4)),5,(by first|rfl|(rw [ho3.len];done)|(rw [ho3.len];rfl)),ho3.cap,rdp2,HS10.gr,HS10.sees,HS10.toE⟩
end Go.Proofs.YtfjppgobidjndaaDoor
