/- Parts of a proof, merged by program: B2 B3 B4 B5 C5. The walks (each function once) and the plain laws; no condition of their own. -/
import Derived.Test.YtfjppgobidjndaaDoorByt5
set_option linter.unusedVariables false
set_option linter.unusedSimpArgs false
set_option maxRecDepth 20000
set_option maxHeartbeats 4000000
set_option maxRecDepth 20000
namespace Go.Proofs.YtfjppgobidjndaaDoor
open Go.RowKit Go.M
def encS (s:ByteArray):List Int:=encI (s.size:Int)++bytesOf s
def encF (f:api_Field):List Int:=encS f.vName++(encI f.vType++encI f.vAt)
def encL {α:Type} (one:α→List Int) (l:List α):List Int:=encI (l.length:Int)++l.flatMap one
def encB (b:Bool):List Int:=[if b=true then 1 else 0]
def encD (d:api_Def):List Int:=encI d.vKind++(encS d.vName++(encI d.vInt.vSize++(encB d.vInt.vSigned++(encI d.vRef++(encI d.vN++encL encF d.vFields)))))
def headL:List Int:=[67,84,70,1]
def encT (t:api_Types):List Int:=headL++encL encD t.vDefs
def WordsF (f:api_Field):Prop:=I64 f.vType∧I64 f.vAt
def WordsD (d:api_Def):Prop:=I64 d.vKind∧I64 d.vInt.vSize∧I64 d.vRef∧I64 d.vN∧∀f∈d.vFields,WordsF f
theorem put_word {x:Int} (h:I64 x):∃u:Nat,u=zig x∧u<2^64∧(if (decide (x<0))=true then (some (iNot .u64 (iShl .u64 (IntKind.wrap .u64 x) 1))) else (some (iShl .u64 (IntKind.wrap .u64 x) 1)):Option Int)=some (u:Int):=by
 refine ⟨zig x,rfl,zig_lt h,?_⟩
 have h64:(2:Nat)^64=18446744073709551616:=Nat.eq_of_beq_eq_true rfl
 have hz:=zig_lt h
 unfold I64 at h
 have hshl:iShl .u64 (IntKind.wrap .u64 x) 1=((2*x)%18446744073709551616):=by
  show IntKind.wrap .u64 (IntKind.wrap .u64 x*2^(min (1:Int).toNat 64))=_
  rw [show (2:Int)^(min (1:Int).toNat 64)=2 from rfl,wrapU64,wrapU64]
  omega
 rw [hshl]
 by_cases hx:x<0
 ·rw [if_pos (decide_eq_true hx)]
  obtain ⟨n,hn⟩:∃n:Nat,(2*x)%18446744073709551616=(n:Int):=⟨((2*x)%18446744073709551616).toNat,by omega⟩
  rw [hn,not_u64 (by rw [h64];omega),h64]
  unfold zig
  rw [if_pos hx]
  congr 1
  omega
 ·rw [if_neg (by simpa using hx)]
  unfold zig
  rw [if_neg hx]
  congr 1
  omega
theorem put_loop : ∀ (n u : Nat) (b : List Int) (m : Nat), u < 128 ^ (n + 1) → n + 1 ≤ m → b.length + n + 1 ≤ 4294967296 →
    ∃(w:Nat) (i:List Int),ctf_put.l0 m (u:Int) b=some ((w:Int),b++i)∧i++[(w:Int)]=enc7 n u∧w<128∧i.length≤n
  |n,u,b,0,hu,hm,hb=>by omega
  | 0, u, b, m + 1, hu, hm, hb => by
    refine ⟨u,[],?_,rfl,by omega,by simp⟩
    rw [ctf_put.l0,if_neg (by simp;omega),List.append_nil]
  | n + 1, u, b, m + 1, hu, hm, hb => by
    by_cases h:u<128
    · refine ⟨u,[],?_,?_,h,by simp⟩
      · rw [ctf_put.l0,if_neg (by simp;omega),List.append_nil]
      · rw [enc7,if_pos h];rfl
    · have hd:u/128<128^(n+1):=by
        rw [Nat.pow_succ] at hu
        exact Nat.div_lt_of_lt_mul (by omega)
      have e:iOr .u8 (IntKind.wrap .u8 (u:Int)) 128=((u%128+128:Nat):Int):=by
        rw [wrapU8,show (u:Int)%256=((u%256:Nat):Int) by omega,or_u8 (by omega)]
        omega
      obtain ⟨w,i,h1,h2,h3,h4⟩:=put_loop n (u/128) (b++[((u%128+128:Nat):Int)]) m hd (by omega) (by simp;omega)
      refine ⟨w,((u%128+128:Nat):Int)::i,?_,?_,h3,by simp;omega⟩
      · rw [ctf_put.l0,if_pos (by simp;omega),if_pos (by omega),e,show (7:Int)=((7:Nat):Int) from rfl,shr_u64 u 7 (by omega)]
        rw [show u/2^7=u/128 from rfl,h1,List.append_assoc]
        rfl
      · rw [enc7,if_neg h,←h2]
        rfl
theorem put_ok {k:Nat} {b:List Int} {x:Int} (hk:10≤k) (hx:I64 x) (hb:b.length+10≤4294967296):ctf_put.f k b x=some (b++encI x):=by
 obtain ⟨u,hu,hlt,he⟩:=put_word hx
 obtain ⟨w,i,h1,h2,h3,h4⟩:=put_loop 9 u b k (Nat.lt_of_lt_of_le hlt (Nat.le_of_ble_eq_true rfl)) (by omega) (by omega)
 show ctf_put.f k b x=_
 unfold ctf_put.f
 rw [he]
 simp only [Option.bind_some]
 rw [h1]
 simp only [Option.bind_some]
 rw [if_pos (by simp;omega),wrapU8,show (w:Int)%256=(w:Int) by omega,List.append_assoc,h2,hu]
 rfl
theorem wint_loop : ∀ (n u : Nat) (b : List Int) (m : Nat), u < 128 ^ (n + 1) → n + 1 ≤ m → b.length + n + 1 ≤ 4294967296 → u < 2 ^ 64 →
    ∃(w:Nat) (i:List Int),taplineref08_Writer_Int.l0 m (u:Int) b=some ((w:Int),b++i)∧i++[(w:Int)]=enc7 n u∧w<128∧i.length≤n
  |n,u,b,0,hu,hm,hb,h64=>by omega
  | 0, u, b, m + 1, hu, hm, hb, h64 => by
    refine ⟨u,[],?_,rfl,by omega,by simp⟩
    rw [taplineref08_Writer_Int.l0,if_neg (by simp;omega),List.append_nil]
  | n + 1, u, b, m + 1, hu, hm, hb, h64 => by
    by_cases h:u<128
    · refine ⟨u,[],?_,?_,h,by simp⟩
      · rw [taplineref08_Writer_Int.l0,if_neg (by simp;omega),List.append_nil]
      · rw [enc7,if_pos h];rfl
    · have hd:u/128<128^(n+1):=by
        rw [Nat.pow_succ] at hu
        exact Nat.div_lt_of_lt_mul (by omega)
      have e1:iRem (u:Int) 128=((u%128:Nat):Int):=by
        show Int.tmod (u:Int) 128=_
        rw [Int.tmod_eq_emod_of_nonneg (by omega)]
        omega
      have e:IntKind.wrap .u8 ((IntKind.wrap .u8 (iRem (u:Int) 128))+128)=((u%128+128:Nat):Int):=by
        rw [e1,wrapU8,wrapU8]
        omega
      have e2:iQuo .u64 (u:Int) 128=((u/128:Nat):Int):=by
        have hl:u<18446744073709551616:=h64
        show IntKind.wrap .u64 (Int.tdiv (u:Int) 128)=_
        rw [Int.tdiv_eq_ediv_of_nonneg (by omega),wrapU64]
        omega
      obtain ⟨w,i,h1,h2,h3,h4⟩:=wint_loop n (u/128) (b++[((u%128+128:Nat):Int)]) m hd (by omega) (by simp;omega) (Nat.lt_of_le_of_lt (Nat.div_le_self _ _) h64)
      refine ⟨w,((u%128+128:Nat):Int)::i,?_,?_,h3,by simp;omega⟩
      · rw [taplineref08_Writer_Int.l0,if_pos (by simp;omega),if_pos (by omega),e,e2]
        rw [h1,List.append_assoc]
        rfl
      · rw [enc7,if_neg h,←h2]
        rfl
theorem wint_ok {k:Nat} {b:List Int} {x:Int} (hk:10≤k) (hx:I64 x) (hb:b.length+10≤4294967296):taplineref08_Writer_Int.f k b x=some (b++encI x):=by
 obtain ⟨u,hu,hlt,he⟩:=put_word hx
 obtain ⟨w,i,h1,h2,h3,h4⟩:=wint_loop 9 u b k (Nat.lt_of_lt_of_le hlt (Nat.le_of_ble_eq_true rfl)) (by omega) (by omega) hlt
 show taplineref08_Writer_Int.f k b x=_
 unfold taplineref08_Writer_Int.f
 rw [he]
 simp only [Option.bind_some]
 rw [h1]
 simp only [Option.bind_some]
 rw [if_pos (by simp;omega),wrapU8,show (w:Int)%256=(w:Int) by omega,List.append_assoc,h2,hu]
 rfl
theorem i64_nat {n:Nat} (h:n≤9223372036854775807):I64 (n:Int):=by unfold I64;omega
theorem encS_len (s:ByteArray):(encS s).length≤10+s.size:=by
 unfold encS
 have:=(encI_len (s.size:Int)).1
 rw [List.length_append,bytesOf_length]
 omega
theorem puts_ok {k:Nat} {b:List Int} {s:ByteArray} (hk:10≤k) (hb:b.length+10+s.size≤4294967296):ctf_putString.f k b s=some (b++encS s):=by
 show ctf_putString.f k b s=_
 unfold ctf_putString.f
 have:=(encI_len (s.size:Int)).1
 rw [put_ok hk (i64_nat (by omega)) (by omega)]
 simp only [Option.bind_some]
 rw [if_pos (by rw [List.length_append];omega)]
 unfold encS
 rw [List.append_assoc]
theorem wtext_ok {k:Nat} {b:List Int} {s:ByteArray} (hk:10≤k) (hb:b.length+10+s.size≤4294967296):taplineref08_Writer_Text.f k b s=some (b++encS s):=by
 show taplineref08_Writer_Text.f k b s=_
 unfold taplineref08_Writer_Text.f
 have:=(encI_len (s.size:Int)).1
 rw [wint_ok hk (i64_nat (by omega)) (by omega)]
 simp only [Option.bind_some]
 rw [if_pos (by rw [List.length_append];omega)]
 unfold encS
 rw [List.append_assoc]
def SmallF (f:api_Field):Prop:=WordsF f∧f.vName.size≤31
def SmallD (d:api_Def):Prop:=WordsD d∧d.vName.size≤31∧d.vFields.length≤32∧∀f∈d.vFields,SmallF f
theorem encF_len {f:api_Field} (h:SmallF f):(encF f).length≤61:=by
 unfold encF
 have h1:=encS_len f.vName
 have h2:=(encI_len f.vType).1
 have h3:=(encI_len f.vAt).1
 have:=h.2
 simp only [List.length_append]
 omega
theorem putField_ok {k:Nat} {b:List Int} {f:api_Field} (hk:10≤k) (h:SmallF f) (hb:b.length+61≤4294967296):ctf_putField.f k b f=some (b++encF f):=by
 show ctf_putField.f k b f=_
 unfold ctf_putField.f
 have h1:=encS_len f.vName
 have h2:=(encI_len f.vType).1
 have:=h.2
 rw [puts_ok hk (by omega)]
 simp only [Option.bind_some]
 rw [put_ok hk h.1.1 (by simp only [List.length_append];omega)]
 simp only [Option.bind_some]
 rw [put_ok hk h.1.2 (by simp only [List.length_append];omega)]
 simp only [Option.bind_some]
 unfold encF
 simp only [List.append_assoc]
theorem putFields_loop {k:Nat} (hk:10≤k) {l:List api_Field} (hl:l.length≤32) (hs:∀f∈l,SmallF f):∀(e j m:Nat) (b:List Int),j+e=l.length→e<m→b.length+61*e≤4294967296→
    ctf_putList_api_Field.l0 k l m (j:Int) b=some (b++(l.drop j).flatMap encF)
  |e,j,0,b,hj,hm,hb=>by omega
  | 0, j, m + 1, b, hj, hm, hb => by
    rw [ctf_putList_api_Field.l0,if_neg (by simp;omega),List.drop_eq_nil_of_le (by omega)]
    simp
  | e + 1, j, m + 1, b, hj, hm, hb => by
    have hlt:j<l.length:=by omega
    have hf:=hs _ (getD_mem (z:=z_api_Field) hlt)
    have hlen:=encF_len hf
    rw [ctf_putList_api_Field.l0,if_pos (by simp;omega),if_pos (by omega),rd_nat,putField_ok hk hf (by omega),wrap_nat hlt (by omega)]
    simp only [Option.bind_some]
    rw [putFields_loop hk hl hs e (j+1) m _ (by omega) (by omega) (by rw [List.length_append];omega),drop_getD z_api_Field hlt,List.flatMap_cons,List.append_assoc]
theorem putFields_ok {k:Nat} {b:List Int} {l:List api_Field} (hk:40≤k) (hl:l.length≤32) (hs:∀f∈l,SmallF f) (hb:b.length+1962≤4294967296):ctf_putList_api_Field.f k b l=some (b++encL encF l):=by
 show ctf_putList_api_Field.f k b l=_
 unfold ctf_putList_api_Field.f
 have h1:=(encI_len (l.length:Int)).1
 rw [put_ok (by omega) (i64_nat (by omega)) (by omega)]
 simp only [Option.bind_some]
 have:=putFields_loop (k:=k) (by omega) hl hs l.length 0 k (b++encI (l.length:Int)) (by omega) (by omega) (by rw [List.length_append];omega)
 rw [show ((0:Nat):Int)=0 from rfl] at this
 rw [this]
 unfold encL
 simp
theorem flat_len {α:Type} {one:α→List Int} {n:Nat}:∀(l:List α),(∀x∈l,(one x).length≤n)→(l.flatMap one).length≤n*l.length
  |[],_=>by simp
  | x :: l, h => by
    have h1:=h x List.mem_cons_self
    have h2:=flat_len l (fun y hy=>h y (List.mem_cons_of_mem _ hy))
    simp only [List.flatMap_cons,List.length_append,List.length_cons,Nat.mul_add]
    omega
theorem encFs_len {l:List api_Field} (hl:l.length≤32) (hs:∀f∈l,SmallF f):(encL encF l).length≤1962:=by
 unfold encL
 have h1:=(encI_len (l.length:Int)).1
 have h2:=flat_len (one:=encF) l (fun f hf=>encF_len (hs f hf))
 rw [List.length_append]
 omega
theorem encD_len {d:api_Def} (h:SmallD d):(encD d).length≤2044:=by
 have h1:=(encI_len d.vKind).1
 have h2:=encS_len d.vName
 have h3:=(encI_len d.vInt.vSize).1
 have h4:=(encI_len d.vRef).1
 have h5:=(encI_len d.vN).1
 have h6:=encFs_len h.2.2.1 h.2.2.2
 have:=h.2.1
 unfold encD encB
 simp only [List.length_append,List.length_cons,List.length_nil]
 omega
theorem putDef_ok {k:Nat} {b:List Int} {d:api_Def} (hk:40≤k) (h:SmallD d) (hb:b.length+2044≤4294967296):ctf_putDef.f k b d=some (b++encD d):=by
 have h1:=(encI_len d.vKind).1
 have h2:=encS_len d.vName
 have h3:=(encI_len d.vInt.vSize).1
 have h4:=(encI_len d.vRef).1
 have h5:=(encI_len d.vN).1
 have hn:=h.2.1
 obtain ⟨hW,_,hl,hs⟩:=h
 show ctf_putDef.f k b d=_
 unfold ctf_putDef.f
 rw [put_ok (by omega) hW.1 (by omega)]
 simp only [Option.bind_some]
 rw [puts_ok (by omega) (by simp only [List.length_append];omega)]
 simp only [Option.bind_some]
 rw [put_ok (by omega) hW.2.1 (by simp only [List.length_append];omega)]
 simp only [Option.bind_some]
 have hB:∀c:List Int,c.length+1≤4294967296→((if d.vInt.vSigned=true then (if c.length+1≤4294967296 then (some (c++([1]:List Int))) else none) else (if c.length+1≤4294967296 then (some (c++([0]:List Int))) else none)):Option (List Int))=some (c++encB d.vInt.vSigned):=fun c hc=>by
  unfold encB
  rw [if_pos hc,if_pos hc]
  split<;>simp_all
 rw [hB _ (by simp only [List.length_append];omega)]
 simp only [Option.bind_some]
 have hBl:(encB d.vInt.vSigned).length=1:=rfl
 rw [put_ok (by omega) hW.2.2.1 (by simp only [List.length_append];omega)]
 simp only [Option.bind_some]
 rw [put_ok (by omega) hW.2.2.2.1 (by simp only [List.length_append];omega)]
 simp only [Option.bind_some]
 rw [putFields_ok hk hl hs (by simp only [List.length_append];omega)]
 simp only [Option.bind_some]
 unfold encD
 simp only [List.append_assoc]
theorem putDefs_loop {k:Nat} (hk:40≤k) {l:List api_Def} (hl:l.length≤200) (hs:∀d∈l,SmallD d):∀(e j m:Nat) (b:List Int),j+e=l.length→e<m→b.length+2044*e≤4294967296→
    ctf_putList_api_Def.l0 k l m (j:Int) b=some (b++(l.drop j).flatMap encD)
  |e,j,0,b,hj,hm,hb=>by omega
  | 0, j, m + 1, b, hj, hm, hb => by
    rw [ctf_putList_api_Def.l0,if_neg (by simp;omega),List.drop_eq_nil_of_le (by omega)]
    simp
  | e + 1, j, m + 1, b, hj, hm, hb => by
    have hlt:j<l.length:=by omega
    have hf:=hs _ (getD_mem (z:=z_api_Def) hlt)
    have hlen:=encD_len hf
    rw [ctf_putList_api_Def.l0,if_pos (by simp;omega),if_pos (by omega),rd_nat,putDef_ok hk hf (by omega),wrap_nat hlt (by omega)]
    simp only [Option.bind_some]
    rw [putDefs_loop hk hl hs e (j+1) m _ (by omega) (by omega) (by rw [List.length_append];omega),drop_getD z_api_Def hlt,List.flatMap_cons,List.append_assoc]
theorem putDefs_ok {k:Nat} {l:List api_Def} (hk:300≤k) (hl:l.length≤200) (hs:∀d∈l,SmallD d):ctf_putList_api_Def.f k ([67,84,70,1]:List Int) l=some (headL++encL encD l):=by
 show ctf_putList_api_Def.f k ([67,84,70,1]:List Int) l=_
 unfold ctf_putList_api_Def.f
 have h1:=(encI_len (l.length:Int)).1
 have h4:([67,84,70,1]:List Int).length=4:=rfl
 rw [put_ok (by omega) (i64_nat (by omega)) (by rw [h4];omega)]
 simp only [Option.bind_some]
 have:=putDefs_loop (k:=k) (by omega) hl hs l.length 0 k (([67,84,70,1]:List Int)++encI (l.length:Int)) (by omega) (by omega) (by rw [List.length_append,h4];omega)
 rw [show ((0:Nat):Int)=0 from rfl] at this
 rw [this]
 unfold encL headL
 simp only [Option.bind_some,List.drop_zero,List.append_assoc]
theorem refFields_loop {k:Nat} (hk:10≤k) {t:api_Types} {q:Nat} {d:api_Def} (hd:t.vDefs.getD q z_api_Def=d) (hl:d.vFields.length≤32) (hs:∀f∈d.vFields,SmallF f):
    ∀(e j m:Nat) (b:List Int),j+e=d.vFields.length→e<m→b.length+61*e≤4294967296→taplineref08_Encode.l1 k t (q:Int) m (j:Int) b=some (b++(d.vFields.drop j).flatMap encF)
  |e,j,0,b,hj,hm,hb=>by omega
  | 0, j, m + 1, b, hj, hm, hb => by
    rw [taplineref08_Encode.l1,rd_nat,hd,if_neg (by simp;omega),List.drop_eq_nil_of_le (by omega)]
    simp
  | e + 1, j, m + 1, b, hj, hm, hb => by
    have hlt:j<d.vFields.length:=by omega
    have hf:=hs _ (getD_mem (z:=z_api_Field) hlt)
    have hlen:=encF_len hf
    have h1:=encS_len (d.vFields.getD j z_api_Field).vName
    have h2:=(encI_len (d.vFields.getD j z_api_Field).vType).1
    have h3:=(encI_len (d.vFields.getD j z_api_Field).vAt).1
    have h4:=hf.2
    have hp:0≤(j:Int)∧(j:Int)<d.vFields.length:=by omega
    rw [taplineref08_Encode.l1,rd_nat,hd,if_pos (by simp;omega),if_pos hp,rd_nat,wtext_ok hk (by omega)]
    simp only [Option.bind_some]
    rw [if_pos hp,wint_ok hk hf.1.1 (by simp only [List.length_append];omega)]
    simp only [Option.bind_some]
    rw [if_pos hp,wint_ok hk hf.1.2 (by simp only [List.length_append];omega),wrap_nat hlt (by omega)]
    simp only [Option.bind_some]
    rw [refFields_loop hk hd hl hs e (j+1) m _ (by omega) (by omega) (by simp only [List.length_append];omega),drop_getD z_api_Field hlt,List.flatMap_cons]
    unfold encF
    simp only [List.append_assoc]
theorem refDefs_loop {k:Nat} (hk:40≤k) {t:api_Types} (hl:t.vDefs.length≤200) (hs:∀d∈t.vDefs,SmallD d):∀(e j m:Nat) (b:List Int),j+e=t.vDefs.length→e<m→b.length+2044*e≤4294967296→
    taplineref08_Encode.l0 k t m (j:Int) b=some (b++(t.vDefs.drop j).flatMap encD)
  |e,j,0,b,hj,hm,hb=>by omega
  | 0, j, m + 1, b, hj, hm, hb => by
    rw [taplineref08_Encode.l0,if_neg (by simp;omega),List.drop_eq_nil_of_le (by omega)]
    simp
  | e + 1, j, m + 1, b, hj, hm, hb => by
    have hlt:j<t.vDefs.length:=by omega
    have hf:=hs _ (getD_mem (z:=z_api_Def) hlt)
    have hlen:=encD_len hf
    rw [taplineref08_Encode.l0,if_pos (by simp;omega),if_pos (by omega),rd_nat,drop_getD z_api_Def hlt,List.flatMap_cons]
    generalize hd:t.vDefs.getD j z_api_Def=d at*
    have h1:=(encI_len d.vKind).1
    have h2:=encS_len d.vName
    have h3:=(encI_len d.vInt.vSize).1
    have h4:=(encI_len d.vRef).1
    have h5:=(encI_len d.vN).1
    have h6:=(encI_len (d.vFields.length:Int)).1
    have hn:=hf.2.1
    obtain ⟨hW,_,hfl,hfs⟩:=hf
    rw [wint_ok (by omega) hW.1 (by omega)]
    simp only [Option.bind_some]
    rw [wtext_ok (by omega) (by simp only [List.length_append];omega)]
    simp only [Option.bind_some]
    rw [wint_ok (by omega) hW.2.1 (by simp only [List.length_append];omega)]
    simp only [Option.bind_some]
    have hB:∀c:List Int,c.length+1≤4294967296→taplineref08_Writer_Bool.f c d.vInt.vSigned=some (c++encB d.vInt.vSigned):=fun c hc=>by
      unfold encB taplineref08_Writer_Bool.f
      rw [if_pos hc,if_pos hc]
      split<;>simp_all
    have hBl:(encB d.vInt.vSigned).length=1:=rfl
    rw [hB _ (by simp only [List.length_append];omega)]
    simp only [Option.bind_some]
    rw [wint_ok (by omega) hW.2.2.1 (by simp only [List.length_append];omega)]
    simp only [Option.bind_some]
    rw [wint_ok (by omega) hW.2.2.2.1 (by simp only [List.length_append];omega)]
    simp only [Option.bind_some]
    rw [wint_ok (by omega) (i64_nat (by omega)) (by simp only [List.length_append];omega)]
    simp only [Option.bind_some]
    have hF:=refFields_loop (k:=k) (by omega) hd hfl hfs d.vFields.length 0 k (b++encI d.vKind++encS d.vName++encI d.vInt.vSize++encB d.vInt.vSigned++encI d.vRef++encI d.vN++encI (d.vFields.length:Int)) (by omega) (by omega) (by simp only [List.length_append];omega)
    rw [show ((0:Nat):Int)=0 from rfl,List.drop_zero] at hF
    rw [hF,wrap_nat hlt (by omega)]
    simp only [Option.bind_some]
    have e1:b++encI d.vKind++encS d.vName++encI d.vInt.vSize++encB d.vInt.vSigned++encI d.vRef++encI d.vN++encI (d.vFields.length:Int)++d.vFields.flatMap encF=b++encD d:=by
      unfold encD encL
      simp only [List.append_assoc]
    rw [e1,refDefs_loop hk hl hs e (j+1) m _ (by omega) (by omega) (by rw [List.length_append];omega),List.append_assoc]
end Go.Proofs.YtfjppgobidjndaaDoor
set_option maxRecDepth 20000
namespace Go.Proofs.YtfjppgobidjndaaDoor
open Go.RowKit Go.M
def dcS (p:List Int):Option (ByteArray×List Int):=(decI p).bind fun q=>if q.1<0∨(q.2.length:Int)<q.1 then none else some (strOf (q.2.take q.1.toNat),q.2.drop q.1.toNat)
def dcB:List Int→Option (Bool×List Int)
 |[]=>none
 |c::r=>if 1<c then none else some (c==1,r)
def dcF (p:List Int):Option (api_Field×List Int):=(dcS p).bind fun a=>(decI a.2).bind fun b=>(decI b.2).bind fun c=>some (⟨a.1,b.1,c.1⟩,c.2)
def dcN {α:Type} (one:List Int→Option (α×List Int)):Nat→List Int→Option (List α×List Int)
 |0,p=>some ([],p)
 |n+1,p=>(one p).bind fun a=>(dcN one n a.2).bind fun b=>some (a.1::b.1,b.2)
def dcL {α:Type} (one:List Int→Option (α×List Int)) (p:List Int):Option (List α×List Int):=(decI p).bind fun q=>if q.1<0∨(q.2.length:Int)<q.1 then none else dcN one q.1.toNat q.2
def dcD (p:List Int):Option (api_Def×List Int):=(decI p).bind fun a=>(dcS a.2).bind fun b=>(decI b.2).bind fun c=>(dcB c.2).bind fun d=>(decI d.2).bind fun e=>(decI e.2).bind fun f=>(dcL dcF f.2).bind fun g=>
 some (⟨a.1,b.1,⟨c.1,d.1⟩,e.1,f.1,g.1⟩,g.2)
def toE {α:Type}:Option α→Except Value α
 |none=> .error bad
 |some x=> .ok x
def Suf {α:Type} (d:List Int→Option (α×List Int)):Prop:=∀p x r,d p=some (x,r)→∃j,j≤p.length∧r=p.drop j
theorem suf_pure {α:Type} (x:α):Suf fun p=>some (x,p):=fun p y r h=>by
 obtain ⟨rfl,rfl⟩:=Prod.mk.inj (Option.some.inj h)
 exact ⟨0,Nat.zero_le _,rfl⟩
theorem suf_bind {α β:Type} {d:List Int→Option (α×List Int)} {g:α→List Int→Option (β×List Int)} (h:Suf d) (hg:∀x,Suf (g x)):Suf fun p=>(d p).bind fun a=>g a.1 a.2:=fun p y r e=>by
  cases hd:d p with
  |none=>simp [hd] at e
  | some a =>
    have e:(d p).bind (fun a=>g a.1 a.2)=some (y,r):=e
    rw [hd] at e
    obtain ⟨j,h1,h2⟩:=h p a.1 a.2 hd
    obtain ⟨i,h3,h4⟩:=hg a.1 a.2 y r e
    refine ⟨j+i,?_,?_⟩
    · rw [h2,List.length_drop] at h3
      omega
    · rw [h4,h2,List.drop_drop]
theorem suf_I:Suf decI:=fun p x r h=>by
 obtain ⟨j,_,h1,h2⟩:=decI_suffix h
 exact ⟨j,h1,h2⟩
theorem suf_S:Suf dcS:=suf_bind (g:=fun x r=>if x<0∨(r.length:Int)<x then none else some (strOf (r.take x.toNat),r.drop x.toNat)) suf_I fun x p y r h=>by
 have h:(if x<0∨(p.length:Int)<x then none else some (strOf (p.take x.toNat),p.drop x.toNat))=some (y,r):=h
 split at h
 ·cases h
 ·obtain ⟨rfl,rfl⟩:=Prod.mk.inj (Option.some.inj h)
  exact ⟨x.toNat,by omega,rfl⟩
theorem suf_B:Suf dcB:=fun p y r h=>by
 unfold dcB at h
 split at h
 ·cases h
 ·split at h
  ·cases h
  ·obtain ⟨rfl,rfl⟩:=Prod.mk.inj (Option.some.inj h)
   exact ⟨1,by simp,rfl⟩
theorem suf_F:Suf dcF:=suf_bind (g:=fun a p=>(decI p).bind fun b=>(decI b.2).bind fun c=>some ((⟨a,b.1,c.1⟩:api_Field),c.2)) suf_S fun a=>
 suf_bind (g:=fun b p=>(decI p).bind fun c=>some ((⟨a,b,c.1⟩:api_Field),c.2)) suf_I fun b=>suf_bind (g:=fun c p=>some ((⟨a,b,c⟩:api_Field),p)) suf_I fun c=>suf_pure _
theorem suf_N {α:Type} {one:List Int→Option (α×List Int)} (h:Suf one):∀n,Suf (dcN one n)
 |0=>suf_pure _
 |n+1=>suf_bind (g:=fun a p=>(dcN one n p).bind fun b=>some (a::b.1,b.2)) h fun a=>suf_bind (g:=fun b p=>some (a::b,p)) (suf_N h n) fun b=>suf_pure _
theorem suf_L {α:Type} {one:List Int→Option (α×List Int)} (h:Suf one):Suf (dcL one):=suf_bind (g:=fun x r=>if x<0∨(r.length:Int)<x then none else dcN one x.toNat r) suf_I fun x p y r e=>by
 have e:(if x<0∨(p.length:Int)<x then none else dcN one x.toNat p)=some (y,r):=e
 split at e
 ·cases e
 ·exact suf_N h _ p y r e
theorem suf_D:Suf dcD:=
 suf_bind (g:=fun a p=>(dcS p).bind fun b=>(decI b.2).bind fun c=>(dcB c.2).bind fun d=>(decI d.2).bind fun e=>(decI e.2).bind fun f=>(dcL dcF f.2).bind fun g=>some ((⟨a,b.1,⟨c.1,d.1⟩,e.1,f.1,g.1⟩:api_Def),g.2)) suf_I fun a=>
 suf_bind (g:=fun b p=>(decI p).bind fun c=>(dcB c.2).bind fun d=>(decI d.2).bind fun e=>(decI e.2).bind fun f=>(dcL dcF f.2).bind fun g=>some ((⟨a,b,⟨c.1,d.1⟩,e.1,f.1,g.1⟩:api_Def),g.2)) suf_S fun b=>
 suf_bind (g:=fun c p=>(dcB p).bind fun d=>(decI d.2).bind fun e=>(decI e.2).bind fun f=>(dcL dcF f.2).bind fun g=>some ((⟨a,b,⟨c,d.1⟩,e.1,f.1,g.1⟩:api_Def),g.2)) suf_I fun c=>
 suf_bind (g:=fun d p=>(decI p).bind fun e=>(decI e.2).bind fun f=>(dcL dcF f.2).bind fun g=>some ((⟨a,b,⟨c,d⟩,e.1,f.1,g.1⟩:api_Def),g.2)) suf_B fun d=>
 suf_bind (g:=fun e p=>(decI p).bind fun f=>(dcL dcF f.2).bind fun g=>some ((⟨a,b,⟨c,d⟩,e,f.1,g.1⟩:api_Def),g.2)) suf_I fun e=>
 suf_bind (g:=fun f p=>(dcL dcF p).bind fun g=>some ((⟨a,b,⟨c,d⟩,e,f,g.1⟩:api_Def),g.2)) suf_I fun f=>
 suf_bind (g:=fun g p=>some ((⟨a,b,⟨c,d⟩,e,f,g⟩:api_Def),p)) (suf_L suf_F) fun g=>suf_pure _
theorem Bytes.suf {α:Type} {d:List Int→Option (α×List Int)} (hd:Suf d) {p:List Int} {x:α} {r:List Int} (h:d p=some (x,r)) (hb:Bytes p):Bytes r∧r.length≤p.length:=by
 obtain ⟨j,h1,rfl⟩:=hd p x r h
 exact ⟨hb.drop j,by simp⟩
theorem take1_nil:ctf_bytesLeft_take.f [] 1=some (.error bad):=rfl
theorem take1_cons (c:Int) (r:List Int):ctf_bytesLeft_take.f (c::r) 1=some (.ok ([c],r)):=by
 unfold ctf_bytesLeft_take.f
 rw [if_neg (by simp;omega),if_pos (by simp;omega),if_pos (by simp;omega)]
 rfl
theorem take_ok {p:List Int} {n:Int}:ctf_bytesLeft_take.f p n=some (if n<0∨(p.length:Int)<n then .error bad else .ok (p.take n.toNat,p.drop n.toNat)):=by
 unfold ctf_bytesLeft_take.f
 by_cases h:n<0∨(p.length:Int)<n
 ·rw [if_pos (by simpa using h),if_pos h]
  rfl
 ·rw [if_neg (by simpa using h),if_neg h,if_pos (by omega),if_pos (by omega)]
theorem word_lt {c acc i:Nat} (hc:c<256) (ha:acc<2^(7*i)) (hi:i≤9) (h9:i=9→c≤1):acc+(c%128)*2^(7*i)<2^64:=by
 by_cases h:i=9
 ·subst h
  have h1:c%128≤1:=by have:=h9 rfl;omega
  have h2:(2:Nat)^(7*9)+1*2^(7*9)≤2^64:=Nat.le_of_ble_eq_true rfl
  have h3:(c%128)*2^(7*9)≤1*2^(7*9):=Nat.mul_le_mul_right _ h1
  omega
 ·have h1:c%128≤127:=by omega
  have h3:(c%128)*2^(7*i)≤127*2^(7*i):=Nat.mul_le_mul_right _ h1
  have h4:2^(7*i)≤2^56:=Nat.pow_le_pow_right (by decide) (by omega)
  have h5:128*(2:Nat)^56≤2^64:=Nat.le_of_ble_eq_true rfl
  have h6:(2:Nat)^(7*i)+127*2^(7*i)=128*2^(7*i):=by omega
  omega
theorem word_step {c acc i:Nat} (hc:c<256) (ha:acc<2^(7*i)) (hi:i≤9) (h9:i=9→c≤1):
  iOr .u64 (acc:Int) (iShl .u64 ((c%128:Nat):Int) ((7*i:Nat):Int))=((acc+(c%128)*2^(7*i):Nat):Int):=by
 have hb:=word_lt hc ha hi h9
 rw [shl_u64 (by omega) (by omega),or_u64 ha hb]
theorem low7 {c:Nat} (h:c<256):IntKind.wrap .u64 (iAnd .u8 (c:Int) 127)=((c%128:Nat):Int):=by rw [and_u8 h,wrapU64];omega
theorem acc_lt {c acc i:Nat} (ha:acc<2^(7*i)):acc+(c%128)*2^(7*i)<2^(7*(i+1)):=by
 have h1:c%128≤127:=by omega
 have h3:(c%128)*2^(7*i)≤127*2^(7*i):=Nat.mul_le_mul_right _ h1
 have h6:(2:Nat)^(7*(i+1))=128*2^(7*i):=by rw [Nat.mul_add,Nat.pow_add,Nat.mul_comm]
 omega
theorem acc_next (c acc i v:Nat) (h:128≤c) (h2:c<256):acc+(c%128)*2^(7*i)+v*2^(7*(i+1))=acc+(c-128+128*v)*2^(7*i):=by
 have h6:(2:Nat)^(7*(i+1))=128*2^(7*i):=by rw [Nat.mul_add,Nat.pow_add,Nat.mul_comm]
 rw [h6,show c%128=c-128 by omega,Nat.add_mul,Nat.mul_comm 128 v,Nat.mul_assoc]
 omega
theorem int_loop : ∀ (n i acc m : Nat) (p : List Int), i + n = 9 → n < m → acc < 2 ^ (7 * i) → Bytes p →
    ctf_reader_int.l0 m (acc:Int) (i:Int) p=some (match dec7 i p with|none=> .inl (.error bad)|some q=> .inr (((acc+q.1*2^(7*i):Nat):Int),q.2))
  |n,i,acc,0,p,hi,hm,ha,hb=>by omega
  | n, i, acc, m + 1, [], hi, hm, ha, hb => by
    rw [ctf_reader_int.l0,take1_nil]
    rfl
  | n, i, acc, m + 1, c :: r, hi, hm, ha, hb => by
    have hc:=hb c List.mem_cons_self
    have hr:Bytes r:=fun x hx=>hb x (List.mem_cons_of_mem _ hx)
    obtain ⟨c,rfl⟩:∃n:Nat,c=(n:Int):=⟨c.toNat,by omega⟩
    have hc':c<256:=by omega
    have e7:IntKind.wrap .i64 (7*(i:Int))=((7*i:Nat):Int):=by rw [wrapI64 (by omega) (by omega)];omega
    rw [ctf_reader_int.l0,take1_cons]
    simp only [Option.bind_some]
    rw [if_pos (by simp),show rd 0 [(c:Int)] (0:Int)=(c:Int) from rfl,e7,low7 hc']
    unfold dec7
    by_cases h1:i=9∧1<(c:Int)
    · rw [if_pos (by simp;omega),if_pos (.inl h1)]
      rfl
    · rw [if_neg (by simp;omega),if_pos (by omega),word_step hc' ha (by omega) (by omega)]
      have e1:IntKind.wrap .i64 ((i:Int)+1)=((i+1:Nat):Int):=by rw [wrapI64 (by omega) (by omega)];omega
      rw [e1]
      by_cases h2:(c:Int)<128
      · rw [if_pos (decide_eq_true h2)]
        by_cases h3:0<i∧(c:Int)=0
        · rw [if_pos (by simp;omega),if_pos (.inr h3)]
          rfl
        · rw [if_neg (by simp;omega),if_neg (by omega),if_pos h2]
          rw [show c%128=c by omega]
          rfl
      · rw [if_neg (by simpa using h2),if_neg (by omega),if_neg h2]
        have hn:i≠9:=by omega
        rw [int_loop (n-1) (i+1) _ m r (by omega) (by omega) (acc_lt ha) hr]
        cases hd:dec7 (i+1) r with
        |none=>rfl
        | some q =>
          show some (Sum.inr _)=some (Sum.inr _)
          rw [acc_next c acc i q.1 (by omega) hc']
          rfl
theorem zag_word {u:Nat} (h:u<2^64):zag u=if (iAnd .u64 (u:Int) 1==1)=true then iNot .i64 (IntKind.wrap .i64 (iShr .u64 (u:Int) 1)) else IntKind.wrap .i64 (iShr .u64 (u:Int) 1):=by
 have h64:(2:Nat)^64=18446744073709551616:=Nat.eq_of_beq_eq_true rfl
 have e:iShr .u64 (u:Int) 1=((u/2:Nat):Int):=shr_u64 u 1 (by omega)
 rw [and1_u64 h,e,wrapI64 (by omega) (by omega)]
 unfold zag
 by_cases h1:u%2=1
 ·rw [if_pos h1,if_pos (by rw [h1];rfl),not_i64 (by have:(2:Nat)^63=9223372036854775808:=Nat.eq_of_beq_eq_true rfl;omega)]
 ·rw [if_neg h1,if_neg (by simp;omega)]
theorem rint_ok {k:Nat} {p:List Int} (hk:10≤k) (hb:Bytes p):ctf_reader_int.f k p=some (toE (decI p)):=by
  show ctf_reader_int.f k p=_
  unfold ctf_reader_int.f decI
  have:=int_loop 9 0 0 k p rfl (by omega) (by simp) hb
  rw [show ((0:Nat):Int)=0 from rfl] at this
  rw [this]
  cases hd:dec7 0 p with
  |none=>rfl
  | some q =>
    have hq:=(enc_dec7 9 0 p q.1 q.2 rfl hb hd).2.1
    simp only [Option.bind_some,Option.map_some,Nat.mul_zero,Nat.pow_zero,Nat.mul_one,Nat.zero_add,toE] at hq⊢
    rw [zag_word hq]
    split<;>rfl
theorem rstring_ok {k:Nat} {p:List Int} (hk:10≤k) (hb:Bytes p):ctf_reader_string.f k p=some (toE (dcS p)):=by
  show ctf_reader_string.f k p=_
  unfold ctf_reader_string.f dcS
  rw [rint_ok hk hb]
  cases hd:decI p with
  |none=>rfl
  | some q =>
    simp only [Option.bind_some,toE,take_ok]
    by_cases h:q.1<0∨(q.2.length:Int)<q.1
    · rw [if_pos h,if_pos h]
    · rw [if_neg h,if_neg h]
theorem rbool_ok {p:List Int} (hb:Bytes p):ctf_reader_bool.f p=some (toE (dcB p)):=by
  unfold ctf_reader_bool.f
  cases p with
  |nil=>rw [take1_nil];rfl
  | cons c r =>
    rw [take1_cons]
    simp only [Option.bind_some]
    rw [if_pos (by simp),show rd 0 [c] (0:Int)=c from rfl]
    show _=some (toE (if 1<c then none else some (c==1,r)))
    by_cases h:1<c
    · rw [if_pos (decide_eq_true h),if_pos h];rfl
    · rw [if_neg (by simpa using h),if_neg h];rfl
theorem rfield_ok {k:Nat} {p:List Int} (hk:10≤k) (hb:Bytes p):ctf_reader_field.f k p=some (toE (dcF p)):=by
  show ctf_reader_field.f k p=_
  unfold ctf_reader_field.f dcF
  rw [rstring_ok hk hb]
  cases h1:dcS p with
  |none=>rfl
  | some a =>
    obtain ⟨b1,_⟩:=Bytes.suf suf_S h1 hb
    simp only [Option.bind_some,toE]
    rw [rint_ok hk b1]
    cases h2:decI a.2 with
    |none=>rfl
    | some b =>
      obtain ⟨b2,_⟩:=Bytes.suf suf_I h2 b1
      simp only [Option.bind_some,toE]
      rw [rint_ok hk b2]
      cases h3:decI b.2 with
      |none=>rfl
      |some c=>rfl
theorem rfields_loop {k:Nat} (hk:10≤k) {v:Int×List Int}:∀(e j m:Nat) (p:List Int) (out:List api_Field),((j+e:Nat):Int)=v.1→e<m→Bytes p→out.length+e≤4294967296→v.1≤4294967296→
    ctf_list_api_Field.l0 k v m (j:Int) p out=some (match dcN dcF e p with|none=> .inl (.error bad)|some q=> .inr (q.2,out++q.1))
  |e,j,0,p,out,hj,hm,hb,hl,hv=>by omega
  | 0, j, m + 1, p, out, hj, hm, hb, hl, hv => by
    rw [ctf_list_api_Field.l0,if_neg (by simp;omega)]
    simp [dcN]
  | e + 1, j, m + 1, p, out, hj, hm, hb, hl, hv => by
    rw [ctf_list_api_Field.l0,if_pos (by simp;omega),rfield_ok hk hb]
    unfold dcN
    cases h1:dcF p with
    |none=>rfl
    | some a =>
      obtain ⟨b1,_⟩:=Bytes.suf suf_F h1 hb
      simp only [Option.bind_some,toE]
      have e1:IntKind.wrap .i64 ((j:Int)+1)=((j+1:Nat):Int):=by rw [wrapI64 (by omega) (by omega)];omega
      rw [if_pos (by omega),e1,rfields_loop hk e (j+1) m a.2 _ (by omega) (by omega) b1 (by simp;omega) hv]
      cases h2:dcN dcF e a.2 with
      |none=>rfl
      |some q=>simp
theorem rfields_ok {k:Nat} {p:List Int} (hk:10≤k) (hl:p.length<k) (hL:p.length≤4294967296) (hb:Bytes p):ctf_list_api_Field.f k p=some (toE (dcL dcF p)):=by
  show ctf_list_api_Field.f k p=_
  unfold ctf_list_api_Field.f dcL
  rw [rint_ok hk hb]
  cases h1:decI p with
  |none=>rfl
  | some a =>
    obtain ⟨b1,l1⟩:=Bytes.suf suf_I h1 hb
    simp only [Option.bind_some,toE]
    by_cases h:a.1<0∨(a.2.length:Int)<a.1
    · rw [if_pos (by simpa using h),if_pos h]
      rfl
    · rw [if_neg (by simpa using h),if_neg h]
      have:=rfields_loop hk (v:=a) a.1.toNat 0 k a.2 [] (by omega) (by omega) b1 (by simp;omega) (by omega)
      rw [show ((0:Nat):Int)=0 from rfl] at this
      rw [this]
      cases h2:dcN dcF a.1.toNat a.2 with
      |none=>rfl
      |some q=>rfl
theorem rdef_ok {k : Nat} {p : List Int} (hk : 10 ≤ k) (hl : p.length < k) (hL : p.length ≤ 4294967296) (hb : Bytes p) : ctf_reader_def.f k p = some (toE (dcD p)) := by
  show ctf_reader_def.f k p=_
  unfold ctf_reader_def.f dcD
  rw [rint_ok hk hb]
  cases h1:decI p with
  |none=>rfl
  | some a =>
    obtain ⟨b1,l1⟩:=Bytes.suf suf_I h1 hb
    simp only [Option.bind_some,toE]
    rw [rstring_ok hk b1]
    cases h2:dcS a.2 with
    |none=>rfl
    | some b =>
      obtain ⟨b2,l2⟩:=Bytes.suf suf_S h2 b1
      simp only [Option.bind_some,toE]
      rw [rint_ok hk b2]
      cases h3:decI b.2 with
      |none=>rfl
      | some c =>
        obtain ⟨b3,l3⟩:=Bytes.suf suf_I h3 b2
        simp only [Option.bind_some,toE]
        rw [rbool_ok b3]
        cases h4:dcB c.2 with
        |none=>rfl
        | some d =>
          obtain ⟨b4,l4⟩:=Bytes.suf suf_B h4 b3
          simp only [Option.bind_some,toE]
          rw [rint_ok hk b4]
          cases h5:decI d.2 with
          |none=>rfl
          | some e =>
            obtain ⟨b5,l5⟩:=Bytes.suf suf_I h5 b4
            simp only [Option.bind_some,toE]
            rw [rint_ok hk b5]
            cases h6:decI e.2 with
            |none=>rfl
            | some f =>
              obtain ⟨b6,l6⟩:=Bytes.suf suf_I h6 b5
              simp only [Option.bind_some,toE]
              rw [rfields_ok hk (by omega) (by omega) b6]
              cases h7:dcL dcF f.2 with
              |none=>rfl
              |some g=>rfl
theorem rddefs_loop {k:Nat} (hk:10≤k) {v:Int×List Int}:∀(e j m:Nat) (p:List Int) (out:List api_Def),((j+e:Nat):Int)=v.1→e<m→Bytes p→out.length+e≤4294967296→v.1≤4294967296→p.length<k→p.length≤4294967296→
    ctf_list_api_Def.l0 k v m (j:Int) p out=some (match dcN dcD e p with|none=> .inl (.error bad)|some q=> .inr (q.2,out++q.1))
  |e,j,0,p,out,hj,hm,hb,hl,hv,hp,hL=>by omega
  | 0, j, m + 1, p, out, hj, hm, hb, hl, hv, hp, hL => by
    rw [ctf_list_api_Def.l0,if_neg (by simp;omega)]
    simp [dcN]
  | e + 1, j, m + 1, p, out, hj, hm, hb, hl, hv, hp, hL => by
    rw [ctf_list_api_Def.l0,if_pos (by simp;omega),rdef_ok hk hp hL hb]
    unfold dcN
    cases h1:dcD p with
    |none=>rfl
    | some a =>
      obtain ⟨b1,l1⟩:=Bytes.suf suf_D h1 hb
      simp only [Option.bind_some,toE]
      have e1:IntKind.wrap .i64 ((j:Int)+1)=((j+1:Nat):Int):=by rw [wrapI64 (by omega) (by omega)];omega
      rw [if_pos (by omega),e1,rddefs_loop hk e (j+1) m a.2 _ (by omega) (by omega) b1 (by simp;omega) hv (by omega) (by omega)]
      cases h2:dcN dcD e a.2 with
      |none=>rfl
      |some q=>simp
theorem rdefs_ok {k:Nat} {p:List Int} (hk:10≤k) (hl:p.length<k) (hL:p.length≤4294967296) (hb:Bytes p):ctf_list_api_Def.f k p=some (toE (dcL dcD p)):=by
  show ctf_list_api_Def.f k p=_
  unfold ctf_list_api_Def.f dcL
  rw [rint_ok hk hb]
  cases h1:decI p with
  |none=>rfl
  | some a =>
    obtain ⟨b1,l1⟩:=Bytes.suf suf_I h1 hb
    simp only [Option.bind_some,toE]
    by_cases h:a.1<0∨(a.2.length:Int)<a.1
    · rw [if_pos (by simpa using h),if_pos h]
      rfl
    · rw [if_neg (by simpa using h),if_neg h]
      have:=rddefs_loop hk (v:=a) a.1.toNat 0 k a.2 [] (by omega) (by omega) b1 (by simp;omega) (by omega) (by omega) (by omega)
      rw [show ((0:Nat):Int)=0 from rfl] at this
      rw [this]
      cases h2:dcN dcD a.1.toNat a.2 with
      |none=>rfl
      |some q=>rfl
end Go.Proofs.YtfjppgobidjndaaDoor
set_option maxRecDepth 20000
namespace Go.Proofs.YtfjppgobidjndaaDoor
open Go.RowKit Go.M
def RefR {α:Type} (B:List Int) (W:Int) (res:Option (α×List Int)) (o:α×Int×Bool×Int):Prop:=
 match res with
 |none=>o.2.2.1=true
 |some q=>∃j:Nat,j≤B.length∧q.2=B.drop j∧o=(q.1,(j:Int),false,W)
structure RdOk {α:Type} (B:List Int) (R:Int→Bool→Int→Option (α×Int×Bool×Int)) (d:List Int→Option (α×List Int)):Prop where
 good:∀(n:Nat) (W:Int),n≤B.length→∃o,R (n:Int) false W=some o∧RefR B W (d (B.drop n)) o
 bad:∀(a W:Int),∃o,R a true W=some o∧o.2.2.1=true
theorem RdOk.pure {α:Type} {B:List Int} (x:α):RdOk B (fun a b W=>some (x,a,b,W)) (fun p=>some (x,p)):=
 ⟨fun n W hn=>⟨_,rfl,n,hn,rfl,rfl⟩,fun a W=>⟨_,rfl,rfl⟩⟩
theorem RdOk.bind {α β:Type} {B:List Int} {R:Int→Bool→Int→Option (α×Int×Bool×Int)} {d:List Int→Option (α×List Int)} {G:α→Int→Bool→Int→Option (β×Int×Bool×Int)} {g:α→List Int→Option (β×List Int)}
    (h:RdOk B R d) (hg:∀x,RdOk B (G x) (g x)):RdOk B (fun a b W=>(R a b W).bind fun v=>G v.1 v.2.1 v.2.2.1 v.2.2.2) (fun p=>(d p).bind fun q=>g q.1 q.2):=by
  constructor
  · intro n W hn
    obtain ⟨o,h1,h2⟩:=h.good n W hn
    show∃o,(R n false W).bind _=_∧RefR B W ((d (B.drop n)).bind _) o
    rw [h1]
    cases hd:d (B.drop n) with
    | none =>
      rw [hd] at h2
      obtain ⟨x,a,b,W'⟩:=o
      obtain rfl:b=true:=h2
      exact (hg x).bad a W'
    | some q =>
      rw [hd] at h2
      obtain ⟨j,hj,hq,rfl⟩:=h2
      show∃o,G q.1 (j:Int) false W=some o∧RefR B W (g q.1 q.2) o
      rw [hq]
      exact (hg q.1).good j W hj
  · intro a W
    obtain ⟨o,h1,h2⟩:=h.bad a W
    show∃o,(R a true W).bind _=_∧_
    rw [h1]
    obtain ⟨x,a,b,W'⟩:=o
    obtain rfl:b=true:=h2
    exact (hg x).bad a W'
section
variable {B:List Int} (hB:Bytes B) (hL:B.length≤4294967296)
include hL
theorem byte_at {n:Nat} (h:n<B.length) (W:Int):taplineref08_Reader_Byte.f B (n:Int) false W=some (B.getD n 0,((n+1:Nat):Int),false,W):=by
 unfold taplineref08_Reader_Byte.f
 have e1:IntKind.wrap .i64 ((n:Int)+1)=((n+1:Nat):Int):=by rw [wrapI64 (by omega) (by omega)];omega
 have e2:IntKind.wrap .i64 (((n+1:Nat):Int)-1)=(n:Int):=by rw [wrapI64 (by omega) (by omega)];omega
 rw [if_neg (by simp),if_neg (by simp;omega),e1,e2,if_pos (by omega),rd_nat]
omit hL in
theorem byte_end (W:Int):taplineref08_Reader_Byte.f B (B.length:Int) false W=some (0,(B.length:Int),true,(B.length:Int)):=by
 unfold taplineref08_Reader_Byte.f taplineref08_Reader_Refuse.f
 rw [if_neg (by simp),if_pos (by simp)]
 rfl
omit hL in
theorem byte_bad (a W:Int):taplineref08_Reader_Byte.f B a true W=some (0,a,true,W):=by
 unfold taplineref08_Reader_Byte.f
 rw [if_pos rfl]
omit hL in
theorem refuse_good (a W x:Int):taplineref08_Reader_Refuse.f B a false W x=some (true,x):=rfl
omit hL in
omit hL in
theorem zag_ref {u:Nat} (h:u<2^64):zag u=if (iRem (u:Int) 2==1)=true then IntKind.wrap .i64 ((IntKind.wrap .i64 (0-(IntKind.wrap .i64 (iShr .u64 (u:Int) 1))))-1) else IntKind.wrap .i64 (iShr .u64 (u:Int) 1):=by
 have h64:(2:Nat)^64=18446744073709551616:=Nat.eq_of_beq_eq_true rfl
 have e:iShr .u64 (u:Int) 1=((u/2:Nat):Int):=shr_u64 u 1 (by omega)
 have e2:iRem (u:Int) 2=((u%2:Nat):Int):=by
  show Int.tmod (u:Int) 2=_
  rw [Int.tmod_eq_emod_of_nonneg (by omega)]
  omega
 rw [e2,e,wrapI64 (x:=((u/2:Nat):Int)) (by omega) (by omega),wrapI64 (x:=0-((u/2:Nat):Int)) (by omega) (by omega),wrapI64 (x:=0-((u/2:Nat):Int)-1) (by omega) (by omega)]
 unfold zag
 by_cases h1:u%2=1
 ·rw [if_pos h1,if_pos (by rw [h1];rfl)]
  omega
 ·rw [if_neg h1,if_neg (by simp;omega)]
include hB
theorem refint_loop (W : Int) : ∀ (n i acc m a : Nat), i + n = 9 → n < m → acc < 2 ^ (7 * i) → a ≤ B.length →
    ∃o,taplineref08_Reader_Int.l0 B m (acc:Int) (i:Int) (a:Int) false W=some (.inl o)∧RefR B W ((dec7 i (B.drop a)).map fun q=>(zag (acc+q.1*2^(7*i)),q.2)) o
  |n,i,acc,0,a,hi,hm,hacc,ha=>by omega
  | n, i, acc, m + 1, a, hi, hm, hacc, ha => by
    rw [taplineref08_Reader_Int.l0,if_pos (by simp;omega)]
    rcases Nat.lt_or_ge a B.length with hlt|hge
    · have hc:=hB _ (getD_mem (z:=0) hlt)
      rw [byte_at hL hlt,drop_getD 0 hlt]
      generalize B.getD a 0=c at*
      obtain ⟨c,rfl⟩:∃n:Nat,c=(n:Int):=⟨c.toNat,by omega⟩
      have hc':c<256:=by omega
      have e7:IntKind.wrap .i64 (7*(i:Int))=((7*i:Nat):Int):=by rw [wrapI64 (by omega) (by omega)];omega
      simp only [Option.bind_some]
      rw [if_neg (by simp)]
      unfold dec7
      by_cases h1:(i=9∧1<(c:Int))∨(0<i∧(c:Int)=0)
      · rw [if_pos (by simp;omega),if_pos h1,refuse_good]
        exact ⟨_,rfl,rfl⟩
      · have er:iRem (c:Int) 128=((c%128:Nat):Int):=by
          show Int.tmod (c:Int) 128=_
          rw [Int.tmod_eq_emod_of_nonneg (by omega)]
          omega
        have ew:IntKind.wrap .u64 ((c%128:Nat):Int)=((c%128:Nat):Int):=by rw [wrapU64];omega
        rw [if_neg (by simp;omega),if_neg h1,e7,if_pos (by omega),er,ew,word_step hc' hacc (by omega) (by omega)]
        have e1:IntKind.wrap .i64 ((i:Int)+1)=((i+1:Nat):Int):=by rw [wrapI64 (by omega) (by omega)];omega
        by_cases h2:(c:Int)<128
        · rw [if_pos (decide_eq_true h2),if_pos h2]
          have hw:=word_lt hc' hacc (by omega) (by omega)
          have hz:=zag_ref hw
          have e3:(c:Int).toNat=c%128:=by omega
          refine ⟨(zag (acc+c%128*2^(7*i)),((a+1:Nat):Int),false,W),?_,a+1,by omega,rfl,?_⟩
          · rw [hz]
            split<;>rfl
          · show _=(zag (acc+(c:Int).toNat*2^(7*i)),_,_,_)
            rw [e3]
        · rw [if_neg (by simpa using h2),if_neg h2,e1]
          obtain ⟨o,h3,h4⟩:=refint_loop W (n-1) (i+1) _ m (a+1) (by omega) (by omega) (acc_lt hacc) (by omega)
          refine ⟨o,h3,?_⟩
          cases hd:dec7 (i+1) (B.drop (a+1)) with
          |none=>rw [hd] at h4;exact h4
          | some q =>
            rw [hd] at h4
            simp only [Option.map_some] at h4⊢
            rw [acc_next c acc i q.1 (by omega) hc'] at h4
            exact h4
    · obtain rfl:a=B.length:=by omega
      rw [byte_end]
      simp only [Option.bind_some]
      rw [if_pos trivial,List.drop_eq_nil_of_le (Nat.le_refl _)]
      exact ⟨_,rfl,rfl⟩
theorem refint_ok {k:Nat} (hk:10≤k):RdOk B (taplineref08_Reader_Int.f k B) decI:=by
 constructor
 ·intro n W hn
  obtain ⟨o,h1,h2⟩:=refint_loop hB hL W 9 0 0 k n rfl (by omega) (by simp) hn
  refine ⟨o,?_,?_⟩
  ·show taplineref08_Reader_Int.f k B (n:Int) false W=_
   unfold taplineref08_Reader_Int.f
   rw [show ((0:Nat):Int)=0 from rfl] at h1
   rw [h1]
   rfl
  ·unfold decI
   simpa using h2
 ·intro a W
  obtain ⟨m,rfl⟩:∃m,k=m+1:=⟨k-1,by omega⟩
  refine ⟨(0,a,true,W),?_,rfl⟩
  show taplineref08_Reader_Int.f (m+1) B a true W=_
  unfold taplineref08_Reader_Int.f
  rw [taplineref08_Reader_Int.l0,if_neg (by simp)]
  rfl
def dcLen (p:List Int):Option (Int×List Int):=(decI p).bind fun q=>if q.1<0∨(q.2.length:Int)<q.1 then none else some (q.1,q.2)
theorem reflen_ok {k:Nat} (hk:10≤k):RdOk B (taplineref08_Reader_Len.f k B) dcLen:=by
 refine RdOk.bind (G:=fun x a b W=>((if ((!b)&&((decide (x<0))||(decide (x>(IntKind.wrap .i64 ((B.length:Int)-a))))))=true then ((taplineref08_Reader_Refuse.f B a b W (IntKind.wrap .i64 (a-1))).bind fun v2=>(some (v2.1,v2.2))) else (some (b,W))):Option (Bool×Int)).bind fun xx1=>(if xx1.1=true then (some (0,a,xx1.1,xx1.2)) else (some (x,a,xx1.1,xx1.2))))
  (g:=fun x p=>if x<0∨(p.length:Int)<x then none else some (x,p)) (refint_ok hB hL hk) ?_
 intro x
 constructor
 ·intro n W hn
  have e:IntKind.wrap .i64 ((B.length:Int)-(n:Int))=((B.drop n).length:Int):=by rw [wrapI64 (by omega) (by omega),List.length_drop];omega
  simp only [e]
  by_cases h:x<0∨((B.drop n).length:Int)<x
  ·rw [if_pos (by simpa using h),if_pos h,refuse_good]
   exact ⟨_,rfl,rfl⟩
  ·rw [if_neg (by simpa using h),if_neg h]
   exact ⟨_,rfl,n,hn,rfl,rfl⟩
 ·intro a W
  exact ⟨(0,a,true,W),by simp,rfl⟩
omit hB hL in
theorem dcLen_some {p r:List Int} {x:Int} (h:dcLen p=some (x,r)):0≤x∧x≤(r.length:Int)∧decI p=some (x,r):=by
  unfold dcLen at h
  cases hd:decI p with
  |none=>rw [hd] at h;cases h
  | some q =>
    rw [hd] at h
    simp only [Option.bind_some] at h
    split at h
    · cases h
    · obtain ⟨rfl,rfl⟩:=Prod.mk.inj (Option.some.inj h)
      exact ⟨by omega,by omega,rfl⟩
theorem reftext_ok {k : Nat} (hk : 10 ≤ k) : RdOk B (taplineref08_Reader_Text.f k B) dcS := by
  have hlen:=reflen_ok hB hL hk
  have hS:∀p,dcS p=(dcLen p).bind fun q=>some (strOf (q.2.take q.1.toNat),q.2.drop q.1.toNat):=fun p=>by
    unfold dcS dcLen
    cases decI p with
    |none=>rfl
    | some q =>
      simp only [Option.bind_some]
      split<;>rfl
  constructor
  · intro n W hn
    obtain ⟨o,h1,h2⟩:=hlen.good n W hn
    show∃o,taplineref08_Reader_Text.f k B (n:Int) false W=_∧_
    unfold taplineref08_Reader_Text.f
    rw [h1,hS]
    cases hd:dcLen (B.drop n) with
    | none =>
      rw [hd] at h2
      have h2:o.2.2.1=true:=h2
      simp only [Option.bind_some]
      rw [if_pos h2]
      exact ⟨_,rfl,h2⟩
    | some q =>
      rw [hd] at h2
      obtain ⟨j,hj,hq,rfl⟩:=h2
      obtain ⟨g1,g2,_⟩:=dcLen_some (p:=B.drop n) (x:=q.1) (r:=q.2) hd
      rw [hq,List.length_drop] at g2
      have e1:IntKind.wrap .i64 ((j:Int)+q.1)=((j+q.1.toNat:Nat):Int):=by rw [wrapI64 (by omega) (by omega)];omega
      have e2:IntKind.wrap .i64 (((j+q.1.toNat:Nat):Int)-q.1)=(j:Int):=by rw [wrapI64 (by omega) (by omega)];omega
      simp only [Option.bind_some]
      rw [if_neg (by simp),e1,e2,if_pos (by omega)]
      refine ⟨_,rfl,j+q.1.toNat,by omega,?_,?_⟩
      · show q.2.drop q.1.toNat=_
        rw [hq,List.drop_drop]
      · show (strOf (List.drop (j:Int).toNat (List.take ((j+q.1.toNat:Nat):Int).toNat B)),_,_,_)=(strOf (q.2.take q.1.toNat),_,_,_)
        rw [hq,Int.toNat_natCast,Int.toNat_natCast,List.drop_take,Nat.add_sub_cancel_left]
  · intro a W
    obtain ⟨o,h1,h2⟩:=hlen.bad a W
    show∃o,taplineref08_Reader_Text.f k B a true W=_∧_
    unfold taplineref08_Reader_Text.f
    rw [h1]
    simp only [Option.bind_some]
    rw [if_pos h2]
    exact ⟨_,rfl,h2⟩
omit hB in
theorem refbool_ok : RdOk B (taplineref08_Reader_Bool.f B) dcB := by
  constructor
  · intro n W hn
    show∃o,taplineref08_Reader_Bool.f B (n:Int) false W=_∧_
    unfold taplineref08_Reader_Bool.f
    rcases Nat.lt_or_ge n B.length with hlt|hge
    · rw [byte_at hL hlt,drop_getD 0 hlt]
      simp only [Option.bind_some]
      show∃o,_∧RefR B W (if 1<B.getD n 0 then none else some (B.getD n 0==1,B.drop (n+1))) o
      by_cases h:1<B.getD n 0
      · rw [if_pos (by simpa using h),if_pos h,refuse_good]
        exact ⟨_,rfl,rfl⟩
      · rw [if_neg (by simpa using h),if_neg h]
        exact ⟨_,rfl,n+1,by omega,rfl,rfl⟩
    · obtain rfl:n=B.length:=by omega
      rw [byte_end,List.drop_eq_nil_of_le (Nat.le_refl _)]
      exact ⟨_,rfl,rfl⟩
  · intro a W
    show∃o,taplineref08_Reader_Bool.f B a true W=_∧_
    unfold taplineref08_Reader_Bool.f
    rw [byte_bad]
    exact ⟨_,rfl,rfl⟩
def fieldR (k:Nat) (B:List Int) (a:Int) (b:Bool) (W:Int):Option (api_Field×Int×Bool×Int):=
 (taplineref08_Reader_Text.f k B a b W).bind fun v11=>(taplineref08_Reader_Int.f k B v11.2.1 v11.2.2.1 v11.2.2.2).bind fun v12=>(taplineref08_Reader_Int.f k B v12.2.1 v12.2.2.1 v12.2.2.2).bind fun v13=>some (⟨v11.1,v12.1,v13.1⟩,v13.2)
theorem reffield_ok {k:Nat} (hk:10≤k):RdOk B (fieldR k B) dcF:=
 RdOk.bind (G:=fun x a b W=>(taplineref08_Reader_Int.f k B a b W).bind fun v12=>(taplineref08_Reader_Int.f k B v12.2.1 v12.2.2.1 v12.2.2.2).bind fun v13=>some ((⟨x,v12.1,v13.1⟩:api_Field),v13.2))
  (g:=fun x p=>(decI p).bind fun b=>(decI b.2).bind fun c=>some ((⟨x,b.1,c.1⟩:api_Field),c.2)) (reftext_ok hB hL hk) fun x=>
 RdOk.bind (G:=fun y a b W=>(taplineref08_Reader_Int.f k B a b W).bind fun v13=>some ((⟨x,y,v13.1⟩:api_Field),v13.2))
  (g:=fun y p=>(decI p).bind fun c=>some ((⟨x,y,c.1⟩:api_Field),c.2)) (refint_ok hB hL hk) fun y=>
 RdOk.bind (G:=fun z a b W=>some ((⟨x,y,z⟩:api_Field),a,b,W)) (g:=fun z p=>some ((⟨x,y,z⟩:api_Field),p)) (refint_ok hB hL hk) fun z=>RdOk.pure _
omit hB hL in
theorem l2_step (k:Nat) (v:Int×Int×Bool×Int) (m:Nat) (j a:Int) (b:Bool) (W:Int) (out:List api_Field):taplineref08_Decode.l2 k B v (m+1) j a b W out=
  if ((decide (j<v.1))&&(!b))=true then (fieldR k B a b W).bind fun o=>(if out.length+1≤4294967296 then taplineref08_Decode.l2 k B v m (IntKind.wrap .i64 (j+1)) o.2.1 o.2.2.1 o.2.2.2 (out++[o.1]) else none) else some (a,b,W,out):=by
 rw [taplineref08_Decode.l2]
 unfold fieldR
 simp only [Option.bind_assoc,Option.bind_some]
omit hB hL in
theorem l2_bad (k:Nat) (v:Int×Int×Bool×Int) {m:Nat} (hm:0<m) (j a W:Int) (out:List api_Field):taplineref08_Decode.l2 k B v m j a true W out=some (a,true,W,out):=by
 obtain ⟨m,rfl⟩:∃q,m=q+1:=⟨m-1,by omega⟩
 rw [l2_step,if_neg (by simp)]
theorem l2_ok {k : Nat} (hk : 10 ≤ k) {v : Int × Int × Bool × Int} (W : Int) : ∀ (e j m a : Nat) (out : List api_Field), ((j + e : Nat) : Int) = v.1 → e < m → a ≤ B.length → out.length + e ≤ 4294967296 → v.1 ≤ 4294967296 →
    ∃o,taplineref08_Decode.l2 k B v m (j:Int) (a:Int) false W out=some o∧(match dcN dcF e (B.drop a) with|none=>o.2.1=true|some q=>∃i:Nat,i≤B.length∧q.2=B.drop i∧o=((i:Int),false,W,out++q.1))
  |e,j,0,a,out,hj,hm,ha,hl,hv=>by omega
  | 0, j, m + 1, a, out, hj, hm, ha, hl, hv => by
    rw [l2_step,if_neg (by simp;omega)]
    exact ⟨_,rfl,a,ha,rfl,by simp⟩
  | e + 1, j, m + 1, a, out, hj, hm, ha, hl, hv => by
    rw [l2_step,if_pos (by simp;omega)]
    obtain ⟨o,h1,h2⟩:=(reffield_ok hB hL hk).good a W ha
    have e1:IntKind.wrap .i64 ((j:Int)+1)=((j+1:Nat):Int):=by rw [wrapI64 (by omega) (by omega)];omega
    rw [h1]
    simp only [Option.bind_some]
    rw [if_pos (by omega),e1]
    unfold dcN
    cases hd:dcF (B.drop a) with
    | none =>
      rw [hd] at h2
      have h2:o.2.2.1=true:=h2
      rw [h2,l2_bad k v (by omega)]
      exact ⟨_,rfl,rfl⟩
    | some q =>
      rw [hd] at h2
      obtain ⟨i,hi,hq,rfl⟩:=h2
      obtain ⟨o,h3,h4⟩:=l2_ok hk (v:=v) W e (j+1) m i (out++[q.1]) (by omega) (by omega) hi (by simp;omega) hv
      refine ⟨o,h3,?_⟩
      simp only [Option.bind_some]
      rw [hq]
      cases hn:dcN dcF e (B.drop i) with
      |none=>rw [hn] at h4;exact h4
      | some q2 =>
        rw [hn] at h4
        obtain ⟨i2,g1,g2,rfl⟩:=h4
        exact ⟨i2,g1,g2,by simp⟩
def fieldsR (k:Nat) (B:List Int) (a:Int) (b:Bool) (W:Int):Option (List api_Field×Int×Bool×Int):=
 (taplineref08_Reader_Len.f k B a b W).bind fun v10=>(taplineref08_Decode.l2 k B v10 k 0 v10.2.1 v10.2.2.1 v10.2.2.2 ([]:List api_Field)).bind fun xx3=>some (xx3.2.2.2,xx3.1,xx3.2.1,xx3.2.2.1)
omit hB hL in
theorem dcL_len {α:Type} (one:List Int→Option (α×List Int)) (p:List Int):dcL one p=(dcLen p).bind fun q=>dcN one q.1.toNat q.2:=by
  unfold dcL dcLen
  cases decI p with
  |none=>rfl
  | some q =>
    simp only [Option.bind_some]
    split<;>rfl
theorem reffields_ok {k : Nat} (hk : 10 ≤ k) (hkl : B.length < k) : RdOk B (fieldsR k B) (dcL dcF) := by
  have hlen:=reflen_ok hB hL hk
  constructor
  · intro n W hn
    obtain ⟨o,h1,h2⟩:=hlen.good n W hn
    unfold fieldsR
    rw [h1,dcL_len]
    simp only [Option.bind_some]
    cases hd:dcLen (B.drop n) with
    | none =>
      rw [hd] at h2
      have h2:o.2.2.1=true:=h2
      rw [h2,l2_bad k o (by omega)]
      exact ⟨_,rfl,rfl⟩
    | some q =>
      rw [hd] at h2
      obtain ⟨j,hj,hq,rfl⟩:=h2
      obtain ⟨g1,g2,_⟩:=dcLen_some (p:=B.drop n) (x:=q.1) (r:=q.2) hd
      rw [hq,List.length_drop] at g2
      obtain ⟨o,h3,h4⟩:=l2_ok hB hL hk (v:=(q.1,(j:Int),false,W)) W q.1.toNat 0 k j [] (by simp;omega) (by omega) hj (by simp;omega) (by simp;omega)
      rw [show ((0:Nat):Int)=0 from rfl] at h3
      simp only [Option.bind_some]
      rw [h3,hq]
      cases hn:dcN dcF q.1.toNat (B.drop j) with
      |none=>rw [hn] at h4;exact ⟨_,rfl,h4⟩
      | some q2 =>
        rw [hn] at h4
        obtain ⟨i2,e1,e2,rfl⟩:=h4
        exact ⟨_,rfl,i2,e1,e2,rfl⟩
  · intro a W
    obtain ⟨o,h1,h2⟩:=hlen.bad a W
    unfold fieldsR
    rw [h1]
    simp only [Option.bind_some]
    rw [h2,l2_bad k o (by omega)]
    exact ⟨_,rfl,rfl⟩
def defR (k:Nat) (B:List Int) (a:Int) (b:Bool) (W:Int):Option (api_Def×Int×Bool×Int):=
 (taplineref08_Reader_Int.f k B a b W).bind fun v4=>(taplineref08_Reader_Text.f k B v4.2.1 v4.2.2.1 v4.2.2.2).bind fun v5=>(taplineref08_Reader_Int.f k B v5.2.1 v5.2.2.1 v5.2.2.2).bind fun v6=>
 (taplineref08_Reader_Bool.f B v6.2.1 v6.2.2.1 v6.2.2.2).bind fun v7=>(taplineref08_Reader_Int.f k B v7.2.1 v7.2.2.1 v7.2.2.2).bind fun v8=>(taplineref08_Reader_Int.f k B v8.2.1 v8.2.2.1 v8.2.2.2).bind fun v9=>
 (fieldsR k B v9.2.1 v9.2.2.1 v9.2.2.2).bind fun v=>some (⟨v4.1,v5.1,⟨v6.1,v7.1⟩,v8.1,v9.1,v.1⟩,v.2)
theorem refdef_ok {k:Nat} (hk:10≤k) (hkl:B.length<k):RdOk B (defR k B) dcD:=
 RdOk.bind (G := fun x4 a b W => (taplineref08_Reader_Text.f k B a b W).bind fun v5 => (taplineref08_Reader_Int.f k B v5.2.1 v5.2.2.1 v5.2.2.2).bind fun v6 =>
   (taplineref08_Reader_Bool.f B v6.2.1 v6.2.2.1 v6.2.2.2).bind fun v7=>(taplineref08_Reader_Int.f k B v7.2.1 v7.2.2.1 v7.2.2.2).bind fun v8=>(taplineref08_Reader_Int.f k B v8.2.1 v8.2.2.1 v8.2.2.2).bind fun v9=>
   (fieldsR k B v9.2.1 v9.2.2.1 v9.2.2.2).bind fun v => some ((⟨x4, v5.1, ⟨v6.1, v7.1⟩, v8.1, v9.1, v.1⟩ : api_Def), v.2))
  (g:=fun a p=>(dcS p).bind fun b=>(decI b.2).bind fun c=>(dcB c.2).bind fun d=>(decI d.2).bind fun e=>(decI e.2).bind fun f=>(dcL dcF f.2).bind fun g=>some ((⟨a,b.1,⟨c.1,d.1⟩,e.1,f.1,g.1⟩:api_Def),g.2)) (refint_ok hB hL hk) fun x4=>
 RdOk.bind (G := fun x5 a b W => (taplineref08_Reader_Int.f k B a b W).bind fun v6 =>
   (taplineref08_Reader_Bool.f B v6.2.1 v6.2.2.1 v6.2.2.2).bind fun v7=>(taplineref08_Reader_Int.f k B v7.2.1 v7.2.2.1 v7.2.2.2).bind fun v8=>(taplineref08_Reader_Int.f k B v8.2.1 v8.2.2.1 v8.2.2.2).bind fun v9=>
   (fieldsR k B v9.2.1 v9.2.2.1 v9.2.2.2).bind fun v => some ((⟨x4, x5, ⟨v6.1, v7.1⟩, v8.1, v9.1, v.1⟩ : api_Def), v.2))
  (g:=fun b p=>(decI p).bind fun c=>(dcB c.2).bind fun d=>(decI d.2).bind fun e=>(decI e.2).bind fun f=>(dcL dcF f.2).bind fun g=>some ((⟨x4,b,⟨c.1,d.1⟩,e.1,f.1,g.1⟩:api_Def),g.2)) (reftext_ok hB hL hk) fun x5=>
 RdOk.bind (G := fun x6 a b W => (taplineref08_Reader_Bool.f B a b W).bind fun v7 => (taplineref08_Reader_Int.f k B v7.2.1 v7.2.2.1 v7.2.2.2).bind fun v8 => (taplineref08_Reader_Int.f k B v8.2.1 v8.2.2.1 v8.2.2.2).bind fun v9 =>
   (fieldsR k B v9.2.1 v9.2.2.1 v9.2.2.2).bind fun v => some ((⟨x4, x5, ⟨x6, v7.1⟩, v8.1, v9.1, v.1⟩ : api_Def), v.2))
  (g:=fun c p=>(dcB p).bind fun d=>(decI d.2).bind fun e=>(decI e.2).bind fun f=>(dcL dcF f.2).bind fun g=>some ((⟨x4,x5,⟨c,d.1⟩,e.1,f.1,g.1⟩:api_Def),g.2)) (refint_ok hB hL hk) fun x6=>
 RdOk.bind (G := fun x7 a b W => (taplineref08_Reader_Int.f k B a b W).bind fun v8 => (taplineref08_Reader_Int.f k B v8.2.1 v8.2.2.1 v8.2.2.2).bind fun v9 =>
   (fieldsR k B v9.2.1 v9.2.2.1 v9.2.2.2).bind fun v => some ((⟨x4, x5, ⟨x6, x7⟩, v8.1, v9.1, v.1⟩ : api_Def), v.2))
  (g:=fun d p=>(decI p).bind fun e=>(decI e.2).bind fun f=>(dcL dcF f.2).bind fun g=>some ((⟨x4,x5,⟨x6,d⟩,e.1,f.1,g.1⟩:api_Def),g.2)) (refbool_ok hL) fun x7=>
 RdOk.bind (G:=fun x8 a b W=>(taplineref08_Reader_Int.f k B a b W).bind fun v9=>(fieldsR k B v9.2.1 v9.2.2.1 v9.2.2.2).bind fun v=>some ((⟨x4,x5,⟨x6,x7⟩,x8,v9.1,v.1⟩:api_Def),v.2))
  (g:=fun e p=>(decI p).bind fun f=>(dcL dcF f.2).bind fun g=>some ((⟨x4,x5,⟨x6,x7⟩,e,f.1,g.1⟩:api_Def),g.2)) (refint_ok hB hL hk) fun x8=>
 RdOk.bind (G:=fun x9 a b W=>(fieldsR k B a b W).bind fun v=>some ((⟨x4,x5,⟨x6,x7⟩,x8,x9,v.1⟩:api_Def),v.2))
  (g:=fun f p=>(dcL dcF p).bind fun g=>some ((⟨x4,x5,⟨x6,x7⟩,x8,f,g.1⟩:api_Def),g.2)) (refint_ok hB hL hk) fun x9=>
 RdOk.bind (G:=fun x a b W=>some ((⟨x4,x5,⟨x6,x7⟩,x8,x9,x⟩:api_Def),a,b,W)) (g:=fun g p=>some ((⟨x4,x5,⟨x6,x7⟩,x8,x9,g⟩:api_Def),p)) (reffields_ok hB hL hk hkl) fun x=>RdOk.pure _
omit hB hL in
theorem l1_step (k:Nat) (v:Int×Int×Bool×Int) (m:Nat) (j a:Int) (b:Bool) (W:Int) (out:List api_Def):taplineref08_Decode.l1 k B v (m+1) j a b W out=
  if ((decide (j<v.1))&&(!b))=true then (defR k B a b W).bind fun o=>(if out.length+1≤4294967296 then taplineref08_Decode.l1 k B v m (IntKind.wrap .i64 (j+1)) o.2.1 o.2.2.1 o.2.2.2 (out++[o.1]) else none) else some (a,b,W,out):=by
 rw [taplineref08_Decode.l1]
 unfold defR fieldsR
 simp only [Option.bind_assoc,Option.bind_some]
omit hB hL in
theorem l1_bad (k:Nat) (v:Int×Int×Bool×Int) {m:Nat} (hm:0<m) (j a W:Int) (out:List api_Def):taplineref08_Decode.l1 k B v m j a true W out=some (a,true,W,out):=by
 obtain ⟨m,rfl⟩:∃q,m=q+1:=⟨m-1,by omega⟩
 rw [l1_step,if_neg (by simp)]
theorem l1_ok {k : Nat} (hk : 10 ≤ k) (hkl : B.length < k) {v : Int × Int × Bool × Int} (W : Int) : ∀ (e j m a : Nat) (out : List api_Def), ((j + e : Nat) : Int) = v.1 → e < m → a ≤ B.length → out.length + e ≤ 4294967296 → v.1 ≤ 4294967296 →
    ∃o,taplineref08_Decode.l1 k B v m (j:Int) (a:Int) false W out=some o∧(match dcN dcD e (B.drop a) with|none=>o.2.1=true|some q=>∃i:Nat,i≤B.length∧q.2=B.drop i∧o=((i:Int),false,W,out++q.1))
  |e,j,0,a,out,hj,hm,ha,hl,hv=>by omega
  | 0, j, m + 1, a, out, hj, hm, ha, hl, hv => by
    rw [l1_step,if_neg (by simp;omega)]
    exact ⟨_,rfl,a,ha,rfl,by simp⟩
  | e + 1, j, m + 1, a, out, hj, hm, ha, hl, hv => by
    rw [l1_step,if_pos (by simp;omega)]
    obtain ⟨o,h1,h2⟩:=(refdef_ok hB hL hk hkl).good a W ha
    have e1:IntKind.wrap .i64 ((j:Int)+1)=((j+1:Nat):Int):=by rw [wrapI64 (by omega) (by omega)];omega
    rw [h1]
    simp only [Option.bind_some]
    rw [if_pos (by omega),e1]
    unfold dcN
    cases hd:dcD (B.drop a) with
    | none =>
      rw [hd] at h2
      have h2:o.2.2.1=true:=h2
      rw [h2,l1_bad k v (by omega)]
      exact ⟨_,rfl,rfl⟩
    | some q =>
      rw [hd] at h2
      obtain ⟨i,hi,hq,rfl⟩:=h2
      obtain ⟨o,h3,h4⟩:=l1_ok hk hkl (v:=v) W e (j+1) m i (out++[q.1]) (by omega) (by omega) hi (by simp;omega) hv
      refine ⟨o,h3,?_⟩
      simp only [Option.bind_some]
      rw [hq]
      cases hn:dcN dcD e (B.drop i) with
      |none=>rw [hn] at h4;exact h4
      | some q2 =>
        rw [hn] at h4
        obtain ⟨i2,g1,g2,rfl⟩:=h4
        exact ⟨i2,g1,g2,by simp⟩
omit hB hL in
theorem head_bad:∀(e j m:Nat) (a W:Int),j+e=4→e<m→taplineref08_Decode.l0 B m (j:Int) a true W=some (a,true,W)
  |e,j,0,a,W,hj,hm=>by omega
  | 0, j, m + 1, a, W, hj, hm => by
    rw [taplineref08_Decode.l0,if_neg (by simp;omega)]
  | e + 1, j, m + 1, a, W, hj, hm => by
    have e1:IntKind.wrap .i64 ((j:Int)+1)=((j+1:Nat):Int):=by rw [wrapI64 (by omega) (by omega)];omega
    rw [taplineref08_Decode.l0,if_pos (by simp;omega),byte_bad]
    simp only [Option.bind_some]
    rw [if_pos (by simp),if_neg (by simp),e1]
    exact head_bad e (j+1) m a W (by omega) (by omega)
omit hB in
theorem head_ok (W : Int) : ∀ (e j m : Nat), j + e = 4 → e < m → j ≤ B.length → ∃ o, taplineref08_Decode.l0 B m (j : Int) (j : Int) false W = some o ∧ (if headL.drop j <+: B.drop j then o = (4, false, W) else o.2.1 = true)
  |e,j,0,hj,hm,hl=>by omega
  | 0, j, m + 1, hj, hm, hl => by
    obtain rfl:j=4:=by omega
    rw [taplineref08_Decode.l0,if_neg (by simp)]
    exact ⟨_,rfl,by rw [if_pos (by exact List.nil_prefix)];rfl⟩
  | e + 1, j, m + 1, hj, hm, hl => by
    have e1:IntKind.wrap .i64 ((j:Int)+1)=((j+1:Nat):Int):=by rw [wrapI64 (by omega) (by omega)];omega
    have hh:headL.drop j=headL.getD j 0::headL.drop (j+1):=drop_getD 0 (show j<4 by omega)
    rw [taplineref08_Decode.l0,if_pos (by simp;omega)]
    rcases Nat.lt_or_ge j B.length with hlt|hge
    · rw [byte_at hL hlt,hh,drop_getD 0 hlt]
      simp only [Option.bind_some]
      rw [if_pos (fun _=>⟨by omega,show (j:Int)<4 by omega⟩),show rd 0 ([67,84,70,1]:List Int) (j:Int)=headL.getD j 0 from rd_nat j,e1]
      by_cases hc:B.getD j 0=headL.getD j 0
      · rw [if_neg (by rw [hc];simp)]
        obtain ⟨o,h1,h2⟩:=head_ok W e (j+1) m (by omega) (by omega) (by omega)
        refine ⟨o,h1,?_⟩
        by_cases hp:headL.drop (j+1)<+:B.drop (j+1)
        · rw [if_pos hp] at h2
          rw [if_pos (List.cons_prefix_cons.2 ⟨hc.symm,hp⟩)]
          exact h2
        · rw [if_neg hp] at h2
          rw [if_neg (fun h=>hp (List.cons_prefix_cons.1 h).2)]
          exact h2
      · rw [if_pos (by simpa using hc),refuse_good]
        simp only [Option.bind_some]
        rw [head_bad e (j+1) m _ _ (by omega) (by omega)]
        refine ⟨_,rfl,?_⟩
        rw [if_neg (fun h=>hc (List.cons_prefix_cons.1 h).1.symm)]
    · obtain rfl:j=B.length:=by omega
      rw [byte_end]
      simp only [Option.bind_some]
      rw [if_pos (by simp),if_neg (by simp),e1,head_bad e _ m _ _ (by omega) (by omega)]
      refine ⟨_,rfl,?_⟩
      rw [List.drop_eq_nil_of_le (Nat.le_refl B.length),hh,if_neg (by simp)]
end
end Go.Proofs.YtfjppgobidjndaaDoor
set_option maxRecDepth 20000
namespace Go.Proofs.YtfjppgobidjndaaDoor
open Go.RowKit Go.M
theorem strOf_bytesOf (s:ByteArray):strOf (bytesOf s)=s:=by
 unfold strOf bytesOf
 rw [List.map_map]
 have:(fun n:Int=>UInt8.ofNat n.toNat)∘(fun b:UInt8=>(b.toNat:Int))=id:=by
  funext b
  simp
 rw [this,List.map_id]
theorem bytesOf_strOf {l:List Int} (h:Bytes l):bytesOf (strOf l)=l:=by
 unfold strOf bytesOf
 simp only [List.map_map]
 have:∀x∈l,((fun b:UInt8=>(b.toNat:Int))∘fun n:Int=>UInt8.ofNat n.toNat) x=x:=fun x hx=>by
  have:=h x hx
  simp only [Function.comp_apply,UInt8.toNat_ofNat']
  omega
 rw [List.map_congr_left this]
 simp
structure Codec {α:Type} (enc:α→List Int) (dc:List Int→Option (α×List Int)) (P:α→Prop):Prop where
 fwd:∀x r,P x→dc (enc x++r)=some (x,r)
 bwd:∀p x r,Bytes p→dc p=some (x,r)→enc x++r=p∧P x
 pos:∀x,1≤(enc x).length
 suf:Suf dc
theorem codec_I:Codec encI decI I64:=⟨fun x r h=>decI_encI h r,fun p x r hb h=>encI_decI hb h,fun x=>(encI_len x).2,suf_I⟩
theorem codec_S : Codec encS dcS (fun s => s.size ≤ 9223372036854775807) := by
  refine ⟨fun s r h=>?_,fun p s r hb h=>?_,fun s=>?_,suf_S⟩
  · have hl:=bytesOf_length s
    unfold encS dcS
    rw [List.append_assoc,decI_encI (i64_nat h)]
    simp only [Option.bind_some]
    rw [if_neg (by rw [List.length_append,hl];omega),Int.toNat_natCast,←hl,List.take_left,List.drop_left,strOf_bytesOf]
  · unfold dcS at h
    cases hd:decI p with
    |none=>rw [hd] at h;cases h
    | some q =>
      rw [hd] at h
      simp only [Option.bind_some] at h
      split at h
      · cases h
      · rename_i hn
        obtain ⟨rfl,rfl⟩:=Prod.mk.inj (Option.some.inj h)
        obtain ⟨h1,h2⟩:=encI_decI (x:=q.1) (r:=q.2) hb hd
        obtain ⟨b2,_⟩:=Bytes.suf suf_I (x:=q.1) (r:=q.2) hd hb
        have hb3:=bytesOf_strOf (b2.take q.1.toNat)
        have hl:((strOf (q.2.take q.1.toNat)).size:Int)=q.1:=by
          rw [←bytesOf_length,hb3,List.length_take]
          omega
        refine ⟨?_,?_⟩
        · unfold encS
          rw [hl,hb3,List.append_assoc,List.take_append_drop,h1]
        · unfold I64 at h2
          omega
  · unfold encS
    have:=(encI_len (s.size:Int)).2
    rw [List.length_append]
    omega
theorem codec_F : Codec encF dcF (fun f => WordsF f ∧ f.vName.size ≤ 9223372036854775807) := by
  refine ⟨fun f r h=>?_,fun p f r hb h=>?_,fun f=>?_,suf_F⟩
  · unfold encF dcF
    rw [List.append_assoc,codec_S.fwd _ _ h.2]
    simp only [Option.bind_some]
    rw [List.append_assoc,decI_encI h.1.1]
    simp only [Option.bind_some]
    rw [decI_encI h.1.2]
    rfl
  · unfold dcF at h
    cases h1:dcS p with
    |none=>rw [h1] at h;cases h
    | some a =>
      obtain ⟨b1,_⟩:=Bytes.suf suf_S (x:=a.1) (r:=a.2) h1 hb
      obtain ⟨e1,p1⟩:=codec_S.bwd p a.1 a.2 hb h1
      rw [h1] at h
      simp only [Option.bind_some] at h
      cases h2:decI a.2 with
      |none=>rw [h2] at h;cases h
      | some b =>
        obtain ⟨b2,_⟩:=Bytes.suf suf_I (x:=b.1) (r:=b.2) h2 b1
        obtain ⟨e2,p2⟩:=codec_I.bwd a.2 b.1 b.2 b1 h2
        rw [h2] at h
        simp only [Option.bind_some] at h
        cases h3:decI b.2 with
        |none=>rw [h3] at h;cases h
        | some c =>
          obtain ⟨e3,p3⟩:=codec_I.bwd b.2 c.1 c.2 b2 h3
          rw [h3] at h
          obtain ⟨rfl,rfl⟩:=Prod.mk.inj (Option.some.inj h)
          refine ⟨?_,⟨p2,p3⟩,p1⟩
          show (encS a.1++(encI b.1++encI c.1))++c.2=p
          rw [←e1,←e2,←e3]
          simp only [List.append_assoc]
  · unfold encF
    have:=codec_S.pos f.vName
    rw [List.length_append]
    omega
section
variable {α:Type} {enc:α→List Int} {dc:List Int→Option (α×List Int)} {P:α→Prop}
theorem flat_pos (C:Codec enc dc P):∀l:List α,l.length≤(l.flatMap enc).length
  |[]=>by simp
  | x :: l => by
    have h1:=C.pos x
    have h2:=flat_pos C l
    simp only [List.flatMap_cons,List.length_append,List.length_cons]
    omega
theorem dcN_fwd (C:Codec enc dc P):∀(l:List α) (r:List Int),(∀x∈l,P x)→dcN dc l.length (l.flatMap enc++r)=some (l,r)
  |[],r,_=>rfl
  | x :: l, r, h => by
    show dcN dc (l.length+1) _=_
    unfold dcN
    rw [List.flatMap_cons,List.append_assoc,C.fwd x _ (h x List.mem_cons_self)]
    simp only [Option.bind_some]
    rw [dcN_fwd C l r (fun y hy=>h y (List.mem_cons_of_mem _ hy))]
    rfl
theorem dcN_bwd (C : Codec enc dc P) : ∀ (n : Nat) (p : List Int) (l : List α) (r : List Int), Bytes p → dcN dc n p = some (l, r) → l.flatMap enc ++ r = p ∧ l.length = n ∧ ∀ x ∈ l, P x
  | 0, p, l, r, hb, h => by
    obtain ⟨rfl,rfl⟩:=Prod.mk.inj (Option.some.inj h)
    exact ⟨rfl,rfl,by simp⟩
  | n + 1, p, l, r, hb, h => by
    unfold dcN at h
    cases h1:dc p with
    |none=>rw [h1] at h;cases h
    | some a =>
      obtain ⟨b1,_⟩:=Bytes.suf C.suf (x:=a.1) (r:=a.2) h1 hb
      obtain ⟨e1,p1⟩:=C.bwd p a.1 a.2 hb h1
      rw [h1] at h
      simp only [Option.bind_some] at h
      cases h2:dcN dc n a.2 with
      |none=>rw [h2] at h;cases h
      | some b =>
        obtain ⟨e2,p2,p3⟩:=dcN_bwd C n a.2 b.1 b.2 b1 h2
        rw [h2] at h
        obtain ⟨rfl,rfl⟩:=Prod.mk.inj (Option.some.inj h)
        refine ⟨?_,by rw [List.length_cons,p2],?_⟩
        · rw [List.flatMap_cons,List.append_assoc,e2,e1]
        · intro x hx
          rcases List.mem_cons.1 hx with rfl|hx
          · exact p1
          · exact p3 x hx
theorem codec_L (C : Codec enc dc P) : Codec (encL enc) (dcL dc) (fun l => l.length ≤ 9223372036854775807 ∧ ∀ x ∈ l, P x) := by
  refine ⟨fun l r h=>?_,fun p l r hb h=>?_,fun l=>?_,suf_L C.suf⟩
  · unfold encL dcL
    have:=flat_pos C l
    rw [List.append_assoc,decI_encI (i64_nat h.1)]
    simp only [Option.bind_some]
    rw [if_neg (by rw [List.length_append];omega),Int.toNat_natCast,dcN_fwd C l r h.2]
  · unfold dcL at h
    cases h1:decI p with
    |none=>rw [h1] at h;cases h
    | some a =>
      obtain ⟨b1,_⟩:=Bytes.suf suf_I (x:=a.1) (r:=a.2) h1 hb
      obtain ⟨e1,p1⟩:=codec_I.bwd p a.1 a.2 hb h1
      rw [h1] at h
      simp only [Option.bind_some] at h
      split at h
      · cases h
      · rename_i hn
        obtain ⟨e2,p2,p3⟩:=dcN_bwd C a.1.toNat a.2 l r b1 h
        unfold I64 at p1
        refine ⟨?_,by omega,p3⟩
        unfold encL
        rw [List.append_assoc,e2,show ((l.length:Nat):Int)=a.1 by omega,e1]
  · unfold encL
    have:=(encI_len (l.length:Int)).2
    rw [List.length_append]
    omega
end
def FullD (d:api_Def):Prop:=WordsD d∧FitD d
theorem codec_B : Codec encB dcB (fun _ => True) := by
  refine ⟨fun b r _=>?_,fun p b r hb h=>?_,fun b=>?_,suf_B⟩
  · cases b<;>rfl
  · cases p with
    |nil=>cases h
    | cons c q =>
      have hc:=hb c List.mem_cons_self
      have h:(if 1<c then none else some (c==1,q))=some (b,r):=h
      split at h
      · cases h
      · obtain ⟨rfl,rfl⟩:=Prod.mk.inj (Option.some.inj h)
        refine ⟨?_,trivial⟩
        have h2:c=0∨c=1:=by omega
        rcases h2 with rfl|rfl<;>rfl
  · exact Nat.le_refl 1
theorem codec_D : Codec encD dcD FullD := by
  refine ⟨fun d r h=>?_,fun p d r hb h=>?_,fun d=>?_,suf_D⟩
  · obtain ⟨⟨w1,w2,w3,w4,w5⟩,hF⟩:=h
    unfold encD dcD
    rw [List.append_assoc,decI_encI w1]
    simp only [Option.bind_some]
    rw [List.append_assoc,codec_S.fwd _ _ hF.name]
    simp only [Option.bind_some]
    rw [List.append_assoc,decI_encI w2]
    simp only [Option.bind_some]
    rw [List.append_assoc,codec_B.fwd _ _ trivial]
    simp only [Option.bind_some]
    rw [List.append_assoc,decI_encI w3]
    simp only [Option.bind_some]
    rw [List.append_assoc,decI_encI w4]
    simp only [Option.bind_some]
    rw [(codec_L codec_F).fwd _ _ ⟨hF.len,fun f hf=>⟨w5 f hf,hF.names f hf⟩⟩]
    rfl
  · unfold dcD at h
    cases h1:decI p with
    |none=>rw [h1] at h;cases h
    | some a =>
      obtain ⟨b1,_⟩:=Bytes.suf suf_I (x:=a.1) (r:=a.2) h1 hb
      obtain ⟨e1,p1⟩:=codec_I.bwd p a.1 a.2 hb h1
      rw [h1] at h
      simp only [Option.bind_some] at h
      cases h2:dcS a.2 with
      |none=>rw [h2] at h;cases h
      | some b =>
        obtain ⟨b2,_⟩:=Bytes.suf suf_S (x:=b.1) (r:=b.2) h2 b1
        obtain ⟨e2,p2⟩:=codec_S.bwd a.2 b.1 b.2 b1 h2
        rw [h2] at h
        simp only [Option.bind_some] at h
        cases h3:decI b.2 with
        |none=>rw [h3] at h;cases h
        | some c =>
          obtain ⟨b3,_⟩:=Bytes.suf suf_I (x:=c.1) (r:=c.2) h3 b2
          obtain ⟨e3,p3⟩:=codec_I.bwd b.2 c.1 c.2 b2 h3
          rw [h3] at h
          simp only [Option.bind_some] at h
          cases h4:dcB c.2 with
          |none=>rw [h4] at h;cases h
          | some d' =>
            obtain ⟨b4,_⟩:=Bytes.suf suf_B (x:=d'.1) (r:=d'.2) h4 b3
            obtain ⟨e4,_⟩:=codec_B.bwd c.2 d'.1 d'.2 b3 h4
            rw [h4] at h
            simp only [Option.bind_some] at h
            cases h5:decI d'.2 with
            |none=>rw [h5] at h;cases h
            | some e =>
              obtain ⟨b5,_⟩:=Bytes.suf suf_I (x:=e.1) (r:=e.2) h5 b4
              obtain ⟨e5,p5⟩:=codec_I.bwd d'.2 e.1 e.2 b4 h5
              rw [h5] at h
              simp only [Option.bind_some] at h
              cases h6:decI e.2 with
              |none=>rw [h6] at h;cases h
              | some f =>
                obtain ⟨b6,_⟩:=Bytes.suf suf_I (x:=f.1) (r:=f.2) h6 b5
                obtain ⟨e6,p6⟩:=codec_I.bwd e.2 f.1 f.2 b5 h6
                rw [h6] at h
                simp only [Option.bind_some] at h
                cases h7:dcL dcF f.2 with
                |none=>rw [h7] at h;cases h
                | some g =>
                  obtain ⟨e7,p7,p8⟩:=(codec_L codec_F).bwd f.2 g.1 g.2 b6 h7
                  rw [h7] at h
                  obtain ⟨rfl,rfl⟩:=Prod.mk.inj (Option.some.inj h)
                  refine ⟨?_,⟨p1,p3,p5,p6,fun x hx=>(p8 x hx).1⟩,⟨p2,p7,fun x hx=>(p8 x hx).2⟩⟩
                  show (encI a.1++(encS b.1++(encI c.1++(encB d'.1++(encI e.1++(encI f.1++encL encF g.1))))))++g.2=p
                  rw [←e1,←e2,←e3,←e4,←e5,←e6,←e7]
                  simp only [List.append_assoc]
  · unfold encD
    have:=(encI_len d.vKind).2
    rw [List.length_append]
    omega
def dcT (a:List Int):Option (List api_Def):=if headL<+:a then (dcL dcD (a.drop 4)).bind fun q=>if 0<q.2.length then none else some q.1 else none
theorem dcT_bwd {a : List Int} {l : List api_Def} (hb : Bytes a) (h : dcT a = some l) : encT ⟨l⟩ = a ∧ l.length ≤ 9223372036854775807 ∧ ∀ d ∈ l, FullD d := by
  unfold dcT at h
  split at h
  · rename_i hp
    cases h1:dcL dcD (a.drop 4) with
    |none=>rw [h1] at h;cases h
    | some q =>
      obtain ⟨e1,p1,p2⟩:=(codec_L codec_D).bwd (a.drop 4) q.1 q.2 (hb.drop 4) h1
      rw [h1] at h
      simp only [Option.bind_some] at h
      split at h
      · cases h
      · rename_i hz
        obtain rfl:=Option.some.inj h
        have hq:q.2=[]:=List.length_eq_zero_iff.1 (by omega)
        rw [hq,List.append_nil] at e1
        refine ⟨?_,p1,p2⟩
        show headL++encL encD q.1=a
        rw [e1]
        obtain ⟨s,rfl⟩:=hp
        rfl
  · cases h
theorem dcT_fwd {t:api_Types} (hl:t.vDefs.length≤9223372036854775807) (h:∀d∈t.vDefs,FullD d):dcT (encT t)=some t.vDefs:=by
 unfold dcT
 rw [if_pos (show headL<+:encT t from List.prefix_append _ _)]
 have h1:=(codec_L codec_D).fwd t.vDefs [] ⟨hl,h⟩
 rw [List.append_nil] at h1
 rw [show (encT t).drop 4=encL encD t.vDefs from rfl,h1]
 rfl
theorem head_eq {a:List Int} (hb:Bytes a) (h4:4≤a.length):strEq (strOf (a.take 4)) (⟨#[67,84,70,1]⟩:ByteArray)=true↔headL<+:a:=by
 rw [strEq_iff]
 constructor
 ·intro h
  have h2:bytesOf (strOf (a.take 4))=headL:=by rw [h];rfl
  rw [bytesOf_strOf (hb.take 4)] at h2
  rw [←h2]
  exact List.take_prefix 4 a
 ·rintro ⟨s,rfl⟩
  rfl
theorem Decode_ok {k : Nat} {a : List Int} {b : List api_Def → Bool} (hk : 10 ≤ k) (hl : a.length < k) (hL : a.length ≤ 4294967296) (hb : Bytes a) (hv : ∀ l, dcT a = some l → ctf_valid.f k ⟨l⟩ = some (b l)) :
    ctf_Decode.f k a=some (match dcT a with|none=>(⟨[]⟩,81)|some l=>if b l=true then (⟨l⟩,0) else (⟨[]⟩,80)):=by
  show ctf_Decode.f k a=_
  have hbad:badB bad=true:=rfl
  unfold ctf_Decode.f
  rw [take_ok]
  simp only [Option.bind_some]
  by_cases h4:a.length<4
  · rw [if_pos (.inr (by omega))]
    have:¬headL<+:a:=fun h=>by
      have:=h.length_le
      have:headL.length=4:=rfl
      omega
    unfold dcT
    rw [if_neg this]
    simp only [hbad,if_true]
  · rw [if_neg (by omega)]
    simp only [show (4:Int).toNat=4 from rfl]
    by_cases hh:headL<+:a
    · rw [(head_eq hb (by omega)).2 hh,if_neg (by simp),rdefs_ok hk (by rw [List.length_drop];omega) (by rw [List.length_drop];omega) (hb.drop 4)]
      unfold dcT at hv⊢
      rw [if_pos hh] at hv⊢
      cases h1:dcL dcD (a.drop 4) with
      | none =>
        simp only [Option.bind_some,toE,Option.bind_none,hbad,if_true]
      | some q =>
        rw [h1] at hv
        simp only [Option.bind_some,toE] at hv⊢
        by_cases hq:0<q.2.length
        · rw [if_pos (by simpa using hq),if_pos hq,if_pos (show badB (Value.iface 120 (Value.agg #[]))=true from rfl)]
        · rw [if_neg hq] at hv⊢
          rw [if_neg (by simpa using hq),hv q.1 rfl]
          simp only [Option.bind_some]
          cases b q.1<;>rfl
    · have:strEq (strOf (a.take 4)) (⟨#[67,84,70,1]⟩:ByteArray)=false:=by
        rw [←Bool.not_eq_true,head_eq hb (by omega)]
        exact hh
      rw [this,if_pos (by simp),if_pos (show badB (Value.iface 120 (Value.agg #[]))=true from rfl)]
      unfold dcT
      rw [if_neg hh]
theorem rDecode_ok {k : Nat} {a : List Int} {e : List api_Def → Int} (hk : 10 ≤ k) (hl : a.length < k) (hL : a.length ≤ 4294967296) (hb : Bytes a) (hv : ∀ l, dcT a = some l → taplineref08_Check.f k ⟨l⟩ = some (e l)) :
    taplineref08_Decode.f k a=some (match dcT a with|none=>⟨⟨[]⟩,81⟩|some l=>if e l=0 then ⟨⟨l⟩,0⟩ else ⟨⟨[]⟩,e l⟩):=by
  obtain ⟨o,h1,h2⟩:=head_ok (B:=a) hL 0 4 0 k (by omega) (by omega) (by omega)
  rw [show ((0:Nat):Int)=0 from rfl] at h1
  simp only [List.drop_zero] at h2
  show taplineref08_Decode.f k a=_
  unfold taplineref08_Decode.f
  rw [h1]
  simp only [Option.bind_some]
  unfold dcT at hv⊢
  by_cases hh:headL<+:a
  · rw [if_pos hh] at h2 hv⊢
    subst h2
    have h4:4≤a.length:=hh.length_le
    obtain ⟨v,g1,g2⟩:=(reflen_ok (B:=a) hb hL hk).good 4 0 h4
    rw [show ((4:Nat):Int)=4 from rfl] at g1
    simp only []
    rw [g1,dcL_len] at*
    simp only [Option.bind_some]
    cases h3:dcLen (a.drop 4) with
    | none =>
      rw [h3] at g2
      have g2:v.2.2.1=true:=g2
      rw [g2,l1_bad k v (by omega)]
      rfl
    | some q =>
      rw [h3] at g2 hv
      obtain ⟨j,hj,hq,rfl⟩:=g2
      obtain ⟨f1,f2,_⟩:=dcLen_some (p:=a.drop 4) (x:=q.1) (r:=q.2) h3
      rw [hq,List.length_drop] at f2
      obtain ⟨o,h5,h6⟩:=l1_ok (B:=a) hb hL hk hl (v:=(q.1,(j:Int),false,0)) 0 q.1.toNat 0 k j [] (by simp;omega) (by omega) hj (by simp;omega) (by simp;omega)
      rw [show ((0:Nat):Int)=0 from rfl] at h5
      simp only [Option.bind_some] at hv⊢
      rw [h5]
      rw [hq] at hv⊢
      simp only [Option.bind_some]
      cases hn:dcN dcD q.1.toNat (a.drop j) with
      | none =>
        rw [hn] at h6
        have h6:o.2.1=true:=h6
        rw [h6]
        rfl
      | some q2 =>
        rw [hn] at h6 hv
        obtain ⟨i,w1,w2,rfl⟩:=h6
        simp only [Option.bind_some] at hv⊢
        by_cases hi:0<q2.2.length
        · rw [if_pos hi,if_pos]
          have:i≠a.length:=fun h=>by
            rw [w2,h,List.drop_eq_nil_of_le (Nat.le_refl _)] at hi
            cases hi
          simp
          omega
        · rw [if_neg hi] at hv⊢
          have:i=a.length:=by
            rw [w2,List.length_drop] at hi
            omega
          rw [if_neg (by simp [this]),List.nil_append,hv q2.1 rfl]
          simp only [Option.bind_some]
          by_cases he:e q2.1=0
          · rw [if_neg (by simp [he]),if_pos he]
          · rw [if_pos (by simpa using he),if_neg he]
  · rw [if_neg hh] at h2⊢
    have h2:o.2.1=true:=h2
    obtain ⟨v,g1,g2⟩:=(reflen_ok (B:=a) hb hL hk).bad o.1 o.2.2
    rw [h2,g1]
    simp only [Option.bind_some]
    rw [g2,l1_bad k v (by omega)]
    rfl
theorem nameS_size {s:ByteArray} (h:nameS s=true):s.size≤31:=by
 unfold nameS at h
 simp only [Bool.and_eq_true,decide_eq_true_eq] at h
 omega
theorem fieldsS_size {d:api_Def} {n:Int}:∀(ns:List ByteArray) (l:List api_Field),fieldsS d n ns l=true→∀f∈l,f.vName.size≤31
  |ns,[],_=>by simp
  | ns, f :: r, h => by
    simp only [fieldsS,Bool.and_eq_true] at h
    intro g hg
    rcases List.mem_cons.1 hg with rfl|hg
    · exact nameS_size h.1.1.1
    · exact fieldsS_size _ r h.2 g hg
theorem shaped_small {d:api_Def} {n:Int} (hW:WordsD d) (h:shapedS d n=true):SmallD d:=by
 unfold shapedS at h
 split at h
 ·cases h
 ·rename_i s _
  simp only [Bool.and_eq_true,decide_eq_true_eq] at h
  obtain ⟨⟨⟨⟨⟨⟨h1,_⟩,_⟩,_⟩,_⟩,h6⟩,h7⟩:=h
  refine ⟨hW,?_,h6,fun f hf=>⟨hW.2.2.2.2 f hf,fieldsS_size _ _ h7 f hf⟩⟩
  split at h1
  ·exact nameS_size h1
  ·rw [strEq_iff] at h1
   rw [h1]
   exact Nat.zero_le _
theorem defsS_small {n:Nat}:∀(ns:List ByteArray) (l:List api_Def),(∀d∈l,WordsD d)→defsS n ns l=true→∀d∈l,SmallD d
  |_,[],_,_=>by simp
  | ns, d :: r, hW, h => by
    simp only [defsS,Bool.and_eq_true] at h
    intro e he
    rcases List.mem_cons.1 he with rfl|he
    · exact shaped_small (hW e List.mem_cons_self) h.1.1
    · exact defsS_small _ r (fun x hx=>hW x (List.mem_cons_of_mem _ hx)) h.2 e he
theorem Wf.small {t:api_Types} {l:List Int} (W:Wf t l) (hW:∀d∈t.vDefs,WordsD d):∀d∈t.vDefs,SmallD d:=defsS_small _ _ hW W.defs
theorem Encode_good {t:api_Types} {l:List Int} (W:Wf t l) (hW:∀d∈t.vDefs,WordsD d) (hv:Ev (fun k=>ctf_valid.f k t) true):Ev (fun k=>ctf_Encode.f k t) (encT t,0):=by
 obtain ⟨K,hK⟩:=hv
 refine ⟨max K 300,fun k hk=>?_⟩
 show ctf_Encode.f k t=_
 unfold ctf_Encode.f
 rw [show ctf_valid.f k t=_ from hK k (by omega)]
 simp only [Option.bind_some]
 rw [if_neg (by simp),putDefs_ok (by omega) W.few (W.small hW)]
 rfl
theorem Encode_bad {t:api_Types} (hv:Ev (fun k=>ctf_valid.f k t) false):Ev (fun k=>ctf_Encode.f k t) ([],80):=by
 obtain ⟨K,hK⟩:=hv
 refine ⟨K,fun k hk=>?_⟩
 show ctf_Encode.f k t=_
 unfold ctf_Encode.f
 rw [show ctf_valid.f k t=_ from hK k (by omega)]
 rfl
theorem rEncode_good {t:api_Types} {l:List Int} (W:Wf t l) (hW:∀d∈t.vDefs,WordsD d) (hv:Ev (fun k=>taplineref08_Check.f k t) 0):Ev (fun k=>taplineref08_Encode.f k t) ⟨encT t,0⟩:=by
 obtain ⟨K,hK⟩:=hv
 refine ⟨max K 300,fun k hk=>?_⟩
 show taplineref08_Encode.f k t=_
 unfold taplineref08_Encode.f
 rw [show taplineref08_Check.f k t=_ from hK k (by omega)]
 simp only [Option.bind_some]
 have h4:([67,84,70,1]:List Int).length=4:=rfl
 have hf:=W.few
 have h1:=(encI_len (t.vDefs.length:Int)).1
 rw [if_neg (by simp),wint_ok (by omega) (i64_nat (by omega)) (by rw [h4];omega)]
 simp only [Option.bind_some]
 have:=refDefs_loop (k:=k) (by omega) W.few (W.small hW) t.vDefs.length 0 k (([67,84,70,1]:List Int)++encI (t.vDefs.length:Int)) (by omega) (by omega) (by rw [List.length_append,h4];omega)
 rw [show ((0:Nat):Int)=0 from rfl] at this
 rw [this]
 simp only [Option.bind_some,List.drop_zero,List.append_assoc]
 rfl
theorem rEncode_bad {t:api_Types} (hv:Ev (fun k=>taplineref08_Check.f k t) 80):Ev (fun k=>taplineref08_Encode.f k t) ⟨[],80⟩:=by
 obtain ⟨K,hK⟩:=hv
 refine ⟨K,fun k hk=>?_⟩
 show taplineref08_Encode.f k t=_
 unfold taplineref08_Encode.f
 rw [show taplineref08_Check.f k t=_ from hK k (by omega)]
 rfl
theorem decode_ev {a : List Int} (hb : Bytes a) (hL : a.length ≤ 4294967296) : ∃ u e, Ev (fun k => ctf_Decode.f k a) (u, e) ∧ Ev (fun k => taplineref08_Decode.f k a) ⟨u, e⟩ ∧ FitT u ∧
    (e=0→encT u=a∧(∀d∈u.vDefs,WordsD d)∧∃l,Wf u l)∧(∀t l,Wf t l→(∀d∈t.vDefs,FullD d)→a=encT t→e=0∧u=t):=by
  have hE:FitT ⟨[]⟩:=⟨Nat.zero_le _,by simp⟩
  cases hd:dcT a with
  | none =>
    refine ⟨⟨[]⟩,81,⟨a.length+10,fun k hk=>?_⟩,⟨a.length+10,fun k hk=>?_⟩,hE,(fun h=>by cases h),fun t l W hW e=>?_⟩
    · have:=Decode_ok (k:=k) (b:=fun _=>true) (by omega) (by omega) hL hb (fun l hl=>by rw [hd] at hl;cases hl)
      rw [hd] at this
      exact this
    · have:=rDecode_ok (k:=k) (e:=fun _=>0) (by omega) (by omega) hL hb (fun l hl=>by rw [hd] at hl;cases hl)
      rw [hd] at this
      exact this
    · subst e
      have hf:=W.few
      rw [dcT_fwd (by omega) hW] at hd
      cases hd
  | some l =>
    obtain ⟨e1,e2,e3⟩:=dcT_bwd hb hd
    have hF:∀d∈(⟨l⟩:api_Types).vDefs,FitD d:=fun d hd=>(e3 d hd).2
    rcases valid_iff hF with ⟨l1,W,⟨K1,h1⟩⟩|⟨hno,⟨K1,h1⟩⟩
    · rcases rcheck_iff hF with ⟨l2,_,_,⟨K2,h2⟩⟩|⟨hno,_⟩
      · refine ⟨⟨l⟩,0,⟨a.length+10+K1,fun k hk=>?_⟩,⟨a.length+10+K2,fun k hk=>?_⟩,⟨e2,hF⟩,fun _=>⟨e1,fun d hd=>(e3 d hd).1,l1,W⟩,fun t l' W' hW e=>?_⟩
        · have := Decode_ok (k := k) (b := fun _ => true) (by omega) (by omega) hL hb (fun l' hl => by
            rw [hd] at hl
            obtain rfl:=Option.some.inj hl
            exact h1 k (by omega))
          rw [hd] at this
          exact this
        · have := rDecode_ok (k := k) (e := fun _ => 0) (by omega) (by omega) hL hb (fun l' hl => by
            rw [hd] at hl
            obtain rfl:=Option.some.inj hl
            exact h2 k (by omega))
          rw [hd] at this
          exact this
        · refine ⟨rfl,?_⟩
          subst e
          have hf:=W'.few
          rw [dcT_fwd (by omega) hW] at hd
          obtain rfl:=Option.some.inj hd
          rfl
      · exact absurd W (hno l1)
    · rcases rcheck_iff hF with ⟨l2,W2,_⟩|⟨_,⟨K2,h2⟩⟩
      · exact absurd W2 (hno l2)
      · refine ⟨⟨[]⟩,80,⟨a.length+10+K1,fun k hk=>?_⟩,⟨a.length+10+K2,fun k hk=>?_⟩,hE,(fun h=>by cases h),fun t l' W' hW e=>?_⟩
        · have := Decode_ok (k := k) (b := fun _ => false) (by omega) (by omega) hL hb (fun l' hl => by
            rw [hd] at hl
            obtain rfl:=Option.some.inj hl
            exact h1 k (by omega))
          rw [hd] at this
          exact this
        · have := rDecode_ok (k := k) (e := fun _ => 80) (by omega) (by omega) hL hb (fun l' hl => by
            rw [hd] at hl
            obtain rfl:=Option.some.inj hl
            exact h2 k (by omega))
          rw [hd] at this
          exact this
        · subst e
          have hf:=W'.few
          rw [dcT_fwd (by omega) hW] at hd
          obtain rfl:=Option.some.inj hd
          exact absurd W' (hno l')
theorem same_self {t:api_Types} (hF:FitT t):Ev (fun k=>ctf_Same.f k t t) true:=by
 have h:=same_ev (u:=t) hF
 rw [tell_t ⟨rfl,fun i _=>SameD.refl _⟩] at h
 exact h
theorem bytes_ev {t : api_Types} {a : List Int} (hF : FitT t) (hW : ∀ d ∈ t.vDefs, WordsD d) (hb : Bytes a) : Ev (fun k => taplinelaw08_CtfBytes.f k t a) true := by
  obtain ⟨K1,h1⟩:=sane_ev
  by_cases hl:a.length>100000
  · refine ⟨K1,fun k hk=>?_⟩
    show taplinelaw08_CtfBytes.f k t a=_
    unfold taplinelaw08_CtfBytes.f
    rw [show taplinelaw08_sane.f k=_ from h1 k hk]
    simp only [Option.bind_some]
    rw [if_pos (by simp;omega)]
  · obtain ⟨u,e,⟨K2,h2⟩,⟨K3,h3⟩,hu,_⟩:=decode_ev hb (by omega)
    obtain ⟨K4,h4⟩:=same_self hu
    have key:∃x f,Ev (fun k=>ctf_Encode.f k t) (x,f)∧Ev (fun k=>taplineref08_Encode.f k t) ⟨x,f⟩:=by
      rcases valid_iff hF.2 with ⟨l,W,hv⟩|⟨hno,hv⟩
      · rcases rcheck_iff hF.2 with ⟨l2,W2,_,hc⟩|⟨hno,_⟩
        · exact ⟨_,_,Encode_good W hW hv,rEncode_good W hW hc⟩
        · exact absurd W (hno l)
      · rcases rcheck_iff hF.2 with ⟨l2,W2,_⟩|⟨_,hc⟩
        · exact absurd W2 (hno l2)
        · exact ⟨_,_,Encode_bad hv,rEncode_bad hc⟩
    obtain ⟨x,f,⟨K5,h5⟩,⟨K6,h6⟩⟩:=key
    refine ⟨K1+K2+K3+K4+K5+K6,fun k hk=>?_⟩
    show taplinelaw08_CtfBytes.f k t a=_
    unfold taplinelaw08_CtfBytes.f
    rw [show taplinelaw08_sane.f k=_ from h1 k (by omega),show ctf_Decode.f k a=_ from h2 k (by omega),show taplineref08_Decode.f k a=_ from h3 k (by omega),show ctf_Encode.f k t=_ from h5 k (by omega),show taplineref08_Encode.f k t=_ from h6 k (by omega)]
    simp only [Option.bind_some]
    rw [if_neg (by simp;omega),same_eq,show ctf_Same.f k u u=_ from h4 k (by omega),show strEq (strOf x) (strOf x)=true from strEq_iff.2 rfl]
    simp
end Go.Proofs.YtfjppgobidjndaaDoor
namespace Go.Proofs.YtfjppgobidjndaaDoor
open Go.ChangeShapes Go.WideShapes Go.ChangeAt Go.RowKit Go.M
set_option maxRecDepth 100000
section
variable {H:Type} {enc:TypeId×Value→H} {W:World}
theorem wf64 {n:Int} (h:(Lit.int .i64 n).wf=true):I64 n:=by
 simp [Lit.wf,IntKind.min,IntKind.max,IntKind.bits,IntKind.signed] at h
 exact h
theorem wf8 {n:Int} (h:(Lit.int .u8 n).wf=true):0≤n∧n≤255:=by
 simp [Lit.wf,IntKind.min,IntKind.max,IntKind.bits,IntKind.signed] at h
 exact h
theorem opW31:Opn enc Tryd.prog W 31 k_api_Int (fun i=>I64 i.vSize):=
 (op_iso (fun p=>(⟨p.1,p.2⟩:api_Int)) (fun _=>rfl) (op_struct Tryd.underlying31 (by kernel_rfl) (opf_cons op3 rfl (opf_one op4 rfl)))).weak fun _ h=>wf64 h.1
theorem opW36:Opn enc Tryd.prog W 36 k_api_Field (fun f=>f.vName.size≤9223372036854775807∧WordsF f):=
 (op_iso (fun p=>(⟨p.1,p.2.1,p.2.2⟩:api_Field)) (fun _=>rfl) (op_struct Tryd.underlying36 (by kernel_rfl) (opf_cons op9 rfl (opf_cons op3 rfl (opf_one op3 rfl))))).weak fun _ h=>⟨max63 h.1,wf64 h.2.1,wf64 h.2.2⟩
theorem opW34:Opn enc Tryd.prog W 34 k_api_Def FullD:=
 (op_iso (fun p => (⟨p.1, p.2.1, p.2.2.1, p.2.2.2.1, p.2.2.2.2.1, p.2.2.2.2.2⟩ : api_Def)) (fun _ => rfl) (op_struct Tryd.underlying34 (by kernel_rfl)
  (opf_cons op3 rfl (opf_cons op9 rfl (opf_cons opW31 rfl (opf_cons op3 rfl (opf_cons op3 rfl (opf_one (op_slice opW36 Tryd.underlying32 (by kernel_rfl)) rfl)))))))).weak fun _ h =>
  ⟨⟨wf64 h.1,h.2.2.1,wf64 h.2.2.2.1,wf64 h.2.2.2.2.1,fun f hf=>(h.2.2.2.2.2.2 f hf).2⟩,⟨max63 h.2.1,max63 h.2.2.2.2.2.1,fun f hf=>(h.2.2.2.2.2.2 f hf).1⟩⟩
theorem opW24:Opn enc Tryd.prog W 24 k_api_Types (fun t=>FitT t∧∀d∈t.vDefs,WordsD d):=
 (op_iso (fun p=>(⟨p⟩:api_Types)) (fun _=>rfl) (op_struct Tryd.underlying24 (by kernel_rfl) (opf_one (op_slice opW34 Tryd.underlying22 (by kernel_rfl)) rfl))).weak fun _ h=>⟨⟨max63 h.1,fun d hd=>(h.2 d hd).2⟩,fun d hd=>(h.2 d hd).1⟩
theorem op5:Opn enc Tryd.prog W 5 (Kd.int .u8) (fun n=>(Lit.int .u8 n).wf=true):=op_int Tryd.underlying5 (by kernel_rfl)
theorem op80:Opn enc Tryd.prog W 80 (Kd.slice (Kd.int .u8)) (fun xs=>xs.length≤9223372036854775807∧Bytes xs):=
 (op_slice op5 Tryd.underlying80 (by kernel_rfl)).weak fun xs h=>⟨max63 h.1,fun c hc=>wf8 (h.2 c hc)⟩
theorem argw24 {b:Nat} {v:Value} {d:DataW H} {p:List MemPlace} (hval:Value.okWide Tryd.prog W .any b 24 v) (h:DataW.Trod enc Tryd.prog W 0 (fun _=>true) true 24 v d p):
  ∃(t:api_Types) (A:Option Addr) (c:Nat),v= .agg #[.slice A t.vDefs.length c]∧Rd k_api_Def (vw W) A t.vDefs∧t.vDefs.length≤c∧FitT t∧∀d∈t.vDefs,WordsD d:=by
 obtain ⟨cs,rfl,_⟩:=okWide_struct Tryd.underlying24 hval
 obtain ⟨fuel,hf⟩:=h
 obtain ⟨t,⟨A,c,hcs,hc,hr⟩,hF⟩:=opW24.open_ _ _ _ hf
 refine ⟨t,A,c,?_,hr,hc,hF⟩
 have:cs.toList=[.slice A t.vDefs.length c]:=hcs
 rw [←Array.toArray_toList (xs:=cs),this]
theorem argBytes {b:Nat} {v:Value} {d:DataW H} {p:List MemPlace} (hval:Value.okWide Tryd.prog W .any b 80 v) (h:DataW.Trod enc Tryd.prog W 0 (fun _=>true) true 80 v d p):
  ∃(xs:List Int) (A:Option Addr) (c:Nat),v= .slice A xs.length c∧Rd (Kd.int .u8) (vw W) A xs∧xs.length≤c∧xs.length≤9223372036854775807∧Bytes xs:=by
 obtain ⟨a,len,cap,rfl⟩:=okWide_slice Tryd.underlying80 hval
 obtain ⟨fuel,hf⟩:=h
 obtain ⟨xs,⟨A,c,hcs,hc,hr⟩,hF⟩:=op80.open_ _ _ _ hf
 have:[Value.slice a len cap]=[Value.slice A xs.length c]:=hcs
 injection this with this
 injection this with h1 h2 h3
 subst h1 h2 h3
 exact ⟨xs,_,_,rfl,hr,hc,hF⟩
end
end Go.Proofs.YtfjppgobidjndaaDoor
