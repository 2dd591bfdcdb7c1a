/- Parts of a proof, merged by program: Sqz G0 Shelf F99 F88 F87 F44 F68 F116 F118 F124 F119 F89 F100 F91 F120 F90 F93 F92 F47 F43 F45 F46 F17 F14 F15 F16 Q1. The walks (each function once) and the plain laws; no condition of their own. -/
import Derived.Test.YtfjppgobidjndaaDoorByt1
import Derived.Test.YtfjppgobidjndaaDoorProg
import Derived.Shelf.Strconv.Itoa0
import Derived.Shelf.Strconv.Itoa1
import Derived.Shelf.LaysM
import Derived.Shelf.Strconv.Itoa2
import Derived.Shelf.Strconv.Itoa3
set_option linter.unusedVariables false
set_option linter.unusedSimpArgs false
set_option maxRecDepth 20000
set_option maxHeartbeats 4000000
namespace Go.M
open Go.RowKit
abbrev vI (x:Int):Value:=Value.int .i64 x
abbrev vB (x:Bool):Value:=Value.bool x
abbrev vS (x:ByteArray):Value:=Value.string x
abbrev vL (A:Option Addr) (n c:Nat):Value:=Value.slice A n c
abbrev vP (b o:Nat):Value:=Value.pointer (some ⟨b,o,none⟩)
abbrev w64 (x:Int):Int:=IntKind.wrap .i64 x
theorem gvt {c:Bool} {x:Value} (v:Value) (h:c=true) (e:x=gv c v):x=v:=e.trans (gv_t h)
section
variable {P:Program} {Q:Exit→Act→World→Prop} {l:List Value} {df:List Deferred} {w:World} {ops:Array Oper} {o:Oper} {os:List Oper}
theorem rs (v:Value) {d:Tmp} {i:Op} {ty:TypeId} {pos:String} {af:Array Edge} (h:(execOp (ev l) ⟨some d,i,ty,pos,af,none⟩).run P w= .ok (.value v) w)
  (k:run P ops Q df os (l.set d v) w):run P ops Q df (⟨some d,i,ty,pos,af,none⟩::os) l w:=run_same rfl rfl h k
theorem rgs (b c:Bool) (v:Value) {d e:Tmp} {j:Nat} {want:Bool} (hg:o.guard=some (j,want)) (hj:(ops[j]?).bind (·.dst)=some e) (hv:l.getD e undef=gv c (.bool b)) (hd:o.dst=some d)
  (h:(c&&(b==want))=true→(execOp (ev l) o).run P w= .ok (.value v) w) (k:run P ops Q df os (l.set d (gv (c&&(b==want)) v)) w):run P ops Q df (o::os) l w:=run_g_same hg hj hv hd h k
end
section
variable {M:List Nat} {h0 h:View} {w0 w:World} {a b c d e f g:Res} {r:List Res}
theorem St.f1 (H:St M h0 w0 h (a::b::r) w):St M h0 w0 h (b::a::r) w:=H.front (i:=1) rfl
theorem St.f2 (H:St M h0 w0 h (a::b::c::r) w):St M h0 w0 h (c::a::b::r) w:=H.front (i:=2) rfl
theorem St.f3 (H:St M h0 w0 h (a::b::c::d::r) w):St M h0 w0 h (d::a::b::c::r) w:=H.front (i:=3) rfl
theorem St.f4 (H:St M h0 w0 h (a::b::c::d::e::r) w):St M h0 w0 h (e::a::b::c::d::r) w:=H.front (i:=4) rfl
theorem St.f5 (H:St M h0 w0 h (a::b::c::d::e::f::r) w):St M h0 w0 h (f::a::b::c::d::e::r) w:=H.front (i:=5) rfl
theorem St.f6 (H:St M h0 w0 h (a::b::c::d::e::f::g::r) w):St M h0 w0 h (g::a::b::c::d::e::f::r) w:=H.front (i:=6) rfl
theorem St.f7 {x:Res} (H:St M h0 w0 h (a::b::c::d::e::f::g::x::r) w):St M h0 w0 h (x::a::b::c::d::e::f::g::r) w:=H.front (i:=7) rfl
theorem St.d0 (H:St M h0 w0 h (a::r) w):St M h0 w0 h r w:=H.drop 0
theorem St.d1 (H:St M h0 w0 h (a::b::r) w):St M h0 w0 h (a::r) w:=H.drop 1
theorem St.d2 (H:St M h0 w0 h (a::b::c::r) w):St M h0 w0 h (a::b::r) w:=H.drop 2
end
theorem sc0 {α:Type _} {x:α} {l:List α} {a:α}:(x::l).set 0 a=a::l:=rfl
theorem sc1 {α:Type _} {x:α} {l:List α} {n:Nat} {a:α}:(x::l).set (n+1) a=x::l.set n a:=rfl
end Go.M
namespace Go.Proofs.YtfjppgobidjndaaDoor
open Go.RowKit Go.M
theorem hmix:Tryd.prog.follows .mixedOrders=true:=by kernel_rfl
structure api_Int where
 vSize:Int
 vSigned:Bool
def z_api_Int:api_Int:=⟨0,false⟩
def k_api_Int:Kd api_Int:=Kd.iso (Kd.pair (Kd.int .i64) Kd.bool) fun x=>(x.vSize,x.vSigned)
theorem one_api_Int:One k_api_Int:=one_iso (one_pair one_int one_bool)
def e_api_Int (x:api_Int):Value:= .agg #[.int .i64 x.vSize, .bool x.vSigned]
structure api_Field where
 vName:ByteArray
 vType:Int
 vAt:Int
def z_api_Field:api_Field:=⟨ByteArray.empty,0,0⟩
def k_api_Field:Kd api_Field:=Kd.iso (Kd.pair Kd.str (Kd.pair (Kd.int .i64) (Kd.int .i64))) fun x=>(x.vName,(x.vType,x.vAt))
theorem one_api_Field:One k_api_Field:=one_iso (one_pair one_str (one_pair one_int one_int))
theorem ld_api_Field {h:View} {A:Option Addr} {xs:List api_Field} {i:Int} (hr:Rd k_api_Field h A xs) (h0:0≤i) (h1:i<xs.length):
  ∃ad,A=some ad∧VCells h (ad.add (i.toNat*3)) [.string (rd z_api_Field xs i).vName, .int .i64 (rd z_api_Field xs i).vType, .int .i64 (rd z_api_Field xs i).vAt]:=by
 obtain ⟨ad,cs,e,hK,hc⟩:=hr.get z_api_Field h0 h1
 obtain ⟨_,_,rfl,rfl,⟨_,_,rfl,rfl,rfl⟩⟩:=hK
 exact ⟨ad,e,hc⟩
structure api_Def where
 vKind:Int
 vName:ByteArray
 vInt:api_Int
 vRef:Int
 vN:Int
 vFields:List api_Field
def z_api_Def:api_Def:=⟨0,ByteArray.empty,z_api_Int,0,0,[]⟩
def k_api_Def:Kd api_Def:=Kd.iso (Kd.pair (Kd.int .i64) (Kd.pair Kd.str (Kd.pair k_api_Int (Kd.pair (Kd.int .i64) (Kd.pair (Kd.int .i64) (Kd.slice k_api_Field)))))) fun x=>(x.vKind,(x.vName,(x.vInt,(x.vRef,(x.vN,x.vFields)))))
theorem one_api_Def:One k_api_Def:=one_iso (one_pair one_int (one_pair one_str (one_pair one_api_Int (one_pair one_int (one_pair one_int one_slice)))))
theorem ld_api_Def {h:View} {A:Option Addr} {xs:List api_Def} {i:Int} (hr:Rd k_api_Def h A xs) (h0:0≤i) (h1:i<xs.length):
  ∃ad A6 c6,A=some ad∧VCells h (ad.add (i.toNat*7)) [.int .i64 (rd z_api_Def xs i).vKind, .string (rd z_api_Def xs i).vName, .int .i64 (rd z_api_Def xs i).vInt.vSize, .bool (rd z_api_Def xs i).vInt.vSigned, .int .i64 (rd z_api_Def xs i).vRef, .int .i64 (rd z_api_Def xs i).vN, .slice A6 (rd z_api_Def xs i).vFields.length c6]∧(rd z_api_Def xs i).vFields.length≤c6∧Rd k_api_Field h A6 (rd z_api_Def xs i).vFields:=by
 obtain ⟨ad,cs,e,hK,hc⟩:=hr.get z_api_Def h0 h1
 obtain ⟨_,_,rfl,rfl,⟨_,_,rfl,rfl,⟨_,_,rfl,⟨_,_,rfl,rfl,rfl⟩,⟨_,_,rfl,rfl,⟨_,_,rfl,rfl,⟨A6,c6,rfl,hl6,hr6⟩⟩⟩⟩⟩⟩:=hK
 exact ⟨ad,A6,c6,e,hc,hl6,hr6⟩
structure api_Types where
 vDefs:List api_Def
def z_api_Types:api_Types:=⟨[]⟩
def k_api_Types:Kd api_Types:=Kd.iso (Kd.slice k_api_Def) fun x=>x.vDefs
structure ctf_shape where
 vname:Bool
 vint:Bool
 vref:Bool
 vn:Bool
 vfields:Bool
def z_ctf_shape:ctf_shape:=⟨false,false,false,false,false⟩
def e_ctf_shape (x:ctf_shape):Value:= .agg #[.bool x.vname, .bool x.vint, .bool x.vref, .bool x.vn, .bool x.vfields]
structure taplineref08_Number where
 vN:Int
 vE:Int
structure taplineref08_Told where
 vS:ByteArray
 vE:Int
structure taplineref08_Part where
 vF:api_Field
 vE:Int
structure taplineref08_Reached where
 vType:Int
 vAt:Int
 vE:Int
structure taplinelaw08_Named where
 vI:Int
 vName:ByteArray
 vPath:List ByteArray
structure taplinelaw08_Three where
 vT:api_Types
 vU:api_Types
 vV:api_Types
structure arr3_Int where
 ve0:Int
 ve1:Int
 ve2:Int
structure arr2_Int where
 ve0:Int
 ve1:Int
structure taplineref08_Coded where
 vB:List Int
 vE:Int
structure taplineref08_Read where
 vT:api_Types
 vE:Int
structure ctf_source where
 vt:api_Types
 vi:Int
def z_ctf_source:ctf_source:=⟨z_api_Types,0⟩
def k_ctf_source:Kd ctf_source:=Kd.iso (Kd.pair k_api_Types (Kd.int .i64)) fun x=>(x.vt,x.vi)
end Go.Proofs.YtfjppgobidjndaaDoor
namespace Go.Proofs
open Go.Shelf
def Tryd.laysM171_ren:Go.Shelf.Ren:=⟨fun|171=>99|243=>121|246=>125|283=>134|284=>135|285=>136|286=>137|129=>139|317=>138|318=>140|319=>141|320=>142|337=>143|338=>144|n=>n,fun|3=>3|9=>9|2=>2|4=>4|171=>188|0=>0|53=>168|37=>80|5=>5|173=>191|212=>194|51=>187|20=>20|213=>195|46=>169|232=>199|233=>200|n=>n,fun|17=>0|18=>1|19=>2|n=>n⟩
theorem Tryd.laysM171 : Go.Proofs.LaysM.n171 Tryd.prog Tryd.laysM171_ren := {
 mixed:=by kernel_rfl
 f129:=Tryd.func139.trans (congrArg some (by kernel_rfl))
 f171:=Tryd.func99.trans (congrArg some (by kernel_rfl))
 f243:=Tryd.func121.trans (congrArg some (by kernel_rfl))
 f246:=Tryd.func125.trans (congrArg some (by kernel_rfl))
 f283:=Tryd.func134.trans (congrArg some (by kernel_rfl))
 f284:=Tryd.func135.trans (congrArg some (by kernel_rfl))
 f285:=Tryd.func136.trans (congrArg some (by kernel_rfl))
 f286:=Tryd.func137.trans (congrArg some (by kernel_rfl))
 f317:=Tryd.func138.trans (congrArg some (by kernel_rfl))
 f318:=Tryd.func140.trans (congrArg some (by kernel_rfl))
 f319:=Tryd.func141.trans (congrArg some (by kernel_rfl))
 f320:=Tryd.func142.trans (congrArg some (by kernel_rfl))
 f337:=Tryd.func143.trans (congrArg some (by kernel_rfl))
 f338:=Tryd.func144.trans (congrArg some (by kernel_rfl))
 t0:=Tryd.underlying0
 a0:=Tryd.isAgg0
 z0:=Tryd.sizeOf0
 v0:=Tryd.zeroValue0
 t2:=Tryd.underlying2
 a2:=Tryd.isAgg2
 z2:=Tryd.sizeOf2
 v2:=Tryd.zeroValue2
 t3:=Tryd.underlying3
 a3:=Tryd.isAgg3
 z3:=Tryd.sizeOf3
 v3:=Tryd.zeroValue3
 t4:=Tryd.underlying4
 a4:=Tryd.isAgg4
 z4:=Tryd.sizeOf4
 v4:=Tryd.zeroValue4
 t5:=Tryd.underlying5
 a5:=Tryd.isAgg5
 z5:=Tryd.sizeOf5
 v5:=Tryd.zeroValue5
 t9:=Tryd.underlying9
 a9:=Tryd.isAgg9
 z9:=Tryd.sizeOf9
 v9:=Tryd.zeroValue9
 t20:=Tryd.underlying20
 a20:=Tryd.isAgg20
 z20:=Tryd.sizeOf20
 v20:=Tryd.zeroValue20
 t37:=Tryd.underlying80
 a37:=Tryd.isAgg80
 z37:=Tryd.sizeOf80
 v37:=Tryd.zeroValue80
 t46:=Tryd.underlying169
 a46:=Tryd.isAgg169
 z46:=Tryd.sizeOf169
 v46:=Tryd.zeroValue169
 t51:=Tryd.underlying187
 a51:=Tryd.isAgg187
 z51:=Tryd.sizeOf187
 v51:=Tryd.zeroValue187
 t53:=Tryd.underlying168
 a53:=Tryd.isAgg168
 z53:=Tryd.sizeOf168
 v53:=Tryd.zeroValue168
 t171:=Tryd.underlying188
 a171:=Tryd.isAgg188
 z171:=Tryd.sizeOf188
 v171:=Tryd.zeroValue188
 t173:=Tryd.underlying191
 a173:=Tryd.isAgg191
 z173:=Tryd.sizeOf191
 v173:=Tryd.zeroValue191
 t212:=Tryd.underlying194
 a212:=Tryd.isAgg194
 z212:=Tryd.sizeOf194
 v212:=Tryd.zeroValue194
 t213:=Tryd.underlying195
 a213:=Tryd.isAgg195
 z213:=Tryd.sizeOf195
 t232:=Tryd.underlying199
 a232:=Tryd.isAgg199
 z232:=Tryd.sizeOf199
 v232:=Tryd.zeroValue199
 t233:=Tryd.underlying200
 a233:=Tryd.isAgg200
 z233:=Tryd.sizeOf200
 v233:=Tryd.zeroValue200
 g17:=by kernel_rfl
 g18:=by kernel_rfl
 g19:=by kernel_rfl
 i0:=by kernel_rfl
 i2:=by kernel_rfl
 i3:=by kernel_rfl
 i4:=by kernel_rfl
 i5:=by kernel_rfl
 i9:=by kernel_rfl
 i20:=by kernel_rfl
 i37:=by kernel_rfl
 i46:=by kernel_rfl
 i51:=by kernel_rfl
 i53:=by kernel_rfl
 i171:=by kernel_rfl
 i173:=by kernel_rfl
 i212:=by kernel_rfl
 i232:=by kernel_rfl
 i233:=by kernel_rfl
 m17:=by kernel_rfl
 m18:=by kernel_rfl
 m19 := by kernel_rfl }
open Go.RowKit Go.Sort Go.Lib in
theorem Tryd.strconv_Itoa (n : Int) (h0 : -9223372036854775808 ≤ n) (h1 : n ≤ 9223372036854775807) (w : World) (htab : Lib.TabIs Tryd.prog w "internal/strconv.uint64pow10" .u64 Lib.pow10Tab) :
    Calls Tryd.prog 99 #[.int .i64 n] w fun e w'=>e= .returned (.string ⟨(Lib.itoa n).toArray⟩)∧∃k os,w'=grow (w.drewN k) os:=Any.strconv_Itoa Tryd.laysM171 n h0 h1 w htab
end Go.Proofs
namespace Go.Proofs.YtfjppgobidjndaaDoor
open Go.RowKit Go.M
def Tab (w : World) : Prop := Lib.TabIs Tryd.prog w "internal/strconv.uint64pow10" .u64 Lib.pow10Tab
theorem Tab.b {w w':World} (h:Tab w) (hE:ExtB [] w w'):Tab w':=by
  unfold Tab Lib.TabIs World.var? at*
  cases hg : Tryd.prog.globalNamed "internal/strconv.uint64pow10" with
  |none=>rw [hg] at h;cases h
  | some g =>
    rw [hg] at h
    simp only [Option.bind_some] at h⊢
    cases hb:w.heap[g]? with
    |none=>rw [hb] at h;cases h
    | some o =>
      have hlt:=(Array.getElem?_eq_some_iff.1 hb).1
      rw [hE.block g hlt (by simp)]
      exact h
theorem Tab.e {w w':World} (h:Tab w) (hE:Ext w w'):Tab w':=h.b (hE.toB [])
theorem Tab.s {h0 h:View} {w0 w:World} {bs:List Res} (ht:Tab w0) (HS:St [] h0 w0 h bs w):Tab w:=ht.b HS.ext
def strconv_Itoa.f (a0:Int):Option ByteArray:=if-9223372036854775808≤a0∧a0≤9223372036854775807 then some ⟨(Lib.itoa a0).toArray⟩ else none
theorem strconv_Itoa.calls (a0:Int) {h0:View} {w0:World} (hv:Sees h0 w0) (ht:Tab w0) {r:ByteArray} (H:strconv_Itoa.f a0=some r):Calls Tryd.prog 99 #[Value.int .i64 a0] w0 (fun e w1=>e= .returned (Value.string r)∧Ext w0 w1):=by
 unfold strconv_Itoa.f at H
 obtain ⟨hc,H⟩:=of_ite H
 obtain rfl:=Option.some.inj H
 refine (Tryd.strconv_Itoa a0 hc.1 hc.2 w0 ht).mono ?_
 rintro e w1 ⟨rfl,k,os,rfl⟩
 refine ⟨rfl,rfl,rfl,rfl,by simp [Sort.grow,World.drewN],fun i hi=>?_⟩
 simp only [Sort.grow,World.drewN]
 rw [Array.getElem?_append_left hi]
def ctf_contained.l0 (a0:api_Def):Nat→Int→(List Int)→Option ((List Int))
 |0,_,_=>none
 |m+1,y1_0,y1_1=>if (decide (y1_0<(a0.vFields.length:Int)))=true then (if 0≤y1_0∧y1_0<a0.vFields.length then (if y1_1.length+1≤4294967296 then (ctf_contained.l0 a0 m (IntKind.wrap .i64 (y1_0+1)) (y1_1++([(rd z_api_Field a0.vFields y1_0).vType]:List Int))) else none) else none) else (some y1_1)
def ctf_contained.f (k:Nat) (a0:api_Def):Option ((List Int)):=((if (a0.vKind==3)=true then (some (a0.vKind==3)) else (some (a0.vKind==6))):Option (Bool)).bind fun xx1=>(if xx1=true then (some ([a0.vRef]:List Int)) else (if (a0.vKind==4)=true then ((ctf_contained.l0 a0 k 0 ([]:List Int)).bind fun xx2=>(some xx2)) else (some ([]:List Int))))
theorem ctf_contained.calls (k:Nat) (a0:api_Def) (A0_6:Option Addr) (c0_6:Nat) {h0:View} {w0:World} (hv:Sees h0 w0) (hr0_6:Rd k_api_Field h0 A0_6 a0.vFields) (hc0_6:a0.vFields.length≤c0_6) {r:(List Int)} (H:ctf_contained.f k a0=some r):Calls Tryd.prog 88 #[Value.agg #[vI a0.vKind,vS a0.vName,vI a0.vInt.vSize,vB a0.vInt.vSigned,vI a0.vRef,vI a0.vN,vL A0_6 a0.vFields.length c0_6]] w0 (fun e w1=>∃(h1:View) (A0_0:Option Addr) (c0_0:Nat),e= .returned (vL A0_0 r.length c0_0)∧r.length≤c0_0∧Rd (Kd.int .i64) h1 A0_0 r∧Gr w0.heap.size h0 h1∧Sees h1 w1∧Ext w0 w1):=by
 unfold ctf_contained.f at H
 have HS:St [] h0 w0 h0 [] w0:=St.init hv
 go_enter Tryd.func88,Tryd.ntmps88
 refine wp_seq<|region<|run_ex rfl rfl (does_box (cs:=#[vI a0.vKind,vS a0.vName,vI a0.vInt.vSize,vB a0.vInt.vSigned,vI a0.vRef,vI a0.vN,vL A0_6 a0.vFields.length c0_6]) rfl rfl) ?_
 rintro w1 _ hE1 ⟨b1,rfl,ge1,hb1⟩
 have HS1:=HS.new hE1 ge1 hb1
 refine rs (vL none 0 0) (r_assign rfl) ?_
 try simp only [sc0,sc1]
 refine run_nil<|norm_then<|wp_seq<|wp_seq<|region<|rs (vP b1 0) (r_fieldBox (n:=1) (o':=0) rfl Tryd.runUnderlying34 rfl Tryd.sizeOf3 (by decide) rfl)<|rs (vI a0.vKind) (r_loadBox rfl Tryd.isAgg3 (HS1.look 0 rfl) rfl) ?_
 try simp only [sc0,sc1]
 refine run_nil<|norm_then<|wp_block<|wp_seq<|wp_seq<|region<|rs (vB (a0.vKind==3)) (r_bin rfl rfl rfl)<|rs (vB (a0.vKind==3)) (r_assign rfl) ?_
 try simp only [sc0,sc1]
 refine run_nil<|norm_then ?_
 obtain ⟨xx1,H,G1⟩:=of_bind H
 refine cut_patch [8,10] (fun us w'=>Fit us (fun uj1=>[vB xx1,(uj1 1)])∧St [] h0 w0 h0 [(some b1, .cells #[vI a0.vKind,vS a0.vName,vI a0.vInt.vSize,vB a0.vInt.vSigned,vI a0.vRef,vI a0.vN,vL A0_6 a0.vFields.length c0_6] 34 (0,0))] w') ?_ ?_
 ·refine wp_cond_split (t:=(a0.vKind==3)) rfl (fun c1=>?_) (fun c1=>?_)
  ·replace H:=of_pos H c1
   refine wp_skip ?_
   obtain rfl:=Option.some.inj H
   refine met_j rfl ⟨(fit rfl),HS1⟩
  ·replace H:=of_neg H (nt c1)
   refine region<|rs (vB (a0.vKind==6)) (r_bin rfl rfl rfl)<|rs (vB (a0.vKind==6)) (r_assign rfl) ?_
   try simp only [sc0,sc1]
   refine run_nil ?_
   obtain rfl:=Option.some.inj H
   refine met_j rfl ⟨(fit rfl),HS1⟩
 ·rintro us w2 ⟨huj1,HS2⟩
  obtain ⟨uj1,rfl⟩:=unj huj1
  replace H:=G1
  clear G1
  try simp only [patch,sc0,sc1]
  refine wp_cond_split (t:=xx1) rfl (fun c2=>?_) (fun c2=>?_)
  ·replace H:=of_pos H c2
   refine wp_seq<|region<|rs (vP b1 4) (r_fieldBox (n:=1) (o':=4) rfl Tryd.runUnderlying34 rfl Tryd.sizeOf3 (by decide) rfl)<|rs (vI a0.vRef) (r_loadBox rfl Tryd.isAgg3 (HS2.look 0 rfl) rfl)<|run_bs (Kd.int .i64) (xs:=([a0.vRef]:List Int)) (n:=1) (cs:=[vI a0.vRef]) Tryd.runUnderlying62 Tryd.typeInfo3 Tryd.zeroValue3 rfl rfl (by decide) (by decide) (by decide) [vI a0.vRef] (parts_any.trans rfl) rfl rfl rfl rfl (elems_cons (qs:=[vI a0.vRef]) rfl (elems_nil (cs:=[]))) HS2 ?_
   intro w3 b2 HS3 ho1
   refine rs (vL (rowA (some b2)) 1 1) (r_assign rfl) ?_
   try simp only [sc0,sc1]
   refine run_nil<|norm_then<|wp_ret<|ret_block<|ret_then ?_
   obtain rfl:=Option.some.inj H
   refine bodyPost_ret (results_1 rfl (one_tmp rfl)) rfl ?_
   obtain ⟨h1,HS4,hs1,rdp1⟩:=row_pub HS3 (i:=0) rfl ho1
   exact ⟨h1,(rowA (some b2)),1,(by first|rfl|(rw [ho1.len];done)|(rw [ho1.len];rfl)),ho1.cap,rdp1,HS4.gr,HS4.sees,HS4.toE⟩
  ·replace H:=of_neg H (nt c2)
   refine wp_seq<|region<|rs (vB (a0.vKind==4)) (r_bin rfl rfl rfl)<|rs (vB (a0.vKind==4)) (r_assign rfl) ?_
   try simp only [sc0,sc1]
   refine run_nil<|norm_then<|wp_cond_split (t:=(a0.vKind==4)) rfl (fun c3=>?_) (fun c3=>?_)
   ·replace H:=of_pos H c3
    refine wp_seq<|region<|rs (vL none 0 0) (r_assign rfl) ?_
    try simp only [sc0,sc1]
    refine run_nil<|norm_then<|wp_seq<|wp_seq<|region<|rs (vP b1 6) (r_fieldBox (n:=1) (o':=6) rfl Tryd.runUnderlying34 rfl Tryd.sizeOf32 (by decide) rfl)<|rs (vL A0_6 a0.vFields.length c0_6) (r_loadBox rfl Tryd.isAgg32 (HS2.look 0 rfl) rfl)<|rs (vI (a0.vFields.length:Int)) (r_len rfl Tryd.runUnderlying32)<|rs (vI 0) (r_move rfl) ?_
    try simp only [sc0,sc1]
    refine run_nil<|norm_then ?_
    have HS5:=HS2.nothing (.cells ([]:List Value).toArray 3 (0,0))
    obtain ⟨xx2,H,G2⟩:=of_bind H
    refine loop_j [3,5,19,20,21,22,23,24,25,26,27,28] (fun m us w'=>∃y1_0:Int,∃y1_1:List Int,∃(oby1_1:Option Nat) (cy1_1:Nat),∃(csy1_1:List Value),Fit us (fun uy1=>[vL (rowA oby1_1) y1_1.length cy1_1,(uy1 1),vI y1_0,(uy1 3),(uy1 4),(uy1 5),(uy1 6),(uy1 7),(uy1 8),(uy1 9),(uy1 10),(uy1 11)])∧ctf_contained.l0 a0 m y1_0 y1_1=some xx2∧RowOk (Kd.int .i64) h0 y1_1 oby1_1 y1_1.length cy1_1 csy1_1∧St [] h0 w0 h0 [(oby1_1, .cells (csy1_1).toArray 3 (0,0)),(some b1, .cells #[vI a0.vKind,vS a0.vName,vI a0.vInt.vSize,vB a0.vInt.vSigned,vI a0.vRef,vI a0.vN,vL A0_6 a0.vFields.length c0_6] 34 (0,0))] w') (fun us w'=>∃(obo1_0:Option Nat) (co1_0:Nat),∃(cso1_0:List Value),Fit us (fun uo1=>[vL (rowA obo1_0) xx2.length co1_0,(uo1 1),(uo1 2),(uo1 3),(uo1 4),(uo1 5),(uo1 6),(uo1 7),(uo1 8),(uo1 9),(uo1 10),(uo1 11)])∧RowOk (Kd.int .i64) h0 xx2 obo1_0 xx2.length co1_0 cso1_0∧St [] h0 w0 h0 [(obo1_0, .cells (cso1_0).toArray 3 (0,0)),(some b1, .cells #[vI a0.vKind,vS a0.vName,vI a0.vInt.vSize,vB a0.vInt.vSigned,vI a0.vRef,vI a0.vN,vL A0_6 a0.vFields.length c0_6] 34 (0,0))] w') k ⟨0,([]:List Int),none,0,([]:List Value),(fit rfl),H,(RowOk.none' (Kd.int .i64) _).norm,HS5⟩ ?_ ?_
    ·rintro m us w4 ⟨y1_0,y1_1,oby1_1,cy1_1,csy1_1,huy1,H,hoy1_1,HS6⟩
     obtain ⟨uy1,rfl⟩:=unj huy1
     cases m with
     |zero=>exact absurd H (by simp [ctf_contained.l0])
     |succ m=>
      rw [ctf_contained.l0] at H
      try simp only [patch,sc0,sc1]
      refine wp_seq<|region<|rs (vB (decide (y1_0<(a0.vFields.length:Int)))) (r_bin rfl rfl rfl) ?_
      try simp only [sc0,sc1]
      refine run_nil<|norm_then<|wp_seq<|wp_cond_split (t:=(decide (y1_0<(a0.vFields.length:Int)))) rfl (fun c4=>?_) (fun c4=>?_)
      ·replace H:=of_pos H c4
       refine wp_skip<|norm_then<|wp_seq<|wp_block<|wp_seq<|region ?_
       obtain ⟨hi1,H⟩:=of_ite H
       obtain ⟨ad1,e1,hel1⟩:=ld_api_Field hr0_6 hi1.1 hi1.2
       refine rs (Value.pointer (some (Addr.add ad1 (y1_0.toNat*3)))) (r_indexA (sz:=3) rfl e1 rfl hi1.1 hi1.2 Tryd.runUnderlying32 Tryd.sizeOf36)<|rs (Value.agg #[vS ((rd z_api_Field a0.vFields y1_0).vName),vI ((rd z_api_Field a0.vFields y1_0).vType),vI ((rd z_api_Field a0.vFields y1_0).vAt)]) (r_loadAgg rfl Tryd.isAgg36 (hel1.sees HS6.sees) Tryd.sizeOf36)<|run_ex rfl rfl (does_alloc (cs:=#[vS ByteArray.empty,vI 0,vI 0]) Tryd.zeroValue36 rfl) ?_
       rintro w5 _ hE2 ⟨b3,rfl,ge2,hb2⟩
       have HS7:=HS6.new hE2 ge2 hb2
       refine run_st (i:=0) (cs:=[vS ByteArray.empty,vI 0,vI 0]) (cs':=[vS ((rd z_api_Field a0.vFields y1_0).vName),vI ((rd z_api_Field a0.vFields y1_0).vType),vI ((rd z_api_Field a0.vFields y1_0).vAt)]) (vs:=[vS ((rd z_api_Field a0.vFields y1_0).vName),vI ((rd z_api_Field a0.vFields y1_0).vType),vI ((rd z_api_Field a0.vFields y1_0).vAt)]) (bs':=[(some b3, .cells #[vS ((rd z_api_Field a0.vFields y1_0).vName),vI ((rd z_api_Field a0.vFields y1_0).vType),vI ((rd z_api_Field a0.vFields y1_0).vAt)] 36 (0,0)),(oby1_1, .cells (csy1_1).toArray 3 (0,0)),(some b1, .cells #[vI a0.vKind,vS a0.vName,vI a0.vInt.vSize,vB a0.vInt.vSigned,vI a0.vRef,vI a0.vN,vL A0_6 a0.vFields.length c0_6] 34 (0,0))]) rfl rfl Tryd.sizeOf36 rfl rfl (by decide) rfl HS7 rfl (Nat.le_of_ble_eq_true rfl) rfl rfl ?_
       intro w6 HS8
       try simp only [sc0,sc1]
       refine run_nil<|norm_then<|region<|rs (vL (rowA oby1_1) y1_1.length cy1_1) (r_move rfl)<|rs (vP b3 1) (r_fieldBox (n:=1) (o':=1) rfl Tryd.runUnderlying36 rfl Tryd.sizeOf3 (by decide) rfl)<|rs (vI ((rd z_api_Field a0.vFields y1_0).vType)) (r_loadBox rfl Tryd.isAgg3 (HS8.look 0 rfl) rfl)<|run_bs (Kd.int .i64) (xs:=([(rd z_api_Field a0.vFields y1_0).vType]:List Int)) (n:=1) (cs:=[vI ((rd z_api_Field a0.vFields y1_0).vType)]) Tryd.runUnderlying62 Tryd.typeInfo3 Tryd.zeroValue3 rfl rfl (by decide) (by decide) (by decide) [vI ((rd z_api_Field a0.vFields y1_0).vType)] (parts_any.trans rfl) rfl rfl rfl rfl (elems_cons (qs:=[vI ((rd z_api_Field a0.vFields y1_0).vType)]) rfl (elems_nil (cs:=[]))) HS8 ?_
       intro w7 b4 HS9 ho2
       refine run_frame (by simp only [sc0,sc1];rfl) ?_
       obtain ⟨hl1,H⟩:=of_ite H
       refine run_app (Kd.int .i64) (q:=2) (cs:=csy1_1) rfl rfl Tryd.runUnderlying62 Tryd.typeInfo3 Tryd.zeroValue3 rfl (by decide) rfl (src_row Tryd.runUnderlying62 HS9 (i:=0) rfl ho2 rfl) ho2.len (src_row_elems ho2) hl1 HS9 rfl hoy1_1 ?_
       intro w8 ob1 c5 cs1 HS10 ho3
       refine rs (vL (rowA ob1) (y1_1.length+1) c5) (r_assign rfl) ?_
       try simp only [sc0,sc1]
       refine run_nil<|norm_block<|norm_then<|region<|rs (vI (w64 (y1_0+1))) (r_bin rfl rfl rfl)<|rs (vI (w64 (y1_0+1))) (r_move rfl) ?_
       try simp only [sc0,sc1]
       refine run_nil<|again_j m (Nat.lt_succ_self m) rfl ⟨(w64 (y1_0+1)),(y1_1++([(rd z_api_Field a0.vFields y1_0).vType]:List Int)),ob1,c5,cs1,(fit (by first|rfl|(rw [ho3.len];done)|(rw [ho3.len];rfl))),H,ho3.norm,HS10.tail.tail⟩
      ·replace H:=of_neg H (nt c4)
       refine wp_exit<|exit_then ?_
       obtain rfl:=Option.some.inj H
       refine leave_j rfl ⟨oby1_1,cy1_1,csy1_1,(fit rfl),hoy1_1.norm,HS6⟩
    ·rintro us w9 ⟨obo1_0,co1_0,cso1_0,huo1,hoo1_0,HS11⟩
     obtain ⟨uo1,rfl⟩:=unj huo1
     replace H:=G2
     clear G2
     try simp only [patch,sc0,sc1]
     refine norm_then<|wp_seq<|region<|rs (vL (rowA obo1_0) xx2.length co1_0) (r_move rfl)<|rs (vL (rowA obo1_0) xx2.length co1_0) (r_assign rfl) ?_
     try simp only [sc0,sc1]
     refine run_nil<|norm_then<|wp_ret<|ret_block<|ret_then ?_
     obtain rfl:=Option.some.inj H
     refine bodyPost_ret (results_1 rfl (one_tmp rfl)) rfl ?_
     obtain ⟨h2,HS12,hs2,rdp2⟩:=row_pub HS11 (i:=0) rfl hoo1_0
     exact ⟨h2,(rowA obo1_0),co1_0,rfl,hoo1_0.cap,rdp2,HS12.gr,HS12.sees,HS12.toE⟩
   ·replace H:=of_neg H (nt c3)
    refine wp_skip<|norm_block<|norm_then<|wp_seq<|region<|rs (vL none 0 0) (r_assign rfl) ?_
    try simp only [sc0,sc1]
    refine run_nil<|norm_then<|wp_ret ?_
    obtain rfl:=Option.some.inj H
    exact bodyPost_ret (results_1 rfl (one_tmp rfl)) rfl<|⟨h0,none,0,rfl,(Nat.le_refl 0),(Rd.nil _ _ _),HS2.gr,HS2.sees,HS2.toE⟩
def ctf_sizes_1.l0 (rec:Int→(List Int)→Bool→(List Bool)→(List api_Def)→Option (Int×(List Int)×Bool×(List Bool))) (x3:List api_Def) (v1:(List Int)):Nat→Int→Int→Bool→(List Int)→(List Bool)→Option (Int×Bool×(List Int)×(List Bool))
 |0,_,_,_,_,_=>none
 |m+1,y1_0,y1_1,y1_2,y1_3,y1_4=>if (decide (y1_1<(v1.length:Int)))=true then (if 0≤y1_1∧y1_1<v1.length then ((rec (rd 0 v1 y1_1) y1_3 y1_2 y1_4 x3).bind fun v2=>(ctf_sizes_1.l0 rec x3 v1 m v2.1 (IntKind.wrap .i64 (y1_1+1)) v2.2.2.1 v2.2.1 v2.2.2.2)) else none) else (some (y1_0,y1_2,y1_3,y1_4))
def ctf_sizes_1.f:Nat→Int→(List Int)→Bool→(List Bool)→(List api_Def)→Option (Int×(List Int)×Bool×(List Bool))
 |0,_,_,_,_,_=>none
 |k+1,a0,x0,x1,x2,x3=>if 0≤a0∧a0<((x0.length:Nat):Int) then (if ((decide ((rd 0 x0 a0)>0))||(!x1))=true then (if 0≤a0∧a0<((x0.length:Nat):Int) then (some ((rd 0 x0 a0),x0,x1,x2)) else none) else (if 0≤a0∧a0<((x2.length:Nat):Int) then (if (rd false x2 a0)=true then (some (0,x0,false,x2)) else (if 0≤a0∧a0<((x2.length:Nat):Int) then (if 0≤a0∧a0<x3.length then ((ctf_contained.f k (rd z_api_Def x3 a0)).bind fun v1=>((ctf_sizes_1.l0 (ctf_sizes_1.f k) x3 v1 k 0 0 x1 x0 (List.set x2 a0.toNat true)).bind fun xx1=>(if 0≤a0∧a0<((xx1.2.2.1.length:Nat):Int) then (some (((mfind ieq (mput ieq (mput ieq (mput ieq (mput ieq (mput ieq (mput ieq ([]:List (Int×Int)) 1 ((rd z_api_Def x3 a0).vInt.vSize)) 2 8) 3 (IntKind.wrap .i64 ((rd z_api_Def x3 a0).vN*xx1.1))) 4 ((rd z_api_Def x3 a0).vN)) 5 4) 6 xx1.1) ((rd z_api_Def x3 a0).vKind)).getD 0),(List.set xx1.2.2.1 a0.toNat ((mfind ieq (mput ieq (mput ieq (mput ieq (mput ieq (mput ieq (mput ieq ([]:List (Int×Int)) 1 ((rd z_api_Def x3 a0).vInt.vSize)) 2 8) 3 (IntKind.wrap .i64 ((rd z_api_Def x3 a0).vN*xx1.1))) 4 ((rd z_api_Def x3 a0).vN)) 5 4) 6 xx1.1) ((rd z_api_Def x3 a0).vKind)).getD 0)),(xx1.2.1&&(decide (((mfind ieq (mput ieq (mput ieq (mput ieq (mput ieq (mput ieq (mput ieq ([]:List (Int×Int)) 1 ((rd z_api_Def x3 a0).vInt.vSize)) 2 8) 3 (IntKind.wrap .i64 ((rd z_api_Def x3 a0).vN*xx1.1))) 4 ((rd z_api_Def x3 a0).vN)) 5 4) 6 xx1.1) ((rd z_api_Def x3 a0).vKind)).getD 0)≤512))),xx1.2.2.2)) else none))) else none) else none)) else none)) else none
theorem ctf_sizes_1.calls:∀(k:Nat) (a0:Int) (x0:List Int) (x1:Bool) (x2:List Bool) (x3:List api_Def) (bx0:Nat) (obx0:Option Nat) (cx0:Nat) (csx0:List Value) (bx1:Nat) (bx2:Nat) (obx2:Option Nat) (cx2:Nat) (csx2:List Value) (bx3:Nat) (Ax3:Option Addr) (cx3:Nat) (bx4:Nat) {h0:View} {w0:World} {h:View} {w:World} {rest:List Res} (HS:St [] h0 w0 h ((some bx0, .cells #[vL (rowA obx0) x0.length cx0] 62 (0,0))::(obx0, .cells (csx0).toArray 3 (0,0))::(some bx1, .cells #[vB x1] 4 (0,0))::(some bx2, .cells #[vL (rowA obx2) x2.length cx2] 112 (0,0))::(obx2, .cells (csx2).toArray 4 (0,0))::(some bx3, .cells #[vL Ax3 x3.length cx3] 24 (0,0))::(some bx4, .cells #[Value.func (.func 87) #[] #[vP bx0 0,vP bx1 0,vP bx2 0,vP bx3 0,vP bx4 0]] 147 (0,0))::rest) w) (hox0:RowOk (Kd.int .i64) h x0 obx0 x0.length cx0 csx0) (hox2:RowOk Kd.bool h x2 obx2 x2.length cx2 csx2) (hrx3:Rd k_api_Def h Ax3 x3) (hcx3:x3.length≤cx3) {r:Int×(List Int)×Bool×(List Bool)} (H:ctf_sizes_1.f k a0 x0 x1 x2 x3=some r),Calls Tryd.prog 87 #[vI a0,vP bx0 0,vP bx1 0,vP bx2 0,vP bx3 0,vP bx4 0] w (fun e w1=>∃(h1:View),∃(obz_x0:Option Nat) (cz_x0:Nat) (csz_x0:List Value),∃(obz_x2:Option Nat) (cz_x2:Nat) (csz_x2:List Value),e= .returned (vI r.1)∧RowOk (Kd.int .i64) h1 r.2.1 obz_x0 r.2.1.length cz_x0 csz_x0∧RowOk Kd.bool h1 r.2.2.2 obz_x2 r.2.2.2.length cz_x2 csz_x2∧Sub h h1∧St [] h0 w0 h1 ((some bx0, .cells #[vL (rowA obz_x0) r.2.1.length cz_x0] 62 (0,0))::(obz_x0, .cells (csz_x0).toArray 3 (0,0))::(some bx1, .cells #[vB r.2.2.1] 4 (0,0))::(some bx2, .cells #[vL (rowA obz_x2) r.2.2.2.length cz_x2] 112 (0,0))::(obz_x2, .cells (csz_x2).toArray 4 (0,0))::(some bx3, .cells #[vL Ax3 x3.length cx3] 24 (0,0))::(some bx4, .cells #[Value.func (.func 87) #[] #[vP bx0 0,vP bx1 0,vP bx2 0,vP bx3 0,vP bx4 0]] 147 (0,0))::rest) w1):=by
 intro k
 induction k with
 |zero=>
  intros
  rename_i H
  exact absurd H (by simp [ctf_sizes_1.f])
 |succ k ih=>
  intro a0 x0 x1 x2 x3 bx0 obx0 cx0 csx0 bx1 bx2 obx2 cx2 csx2 bx3 Ax3 cx3 bx4 h0 w0 h w rest HS hox0 hox2 hrx3 hcx3 r H
  rw [ctf_sizes_1.f] at H
  have hsub:Sub h h:=Sub.rfl' h
  go_enter Tryd.func87,Tryd.ntmps87
  refine wp_seq<|region<|rs (vI 0) (r_assign rfl) ?_
  try simp only [sc0,sc1]
  refine run_nil<|norm_then<|wp_seq<|wp_seq<|region<|rs (vL (rowA obx0) x0.length cx0) (r_loadBox rfl Tryd.isAgg62 (HS.look 0 rfl) rfl)<|rs (vI a0) (r_move rfl) ?_
  obtain ⟨hi1,H⟩:=of_ite H
  obtain ⟨rb1,_,hrb1,rfl,hp1⟩:=hox0.at 0 hi1.1 hi1.2
  refine rs (Value.pointer (some ⟨rb1,a0.toNat*1+0,none⟩)) (r_indexRow (sz:=1) rfl hrb1 rfl hi1.1 hi1.2 Tryd.runUnderlying62 Tryd.sizeOf3)<|rs (vI (rd 0 x0 a0)) (r_loadBox (cs:=csx0) rfl Tryd.isAgg3 (HS.lookr 1 rfl hrb1) (hp1 0 _ rfl))<|run_frame (by simp only [sc0,sc1];rfl) ?_
  refine rs (vB (decide ((rd 0 x0 a0)>0))) (r_bin rfl rfl rfl)<|rs (vB (decide ((rd 0 x0 a0)>0))) (r_move rfl)<|rgs (decide ((rd 0 x0 a0)>0)) true (vB x1) rfl rfl rfl rfl (fun hg=>(r_loadBox rfl Tryd.isAgg4 (HS.look 2 rfl) rfl))<|rgs (decide ((rd 0 x0 a0)>0)) true (vB (!x1)) rfl rfl rfl rfl (fun hg=>(r_not (gvt (vB x1) hg rfl)))<|run_frame (by simp only [sc0,sc1];rfl) ?_
  refine rs (vB ((decide ((rd 0 x0 a0)>0))||(!x1))) (r_pick_or rfl rfl (fun hp=>(gvt (vB (!x1)) (and_i rfl hp) rfl))) ?_
  try simp only [sc0,sc1]
  refine run_nil<|norm_then<|wp_cond_split (t:=((decide ((rd 0 x0 a0)>0))||(!x1))) rfl (fun c1=>?_) (fun c1=>?_)
  ·replace H:=of_pos H c1
   refine wp_seq<|region<|rs (vL (rowA obx0) x0.length cx0) (r_loadBox rfl Tryd.isAgg62 (HS.look 0 rfl) rfl)<|rs (vI a0) (r_move rfl) ?_
   obtain ⟨hi2,H⟩:=of_ite H
   obtain ⟨rb2,_,hrb2,rfl,hp2⟩:=hox0.at 0 hi2.1 hi2.2
   refine rs (Value.pointer (some ⟨rb2,a0.toNat*1+0,none⟩)) (r_indexRow (sz:=1) rfl hrb2 rfl hi2.1 hi2.2 Tryd.runUnderlying62 Tryd.sizeOf3)<|rs (vI (rd 0 x0 a0)) (r_loadBox (cs:=csx0) rfl Tryd.isAgg3 (HS.lookr 1 rfl hrb2) (hp2 0 _ rfl))<|run_frame (by simp only [sc0,sc1];rfl) ?_
   refine rs (vI (rd 0 x0 a0)) (r_assign rfl) ?_
   try simp only [sc0,sc1]
   refine run_nil<|norm_then<|wp_ret<|ret_then ?_
   obtain rfl:=Option.some.inj H
   exact bodyPost_ret (results_1 rfl (one_tmp rfl)) rfl<|⟨h,obx0,cx0,csx0,obx2,cx2,csx2,rfl,hox0,hox2,hsub,HS⟩
  ·replace H:=of_neg H (nt c1)
   refine wp_skip<|norm_then<|wp_seq<|wp_seq<|region<|rs (vL (rowA obx2) x2.length cx2) (r_loadBox rfl Tryd.isAgg112 (HS.look 3 rfl) rfl)<|rs (vI a0) (r_move rfl) ?_
   obtain ⟨hi3,H⟩:=of_ite H
   obtain ⟨rb3,_,hrb3,rfl,hp3⟩:=hox2.at false hi3.1 hi3.2
   refine rs (Value.pointer (some ⟨rb3,a0.toNat*1+0,none⟩)) (r_indexRow (sz:=1) rfl hrb3 rfl hi3.1 hi3.2 Tryd.runUnderlying112 Tryd.sizeOf4)<|rs (vB (rd false x2 a0)) (r_loadBox (cs:=csx2) rfl Tryd.isAgg4 (HS.lookr 4 rfl hrb3) (hp3 0 _ rfl)) ?_
   try simp only [sc0,sc1]
   refine run_nil<|norm_then<|wp_cond_split (t:=(rd false x2 a0)) rfl (fun c2=>?_) (fun c2=>?_)
   ·replace H:=of_pos H c2
    refine wp_seq<|region<|run_st (i:=2) (cs:=[vB x1]) (cs':=[vB false]) (vs:=[vB false]) (bs':=((some bx0, .cells #[vL (rowA obx0) x0.length cx0] 62 (0,0))::(obx0, .cells (csx0).toArray 3 (0,0))::(some bx1, .cells #[vB false] 4 (0,0))::(some bx2, .cells #[vL (rowA obx2) x2.length cx2] 112 (0,0))::(obx2, .cells (csx2).toArray 4 (0,0))::(some bx3, .cells #[vL Ax3 x3.length cx3] 24 (0,0))::(some bx4, .cells #[Value.func (.func 87) #[] #[vP bx0 0,vP bx1 0,vP bx2 0,vP bx3 0,vP bx4 0]] 147 (0,0))::rest)) rfl rfl Tryd.sizeOf4 rfl rfl (by decide) rfl HS rfl (Nat.le_of_ble_eq_true rfl) rfl rfl ?_
    intro w1 HS1
    try simp only [sc0,sc1]
    refine run_nil<|norm_then<|wp_seq<|region<|rs (vI 0) (r_assign rfl) ?_
    try simp only [sc0,sc1]
    refine run_nil<|norm_then<|wp_ret<|ret_then ?_
    obtain rfl:=Option.some.inj H
    exact bodyPost_ret (results_1 rfl (one_tmp rfl)) rfl<|⟨h,obx0,cx0,csx0,obx2,cx2,csx2,rfl,hox0,hox2,hsub,HS1⟩
   ·replace H:=of_neg H (nt c2)
    refine wp_skip<|norm_then<|wp_seq<|region<|rs (vL (rowA obx2) x2.length cx2) (r_loadBox rfl Tryd.isAgg112 (HS.look 3 rfl) rfl)<|rs (vI a0) (r_move rfl) ?_
    obtain ⟨hi4,H⟩:=of_ite H
    obtain ⟨rb4,_,hrb4,rfl,hp4⟩:=hox2.at false hi4.1 hi4.2
    refine rs (Value.pointer (some ⟨rb4,a0.toNat*1+0,none⟩)) (r_indexRow (sz:=1) rfl hrb4 rfl hi4.1 hi4.2 Tryd.runUnderlying112 Tryd.sizeOf4)<|run_str (i:=4) (cs:=csx2) (v:=vB true) hrb4 rfl rfl Tryd.sizeOf4 rfl rfl HS rfl (hox2.inb hi4.1 hi4.2 (m:=1) (by decide)) ?_
    intro w2 HS2
    have ho1:=hox2.set (o:=0) (v:=vB true) (x':=true) hi4.1 hi4.2 hp4 rfl (Nat.le_of_ble_eq_true rfl)
    try simp only [sc0,sc1]
    refine run_nil<|norm_then<|wp_seq<|region<|rs (vP bx3 0) (r_fieldBox (n:=1) (o':=0) rfl Tryd.runUnderlying24 rfl Tryd.sizeOf22 (by decide) rfl)<|rs (vL Ax3 x3.length cx3) (r_loadBox rfl Tryd.isAgg22 (HS2.look 5 rfl) rfl)<|rs (vI a0) (r_move rfl) ?_
    obtain ⟨hi5,H⟩:=of_ite H
    obtain ⟨ad1,Aad1_6,cad1_6,e1,hel1,hcad1_6,hrad1_6⟩:=ld_api_Def hrx3 hi5.1 hi5.2
    refine rs (Value.pointer (some (Addr.add ad1 (a0.toNat*7)))) (r_indexA (sz:=7) rfl e1 rfl hi5.1 hi5.2 Tryd.runUnderlying22 Tryd.sizeOf34)<|run_frame (by simp only [sc0,sc1];rfl) ?_
    refine rs (Value.agg #[vI ((rd z_api_Def x3 a0).vKind),vS ((rd z_api_Def x3 a0).vName),vI ((rd z_api_Def x3 a0).vInt.vSize),vB ((rd z_api_Def x3 a0).vInt.vSigned),vI ((rd z_api_Def x3 a0).vRef),vI ((rd z_api_Def x3 a0).vN),vL Aad1_6 ((rd z_api_Def x3 a0).vFields).length cad1_6]) (r_loadAgg rfl Tryd.isAgg34 (hel1.sees HS2.sees) Tryd.sizeOf34)<|run_ex rfl rfl (does_alloc (cs:=#[vI 0,vS ByteArray.empty,vI 0,vB false,vI 0,vI 0,vL none 0 0]) Tryd.zeroValue34 rfl) ?_
    rintro w3 _ hE1 ⟨b1,rfl,ge1,hb1⟩
    have HS3:=HS2.new hE1 ge1 hb1
    refine run_st (i:=0) (cs:=[vI 0,vS ByteArray.empty,vI 0,vB false,vI 0,vI 0,vL none 0 0]) (cs':=[vI ((rd z_api_Def x3 a0).vKind),vS ((rd z_api_Def x3 a0).vName),vI ((rd z_api_Def x3 a0).vInt.vSize),vB ((rd z_api_Def x3 a0).vInt.vSigned),vI ((rd z_api_Def x3 a0).vRef),vI ((rd z_api_Def x3 a0).vN),vL Aad1_6 ((rd z_api_Def x3 a0).vFields).length cad1_6]) (vs:=[vI ((rd z_api_Def x3 a0).vKind),vS ((rd z_api_Def x3 a0).vName),vI ((rd z_api_Def x3 a0).vInt.vSize),vB ((rd z_api_Def x3 a0).vInt.vSigned),vI ((rd z_api_Def x3 a0).vRef),vI ((rd z_api_Def x3 a0).vN),vL Aad1_6 ((rd z_api_Def x3 a0).vFields).length cad1_6]) (bs':=((some b1, .cells #[vI ((rd z_api_Def x3 a0).vKind),vS ((rd z_api_Def x3 a0).vName),vI ((rd z_api_Def x3 a0).vInt.vSize),vB ((rd z_api_Def x3 a0).vInt.vSigned),vI ((rd z_api_Def x3 a0).vRef),vI ((rd z_api_Def x3 a0).vN),vL Aad1_6 ((rd z_api_Def x3 a0).vFields).length cad1_6] 34 (0,0))::(some bx0, .cells #[vL (rowA obx0) x0.length cx0] 62 (0,0))::(obx0, .cells (csx0).toArray 3 (0,0))::(some bx1, .cells #[vB x1] 4 (0,0))::(some bx2, .cells #[vL (rowA obx2) x2.length cx2] 112 (0,0))::(obx2, .cells ((List.set csx2 (a0.toNat*1+0) (vB true))).toArray 4 (0,0))::(some bx3, .cells #[vL Ax3 x3.length cx3] 24 (0,0))::(some bx4, .cells #[Value.func (.func 87) #[] #[vP bx0 0,vP bx1 0,vP bx2 0,vP bx3 0,vP bx4 0]] 147 (0,0))::rest)) rfl rfl Tryd.sizeOf34 rfl rfl (by decide) rfl HS3 rfl (Nat.le_of_ble_eq_true rfl) rfl rfl ?_
    intro w4 HS4
    try simp only [sc0,sc1]
    refine run_nil<|norm_then<|wp_seq<|region<|rs (vI 0) (r_assign rfl) ?_
    try simp only [sc0,sc1]
    refine run_nil<|norm_then<|wp_seq<|wp_seq<|region<|rs (Value.agg #[vI ((rd z_api_Def x3 a0).vKind),vS ((rd z_api_Def x3 a0).vName),vI ((rd z_api_Def x3 a0).vInt.vSize),vB ((rd z_api_Def x3 a0).vInt.vSigned),vI ((rd z_api_Def x3 a0).vRef),vI ((rd z_api_Def x3 a0).vN),vL Aad1_6 ((rd z_api_Def x3 a0).vFields).length cad1_6]) (r_loadBoxAgg (n:=7) (vs:=[vI ((rd z_api_Def x3 a0).vKind),vS ((rd z_api_Def x3 a0).vName),vI ((rd z_api_Def x3 a0).vInt.vSize),vB ((rd z_api_Def x3 a0).vInt.vSigned),vI ((rd z_api_Def x3 a0).vRef),vI ((rd z_api_Def x3 a0).vN),vL Aad1_6 ((rd z_api_Def x3 a0).vFields).length cad1_6]) rfl Tryd.isAgg34 (HS4.look 0 rfl) Tryd.sizeOf34 rfl rfl) ?_
    obtain ⟨v1,H1,H⟩:=of_bind H
    refine run_ex rfl rfl (does_call Tryd.call88 rfl (gives_in (h:=h) (R:=(fun hx u=>∃(Av1_0_0:Option Addr) (cv1_0_0:Nat),u=vL Av1_0_0 v1.length cv1_0_0∧v1.length≤cv1_0_0∧Rd (Kd.int .i64) hx Av1_0_0 v1)) (Ext.rfl' w4) ((ctf_contained.calls k (rd z_api_Def x3 a0) Aad1_6 cad1_6 HS4.sees hrad1_6 hcad1_6 H1).mono ?_)) rfl) ?_
    ·rintro _ _ ⟨h1,Av1_0_0,cv1_0_0,rfl,hcv1_0_0,hrv1_0_0,g,ss,x⟩
     exact ⟨h1,_,rfl,⟨Av1_0_0,cv1_0_0,rfl,hcv1_0_0,hrv1_0_0⟩,g,ss,x⟩
    rintro w5 _ hE2 ⟨h1,⟨Av1_0_0,cv1_0_0,rfl,hcv1_0_0,hrv1_0_0⟩,gr1,se1⟩
    have HS5:=HS4.view hE2 gr1 se1
    replace hrx3:Rd k_api_Def h1 Ax3 x3:=hrx3.ext gr1.1
    replace hsub:Sub h h1:=hsub.then gr1.1
    replace hel1:VCells h1 (Addr.add ad1 (a0.toNat*7)) [vI ((rd z_api_Def x3 a0).vKind),vS ((rd z_api_Def x3 a0).vName),vI ((rd z_api_Def x3 a0).vInt.vSize),vB ((rd z_api_Def x3 a0).vInt.vSigned),vI ((rd z_api_Def x3 a0).vRef),vI ((rd z_api_Def x3 a0).vN),vL Aad1_6 ((rd z_api_Def x3 a0).vFields).length cad1_6]:=hel1.sub gr1.1
    replace hrad1_6:Rd k_api_Field h1 Aad1_6 ((rd z_api_Def x3 a0).vFields):=hrad1_6.ext gr1.1
    replace hox0:=hox0.view gr1.1
    replace ho1:=ho1.view gr1.1
    refine rs (vI (v1.length:Int)) (r_len rfl Tryd.runUnderlying62)<|rs (vI 0) (r_move rfl) ?_
    try simp only [sc0,sc1]
    refine run_nil<|norm_then ?_
    obtain ⟨xx1,H,G1⟩:=of_bind H
    have HS24:St [] h0 w0 h1 ((some b1, .cells #[vI ((rd z_api_Def x3 a0).vKind),vS ((rd z_api_Def x3 a0).vName),vI ((rd z_api_Def x3 a0).vInt.vSize),vB ((rd z_api_Def x3 a0).vInt.vSigned),vI ((rd z_api_Def x3 a0).vRef),vI ((rd z_api_Def x3 a0).vN),vL Aad1_6 ((rd z_api_Def x3 a0).vFields).length cad1_6] 34 (0,0))::(some bx0, .cells #[vL (rowA obx0) x0.length cx0] 62 (0,0))::(obx0, .cells (csx0).toArray 3 (0,0))::(some bx1, .cells #[vB x1] 4 (0,0))::(some bx2, .cells #[vL (rowA obx2) ((List.set x2 a0.toNat true).length) cx2] 112 (0,0))::(obx2, .cells ((List.set csx2 (a0.toNat*1+0) (vB true))).toArray 4 (0,0))::(some bx3, .cells #[vL Ax3 x3.length cx3] 24 (0,0))::(some bx4, .cells #[Value.func (.func 87) #[] #[vP bx0 0,vP bx1 0,vP bx2 0,vP bx3 0,vP bx4 0]] 147 (0,0))::rest) w5:=HS5.cast (by first|rfl|(rw [ho1.len];done)|(rw [ho1.len];rfl))
    have ho2:=ho1.norm
    refine loop_j [9,11,41,42,43,44,45,46,47,48] (fun m us w'=>∃y1_0 y1_1:Int,∃y1_2:Bool,∃y1_3:List Int,∃y1_4:List Bool,∃h2:View,∃(oby1_3:Option Nat) (cy1_3:Nat),∃(csy1_3:List Value),∃(oby1_4:Option Nat) (cy1_4:Nat),∃(csy1_4:List Value),Fit us (fun uy1=>[vI y1_0,(uy1 1),vI y1_1,(uy1 3),(uy1 4),(uy1 5),(uy1 6),(uy1 7),(uy1 8),(uy1 9)])∧ctf_sizes_1.l0 (ctf_sizes_1.f k) x3 v1 m y1_0 y1_1 y1_2 y1_3 y1_4=some xx1∧RowOk (Kd.int .i64) h2 y1_3 oby1_3 y1_3.length cy1_3 csy1_3∧RowOk Kd.bool h2 y1_4 oby1_4 y1_4.length cy1_4 csy1_4∧Rd k_api_Def h2 Ax3 x3∧Sub h h2∧VCells h2 (Addr.add ad1 (a0.toNat*7)) [vI ((rd z_api_Def x3 a0).vKind),vS ((rd z_api_Def x3 a0).vName),vI ((rd z_api_Def x3 a0).vInt.vSize),vB ((rd z_api_Def x3 a0).vInt.vSigned),vI ((rd z_api_Def x3 a0).vRef),vI ((rd z_api_Def x3 a0).vN),vL Aad1_6 ((rd z_api_Def x3 a0).vFields).length cad1_6]∧Rd k_api_Field h2 Aad1_6 ((rd z_api_Def x3 a0).vFields)∧Rd (Kd.int .i64) h2 Av1_0_0 v1∧St [] h0 w0 h2 ((some b1, .cells #[vI ((rd z_api_Def x3 a0).vKind),vS ((rd z_api_Def x3 a0).vName),vI ((rd z_api_Def x3 a0).vInt.vSize),vB ((rd z_api_Def x3 a0).vInt.vSigned),vI ((rd z_api_Def x3 a0).vRef),vI ((rd z_api_Def x3 a0).vN),vL Aad1_6 ((rd z_api_Def x3 a0).vFields).length cad1_6] 34 (0,0))::(some bx0, .cells #[vL (rowA oby1_3) y1_3.length cy1_3] 62 (0,0))::(oby1_3, .cells (csy1_3).toArray 3 (0,0))::(some bx1, .cells #[vB y1_2] 4 (0,0))::(some bx2, .cells #[vL (rowA oby1_4) y1_4.length cy1_4] 112 (0,0))::(oby1_4, .cells (csy1_4).toArray 4 (0,0))::(some bx3, .cells #[vL Ax3 x3.length cx3] 24 (0,0))::(some bx4, .cells #[Value.func (.func 87) #[] #[vP bx0 0,vP bx1 0,vP bx2 0,vP bx3 0,vP bx4 0]] 147 (0,0))::rest) w') (fun us w'=>∃(h4:View),∃(obo1_2:Option Nat) (co1_2:Nat),∃(cso1_2:List Value),∃(obo1_3:Option Nat) (co1_3:Nat),∃(cso1_3:List Value),Fit us (fun uo1=>[vI xx1.1,(uo1 1),(uo1 2),(uo1 3),(uo1 4),(uo1 5),(uo1 6),(uo1 7),(uo1 8),(uo1 9)])∧RowOk (Kd.int .i64) h4 xx1.2.2.1 obo1_2 xx1.2.2.1.length co1_2 cso1_2∧RowOk Kd.bool h4 xx1.2.2.2 obo1_3 xx1.2.2.2.length co1_3 cso1_3∧Rd k_api_Def h4 Ax3 x3∧Sub h h4∧VCells h4 (Addr.add ad1 (a0.toNat*7)) [vI ((rd z_api_Def x3 a0).vKind),vS ((rd z_api_Def x3 a0).vName),vI ((rd z_api_Def x3 a0).vInt.vSize),vB ((rd z_api_Def x3 a0).vInt.vSigned),vI ((rd z_api_Def x3 a0).vRef),vI ((rd z_api_Def x3 a0).vN),vL Aad1_6 ((rd z_api_Def x3 a0).vFields).length cad1_6]∧Rd k_api_Field h4 Aad1_6 ((rd z_api_Def x3 a0).vFields)∧Rd (Kd.int .i64) h4 Av1_0_0 v1∧St [] h0 w0 h4 ((some b1, .cells #[vI ((rd z_api_Def x3 a0).vKind),vS ((rd z_api_Def x3 a0).vName),vI ((rd z_api_Def x3 a0).vInt.vSize),vB ((rd z_api_Def x3 a0).vInt.vSigned),vI ((rd z_api_Def x3 a0).vRef),vI ((rd z_api_Def x3 a0).vN),vL Aad1_6 ((rd z_api_Def x3 a0).vFields).length cad1_6] 34 (0,0))::(some bx0, .cells #[vL (rowA obo1_2) xx1.2.2.1.length co1_2] 62 (0,0))::(obo1_2, .cells (cso1_2).toArray 3 (0,0))::(some bx1, .cells #[vB xx1.2.1] 4 (0,0))::(some bx2, .cells #[vL (rowA obo1_3) xx1.2.2.2.length co1_3] 112 (0,0))::(obo1_3, .cells (cso1_3).toArray 4 (0,0))::(some bx3, .cells #[vL Ax3 x3.length cx3] 24 (0,0))::(some bx4, .cells #[Value.func (.func 87) #[] #[vP bx0 0,vP bx1 0,vP bx2 0,vP bx3 0,vP bx4 0]] 147 (0,0))::rest) w') k ⟨0,0,x1,x0,(List.set x2 a0.toNat true),h1,obx0,cx0,csx0,obx2,cx2,(List.set csx2 (a0.toNat*1+0) (vB true)),(fit (by first|rfl|(rw [ho1.len];done)|(rw [ho1.len];rfl))),H,hox0.norm,ho2.norm,hrx3,hsub,hel1,hrad1_6,hrv1_0_0,HS24⟩ ?_ ?_
    ·rintro m us w6 ⟨y1_0,y1_1,y1_2,y1_3,y1_4,h2,oby1_3,cy1_3,csy1_3,oby1_4,cy1_4,csy1_4,huy1,H,hoy1_3,hoy1_4,hrx3,hsub,hel1,hrad1_6,hrv1_0_0,HS6⟩
     obtain ⟨uy1,rfl⟩:=unj huy1
     cases m with
     |zero=>exact absurd H (by simp [ctf_sizes_1.l0])
     |succ m=>
      rw [ctf_sizes_1.l0] at H
      try simp only [patch,sc0,sc1]
      refine wp_seq<|region<|rs (vB (decide (y1_1<(v1.length:Int)))) (r_bin rfl rfl rfl) ?_
      try simp only [sc0,sc1]
      refine run_nil<|norm_then<|wp_seq<|wp_cond_split (t:=(decide (y1_1<(v1.length:Int)))) rfl (fun c3=>?_) (fun c3=>?_)
      ·replace H:=of_pos H c3
       refine wp_skip<|norm_then<|wp_seq<|wp_block<|wp_seq<|region ?_
       obtain ⟨hi6,H⟩:=of_ite H
       obtain ⟨ad2,e2,hel2⟩:=ld_int hrv1_0_0 hi6.1 hi6.2
       refine rs (Value.pointer (some (Addr.add ad2 (y1_1.toNat*1)))) (r_indexA (sz:=1) rfl e2 rfl hi6.1 hi6.2 Tryd.runUnderlying62 Tryd.sizeOf3)<|rs (vI (rd 0 v1 y1_1)) (r_load rfl Tryd.isAgg3 (hel2.cell0 HS6.sees rfl))<|rs (vI (rd 0 v1 y1_1)) (r_assign rfl) ?_
       try simp only [sc0,sc1]
       refine run_nil<|norm_then<|region<|rs (Value.func (.func 87) #[] #[vP bx0 0,vP bx1 0,vP bx2 0,vP bx3 0,vP bx4 0]) (r_loadBox rfl Tryd.isAgg147 (HS6.look 7 rfl) rfl)<|rs (vI (rd 0 v1 y1_1)) (r_move rfl) ?_
       obtain ⟨v2,H2,H⟩:=of_bind H
       have HS7:=HS6.f7
       have HS8:=HS7.f7
       have HS9:=HS8.f7
       have HS10:=HS9.f7
       have HS11:=HS10.f7
       have HS12:=HS11.f7
       have HS13:=HS12.f7
       refine run_call (vs:=[vI (rd 0 v1 y1_1)]) (caps:=[vP bx0 0,vP bx1 0,vP bx2 0,vP bx3 0,vP bx4 0]) Tryd.call87 rfl rfl (ih (rd 0 v1 y1_1) y1_3 y1_2 y1_4 x3 bx0 oby1_3 cy1_3 csy1_3 bx1 bx2 oby1_4 cy1_4 csy1_4 bx3 Ax3 cx3 bx4 HS13 hoy1_3 hoy1_4 hrx3 hcx3 H2) ?_
       rintro _ w7 ⟨h3,obv2_x0,cv2_x0,csv2_x0,obv2_x2,cv2_x2,csv2_x2,rfl,hov2_x0,hov2_x2,hs1,HS14⟩
       refine ⟨_,rfl,?_⟩
       replace hrx3:Rd k_api_Def h3 Ax3 x3:=hrx3.ext hs1
       replace hsub:Sub h h3:=hsub.then hs1
       replace hel1:VCells h3 (Addr.add ad1 (a0.toNat*7)) [vI ((rd z_api_Def x3 a0).vKind),vS ((rd z_api_Def x3 a0).vName),vI ((rd z_api_Def x3 a0).vInt.vSize),vB ((rd z_api_Def x3 a0).vInt.vSigned),vI ((rd z_api_Def x3 a0).vRef),vI ((rd z_api_Def x3 a0).vN),vL Aad1_6 ((rd z_api_Def x3 a0).vFields).length cad1_6]:=hel1.sub hs1
       replace hrad1_6:Rd k_api_Field h3 Aad1_6 ((rd z_api_Def x3 a0).vFields):=hrad1_6.ext hs1
       replace hrv1_0_0:Rd (Kd.int .i64) h3 Av1_0_0 v1:=hrv1_0_0.ext hs1
       replace hel2:VCells h3 (Addr.add ad2 (y1_1.toNat*1)) [vI (rd 0 v1 y1_1)]:=hel2.sub hs1
       have HS15:=HS14.f6
       have HS16:=HS15.f6
       have HS17:=HS16.f6
       have HS18:=HS17.f6
       have HS19:=HS18.f6
       have HS20:=HS19.f6
       have HS21:=HS20.f6
       have HS22:=HS21.f7
       refine rs (vI v2.1) (r_assign rfl) ?_
       try simp only [sc0,sc1]
       refine run_nil<|norm_block<|norm_then<|region<|rs (vI (w64 (y1_1+1))) (r_bin rfl rfl rfl)<|rs (vI (w64 (y1_1+1))) (r_move rfl) ?_
       try simp only [sc0,sc1]
       refine run_nil<|again_j m (Nat.lt_succ_self m) rfl ⟨v2.1,(w64 (y1_1+1)),v2.2.2.1,v2.2.1,v2.2.2.2,h3,obv2_x0,cv2_x0,csv2_x0,obv2_x2,cv2_x2,csv2_x2,(fit rfl),H,hov2_x0.norm,hov2_x2.norm,hrx3,hsub,hel1,hrad1_6,hrv1_0_0,HS22⟩
      ·replace H:=of_neg H (nt c3)
       refine wp_exit<|exit_then ?_
       obtain rfl:=Option.some.inj H
       refine leave_j rfl ⟨h2,oby1_3,cy1_3,csy1_3,oby1_4,cy1_4,csy1_4,(fit rfl),hoy1_3.norm,hoy1_4.norm,hrx3,hsub,hel1,hrad1_6,hrv1_0_0,HS6⟩
    ·rintro us w8 ⟨h4,obo1_2,co1_2,cso1_2,obo1_3,co1_3,cso1_3,huo1,hoo1_2,hoo1_3,hrx3,hsub,hel1,hrad1_6,hrv1_0_0,HS23⟩
     obtain ⟨uo1,rfl⟩:=unj huo1
     replace H:=G1
     clear G1
     try simp only [patch,sc0,sc1]
     refine norm_then<|wp_seq<|region<|run_mkmap HS23 ?_
     intro w9 b2 HS25
     refine rs (vP b1 2) (r_fieldBox (n:=2) (o':=2) rfl Tryd.runUnderlying34 rfl Tryd.sizeOf31 (by decide) rfl)<|rs (vP b1 2) (r_fieldBox (n:=1) (o':=2) rfl Tryd.runUnderlying31 rfl Tryd.sizeOf3 (by decide) rfl)<|rs (vI ((rd z_api_Def x3 a0).vInt.vSize)) (r_loadBox rfl Tryd.isAgg3 (HS25.look 1 rfl) rfl)<|run_frame (by simp only [sc0,sc1];rfl) ?_
     refine mupd (key_int Tryd.runUnderlying3) (i:=0) (k:=1) (v:=((rd z_api_Def x3 a0).vInt.vSize)) (ev:=(vI)) (m:=([]:List (Int×Int))) (by first|exact .inl rfl|exact .inr rfl) rfl rfl rfl rfl rfl Tryd.runUnderlying149 HS25 rfl (MapOk.nil) ?_
     intro w10 es1 cl1 HS26 ho3
     refine mupd (key_int Tryd.runUnderlying3) (i:=0) (k:=2) (v:=8) (ev:=(vI)) (m:=(mput ieq ([]:List (Int×Int)) 1 ((rd z_api_Def x3 a0).vInt.vSize))) (by first|exact .inl rfl|exact .inr rfl) rfl rfl rfl rfl rfl Tryd.runUnderlying149 HS26 rfl ho3 ?_
     intro w11 es2 cl2 HS27 ho4
     refine rs (vP b1 5) (r_fieldBox (n:=1) (o':=5) rfl Tryd.runUnderlying34 rfl Tryd.sizeOf3 (by decide) rfl)<|rs (vI ((rd z_api_Def x3 a0).vN)) (r_loadBox rfl Tryd.isAgg3 (HS27.look 1 rfl) rfl)<|run_frame (by simp only [sc0,sc1];rfl) ?_
     refine rs (vI xx1.1) (r_move rfl)<|rs (vI (w64 ((rd z_api_Def x3 a0).vN*xx1.1))) (r_bin rfl rfl rfl)<|mupd (key_int Tryd.runUnderlying3) (i:=0) (k:=3) (v:=(w64 ((rd z_api_Def x3 a0).vN*xx1.1))) (ev:=(vI)) (m:=(mput ieq (mput ieq ([]:List (Int×Int)) 1 ((rd z_api_Def x3 a0).vInt.vSize)) 2 8)) (by first|exact .inl rfl|exact .inr rfl) rfl rfl rfl rfl rfl Tryd.runUnderlying149 HS27 rfl ho4 ?_
     intro w12 es3 cl3 HS28 ho5
     refine rs (vP b1 5) (r_fieldBox (n:=1) (o':=5) rfl Tryd.runUnderlying34 rfl Tryd.sizeOf3 (by decide) rfl)<|run_frame (by simp only [sc0,sc1];rfl) ?_
     refine rs (vI ((rd z_api_Def x3 a0).vN)) (r_loadBox rfl Tryd.isAgg3 (HS28.look 1 rfl) rfl)<|mupd (key_int Tryd.runUnderlying3) (i:=0) (k:=4) (v:=((rd z_api_Def x3 a0).vN)) (ev:=(vI)) (m:=(mput ieq (mput ieq (mput ieq ([]:List (Int×Int)) 1 ((rd z_api_Def x3 a0).vInt.vSize)) 2 8) 3 (w64 ((rd z_api_Def x3 a0).vN*xx1.1)))) (by first|exact .inl rfl|exact .inr rfl) rfl rfl rfl rfl rfl Tryd.runUnderlying149 HS28 rfl ho5 ?_
     intro w13 es4 cl4 HS29 ho6
     refine mupd (key_int Tryd.runUnderlying3) (i:=0) (k:=5) (v:=4) (ev:=(vI)) (m:=(mput ieq (mput ieq (mput ieq (mput ieq ([]:List (Int×Int)) 1 ((rd z_api_Def x3 a0).vInt.vSize)) 2 8) 3 (w64 ((rd z_api_Def x3 a0).vN*xx1.1))) 4 ((rd z_api_Def x3 a0).vN))) (by first|exact .inl rfl|exact .inr rfl) rfl rfl rfl rfl rfl Tryd.runUnderlying149 HS29 rfl ho6 ?_
     intro w14 es5 cl5 HS30 ho7
     refine rs (vI xx1.1) (r_move rfl)<|run_frame (by simp only [sc0,sc1];rfl) ?_
     refine mupd (key_int Tryd.runUnderlying3) (i:=0) (k:=6) (v:=xx1.1) (ev:=(vI)) (m:=(mput ieq (mput ieq (mput ieq (mput ieq (mput ieq ([]:List (Int×Int)) 1 ((rd z_api_Def x3 a0).vInt.vSize)) 2 8) 3 (w64 ((rd z_api_Def x3 a0).vN*xx1.1))) 4 ((rd z_api_Def x3 a0).vN)) 5 4)) (by first|exact .inl rfl|exact .inr rfl) rfl rfl rfl rfl rfl Tryd.runUnderlying149 HS30 rfl ho7 ?_
     intro w15 es6 cl6 HS31 ho8
     refine rs (Value.map (some b2)) (r_move rfl)<|rs (vP b1 0) (r_fieldBox (n:=1) (o':=0) rfl Tryd.runUnderlying34 rfl Tryd.sizeOf3 (by decide) rfl)<|rs (vI ((rd z_api_Def x3 a0).vKind)) (r_loadBox rfl Tryd.isAgg3 (HS31.look 1 rfl) rfl)<|run_frame (by simp only [sc0,sc1];rfl) ?_
     refine rs (vI ((mfind ieq (mput ieq (mput ieq (mput ieq (mput ieq (mput ieq (mput ieq ([]:List (Int×Int)) 1 ((rd z_api_Def x3 a0).vInt.vSize)) 2 8) 3 (w64 ((rd z_api_Def x3 a0).vN*xx1.1))) 4 ((rd z_api_Def x3 a0).vN)) 5 4) 6 xx1.1) ((rd z_api_Def x3 a0).vKind)).getD 0)) (r_mget (key_int Tryd.runUnderlying3) (k:=((rd z_api_Def x3 a0).vKind)) (m:=(mput ieq (mput ieq (mput ieq (mput ieq (mput ieq (mput ieq ([]:List (Int×Int)) 1 ((rd z_api_Def x3 a0).vInt.vSize)) 2 8) 3 (w64 ((rd z_api_Def x3 a0).vN*xx1.1))) 4 ((rd z_api_Def x3 a0).vN)) 5 4) 6 xx1.1)) (ev:=(vI)) 0 rfl rfl Tryd.runUnderlying149 Tryd.zeroValue3 (HS31.look 0 rfl) ho8)<|rs (vI ((mfind ieq (mput ieq (mput ieq (mput ieq (mput ieq (mput ieq (mput ieq ([]:List (Int×Int)) 1 ((rd z_api_Def x3 a0).vInt.vSize)) 2 8) 3 (w64 ((rd z_api_Def x3 a0).vN*xx1.1))) 4 ((rd z_api_Def x3 a0).vN)) 5 4) 6 xx1.1) ((rd z_api_Def x3 a0).vKind)).getD 0)) (r_assign rfl) ?_
     try simp only [sc0,sc1]
     refine run_nil<|norm_then<|wp_seq<|region<|rs (vB xx1.2.1) (r_loadBox rfl Tryd.isAgg4 (HS31.look 4 rfl) rfl)<|rs (vB xx1.2.1) (r_move rfl)<|rgs xx1.2.1 true (vI ((mfind ieq (mput ieq (mput ieq (mput ieq (mput ieq (mput ieq (mput ieq ([]:List (Int×Int)) 1 ((rd z_api_Def x3 a0).vInt.vSize)) 2 8) 3 (w64 ((rd z_api_Def x3 a0).vN*xx1.1))) 4 ((rd z_api_Def x3 a0).vN)) 5 4) 6 xx1.1) ((rd z_api_Def x3 a0).vKind)).getD 0)) rfl rfl rfl rfl (fun hg=>(r_move rfl))<|rgs xx1.2.1 true (vB (decide (((mfind ieq (mput ieq (mput ieq (mput ieq (mput ieq (mput ieq (mput ieq ([]:List (Int×Int)) 1 ((rd z_api_Def x3 a0).vInt.vSize)) 2 8) 3 (w64 ((rd z_api_Def x3 a0).vN*xx1.1))) 4 ((rd z_api_Def x3 a0).vN)) 5 4) 6 xx1.1) ((rd z_api_Def x3 a0).vKind)).getD 0)≤512))) rfl rfl rfl rfl (fun hg=>(r_bin (gvt (vI ((mfind ieq (mput ieq (mput ieq (mput ieq (mput ieq (mput ieq (mput ieq ([]:List (Int×Int)) 1 ((rd z_api_Def x3 a0).vInt.vSize)) 2 8) 3 (w64 ((rd z_api_Def x3 a0).vN*xx1.1))) 4 ((rd z_api_Def x3 a0).vN)) 5 4) 6 xx1.1) ((rd z_api_Def x3 a0).vKind)).getD 0)) hg rfl) rfl rfl))<|run_frame (by simp only [sc0,sc1];rfl) ?_
     refine rs (vB (xx1.2.1&&(decide (((mfind ieq (mput ieq (mput ieq (mput ieq (mput ieq (mput ieq (mput ieq ([]:List (Int×Int)) 1 ((rd z_api_Def x3 a0).vInt.vSize)) 2 8) 3 (w64 ((rd z_api_Def x3 a0).vN*xx1.1))) 4 ((rd z_api_Def x3 a0).vN)) 5 4) 6 xx1.1) ((rd z_api_Def x3 a0).vKind)).getD 0)≤512)))) (r_pick_and rfl (fun hp=>(gvt (vB (decide (((mfind ieq (mput ieq (mput ieq (mput ieq (mput ieq (mput ieq (mput ieq ([]:List (Int×Int)) 1 ((rd z_api_Def x3 a0).vInt.vSize)) 2 8) 3 (w64 ((rd z_api_Def x3 a0).vN*xx1.1))) 4 ((rd z_api_Def x3 a0).vN)) 5 4) 6 xx1.1) ((rd z_api_Def x3 a0).vKind)).getD 0)≤512))) (and_i rfl hp) rfl)) rfl)<|run_st (i:=4) (cs:=[vB xx1.2.1]) (cs':=[vB (xx1.2.1&&(decide (((mfind ieq (mput ieq (mput ieq (mput ieq (mput ieq (mput ieq (mput ieq ([]:List (Int×Int)) 1 ((rd z_api_Def x3 a0).vInt.vSize)) 2 8) 3 (w64 ((rd z_api_Def x3 a0).vN*xx1.1))) 4 ((rd z_api_Def x3 a0).vN)) 5 4) 6 xx1.1) ((rd z_api_Def x3 a0).vKind)).getD 0)≤512)))]) (vs:=[vB (xx1.2.1&&(decide (((mfind ieq (mput ieq (mput ieq (mput ieq (mput ieq (mput ieq (mput ieq ([]:List (Int×Int)) 1 ((rd z_api_Def x3 a0).vInt.vSize)) 2 8) 3 (w64 ((rd z_api_Def x3 a0).vN*xx1.1))) 4 ((rd z_api_Def x3 a0).vN)) 5 4) 6 xx1.1) ((rd z_api_Def x3 a0).vKind)).getD 0)≤512)))]) (bs':=((some b2, .map es6 cl6)::(some b1, .cells #[vI ((rd z_api_Def x3 a0).vKind),vS ((rd z_api_Def x3 a0).vName),vI ((rd z_api_Def x3 a0).vInt.vSize),vB ((rd z_api_Def x3 a0).vInt.vSigned),vI ((rd z_api_Def x3 a0).vRef),vI ((rd z_api_Def x3 a0).vN),vL Aad1_6 ((rd z_api_Def x3 a0).vFields).length cad1_6] 34 (0,0))::(some bx0, .cells #[vL (rowA obo1_2) xx1.2.2.1.length co1_2] 62 (0,0))::(obo1_2, .cells (cso1_2).toArray 3 (0,0))::(some bx1, .cells #[vB (xx1.2.1&&(decide (((mfind ieq (mput ieq (mput ieq (mput ieq (mput ieq (mput ieq (mput ieq ([]:List (Int×Int)) 1 ((rd z_api_Def x3 a0).vInt.vSize)) 2 8) 3 (w64 ((rd z_api_Def x3 a0).vN*xx1.1))) 4 ((rd z_api_Def x3 a0).vN)) 5 4) 6 xx1.1) ((rd z_api_Def x3 a0).vKind)).getD 0)≤512)))] 4 (0,0))::(some bx2, .cells #[vL (rowA obo1_3) xx1.2.2.2.length co1_3] 112 (0,0))::(obo1_3, .cells (cso1_3).toArray 4 (0,0))::(some bx3, .cells #[vL Ax3 x3.length cx3] 24 (0,0))::(some bx4, .cells #[Value.func (.func 87) #[] #[vP bx0 0,vP bx1 0,vP bx2 0,vP bx3 0,vP bx4 0]] 147 (0,0))::rest)) rfl rfl Tryd.sizeOf4 rfl rfl (by decide) rfl HS31 rfl (Nat.le_of_ble_eq_true rfl) rfl rfl ?_
     intro w16 HS32
     try simp only [sc0,sc1]
     refine run_nil<|norm_then<|wp_seq<|region<|rs (vL (rowA obo1_2) xx1.2.2.1.length co1_2) (r_loadBox rfl Tryd.isAgg62 (HS32.look 2 rfl) rfl)<|rs (vI a0) (r_move rfl)<|rs (vI ((mfind ieq (mput ieq (mput ieq (mput ieq (mput ieq (mput ieq (mput ieq ([]:List (Int×Int)) 1 ((rd z_api_Def x3 a0).vInt.vSize)) 2 8) 3 (w64 ((rd z_api_Def x3 a0).vN*xx1.1))) 4 ((rd z_api_Def x3 a0).vN)) 5 4) 6 xx1.1) ((rd z_api_Def x3 a0).vKind)).getD 0)) (r_move rfl) ?_
     obtain ⟨hi7,H⟩:=of_ite H
     obtain ⟨rb5,_,hrb5,rfl,hp5⟩:=hoo1_2.at 0 hi7.1 hi7.2
     refine rs (Value.pointer (some ⟨rb5,a0.toNat*1+0,none⟩)) (r_indexRow (sz:=1) rfl hrb5 rfl hi7.1 hi7.2 Tryd.runUnderlying62 Tryd.sizeOf3)<|run_frame (by simp only [sc0,sc1];rfl) ?_
     refine run_str (i:=3) (cs:=cso1_2) (v:=vI ((mfind ieq (mput ieq (mput ieq (mput ieq (mput ieq (mput ieq (mput ieq ([]:List (Int×Int)) 1 ((rd z_api_Def x3 a0).vInt.vSize)) 2 8) 3 (w64 ((rd z_api_Def x3 a0).vN*xx1.1))) 4 ((rd z_api_Def x3 a0).vN)) 5 4) 6 xx1.1) ((rd z_api_Def x3 a0).vKind)).getD 0)) hrb5 rfl rfl Tryd.sizeOf3 rfl rfl HS32 rfl (hoo1_2.inb hi7.1 hi7.2 (m:=1) (by decide)) ?_
     intro w17 HS33
     have ho9:=hoo1_2.set (o:=0) (v:=vI ((mfind ieq (mput ieq (mput ieq (mput ieq (mput ieq (mput ieq (mput ieq ([]:List (Int×Int)) 1 ((rd z_api_Def x3 a0).vInt.vSize)) 2 8) 3 (w64 ((rd z_api_Def x3 a0).vN*xx1.1))) 4 ((rd z_api_Def x3 a0).vN)) 5 4) 6 xx1.1) ((rd z_api_Def x3 a0).vKind)).getD 0)) (x':=((mfind ieq (mput ieq (mput ieq (mput ieq (mput ieq (mput ieq (mput ieq ([]:List (Int×Int)) 1 ((rd z_api_Def x3 a0).vInt.vSize)) 2 8) 3 (w64 ((rd z_api_Def x3 a0).vN*xx1.1))) 4 ((rd z_api_Def x3 a0).vN)) 5 4) 6 xx1.1) ((rd z_api_Def x3 a0).vKind)).getD 0)) hi7.1 hi7.2 hp5 rfl (Nat.le_of_ble_eq_true rfl)
     try simp only [sc0,sc1]
     refine run_nil<|norm_then<|wp_seq<|region<|rs (vI ((mfind ieq (mput ieq (mput ieq (mput ieq (mput ieq (mput ieq (mput ieq ([]:List (Int×Int)) 1 ((rd z_api_Def x3 a0).vInt.vSize)) 2 8) 3 (w64 ((rd z_api_Def x3 a0).vN*xx1.1))) 4 ((rd z_api_Def x3 a0).vN)) 5 4) 6 xx1.1) ((rd z_api_Def x3 a0).vKind)).getD 0)) (r_move rfl)<|rs (vI ((mfind ieq (mput ieq (mput ieq (mput ieq (mput ieq (mput ieq (mput ieq ([]:List (Int×Int)) 1 ((rd z_api_Def x3 a0).vInt.vSize)) 2 8) 3 (w64 ((rd z_api_Def x3 a0).vN*xx1.1))) 4 ((rd z_api_Def x3 a0).vN)) 5 4) 6 xx1.1) ((rd z_api_Def x3 a0).vKind)).getD 0)) (r_assign rfl) ?_
     try simp only [sc0,sc1]
     refine run_nil<|norm_then<|wp_ret ?_
     obtain rfl:=Option.some.inj H
     refine bodyPost_ret (results_1 rfl (one_tmp rfl)) rfl ?_
     have HS34:St [] h0 w0 h4 ((some b2, .map es6 cl6)::(some b1, .cells #[vI ((rd z_api_Def x3 a0).vKind),vS ((rd z_api_Def x3 a0).vName),vI ((rd z_api_Def x3 a0).vInt.vSize),vB ((rd z_api_Def x3 a0).vInt.vSigned),vI ((rd z_api_Def x3 a0).vRef),vI ((rd z_api_Def x3 a0).vN),vL Aad1_6 ((rd z_api_Def x3 a0).vFields).length cad1_6] 34 (0,0))::(some bx0, .cells #[vL (rowA obo1_2) ((List.set xx1.2.2.1 a0.toNat ((mfind ieq (mput ieq (mput ieq (mput ieq (mput ieq (mput ieq (mput ieq ([]:List (Int×Int)) 1 ((rd z_api_Def x3 a0).vInt.vSize)) 2 8) 3 (w64 ((rd z_api_Def x3 a0).vN*xx1.1))) 4 ((rd z_api_Def x3 a0).vN)) 5 4) 6 xx1.1) ((rd z_api_Def x3 a0).vKind)).getD 0)).length) co1_2] 62 (0,0))::(obo1_2, .cells ((List.set cso1_2 (a0.toNat*1+0) (vI ((mfind ieq (mput ieq (mput ieq (mput ieq (mput ieq (mput ieq (mput ieq ([]:List (Int×Int)) 1 ((rd z_api_Def x3 a0).vInt.vSize)) 2 8) 3 (w64 ((rd z_api_Def x3 a0).vN*xx1.1))) 4 ((rd z_api_Def x3 a0).vN)) 5 4) 6 xx1.1) ((rd z_api_Def x3 a0).vKind)).getD 0)))).toArray 3 (0,0))::(some bx1, .cells #[vB (xx1.2.1&&(decide (((mfind ieq (mput ieq (mput ieq (mput ieq (mput ieq (mput ieq (mput ieq ([]:List (Int×Int)) 1 ((rd z_api_Def x3 a0).vInt.vSize)) 2 8) 3 (w64 ((rd z_api_Def x3 a0).vN*xx1.1))) 4 ((rd z_api_Def x3 a0).vN)) 5 4) 6 xx1.1) ((rd z_api_Def x3 a0).vKind)).getD 0)≤512)))] 4 (0,0))::(some bx2, .cells #[vL (rowA obo1_3) xx1.2.2.2.length co1_3] 112 (0,0))::(obo1_3, .cells (cso1_3).toArray 4 (0,0))::(some bx3, .cells #[vL Ax3 x3.length cx3] 24 (0,0))::(some bx4, .cells #[Value.func (.func 87) #[] #[vP bx0 0,vP bx1 0,vP bx2 0,vP bx3 0,vP bx4 0]] 147 (0,0))::rest) w17:=HS33.cast (by first|rfl|(rw [ho9.len];done)|(rw [ho9.len];rfl))
     have ho10:=ho9.norm
     have HS35:=HS34.d1
     have HS36:=HS35.d0
     exact ⟨h4,obo1_2,co1_2,(List.set cso1_2 (a0.toNat*1+0) (vI ((mfind ieq (mput ieq (mput ieq (mput ieq (mput ieq (mput ieq (mput ieq ([]:List (Int×Int)) 1 ((rd z_api_Def x3 a0).vInt.vSize)) 2 8) 3 (w64 ((rd z_api_Def x3 a0).vN*xx1.1))) 4 ((rd z_api_Def x3 a0).vN)) 5 4) 6 xx1.1) ((rd z_api_Def x3 a0).vKind)).getD 0))),obo1_3,co1_3,cso1_3,rfl,ho10,hoo1_3,hsub,HS36⟩
def ctf_sizes.l0 (k:Nat) (a0:api_Types):Nat→Int→Bool→(List Bool)→(List Int)→Option (Bool×(List Bool)×(List Int))
 |0,_,_,_,_=>none
 |m+1,y1_0,y1_1,y1_2,y1_3=>if (decide (y1_0<(a0.vDefs.length:Int)))=true then ((ctf_sizes_1.f k y1_0 y1_3 y1_1 y1_2 a0.vDefs).bind fun v1=>(ctf_sizes.l0 k a0 m (IntKind.wrap .i64 (y1_0+1)) v1.2.2.1 v1.2.2.2 v1.2.1)) else (some (y1_1,y1_2,y1_3))
def ctf_sizes.f (k:Nat) (a0:api_Types):Option ((List Int)×Bool):=if 0≤(a0.vDefs.length:Int)∧(a0.vDefs.length:Int)≤4294967296 then (if 0≤(a0.vDefs.length:Int)∧(a0.vDefs.length:Int)≤4294967296 then ((ctf_sizes.l0 k a0 k 0 true (List.replicate (a0.vDefs.length:Int).toNat (false:Bool)) (List.replicate (a0.vDefs.length:Int).toNat (0:Int))).bind fun xx1=>(some (xx1.2.2,xx1.1))) else none) else none
theorem ctf_sizes.calls (k:Nat) (a0:api_Types) (A0_0:Option Addr) (c0_0:Nat) {h0:View} {w0:World} (hv:Sees h0 w0) (hr0_0:Rd k_api_Def h0 A0_0 a0.vDefs) (hc0_0:a0.vDefs.length≤c0_0) {r:(List Int)×Bool} (H:ctf_sizes.f k a0=some r):Calls Tryd.prog 44 #[Value.agg #[vL A0_0 a0.vDefs.length c0_0]] w0 (fun e w1=>∃(h1:View) (A0_0:Option Addr) (c0_0:Nat),e= .returned (Value.tuple #[vL A0_0 r.1.length c0_0,vB r.2])∧r.1.length≤c0_0∧Rd (Kd.int .i64) h1 A0_0 r.1∧Gr w0.heap.size h0 h1∧Sees h1 w1∧Ext w0 w1):=by
 unfold ctf_sizes.f at H
 have HS:St [] h0 w0 h0 [] w0:=St.init hv
 go_enter Tryd.func44,Tryd.ntmps44
 refine wp_seq<|region<|run_ex rfl rfl (does_box (cs:=#[vL A0_0 a0.vDefs.length c0_0]) rfl rfl) ?_
 rintro w1 _ hE1 ⟨b1,rfl,ge1,hb1⟩
 have HS1:=HS.new hE1 ge1 hb1
 refine rs (vL none 0 0) (r_assign rfl)<|rs (vB false) (r_assign rfl) ?_
 try simp only [sc0,sc1]
 refine run_nil<|norm_then<|wp_seq<|region<|rs (vP b1 0) (r_fieldBox (n:=1) (o':=0) rfl Tryd.runUnderlying24 rfl Tryd.sizeOf22 (by decide) rfl)<|rs (vL A0_0 a0.vDefs.length c0_0) (r_loadBox rfl Tryd.isAgg22 (HS1.look 0 rfl) rfl)<|rs (vI (a0.vDefs.length:Int)) (r_len rfl Tryd.runUnderlying22) ?_
 obtain ⟨hk1,H⟩:=of_ite H
 refine run_mk (Kd.int .i64) 0 (zs:=[vI 0]) rfl rfl hk1 Tryd.runUnderlying62 Tryd.typeInfo3 (by decide) rfl Tryd.zeroValue3 rfl rfl HS1 ?_
 intro w2 b2 cs1 HS2 ho1
 refine run_frame (by simp only [sc0,sc1];rfl) ?_
 refine run_ex rfl rfl (does_alloc (cs:=#[vL none 0 0]) Tryd.zeroValue62 rfl) ?_
 rintro w3 _ hE2 ⟨b3,rfl,ge2,hb2⟩
 have HS3:=HS2.new hE2 ge2 hb2
 refine run_st (i:=0) (cs:=[vL none 0 0]) (cs':=[vL (rowA (some b2)) ((a0.vDefs.length:Int).toNat) ((a0.vDefs.length:Int).toNat)]) (vs:=[vL (rowA (some b2)) ((a0.vDefs.length:Int).toNat) ((a0.vDefs.length:Int).toNat)]) (bs':=[(some b3, .cells #[vL (rowA (some b2)) ((a0.vDefs.length:Int).toNat) ((a0.vDefs.length:Int).toNat)] 62 (0,0)),((some b2), .cells (cs1).toArray 3 (0,0)),(some b1, .cells #[vL A0_0 a0.vDefs.length c0_0] 24 (0,0))]) rfl rfl Tryd.sizeOf62 rfl rfl (by decide) rfl HS3 rfl (Nat.le_of_ble_eq_true rfl) rfl rfl ?_
 intro w4 HS4
 try simp only [sc0,sc1]
 refine run_nil<|norm_then<|wp_seq<|region<|rs (vP b1 0) (r_fieldBox (n:=1) (o':=0) rfl Tryd.runUnderlying24 rfl Tryd.sizeOf22 (by decide) rfl)<|rs (vL A0_0 a0.vDefs.length c0_0) (r_loadBox rfl Tryd.isAgg22 (HS4.look 2 rfl) rfl)<|rs (vI (a0.vDefs.length:Int)) (r_len rfl Tryd.runUnderlying22) ?_
 obtain ⟨hk2,H⟩:=of_ite H
 refine run_mk Kd.bool false (zs:=[vB false]) rfl rfl hk2 Tryd.runUnderlying112 Tryd.typeInfo4 (by decide) rfl Tryd.zeroValue4 rfl rfl HS4 ?_
 intro w5 b4 cs2 HS5 ho2
 refine run_frame (by simp only [sc0,sc1];rfl) ?_
 refine run_ex rfl rfl (does_alloc (cs:=#[vL none 0 0]) Tryd.zeroValue112 rfl) ?_
 rintro w6 _ hE3 ⟨b5,rfl,ge3,hb3⟩
 have HS6:=HS5.new hE3 ge3 hb3
 refine run_st (i:=0) (cs:=[vL none 0 0]) (cs':=[vL (rowA (some b4)) ((a0.vDefs.length:Int).toNat) ((a0.vDefs.length:Int).toNat)]) (vs:=[vL (rowA (some b4)) ((a0.vDefs.length:Int).toNat) ((a0.vDefs.length:Int).toNat)]) (bs':=[(some b5, .cells #[vL (rowA (some b4)) ((a0.vDefs.length:Int).toNat) ((a0.vDefs.length:Int).toNat)] 112 (0,0)),((some b4), .cells (cs2).toArray 4 (0,0)),(some b3, .cells #[vL (rowA (some b2)) ((a0.vDefs.length:Int).toNat) ((a0.vDefs.length:Int).toNat)] 62 (0,0)),((some b2), .cells (cs1).toArray 3 (0,0)),(some b1, .cells #[vL A0_0 a0.vDefs.length c0_0] 24 (0,0))]) rfl rfl Tryd.sizeOf112 rfl rfl (by decide) rfl HS6 rfl (Nat.le_of_ble_eq_true rfl) rfl rfl ?_
 intro w7 HS7
 try simp only [sc0,sc1]
 refine run_nil<|norm_then<|wp_seq<|region<|run_ex rfl rfl (does_alloc (cs:=#[vB false]) Tryd.zeroValue4 rfl) ?_
 rintro w8 _ hE4 ⟨b6,rfl,ge4,hb4⟩
 have HS8:=HS7.new hE4 ge4 hb4
 refine run_st (i:=0) (cs:=[vB false]) (cs':=[vB true]) (vs:=[vB true]) (bs':=[(some b6, .cells #[vB true] 4 (0,0)),(some b5, .cells #[vL (rowA (some b4)) ((a0.vDefs.length:Int).toNat) ((a0.vDefs.length:Int).toNat)] 112 (0,0)),((some b4), .cells (cs2).toArray 4 (0,0)),(some b3, .cells #[vL (rowA (some b2)) ((a0.vDefs.length:Int).toNat) ((a0.vDefs.length:Int).toNat)] 62 (0,0)),((some b2), .cells (cs1).toArray 3 (0,0)),(some b1, .cells #[vL A0_0 a0.vDefs.length c0_0] 24 (0,0))]) rfl rfl Tryd.sizeOf4 rfl rfl (by decide) rfl HS8 rfl (Nat.le_of_ble_eq_true rfl) rfl rfl ?_
 intro w9 HS9
 try simp only [sc0,sc1]
 refine run_nil<|norm_then<|wp_seq<|region<|run_ex rfl rfl (does_alloc (cs:=#[Value.nilFunc]) Tryd.zeroValue147 rfl) ?_
 rintro w10 _ hE5 ⟨b7,rfl,ge5,hb5⟩
 have HS10:=HS9.new hE5 ge5 hb5
 try simp only [sc0,sc1]
 refine run_nil<|norm_then<|wp_seq<|region<|rs (Value.func (.func 87) #[] #[vP b3 0,vP b6 0,vP b5 0,vP b1 0,vP b7 0]) (r_makeFunc (vs:=[vP b3 0,vP b6 0,vP b5 0,vP b1 0,vP b7 0]) rfl)<|run_st (i:=0) (cs:=[Value.nilFunc]) (cs':=[Value.func (.func 87) #[] #[vP b3 0,vP b6 0,vP b5 0,vP b1 0,vP b7 0]]) (vs:=[Value.func (.func 87) #[] #[vP b3 0,vP b6 0,vP b5 0,vP b1 0,vP b7 0]]) (bs':=[(some b7, .cells #[Value.func (.func 87) #[] #[vP b3 0,vP b6 0,vP b5 0,vP b1 0,vP b7 0]] 147 (0,0)),(some b6, .cells #[vB true] 4 (0,0)),(some b5, .cells #[vL (rowA (some b4)) ((a0.vDefs.length:Int).toNat) ((a0.vDefs.length:Int).toNat)] 112 (0,0)),((some b4), .cells (cs2).toArray 4 (0,0)),(some b3, .cells #[vL (rowA (some b2)) ((a0.vDefs.length:Int).toNat) ((a0.vDefs.length:Int).toNat)] 62 (0,0)),((some b2), .cells (cs1).toArray 3 (0,0)),(some b1, .cells #[vL A0_0 a0.vDefs.length c0_0] 24 (0,0))]) rfl rfl Tryd.sizeOf147 rfl rfl (by decide) rfl HS10 rfl (Nat.le_of_ble_eq_true rfl) rfl rfl ?_
 intro w11 HS11
 try simp only [sc0,sc1]
 refine run_nil<|norm_then<|wp_seq<|wp_seq<|region<|rs (vP b1 0) (r_fieldBox (n:=1) (o':=0) rfl Tryd.runUnderlying24 rfl Tryd.sizeOf22 (by decide) rfl)<|rs (vL A0_0 a0.vDefs.length c0_0) (r_loadBox rfl Tryd.isAgg22 (HS11.look 6 rfl) rfl)<|rs (vI (a0.vDefs.length:Int)) (r_len rfl Tryd.runUnderlying22)<|rs (vI 0) (r_move rfl) ?_
 try simp only [sc0,sc1]
 refine run_nil<|norm_then ?_
 obtain ⟨xx1,H,G1⟩:=of_bind H
 have HS28:St [] h0 w0 h0 [(some b7, .cells #[Value.func (.func 87) #[] #[vP b3 0,vP b6 0,vP b5 0,vP b1 0,vP b7 0]] 147 (0,0)),(some b6, .cells #[vB true] 4 (0,0)),(some b5, .cells #[vL (rowA (some b4)) ((List.replicate (a0.vDefs.length:Int).toNat (false:Bool)).length) ((a0.vDefs.length:Int).toNat)] 112 (0,0)),((some b4), .cells (cs2).toArray 4 (0,0)),(some b3, .cells #[vL (rowA (some b2)) ((List.replicate (a0.vDefs.length:Int).toNat (0:Int)).length) ((a0.vDefs.length:Int).toNat)] 62 (0,0)),((some b2), .cells (cs1).toArray 3 (0,0)),(some b1, .cells #[vL A0_0 a0.vDefs.length c0_0] 24 (0,0))] w11:=HS11.cast (by first|rfl|(rw [ho2.len,ho1.len];done)|(rw [ho2.len,ho1.len];rfl))
 have ho3:=ho2.norm
 have ho4:=ho1.norm
 refine loop_j [8,21,22,23,24,25,26,27] (fun m us w'=>∃y1_0:Int,∃y1_1:Bool,∃y1_2:List Bool,∃y1_3:List Int,∃h1:View,∃(oby1_2:Option Nat) (cy1_2:Nat),∃(csy1_2:List Value),∃(oby1_3:Option Nat) (cy1_3:Nat),∃(csy1_3:List Value),Fit us (fun uy1=>[(uy1 0),vI y1_0,(uy1 2),(uy1 3),(uy1 4),(uy1 5),(uy1 6),(uy1 7)])∧ctf_sizes.l0 k a0 m y1_0 y1_1 y1_2 y1_3=some xx1∧RowOk Kd.bool h1 y1_2 oby1_2 y1_2.length cy1_2 csy1_2∧RowOk (Kd.int .i64) h1 y1_3 oby1_3 y1_3.length cy1_3 csy1_3∧St [] h0 w0 h1 [(some b7, .cells #[Value.func (.func 87) #[] #[vP b3 0,vP b6 0,vP b5 0,vP b1 0,vP b7 0]] 147 (0,0)),(some b6, .cells #[vB y1_1] 4 (0,0)),(some b5, .cells #[vL (rowA oby1_2) y1_2.length cy1_2] 112 (0,0)),(oby1_2, .cells (csy1_2).toArray 4 (0,0)),(some b3, .cells #[vL (rowA oby1_3) y1_3.length cy1_3] 62 (0,0)),(oby1_3, .cells (csy1_3).toArray 3 (0,0)),(some b1, .cells #[vL A0_0 a0.vDefs.length c0_0] 24 (0,0))] w') (fun us w'=>∃(h3:View),∃(obo1_1:Option Nat) (co1_1:Nat),∃(cso1_1:List Value),∃(obo1_2:Option Nat) (co1_2:Nat),∃(cso1_2:List Value),Fit us (fun uo1=>[(uo1 0),(uo1 1),(uo1 2),(uo1 3),(uo1 4),(uo1 5),(uo1 6),(uo1 7)])∧RowOk Kd.bool h3 xx1.2.1 obo1_1 xx1.2.1.length co1_1 cso1_1∧RowOk (Kd.int .i64) h3 xx1.2.2 obo1_2 xx1.2.2.length co1_2 cso1_2∧St [] h0 w0 h3 [(some b7, .cells #[Value.func (.func 87) #[] #[vP b3 0,vP b6 0,vP b5 0,vP b1 0,vP b7 0]] 147 (0,0)),(some b6, .cells #[vB xx1.1] 4 (0,0)),(some b5, .cells #[vL (rowA obo1_1) xx1.2.1.length co1_1] 112 (0,0)),(obo1_1, .cells (cso1_1).toArray 4 (0,0)),(some b3, .cells #[vL (rowA obo1_2) xx1.2.2.length co1_2] 62 (0,0)),(obo1_2, .cells (cso1_2).toArray 3 (0,0)),(some b1, .cells #[vL A0_0 a0.vDefs.length c0_0] 24 (0,0))] w') k ⟨0,true,(List.replicate (a0.vDefs.length:Int).toNat (false:Bool)),(List.replicate (a0.vDefs.length:Int).toNat (0:Int)),h0,(some b4),(a0.vDefs.length:Int).toNat,cs2,(some b2),(a0.vDefs.length:Int).toNat,cs1,(fit (by first|rfl|(rw [ho2.len,ho1.len];done)|(rw [ho2.len,ho1.len];rfl))),H,ho3.norm,ho4.norm,HS28⟩ ?_ ?_
 ·rintro m us w12 ⟨y1_0,y1_1,y1_2,y1_3,h1,oby1_2,cy1_2,csy1_2,oby1_3,cy1_3,csy1_3,huy1,H,hoy1_2,hoy1_3,HS12⟩
  obtain ⟨uy1,rfl⟩:=unj huy1
  cases m with
  |zero=>exact absurd H (by simp [ctf_sizes.l0])
  |succ m=>
   rw [ctf_sizes.l0] at H
   try simp only [patch,sc0,sc1]
   refine wp_seq<|region<|rs (vB (decide (y1_0<(a0.vDefs.length:Int)))) (r_bin rfl rfl rfl) ?_
   try simp only [sc0,sc1]
   refine run_nil<|norm_then<|wp_seq<|wp_cond_split (t:=(decide (y1_0<(a0.vDefs.length:Int)))) rfl (fun c1=>?_) (fun c1=>?_)
   ·replace H:=of_pos H c1
    refine wp_skip<|norm_then<|wp_seq<|wp_block<|wp_seq<|region<|rs (vI y1_0) (r_move rfl)<|rs (vI y1_0) (r_assign rfl) ?_
    try simp only [sc0,sc1]
    refine run_nil<|norm_then<|region<|rs (Value.func (.func 87) #[] #[vP b3 0,vP b6 0,vP b5 0,vP b1 0,vP b7 0]) (r_loadBox rfl Tryd.isAgg147 (HS12.look 0 rfl) rfl)<|rs (vI y1_0) (r_move rfl) ?_
    obtain ⟨v1,H1,H⟩:=of_bind H
    have HS13:=HS12.f6
    have HS14:=HS13.f4
    have HS15:=HS14.f4
    have HS16:=HS15.f4
    have HS17:=HS16.f6
    have HS18:=HS17.f6
    refine run_call (vs:=[vI y1_0]) (caps:=[vP b3 0,vP b6 0,vP b5 0,vP b1 0,vP b7 0]) Tryd.call87 rfl rfl (ctf_sizes_1.calls k y1_0 y1_3 y1_1 y1_2 a0.vDefs b3 oby1_3 cy1_3 csy1_3 b6 b5 oby1_2 cy1_2 csy1_2 b1 A0_0 c0_0 b7 HS18 hoy1_3 hoy1_2 (hr0_0.ext HS18.sub) hc0_0 H1) ?_
    rintro _ w13 ⟨h2,obv1_x0,cv1_x0,csv1_x0,obv1_x2,cv1_x2,csv1_x2,rfl,hov1_x0,hov1_x2,hs1,HS19⟩
    refine ⟨_,rfl,?_⟩
    have HS20:=HS19.f5
    have HS21:=HS20.f2
    have HS22:=HS21.f2
    have HS23:=HS22.f5
    have HS24:=HS23.f5
    have HS25:=HS24.f5
    have HS26:=HS25.f6
    try simp only [sc0,sc1]
    refine run_nil<|norm_block<|norm_then<|region<|rs (vI (w64 (y1_0+1))) (r_bin rfl rfl rfl)<|rs (vI (w64 (y1_0+1))) (r_move rfl) ?_
    try simp only [sc0,sc1]
    refine run_nil<|again_j m (Nat.lt_succ_self m) rfl ⟨(w64 (y1_0+1)),v1.2.2.1,v1.2.2.2,v1.2.1,h2,obv1_x2,cv1_x2,csv1_x2,obv1_x0,cv1_x0,csv1_x0,(fit rfl),H,hov1_x2.norm,hov1_x0.norm,HS26⟩
   ·replace H:=of_neg H (nt c1)
    refine wp_exit<|exit_then ?_
    obtain rfl:=Option.some.inj H
    refine leave_j rfl ⟨h1,oby1_2,cy1_2,csy1_2,oby1_3,cy1_3,csy1_3,(fit rfl),hoy1_2.norm,hoy1_3.norm,HS12⟩
 ·rintro us w14 ⟨h3,obo1_1,co1_1,cso1_1,obo1_2,co1_2,cso1_2,huo1,hoo1_1,hoo1_2,HS27⟩
  obtain ⟨uo1,rfl⟩:=unj huo1
  replace H:=G1
  clear G1
  try simp only [patch,sc0,sc1]
  refine norm_then<|wp_seq<|drawn [.eq (vL (rowA obo1_2) xx1.2.2.length co1_2), .eq (vB xx1.1), .eq (vL (rowA obo1_2) xx1.2.2.length co1_2)] [28,29,2] hmix (by kernel_rfl) rfl (stable_eq (stable_eq (stable_eq stable_nil))) ⟨ob_plain rfl (fun a' w' hE hk=>by have HSd:=HS27.step hE;exact does_eq (r_loadBox (show _=vP b3 0 from hk 4 rfl) Tryd.isAgg62 (HSd.look 4 rfl) rfl)),ob_plain rfl (fun a' w' hE hk=>by have HSd:=HS27.step hE;exact does_eq (r_loadBox (show _=vP b6 0 from hk 6 rfl) Tryd.isAgg4 (HSd.look 1 rfl) rfl)),ob_plain rfl (fun a' w' hE hk=>by have HSd:=HS27.step hE;exact does_eq (r_assign (show _=vL (rowA obo1_2) xx1.2.2.length co1_2 from hk 28 rfl))),trivial⟩ ?_
  intro w15 hE6
  simp only [List.zip_cons_cons,List.zip_nil_left,List.zip_nil_right,finL,sc0,sc1,List.length_cons,List.length_nil,List.drop_succ_cons,List.drop_zero,Nat.zero_add,Nat.reduceAdd]
  have HS29:=HS27.step hE6
  refine rs (vB xx1.1) (r_assign rfl) ?_
  try simp only [sc0,sc1]
  refine run_nil<|norm_then<|wp_ret ?_
  obtain rfl:=Option.some.inj H
  refine bodyPost_ret (results_2 rfl (one_tmp rfl) (one_tmp rfl)) rfl ?_
  obtain ⟨h4,HS30,hs2,rdp1⟩:=row_pub HS29 (i:=5) rfl hoo1_2
  replace hoo1_1:=hoo1_1.view hs2
  exact ⟨h4,(rowA obo1_2),co1_2,rfl,hoo1_2.cap,rdp1,HS30.gr,HS30.sees,HS30.toE⟩
def ctf_named.f (a0:api_Def):Option (Bool):=some ((a0.vKind !=2)&&(a0.vKind !=3))
theorem ctf_named.calls (a0:api_Def) (A0_6:Option Addr) (c0_6:Nat) {h0:View} {w0:World} (hv:Sees h0 w0) (hr0_6:Rd k_api_Field h0 A0_6 a0.vFields) (hc0_6:a0.vFields.length≤c0_6) {r:Bool} (H:ctf_named.f a0=some r):Calls Tryd.prog 68 #[Value.agg #[vI a0.vKind,vS a0.vName,vI a0.vInt.vSize,vB a0.vInt.vSigned,vI a0.vRef,vI a0.vN,vL A0_6 a0.vFields.length c0_6]] w0 (fun e w1=>e= .returned (vB r)∧Ext w0 w1):=by
 unfold ctf_named.f at H
 have HS:St [] h0 w0 h0 [] w0:=St.init hv
 go_enter Tryd.func68,Tryd.ntmps68
 refine wp_seq<|region<|run_ex rfl rfl (does_box (cs:=#[vI a0.vKind,vS a0.vName,vI a0.vInt.vSize,vB a0.vInt.vSigned,vI a0.vRef,vI a0.vN,vL A0_6 a0.vFields.length c0_6]) rfl rfl) ?_
 rintro w1 _ hE1 ⟨b1,rfl,ge1,hb1⟩
 have HS1:=HS.new hE1 ge1 hb1
 refine rs (vB false) (r_assign rfl) ?_
 try simp only [sc0,sc1]
 refine run_nil<|norm_then<|wp_seq<|region<|rs (vP b1 0) (r_fieldBox (n:=1) (o':=0) rfl Tryd.runUnderlying34 rfl Tryd.sizeOf3 (by decide) rfl)<|rs (vI a0.vKind) (r_loadBox rfl Tryd.isAgg3 (HS1.look 0 rfl) rfl)<|rs (vB (a0.vKind !=2)) (r_bin rfl rfl rfl)<|rs (vB (a0.vKind !=2)) (r_move rfl)<|run_frame (by simp only [sc0,sc1];rfl) ?_
 refine rgs (a0.vKind !=2) true (vP b1 0) rfl rfl rfl rfl (fun hg=>(r_fieldBox (n:=1) (o':=0) rfl Tryd.runUnderlying34 rfl Tryd.sizeOf3 (by decide) rfl))<|rgs (a0.vKind !=2) true (vI a0.vKind) rfl rfl rfl rfl (fun hg=>(r_loadBox (gvt (vP b1 0) hg rfl) Tryd.isAgg3 (HS1.look 0 rfl) rfl))<|rgs (a0.vKind !=2) true (vB (a0.vKind !=3)) rfl rfl rfl rfl (fun hg=>(r_bin (gvt (vI a0.vKind) hg rfl) rfl rfl))<|rs (vB ((a0.vKind !=2)&&(a0.vKind !=3))) (r_pick_and rfl (fun hp=>(gvt (vB (a0.vKind !=3)) (and_i rfl hp) rfl)) rfl)<|run_frame (by simp only [sc0,sc1];rfl) ?_
 refine rs (vB ((a0.vKind !=2)&&(a0.vKind !=3))) (r_assign rfl) ?_
 try simp only [sc0,sc1]
 refine run_nil<|norm_then<|wp_ret ?_
 obtain rfl:=Option.some.inj H
 exact bodyPost_ret (results_1 rfl (one_tmp rfl)) rfl<|⟨rfl,HS1.toE⟩
def ctf_shapes.f:Option ((List (Int×ctf_shape))):=some (mput ieq (mput ieq (mput ieq (mput ieq (mput ieq (mput ieq ([]:List (Int×ctf_shape)) 1 (⟨true,true,false,false,false⟩:ctf_shape)) 2 (⟨false,false,true,false,false⟩:ctf_shape)) 3 (⟨false,false,true,true,false⟩:ctf_shape)) 4 (⟨true,false,false,true,true⟩:ctf_shape)) 5 (⟨true,false,false,false,true⟩:ctf_shape)) 6 (⟨true,false,true,false,false⟩:ctf_shape))
theorem ctf_shapes.calls {h0:View} {w0:World} (hv:Sees h0 w0) {r:(List (Int×ctf_shape))} (H:ctf_shapes.f=some r):Calls Tryd.prog 116 #[] w0 (fun e w1=>∃(b:Nat) (es:Array MapEntry) (cl:Nat),e= .returned (.map (some b))∧(w0.heap.size≤b∧w1.heap[b]?=some (.map es cl))∧MapOk (vI) e_ctf_shape r es cl∧Ext w0 w1):=by
 unfold ctf_shapes.f at H
 have HS:St [] h0 w0 h0 [] w0:=St.init hv
 go_enter Tryd.func116,Tryd.ntmps116
 refine wp_seq<|region<|rs (Value.map none) (r_assign rfl) ?_
 try simp only [sc0,sc1]
 refine run_nil<|norm_then<|wp_seq<|region<|run_mkmap HS ?_
 intro w1 b1 HS1
 refine rs (Value.agg #[vB true,vB true,vB false,vB false,vB false]) (r_build (cs:=[vB true,vB true,vB false,vB false,vB false]) (ps:=[(0,vB true),(1,vB true)]) Tryd.zeroValue171 Tryd.runUnderlying171 (pl:=#[(0,1),(1,1),(2,1),(3,1),(4,1)]) (fun w=>by simp [Tryd.sizeOf4]) (parts_2 (show _=vB true from rfl) (show _=vB true from rfl)) rfl) ?_
 refine mupd (key_int Tryd.runUnderlying3) (i:=0) (k:=1) (v:=(⟨true,true,false,false,false⟩:ctf_shape)) (ev:=e_ctf_shape) (m:=([]:List (Int×ctf_shape))) (by first|exact .inl rfl|exact .inr rfl) rfl rfl rfl rfl rfl Tryd.runUnderlying172 HS1 rfl (MapOk.nil) ?_
 intro w2 es1 cl1 HS2 ho1
 refine rs (Value.agg #[vB false,vB false,vB true,vB false,vB false]) (r_build (cs:=[vB false,vB false,vB true,vB false,vB false]) (ps:=[(2,vB true)]) Tryd.zeroValue171 Tryd.runUnderlying171 (pl:=#[(0,1),(1,1),(2,1),(3,1),(4,1)]) (fun w=>by simp [Tryd.sizeOf4]) (parts_1 (show _=vB true from rfl)) rfl) ?_
 refine run_frame (by simp only [sc0,sc1];rfl) ?_
 refine mupd (key_int Tryd.runUnderlying3) (i:=0) (k:=2) (v:=(⟨false,false,true,false,false⟩:ctf_shape)) (ev:=e_ctf_shape) (m:=(mput ieq ([]:List (Int×ctf_shape)) 1 (⟨true,true,false,false,false⟩:ctf_shape))) (by first|exact .inl rfl|exact .inr rfl) rfl rfl rfl rfl rfl Tryd.runUnderlying172 HS2 rfl ho1 ?_
 intro w3 es2 cl2 HS3 ho2
 refine rs (Value.agg #[vB false,vB false,vB true,vB true,vB false]) (r_build (cs:=[vB false,vB false,vB true,vB true,vB false]) (ps:=[(2,vB true),(3,vB true)]) Tryd.zeroValue171 Tryd.runUnderlying171 (pl:=#[(0,1),(1,1),(2,1),(3,1),(4,1)]) (fun w=>by simp [Tryd.sizeOf4]) (parts_2 (show _=vB true from rfl) (show _=vB true from rfl)) rfl) ?_
 refine mupd (key_int Tryd.runUnderlying3) (i:=0) (k:=3) (v:=(⟨false,false,true,true,false⟩:ctf_shape)) (ev:=e_ctf_shape) (m:=(mput ieq (mput ieq ([]:List (Int×ctf_shape)) 1 (⟨true,true,false,false,false⟩:ctf_shape)) 2 (⟨false,false,true,false,false⟩:ctf_shape))) (by first|exact .inl rfl|exact .inr rfl) rfl rfl rfl rfl rfl Tryd.runUnderlying172 HS3 rfl ho2 ?_
 intro w4 es3 cl3 HS4 ho3
 refine rs (Value.agg #[vB true,vB false,vB false,vB true,vB true]) (r_build (cs:=[vB true,vB false,vB false,vB true,vB true]) (ps:=[(0,vB true),(3,vB true),(4,vB true)]) Tryd.zeroValue171 Tryd.runUnderlying171 (pl:=#[(0,1),(1,1),(2,1),(3,1),(4,1)]) (fun w=>by simp [Tryd.sizeOf4]) (parts_3 (show _=vB true from rfl) (show _=vB true from rfl) (show _=vB true from rfl)) rfl) ?_
 refine run_frame (by simp only [sc0,sc1];rfl) ?_
 refine mupd (key_int Tryd.runUnderlying3) (i:=0) (k:=4) (v:=(⟨true,false,false,true,true⟩:ctf_shape)) (ev:=e_ctf_shape) (m:=(mput ieq (mput ieq (mput ieq ([]:List (Int×ctf_shape)) 1 (⟨true,true,false,false,false⟩:ctf_shape)) 2 (⟨false,false,true,false,false⟩:ctf_shape)) 3 (⟨false,false,true,true,false⟩:ctf_shape))) (by first|exact .inl rfl|exact .inr rfl) rfl rfl rfl rfl rfl Tryd.runUnderlying172 HS4 rfl ho3 ?_
 intro w5 es4 cl4 HS5 ho4
 refine rs (Value.agg #[vB true,vB false,vB false,vB false,vB true]) (r_build (cs:=[vB true,vB false,vB false,vB false,vB true]) (ps:=[(0,vB true),(4,vB true)]) Tryd.zeroValue171 Tryd.runUnderlying171 (pl:=#[(0,1),(1,1),(2,1),(3,1),(4,1)]) (fun w=>by simp [Tryd.sizeOf4]) (parts_2 (show _=vB true from rfl) (show _=vB true from rfl)) rfl) ?_
 refine mupd (key_int Tryd.runUnderlying3) (i:=0) (k:=5) (v:=(⟨true,false,false,false,true⟩:ctf_shape)) (ev:=e_ctf_shape) (m:=(mput ieq (mput ieq (mput ieq (mput ieq ([]:List (Int×ctf_shape)) 1 (⟨true,true,false,false,false⟩:ctf_shape)) 2 (⟨false,false,true,false,false⟩:ctf_shape)) 3 (⟨false,false,true,true,false⟩:ctf_shape)) 4 (⟨true,false,false,true,true⟩:ctf_shape))) (by first|exact .inl rfl|exact .inr rfl) rfl rfl rfl rfl rfl Tryd.runUnderlying172 HS5 rfl ho4 ?_
 intro w6 es5 cl5 HS6 ho5
 refine rs (Value.agg #[vB true,vB false,vB true,vB false,vB false]) (r_build (cs:=[vB true,vB false,vB true,vB false,vB false]) (ps:=[(0,vB true),(2,vB true)]) Tryd.zeroValue171 Tryd.runUnderlying171 (pl:=#[(0,1),(1,1),(2,1),(3,1),(4,1)]) (fun w=>by simp [Tryd.sizeOf4]) (parts_2 (show _=vB true from rfl) (show _=vB true from rfl)) rfl) ?_
 refine run_frame (by simp only [sc0,sc1];rfl) ?_
 refine mupd (key_int Tryd.runUnderlying3) (i:=0) (k:=6) (v:=(⟨true,false,true,false,false⟩:ctf_shape)) (ev:=e_ctf_shape) (m:=(mput ieq (mput ieq (mput ieq (mput ieq (mput ieq ([]:List (Int×ctf_shape)) 1 (⟨true,true,false,false,false⟩:ctf_shape)) 2 (⟨false,false,true,false,false⟩:ctf_shape)) 3 (⟨false,false,true,true,false⟩:ctf_shape)) 4 (⟨true,false,false,true,true⟩:ctf_shape)) 5 (⟨true,false,false,false,true⟩:ctf_shape))) (by first|exact .inl rfl|exact .inr rfl) rfl rfl rfl rfl rfl Tryd.runUnderlying172 HS6 rfl ho5 ?_
 intro w7 es6 cl6 HS7 ho6
 refine rs (Value.map (some b1)) (r_move rfl)<|rs (Value.map (some b1)) (r_assign rfl) ?_
 try simp only [sc0,sc1]
 refine run_nil<|norm_then<|wp_ret ?_
 obtain rfl:=Option.some.inj H
 exact bodyPost_ret (results_1 rfl (one_tmp rfl)) rfl<|⟨b1,es6,cl6,rfl,HS7.fresh 0 rfl,ho6,HS7.toE⟩
def ctf_isName.l0 (a0:ByteArray):Nat→Int→Option ((Bool)⊕(Unit))
 |0,_=>none
 |m+1,y1_0=>if (decide (y1_0<((bytesOf a0).length:Int)))=true then (if 0≤y1_0∧y1_0<(bytesOf a0).length then (if ((!((((decide ((rd 0 (bytesOf a0) y1_0)≥97))&&(decide ((rd 0 (bytesOf a0) y1_0)≤122)))||((decide ((rd 0 (bytesOf a0) y1_0)≥65))&&(decide ((rd 0 (bytesOf a0) y1_0)≤90))))||((rd 0 (bytesOf a0) y1_0)==95)))&&(((y1_0==0)||(decide ((rd 0 (bytesOf a0) y1_0)<48)))||(decide ((rd 0 (bytesOf a0) y1_0)>57))))=true then (some (.inl false)) else (ctf_isName.l0 a0 m (IntKind.wrap .i64 (y1_0+1)))) else none) else (some (.inr ()))
def ctf_isName.f (k:Nat) (a0:ByteArray):Option (Bool):=if a0.size≤9223372036854775807 then ((ctf_isName.l0 a0 k 0).bind fun xx1=>(match xx1 with| .inl r=>some r| .inr s1=>some ((!(strEq a0 ByteArray.empty))&&(decide ((a0.size:Int)≤31))))) else none
theorem ctf_isName.calls (k:Nat) (a0:ByteArray) {h0:View} {w0:World} (hv:Sees h0 w0) {r:Bool} (H:ctf_isName.f k a0=some r):Calls Tryd.prog 118 #[vS a0] w0 (fun e w1=>e= .returned (vB r)∧Ext w0 w1):=by
 unfold ctf_isName.f at H
 have HS:St [] h0 w0 h0 [] w0:=St.init hv
 go_enter Tryd.func118,Tryd.ntmps118
 refine wp_seq<|region<|rs (vB false) (r_assign rfl) ?_
 try simp only [sc0,sc1]
 refine run_nil<|norm_then<|wp_seq<|wp_seq<|region<|rs (vS a0) (r_move rfl) ?_
 obtain ⟨hl1,H⟩:=of_ite H
 refine run_s2b (s:=a0) rfl Tryd.runUnderlying9 Tryd.runUnderlying80 Tryd.runUnderlying5 hl1 HS ?_
 intro w1 h1 As1 cs1 HS1 sb1 hcs1 hrs1
 refine rs (vI ((bytesOf a0).length:Int)) (r_len rfl Tryd.runUnderlying80)<|rs (vI 0) (r_move rfl) ?_
 try simp only [sc0,sc1]
 refine run_nil<|norm_then ?_
 obtain ⟨xx1,H,G1⟩:=of_bind H
 refine loop_j [2,3,4,5,9,10,11,12,13,14,15,16,17,18,19,20,21,22,23,24,25,26,27,28,29,30,31,32,33,34,35,36,37,38,39,40,41,42,43,44,45,46] (fun m us w'=>∃(y1_0:Int),Fit us (fun uy1=>[(uy1 0),(uy1 1),(uy1 2),(uy1 3),vI y1_0,(uy1 5),(uy1 6),(uy1 7),(uy1 8),(uy1 9),(uy1 10),(uy1 11),(uy1 12),(uy1 13),(uy1 14),(uy1 15),(uy1 16),(uy1 17),(uy1 18),(uy1 19),(uy1 20),(uy1 21),(uy1 22),(uy1 23),(uy1 24),(uy1 25),(uy1 26),(uy1 27),(uy1 28),(uy1 29),(uy1 30),(uy1 31),(uy1 32),(uy1 33),(uy1 34),(uy1 35),(uy1 36),(uy1 37),(uy1 38),(uy1 39),(uy1 40),(uy1 41)])∧ctf_isName.l0 a0 m y1_0=some xx1∧St [] h0 w0 h1 [] w') (fun us w'=>∃(s1:Unit),xx1= .inr s1∧Fit us (fun uo1=>[(uo1 0),(uo1 1),(uo1 2),(uo1 3),(uo1 4),(uo1 5),(uo1 6),(uo1 7),(uo1 8),(uo1 9),(uo1 10),(uo1 11),(uo1 12),(uo1 13),(uo1 14),(uo1 15),(uo1 16),(uo1 17),(uo1 18),(uo1 19),(uo1 20),(uo1 21),(uo1 22),(uo1 23),(uo1 24),(uo1 25),(uo1 26),(uo1 27),(uo1 28),(uo1 29),(uo1 30),(uo1 31),(uo1 32),(uo1 33),(uo1 34),(uo1 35),(uo1 36),(uo1 37),(uo1 38),(uo1 39),(uo1 40),(uo1 41)])∧St [] h0 w0 h1 [] w') k ⟨0,(fit rfl),H,HS1⟩ ?_ ?_
 ·rintro m us w2 ⟨y1_0,huy1,H,HS2⟩
  obtain ⟨uy1,rfl⟩:=unj huy1
  cases m with
  |zero=>exact absurd H (by simp [ctf_isName.l0])
  |succ m=>
   rw [ctf_isName.l0] at H
   try simp only [patch,sc0,sc1]
   refine wp_seq<|region<|rs (vB (decide (y1_0<((bytesOf a0).length:Int)))) (r_bin rfl rfl rfl) ?_
   try simp only [sc0,sc1]
   refine run_nil<|norm_then<|wp_seq<|wp_cond_split (t:=(decide (y1_0<((bytesOf a0).length:Int)))) rfl (fun c1=>?_) (fun c1=>?_)
   ·replace H:=of_pos H c1
    refine wp_skip<|norm_then<|wp_seq<|wp_block<|wp_seq<|region<|rs (vI y1_0) (r_move rfl) ?_
    obtain ⟨hi1,H⟩:=of_ite H
    obtain ⟨ad1,e1,hel1⟩:=ld_int hrs1 hi1.1 hi1.2
    refine rs (Value.pointer (some (Addr.add ad1 (y1_0.toNat*1)))) (r_indexA (sz:=1) rfl e1 rfl hi1.1 hi1.2 Tryd.runUnderlying80 Tryd.sizeOf5)<|rs (Value.int .u8 (rd 0 (bytesOf a0) y1_0)) (r_load rfl Tryd.isAgg5 (hel1.cell0 HS2.sees rfl))<|rs (vI y1_0) (r_assign rfl)<|run_frame (by simp only [sc0,sc1];rfl) ?_
    refine rs (Value.int .u8 (rd 0 (bytesOf a0) y1_0)) (r_assign rfl) ?_
    try simp only [sc0,sc1]
    refine run_nil<|norm_then<|wp_seq<|region<|rs (Value.int .u8 (rd 0 (bytesOf a0) y1_0)) (r_move rfl)<|rs (vB (decide ((rd 0 (bytesOf a0) y1_0)≥97))) (r_bin rfl rfl rfl)<|rs (vB (decide ((rd 0 (bytesOf a0) y1_0)≥97))) (r_move rfl)<|rgs (decide ((rd 0 (bytesOf a0) y1_0)≥97)) true (Value.int .u8 (rd 0 (bytesOf a0) y1_0)) rfl rfl rfl rfl (fun hg=>(r_move rfl))<|run_frame (by simp only [sc0,sc1];rfl) ?_
    refine rgs (decide ((rd 0 (bytesOf a0) y1_0)≥97)) true (vB (decide ((rd 0 (bytesOf a0) y1_0)≤122))) rfl rfl rfl rfl (fun hg=>(r_bin (gvt (Value.int .u8 (rd 0 (bytesOf a0) y1_0)) hg rfl) rfl rfl))<|rs (vB ((decide ((rd 0 (bytesOf a0) y1_0)≥97))&&(decide ((rd 0 (bytesOf a0) y1_0)≤122)))) (r_pick_and rfl (fun hp=>(gvt (vB (decide ((rd 0 (bytesOf a0) y1_0)≤122))) (and_i rfl hp) rfl)) rfl)<|rs (vB ((decide ((rd 0 (bytesOf a0) y1_0)≥97))&&(decide ((rd 0 (bytesOf a0) y1_0)≤122)))) (r_move rfl)<|rgs ((decide ((rd 0 (bytesOf a0) y1_0)≥97))&&(decide ((rd 0 (bytesOf a0) y1_0)≤122))) true (Value.int .u8 (rd 0 (bytesOf a0) y1_0)) rfl rfl rfl rfl (fun hg=>(r_move rfl))<|run_frame (by simp only [sc0,sc1];rfl) ?_
    refine rgs ((decide ((rd 0 (bytesOf a0) y1_0)≥97))&&(decide ((rd 0 (bytesOf a0) y1_0)≤122))) true (vB (decide ((rd 0 (bytesOf a0) y1_0)≥65))) rfl rfl rfl rfl (fun hg=>(r_bin (gvt (Value.int .u8 (rd 0 (bytesOf a0) y1_0)) hg rfl) rfl rfl))<|rgs ((decide ((rd 0 (bytesOf a0) y1_0)≥97))&&(decide ((rd 0 (bytesOf a0) y1_0)≤122))) true (vB (decide ((rd 0 (bytesOf a0) y1_0)≥65))) rfl rfl rfl rfl (fun hg=>(r_move (gvt (vB (decide ((rd 0 (bytesOf a0) y1_0)≥65))) hg rfl)))<|rgs (decide ((rd 0 (bytesOf a0) y1_0)≥65)) (true&&(((decide ((rd 0 (bytesOf a0) y1_0)≥97))&&(decide ((rd 0 (bytesOf a0) y1_0)≤122)))==false)) (Value.int .u8 (rd 0 (bytesOf a0) y1_0)) rfl rfl rfl rfl (fun hg=>(r_move rfl))<|rgs (decide ((rd 0 (bytesOf a0) y1_0)≥65)) (true&&(((decide ((rd 0 (bytesOf a0) y1_0)≥97))&&(decide ((rd 0 (bytesOf a0) y1_0)≤122)))==false)) (vB (decide ((rd 0 (bytesOf a0) y1_0)≤90))) rfl rfl rfl rfl (fun hg=>(r_bin (gvt (Value.int .u8 (rd 0 (bytesOf a0) y1_0)) hg rfl) rfl rfl))<|run_frame (by simp only [sc0,sc1];rfl) ?_
    refine rgs ((decide ((rd 0 (bytesOf a0) y1_0)≥97))&&(decide ((rd 0 (bytesOf a0) y1_0)≤122))) true (vB ((decide ((rd 0 (bytesOf a0) y1_0)≥65))&&(decide ((rd 0 (bytesOf a0) y1_0)≤90)))) rfl rfl rfl rfl (fun hg=>(r_pick_and (gvt (vB (decide ((rd 0 (bytesOf a0) y1_0)≥65))) hg rfl) (fun hp=>(gvt (vB (decide ((rd 0 (bytesOf a0) y1_0)≤90))) (and_i hg hp) rfl)) rfl))<|rs (vB (((decide ((rd 0 (bytesOf a0) y1_0)≥97))&&(decide ((rd 0 (bytesOf a0) y1_0)≤122)))||((decide ((rd 0 (bytesOf a0) y1_0)≥65))&&(decide ((rd 0 (bytesOf a0) y1_0)≤90))))) (r_pick_or rfl rfl (fun hp=>(gvt (vB ((decide ((rd 0 (bytesOf a0) y1_0)≥65))&&(decide ((rd 0 (bytesOf a0) y1_0)≤90)))) (and_i rfl hp) rfl)))<|rs (vB (((decide ((rd 0 (bytesOf a0) y1_0)≥97))&&(decide ((rd 0 (bytesOf a0) y1_0)≤122)))||((decide ((rd 0 (bytesOf a0) y1_0)≥65))&&(decide ((rd 0 (bytesOf a0) y1_0)≤90))))) (r_move rfl)<|rgs (((decide ((rd 0 (bytesOf a0) y1_0)≥97))&&(decide ((rd 0 (bytesOf a0) y1_0)≤122)))||((decide ((rd 0 (bytesOf a0) y1_0)≥65))&&(decide ((rd 0 (bytesOf a0) y1_0)≤90)))) true (Value.int .u8 (rd 0 (bytesOf a0) y1_0)) rfl rfl rfl rfl (fun hg=>(r_move rfl))<|run_frame (by simp only [sc0,sc1];rfl) ?_
    refine rgs (((decide ((rd 0 (bytesOf a0) y1_0)≥97))&&(decide ((rd 0 (bytesOf a0) y1_0)≤122)))||((decide ((rd 0 (bytesOf a0) y1_0)≥65))&&(decide ((rd 0 (bytesOf a0) y1_0)≤90)))) true (vB ((rd 0 (bytesOf a0) y1_0)==95)) rfl rfl rfl rfl (fun hg=>(r_bin (gvt (Value.int .u8 (rd 0 (bytesOf a0) y1_0)) hg rfl) rfl rfl))<|rs (vB ((((decide ((rd 0 (bytesOf a0) y1_0)≥97))&&(decide ((rd 0 (bytesOf a0) y1_0)≤122)))||((decide ((rd 0 (bytesOf a0) y1_0)≥65))&&(decide ((rd 0 (bytesOf a0) y1_0)≤90))))||((rd 0 (bytesOf a0) y1_0)==95))) (r_pick_or rfl rfl (fun hp=>(gvt (vB ((rd 0 (bytesOf a0) y1_0)==95)) (and_i rfl hp) rfl)))<|rs (vB ((((decide ((rd 0 (bytesOf a0) y1_0)≥97))&&(decide ((rd 0 (bytesOf a0) y1_0)≤122)))||((decide ((rd 0 (bytesOf a0) y1_0)≥65))&&(decide ((rd 0 (bytesOf a0) y1_0)≤90))))||((rd 0 (bytesOf a0) y1_0)==95))) (r_assign rfl) ?_
    try simp only [sc0,sc1]
    refine run_nil<|norm_then<|wp_seq<|region<|rs (vB ((((decide ((rd 0 (bytesOf a0) y1_0)≥97))&&(decide ((rd 0 (bytesOf a0) y1_0)≤122)))||((decide ((rd 0 (bytesOf a0) y1_0)≥65))&&(decide ((rd 0 (bytesOf a0) y1_0)≤90))))||((rd 0 (bytesOf a0) y1_0)==95))) (r_move rfl)<|rs (vB (!((((decide ((rd 0 (bytesOf a0) y1_0)≥97))&&(decide ((rd 0 (bytesOf a0) y1_0)≤122)))||((decide ((rd 0 (bytesOf a0) y1_0)≥65))&&(decide ((rd 0 (bytesOf a0) y1_0)≤90))))||((rd 0 (bytesOf a0) y1_0)==95)))) (r_not rfl)<|rs (vB (!((((decide ((rd 0 (bytesOf a0) y1_0)≥97))&&(decide ((rd 0 (bytesOf a0) y1_0)≤122)))||((decide ((rd 0 (bytesOf a0) y1_0)≥65))&&(decide ((rd 0 (bytesOf a0) y1_0)≤90))))||((rd 0 (bytesOf a0) y1_0)==95)))) (r_move rfl)<|rgs (!((((decide ((rd 0 (bytesOf a0) y1_0)≥97))&&(decide ((rd 0 (bytesOf a0) y1_0)≤122)))||((decide ((rd 0 (bytesOf a0) y1_0)≥65))&&(decide ((rd 0 (bytesOf a0) y1_0)≤90))))||((rd 0 (bytesOf a0) y1_0)==95))) true (vI y1_0) rfl rfl rfl rfl (fun hg=>(r_move rfl))<|run_frame (by simp only [sc0,sc1];rfl) ?_
    refine rgs (!((((decide ((rd 0 (bytesOf a0) y1_0)≥97))&&(decide ((rd 0 (bytesOf a0) y1_0)≤122)))||((decide ((rd 0 (bytesOf a0) y1_0)≥65))&&(decide ((rd 0 (bytesOf a0) y1_0)≤90))))||((rd 0 (bytesOf a0) y1_0)==95))) true (vB (y1_0==0)) rfl rfl rfl rfl (fun hg=>(r_bin (gvt (vI y1_0) hg rfl) rfl rfl))<|rgs (!((((decide ((rd 0 (bytesOf a0) y1_0)≥97))&&(decide ((rd 0 (bytesOf a0) y1_0)≤122)))||((decide ((rd 0 (bytesOf a0) y1_0)≥65))&&(decide ((rd 0 (bytesOf a0) y1_0)≤90))))||((rd 0 (bytesOf a0) y1_0)==95))) true (vB (y1_0==0)) rfl rfl rfl rfl (fun hg=>(r_move (gvt (vB (y1_0==0)) hg rfl)))<|rgs (y1_0==0) (true&&((!((((decide ((rd 0 (bytesOf a0) y1_0)≥97))&&(decide ((rd 0 (bytesOf a0) y1_0)≤122)))||((decide ((rd 0 (bytesOf a0) y1_0)≥65))&&(decide ((rd 0 (bytesOf a0) y1_0)≤90))))||((rd 0 (bytesOf a0) y1_0)==95)))==true)) (Value.int .u8 (rd 0 (bytesOf a0) y1_0)) rfl rfl rfl rfl (fun hg=>(r_move rfl))<|rgs (y1_0==0) (true&&((!((((decide ((rd 0 (bytesOf a0) y1_0)≥97))&&(decide ((rd 0 (bytesOf a0) y1_0)≤122)))||((decide ((rd 0 (bytesOf a0) y1_0)≥65))&&(decide ((rd 0 (bytesOf a0) y1_0)≤90))))||((rd 0 (bytesOf a0) y1_0)==95)))==true)) (vB (decide ((rd 0 (bytesOf a0) y1_0)<48))) rfl rfl rfl rfl (fun hg=>(r_bin (gvt (Value.int .u8 (rd 0 (bytesOf a0) y1_0)) hg rfl) rfl rfl))<|run_frame (by simp only [sc0,sc1];rfl) ?_
    refine rgs (!((((decide ((rd 0 (bytesOf a0) y1_0)≥97))&&(decide ((rd 0 (bytesOf a0) y1_0)≤122)))||((decide ((rd 0 (bytesOf a0) y1_0)≥65))&&(decide ((rd 0 (bytesOf a0) y1_0)≤90))))||((rd 0 (bytesOf a0) y1_0)==95))) true (vB ((y1_0==0)||(decide ((rd 0 (bytesOf a0) y1_0)<48)))) rfl rfl rfl rfl (fun hg=>(r_pick_or (gvt (vB (y1_0==0)) hg rfl) rfl (fun hp=>(gvt (vB (decide ((rd 0 (bytesOf a0) y1_0)<48))) (and_i hg hp) rfl))))<|rgs (!((((decide ((rd 0 (bytesOf a0) y1_0)≥97))&&(decide ((rd 0 (bytesOf a0) y1_0)≤122)))||((decide ((rd 0 (bytesOf a0) y1_0)≥65))&&(decide ((rd 0 (bytesOf a0) y1_0)≤90))))||((rd 0 (bytesOf a0) y1_0)==95))) true (vB ((y1_0==0)||(decide ((rd 0 (bytesOf a0) y1_0)<48)))) rfl rfl rfl rfl (fun hg=>(r_move (gvt (vB ((y1_0==0)||(decide ((rd 0 (bytesOf a0) y1_0)<48)))) hg rfl)))<|rgs ((y1_0==0)||(decide ((rd 0 (bytesOf a0) y1_0)<48))) (true&&((!((((decide ((rd 0 (bytesOf a0) y1_0)≥97))&&(decide ((rd 0 (bytesOf a0) y1_0)≤122)))||((decide ((rd 0 (bytesOf a0) y1_0)≥65))&&(decide ((rd 0 (bytesOf a0) y1_0)≤90))))||((rd 0 (bytesOf a0) y1_0)==95)))==true)) (Value.int .u8 (rd 0 (bytesOf a0) y1_0)) rfl rfl rfl rfl (fun hg=>(r_move rfl))<|rgs ((y1_0==0)||(decide ((rd 0 (bytesOf a0) y1_0)<48))) (true&&((!((((decide ((rd 0 (bytesOf a0) y1_0)≥97))&&(decide ((rd 0 (bytesOf a0) y1_0)≤122)))||((decide ((rd 0 (bytesOf a0) y1_0)≥65))&&(decide ((rd 0 (bytesOf a0) y1_0)≤90))))||((rd 0 (bytesOf a0) y1_0)==95)))==true)) (vB (decide ((rd 0 (bytesOf a0) y1_0)>57))) rfl rfl rfl rfl (fun hg=>(r_bin (gvt (Value.int .u8 (rd 0 (bytesOf a0) y1_0)) hg rfl) rfl rfl))<|run_frame (by simp only [sc0,sc1];rfl) ?_
    refine rgs (!((((decide ((rd 0 (bytesOf a0) y1_0)≥97))&&(decide ((rd 0 (bytesOf a0) y1_0)≤122)))||((decide ((rd 0 (bytesOf a0) y1_0)≥65))&&(decide ((rd 0 (bytesOf a0) y1_0)≤90))))||((rd 0 (bytesOf a0) y1_0)==95))) true (vB (((y1_0==0)||(decide ((rd 0 (bytesOf a0) y1_0)<48)))||(decide ((rd 0 (bytesOf a0) y1_0)>57)))) rfl rfl rfl rfl (fun hg=>(r_pick_or (gvt (vB ((y1_0==0)||(decide ((rd 0 (bytesOf a0) y1_0)<48)))) hg rfl) rfl (fun hp=>(gvt (vB (decide ((rd 0 (bytesOf a0) y1_0)>57))) (and_i hg hp) rfl))))<|rs (vB ((!((((decide ((rd 0 (bytesOf a0) y1_0)≥97))&&(decide ((rd 0 (bytesOf a0) y1_0)≤122)))||((decide ((rd 0 (bytesOf a0) y1_0)≥65))&&(decide ((rd 0 (bytesOf a0) y1_0)≤90))))||((rd 0 (bytesOf a0) y1_0)==95)))&&(((y1_0==0)||(decide ((rd 0 (bytesOf a0) y1_0)<48)))||(decide ((rd 0 (bytesOf a0) y1_0)>57))))) (r_pick_and rfl (fun hp=>(gvt (vB (((y1_0==0)||(decide ((rd 0 (bytesOf a0) y1_0)<48)))||(decide ((rd 0 (bytesOf a0) y1_0)>57)))) (and_i rfl hp) rfl)) rfl) ?_
    try simp only [sc0,sc1]
    refine run_nil<|norm_then<|wp_cond_split (t:=((!((((decide ((rd 0 (bytesOf a0) y1_0)≥97))&&(decide ((rd 0 (bytesOf a0) y1_0)≤122)))||((decide ((rd 0 (bytesOf a0) y1_0)≥65))&&(decide ((rd 0 (bytesOf a0) y1_0)≤90))))||((rd 0 (bytesOf a0) y1_0)==95)))&&(((y1_0==0)||(decide ((rd 0 (bytesOf a0) y1_0)<48)))||(decide ((rd 0 (bytesOf a0) y1_0)>57))))) rfl (fun c2=>?_) (fun c2=>?_)
    ·replace H:=of_pos H c2
     refine wp_seq<|region<|rs (vB false) (r_assign rfl) ?_
     try simp only [sc0,sc1]
     refine run_nil<|norm_then<|wp_ret<|ret_block<|ret_then<|ret_loop<|ret_then ?_
     obtain rfl:=Option.some.inj H
     obtain rfl:=Option.some.inj G1
     exact bodyPost_ret (results_1 rfl (one_tmp rfl)) rfl<|⟨rfl,HS2.toE⟩
    ·replace H:=of_neg H (nt c2)
     refine wp_skip<|norm_block<|norm_then<|region<|rs (vI (w64 (y1_0+1))) (r_bin rfl rfl rfl)<|rs (vI (w64 (y1_0+1))) (r_move rfl) ?_
     try simp only [sc0,sc1]
     refine run_nil<|again_j m (Nat.lt_succ_self m) rfl ⟨(w64 (y1_0+1)),(fit rfl),H,HS2⟩
   ·replace H:=of_neg H (nt c1)
    refine wp_exit<|exit_then ?_
    obtain rfl:=Option.some.inj H
    refine leave_j rfl ⟨_,rfl,(fit rfl),HS2⟩
 ·rintro us w3 ⟨s1,rfl,huo1,HS3⟩
  obtain ⟨uo1,rfl⟩:=unj huo1
  replace H:=G1
  clear G1
  try simp only [patch,sc0,sc1]
  refine norm_then<|wp_seq<|region<|rs (vS a0) (r_move rfl)<|rs (vB (!(strEq a0 ByteArray.empty))) (r_strneq rfl rfl)<|rs (vB (!(strEq a0 ByteArray.empty))) (r_move rfl)<|rgs (!(strEq a0 ByteArray.empty)) true (vS a0) rfl rfl rfl rfl (fun hg=>(r_move rfl))<|run_frame (by simp only [sc0,sc1];rfl) ?_
  refine rgs (!(strEq a0 ByteArray.empty)) true (vI (a0.size:Int)) rfl rfl rfl rfl (fun hg=>(r_lenStr (gvt (vS a0) hg rfl) Tryd.runUnderlying9))<|rgs (!(strEq a0 ByteArray.empty)) true (vB (decide ((a0.size:Int)≤31))) rfl rfl rfl rfl (fun hg=>(r_bin (gvt (vI (a0.size:Int)) hg rfl) rfl rfl))<|rs (vB ((!(strEq a0 ByteArray.empty))&&(decide ((a0.size:Int)≤31)))) (r_pick_and rfl (fun hp=>(gvt (vB (decide ((a0.size:Int)≤31))) (and_i rfl hp) rfl)) rfl)<|rs (vB ((!(strEq a0 ByteArray.empty))&&(decide ((a0.size:Int)≤31)))) (r_assign rfl) ?_
  try simp only [sc0,sc1]
  refine run_nil<|norm_then<|wp_ret ?_
  obtain rfl:=Option.some.inj H
  exact bodyPost_ret (results_1 rfl (one_tmp rfl)) rfl<|⟨rfl,HS3.toE⟩
section
variable {P:Program} {Q:Exit→Act→World→Prop}
theorem stepv {ops:Array Oper} {i:Nat} {o:Oper} {K:Act→World→Prop} {a:Act} {w w':World} {v:Value} (hi:ops[i]?=some o) (hg:o.guard=none) (hex:(execOp a.eval o).run P w= .ok (.value v) w') (hK:K (a.put o.dst v) w'):wpOp P ops Q i K a w:=by
 unfold wpOp
 rw [hi]
 simp only [Region.wanted,hg,if_true]
 refine .inl ?_
 unfold Oper.wp
 rw [hex]
 exact hK
theorem steps {ops:Array Oper} {i:Nat} {o:Oper} {K:Act→World→Prop} {a:Act} {w w':World} (hi:ops[i]?=some o) (hg:o.guard=none) (hd:o.dst=none) (hex:(execOp a.eval o).run P w= .ok .skip w') (hK:K a w'):wpOp P ops Q i K a w:=by
 unfold wpOp
 rw [hi]
 simp only [Region.wanted,hg,if_true]
 refine .inl ?_
 unfold Oper.wp
 rw [hex]
 simp only [Oper.upon,hd]
 exact hK
end
def eqI (a b:api_Int):Bool:=(a.vSize==b.vSize)&&((a.vSigned==b.vSigned)&&true)
theorem eqI_iff {a b:api_Int}:eqI a b=true↔a=b:=by
 obtain ⟨a1,a2⟩:=a
 obtain ⟨b1,b2⟩:=b
 simp [eqI]
theorem keyI : KeyS Tryd.prog 31 #[{ name := "Size", type := 3, offset := 0, embedded := false, tag := "", pkgPath := "", byteOffset := 0 }, { name := "Signed", type := 4, offset := 1, embedded := false, tag := "", pkgPath := "", byteOffset := 8 }] e_api_Int eqI where
  hu:=Tryd.runUnderlying31
  same:=fun a b w=>(eqr_agg Tryd.stoodInHeld31 Tryd.underlying31 (eqf_cons (by decide) (part_one Tryd.isAgg3 rfl) (part_one Tryd.isAgg3 rfl) (eqr_int Tryd.underlying3) (eqf_cons (by decide) (part_one Tryd.isAgg4 rfl) (part_one Tryd.isAgg4 rfl) (eqr_bool Tryd.underlying4) eqf_nil)):EqR Tryd.prog 10000 31 (e_api_Int a) (e_api_Int b) (eqI a b)) w
  check:=fun e k w=>by
    have hp1:(part 3 #[.int .i64 k.vSize, .bool k.vSigned] 0).run Tryd.prog w= .ok (.int .i64 k.vSize) w:=part_one Tryd.isAgg3 rfl w
    have hp2:(part 4 #[.int .i64 k.vSize, .bool k.vSigned] 1).run Tryd.prog w= .ok (.bool k.vSigned) w:=part_one Tryd.isAgg4 rfl w
    have h1:∀n v,(Instr.checkKey e (n+1) 3 v).run Tryd.prog w= .ok () w:=fun n v=>by
      rw [Instr.checkKey]
      simp only [Sem.run_bind,Tryd.runUnderlying3,Result.andThen_ok]
      cases v<;>rfl
    have h2:∀n v,(Instr.checkKey e (n+1) 4 v).run Tryd.prog w= .ok () w:=fun n v=>by
      rw [Instr.checkKey]
      simp only [Sem.run_bind,Tryd.runUnderlying4,Result.andThen_ok]
      cases v<;>rfl
    show (Instr.checkKey e (9998+1+1) 31 (.agg #[.int .i64 k.vSize, .bool k.vSigned])).run Tryd.prog w=_
    rw [Instr.checkKey]
    simp only [Sem.run_bind,Tryd.runUnderlying31,Result.andThen_ok]
    simp [hp1,hp2,h1,h2]
def keyAt (j:Nat):api_Int:=⟨([1,1,2,2,4,4,8,8]:List Int).getD j 0,j%2==0⟩
structure MapIn (wz w:World) (b:Nat) (es:Array MapEntry) (cl:Nat) (ks:List api_Int):Prop where
 ge:wz.heap.size≤b
 at_:w.heap[b]?=some (.map es cl)
 keys:KeysOk e_api_Int ks es
 ext:Ext wz w
structure CInv (wz:World) (df:List Deferred) (L:Nat→Bool) (a:Act) (w:World):Prop where
 defers:a.defers=df
 size:a.tmps.size=11
 built:∀j:Nat,j<8→L (2*j+1)=true→a.tmps.getD (Nat.add j 2) undef=e_api_Int (keyAt j)
 none_:L 0=false→Ext wz w∧(∀j,j<8→L (2*j+2)=false)∧L 17=false∧L 18=false
 some_:L 0=true→∃b es cl ks,a.tmps.getD 1 undef= .map (some b)∧MapIn wz w b es cl ks∧(∀j,j<8→(L (2*j+2)=true↔keyAt j∈ks))∧(∀k∈ks,∃j,j<8∧k=keyAt j)∧
  (L 17=true→a.tmps.getD 10 undef= .map (some b))∧(L 18=true→a.tmps.getD 0 undef= .map (some b))
theorem upd_ne {L:Nat→Bool} {i j:Nat} (h:j≠i):upd L i j=L j:=if_neg h
theorem upd_at {L:Nat→Bool} {i:Nat}:upd L i i=true:=if_pos rfl
theorem getD_put_ne {a:Act} {d t:Tmp} {v:Value} (h:d≠t):(a.put (some d) v).tmps.getD t undef=a.tmps.getD t undef:=by
 simp [Act.put,Array.getD_eq_getD_getElem?,Array.getElem?_setIfInBounds_ne h]
theorem getD_put_at {a:Act} {d:Tmp} {v:Value} (h:d<a.tmps.size):(a.put (some d) v).tmps.getD d undef=v:=by
 simp [Act.put,Array.getD_eq_getD_getElem?,h]
theorem sl_lt {j:Nat} (h:j<8):Nat.add j 2<11:=by show j+2<11;omega
theorem sl_ne {j q:Nat} (h:¬q=j):Nat.add j 2≠Nat.add q 2:=by show j+2≠q+2;omega
theorem sl_1 {j:Nat}:Nat.add j 2≠1:=by show j+2≠1;omega
theorem sl_1' {j:Nat}:1≠Nat.add j 2:=by show 1≠j+2;omega
theorem sl_0 {j:Nat}:Nat.add j 2≠0:=by show j+2≠0;omega
theorem sl_10 {j:Nat} (h:j<8):Nat.add j 2≠10:=by show j+2≠10;omega
theorem sl_10' {j:Nat} (h:j<8):10≠Nat.add j 2:=by show 10≠j+2;omega
theorem sl_0' {j:Nat}:0≠Nat.add j 2:=by show 0≠j+2;omega
theorem CInv.build {wz w:World} {df:List Deferred} {L:Nat→Bool} {a:Act} (C:CInv wz df L a w) {j:Nat} (hj:j<8):CInv wz df (upd L (2*j+1)) (a.put (some (Nat.add j 2)) (e_api_Int (keyAt j))) w:=by
 refine ⟨by simp [Act.put,C.defers],by simp [Act.put,C.size],fun q hq hL=>?_,fun h=>?_,fun h=>?_⟩
 ·by_cases hqj:q=j
  ·subst hqj;exact getD_put_at (by rw [C.size];exact sl_lt hq)
  ·rw [getD_put_ne (sl_ne hqj)]
   rw [upd_ne (by omega)] at hL
   exact C.built q hq hL
 ·rw [upd_ne (by omega)] at h
  obtain ⟨h1,h2,h3,h4⟩:=C.none_ h
  exact ⟨h1,fun q hq=>by rw [upd_ne (by omega)];exact h2 q hq,by rw [upd_ne (by omega)];exact h3,by rw [upd_ne (by omega)];exact h4⟩
 ·rw [upd_ne (by omega)] at h
  obtain ⟨b,es,cl,ks,h1,h2,h3,h4,h5,h6⟩:=C.some_ h
  refine ⟨b,es,cl,ks,by rw [getD_put_ne sl_1];exact h1,h2,fun q hq=>by rw [upd_ne (by omega)];exact h3 q hq,h4,fun h=>?_,fun h=>?_⟩
  ·rw [upd_ne (by omega)] at h
   rw [getD_put_ne (sl_10 hj)];exact h5 h
  ·rw [upd_ne (by omega)] at h
   rw [getD_put_ne sl_0];exact h6 h
theorem keyAt_inj {i j:Nat} (hi:i<8) (hj:j<8) (h:keyAt i=keyAt j):i=j:=by
 have:∀i j:Fin 8,(([1,1,2,2,4,4,8,8]:List Int).getD i 0=([1,1,2,2,4,4,8,8]:List Int).getD j 0∧(i.val%2==0)=(j.val%2==0))→i=j:=by decide
 have h2:=this ⟨i,hi⟩ ⟨j,hj⟩ (by simpa [keyAt] using h)
 exact congrArg Fin.val h2
theorem CInv.insert {wz w : World} {df : List Deferred} {L : Nat → Bool} {a : Act} (C : CInv wz df L a w) {j : Nat} (hj : j < 8) (hL : L (2 * j + 2) = false) (h0 : L 0 = true) (hb : L (2 * j + 1) = true) {o : Oper} {y : Operand}
    (ho:o.op= .insert 181 (.tmp 1) (.tmp (Nat.add j 2)) y):∃w',(execOp a.eval o).run Tryd.prog w= .ok .skip w'∧CInv wz df (upd L (2*j+2)) a w':=by
  obtain ⟨b,es,cl,ks,h1,h2,h3,h4,h5,h6⟩:=C.some_ h0
  have hnot:ks.any (eqI (keyAt j))=false:=by
    rw [List.any_eq_false]
    intro k hk he
    have:=eqI_iff.1 he
    rw [←this] at hk
    have:=(h3 j hj).2 hk
    rw [hL] at this
    cases this
  obtain ⟨es',cl',hr,hk⟩:=put_s (P:=Tryd.prog) keyI (keyAt j) (v:=a.eval y) h2.keys Tryd.runUnderlying181 h2.at_ hnot
  have e1:a.eval (.tmp 1)= .map (some b):=h1
  have e2:a.eval (.tmp (Nat.add j 2))=e_api_Int (keyAt j):=C.built j hj hb
  have hlt:=(Array.getElem?_eq_some_iff.1 h2.at_).1
  refine ⟨setb w b (.map es' cl'),by simp [execOp,ho,e1,e2,hr],C.defers,C.size,fun q hq hLq=>?_,fun h=>?_,fun h=>?_⟩
  · rw [upd_ne (by omega)] at hLq
    exact C.built q hq hLq
  · rw [upd_ne (by omega),h0] at h;cases h
  · refine ⟨b,es',cl',ks++[keyAt j],h1,⟨h2.ge,setb_at hlt,hk,?_⟩,fun q hq=>?_,fun k hk=>?_,fun h=>?_,fun h=>?_⟩
    · refine ⟨h2.ext.os,h2.ext.tape,h2.ext.output,by simpa [setb] using h2.ext.size,fun i hi=>?_⟩
      rw [setb_ne (by have:=h2.ge;omega)]
      exact h2.ext.block i hi
    · by_cases hqj:q=j
      · subst hqj;simp [upd_at]
      · rw [upd_ne (by omega),h3 q hq,List.mem_append,List.mem_singleton]
        exact ⟨.inl,fun h=>h.elim id (fun e=>absurd (keyAt_inj hq hj e) hqj)⟩
    · rcases List.mem_append.1 hk with hk|hk
      · exact h4 k hk
      · exact ⟨j,hj,List.mem_singleton.1 hk⟩
    · rw [upd_ne (by omega)] at h;exact h5 h
    · rw [upd_ne (by omega)] at h;exact h6 h
def okI (k:api_Int):Bool:=k.vSize==1||k.vSize==2||k.vSize==4||k.vSize==8
theorem all_keys {ks : List api_Int} (h3 : ∀ j, j < 8 → keyAt j ∈ ks) (h4 : ∀ k ∈ ks, ∃ j, j < 8 ∧ k = keyAt j) (k : api_Int) : ks.any (eqI k) = okI k := by
  have key:ks.any (eqI k)=true↔okI k=true:=by
    rw [List.any_eq_true]
    constructor
    · rintro ⟨q,hq,he⟩
      obtain ⟨j,hj,rfl⟩:=h4 q hq
      obtain rfl:=eqI_iff.1 he
      have:∀j:Fin 8,okI (keyAt j)=true:=by decide
      exact this ⟨j,hj⟩
    · intro h
      obtain ⟨s,g⟩:=k
      have h1:∃j,j<8∧keyAt j=⟨s,g⟩:=by
        simp only [okI,Bool.or_eq_true,beq_iff_eq] at h
        rcases h with ((h|h)|h)|h<;>subst h<;>cases g
        · exact ⟨1,by decide,rfl⟩
        · exact ⟨0,by decide,rfl⟩
        · exact ⟨3,by decide,rfl⟩
        · exact ⟨2,by decide,rfl⟩
        · exact ⟨5,by decide,rfl⟩
        · exact ⟨4,by decide,rfl⟩
        · exact ⟨7,by decide,rfl⟩
        · exact ⟨6,by decide,rfl⟩
      obtain ⟨j,hj,e⟩:=h1
      exact ⟨keyAt j,h3 j hj,eqI_iff.2 e.symm⟩
  cases h1:ks.any (eqI k) with
  |true=>exact (key.1 h1).symm
  | false =>
    cases h2:okI k with
    |false=>rfl
    |true=>rw [key.2 h2] at h1;cases h1
theorem bits_conversions.calls {w0 : World} : Calls Tryd.prog 124 #[] w0 (fun e w1 => ∃ b es cl ks, e = .returned (.map (some b)) ∧ w0.heap.size ≤ b ∧ w1.heap[b]? = some (.map es cl) ∧ KeysOk e_api_Int ks es ∧ (∀ k, ks.any (eqI k) = okI k) ∧ Ext w0 w1) := by
  go_enter Tryd.func124,Tryd.ntmps124
  refine wp_seq ?_
  refine region ?_
  refine run_same (v:=Value.map none) rfl rfl (r_assign rfl) ?_
  try simp only [List.set_cons_zero,List.set_cons_succ]
  refine run_nil ?_
  refine norm_then ?_
  refine wp_seq ?_
  refine drawn_inv (CInv w0 []) hmix (by kernel_rfl) ?_ ?_ ?_
  · intro w' hE
    exact CInv.mk rfl rfl (fun j hj h=>by cases h) (fun _=>⟨hE,fun _ _=>rfl,rfl,rfl⟩) (fun h=>by cases h)
  · intro L a w i o C ho hLi hall
    have hil:i<19:=(List.getElem?_eq_some_iff.1 ho).1
    have hops:=ho
    rw [←List.getElem?_toArray] at hops
    rcases (by omega:i=0∨i=1∨i=2∨i=3∨i=4∨i=5∨i=6∨i=7∨i=8∨i=9∨i=10∨i=11∨i=12∨i=13∨i=14∨i=15∨i=16∨i=17∨i=18) with rfl|rfl|rfl|rfl|rfl|rfl|rfl|rfl|rfl|rfl|rfl|rfl|rfl|rfl|rfl|rfl|rfl|rfl|rfl
    · -- the map
      obtain rfl:=Option.some.inj ho
      obtain ⟨h1,h2,h3,h4⟩:=C.none_ hLi
      refine stepv hops rfl (v:= .map (some w.heap.size)) (w':=w.alloc (.map #[] 0)) ?_ ?_
      · have hn:Sem.run Tryd.prog (Sem.new (Obj.map #[] 0) Sem.pure) w= .ok w.heap.size (w.alloc (.map #[] 0)):=rfl
        simp [execOp,Instr.makeMap,newObj,hn]
      · refine CInv.mk (by simp [Act.put,C.defers]) (by simp [Act.put,C.size]) (fun q hq hL=>?_) (fun h=>by rw [upd_at] at h;cases h) (fun _=>?_)
        · rw [upd_ne (by omega)] at hL
          show (a.put (some 1) _).tmps.getD _ undef=_
          rw [getD_put_ne sl_1'];exact C.built q hq hL
        · refine ⟨w.heap.size,#[],0,[],getD_put_at (by rw [C.size];decide),⟨h1.size,heap_alloc_new w _,rfl,h1.then (Ext.new w _)⟩,fun q hq=>?_,by simp,fun h=>?_,fun h=>?_⟩
          · rw [upd_ne (by omega),h2 q hq];simp
          · rw [upd_ne (by omega),h3] at h;cases h
          · rw [upd_ne (by omega),h4] at h;cases h
    · obtain rfl:=Option.some.inj ho
      exact stepv hops rfl (r_build (cs:=[.int .i64 1, .bool true]) (ps:=[(0, .int .i64 1),(1, .bool true)]) Tryd.zeroValue31 Tryd.runUnderlying31 (pl:=#[(0,1),(1,1)]) (fun w=>by simp [Tryd.sizeOf3,Tryd.sizeOf4]) (parts_2 rfl rfl) rfl) (C.build (j:=0) (by decide))
    · obtain rfl:=Option.some.inj ho
      simp [Region.binds] at hall
      obtain ⟨w', hex, hC⟩ := C.insert (o := ⟨none, .insert 181 (.tmp 1) (.tmp 2) (.func 126), 0, "bits.go:22", #[{ on := 0, ground := Ground.data }, { on := 1, ground := Ground.data }], none⟩) (j := 0) (by decide) hLi hall.1 hall.2 rfl
      exact steps hops rfl rfl hex hC
    · obtain rfl:=Option.some.inj ho
      exact stepv hops rfl (r_build (cs:=[.int .i64 1, .bool false]) (ps:=[(0, .int .i64 1)]) Tryd.zeroValue31 Tryd.runUnderlying31 (pl:=#[(0,1),(1,1)]) (fun w=>by simp [Tryd.sizeOf3,Tryd.sizeOf4]) (parts_1 rfl) rfl) (C.build (j:=1) (by decide))
    · obtain rfl:=Option.some.inj ho
      simp [Region.binds] at hall
      obtain ⟨w', hex, hC⟩ := C.insert (o := ⟨none, .insert 181 (.tmp 1) (.tmp 3) (.func 127), 0, "bits.go:22", #[{ on := 0, ground := Ground.data }, { on := 3, ground := Ground.data }], none⟩) (j := 1) (by decide) hLi hall.1 hall.2 rfl
      exact steps hops rfl rfl hex hC
    · obtain rfl:=Option.some.inj ho
      exact stepv hops rfl (r_build (cs:=[.int .i64 2, .bool true]) (ps:=[(0, .int .i64 2),(1, .bool true)]) Tryd.zeroValue31 Tryd.runUnderlying31 (pl:=#[(0,1),(1,1)]) (fun w=>by simp [Tryd.sizeOf3,Tryd.sizeOf4]) (parts_2 rfl rfl) rfl) (C.build (j:=2) (by decide))
    · obtain rfl:=Option.some.inj ho
      simp [Region.binds] at hall
      obtain ⟨w', hex, hC⟩ := C.insert (o := ⟨none, .insert 181 (.tmp 1) (.tmp 4) (.func 128), 0, "bits.go:22", #[{ on := 0, ground := Ground.data }, { on := 5, ground := Ground.data }], none⟩) (j := 2) (by decide) hLi hall.1 hall.2 rfl
      exact steps hops rfl rfl hex hC
    · obtain rfl:=Option.some.inj ho
      exact stepv hops rfl (r_build (cs:=[.int .i64 2, .bool false]) (ps:=[(0, .int .i64 2)]) Tryd.zeroValue31 Tryd.runUnderlying31 (pl:=#[(0,1),(1,1)]) (fun w=>by simp [Tryd.sizeOf3,Tryd.sizeOf4]) (parts_1 rfl) rfl) (C.build (j:=3) (by decide))
    · obtain rfl:=Option.some.inj ho
      simp [Region.binds] at hall
      obtain ⟨w', hex, hC⟩ := C.insert (o := ⟨none, .insert 181 (.tmp 1) (.tmp 5) (.func 129), 0, "bits.go:22", #[{ on := 0, ground := Ground.data }, { on := 7, ground := Ground.data }], none⟩) (j := 3) (by decide) hLi hall.1 hall.2 rfl
      exact steps hops rfl rfl hex hC
    · obtain rfl:=Option.some.inj ho
      exact stepv hops rfl (r_build (cs:=[.int .i64 4, .bool true]) (ps:=[(0, .int .i64 4),(1, .bool true)]) Tryd.zeroValue31 Tryd.runUnderlying31 (pl:=#[(0,1),(1,1)]) (fun w=>by simp [Tryd.sizeOf3,Tryd.sizeOf4]) (parts_2 rfl rfl) rfl) (C.build (j:=4) (by decide))
    · obtain rfl:=Option.some.inj ho
      simp [Region.binds] at hall
      obtain ⟨w', hex, hC⟩ := C.insert (o := ⟨none, .insert 181 (.tmp 1) (.tmp 6) (.func 130), 0, "bits.go:22", #[{ on := 0, ground := Ground.data }, { on := 9, ground := Ground.data }], none⟩) (j := 4) (by decide) hLi hall.1 hall.2 rfl
      exact steps hops rfl rfl hex hC
    · obtain rfl:=Option.some.inj ho
      exact stepv hops rfl (r_build (cs:=[.int .i64 4, .bool false]) (ps:=[(0, .int .i64 4)]) Tryd.zeroValue31 Tryd.runUnderlying31 (pl:=#[(0,1),(1,1)]) (fun w=>by simp [Tryd.sizeOf3,Tryd.sizeOf4]) (parts_1 rfl) rfl) (C.build (j:=5) (by decide))
    · obtain rfl:=Option.some.inj ho
      simp [Region.binds] at hall
      obtain ⟨w', hex, hC⟩ := C.insert (o := ⟨none, .insert 181 (.tmp 1) (.tmp 7) (.func 131), 0, "bits.go:22", #[{ on := 0, ground := Ground.data }, { on := 11, ground := Ground.data }], none⟩) (j := 5) (by decide) hLi hall.1 hall.2 rfl
      exact steps hops rfl rfl hex hC
    · obtain rfl:=Option.some.inj ho
      exact stepv hops rfl (r_build (cs:=[.int .i64 8, .bool true]) (ps:=[(0, .int .i64 8),(1, .bool true)]) Tryd.zeroValue31 Tryd.runUnderlying31 (pl:=#[(0,1),(1,1)]) (fun w=>by simp [Tryd.sizeOf3,Tryd.sizeOf4]) (parts_2 rfl rfl) rfl) (C.build (j:=6) (by decide))
    · obtain rfl:=Option.some.inj ho
      simp [Region.binds] at hall
      obtain ⟨w', hex, hC⟩ := C.insert (o := ⟨none, .insert 181 (.tmp 1) (.tmp 8) (.func 132), 0, "bits.go:22", #[{ on := 0, ground := Ground.data }, { on := 13, ground := Ground.data }], none⟩) (j := 6) (by decide) hLi hall.1 hall.2 rfl
      exact steps hops rfl rfl hex hC
    · obtain rfl:=Option.some.inj ho
      exact stepv hops rfl (r_build (cs:=[.int .i64 8, .bool false]) (ps:=[(0, .int .i64 8)]) Tryd.zeroValue31 Tryd.runUnderlying31 (pl:=#[(0,1),(1,1)]) (fun w=>by simp [Tryd.sizeOf3,Tryd.sizeOf4]) (parts_1 rfl) rfl) (C.build (j:=7) (by decide))
    · obtain rfl:=Option.some.inj ho
      simp [Region.binds] at hall
      obtain ⟨w', hex, hC⟩ := C.insert (o := ⟨none, .insert 181 (.tmp 1) (.tmp 9) (.func 133), 0, "bits.go:22", #[{ on := 0, ground := Ground.data }, { on := 15, ground := Ground.data }], none⟩) (j := 7) (by decide) hLi hall.1 hall.2 rfl
      exact steps hops rfl rfl hex hC
    · obtain rfl:=Option.some.inj ho
      simp [Region.binds] at hall
      obtain ⟨b,es,cl,ks,h1,h2,h3,h4,h5,h6⟩:=C.some_ hall.1
      refine stepv hops rfl (v:= .map (some b)) (w':=w) (r_move h1) ?_
      refine CInv.mk (by simp [Act.put,C.defers]) (by simp [Act.put,C.size]) (fun q hq hL=>?_) (fun h=>by rw [upd_ne (by omega),hall.1] at h;cases h) (fun _=>⟨b,es,cl,ks,?_,h2,fun q hq=>by rw [upd_ne (by omega)];exact h3 q hq,h4,fun _=>?_,fun h=>?_⟩)
      · rw [upd_ne (by omega)] at hL
        show (a.put (some 10) _).tmps.getD _ undef=_
        rw [getD_put_ne (sl_10' hq)];exact C.built q hq hL
      · exact (getD_put_ne (by decide)).trans h1
      · exact getD_put_at (by rw [C.size];decide)
      · rw [upd_ne (by omega)] at h
        exact (getD_put_ne (by decide)).trans (h6 h)
    · obtain rfl:=Option.some.inj ho
      simp [Region.binds] at hall
      obtain ⟨b,es,cl,ks,h1,h2,h3,h4,h5,h6⟩:=C.some_ hall.2.1
      refine stepv hops rfl (v:= .map (some b)) (w':=w) (r_assign (h5 hall.1)) ?_
      refine CInv.mk (by simp [Act.put,C.defers]) (by simp [Act.put,C.size]) (fun q hq hL=>?_) (fun h=>by rw [upd_ne (by omega),hall.2.1] at h;cases h) (fun _=>⟨b,es,cl,ks,?_,h2,fun q hq=>by rw [upd_ne (by omega)];exact h3 q hq,h4,fun h=>?_,fun _=>?_⟩)
      · rw [upd_ne (by omega)] at hL
        show (a.put (some 0) _).tmps.getD _ undef=_
        rw [getD_put_ne sl_0'];exact C.built q hq hL
      · exact (getD_put_ne (by decide)).trans h1
      · rw [upd_ne (by omega)] at h
        exact (getD_put_ne (by decide)).trans (h5 h)
      · exact getD_put_at (by rw [C.size];decide)
  · intro L a w C hall
    obtain ⟨b,es,cl,ks,h1,h2,h3,h4,h5,h6⟩:=C.some_ (hall 0 (by decide))
    refine norm_then ?_
    refine wp_ret ?_
    refine bodyPost_ret (results_1 rfl (one_tmp (h6 (hall 18 (by decide))))) C.defers ?_
    exact ⟨b,es,cl,ks,rfl,h2.ge,h2.at_,h2.keys,all_keys (fun j hj=>(h3 j hj).1 (hall (2*j+2) (by show 2*j+2<19;omega))) h4,h2.ext⟩
def bits_Check.f (a0:api_Int):Option Int:=some (if okI a0=true then 0 else 10)
theorem r_lookups {P:Program} {ρ:Operand→Value} {w:World} {dst:Option Tmp} {ty:TypeId} {pos:String} {after:Array Edge} {guard:Option (Nat×Bool)} {xt:TypeId} {x y:Operand} {b:Nat} {k v:Value} (hx:ρ x= .map (some b)) (hy:ρ y=k)
  (h:(Instr.lookup xt (.map (some b)) k true).run P w= .ok v w):(execOp ρ ⟨dst, .lookup xt x y true,ty,pos,after,guard⟩).run P w= .ok (.value v) w:=by
 simp [execOp,hx,hy,h]
theorem bits_Check.calls (a0:api_Int) {h0:View} {w0:World} (hv:Sees h0 w0) {r:Int} (H:bits_Check.f a0=some r):Calls Tryd.prog 119 #[Value.agg #[Value.int .i64 a0.vSize,Value.bool a0.vSigned]] w0 (fun e w1=>e= .returned (Value.int .i64 r)∧Ext w0 w1):=by
 unfold bits_Check.f at H
 obtain rfl:=Option.some.inj H
 have HS:St [] h0 w0 h0 [] w0:=St.init hv
 go_enter Tryd.func119,Tryd.ntmps119
 refine wp_seq ?_
 refine region ?_
 refine run_ex rfl rfl (does_box (cs:=#[Value.int .i64 a0.vSize,Value.bool a0.vSigned]) rfl rfl) ?_
 rintro w1 _ hE1 ⟨b1,rfl,ge1,hb1⟩
 have HS1:=HS.new hE1 ge1 hb1
 refine run_same (v:=Value.int .i64 0) rfl rfl (r_assign rfl) ?_
 try simp only [List.set_cons_zero,List.set_cons_succ]
 refine run_nil ?_
 refine norm_then ?_
 refine wp_seq ?_
 refine wp_seq ?_
 refine drawn_chain [([7],[1]),([8,5,9,10,3,4],[1,2,3,4,5,6,7])] [0] [[],[],[0,1],[0,1,2],[0,1,2,3],[0,1,2,3],[0,1,2,3,4],[0,1,2,3,4,5,6]] hmix (by kernel_rfl) ?_
 intro w2 hE2
 have HS2:=HS1.step hE2
 refine chain_eff [e_api_Int a0] ?_ rfl rfl ?_
 ·simp only [patch,List.set_cons_zero,List.set_cons_succ]
  exact allg_cons (good_same (v:=e_api_Int a0) rfl rfl rfl rfl (r_loadBoxAgg (n:=2) (vs:=[Value.int .i64 a0.vSize,Value.bool a0.vSigned]) rfl Tryd.isAgg31 (HS2.look 0 rfl) Tryd.sizeOf31 rfl rfl)) allg_nil
 simp only [patch,List.set_cons_zero,List.set_cons_succ]
 refine run_call (vs:=[]) (caps:=[]) Tryd.call124 rfl rfl bits_conversions.calls ?_
 rintro _ w3 ⟨b2,es,cl,ks,rfl,hge,hb,hk,hok,hE3⟩
 refine ⟨_,rfl,?_⟩
 refine qn_nil ?_
 try simp only [List.set_cons_zero,List.set_cons_succ]
 have HS3:=HS2.step hE3
 obtain ⟨v,hlk⟩:=lookup_s keyI a0 hk Tryd.runUnderlying181 Tryd.zeroValue179 hb
 rw [hok a0] at hlk
 refine chain_last [.tuple #[v, .bool (okI a0)], .tuple #[v, .bool (okI a0)],v, .bool (okI a0),v, .bool (okI a0)] ?_ ?_
 ·simp only [patch,List.set_cons_zero,List.set_cons_succ]
  exact allg_cons (good_same (v := e_api_Int a0) rfl rfl rfl rfl (r_loadBoxAgg (n := 2) (vs := [Value.int .i64 a0.vSize, Value.bool a0.vSigned]) rfl Tryd.isAgg31 (HS3.look 0 rfl) Tryd.sizeOf31 rfl rfl)) (allg_cons (good_same (v := .tuple #[v, .bool (okI a0)]) rfl rfl rfl rfl (r_lookups rfl rfl hlk))
   (allg_cons (good_same rfl rfl rfl rfl (r_move rfl)) (allg_cons (good_same rfl rfl rfl rfl (r_extract rfl rfl)) (allg_cons (good_same rfl rfl rfl rfl (r_extract rfl rfl)) (allg_cons (good_same rfl rfl rfl rfl (r_assign rfl)) (allg_cons (good_same rfl rfl rfl rfl (r_assign rfl)) allg_nil))))))
 simp only [patch,List.set_cons_zero,List.set_cons_succ]
 refine norm_then ?_
 refine wp_seq ?_
 refine region ?_
 refine run_same (v:=Value.bool (okI a0)) rfl rfl (r_move rfl) ?_
 refine run_same (v:=Value.bool (!(okI a0))) rfl rfl (r_not rfl) ?_
 try simp only [List.set_cons_zero,List.set_cons_succ]
 refine run_nil ?_
 refine norm_then ?_
 refine wp_cond_split (t:= !(okI a0)) rfl (fun c1=>?_) (fun c1=>?_)
 ·refine wp_seq ?_
  refine region ?_
  refine run_same (v:=Value.int .i64 10) rfl rfl (r_assign rfl) ?_
  try simp only [List.set_cons_zero,List.set_cons_succ]
  refine run_nil ?_
  refine norm_then ?_
  refine wp_ret ?_
  refine ret_then ?_
  refine bodyPost_ret (results_1 rfl (one_tmp rfl)) rfl ?_
  have:okI a0=false:=by simpa using c1
  rw [this]
  exact ⟨rfl,HS3.toE⟩
 ·refine wp_skip ?_
  refine norm_then ?_
  refine wp_seq ?_
  refine region ?_
  refine run_same (v:=Value.int .i64 0) rfl rfl (r_assign rfl) ?_
  try simp only [List.set_cons_zero,List.set_cons_succ]
  refine run_nil ?_
  refine norm_then ?_
  refine wp_ret ?_
  refine bodyPost_ret (results_1 rfl (one_tmp rfl)) rfl ?_
  have:okI a0=true:=by simpa using c1
  rw [this]
  exact ⟨rfl,HS3.toE⟩
def ctf_shaped.l0 (k:Nat) (a0:api_Def) (a1:Int):Nat→Int→(List (ByteArray×Bool))→Option ((Bool)⊕((List (ByteArray×Bool))))
 |0,_,_=>none
 |m+1,y1_0,y1_1=>if (decide (y1_0<(a0.vFields.length:Int)))=true then (if 0≤y1_0∧y1_0<a0.vFields.length then ((ctf_isName.f k ((rd z_api_Field a0.vFields y1_0).vName)).bind fun v4=>(if ((!v4)||((mfind strEq y1_1 ((rd z_api_Field a0.vFields y1_0).vName)).getD false))=true then (some (.inl false)) else (if (((a0.vKind==5)&&((((rd z_api_Field a0.vFields y1_0).vType !=0)||(decide ((rd z_api_Field a0.vFields y1_0).vAt<(-2147483648))))||(decide ((rd z_api_Field a0.vFields y1_0).vAt>2147483647))))||((a0.vKind==4)&&((decide ((rd z_api_Field a0.vFields y1_0).vType<0))||(decide ((rd z_api_Field a0.vFields y1_0).vType≥a1)))))=true then (some (.inl false)) else (ctf_shaped.l0 k a0 a1 m (IntKind.wrap .i64 (y1_0+1)) (mput strEq y1_1 ((rd z_api_Field a0.vFields y1_0).vName) true))))) else none) else (some (.inr y1_1))
def ctf_shaped.f (k:Nat) (a0:api_Def) (a1:Int):Option (Bool):=(ctf_shapes.f).bind fun v1=>(((if (!((mfind ieq v1 a0.vKind).isSome))=true then (some (!((mfind ieq v1 a0.vKind).isSome))) else ((if (true&&(((mfind ieq v1 a0.vKind).getD z_ctf_shape).vname==true))=true then ctf_isName.f k a0.vName else some false).bind fun v2=>(if (((mfind ieq v1 a0.vKind).getD z_ctf_shape).vname&&(!v2))=true then (some (((mfind ieq v1 a0.vKind).getD z_ctf_shape).vname&&(!v2))) else (some ((!(((mfind ieq v1 a0.vKind).getD z_ctf_shape).vname))&&(!(strEq a0.vName ByteArray.empty))))))):Option (Bool)).bind fun xx1=>(if xx1=true then (some false) else ((if (true&&(((mfind ieq v1 a0.vKind).getD z_ctf_shape).vint==true))=true then bits_Check.f a0.vInt else some 0).bind fun v3=>(((if (((mfind ieq v1 a0.vKind).getD z_ctf_shape).vint&&(v3 !=0))=true then (some (((mfind ieq v1 a0.vKind).getD z_ctf_shape).vint&&(v3 !=0))) else (some ((!(((mfind ieq v1 a0.vKind).getD z_ctf_shape).vint))&&(!((a0.vInt.vSize==0)&&((a0.vInt.vSigned==false)&&true)))))):Option (Bool)).bind fun xx2=>(if xx2=true then (some false) else (((if (((mfind ieq v1 a0.vKind).getD z_ctf_shape).vref&&((decide (a0.vRef<0))||(decide (a0.vRef≥a1))))=true then (some (((mfind ieq v1 a0.vKind).getD z_ctf_shape).vref&&((decide (a0.vRef<0))||(decide (a0.vRef≥a1))))) else (some ((!(((mfind ieq v1 a0.vKind).getD z_ctf_shape).vref))&&(a0.vRef !=0)))):Option (Bool)).bind fun xx3=>(if xx3=true then (some false) else (((if (((mfind ieq v1 a0.vKind).getD z_ctf_shape).vn&&((decide (a0.vN<1))||(decide (a0.vN>512))))=true then (some (((mfind ieq v1 a0.vKind).getD z_ctf_shape).vn&&((decide (a0.vN<1))||(decide (a0.vN>512))))) else (some ((!(((mfind ieq v1 a0.vKind).getD z_ctf_shape).vn))&&(a0.vN !=0)))):Option (Bool)).bind fun xx4=>(if xx4=true then (some false) else (((if (((mfind ieq v1 a0.vKind).getD z_ctf_shape).vfields !=(decide ((a0.vFields.length:Int)>0)))=true then (some (((mfind ieq v1 a0.vKind).getD z_ctf_shape).vfields !=(decide ((a0.vFields.length:Int)>0)))) else (some (decide ((a0.vFields.length:Int)>32)))):Option (Bool)).bind fun xx5=>(if xx5=true then (some false) else ((ctf_shaped.l0 k a0 a1 k 0 ([]:List (ByteArray×Bool))).bind fun xx6=>(match xx6 with| .inl r=>some r| .inr s1=>some true)))))))))))))
theorem ctf_shaped.calls (k:Nat) (a0:api_Def) (a1:Int) (A0_6:Option Addr) (c0_6:Nat) {h0:View} {w0:World} (hv:Sees h0 w0) (hr0_6:Rd k_api_Field h0 A0_6 a0.vFields) (hc0_6:a0.vFields.length≤c0_6) {r:Bool} (H:ctf_shaped.f k a0 a1=some r):Calls Tryd.prog 89 #[Value.agg #[vI a0.vKind,vS a0.vName,vI a0.vInt.vSize,vB a0.vInt.vSigned,vI a0.vRef,vI a0.vN,vL A0_6 a0.vFields.length c0_6],vI a1] w0 (fun e w1=>e= .returned (vB r)∧Ext w0 w1):=by
 unfold ctf_shaped.f at H
 have HS:St [] h0 w0 h0 [] w0:=St.init hv
 go_enter Tryd.func89,Tryd.ntmps89
 refine wp_seq<|region<|run_ex rfl rfl (does_box (cs:=#[vI a0.vKind,vS a0.vName,vI a0.vInt.vSize,vB a0.vInt.vSigned,vI a0.vRef,vI a0.vN,vL A0_6 a0.vFields.length c0_6]) rfl rfl) ?_
 rintro w1 _ hE1 ⟨b1,rfl,ge1,hb1⟩
 have HS1:=HS.new hE1 ge1 hb1
 refine rs (vB false) (r_assign rfl) ?_
 try simp only [sc0,sc1]
 refine run_nil<|norm_then<|wp_seq ?_
 obtain ⟨v1,H1,H⟩:=of_bind H
 refine drawn_lazy [.ex (NewMap w1 (vI) e_ctf_shape v1), .eq (vP b1 0), .eq (vI a0.vKind), .eq (Value.tuple #[Value.agg #[vB (((mfind ieq v1 a0.vKind).getD z_ctf_shape).vname),vB (((mfind ieq v1 a0.vKind).getD z_ctf_shape).vint),vB (((mfind ieq v1 a0.vKind).getD z_ctf_shape).vref),vB (((mfind ieq v1 a0.vKind).getD z_ctf_shape).vn),vB (((mfind ieq v1 a0.vKind).getD z_ctf_shape).vfields)],vB ((mfind ieq v1 a0.vKind).isSome)]), .eq (Value.tuple #[Value.agg #[vB (((mfind ieq v1 a0.vKind).getD z_ctf_shape).vname),vB (((mfind ieq v1 a0.vKind).getD z_ctf_shape).vint),vB (((mfind ieq v1 a0.vKind).getD z_ctf_shape).vref),vB (((mfind ieq v1 a0.vKind).getD z_ctf_shape).vn),vB (((mfind ieq v1 a0.vKind).getD z_ctf_shape).vfields)],vB ((mfind ieq v1 a0.vKind).isSome)]), .eq (Value.agg #[vB (((mfind ieq v1 a0.vKind).getD z_ctf_shape).vname),vB (((mfind ieq v1 a0.vKind).getD z_ctf_shape).vint),vB (((mfind ieq v1 a0.vKind).getD z_ctf_shape).vref),vB (((mfind ieq v1 a0.vKind).getD z_ctf_shape).vn),vB (((mfind ieq v1 a0.vKind).getD z_ctf_shape).vfields)]), .eq (vB ((mfind ieq v1 a0.vKind).isSome)), .ex (NewBox w1 #[vB false,vB false,vB false,vB false,vB false] 171)] [11,12,13,14,10,15,16,5] 6 16 (vB ((mfind ieq v1 a0.vKind).isSome)) _ _ hmix (by kernel_rfl) rfl rfl rfl rfl rfl (stable_ex NewMap.stable (stable_eq (stable_eq (stable_eq (stable_eq (stable_eq (stable_eq (stable_ex NewBox.stable stable_nil)))))))) ⟨ob_plain rfl (fun a' w' hE hk=>by have HSd:=HS1.step hE;exact does_call Tryd.call116 rfl (map_in hE (ctf_shapes.calls HSd.sees H1)) rfl),ob_plain rfl (fun a' w' hE hk=>by have HSd:=HS1.step hE;exact does_eq (r_fieldBox (n:=1) (o':=0) (show _=vP b1 0 from hk 2 rfl) Tryd.runUnderlying34 rfl Tryd.sizeOf3 (by decide) rfl)),ob_plain rfl (fun a' w' hE hk=>by have HSd:=HS1.step hE;exact does_eq (r_loadBox (show _=vP b1 0 from hk 12 rfl) Tryd.isAgg3 (HSd.look 0 rfl) rfl)),ob_plain rfl (fun a' w' hE hk=>by obtain ⟨_,_,_,e11,_,hb11,ho11⟩:=hk 11 rfl;have HSd:=HS1.step hE;exact does_eq (r_mget2 (key_int Tryd.runUnderlying3) (k:=a0.vKind) (m:=v1) (ev:=e_ctf_shape) z_ctf_shape e11 (show _=vI a0.vKind from hk 13 rfl) Tryd.runUnderlying172 Tryd.zeroValue171 hb11 ho11)),ob_plain rfl (fun a' w' hE hk=>by have HSd:=HS1.step hE;exact does_eq (r_move (show _=Value.tuple #[Value.agg #[vB (((mfind ieq v1 a0.vKind).getD z_ctf_shape).vname),vB (((mfind ieq v1 a0.vKind).getD z_ctf_shape).vint),vB (((mfind ieq v1 a0.vKind).getD z_ctf_shape).vref),vB (((mfind ieq v1 a0.vKind).getD z_ctf_shape).vn),vB (((mfind ieq v1 a0.vKind).getD z_ctf_shape).vfields)],vB ((mfind ieq v1 a0.vKind).isSome)] from hk 14 rfl))),ob_plain rfl (fun a' w' hE hk=>by have HSd:=HS1.step hE;exact does_eq (r_extract (show _=Value.tuple #[Value.agg #[vB (((mfind ieq v1 a0.vKind).getD z_ctf_shape).vname),vB (((mfind ieq v1 a0.vKind).getD z_ctf_shape).vint),vB (((mfind ieq v1 a0.vKind).getD z_ctf_shape).vref),vB (((mfind ieq v1 a0.vKind).getD z_ctf_shape).vn),vB (((mfind ieq v1 a0.vKind).getD z_ctf_shape).vfields)],vB ((mfind ieq v1 a0.vKind).isSome)] from hk 10 rfl) rfl)),ob_plain rfl (fun a' w' hE hk=>by have HSd:=HS1.step hE;exact does_eq (r_extract (show _=Value.tuple #[Value.agg #[vB (((mfind ieq v1 a0.vKind).getD z_ctf_shape).vname),vB (((mfind ieq v1 a0.vKind).getD z_ctf_shape).vint),vB (((mfind ieq v1 a0.vKind).getD z_ctf_shape).vref),vB (((mfind ieq v1 a0.vKind).getD z_ctf_shape).vn),vB (((mfind ieq v1 a0.vKind).getD z_ctf_shape).vfields)],vB ((mfind ieq v1 a0.vKind).isSome)] from hk 10 rfl) rfl)),ob_plain rfl (fun a' w' hE hk=>(alloc_in hE (cs:=#[vB false,vB false,vB false,vB false,vB false]) Tryd.zeroValue171 rfl)),trivial⟩ ?_
 intro w2 hE2
 simp only [List.zip_cons_cons,List.zip_nil_left,List.zip_nil_right,finL,sc0,sc1,List.length_cons,List.length_nil,List.drop_succ_cons,List.drop_zero,Nat.zero_add,Nat.reduceAdd]
 rintro _ ⟨b3,es1,cl1,rfl,ge3,hb3,ho1⟩
 rintro _ ⟨b2,rfl,ge2,hb2⟩
 have HS2:=HS1.two hE2 ge3 hb3 ge2 hb2 (fun e=>by subst e;rw [hb3] at hb2;cases hb2)
 refine lazy_st (i:=0) (cs:=[vB false,vB false,vB false,vB false,vB false]) (cs':=[vB (((mfind ieq v1 a0.vKind).getD z_ctf_shape).vname),vB (((mfind ieq v1 a0.vKind).getD z_ctf_shape).vint),vB (((mfind ieq v1 a0.vKind).getD z_ctf_shape).vref),vB (((mfind ieq v1 a0.vKind).getD z_ctf_shape).vn),vB (((mfind ieq v1 a0.vKind).getD z_ctf_shape).vfields)]) (vs:=[vB (((mfind ieq v1 a0.vKind).getD z_ctf_shape).vname),vB (((mfind ieq v1 a0.vKind).getD z_ctf_shape).vint),vB (((mfind ieq v1 a0.vKind).getD z_ctf_shape).vref),vB (((mfind ieq v1 a0.vKind).getD z_ctf_shape).vn),vB (((mfind ieq v1 a0.vKind).getD z_ctf_shape).vfields)]) (bs':=[(some b2, .cells #[vB (((mfind ieq v1 a0.vKind).getD z_ctf_shape).vname),vB (((mfind ieq v1 a0.vKind).getD z_ctf_shape).vint),vB (((mfind ieq v1 a0.vKind).getD z_ctf_shape).vref),vB (((mfind ieq v1 a0.vKind).getD z_ctf_shape).vn),vB (((mfind ieq v1 a0.vKind).getD z_ctf_shape).vfields)] 171 (0,0)),(some b3, .map es1 cl1),(some b1, .cells #[vI a0.vKind,vS a0.vName,vI a0.vInt.vSize,vB a0.vInt.vSigned,vI a0.vRef,vI a0.vN,vL A0_6 a0.vFields.length c0_6] 34 (0,0))]) (fun _=>rfl) (fun _=>rfl) Tryd.sizeOf171 rfl rfl (by decide) rfl HS2 rfl (Nat.le_of_ble_eq_true rfl) rfl rfl rfl (Nat.le_of_ble_eq_true rfl) (fun w2 HSl u=>(r_extract rfl rfl)) rfl ?_
 intro w3 HS3
 refine rs (vB ((mfind ieq v1 a0.vKind).isSome)) (r_assign rfl) ?_
 try simp only [sc0,sc1]
 refine run_nil<|norm_then<|wp_seq<|wp_block<|wp_seq<|wp_seq<|region<|rs (vB ((mfind ieq v1 a0.vKind).isSome)) (r_move rfl)<|rs (vB (!((mfind ieq v1 a0.vKind).isSome))) (r_not rfl)<|rs (vB (!((mfind ieq v1 a0.vKind).isSome))) (r_assign rfl) ?_
 try simp only [sc0,sc1]
 refine run_nil<|norm_then ?_
 obtain ⟨xx1,H,G1⟩:=of_bind H
 refine cut_patch [17,20,21,22,23,24,25,26,27,28,29,30,31,32,33,34,35] (fun us w'=>Fit us (fun uj1=>[vB xx1,(uj1 1),(uj1 2),(uj1 3),(uj1 4),(uj1 5),(uj1 6),(uj1 7),(uj1 8),(uj1 9),(uj1 10),(uj1 11),(uj1 12),(uj1 13),(uj1 14),(uj1 15),(uj1 16)])∧St [] h0 w0 h0 [(some b2, .cells #[vB (((mfind ieq v1 a0.vKind).getD z_ctf_shape).vname),vB (((mfind ieq v1 a0.vKind).getD z_ctf_shape).vint),vB (((mfind ieq v1 a0.vKind).getD z_ctf_shape).vref),vB (((mfind ieq v1 a0.vKind).getD z_ctf_shape).vn),vB (((mfind ieq v1 a0.vKind).getD z_ctf_shape).vfields)] 171 (0,0)),(some b3, .map es1 cl1),(some b1, .cells #[vI a0.vKind,vS a0.vName,vI a0.vInt.vSize,vB a0.vInt.vSigned,vI a0.vRef,vI a0.vN,vL A0_6 a0.vFields.length c0_6] 34 (0,0))] w') ?_ ?_
 ·refine wp_cond_split (t:=(!((mfind ieq v1 a0.vKind).isSome))) rfl (fun c1=>?_) (fun c1=>?_)
  ·replace H:=of_pos H c1
   refine wp_skip ?_
   obtain rfl:=Option.some.inj H
   refine met_j rfl ⟨(fit rfl),HS3⟩
  ·replace H:=of_neg H (nt c1)
   refine wp_seq<|region<|rs (vP b2 0) (r_fieldBox (n:=1) (o':=0) rfl Tryd.runUnderlying171 rfl Tryd.sizeOf4 (by decide) rfl)<|rs (vB (((mfind ieq v1 a0.vKind).getD z_ctf_shape).vname)) (r_loadBox rfl Tryd.isAgg4 (HS3.look 0 rfl) rfl)<|rs (vB (((mfind ieq v1 a0.vKind).getD z_ctf_shape).vname)) (r_move rfl)<|rgs (((mfind ieq v1 a0.vKind).getD z_ctf_shape).vname) true (vP b1 1) rfl rfl rfl rfl (fun hg=>(r_fieldBox (n:=1) (o':=1) rfl Tryd.runUnderlying34 rfl Tryd.sizeOf9 (by decide) rfl))<|run_frame (by simp only [sc0,sc1];rfl) ?_
   refine rgs (((mfind ieq v1 a0.vKind).getD z_ctf_shape).vname) true (vS a0.vName) rfl rfl rfl rfl (fun hg=>(r_loadBox (gvt (vP b1 1) hg rfl) Tryd.isAgg9 (HS3.look 2 rfl) rfl)) ?_
   obtain ⟨v2,H2,H⟩:=of_bind H
   refine run_g (b:=((mfind ieq v1 a0.vKind).getD z_ctf_shape).vname) (c:=true) (v:=vB v2) rfl rfl rfl rfl (fun hg=>(does_call_eq Tryd.call118 rfl (map1 (gvt (vS a0.vName) hg rfl)) (ctf_isName.calls k a0.vName HS3.sees (of_pos H2 hg)))) ?_
   intro w4 hE3
   have HS4:=HS3.step hE3
   refine rgs (((mfind ieq v1 a0.vKind).getD z_ctf_shape).vname) true (vB (!v2)) rfl rfl rfl rfl (fun hg=>(r_not (gvt (vB v2) hg rfl)))<|rs (vB (((mfind ieq v1 a0.vKind).getD z_ctf_shape).vname&&(!v2))) (r_pick_and rfl (fun hp=>(gvt (vB (!v2)) (and_i rfl hp) rfl)) rfl)<|run_frame (by simp only [sc0,sc1];rfl) ?_
   refine rs (vB (((mfind ieq v1 a0.vKind).getD z_ctf_shape).vname&&(!v2))) (r_assign rfl) ?_
   try simp only [sc0,sc1]
   refine run_nil<|norm_then<|wp_cond_split (t:=(((mfind ieq v1 a0.vKind).getD z_ctf_shape).vname&&(!v2))) rfl (fun c2=>?_) (fun c2=>?_)
   ·replace H:=of_pos H c2
    refine wp_skip ?_
    obtain rfl:=Option.some.inj H
    refine met_j rfl ⟨(fit rfl),HS4⟩
   ·replace H:=of_neg H (nt c2)
    refine region<|rs (vP b2 0) (r_fieldBox (n:=1) (o':=0) rfl Tryd.runUnderlying171 rfl Tryd.sizeOf4 (by decide) rfl)<|rs (vB (((mfind ieq v1 a0.vKind).getD z_ctf_shape).vname)) (r_loadBox rfl Tryd.isAgg4 (HS4.look 0 rfl) rfl)<|rs (vB (!(((mfind ieq v1 a0.vKind).getD z_ctf_shape).vname))) (r_not rfl)<|rs (vB (!(((mfind ieq v1 a0.vKind).getD z_ctf_shape).vname))) (r_move rfl)<|run_frame (by simp only [sc0,sc1];rfl) ?_
    refine rgs (!(((mfind ieq v1 a0.vKind).getD z_ctf_shape).vname)) true (vP b1 1) rfl rfl rfl rfl (fun hg=>(r_fieldBox (n:=1) (o':=1) rfl Tryd.runUnderlying34 rfl Tryd.sizeOf9 (by decide) rfl))<|rgs (!(((mfind ieq v1 a0.vKind).getD z_ctf_shape).vname)) true (vS a0.vName) rfl rfl rfl rfl (fun hg=>(r_loadBox (gvt (vP b1 1) hg rfl) Tryd.isAgg9 (HS4.look 2 rfl) rfl))<|rgs (!(((mfind ieq v1 a0.vKind).getD z_ctf_shape).vname)) true (vB (!(strEq a0.vName ByteArray.empty))) rfl rfl rfl rfl (fun hg=>(r_strneq (gvt (vS a0.vName) hg rfl) rfl))<|rs (vB ((!(((mfind ieq v1 a0.vKind).getD z_ctf_shape).vname))&&(!(strEq a0.vName ByteArray.empty)))) (r_pick_and rfl (fun hp=>(gvt (vB (!(strEq a0.vName ByteArray.empty))) (and_i rfl hp) rfl)) rfl)<|run_frame (by simp only [sc0,sc1];rfl) ?_
    refine rs (vB ((!(((mfind ieq v1 a0.vKind).getD z_ctf_shape).vname))&&(!(strEq a0.vName ByteArray.empty)))) (r_assign rfl) ?_
    try simp only [sc0,sc1]
    refine run_nil ?_
    obtain rfl:=Option.some.inj H
    refine met_j rfl ⟨(fit rfl),HS4⟩
 ·rintro us w5 ⟨huj1,HS5⟩
  obtain ⟨uj1,rfl⟩:=unj huj1
  replace H:=G1
  clear G1
  try simp only [patch,sc0,sc1]
  refine wp_cond_split (t:=xx1) rfl (fun c3=>?_) (fun c3=>?_)
  ·replace H:=of_pos H c3
   refine wp_seq<|region<|rs (vB false) (r_assign rfl) ?_
   try simp only [sc0,sc1]
   refine run_nil<|norm_then<|wp_ret<|ret_block<|ret_then ?_
   obtain rfl:=Option.some.inj H
   exact bodyPost_ret (results_1 rfl (one_tmp rfl)) rfl<|⟨rfl,HS5.toE⟩
  ·replace H:=of_neg H (nt c3)
   refine wp_seq<|wp_seq<|region<|rs (vP b2 1) (r_fieldBox (n:=1) (o':=1) rfl Tryd.runUnderlying171 rfl Tryd.sizeOf4 (by decide) rfl)<|rs (vB (((mfind ieq v1 a0.vKind).getD z_ctf_shape).vint)) (r_loadBox rfl Tryd.isAgg4 (HS5.look 0 rfl) rfl)<|rs (vB (((mfind ieq v1 a0.vKind).getD z_ctf_shape).vint)) (r_move rfl)<|rgs (((mfind ieq v1 a0.vKind).getD z_ctf_shape).vint) true (vP b1 2) rfl rfl rfl rfl (fun hg=>(r_fieldBox (n:=2) (o':=2) rfl Tryd.runUnderlying34 rfl Tryd.sizeOf31 (by decide) rfl))<|run_frame (by simp only [sc0,sc1];rfl) ?_
   refine rgs (((mfind ieq v1 a0.vKind).getD z_ctf_shape).vint) true (Value.agg #[vI a0.vInt.vSize,vB a0.vInt.vSigned]) rfl rfl rfl rfl (fun hg=>(r_loadBoxAgg (n:=2) (vs:=[vI a0.vInt.vSize,vB a0.vInt.vSigned]) (gvt (vP b1 2) hg rfl) Tryd.isAgg31 (HS5.look 2 rfl) Tryd.sizeOf31 rfl rfl)) ?_
   obtain ⟨v3,H3,H⟩:=of_bind H
   refine run_g (b:=((mfind ieq v1 a0.vKind).getD z_ctf_shape).vint) (c:=true) (v:=vI v3) rfl rfl rfl rfl (fun hg=>(does_call_eq Tryd.call119 rfl (map1 (gvt (Value.agg #[vI a0.vInt.vSize,vB a0.vInt.vSigned]) hg rfl)) (bits_Check.calls a0.vInt HS5.sees (of_pos H3 hg)))) ?_
   intro w6 hE4
   have HS6:=HS5.step hE4
   refine rgs (((mfind ieq v1 a0.vKind).getD z_ctf_shape).vint) true (vB (v3 !=0)) rfl rfl rfl rfl (fun hg=>(r_bin (gvt (vI v3) hg rfl) rfl rfl))<|rs (vB (((mfind ieq v1 a0.vKind).getD z_ctf_shape).vint&&(v3 !=0))) (r_pick_and rfl (fun hp=>(gvt (vB (v3 !=0)) (and_i rfl hp) rfl)) rfl)<|run_frame (by simp only [sc0,sc1];rfl) ?_
   refine rs (vB (((mfind ieq v1 a0.vKind).getD z_ctf_shape).vint&&(v3 !=0))) (r_assign rfl) ?_
   try simp only [sc0,sc1]
   refine run_nil<|norm_then ?_
   obtain ⟨xx2,H,G2⟩:=of_bind H
   refine cut_patch [36,45,46,47,48,49,50,51,52,53] (fun us w'=>Fit us (fun uj2=>[vB xx2,(uj2 1),(uj2 2),(uj2 3),(uj2 4),(uj2 5),(uj2 6),(uj2 7),(uj2 8),(uj2 9)])∧St [] h0 w0 h0 [(some b2, .cells #[vB (((mfind ieq v1 a0.vKind).getD z_ctf_shape).vname),vB (((mfind ieq v1 a0.vKind).getD z_ctf_shape).vint),vB (((mfind ieq v1 a0.vKind).getD z_ctf_shape).vref),vB (((mfind ieq v1 a0.vKind).getD z_ctf_shape).vn),vB (((mfind ieq v1 a0.vKind).getD z_ctf_shape).vfields)] 171 (0,0)),(some b3, .map es1 cl1),(some b1, .cells #[vI a0.vKind,vS a0.vName,vI a0.vInt.vSize,vB a0.vInt.vSigned,vI a0.vRef,vI a0.vN,vL A0_6 a0.vFields.length c0_6] 34 (0,0))] w') ?_ ?_
   ·refine wp_cond_split (t:=(((mfind ieq v1 a0.vKind).getD z_ctf_shape).vint&&(v3 !=0))) rfl (fun c4=>?_) (fun c4=>?_)
    ·replace H:=of_pos H c4
     refine wp_skip ?_
     obtain rfl:=Option.some.inj H
     refine met_j rfl ⟨(fit rfl),HS6⟩
    ·replace H:=of_neg H (nt c4)
     refine region<|rs (vP b2 1) (r_fieldBox (n:=1) (o':=1) rfl Tryd.runUnderlying171 rfl Tryd.sizeOf4 (by decide) rfl)<|rs (vB (((mfind ieq v1 a0.vKind).getD z_ctf_shape).vint)) (r_loadBox rfl Tryd.isAgg4 (HS6.look 0 rfl) rfl)<|rs (vB (!(((mfind ieq v1 a0.vKind).getD z_ctf_shape).vint))) (r_not rfl)<|rs (vB (!(((mfind ieq v1 a0.vKind).getD z_ctf_shape).vint))) (r_move rfl)<|run_frame (by simp only [sc0,sc1];rfl) ?_
     refine rgs (!(((mfind ieq v1 a0.vKind).getD z_ctf_shape).vint)) true (vP b1 2) rfl rfl rfl rfl (fun hg=>(r_fieldBox (n:=2) (o':=2) rfl Tryd.runUnderlying34 rfl Tryd.sizeOf31 (by decide) rfl))<|rgs (!(((mfind ieq v1 a0.vKind).getD z_ctf_shape).vint)) true (Value.agg #[vI a0.vInt.vSize,vB a0.vInt.vSigned]) rfl rfl rfl rfl (fun hg=>(r_loadBoxAgg (n:=2) (vs:=[vI a0.vInt.vSize,vB a0.vInt.vSigned]) (gvt (vP b1 2) hg rfl) Tryd.isAgg31 (HS6.look 2 rfl) Tryd.sizeOf31 rfl rfl))<|rgs (!(((mfind ieq v1 a0.vKind).getD z_ctf_shape).vint)) true (Value.agg #[vI 0,vB false]) rfl rfl rfl rfl (fun hg=>(r_build0 (cs:=[vI 0,vB false]) Tryd.zeroValue31 Tryd.runUnderlying31 (pl:=#[(0,1),(1,1)]) (fun w=>by simp [Tryd.sizeOf3,Tryd.sizeOf4]) rfl)) ?_
     refine rgs (!(((mfind ieq v1 a0.vKind).getD z_ctf_shape).vint)) true (vB (!((a0.vInt.vSize==0)&&((a0.vInt.vSigned==false)&&true)))) rfl rfl rfl rfl (fun hg=>(r_aggneq (gvt (Value.agg #[vI a0.vInt.vSize,vB a0.vInt.vSigned]) hg rfl) (gvt (Value.agg #[vI 0,vB false]) hg rfl) Tryd.eqGuardType31 (eqr_agg Tryd.stoodInHeld31 Tryd.underlying31 (eqf_cons (by decide) (part_one Tryd.isAgg3 rfl) (part_one Tryd.isAgg3 rfl) (eqr_int Tryd.underlying3) (eqf_cons (by decide) (part_one Tryd.isAgg4 rfl) (part_one Tryd.isAgg4 rfl) (eqr_bool Tryd.underlying4) eqf_nil)))))<|run_frame (by simp only [sc0,sc1];rfl) ?_
     refine rs (vB ((!(((mfind ieq v1 a0.vKind).getD z_ctf_shape).vint))&&(!((a0.vInt.vSize==0)&&((a0.vInt.vSigned==false)&&true))))) (r_pick_and rfl (fun hp=>(gvt (vB (!((a0.vInt.vSize==0)&&((a0.vInt.vSigned==false)&&true)))) (and_i rfl hp) rfl)) rfl)<|rs (vB ((!(((mfind ieq v1 a0.vKind).getD z_ctf_shape).vint))&&(!((a0.vInt.vSize==0)&&((a0.vInt.vSigned==false)&&true))))) (r_assign rfl) ?_
     try simp only [sc0,sc1]
     refine run_nil ?_
     obtain rfl:=Option.some.inj H
     refine met_j rfl ⟨(fit rfl),HS6⟩
   ·rintro us w7 ⟨huj2,HS7⟩
    obtain ⟨uj2,rfl⟩:=unj huj2
    replace H:=G2
    clear G2
    try simp only [patch,sc0,sc1]
    refine wp_cond_split (t:=xx2) rfl (fun c5=>?_) (fun c5=>?_)
    ·replace H:=of_pos H c5
     refine wp_seq<|region<|rs (vB false) (r_assign rfl) ?_
     try simp only [sc0,sc1]
     refine run_nil<|norm_then<|wp_ret<|ret_block<|ret_then ?_
     obtain rfl:=Option.some.inj H
     exact bodyPost_ret (results_1 rfl (one_tmp rfl)) rfl<|⟨rfl,HS7.toE⟩
    ·replace H:=of_neg H (nt c5)
     refine wp_seq<|wp_seq<|region<|rs (vP b2 2) (r_fieldBox (n:=1) (o':=2) rfl Tryd.runUnderlying171 rfl Tryd.sizeOf4 (by decide) rfl)<|rs (vB (((mfind ieq v1 a0.vKind).getD z_ctf_shape).vref)) (r_loadBox rfl Tryd.isAgg4 (HS7.look 0 rfl) rfl)<|rs (vB (((mfind ieq v1 a0.vKind).getD z_ctf_shape).vref)) (r_move rfl)<|rgs (((mfind ieq v1 a0.vKind).getD z_ctf_shape).vref) true (vP b1 4) rfl rfl rfl rfl (fun hg=>(r_fieldBox (n:=1) (o':=4) rfl Tryd.runUnderlying34 rfl Tryd.sizeOf3 (by decide) rfl))<|run_frame (by simp only [sc0,sc1];rfl) ?_
     refine rgs (((mfind ieq v1 a0.vKind).getD z_ctf_shape).vref) true (vI a0.vRef) rfl rfl rfl rfl (fun hg=>(r_loadBox (gvt (vP b1 4) hg rfl) Tryd.isAgg3 (HS7.look 2 rfl) rfl))<|rgs (((mfind ieq v1 a0.vKind).getD z_ctf_shape).vref) true (vB (decide (a0.vRef<0))) rfl rfl rfl rfl (fun hg=>(r_bin (gvt (vI a0.vRef) hg rfl) rfl rfl))<|rgs (((mfind ieq v1 a0.vKind).getD z_ctf_shape).vref) true (vB (decide (a0.vRef<0))) rfl rfl rfl rfl (fun hg=>(r_move (gvt (vB (decide (a0.vRef<0))) hg rfl)))<|rgs (decide (a0.vRef<0)) (true&&(((mfind ieq v1 a0.vKind).getD z_ctf_shape).vref==true)) (vP b1 4) rfl rfl rfl rfl (fun hg=>(r_fieldBox (n:=1) (o':=4) rfl Tryd.runUnderlying34 rfl Tryd.sizeOf3 (by decide) rfl))<|run_frame (by simp only [sc0,sc1];rfl) ?_
     refine rgs (decide (a0.vRef<0)) (true&&(((mfind ieq v1 a0.vKind).getD z_ctf_shape).vref==true)) (vI a0.vRef) rfl rfl rfl rfl (fun hg=>(r_loadBox (gvt (vP b1 4) hg rfl) Tryd.isAgg3 (HS7.look 2 rfl) rfl))<|rgs (decide (a0.vRef<0)) (true&&(((mfind ieq v1 a0.vKind).getD z_ctf_shape).vref==true)) (vI a1) rfl rfl rfl rfl (fun hg=>(r_move rfl))<|rgs (decide (a0.vRef<0)) (true&&(((mfind ieq v1 a0.vKind).getD z_ctf_shape).vref==true)) (vB (decide (a0.vRef≥a1))) rfl rfl rfl rfl (fun hg=>(r_bin (gvt (vI a0.vRef) hg rfl) (gvt (vI a1) hg rfl) rfl))<|rgs (((mfind ieq v1 a0.vKind).getD z_ctf_shape).vref) true (vB ((decide (a0.vRef<0))||(decide (a0.vRef≥a1)))) rfl rfl rfl rfl (fun hg=>(r_pick_or (gvt (vB (decide (a0.vRef<0))) hg rfl) rfl (fun hp=>(gvt (vB (decide (a0.vRef≥a1))) (and_i hg hp) rfl))))<|run_frame (by simp only [sc0,sc1];rfl) ?_
     refine rs (vB (((mfind ieq v1 a0.vKind).getD z_ctf_shape).vref&&((decide (a0.vRef<0))||(decide (a0.vRef≥a1))))) (r_pick_and rfl (fun hp=>(gvt (vB ((decide (a0.vRef<0))||(decide (a0.vRef≥a1)))) (and_i rfl hp) rfl)) rfl)<|rs (vB (((mfind ieq v1 a0.vKind).getD z_ctf_shape).vref&&((decide (a0.vRef<0))||(decide (a0.vRef≥a1))))) (r_assign rfl) ?_
     try simp only [sc0,sc1]
     refine run_nil<|norm_then ?_
     obtain ⟨xx3,H,G3⟩:=of_bind H
     refine cut_patch [54,68,69,70,71,72,73,74,75] (fun us w'=>Fit us (fun uj3=>[vB xx3,(uj3 1),(uj3 2),(uj3 3),(uj3 4),(uj3 5),(uj3 6),(uj3 7),(uj3 8)])∧St [] h0 w0 h0 [(some b2, .cells #[vB (((mfind ieq v1 a0.vKind).getD z_ctf_shape).vname),vB (((mfind ieq v1 a0.vKind).getD z_ctf_shape).vint),vB (((mfind ieq v1 a0.vKind).getD z_ctf_shape).vref),vB (((mfind ieq v1 a0.vKind).getD z_ctf_shape).vn),vB (((mfind ieq v1 a0.vKind).getD z_ctf_shape).vfields)] 171 (0,0)),(some b3, .map es1 cl1),(some b1, .cells #[vI a0.vKind,vS a0.vName,vI a0.vInt.vSize,vB a0.vInt.vSigned,vI a0.vRef,vI a0.vN,vL A0_6 a0.vFields.length c0_6] 34 (0,0))] w') ?_ ?_
     ·refine wp_cond_split (t:=(((mfind ieq v1 a0.vKind).getD z_ctf_shape).vref&&((decide (a0.vRef<0))||(decide (a0.vRef≥a1))))) rfl (fun c6=>?_) (fun c6=>?_)
      ·replace H:=of_pos H c6
       refine wp_skip ?_
       obtain rfl:=Option.some.inj H
       refine met_j rfl ⟨(fit rfl),HS7⟩
      ·replace H:=of_neg H (nt c6)
       refine region<|rs (vP b2 2) (r_fieldBox (n:=1) (o':=2) rfl Tryd.runUnderlying171 rfl Tryd.sizeOf4 (by decide) rfl)<|rs (vB (((mfind ieq v1 a0.vKind).getD z_ctf_shape).vref)) (r_loadBox rfl Tryd.isAgg4 (HS7.look 0 rfl) rfl)<|rs (vB (!(((mfind ieq v1 a0.vKind).getD z_ctf_shape).vref))) (r_not rfl)<|rs (vB (!(((mfind ieq v1 a0.vKind).getD z_ctf_shape).vref))) (r_move rfl)<|run_frame (by simp only [sc0,sc1];rfl) ?_
       refine rgs (!(((mfind ieq v1 a0.vKind).getD z_ctf_shape).vref)) true (vP b1 4) rfl rfl rfl rfl (fun hg=>(r_fieldBox (n:=1) (o':=4) rfl Tryd.runUnderlying34 rfl Tryd.sizeOf3 (by decide) rfl))<|rgs (!(((mfind ieq v1 a0.vKind).getD z_ctf_shape).vref)) true (vI a0.vRef) rfl rfl rfl rfl (fun hg=>(r_loadBox (gvt (vP b1 4) hg rfl) Tryd.isAgg3 (HS7.look 2 rfl) rfl))<|rgs (!(((mfind ieq v1 a0.vKind).getD z_ctf_shape).vref)) true (vB (a0.vRef !=0)) rfl rfl rfl rfl (fun hg=>(r_bin (gvt (vI a0.vRef) hg rfl) rfl rfl))<|rs (vB ((!(((mfind ieq v1 a0.vKind).getD z_ctf_shape).vref))&&(a0.vRef !=0))) (r_pick_and rfl (fun hp=>(gvt (vB (a0.vRef !=0)) (and_i rfl hp) rfl)) rfl)<|run_frame (by simp only [sc0,sc1];rfl) ?_
       refine rs (vB ((!(((mfind ieq v1 a0.vKind).getD z_ctf_shape).vref))&&(a0.vRef !=0))) (r_assign rfl) ?_
       try simp only [sc0,sc1]
       refine run_nil ?_
       obtain rfl:=Option.some.inj H
       refine met_j rfl ⟨(fit rfl),HS7⟩
     ·rintro us w8 ⟨huj3,HS8⟩
      obtain ⟨uj3,rfl⟩:=unj huj3
      replace H:=G3
      clear G3
      try simp only [patch,sc0,sc1]
      refine wp_cond_split (t:=xx3) rfl (fun c7=>?_) (fun c7=>?_)
      ·replace H:=of_pos H c7
       refine wp_seq<|region<|rs (vB false) (r_assign rfl) ?_
       try simp only [sc0,sc1]
       refine run_nil<|norm_then<|wp_ret<|ret_block<|ret_then ?_
       obtain rfl:=Option.some.inj H
       exact bodyPost_ret (results_1 rfl (one_tmp rfl)) rfl<|⟨rfl,HS8.toE⟩
      ·replace H:=of_neg H (nt c7)
       refine wp_seq<|wp_seq<|region<|rs (vP b2 3) (r_fieldBox (n:=1) (o':=3) rfl Tryd.runUnderlying171 rfl Tryd.sizeOf4 (by decide) rfl)<|rs (vB (((mfind ieq v1 a0.vKind).getD z_ctf_shape).vn)) (r_loadBox rfl Tryd.isAgg4 (HS8.look 0 rfl) rfl)<|rs (vB (((mfind ieq v1 a0.vKind).getD z_ctf_shape).vn)) (r_move rfl)<|rgs (((mfind ieq v1 a0.vKind).getD z_ctf_shape).vn) true (vP b1 5) rfl rfl rfl rfl (fun hg=>(r_fieldBox (n:=1) (o':=5) rfl Tryd.runUnderlying34 rfl Tryd.sizeOf3 (by decide) rfl))<|run_frame (by simp only [sc0,sc1];rfl) ?_
       refine rgs (((mfind ieq v1 a0.vKind).getD z_ctf_shape).vn) true (vI a0.vN) rfl rfl rfl rfl (fun hg=>(r_loadBox (gvt (vP b1 5) hg rfl) Tryd.isAgg3 (HS8.look 2 rfl) rfl))<|rgs (((mfind ieq v1 a0.vKind).getD z_ctf_shape).vn) true (vB (decide (a0.vN<1))) rfl rfl rfl rfl (fun hg=>(r_bin (gvt (vI a0.vN) hg rfl) rfl rfl))<|rgs (((mfind ieq v1 a0.vKind).getD z_ctf_shape).vn) true (vB (decide (a0.vN<1))) rfl rfl rfl rfl (fun hg=>(r_move (gvt (vB (decide (a0.vN<1))) hg rfl)))<|rgs (decide (a0.vN<1)) (true&&(((mfind ieq v1 a0.vKind).getD z_ctf_shape).vn==true)) (vP b1 5) rfl rfl rfl rfl (fun hg=>(r_fieldBox (n:=1) (o':=5) rfl Tryd.runUnderlying34 rfl Tryd.sizeOf3 (by decide) rfl))<|run_frame (by simp only [sc0,sc1];rfl) ?_
       refine rgs (decide (a0.vN<1)) (true&&(((mfind ieq v1 a0.vKind).getD z_ctf_shape).vn==true)) (vI a0.vN) rfl rfl rfl rfl (fun hg=>(r_loadBox (gvt (vP b1 5) hg rfl) Tryd.isAgg3 (HS8.look 2 rfl) rfl))<|rgs (decide (a0.vN<1)) (true&&(((mfind ieq v1 a0.vKind).getD z_ctf_shape).vn==true)) (vB (decide (a0.vN>512))) rfl rfl rfl rfl (fun hg=>(r_bin (gvt (vI a0.vN) hg rfl) rfl rfl))<|rgs (((mfind ieq v1 a0.vKind).getD z_ctf_shape).vn) true (vB ((decide (a0.vN<1))||(decide (a0.vN>512)))) rfl rfl rfl rfl (fun hg=>(r_pick_or (gvt (vB (decide (a0.vN<1))) hg rfl) rfl (fun hp=>(gvt (vB (decide (a0.vN>512))) (and_i hg hp) rfl))))<|rs (vB (((mfind ieq v1 a0.vKind).getD z_ctf_shape).vn&&((decide (a0.vN<1))||(decide (a0.vN>512))))) (r_pick_and rfl (fun hp=>(gvt (vB ((decide (a0.vN<1))||(decide (a0.vN>512)))) (and_i rfl hp) rfl)) rfl)<|run_frame (by simp only [sc0,sc1];rfl) ?_
       refine rs (vB (((mfind ieq v1 a0.vKind).getD z_ctf_shape).vn&&((decide (a0.vN<1))||(decide (a0.vN>512))))) (r_assign rfl) ?_
       try simp only [sc0,sc1]
       refine run_nil<|norm_then ?_
       obtain ⟨xx4,H,G4⟩:=of_bind H
       refine cut_patch [76,89,90,91,92,93,94,95,96] (fun us w'=>Fit us (fun uj4=>[vB xx4,(uj4 1),(uj4 2),(uj4 3),(uj4 4),(uj4 5),(uj4 6),(uj4 7),(uj4 8)])∧St [] h0 w0 h0 [(some b2, .cells #[vB (((mfind ieq v1 a0.vKind).getD z_ctf_shape).vname),vB (((mfind ieq v1 a0.vKind).getD z_ctf_shape).vint),vB (((mfind ieq v1 a0.vKind).getD z_ctf_shape).vref),vB (((mfind ieq v1 a0.vKind).getD z_ctf_shape).vn),vB (((mfind ieq v1 a0.vKind).getD z_ctf_shape).vfields)] 171 (0,0)),(some b3, .map es1 cl1),(some b1, .cells #[vI a0.vKind,vS a0.vName,vI a0.vInt.vSize,vB a0.vInt.vSigned,vI a0.vRef,vI a0.vN,vL A0_6 a0.vFields.length c0_6] 34 (0,0))] w') ?_ ?_
       ·refine wp_cond_split (t:=(((mfind ieq v1 a0.vKind).getD z_ctf_shape).vn&&((decide (a0.vN<1))||(decide (a0.vN>512))))) rfl (fun c8=>?_) (fun c8=>?_)
        ·replace H:=of_pos H c8
         refine wp_skip ?_
         obtain rfl:=Option.some.inj H
         refine met_j rfl ⟨(fit rfl),HS8⟩
        ·replace H:=of_neg H (nt c8)
         refine region<|rs (vP b2 3) (r_fieldBox (n:=1) (o':=3) rfl Tryd.runUnderlying171 rfl Tryd.sizeOf4 (by decide) rfl)<|rs (vB (((mfind ieq v1 a0.vKind).getD z_ctf_shape).vn)) (r_loadBox rfl Tryd.isAgg4 (HS8.look 0 rfl) rfl)<|rs (vB (!(((mfind ieq v1 a0.vKind).getD z_ctf_shape).vn))) (r_not rfl)<|rs (vB (!(((mfind ieq v1 a0.vKind).getD z_ctf_shape).vn))) (r_move rfl)<|run_frame (by simp only [sc0,sc1];rfl) ?_
         refine rgs (!(((mfind ieq v1 a0.vKind).getD z_ctf_shape).vn)) true (vP b1 5) rfl rfl rfl rfl (fun hg=>(r_fieldBox (n:=1) (o':=5) rfl Tryd.runUnderlying34 rfl Tryd.sizeOf3 (by decide) rfl))<|rgs (!(((mfind ieq v1 a0.vKind).getD z_ctf_shape).vn)) true (vI a0.vN) rfl rfl rfl rfl (fun hg=>(r_loadBox (gvt (vP b1 5) hg rfl) Tryd.isAgg3 (HS8.look 2 rfl) rfl))<|rgs (!(((mfind ieq v1 a0.vKind).getD z_ctf_shape).vn)) true (vB (a0.vN !=0)) rfl rfl rfl rfl (fun hg=>(r_bin (gvt (vI a0.vN) hg rfl) rfl rfl))<|rs (vB ((!(((mfind ieq v1 a0.vKind).getD z_ctf_shape).vn))&&(a0.vN !=0))) (r_pick_and rfl (fun hp=>(gvt (vB (a0.vN !=0)) (and_i rfl hp) rfl)) rfl)<|run_frame (by simp only [sc0,sc1];rfl) ?_
         refine rs (vB ((!(((mfind ieq v1 a0.vKind).getD z_ctf_shape).vn))&&(a0.vN !=0))) (r_assign rfl) ?_
         try simp only [sc0,sc1]
         refine run_nil ?_
         obtain rfl:=Option.some.inj H
         refine met_j rfl ⟨(fit rfl),HS8⟩
       ·rintro us w9 ⟨huj4,HS9⟩
        obtain ⟨uj4,rfl⟩:=unj huj4
        replace H:=G4
        clear G4
        try simp only [patch,sc0,sc1]
        refine wp_cond_split (t:=xx4) rfl (fun c9=>?_) (fun c9=>?_)
        ·replace H:=of_pos H c9
         refine wp_seq<|region<|rs (vB false) (r_assign rfl) ?_
         try simp only [sc0,sc1]
         refine run_nil<|norm_then<|wp_ret<|ret_block<|ret_then ?_
         obtain rfl:=Option.some.inj H
         exact bodyPost_ret (results_1 rfl (one_tmp rfl)) rfl<|⟨rfl,HS9.toE⟩
        ·replace H:=of_neg H (nt c9)
         refine wp_seq<|wp_seq<|region<|rs (vP b2 4) (r_fieldBox (n:=1) (o':=4) rfl Tryd.runUnderlying171 rfl Tryd.sizeOf4 (by decide) rfl)<|rs (vB (((mfind ieq v1 a0.vKind).getD z_ctf_shape).vfields)) (r_loadBox rfl Tryd.isAgg4 (HS9.look 0 rfl) rfl)<|rs (vP b1 6) (r_fieldBox (n:=1) (o':=6) rfl Tryd.runUnderlying34 rfl Tryd.sizeOf32 (by decide) rfl)<|rs (vL A0_6 a0.vFields.length c0_6) (r_loadBox rfl Tryd.isAgg32 (HS9.look 2 rfl) rfl)<|run_frame (by simp only [sc0,sc1];rfl) ?_
         refine rs (vI (a0.vFields.length:Int)) (r_len rfl Tryd.runUnderlying32)<|rs (vB (decide ((a0.vFields.length:Int)>0))) (r_bin rfl rfl rfl)<|rs (vB (((mfind ieq v1 a0.vKind).getD z_ctf_shape).vfields !=(decide ((a0.vFields.length:Int)>0)))) (r_boolneq rfl rfl Tryd.runUnderlying4)<|rs (vB (((mfind ieq v1 a0.vKind).getD z_ctf_shape).vfields !=(decide ((a0.vFields.length:Int)>0)))) (r_assign rfl) ?_
         try simp only [sc0,sc1]
         refine run_nil<|norm_then ?_
         obtain ⟨xx5,H,G5⟩:=of_bind H
         refine cut_patch [97,105,106,107,108] (fun us w'=>Fit us (fun uj5=>[vB xx5,(uj5 1),(uj5 2),(uj5 3),(uj5 4)])∧St [] h0 w0 h0 [(some b2, .cells #[vB (((mfind ieq v1 a0.vKind).getD z_ctf_shape).vname),vB (((mfind ieq v1 a0.vKind).getD z_ctf_shape).vint),vB (((mfind ieq v1 a0.vKind).getD z_ctf_shape).vref),vB (((mfind ieq v1 a0.vKind).getD z_ctf_shape).vn),vB (((mfind ieq v1 a0.vKind).getD z_ctf_shape).vfields)] 171 (0,0)),(some b3, .map es1 cl1),(some b1, .cells #[vI a0.vKind,vS a0.vName,vI a0.vInt.vSize,vB a0.vInt.vSigned,vI a0.vRef,vI a0.vN,vL A0_6 a0.vFields.length c0_6] 34 (0,0))] w') ?_ ?_
         ·refine wp_cond_split (t:=(((mfind ieq v1 a0.vKind).getD z_ctf_shape).vfields !=(decide ((a0.vFields.length:Int)>0)))) rfl (fun c10=>?_) (fun c10=>?_)
          ·replace H:=of_pos H c10
           refine wp_skip ?_
           obtain rfl:=Option.some.inj H
           refine met_j rfl ⟨(fit rfl),HS9⟩
          ·replace H:=of_neg H (nt c10)
           refine region<|rs (vP b1 6) (r_fieldBox (n:=1) (o':=6) rfl Tryd.runUnderlying34 rfl Tryd.sizeOf32 (by decide) rfl)<|rs (vL A0_6 a0.vFields.length c0_6) (r_loadBox rfl Tryd.isAgg32 (HS9.look 2 rfl) rfl)<|rs (vI (a0.vFields.length:Int)) (r_len rfl Tryd.runUnderlying32)<|rs (vB (decide ((a0.vFields.length:Int)>32))) (r_bin rfl rfl rfl)<|run_frame (by simp only [sc0,sc1];rfl) ?_
           refine rs (vB (decide ((a0.vFields.length:Int)>32))) (r_assign rfl) ?_
           try simp only [sc0,sc1]
           refine run_nil ?_
           obtain rfl:=Option.some.inj H
           refine met_j rfl ⟨(fit rfl),HS9⟩
         ·rintro us w10 ⟨huj5,HS10⟩
          obtain ⟨uj5,rfl⟩:=unj huj5
          replace H:=G5
          clear G5
          try simp only [patch,sc0,sc1]
          refine wp_cond_split (t:=xx5) rfl (fun c11=>?_) (fun c11=>?_)
          ·replace H:=of_pos H c11
           refine wp_seq<|region<|rs (vB false) (r_assign rfl) ?_
           try simp only [sc0,sc1]
           refine run_nil<|norm_then<|wp_ret<|ret_block<|ret_then ?_
           obtain rfl:=Option.some.inj H
           exact bodyPost_ret (results_1 rfl (one_tmp rfl)) rfl<|⟨rfl,HS10.toE⟩
          ·replace H:=of_neg H (nt c11)
           refine wp_skip<|norm_block<|norm_then<|wp_seq<|region<|run_mkmap HS10 ?_
           intro w11 b4 HS11
           refine rs (Value.map (some b4)) (r_assign rfl) ?_
           try simp only [sc0,sc1]
           refine run_nil<|norm_then<|wp_seq<|wp_seq<|region<|rs (vP b1 6) (r_fieldBox (n:=1) (o':=6) rfl Tryd.runUnderlying34 rfl Tryd.sizeOf32 (by decide) rfl)<|rs (vL A0_6 a0.vFields.length c0_6) (r_loadBox rfl Tryd.isAgg32 (HS11.look 3 rfl) rfl)<|rs (vI (a0.vFields.length:Int)) (r_len rfl Tryd.runUnderlying32)<|rs (vI 0) (r_move rfl) ?_
           try simp only [sc0,sc1]
           refine run_nil<|norm_then ?_
           obtain ⟨xx6,H,G6⟩:=of_bind H
           refine loop_j [4,9,113,114,115,116,117,118,119,120,121,122,123,124,125,126,127,128,129,130,131,132,133,134,135,136,137,138,139,140,141,142,143,144,145,146,147,148,149,150,151,152,153,154,155,156,157,158,159,160,161,162,163,164] (fun m us w'=>∃(y1_0:Int),∃(y1_1:List (ByteArray×Bool)),∃(esy1_1:Array MapEntry) (cly1_1:Nat),Fit us (fun uy1=>[(uy1 0),(uy1 1),vI y1_0,(uy1 3),(uy1 4),(uy1 5),(uy1 6),(uy1 7),(uy1 8),(uy1 9),(uy1 10),(uy1 11),(uy1 12),(uy1 13),(uy1 14),(uy1 15),(uy1 16),(uy1 17),(uy1 18),(uy1 19),(uy1 20),(uy1 21),(uy1 22),(uy1 23),(uy1 24),(uy1 25),(uy1 26),(uy1 27),(uy1 28),(uy1 29),(uy1 30),(uy1 31),(uy1 32),(uy1 33),(uy1 34),(uy1 35),(uy1 36),(uy1 37),(uy1 38),(uy1 39),(uy1 40),(uy1 41),(uy1 42),(uy1 43),(uy1 44),(uy1 45),(uy1 46),(uy1 47),(uy1 48),(uy1 49),(uy1 50),(uy1 51),(uy1 52),(uy1 53)])∧ctf_shaped.l0 k a0 a1 m y1_0 y1_1=some xx6∧MapOk vS vB y1_1 esy1_1 cly1_1∧St [] h0 w0 h0 [(some b4, .map esy1_1 cly1_1),(some b2, .cells #[vB (((mfind ieq v1 a0.vKind).getD z_ctf_shape).vname),vB (((mfind ieq v1 a0.vKind).getD z_ctf_shape).vint),vB (((mfind ieq v1 a0.vKind).getD z_ctf_shape).vref),vB (((mfind ieq v1 a0.vKind).getD z_ctf_shape).vn),vB (((mfind ieq v1 a0.vKind).getD z_ctf_shape).vfields)] 171 (0,0)),(some b3, .map es1 cl1),(some b1, .cells #[vI a0.vKind,vS a0.vName,vI a0.vInt.vSize,vB a0.vInt.vSigned,vI a0.vRef,vI a0.vN,vL A0_6 a0.vFields.length c0_6] 34 (0,0))] w') (fun us w'=>∃(s1:(List (ByteArray×Bool))),xx6= .inr s1∧∃(eso1_0:Array MapEntry) (clo1_0:Nat),Fit us (fun uo1=>[(uo1 0),(uo1 1),(uo1 2),(uo1 3),(uo1 4),(uo1 5),(uo1 6),(uo1 7),(uo1 8),(uo1 9),(uo1 10),(uo1 11),(uo1 12),(uo1 13),(uo1 14),(uo1 15),(uo1 16),(uo1 17),(uo1 18),(uo1 19),(uo1 20),(uo1 21),(uo1 22),(uo1 23),(uo1 24),(uo1 25),(uo1 26),(uo1 27),(uo1 28),(uo1 29),(uo1 30),(uo1 31),(uo1 32),(uo1 33),(uo1 34),(uo1 35),(uo1 36),(uo1 37),(uo1 38),(uo1 39),(uo1 40),(uo1 41),(uo1 42),(uo1 43),(uo1 44),(uo1 45),(uo1 46),(uo1 47),(uo1 48),(uo1 49),(uo1 50),(uo1 51),(uo1 52),(uo1 53)])∧MapOk vS vB s1 eso1_0 clo1_0∧St [] h0 w0 h0 [(some b4, .map eso1_0 clo1_0),(some b2, .cells #[vB (((mfind ieq v1 a0.vKind).getD z_ctf_shape).vname),vB (((mfind ieq v1 a0.vKind).getD z_ctf_shape).vint),vB (((mfind ieq v1 a0.vKind).getD z_ctf_shape).vref),vB (((mfind ieq v1 a0.vKind).getD z_ctf_shape).vn),vB (((mfind ieq v1 a0.vKind).getD z_ctf_shape).vfields)] 171 (0,0)),(some b3, .map es1 cl1),(some b1, .cells #[vI a0.vKind,vS a0.vName,vI a0.vInt.vSize,vB a0.vInt.vSigned,vI a0.vRef,vI a0.vN,vL A0_6 a0.vFields.length c0_6] 34 (0,0))] w') k ⟨0,([]:List (ByteArray×Bool)),#[],0,(fit rfl),H,(MapOk.nil),HS11⟩ ?_ ?_
           ·rintro m us w12 ⟨y1_0,y1_1,esy1_1,cly1_1,huy1,H,hoy1_1,HS12⟩
            obtain ⟨uy1,rfl⟩:=unj huy1
            cases m with
            |zero=>exact absurd H (by simp [ctf_shaped.l0])
            |succ m=>
             rw [ctf_shaped.l0] at H
             try simp only [patch,sc0,sc1]
             refine wp_seq<|region<|rs (vB (decide (y1_0<(a0.vFields.length:Int)))) (r_bin rfl rfl rfl) ?_
             try simp only [sc0,sc1]
             refine run_nil<|norm_then<|wp_seq<|wp_cond_split (t:=(decide (y1_0<(a0.vFields.length:Int)))) rfl (fun c12=>?_) (fun c12=>?_)
             ·replace H:=of_pos H c12
              refine wp_skip<|norm_then<|wp_seq<|wp_block<|wp_seq<|region ?_
              obtain ⟨hi1,H⟩:=of_ite H
              obtain ⟨ad1,e1,hel1⟩:=ld_api_Field hr0_6 hi1.1 hi1.2
              refine rs (Value.pointer (some (Addr.add ad1 (y1_0.toNat*3)))) (r_indexA (sz:=3) rfl e1 rfl hi1.1 hi1.2 Tryd.runUnderlying32 Tryd.sizeOf36)<|rs (Value.agg #[vS ((rd z_api_Field a0.vFields y1_0).vName),vI ((rd z_api_Field a0.vFields y1_0).vType),vI ((rd z_api_Field a0.vFields y1_0).vAt)]) (r_loadAgg rfl Tryd.isAgg36 (hel1.sees HS12.sees) Tryd.sizeOf36)<|run_ex rfl rfl (does_alloc (cs:=#[vS ByteArray.empty,vI 0,vI 0]) Tryd.zeroValue36 rfl) ?_
              rintro w13 _ hE5 ⟨b5,rfl,ge4,hb4⟩
              have HS13:=HS12.new hE5 ge4 hb4
              refine run_st (i:=0) (cs:=[vS ByteArray.empty,vI 0,vI 0]) (cs':=[vS ((rd z_api_Field a0.vFields y1_0).vName),vI ((rd z_api_Field a0.vFields y1_0).vType),vI ((rd z_api_Field a0.vFields y1_0).vAt)]) (vs:=[vS ((rd z_api_Field a0.vFields y1_0).vName),vI ((rd z_api_Field a0.vFields y1_0).vType),vI ((rd z_api_Field a0.vFields y1_0).vAt)]) (bs':=[(some b5, .cells #[vS ((rd z_api_Field a0.vFields y1_0).vName),vI ((rd z_api_Field a0.vFields y1_0).vType),vI ((rd z_api_Field a0.vFields y1_0).vAt)] 36 (0,0)),(some b4, .map esy1_1 cly1_1),(some b2, .cells #[vB (((mfind ieq v1 a0.vKind).getD z_ctf_shape).vname),vB (((mfind ieq v1 a0.vKind).getD z_ctf_shape).vint),vB (((mfind ieq v1 a0.vKind).getD z_ctf_shape).vref),vB (((mfind ieq v1 a0.vKind).getD z_ctf_shape).vn),vB (((mfind ieq v1 a0.vKind).getD z_ctf_shape).vfields)] 171 (0,0)),(some b3, .map es1 cl1),(some b1, .cells #[vI a0.vKind,vS a0.vName,vI a0.vInt.vSize,vB a0.vInt.vSigned,vI a0.vRef,vI a0.vN,vL A0_6 a0.vFields.length c0_6] 34 (0,0))]) rfl rfl Tryd.sizeOf36 rfl rfl (by decide) rfl HS13 rfl (Nat.le_of_ble_eq_true rfl) rfl rfl ?_
              intro w14 HS14
              try simp only [sc0,sc1]
              refine run_nil<|norm_then<|wp_seq<|wp_seq<|region<|rs (vP b5 0) (r_fieldBox (n:=1) (o':=0) rfl Tryd.runUnderlying36 rfl Tryd.sizeOf9 (by decide) rfl)<|rs (vS ((rd z_api_Field a0.vFields y1_0).vName)) (r_loadBox rfl Tryd.isAgg9 (HS14.look 0 rfl) rfl) ?_
              obtain ⟨v4,H4,H⟩:=of_bind H
              refine run_eq (v:=vB v4) rfl rfl (does_call_eq Tryd.call118 rfl rfl (ctf_isName.calls k ((rd z_api_Field a0.vFields y1_0).vName) HS14.sees H4)) ?_
              intro w15 hE6
              have HS15:=HS14.step hE6
              refine rs (vB (!v4)) (r_not rfl)<|run_frame (by simp only [sc0,sc1];rfl) ?_
              refine rs (vB (!v4)) (r_move rfl)<|rgs (!v4) true (Value.map (some b4)) rfl rfl rfl rfl (fun hg=>(r_move rfl))<|rgs (!v4) true (vP b5 0) rfl rfl rfl rfl (fun hg=>(r_fieldBox (n:=1) (o':=0) rfl Tryd.runUnderlying36 rfl Tryd.sizeOf9 (by decide) rfl))<|rgs (!v4) true (vS ((rd z_api_Field a0.vFields y1_0).vName)) rfl rfl rfl rfl (fun hg=>(r_loadBox (gvt (vP b5 0) hg rfl) Tryd.isAgg9 (HS15.look 0 rfl) rfl))<|run_frame (by simp only [sc0,sc1];rfl) ?_
              refine rgs (!v4) true (vB ((mfind strEq y1_1 ((rd z_api_Field a0.vFields y1_0).vName)).getD false)) rfl rfl rfl rfl (fun hg=>(r_mget (key_str Tryd.runUnderlying9) (k:=((rd z_api_Field a0.vFields y1_0).vName)) (m:=y1_1) (ev:=vB) false (gvt (Value.map (some b4)) hg rfl) (gvt (vS ((rd z_api_Field a0.vFields y1_0).vName)) hg rfl) Tryd.runUnderlying150 Tryd.zeroValue4 (HS15.look 1 rfl) hoy1_1))<|rs (vB ((!v4)||((mfind strEq y1_1 ((rd z_api_Field a0.vFields y1_0).vName)).getD false))) (r_pick_or rfl rfl (fun hp=>(gvt (vB ((mfind strEq y1_1 ((rd z_api_Field a0.vFields y1_0).vName)).getD false)) (and_i rfl hp) rfl))) ?_
              try simp only [sc0,sc1]
              refine run_nil<|norm_then<|wp_cond_split (t:=((!v4)||((mfind strEq y1_1 ((rd z_api_Field a0.vFields y1_0).vName)).getD false))) rfl (fun c13=>?_) (fun c13=>?_)
              ·replace H:=of_pos H c13
               refine wp_seq<|region<|rs (vB false) (r_assign rfl) ?_
               try simp only [sc0,sc1]
               refine run_nil<|norm_then<|wp_ret<|ret_then<|ret_block<|ret_then<|ret_loop<|ret_then ?_
               obtain rfl:=Option.some.inj H
               obtain rfl:=Option.some.inj G6
               exact bodyPost_ret (results_1 rfl (one_tmp rfl)) rfl<|⟨rfl,HS15.toE⟩
              ·replace H:=of_neg H (nt c13)
               refine wp_skip<|norm_then<|wp_seq<|region<|rs (Value.map (some b4)) (r_move rfl)<|rs (vP b5 0) (r_fieldBox (n:=1) (o':=0) rfl Tryd.runUnderlying36 rfl Tryd.sizeOf9 (by decide) rfl)<|rs (vS ((rd z_api_Field a0.vFields y1_0).vName)) (r_loadBox rfl Tryd.isAgg9 (HS15.look 0 rfl) rfl)<|mupd (key_str Tryd.runUnderlying9) (i:=1) (k:=((rd z_api_Field a0.vFields y1_0).vName)) (v:=true) (ev:=vB) (m:=y1_1) (by first|exact .inl rfl|exact .inr rfl) rfl rfl rfl rfl rfl Tryd.runUnderlying150 HS15 rfl hoy1_1 ?_
               intro w16 es2 cl2 HS16 ho2
               try simp only [sc0,sc1]
               refine run_nil<|norm_then<|wp_seq<|region<|rs (vP b1 0) (r_fieldBox (n:=1) (o':=0) rfl Tryd.runUnderlying34 rfl Tryd.sizeOf3 (by decide) rfl)<|rs (vI a0.vKind) (r_loadBox rfl Tryd.isAgg3 (HS16.look 4 rfl) rfl)<|rs (vB (a0.vKind==5)) (r_bin rfl rfl rfl)<|rs (vB (a0.vKind==5)) (r_move rfl)<|run_frame (by simp only [sc0,sc1];rfl) ?_
               refine rgs (a0.vKind==5) true (vP b5 1) rfl rfl rfl rfl (fun hg=>(r_fieldBox (n:=1) (o':=1) rfl Tryd.runUnderlying36 rfl Tryd.sizeOf3 (by decide) rfl))<|rgs (a0.vKind==5) true (vI ((rd z_api_Field a0.vFields y1_0).vType)) rfl rfl rfl rfl (fun hg=>(r_loadBox (gvt (vP b5 1) hg rfl) Tryd.isAgg3 (HS16.look 0 rfl) rfl))<|rgs (a0.vKind==5) true (vB ((rd z_api_Field a0.vFields y1_0).vType !=0)) rfl rfl rfl rfl (fun hg=>(r_bin (gvt (vI ((rd z_api_Field a0.vFields y1_0).vType)) hg rfl) rfl rfl))<|rgs (a0.vKind==5) true (vB ((rd z_api_Field a0.vFields y1_0).vType !=0)) rfl rfl rfl rfl (fun hg=>(r_move (gvt (vB ((rd z_api_Field a0.vFields y1_0).vType !=0)) hg rfl)))<|run_frame (by simp only [sc0,sc1];rfl) ?_
               refine rgs ((rd z_api_Field a0.vFields y1_0).vType !=0) (true&&((a0.vKind==5)==true)) (vP b5 2) rfl rfl rfl rfl (fun hg=>(r_fieldBox (n:=1) (o':=2) rfl Tryd.runUnderlying36 rfl Tryd.sizeOf3 (by decide) rfl))<|rgs ((rd z_api_Field a0.vFields y1_0).vType !=0) (true&&((a0.vKind==5)==true)) (vI ((rd z_api_Field a0.vFields y1_0).vAt)) rfl rfl rfl rfl (fun hg=>(r_loadBox (gvt (vP b5 2) hg rfl) Tryd.isAgg3 (HS16.look 0 rfl) rfl))<|rgs ((rd z_api_Field a0.vFields y1_0).vType !=0) (true&&((a0.vKind==5)==true)) (vB (decide ((rd z_api_Field a0.vFields y1_0).vAt<(-2147483648)))) rfl rfl rfl rfl (fun hg=>(r_bin (gvt (vI ((rd z_api_Field a0.vFields y1_0).vAt)) hg rfl) rfl rfl))<|rgs (a0.vKind==5) true (vB (((rd z_api_Field a0.vFields y1_0).vType !=0)||(decide ((rd z_api_Field a0.vFields y1_0).vAt<(-2147483648))))) rfl rfl rfl rfl (fun hg=>(r_pick_or (gvt (vB ((rd z_api_Field a0.vFields y1_0).vType !=0)) hg rfl) rfl (fun hp=>(gvt (vB (decide ((rd z_api_Field a0.vFields y1_0).vAt<(-2147483648)))) (and_i hg hp) rfl))))<|run_frame (by simp only [sc0,sc1];rfl) ?_
               refine rgs (a0.vKind==5) true (vB (((rd z_api_Field a0.vFields y1_0).vType !=0)||(decide ((rd z_api_Field a0.vFields y1_0).vAt<(-2147483648))))) rfl rfl rfl rfl (fun hg=>(r_move (gvt (vB (((rd z_api_Field a0.vFields y1_0).vType !=0)||(decide ((rd z_api_Field a0.vFields y1_0).vAt<(-2147483648))))) hg rfl)))<|rgs (((rd z_api_Field a0.vFields y1_0).vType !=0)||(decide ((rd z_api_Field a0.vFields y1_0).vAt<(-2147483648)))) (true&&((a0.vKind==5)==true)) (vP b5 2) rfl rfl rfl rfl (fun hg=>(r_fieldBox (n:=1) (o':=2) rfl Tryd.runUnderlying36 rfl Tryd.sizeOf3 (by decide) rfl))<|rgs (((rd z_api_Field a0.vFields y1_0).vType !=0)||(decide ((rd z_api_Field a0.vFields y1_0).vAt<(-2147483648)))) (true&&((a0.vKind==5)==true)) (vI ((rd z_api_Field a0.vFields y1_0).vAt)) rfl rfl rfl rfl (fun hg=>(r_loadBox (gvt (vP b5 2) hg rfl) Tryd.isAgg3 (HS16.look 0 rfl) rfl))<|rgs (((rd z_api_Field a0.vFields y1_0).vType !=0)||(decide ((rd z_api_Field a0.vFields y1_0).vAt<(-2147483648)))) (true&&((a0.vKind==5)==true)) (vB (decide ((rd z_api_Field a0.vFields y1_0).vAt>2147483647))) rfl rfl rfl rfl (fun hg=>(r_bin (gvt (vI ((rd z_api_Field a0.vFields y1_0).vAt)) hg rfl) rfl rfl))<|run_frame (by simp only [sc0,sc1];rfl) ?_
               refine rgs (a0.vKind==5) true (vB ((((rd z_api_Field a0.vFields y1_0).vType !=0)||(decide ((rd z_api_Field a0.vFields y1_0).vAt<(-2147483648))))||(decide ((rd z_api_Field a0.vFields y1_0).vAt>2147483647)))) rfl rfl rfl rfl (fun hg=>(r_pick_or (gvt (vB (((rd z_api_Field a0.vFields y1_0).vType !=0)||(decide ((rd z_api_Field a0.vFields y1_0).vAt<(-2147483648))))) hg rfl) rfl (fun hp=>(gvt (vB (decide ((rd z_api_Field a0.vFields y1_0).vAt>2147483647))) (and_i hg hp) rfl))))<|rs (vB ((a0.vKind==5)&&((((rd z_api_Field a0.vFields y1_0).vType !=0)||(decide ((rd z_api_Field a0.vFields y1_0).vAt<(-2147483648))))||(decide ((rd z_api_Field a0.vFields y1_0).vAt>2147483647))))) (r_pick_and rfl (fun hp=>(gvt (vB ((((rd z_api_Field a0.vFields y1_0).vType !=0)||(decide ((rd z_api_Field a0.vFields y1_0).vAt<(-2147483648))))||(decide ((rd z_api_Field a0.vFields y1_0).vAt>2147483647)))) (and_i rfl hp) rfl)) rfl)<|rs (vB ((a0.vKind==5)&&((((rd z_api_Field a0.vFields y1_0).vType !=0)||(decide ((rd z_api_Field a0.vFields y1_0).vAt<(-2147483648))))||(decide ((rd z_api_Field a0.vFields y1_0).vAt>2147483647))))) (r_move rfl)<|rgs ((a0.vKind==5)&&((((rd z_api_Field a0.vFields y1_0).vType !=0)||(decide ((rd z_api_Field a0.vFields y1_0).vAt<(-2147483648))))||(decide ((rd z_api_Field a0.vFields y1_0).vAt>2147483647)))) true (vP b1 0) rfl rfl rfl rfl (fun hg=>(r_fieldBox (n:=1) (o':=0) rfl Tryd.runUnderlying34 rfl Tryd.sizeOf3 (by decide) rfl))<|run_frame (by simp only [sc0,sc1];rfl) ?_
               refine rgs ((a0.vKind==5)&&((((rd z_api_Field a0.vFields y1_0).vType !=0)||(decide ((rd z_api_Field a0.vFields y1_0).vAt<(-2147483648))))||(decide ((rd z_api_Field a0.vFields y1_0).vAt>2147483647)))) true (vI a0.vKind) rfl rfl rfl rfl (fun hg=>(r_loadBox (gvt (vP b1 0) hg rfl) Tryd.isAgg3 (HS16.look 4 rfl) rfl))<|rgs ((a0.vKind==5)&&((((rd z_api_Field a0.vFields y1_0).vType !=0)||(decide ((rd z_api_Field a0.vFields y1_0).vAt<(-2147483648))))||(decide ((rd z_api_Field a0.vFields y1_0).vAt>2147483647)))) true (vB (a0.vKind==4)) rfl rfl rfl rfl (fun hg=>(r_bin (gvt (vI a0.vKind) hg rfl) rfl rfl))<|rgs ((a0.vKind==5)&&((((rd z_api_Field a0.vFields y1_0).vType !=0)||(decide ((rd z_api_Field a0.vFields y1_0).vAt<(-2147483648))))||(decide ((rd z_api_Field a0.vFields y1_0).vAt>2147483647)))) true (vB (a0.vKind==4)) rfl rfl rfl rfl (fun hg=>(r_move (gvt (vB (a0.vKind==4)) hg rfl)))<|rgs (a0.vKind==4) (true&&(((a0.vKind==5)&&((((rd z_api_Field a0.vFields y1_0).vType !=0)||(decide ((rd z_api_Field a0.vFields y1_0).vAt<(-2147483648))))||(decide ((rd z_api_Field a0.vFields y1_0).vAt>2147483647))))==false)) (vP b5 1) rfl rfl rfl rfl (fun hg=>(r_fieldBox (n:=1) (o':=1) rfl Tryd.runUnderlying36 rfl Tryd.sizeOf3 (by decide) rfl))<|run_frame (by simp only [sc0,sc1];rfl) ?_
               refine rgs (a0.vKind==4) (true&&(((a0.vKind==5)&&((((rd z_api_Field a0.vFields y1_0).vType !=0)||(decide ((rd z_api_Field a0.vFields y1_0).vAt<(-2147483648))))||(decide ((rd z_api_Field a0.vFields y1_0).vAt>2147483647))))==false)) (vI ((rd z_api_Field a0.vFields y1_0).vType)) rfl rfl rfl rfl (fun hg=>(r_loadBox (gvt (vP b5 1) hg rfl) Tryd.isAgg3 (HS16.look 0 rfl) rfl))<|rgs (a0.vKind==4) (true&&(((a0.vKind==5)&&((((rd z_api_Field a0.vFields y1_0).vType !=0)||(decide ((rd z_api_Field a0.vFields y1_0).vAt<(-2147483648))))||(decide ((rd z_api_Field a0.vFields y1_0).vAt>2147483647))))==false)) (vB (decide ((rd z_api_Field a0.vFields y1_0).vType<0))) rfl rfl rfl rfl (fun hg=>(r_bin (gvt (vI ((rd z_api_Field a0.vFields y1_0).vType)) hg rfl) rfl rfl))<|rgs (a0.vKind==4) (true&&(((a0.vKind==5)&&((((rd z_api_Field a0.vFields y1_0).vType !=0)||(decide ((rd z_api_Field a0.vFields y1_0).vAt<(-2147483648))))||(decide ((rd z_api_Field a0.vFields y1_0).vAt>2147483647))))==false)) (vB (decide ((rd z_api_Field a0.vFields y1_0).vType<0))) rfl rfl rfl rfl (fun hg=>(r_move (gvt (vB (decide ((rd z_api_Field a0.vFields y1_0).vType<0))) hg rfl)))<|rgs (decide ((rd z_api_Field a0.vFields y1_0).vType<0)) ((true&&(((a0.vKind==5)&&((((rd z_api_Field a0.vFields y1_0).vType !=0)||(decide ((rd z_api_Field a0.vFields y1_0).vAt<(-2147483648))))||(decide ((rd z_api_Field a0.vFields y1_0).vAt>2147483647))))==false))&&((a0.vKind==4)==true)) (vP b5 1) rfl rfl rfl rfl (fun hg=>(r_fieldBox (n:=1) (o':=1) rfl Tryd.runUnderlying36 rfl Tryd.sizeOf3 (by decide) rfl))<|run_frame (by simp only [sc0,sc1];rfl) ?_
               refine rgs (decide ((rd z_api_Field a0.vFields y1_0).vType<0)) ((true&&(((a0.vKind==5)&&((((rd z_api_Field a0.vFields y1_0).vType !=0)||(decide ((rd z_api_Field a0.vFields y1_0).vAt<(-2147483648))))||(decide ((rd z_api_Field a0.vFields y1_0).vAt>2147483647))))==false))&&((a0.vKind==4)==true)) (vI ((rd z_api_Field a0.vFields y1_0).vType)) rfl rfl rfl rfl (fun hg=>(r_loadBox (gvt (vP b5 1) hg rfl) Tryd.isAgg3 (HS16.look 0 rfl) rfl))<|rgs (decide ((rd z_api_Field a0.vFields y1_0).vType<0)) ((true&&(((a0.vKind==5)&&((((rd z_api_Field a0.vFields y1_0).vType !=0)||(decide ((rd z_api_Field a0.vFields y1_0).vAt<(-2147483648))))||(decide ((rd z_api_Field a0.vFields y1_0).vAt>2147483647))))==false))&&((a0.vKind==4)==true)) (vI a1) rfl rfl rfl rfl (fun hg=>(r_move rfl))<|rgs (decide ((rd z_api_Field a0.vFields y1_0).vType<0)) ((true&&(((a0.vKind==5)&&((((rd z_api_Field a0.vFields y1_0).vType !=0)||(decide ((rd z_api_Field a0.vFields y1_0).vAt<(-2147483648))))||(decide ((rd z_api_Field a0.vFields y1_0).vAt>2147483647))))==false))&&((a0.vKind==4)==true)) (vB (decide ((rd z_api_Field a0.vFields y1_0).vType≥a1))) rfl rfl rfl rfl (fun hg=>(r_bin (gvt (vI ((rd z_api_Field a0.vFields y1_0).vType)) hg rfl) (gvt (vI a1) hg rfl) rfl))<|rgs (a0.vKind==4) (true&&(((a0.vKind==5)&&((((rd z_api_Field a0.vFields y1_0).vType !=0)||(decide ((rd z_api_Field a0.vFields y1_0).vAt<(-2147483648))))||(decide ((rd z_api_Field a0.vFields y1_0).vAt>2147483647))))==false)) (vB ((decide ((rd z_api_Field a0.vFields y1_0).vType<0))||(decide ((rd z_api_Field a0.vFields y1_0).vType≥a1)))) rfl rfl rfl rfl (fun hg=>(r_pick_or (gvt (vB (decide ((rd z_api_Field a0.vFields y1_0).vType<0))) hg rfl) rfl (fun hp=>(gvt (vB (decide ((rd z_api_Field a0.vFields y1_0).vType≥a1))) (and_i hg hp) rfl))))<|run_frame (by simp only [sc0,sc1];rfl) ?_
               refine rgs ((a0.vKind==5)&&((((rd z_api_Field a0.vFields y1_0).vType !=0)||(decide ((rd z_api_Field a0.vFields y1_0).vAt<(-2147483648))))||(decide ((rd z_api_Field a0.vFields y1_0).vAt>2147483647)))) true (vB ((a0.vKind==4)&&((decide ((rd z_api_Field a0.vFields y1_0).vType<0))||(decide ((rd z_api_Field a0.vFields y1_0).vType≥a1))))) rfl rfl rfl rfl (fun hg=>(r_pick_and (gvt (vB (a0.vKind==4)) hg rfl) (fun hp=>(gvt (vB ((decide ((rd z_api_Field a0.vFields y1_0).vType<0))||(decide ((rd z_api_Field a0.vFields y1_0).vType≥a1)))) (and_i hg hp) rfl)) rfl))<|rs (vB (((a0.vKind==5)&&((((rd z_api_Field a0.vFields y1_0).vType !=0)||(decide ((rd z_api_Field a0.vFields y1_0).vAt<(-2147483648))))||(decide ((rd z_api_Field a0.vFields y1_0).vAt>2147483647))))||((a0.vKind==4)&&((decide ((rd z_api_Field a0.vFields y1_0).vType<0))||(decide ((rd z_api_Field a0.vFields y1_0).vType≥a1)))))) (r_pick_or rfl rfl (fun hp=>(gvt (vB ((a0.vKind==4)&&((decide ((rd z_api_Field a0.vFields y1_0).vType<0))||(decide ((rd z_api_Field a0.vFields y1_0).vType≥a1))))) (and_i rfl hp) rfl))) ?_
               try simp only [sc0,sc1]
               refine run_nil<|norm_then<|wp_cond_split (t:=(((a0.vKind==5)&&((((rd z_api_Field a0.vFields y1_0).vType !=0)||(decide ((rd z_api_Field a0.vFields y1_0).vAt<(-2147483648))))||(decide ((rd z_api_Field a0.vFields y1_0).vAt>2147483647))))||((a0.vKind==4)&&((decide ((rd z_api_Field a0.vFields y1_0).vType<0))||(decide ((rd z_api_Field a0.vFields y1_0).vType≥a1)))))) rfl (fun c14=>?_) (fun c14=>?_)
               ·replace H:=of_pos H c14
                refine wp_seq<|region<|rs (vB false) (r_assign rfl) ?_
                try simp only [sc0,sc1]
                refine run_nil<|norm_then<|wp_ret<|ret_block<|ret_then<|ret_loop<|ret_then ?_
                obtain rfl:=Option.some.inj H
                obtain rfl:=Option.some.inj G6
                exact bodyPost_ret (results_1 rfl (one_tmp rfl)) rfl<|⟨rfl,HS16.toE⟩
               ·replace H:=of_neg H (nt c14)
                refine wp_skip<|norm_block<|norm_then<|region<|rs (vI (w64 (y1_0+1))) (r_bin rfl rfl rfl)<|rs (vI (w64 (y1_0+1))) (r_move rfl) ?_
                try simp only [sc0,sc1]
                refine run_nil<|again_j m (Nat.lt_succ_self m) rfl ⟨(w64 (y1_0+1)),(mput strEq y1_1 ((rd z_api_Field a0.vFields y1_0).vName) true),es2,cl2,(fit rfl),H,ho2,HS16.tail⟩
             ·replace H:=of_neg H (nt c12)
              refine wp_exit<|exit_then ?_
              obtain rfl:=Option.some.inj H
              refine leave_j rfl ⟨_,rfl,esy1_1,cly1_1,(fit rfl),hoy1_1,HS12⟩
           ·rintro us w17 ⟨s1,rfl,eso1_0,clo1_0,huo1,hoo1_0,HS17⟩
            obtain ⟨uo1,rfl⟩:=unj huo1
            replace H:=G6
            clear G6
            try simp only [patch,sc0,sc1]
            refine norm_then<|wp_seq<|region<|rs (vB true) (r_assign rfl) ?_
            try simp only [sc0,sc1]
            refine run_nil<|norm_then<|wp_ret ?_
            obtain rfl:=Option.some.inj H
            exact bodyPost_ret (results_1 rfl (one_tmp rfl)) rfl<|⟨rfl,HS17.toE⟩
def slices_IndexFunc_api_Def_api_Def.l0 (a0:List api_Def) (a1:(api_Def→Option Bool)):Nat→Int→Option ((Int)⊕(Unit))
 |0,_=>none
 |m+1,y1_0=>if (decide (y1_0<(a0.length:Int)))=true then (if 0≤y1_0∧y1_0<a0.length then ((a1 (rd z_api_Def a0 y1_0)).bind fun v1=>(if v1=true then (some (.inl y1_0)) else (slices_IndexFunc_api_Def_api_Def.l0 a0 a1 m (IntKind.wrap .i64 (y1_0+1))))) else none) else (some (.inr ()))
def slices_IndexFunc_api_Def_api_Def.f (k:Nat) (a0:List api_Def) (a1:api_Def→Option Bool):Option (Int):=(slices_IndexFunc_api_Def_api_Def.l0 a0 a1 k 0).bind fun xx1=>(match xx1 with| .inl r=>some r| .inr s1=>some (-1))
theorem slices_IndexFunc_api_Def_api_Def.calls (k:Nat) (a0:List api_Def) (a1:api_Def→Option Bool) (A0_0:Option Addr) (c0_0:Nat) (fid1:Nat) (cap1:List Value) {h0:View} {w0:World} (hv:Sees h0 w0) (hr0_0:Rd k_api_Def h0 A0_0 a0) (hc0_0:a0.length≤c0_0) (hent1:∀args w,(callFunc fid1 args).run Tryd.prog w= .ok (.enter fid1 args) w) (hfp1:∀(z0:api_Def) (Az0_6:Option Addr) (cz0_6:Nat) (h:View) (w:World),Ext w0 w→Sub h0 h→Sees h w→Rd k_api_Field h Az0_6 z0.vFields→z0.vFields.length≤cz0_6→∀(r:Bool),a1 z0=some r→Calls Tryd.prog fid1 ([Value.agg #[vI z0.vKind,vS z0.vName,vI z0.vInt.vSize,vB z0.vInt.vSigned,vI z0.vRef,vI z0.vN,vL Az0_6 z0.vFields.length cz0_6]]++cap1).toArray w (fun e w1=>e= .returned (vB r)∧Ext w w1)) {r:Int} (H:slices_IndexFunc_api_Def_api_Def.f k a0 a1=some r):Calls Tryd.prog 100 #[vL A0_0 a0.length c0_0,Value.func (.func fid1) #[] cap1.toArray] w0 (fun e w1=>e= .returned (vI r)∧Ext w0 w1):=by
 unfold slices_IndexFunc_api_Def_api_Def.f at H
 have HS:St [] h0 w0 h0 [] w0:=St.init hv
 go_enter Tryd.func100,Tryd.ntmps100
 refine wp_seq<|region<|rs (vI 0) (r_assign rfl) ?_
 try simp only [sc0,sc1]
 refine run_nil<|norm_then<|wp_seq<|wp_seq<|region<|rs (vL A0_0 a0.length c0_0) (r_move rfl)<|rs (vI (a0.length:Int)) (r_len rfl Tryd.runUnderlying22)<|rs (vI 0) (r_move rfl) ?_
 try simp only [sc0,sc1]
 refine run_nil<|norm_then ?_
 obtain ⟨xx1,H,G1⟩:=of_bind H
 refine loop_j [4,5,8,9,10,11,12,13,14,15,16,17,18] (fun m us w'=>∃(y1_0:Int),Fit us (fun uy1=>[(uy1 0),(uy1 1),vI y1_0,(uy1 3),(uy1 4),(uy1 5),(uy1 6),(uy1 7),(uy1 8),(uy1 9),(uy1 10),(uy1 11),(uy1 12)])∧slices_IndexFunc_api_Def_api_Def.l0 a0 a1 m y1_0=some xx1∧St [] h0 w0 h0 [] w') (fun us w'=>∃(s1:Unit),xx1= .inr s1∧Fit us (fun uo1=>[(uo1 0),(uo1 1),(uo1 2),(uo1 3),(uo1 4),(uo1 5),(uo1 6),(uo1 7),(uo1 8),(uo1 9),(uo1 10),(uo1 11),(uo1 12)])∧St [] h0 w0 h0 [] w') k ⟨0,(fit rfl),H,HS⟩ ?_ ?_
 ·rintro m us w1 ⟨y1_0,huy1,H,HS1⟩
  obtain ⟨uy1,rfl⟩:=unj huy1
  cases m with
  |zero=>exact absurd H (by simp [slices_IndexFunc_api_Def_api_Def.l0])
  |succ m=>
   rw [slices_IndexFunc_api_Def_api_Def.l0] at H
   try simp only [patch,sc0,sc1]
   refine wp_seq<|region<|rs (vB (decide (y1_0<(a0.length:Int)))) (r_bin rfl rfl rfl) ?_
   try simp only [sc0,sc1]
   refine run_nil<|norm_then<|wp_seq<|wp_cond_split (t:=(decide (y1_0<(a0.length:Int)))) rfl (fun c1=>?_) (fun c1=>?_)
   ·replace H:=of_pos H c1
    refine wp_skip<|norm_then<|wp_seq<|wp_block<|wp_seq<|region<|rs (vI y1_0) (r_move rfl)<|rs (vI y1_0) (r_assign rfl) ?_
    try simp only [sc0,sc1]
    refine run_nil<|norm_then<|wp_seq<|region<|rs (Value.func (.func fid1) #[] cap1.toArray) (r_move rfl)<|rs (vL A0_0 a0.length c0_0) (r_move rfl)<|rs (vI y1_0) (r_move rfl) ?_
    obtain ⟨hi1,H⟩:=of_ite H
    obtain ⟨ad1,Aad1_6,cad1_6,e1,hel1,hcad1_6,hrad1_6⟩:=ld_api_Def hr0_0 hi1.1 hi1.2
    refine rs (Value.pointer (some (Addr.add ad1 (y1_0.toNat*7)))) (r_indexA (sz:=7) rfl e1 rfl hi1.1 hi1.2 Tryd.runUnderlying22 Tryd.sizeOf34)<|run_frame (by simp only [sc0,sc1];rfl) ?_
    refine rs (Value.agg #[vI ((rd z_api_Def a0 y1_0).vKind),vS ((rd z_api_Def a0 y1_0).vName),vI ((rd z_api_Def a0 y1_0).vInt.vSize),vB ((rd z_api_Def a0 y1_0).vInt.vSigned),vI ((rd z_api_Def a0 y1_0).vRef),vI ((rd z_api_Def a0 y1_0).vN),vL Aad1_6 ((rd z_api_Def a0 y1_0).vFields).length cad1_6]) (r_loadAgg rfl Tryd.isAgg34 (hel1.sees HS1.sees) Tryd.sizeOf34) ?_
    obtain ⟨v1,H1,H⟩:=of_bind H
    refine run_eq (v:=vB v1) rfl rfl (does_callv (vs:=[Value.agg #[vI ((rd z_api_Def a0 y1_0).vKind),vS ((rd z_api_Def a0 y1_0).vName),vI ((rd z_api_Def a0 y1_0).vInt.vSize),vB ((rd z_api_Def a0 y1_0).vInt.vSigned),vI ((rd z_api_Def a0 y1_0).vRef),vI ((rd z_api_Def a0 y1_0).vN),vL Aad1_6 ((rd z_api_Def a0 y1_0).vFields).length cad1_6]]) (caps:=cap1) hent1 rfl rfl (hfp1 (rd z_api_Def a0 y1_0) Aad1_6 cad1_6 _ _ HS1.toE HS1.sub HS1.sees hrad1_6 hcad1_6 _ H1)) ?_
    intro w2 hE1
    have HS2:=HS1.step hE1
    try simp only [sc0,sc1]
    refine run_nil<|norm_then<|wp_cond_split (t:=v1) rfl (fun c2=>?_) (fun c2=>?_)
    ·replace H:=of_pos H c2
     refine wp_seq<|region<|rs (vI y1_0) (r_move rfl)<|rs (vI y1_0) (r_assign rfl) ?_
     try simp only [sc0,sc1]
     refine run_nil<|norm_then<|wp_ret<|ret_block<|ret_then<|ret_loop<|ret_then ?_
     obtain rfl:=Option.some.inj H
     obtain rfl:=Option.some.inj G1
     exact bodyPost_ret (results_1 rfl (one_tmp rfl)) rfl<|⟨rfl,HS2.toE⟩
    ·replace H:=of_neg H (nt c2)
     refine wp_skip<|norm_block<|norm_then<|region<|rs (vI (w64 (y1_0+1))) (r_bin rfl rfl rfl)<|rs (vI (w64 (y1_0+1))) (r_move rfl) ?_
     try simp only [sc0,sc1]
     refine run_nil<|again_j m (Nat.lt_succ_self m) rfl ⟨(w64 (y1_0+1)),(fit rfl),H,HS2⟩
   ·replace H:=of_neg H (nt c1)
    refine wp_exit<|exit_then ?_
    obtain rfl:=Option.some.inj H
    refine leave_j rfl ⟨_,rfl,(fit rfl),HS1⟩
 ·rintro us w3 ⟨s1,rfl,huo1,HS3⟩
  obtain ⟨uo1,rfl⟩:=unj huo1
  replace H:=G1
  clear G1
  try simp only [patch,sc0,sc1]
  refine norm_then<|wp_seq<|region<|rs (vI (-1)) (r_assign rfl) ?_
  try simp only [sc0,sc1]
  refine run_nil<|norm_then<|wp_ret ?_
  obtain rfl:=Option.some.inj H
  exact bodyPost_ret (results_1 rfl (one_tmp rfl)) rfl<|⟨rfl,HS3.toE⟩
def slices_ContainsFunc_api_Def_api_Def.f (k:Nat) (a0:List api_Def) (a1:api_Def→Option Bool):Option (Bool):=(slices_IndexFunc_api_Def_api_Def.f k a0 a1).bind fun v1=>(some (decide (v1≥0)))
theorem slices_ContainsFunc_api_Def_api_Def.calls (k:Nat) (a0:List api_Def) (a1:api_Def→Option Bool) (A0_0:Option Addr) (c0_0:Nat) (fid1:Nat) (cap1:List Value) {h0:View} {w0:World} (hv:Sees h0 w0) (hr0_0:Rd k_api_Def h0 A0_0 a0) (hc0_0:a0.length≤c0_0) (hent1:∀args w,(callFunc fid1 args).run Tryd.prog w= .ok (.enter fid1 args) w) (hfp1:∀(z0:api_Def) (Az0_6:Option Addr) (cz0_6:Nat) (h:View) (w:World),Ext w0 w→Sub h0 h→Sees h w→Rd k_api_Field h Az0_6 z0.vFields→z0.vFields.length≤cz0_6→∀(r:Bool),a1 z0=some r→Calls Tryd.prog fid1 ([Value.agg #[vI z0.vKind,vS z0.vName,vI z0.vInt.vSize,vB z0.vInt.vSigned,vI z0.vRef,vI z0.vN,vL Az0_6 z0.vFields.length cz0_6]]++cap1).toArray w (fun e w1=>e= .returned (vB r)∧Ext w w1)) {r:Bool} (H:slices_ContainsFunc_api_Def_api_Def.f k a0 a1=some r):Calls Tryd.prog 91 #[vL A0_0 a0.length c0_0,Value.func (.func fid1) #[] cap1.toArray] w0 (fun e w1=>e= .returned (vB r)∧Ext w0 w1):=by
 unfold slices_ContainsFunc_api_Def_api_Def.f at H
 have HS:St [] h0 w0 h0 [] w0:=St.init hv
 go_enter Tryd.func91,Tryd.ntmps91
 refine wp_seq<|region<|rs (vB false) (r_assign rfl) ?_
 try simp only [sc0,sc1]
 refine run_nil<|norm_then<|wp_seq<|region<|rs (vL A0_0 a0.length c0_0) (r_move rfl)<|rs (Value.func (.func fid1) #[] cap1.toArray) (r_move rfl) ?_
 obtain ⟨v1,H1,H⟩:=of_bind H
 refine run_eq (v:=vI v1) rfl rfl (does_call_eq Tryd.call100 rfl rfl (slices_IndexFunc_api_Def_api_Def.calls k a0 a1 A0_0 c0_0 fid1 cap1 HS.sees hr0_0 hc0_0 hent1 (fun z0 Az0_6 cz0_6 h w hE hs hv hz0_6 hzc0_6 r H=>hfp1 z0 Az0_6 cz0_6 h w (HS.toE.then hE) (HS.sub.then hs) hv hz0_6 hzc0_6 r H) H1)) ?_
 intro w1 hE1
 have HS1:=HS.step hE1
 refine rs (vB (decide (v1≥0))) (r_bin rfl rfl rfl)<|run_frame (by simp only [sc0,sc1];rfl) ?_
 refine rs (vB (decide (v1≥0))) (r_assign rfl) ?_
 try simp only [sc0,sc1]
 refine run_nil<|norm_then<|wp_ret ?_
 obtain rfl:=Option.some.inj H
 exact bodyPost_ret (results_1 rfl (one_tmp rfl)) rfl<|⟨rfl,HS1.toE⟩
def ctf_ends_1.l0 (x0:api_Types):Nat→Int→Int→ByteArray→Int→Bool→Int→Int→(List api_Field)→Option ((Bool)⊕(Int×ByteArray×Int×Bool×Int×Int×(List api_Field)))
 |0,_,_,_,_,_,_,_,_=>none
 |m+1,y1_0,y1_1,y1_2,y1_3,y1_4,y1_5,y1_6,y1_7=>if (decide (y1_0<(x0.vDefs.length:Int)))=true then ((ctf_named.f (⟨y1_1,y1_2,(⟨y1_3,y1_4⟩:api_Int),y1_5,y1_6,y1_7⟩:api_Def)).bind fun v1=>(if v1=true then (some (.inl false)) else (if 0≤y1_5∧y1_5<x0.vDefs.length then (ctf_ends_1.l0 x0 m (IntKind.wrap .i64 (y1_0+1)) ((rd z_api_Def x0.vDefs y1_5).vKind) ((rd z_api_Def x0.vDefs y1_5).vName) ((rd z_api_Def x0.vDefs y1_5).vInt.vSize) ((rd z_api_Def x0.vDefs y1_5).vInt.vSigned) ((rd z_api_Def x0.vDefs y1_5).vRef) ((rd z_api_Def x0.vDefs y1_5).vN) ((rd z_api_Def x0.vDefs y1_5).vFields)) else none))) else (some (.inr (y1_1,y1_2,y1_3,y1_4,y1_5,y1_6,y1_7)))
def ctf_ends_1.f (k:Nat) (a0:api_Def) (x0:api_Types):Option (Bool):=(ctf_ends_1.l0 x0 k 0 a0.vKind a0.vName a0.vInt.vSize a0.vInt.vSigned a0.vRef a0.vN a0.vFields).bind fun xx1=>(match xx1 with| .inl r=>some r| .inr s1=>(ctf_named.f (⟨s1.1,s1.2.1,(⟨s1.2.2.1,s1.2.2.2.1⟩:api_Int),s1.2.2.2.2.1,s1.2.2.2.2.2.1,s1.2.2.2.2.2.2⟩:api_Def)).bind fun v2=>(some (!v2)))
theorem ctf_ends_1.calls (k:Nat) (a0:api_Def) (x0:api_Types) (A0_6:Option Addr) (c0_6:Nat) (bx0:Nat) (Ax0_0:Option Addr) (cx0_0:Nat) {h0:View} {w0:World} (hv:Sees h0 w0) (hr0_6:Rd k_api_Field h0 A0_6 a0.vFields) (hc0_6:a0.vFields.length≤c0_6) (hrx0_0:Rd k_api_Def h0 Ax0_0 x0.vDefs) (hcx0_0:x0.vDefs.length≤cx0_0) (hx0:w0.heap[bx0]?=some (.cells #[vL Ax0_0 x0.vDefs.length cx0_0] 24 (0,0))) {r:Bool} (H:ctf_ends_1.f k a0 x0=some r):Calls Tryd.prog 120 #[Value.agg #[vI a0.vKind,vS a0.vName,vI a0.vInt.vSize,vB a0.vInt.vSigned,vI a0.vRef,vI a0.vN,vL A0_6 a0.vFields.length c0_6],vP bx0 0] w0 (fun e w1=>e= .returned (vB r)∧Ext w0 w1):=by
 unfold ctf_ends_1.f at H
 have HS:St [] h0 w0 h0 [] w0:=St.init hv
 go_enter Tryd.func120,Tryd.ntmps120
 refine wp_seq<|region<|run_ex rfl rfl (does_box (cs:=#[vI a0.vKind,vS a0.vName,vI a0.vInt.vSize,vB a0.vInt.vSigned,vI a0.vRef,vI a0.vN,vL A0_6 a0.vFields.length c0_6]) rfl rfl) ?_
 rintro w1 _ hE1 ⟨b1,rfl,ge1,hb1⟩
 have HS1:=HS.new hE1 ge1 hb1
 refine rs (vB false) (r_assign rfl) ?_
 try simp only [sc0,sc1]
 refine run_nil<|norm_then<|wp_seq<|wp_seq<|region<|rs (vP bx0 0) (r_fieldBox (n:=1) (o':=0) rfl Tryd.runUnderlying24 rfl Tryd.sizeOf22 (by decide) rfl)<|rs (vL Ax0_0 x0.vDefs.length cx0_0) (r_loadBox rfl Tryd.isAgg22 (heap_ext hx0 HS1.toE) rfl)<|rs (vI (x0.vDefs.length:Int)) (r_len rfl Tryd.runUnderlying22)<|rs (vI 0) (r_move rfl) ?_
 try simp only [sc0,sc1]
 refine run_nil<|norm_then ?_
 obtain ⟨xx1,H,G1⟩:=of_bind H
 refine loop_j [3,7,8,9,10,11,12,13,14,15,16,17] (fun m us w'=>∃y1_0 y1_1:Int,∃y1_2:ByteArray,∃y1_3:Int,∃y1_4:Bool,∃y1_5 y1_6:Int,∃y1_7:List api_Field,∃(Ay1_7:Option Addr) (cy1_7:Nat),Fit us (fun uy1=>[(uy1 0),vI y1_0,(uy1 2),(uy1 3),(uy1 4),(uy1 5),(uy1 6),(uy1 7),(uy1 8),(uy1 9),(uy1 10),(uy1 11)])∧ctf_ends_1.l0 x0 m y1_0 y1_1 y1_2 y1_3 y1_4 y1_5 y1_6 y1_7=some xx1∧y1_7.length≤cy1_7∧Rd k_api_Field h0 Ay1_7 y1_7∧St [] h0 w0 h0 [(some b1, .cells #[vI y1_1,vS y1_2,vI y1_3,vB y1_4,vI y1_5,vI y1_6,vL Ay1_7 y1_7.length cy1_7] 34 (0,0))] w') (fun us w'=>∃(s1:Int×ByteArray×Int×Bool×Int×Int×(List api_Field)),xx1= .inr s1∧∃(Ao1_6:Option Addr) (co1_6:Nat),Fit us (fun uo1=>[(uo1 0),(uo1 1),(uo1 2),(uo1 3),(uo1 4),(uo1 5),(uo1 6),(uo1 7),(uo1 8),(uo1 9),(uo1 10),(uo1 11)])∧s1.2.2.2.2.2.2.length≤co1_6∧Rd k_api_Field h0 Ao1_6 s1.2.2.2.2.2.2∧St [] h0 w0 h0 [(some b1, .cells #[vI s1.1,vS s1.2.1,vI s1.2.2.1,vB s1.2.2.2.1,vI s1.2.2.2.2.1,vI s1.2.2.2.2.2.1,vL Ao1_6 s1.2.2.2.2.2.2.length co1_6] 34 (0,0))] w') k ⟨0,a0.vKind,a0.vName,a0.vInt.vSize,a0.vInt.vSigned,a0.vRef,a0.vN,a0.vFields,A0_6,c0_6,(fit rfl),H,hc0_6,hr0_6,HS1⟩ ?_ ?_
 ·rintro m us w2 ⟨y1_0,y1_1,y1_2,y1_3,y1_4,y1_5,y1_6,y1_7,Ay1_7,cy1_7,huy1,H,hcy1_7,hry1_7,HS2⟩
  obtain ⟨uy1,rfl⟩:=unj huy1
  cases m with
  |zero=>exact absurd H (by simp [ctf_ends_1.l0])
  |succ m=>
   rw [ctf_ends_1.l0] at H
   try simp only [patch,sc0,sc1]
   refine wp_seq<|region<|rs (vB (decide (y1_0<(x0.vDefs.length:Int)))) (r_bin rfl rfl rfl) ?_
   try simp only [sc0,sc1]
   refine run_nil<|norm_then<|wp_seq<|wp_cond_split (t:=(decide (y1_0<(x0.vDefs.length:Int)))) rfl (fun c1=>?_) (fun c1=>?_)
   ·replace H:=of_pos H c1
    refine wp_skip<|norm_then<|wp_seq<|wp_block<|wp_seq<|wp_seq<|region<|rs (Value.agg #[vI y1_1,vS y1_2,vI y1_3,vB y1_4,vI y1_5,vI y1_6,vL Ay1_7 y1_7.length cy1_7]) (r_loadBoxAgg (n:=7) (vs:=[vI y1_1,vS y1_2,vI y1_3,vB y1_4,vI y1_5,vI y1_6,vL Ay1_7 y1_7.length cy1_7]) rfl Tryd.isAgg34 (HS2.look 0 rfl) Tryd.sizeOf34 rfl rfl) ?_
    obtain ⟨v1,H1,H⟩:=of_bind H
    refine run_eq (v:=vB v1) rfl rfl (does_call_eq Tryd.call68 rfl rfl (ctf_named.calls (⟨y1_1,y1_2,(⟨y1_3,y1_4⟩:api_Int),y1_5,y1_6,y1_7⟩:api_Def) Ay1_7 cy1_7 HS2.sees hry1_7 hcy1_7 H1)) ?_
    intro w3 hE2
    have HS3:=HS2.step hE2
    try simp only [sc0,sc1]
    refine run_nil<|norm_then<|wp_cond_split (t:=v1) rfl (fun c2=>?_) (fun c2=>?_)
    ·replace H:=of_pos H c2
     refine wp_seq<|region<|rs (vB false) (r_assign rfl) ?_
     try simp only [sc0,sc1]
     refine run_nil<|norm_then<|wp_ret<|ret_then<|ret_block<|ret_then<|ret_loop<|ret_then ?_
     obtain rfl:=Option.some.inj H
     obtain rfl:=Option.some.inj G1
     exact bodyPost_ret (results_1 rfl (one_tmp rfl)) rfl<|⟨rfl,HS3.toE⟩
    ·replace H:=of_neg H (nt c2)
     refine wp_skip<|norm_then<|region<|rs (vP bx0 0) (r_fieldBox (n:=1) (o':=0) rfl Tryd.runUnderlying24 rfl Tryd.sizeOf22 (by decide) rfl)<|rs (vL Ax0_0 x0.vDefs.length cx0_0) (r_loadBox rfl Tryd.isAgg22 (heap_ext hx0 HS3.toE) rfl)<|rs (vP b1 4) (r_fieldBox (n:=1) (o':=4) rfl Tryd.runUnderlying34 rfl Tryd.sizeOf3 (by decide) rfl)<|rs (vI y1_5) (r_loadBox rfl Tryd.isAgg3 (HS3.look 0 rfl) rfl)<|run_frame (by simp only [sc0,sc1];rfl) ?_
     obtain ⟨hi1,H⟩:=of_ite H
     obtain ⟨ad1,Aad1_6,cad1_6,e1,hel1,hcad1_6,hrad1_6⟩:=ld_api_Def hrx0_0 hi1.1 hi1.2
     refine rs (Value.pointer (some (Addr.add ad1 (y1_5.toNat*7)))) (r_indexA (sz:=7) rfl e1 rfl hi1.1 hi1.2 Tryd.runUnderlying22 Tryd.sizeOf34)<|rs (Value.agg #[vI ((rd z_api_Def x0.vDefs y1_5).vKind),vS ((rd z_api_Def x0.vDefs y1_5).vName),vI ((rd z_api_Def x0.vDefs y1_5).vInt.vSize),vB ((rd z_api_Def x0.vDefs y1_5).vInt.vSigned),vI ((rd z_api_Def x0.vDefs y1_5).vRef),vI ((rd z_api_Def x0.vDefs y1_5).vN),vL Aad1_6 ((rd z_api_Def x0.vDefs y1_5).vFields).length cad1_6]) (r_loadAgg rfl Tryd.isAgg34 (hel1.sees HS3.sees) Tryd.sizeOf34)<|run_st (i:=0) (cs:=[vI y1_1,vS y1_2,vI y1_3,vB y1_4,vI y1_5,vI y1_6,vL Ay1_7 y1_7.length cy1_7]) (cs':=[vI ((rd z_api_Def x0.vDefs y1_5).vKind),vS ((rd z_api_Def x0.vDefs y1_5).vName),vI ((rd z_api_Def x0.vDefs y1_5).vInt.vSize),vB ((rd z_api_Def x0.vDefs y1_5).vInt.vSigned),vI ((rd z_api_Def x0.vDefs y1_5).vRef),vI ((rd z_api_Def x0.vDefs y1_5).vN),vL Aad1_6 ((rd z_api_Def x0.vDefs y1_5).vFields).length cad1_6]) (vs:=[vI ((rd z_api_Def x0.vDefs y1_5).vKind),vS ((rd z_api_Def x0.vDefs y1_5).vName),vI ((rd z_api_Def x0.vDefs y1_5).vInt.vSize),vB ((rd z_api_Def x0.vDefs y1_5).vInt.vSigned),vI ((rd z_api_Def x0.vDefs y1_5).vRef),vI ((rd z_api_Def x0.vDefs y1_5).vN),vL Aad1_6 ((rd z_api_Def x0.vDefs y1_5).vFields).length cad1_6]) (bs':=[(some b1, .cells #[vI ((rd z_api_Def x0.vDefs y1_5).vKind),vS ((rd z_api_Def x0.vDefs y1_5).vName),vI ((rd z_api_Def x0.vDefs y1_5).vInt.vSize),vB ((rd z_api_Def x0.vDefs y1_5).vInt.vSigned),vI ((rd z_api_Def x0.vDefs y1_5).vRef),vI ((rd z_api_Def x0.vDefs y1_5).vN),vL Aad1_6 ((rd z_api_Def x0.vDefs y1_5).vFields).length cad1_6] 34 (0,0))]) rfl rfl Tryd.sizeOf34 rfl rfl (by decide) rfl HS3 rfl (Nat.le_of_ble_eq_true rfl) rfl rfl ?_
     intro w4 HS4
     try simp only [sc0,sc1]
     refine run_nil<|norm_block<|norm_then<|region<|rs (vI (w64 (y1_0+1))) (r_bin rfl rfl rfl)<|rs (vI (w64 (y1_0+1))) (r_move rfl) ?_
     try simp only [sc0,sc1]
     refine run_nil<|again_j m (Nat.lt_succ_self m) rfl ⟨(w64 (y1_0+1)),(rd z_api_Def x0.vDefs y1_5).vKind,(rd z_api_Def x0.vDefs y1_5).vName,(rd z_api_Def x0.vDefs y1_5).vInt.vSize,(rd z_api_Def x0.vDefs y1_5).vInt.vSigned,(rd z_api_Def x0.vDefs y1_5).vRef,(rd z_api_Def x0.vDefs y1_5).vN,(rd z_api_Def x0.vDefs y1_5).vFields,Aad1_6,cad1_6,(fit rfl),H,hcad1_6,hrad1_6,HS4⟩
   ·replace H:=of_neg H (nt c1)
    refine wp_exit<|exit_then ?_
    obtain rfl:=Option.some.inj H
    refine leave_j rfl ⟨_,rfl,Ay1_7,cy1_7,(fit rfl),hcy1_7,hry1_7,HS2⟩
 ·rintro us w5 ⟨s1,rfl,Ao1_6,co1_6,huo1,hco1_6,hro1_6,HS5⟩
  obtain ⟨uo1,rfl⟩:=unj huo1
  replace H:=G1
  clear G1
  try simp only [patch,sc0,sc1]
  refine norm_then<|wp_seq<|region<|rs (Value.agg #[vI s1.1,vS s1.2.1,vI s1.2.2.1,vB s1.2.2.2.1,vI s1.2.2.2.2.1,vI s1.2.2.2.2.2.1,vL Ao1_6 s1.2.2.2.2.2.2.length co1_6]) (r_loadBoxAgg (n:=7) (vs:=[vI s1.1,vS s1.2.1,vI s1.2.2.1,vB s1.2.2.2.1,vI s1.2.2.2.2.1,vI s1.2.2.2.2.2.1,vL Ao1_6 s1.2.2.2.2.2.2.length co1_6]) rfl Tryd.isAgg34 (HS5.look 0 rfl) Tryd.sizeOf34 rfl rfl) ?_
  obtain ⟨v2,H2,H⟩:=of_bind H
  refine run_eq (v:=vB v2) rfl rfl (does_call_eq Tryd.call68 rfl rfl (ctf_named.calls (⟨s1.1,s1.2.1,(⟨s1.2.2.1,s1.2.2.2.1⟩:api_Int),s1.2.2.2.2.1,s1.2.2.2.2.2.1,s1.2.2.2.2.2.2⟩:api_Def) Ao1_6 co1_6 HS5.sees hro1_6 hco1_6 H2)) ?_
  intro w6 hE3
  have HS6:=HS5.step hE3
  refine rs (vB (!v2)) (r_not rfl)<|rs (vB (!v2)) (r_assign rfl) ?_
  try simp only [sc0,sc1]
  refine run_nil<|norm_then<|wp_ret ?_
  obtain rfl:=Option.some.inj H
  exact bodyPost_ret (results_1 rfl (one_tmp rfl)) rfl<|⟨rfl,HS6.toE⟩
def ctf_ends.f (k:Nat) (a0:api_Types):Option (Bool):=(slices_ContainsFunc_api_Def_api_Def.f k a0.vDefs (fun z0=>ctf_ends_1.f k z0 a0)).bind fun v1=>(some (!v1))
theorem ctf_ends.calls (k:Nat) (a0:api_Types) (A0_0:Option Addr) (c0_0:Nat) {h0:View} {w0:World} (hv:Sees h0 w0) (hr0_0:Rd k_api_Def h0 A0_0 a0.vDefs) (hc0_0:a0.vDefs.length≤c0_0) {r:Bool} (H:ctf_ends.f k a0=some r):Calls Tryd.prog 90 #[Value.agg #[vL A0_0 a0.vDefs.length c0_0]] w0 (fun e w1=>e= .returned (vB r)∧Ext w0 w1):=by
 unfold ctf_ends.f at H
 have HS:St [] h0 w0 h0 [] w0:=St.init hv
 go_enter Tryd.func90,Tryd.ntmps90
 refine wp_seq<|region<|run_ex rfl rfl (does_box (cs:=#[vL A0_0 a0.vDefs.length c0_0]) rfl rfl) ?_
 rintro w1 _ hE1 ⟨b1,rfl,ge1,hb1⟩
 have HS1:=HS.new hE1 ge1 hb1
 refine rs (vB false) (r_assign rfl) ?_
 try simp only [sc0,sc1]
 refine run_nil<|norm_then<|wp_seq<|region<|rs (vP b1 0) (r_fieldBox (n:=1) (o':=0) rfl Tryd.runUnderlying24 rfl Tryd.sizeOf22 (by decide) rfl)<|rs (vL A0_0 a0.vDefs.length c0_0) (r_loadBox rfl Tryd.isAgg22 (HS1.look 0 rfl) rfl)<|rs (Value.func (.func 120) #[] #[vP b1 0]) (r_makeFunc (vs:=[vP b1 0]) rfl) ?_
 obtain ⟨v1,H1,H⟩:=of_bind H
 refine run_eq (v:=vB v1) rfl rfl (does_call_eq Tryd.call91 rfl rfl (slices_ContainsFunc_api_Def_api_Def.calls k a0.vDefs (fun z0=>ctf_ends_1.f k z0 a0) A0_0 c0_0 120 [vP b1 0] HS1.sees hr0_0 hc0_0 Tryd.call120 (fun z0 Az0_6 cz0_6 h w hE hs hv hz0_6 hzc0_6 r H=>ctf_ends_1.calls k z0 a0 Az0_6 cz0_6 b1 A0_0 c0_0 hv hz0_6 hzc0_6 (hr0_0.ext hs) hc0_0 (heap_ext (HS1.look 0 rfl) hE) H) H1)) ?_
 intro w2 hE2
 have HS2:=HS1.step hE2
 refine run_frame (by simp only [sc0,sc1];rfl) ?_
 refine rs (vB (!v1)) (r_not rfl)<|rs (vB (!v1)) (r_assign rfl) ?_
 try simp only [sc0,sc1]
 refine run_nil<|norm_then<|wp_ret ?_
 obtain rfl:=Option.some.inj H
 exact bodyPost_ret (results_1 rfl (one_tmp rfl)) rfl<|⟨rfl,HS2.toE⟩
def ctf_placed.l0 (a0:api_Def) (a1:List Int):Nat→Int→Int→Option ((Bool)⊕(Int))
 |0,_,_=>none
 |m+1,y1_0,y1_1=>if (decide (y1_1<(a0.vFields.length:Int)))=true then (if 0≤y1_1∧y1_1<a0.vFields.length then (if ((decide ((rd z_api_Field a0.vFields y1_1).vAt<y1_0))||(decide ((rd z_api_Field a0.vFields y1_1).vAt>512)))=true then (some (.inl false)) else (if 0≤(rd z_api_Field a0.vFields y1_1).vType∧(rd z_api_Field a0.vFields y1_1).vType<a1.length then (ctf_placed.l0 a0 a1 m (IntKind.wrap .i64 ((rd z_api_Field a0.vFields y1_1).vAt+(rd 0 a1 ((rd z_api_Field a0.vFields y1_1).vType)))) (IntKind.wrap .i64 (y1_1+1))) else none)) else none) else (some (.inr y1_0))
def ctf_placed.f (k:Nat) (a0:api_Def) (a1:List Int):Option (Bool):=(ctf_placed.l0 a0 a1 k 0 0).bind fun xx1=>(match xx1 with| .inl r=>some r| .inr s1=>some (decide (s1≤a0.vN)))
theorem ctf_placed.calls (k:Nat) (a0:api_Def) (a1:List Int) (A0_6:Option Addr) (c0_6:Nat) (A1_0:Option Addr) (c1_0:Nat) {h0:View} {w0:World} (hv:Sees h0 w0) (hr0_6:Rd k_api_Field h0 A0_6 a0.vFields) (hc0_6:a0.vFields.length≤c0_6) (hr1_0:Rd (Kd.int .i64) h0 A1_0 a1) (hc1_0:a1.length≤c1_0) {r:Bool} (H:ctf_placed.f k a0 a1=some r):Calls Tryd.prog 93 #[Value.agg #[vI a0.vKind,vS a0.vName,vI a0.vInt.vSize,vB a0.vInt.vSigned,vI a0.vRef,vI a0.vN,vL A0_6 a0.vFields.length c0_6],vL A1_0 a1.length c1_0] w0 (fun e w1=>e= .returned (vB r)∧Ext w0 w1):=by
 unfold ctf_placed.f at H
 have HS:St [] h0 w0 h0 [] w0:=St.init hv
 go_enter Tryd.func93,Tryd.ntmps93
 refine wp_seq<|region<|run_ex rfl rfl (does_box (cs:=#[vI a0.vKind,vS a0.vName,vI a0.vInt.vSize,vB a0.vInt.vSigned,vI a0.vRef,vI a0.vN,vL A0_6 a0.vFields.length c0_6]) rfl rfl) ?_
 rintro w1 _ hE1 ⟨b1,rfl,ge1,hb1⟩
 have HS1:=HS.new hE1 ge1 hb1
 refine rs (vB false) (r_assign rfl) ?_
 try simp only [sc0,sc1]
 refine run_nil<|norm_then<|wp_seq<|region<|rs (vI 0) (r_assign rfl) ?_
 try simp only [sc0,sc1]
 refine run_nil<|norm_then<|wp_seq<|wp_seq<|region<|rs (vP b1 6) (r_fieldBox (n:=1) (o':=6) rfl Tryd.runUnderlying34 rfl Tryd.sizeOf32 (by decide) rfl)<|rs (vL A0_6 a0.vFields.length c0_6) (r_loadBox rfl Tryd.isAgg32 (HS1.look 0 rfl) rfl)<|rs (vI (a0.vFields.length:Int)) (r_len rfl Tryd.runUnderlying32)<|rs (vI 0) (r_move rfl) ?_
 try simp only [sc0,sc1]
 refine run_nil<|norm_then ?_
 obtain ⟨xx1,H,G1⟩:=of_bind H
 refine loop_j [4,5,7,11,12,13,14,15,16,17,18,19,20,21,22,23,24,25,26,27,28,29,30,31,32] (fun m us w'=>∃y1_0 y1_1:Int,Fit us (fun uy1=>[(uy1 0),vI y1_0,(uy1 2),vI y1_1,(uy1 4),(uy1 5),(uy1 6),(uy1 7),(uy1 8),(uy1 9),(uy1 10),(uy1 11),(uy1 12),(uy1 13),(uy1 14),(uy1 15),(uy1 16),(uy1 17),(uy1 18),(uy1 19),(uy1 20),(uy1 21),(uy1 22),(uy1 23),(uy1 24)])∧ctf_placed.l0 a0 a1 m y1_0 y1_1=some xx1∧St [] h0 w0 h0 [(some b1, .cells #[vI a0.vKind,vS a0.vName,vI a0.vInt.vSize,vB a0.vInt.vSigned,vI a0.vRef,vI a0.vN,vL A0_6 a0.vFields.length c0_6] 34 (0,0))] w') (fun us w'=>∃(s1:Int),xx1= .inr s1∧Fit us (fun uo1=>[(uo1 0),vI s1,(uo1 2),(uo1 3),(uo1 4),(uo1 5),(uo1 6),(uo1 7),(uo1 8),(uo1 9),(uo1 10),(uo1 11),(uo1 12),(uo1 13),(uo1 14),(uo1 15),(uo1 16),(uo1 17),(uo1 18),(uo1 19),(uo1 20),(uo1 21),(uo1 22),(uo1 23),(uo1 24)])∧St [] h0 w0 h0 [(some b1, .cells #[vI a0.vKind,vS a0.vName,vI a0.vInt.vSize,vB a0.vInt.vSigned,vI a0.vRef,vI a0.vN,vL A0_6 a0.vFields.length c0_6] 34 (0,0))] w') k ⟨0,0,(fit rfl),H,HS1⟩ ?_ ?_
 ·rintro m us w2 ⟨y1_0,y1_1,huy1,H,HS2⟩
  obtain ⟨uy1,rfl⟩:=unj huy1
  cases m with
  |zero=>exact absurd H (by simp [ctf_placed.l0])
  |succ m=>
   rw [ctf_placed.l0] at H
   try simp only [patch,sc0,sc1]
   refine wp_seq<|region<|rs (vB (decide (y1_1<(a0.vFields.length:Int)))) (r_bin rfl rfl rfl) ?_
   try simp only [sc0,sc1]
   refine run_nil<|norm_then<|wp_seq<|wp_cond_split (t:=(decide (y1_1<(a0.vFields.length:Int)))) rfl (fun c1=>?_) (fun c1=>?_)
   ·replace H:=of_pos H c1
    refine wp_skip<|norm_then<|wp_seq<|wp_block<|wp_seq<|region ?_
    obtain ⟨hi1,H⟩:=of_ite H
    obtain ⟨ad1,e1,hel1⟩:=ld_api_Field hr0_6 hi1.1 hi1.2
    refine rs (Value.pointer (some (Addr.add ad1 (y1_1.toNat*3)))) (r_indexA (sz:=3) rfl e1 rfl hi1.1 hi1.2 Tryd.runUnderlying32 Tryd.sizeOf36)<|rs (Value.agg #[vS ((rd z_api_Field a0.vFields y1_1).vName),vI ((rd z_api_Field a0.vFields y1_1).vType),vI ((rd z_api_Field a0.vFields y1_1).vAt)]) (r_loadAgg rfl Tryd.isAgg36 (hel1.sees HS2.sees) Tryd.sizeOf36)<|run_ex rfl rfl (does_alloc (cs:=#[vS ByteArray.empty,vI 0,vI 0]) Tryd.zeroValue36 rfl) ?_
    rintro w3 _ hE2 ⟨b2,rfl,ge2,hb2⟩
    have HS3:=HS2.new hE2 ge2 hb2
    refine run_st (i:=0) (cs:=[vS ByteArray.empty,vI 0,vI 0]) (cs':=[vS ((rd z_api_Field a0.vFields y1_1).vName),vI ((rd z_api_Field a0.vFields y1_1).vType),vI ((rd z_api_Field a0.vFields y1_1).vAt)]) (vs:=[vS ((rd z_api_Field a0.vFields y1_1).vName),vI ((rd z_api_Field a0.vFields y1_1).vType),vI ((rd z_api_Field a0.vFields y1_1).vAt)]) (bs':=[(some b2, .cells #[vS ((rd z_api_Field a0.vFields y1_1).vName),vI ((rd z_api_Field a0.vFields y1_1).vType),vI ((rd z_api_Field a0.vFields y1_1).vAt)] 36 (0,0)),(some b1, .cells #[vI a0.vKind,vS a0.vName,vI a0.vInt.vSize,vB a0.vInt.vSigned,vI a0.vRef,vI a0.vN,vL A0_6 a0.vFields.length c0_6] 34 (0,0))]) rfl rfl Tryd.sizeOf36 rfl rfl (by decide) rfl HS3 rfl (Nat.le_of_ble_eq_true rfl) rfl rfl ?_
    intro w4 HS4
    try simp only [sc0,sc1]
    refine run_nil<|norm_then<|wp_seq<|wp_seq<|region<|rs (vP b2 2) (r_fieldBox (n:=1) (o':=2) rfl Tryd.runUnderlying36 rfl Tryd.sizeOf3 (by decide) rfl)<|rs (vI ((rd z_api_Field a0.vFields y1_1).vAt)) (r_loadBox rfl Tryd.isAgg3 (HS4.look 0 rfl) rfl)<|rs (vI y1_0) (r_move rfl)<|rs (vB (decide ((rd z_api_Field a0.vFields y1_1).vAt<y1_0))) (r_bin rfl rfl rfl)<|run_frame (by simp only [sc0,sc1];rfl) ?_
    refine rs (vB (decide ((rd z_api_Field a0.vFields y1_1).vAt<y1_0))) (r_move rfl)<|rgs (decide ((rd z_api_Field a0.vFields y1_1).vAt<y1_0)) true (vP b2 2) rfl rfl rfl rfl (fun hg=>(r_fieldBox (n:=1) (o':=2) rfl Tryd.runUnderlying36 rfl Tryd.sizeOf3 (by decide) rfl))<|rgs (decide ((rd z_api_Field a0.vFields y1_1).vAt<y1_0)) true (vI ((rd z_api_Field a0.vFields y1_1).vAt)) rfl rfl rfl rfl (fun hg=>(r_loadBox (gvt (vP b2 2) hg rfl) Tryd.isAgg3 (HS4.look 0 rfl) rfl))<|rgs (decide ((rd z_api_Field a0.vFields y1_1).vAt<y1_0)) true (vB (decide ((rd z_api_Field a0.vFields y1_1).vAt>512))) rfl rfl rfl rfl (fun hg=>(r_bin (gvt (vI ((rd z_api_Field a0.vFields y1_1).vAt)) hg rfl) rfl rfl))<|run_frame (by simp only [sc0,sc1];rfl) ?_
    refine rs (vB ((decide ((rd z_api_Field a0.vFields y1_1).vAt<y1_0))||(decide ((rd z_api_Field a0.vFields y1_1).vAt>512)))) (r_pick_or rfl rfl (fun hp=>(gvt (vB (decide ((rd z_api_Field a0.vFields y1_1).vAt>512))) (and_i rfl hp) rfl))) ?_
    try simp only [sc0,sc1]
    refine run_nil<|norm_then<|wp_cond_split (t:=((decide ((rd z_api_Field a0.vFields y1_1).vAt<y1_0))||(decide ((rd z_api_Field a0.vFields y1_1).vAt>512)))) rfl (fun c2=>?_) (fun c2=>?_)
    ·replace H:=of_pos H c2
     refine wp_seq<|region<|rs (vB false) (r_assign rfl) ?_
     try simp only [sc0,sc1]
     refine run_nil<|norm_then<|wp_ret<|ret_then<|ret_block<|ret_then<|ret_loop<|ret_then ?_
     obtain rfl:=Option.some.inj H
     obtain rfl:=Option.some.inj G1
     exact bodyPost_ret (results_1 rfl (one_tmp rfl)) rfl<|⟨rfl,HS4.toE⟩
    ·replace H:=of_neg H (nt c2)
     refine wp_skip<|norm_then ?_
     obtain ⟨hi2,H⟩:=of_ite H
     obtain ⟨ad2,e2,hel2⟩:=ld_int hr1_0 hi2.1 hi2.2
     refine drawn [.eq (vP b2 2), .eq (vI ((rd z_api_Field a0.vFields y1_1).vAt)), .eq (vL A1_0 a1.length c1_0), .eq (vP b2 1), .eq (vI ((rd z_api_Field a0.vFields y1_1).vType)), .eq (Value.pointer (some (Addr.add ad2 (((rd z_api_Field a0.vFields y1_1).vType).toNat*1)))), .eq (vI (rd 0 a1 ((rd z_api_Field a0.vFields y1_1).vType))), .eq (vI (w64 ((rd z_api_Field a0.vFields y1_1).vAt+(rd 0 a1 ((rd z_api_Field a0.vFields y1_1).vType)))))] [24,25,26,27,28,29,30,31] hmix (by kernel_rfl) rfl (stable_eq (stable_eq (stable_eq (stable_eq (stable_eq (stable_eq (stable_eq (stable_eq stable_nil)))))))) ⟨ob_plain rfl (fun a' w' hE hk=>by have HSd:=HS4.step hE;exact does_eq (r_fieldBox (n:=1) (o':=2) (show _=vP b2 0 from hk 7 rfl) Tryd.runUnderlying36 rfl Tryd.sizeOf3 (by decide) rfl)),ob_plain rfl (fun a' w' hE hk=>by have HSd:=HS4.step hE;exact does_eq (r_loadBox (show _=vP b2 2 from hk 24 rfl) Tryd.isAgg3 (HSd.look 0 rfl) rfl)),ob_plain rfl (fun a' w' hE hk=>by have HSd:=HS4.step hE;exact does_eq (r_move (show _=vL A1_0 a1.length c1_0 from hk 1 rfl))),ob_plain rfl (fun a' w' hE hk=>by have HSd:=HS4.step hE;exact does_eq (r_fieldBox (n:=1) (o':=1) (show _=vP b2 0 from hk 7 rfl) Tryd.runUnderlying36 rfl Tryd.sizeOf3 (by decide) rfl)),ob_plain rfl (fun a' w' hE hk=>by have HSd:=HS4.step hE;exact does_eq (r_loadBox (show _=vP b2 1 from hk 27 rfl) Tryd.isAgg3 (HSd.look 0 rfl) rfl)),ob_plain rfl (fun a' w' hE hk=>by have HSd:=HS4.step hE;exact does_eq (r_indexA (sz:=1) (show _=vL A1_0 a1.length c1_0 from hk 26 rfl) e2 (show _=vI ((rd z_api_Field a0.vFields y1_1).vType) from hk 28 rfl) hi2.1 hi2.2 Tryd.runUnderlying62 Tryd.sizeOf3)),ob_plain rfl (fun a' w' hE hk=>by have HSd:=HS4.step hE;exact does_eq (r_load (show _=Value.pointer (some (Addr.add ad2 (((rd z_api_Field a0.vFields y1_1).vType).toNat*1))) from hk 29 rfl) Tryd.isAgg3 (hel2.cell0 HSd.sees rfl))),ob_plain rfl (fun a' w' hE hk=>by have HSd:=HS4.step hE;exact does_eq (r_bin (show _=vI ((rd z_api_Field a0.vFields y1_1).vAt) from hk 25 rfl) (show _=vI (rd 0 a1 ((rd z_api_Field a0.vFields y1_1).vType)) from hk 30 rfl) rfl)),trivial⟩ ?_
     intro w5 hE3
     simp only [List.zip_cons_cons,List.zip_nil_left,List.zip_nil_right,finL,sc0,sc1,List.length_cons,List.length_nil,List.drop_succ_cons,List.drop_zero,Nat.zero_add,Nat.reduceAdd]
     have HS5:=HS4.step hE3
     refine rs (vI (w64 ((rd z_api_Field a0.vFields y1_1).vAt+(rd 0 a1 ((rd z_api_Field a0.vFields y1_1).vType))))) (r_assign rfl) ?_
     try simp only [sc0,sc1]
     refine run_nil<|norm_block<|norm_then<|region<|rs (vI (w64 (y1_1+1))) (r_bin rfl rfl rfl)<|rs (vI (w64 (y1_1+1))) (r_move rfl) ?_
     try simp only [sc0,sc1]
     refine run_nil<|again_j m (Nat.lt_succ_self m) rfl ⟨(w64 ((rd z_api_Field a0.vFields y1_1).vAt+(rd 0 a1 ((rd z_api_Field a0.vFields y1_1).vType)))),(w64 (y1_1+1)),(fit rfl),H,HS5.tail⟩
   ·replace H:=of_neg H (nt c1)
    refine wp_exit<|exit_then ?_
    obtain rfl:=Option.some.inj H
    refine leave_j rfl ⟨_,rfl,(fit rfl),HS2⟩
 ·rintro us w6 ⟨s1,rfl,huo1,HS6⟩
  obtain ⟨uo1,rfl⟩:=unj huo1
  replace H:=G1
  clear G1
  try simp only [patch,sc0,sc1]
  refine norm_then<|wp_seq<|region<|rs (vI s1) (r_move rfl)<|rs (vP b1 5) (r_fieldBox (n:=1) (o':=5) rfl Tryd.runUnderlying34 rfl Tryd.sizeOf3 (by decide) rfl)<|rs (vI a0.vN) (r_loadBox rfl Tryd.isAgg3 (HS6.look 0 rfl) rfl)<|rs (vB (decide (s1≤a0.vN))) (r_bin rfl rfl rfl)<|run_frame (by simp only [sc0,sc1];rfl) ?_
  refine rs (vB (decide (s1≤a0.vN))) (r_assign rfl) ?_
  try simp only [sc0,sc1]
  refine run_nil<|norm_then<|wp_ret ?_
  obtain rfl:=Option.some.inj H
  exact bodyPost_ret (results_1 rfl (one_tmp rfl)) rfl<|⟨rfl,HS6.toE⟩
def ctf_valid_1.f (k:Nat) (a0:api_Def) (x0:List Int):Option (Bool):=(if (true&&((a0.vKind==4)==true))=true then ctf_placed.f k a0 x0 else some false).bind fun v1=>(some ((a0.vKind==4)&&(!v1)))
theorem ctf_valid_1.calls (k:Nat) (a0:api_Def) (x0:List Int) (A0_6:Option Addr) (c0_6:Nat) (bx0:Nat) (Ax0_0:Option Addr) (cx0_0:Nat) {h0:View} {w0:World} (hv:Sees h0 w0) (hr0_6:Rd k_api_Field h0 A0_6 a0.vFields) (hc0_6:a0.vFields.length≤c0_6) (hrx0_0:Rd (Kd.int .i64) h0 Ax0_0 x0) (hcx0_0:x0.length≤cx0_0) (hx0:w0.heap[bx0]?=some (.cells #[vL Ax0_0 x0.length cx0_0] 62 (0,0))) {r:Bool} (H:ctf_valid_1.f k a0 x0=some r):Calls Tryd.prog 92 #[Value.agg #[vI a0.vKind,vS a0.vName,vI a0.vInt.vSize,vB a0.vInt.vSigned,vI a0.vRef,vI a0.vN,vL A0_6 a0.vFields.length c0_6],vP bx0 0] w0 (fun e w1=>e= .returned (vB r)∧Ext w0 w1):=by
 unfold ctf_valid_1.f at H
 have HS:St [] h0 w0 h0 [] w0:=St.init hv
 go_enter Tryd.func92,Tryd.ntmps92
 refine wp_seq<|region<|run_ex rfl rfl (does_box (cs:=#[vI a0.vKind,vS a0.vName,vI a0.vInt.vSize,vB a0.vInt.vSigned,vI a0.vRef,vI a0.vN,vL A0_6 a0.vFields.length c0_6]) rfl rfl) ?_
 rintro w1 _ hE1 ⟨b1,rfl,ge1,hb1⟩
 have HS1:=HS.new hE1 ge1 hb1
 refine rs (vB false) (r_assign rfl) ?_
 try simp only [sc0,sc1]
 refine run_nil<|norm_then<|wp_seq<|region<|rs (vP b1 0) (r_fieldBox (n:=1) (o':=0) rfl Tryd.runUnderlying34 rfl Tryd.sizeOf3 (by decide) rfl)<|rs (vI a0.vKind) (r_loadBox rfl Tryd.isAgg3 (HS1.look 0 rfl) rfl)<|rs (vB (a0.vKind==4)) (r_bin rfl rfl rfl)<|rs (vB (a0.vKind==4)) (r_move rfl)<|run_frame (by simp only [sc0,sc1];rfl) ?_
 refine rgs (a0.vKind==4) true (Value.agg #[vI a0.vKind,vS a0.vName,vI a0.vInt.vSize,vB a0.vInt.vSigned,vI a0.vRef,vI a0.vN,vL A0_6 a0.vFields.length c0_6]) rfl rfl rfl rfl (fun hg=>(r_loadBoxAgg (n:=7) (vs:=[vI a0.vKind,vS a0.vName,vI a0.vInt.vSize,vB a0.vInt.vSigned,vI a0.vRef,vI a0.vN,vL A0_6 a0.vFields.length c0_6]) rfl Tryd.isAgg34 (HS1.look 0 rfl) Tryd.sizeOf34 rfl rfl))<|rgs (a0.vKind==4) true (vL Ax0_0 x0.length cx0_0) rfl rfl rfl rfl (fun hg=>(r_loadBox rfl Tryd.isAgg62 (heap_ext hx0 HS1.toE) rfl)) ?_
 obtain ⟨v1,H1,H⟩:=of_bind H
 refine run_g (b:=(a0.vKind==4)) (c:=true) (v:=vB v1) rfl rfl rfl rfl (fun hg=>(does_call_eq Tryd.call93 rfl (map2 (gvt (Value.agg #[vI a0.vKind,vS a0.vName,vI a0.vInt.vSize,vB a0.vInt.vSigned,vI a0.vRef,vI a0.vN,vL A0_6 a0.vFields.length c0_6]) hg rfl) (gvt (vL Ax0_0 x0.length cx0_0) hg rfl)) (ctf_placed.calls k a0 x0 A0_6 c0_6 Ax0_0 cx0_0 HS1.sees hr0_6 hc0_6 hrx0_0 hcx0_0 (of_pos H1 hg)))) ?_
 intro w2 hE2
 have HS2:=HS1.step hE2
 refine rgs (a0.vKind==4) true (vB (!v1)) rfl rfl rfl rfl (fun hg=>(r_not (gvt (vB v1) hg rfl)))<|run_frame (by simp only [sc0,sc1];rfl) ?_
 refine rs (vB ((a0.vKind==4)&&(!v1))) (r_pick_and rfl (fun hp=>(gvt (vB (!v1)) (and_i rfl hp) rfl)) rfl)<|rs (vB ((a0.vKind==4)&&(!v1))) (r_assign rfl) ?_
 try simp only [sc0,sc1]
 refine run_nil<|norm_then<|wp_ret ?_
 obtain rfl:=Option.some.inj H
 exact bodyPost_ret (results_1 rfl (one_tmp rfl)) rfl<|⟨rfl,HS2.toE⟩
def ctf_valid.l0 (k:Nat) (a0:api_Types):Nat→Int→(List (ByteArray×Bool))→Option ((Bool)⊕((List (ByteArray×Bool))))
 |0,_,_=>none
 |m+1,y1_0,y1_1=>if (decide (y1_0<(a0.vDefs.length:Int)))=true then (if 0≤y1_0∧y1_0<a0.vDefs.length then ((ctf_shaped.f k (rd z_api_Def a0.vDefs y1_0) (a0.vDefs.length:Int)).bind fun v1=>((if (true&&((!v1)==false))=true then ctf_named.f (rd z_api_Def a0.vDefs y1_0) else some false).bind fun v2=>(if ((!v1)||(v2&&((mfind strEq y1_1 ((rd z_api_Def a0.vDefs y1_0).vName)).getD false)))=true then (some (.inl false)) else (ctf_valid.l0 k a0 m (IntKind.wrap .i64 (y1_0+1)) (mput strEq y1_1 ((rd z_api_Def a0.vDefs y1_0).vName) true))))) else none) else (some (.inr y1_1))
def ctf_valid.f (k:Nat) (a0:api_Types):Option (Bool):=if (decide ((a0.vDefs.length:Int)>200))=true then (some false) else ((ctf_valid.l0 k a0 k 0 ([]:List (ByteArray×Bool))).bind fun xx1=>(match xx1 with| .inl r=>some r| .inr s1=>(ctf_sizes.f k a0).bind fun v3=>((if (true&&((!v3.2)==false))=true then ctf_ends.f k a0 else some false).bind fun v4=>(if ((!v3.2)||(!v4))=true then (some false) else ((slices_ContainsFunc_api_Def_api_Def.f k a0.vDefs (fun z0=>ctf_valid_1.f k z0 v3.1)).bind fun v5=>(some (!v5)))))))
theorem ctf_valid.calls (k:Nat) (a0:api_Types) (A0_0:Option Addr) (c0_0:Nat) {h0:View} {w0:World} (hv:Sees h0 w0) (hr0_0:Rd k_api_Def h0 A0_0 a0.vDefs) (hc0_0:a0.vDefs.length≤c0_0) {r:Bool} (H:ctf_valid.f k a0=some r):Calls Tryd.prog 47 #[Value.agg #[vL A0_0 a0.vDefs.length c0_0]] w0 (fun e w1=>e= .returned (vB r)∧Ext w0 w1):=by
 unfold ctf_valid.f at H
 have HS:St [] h0 w0 h0 [] w0:=St.init hv
 go_enter Tryd.func47,Tryd.ntmps47
 refine wp_seq<|region<|run_ex rfl rfl (does_box (cs:=#[vL A0_0 a0.vDefs.length c0_0]) rfl rfl) ?_
 rintro w1 _ hE1 ⟨b1,rfl,ge1,hb1⟩
 have HS1:=HS.new hE1 ge1 hb1
 refine rs (vB false) (r_assign rfl) ?_
 try simp only [sc0,sc1]
 refine run_nil<|norm_then<|wp_seq<|wp_seq<|region<|rs (vP b1 0) (r_fieldBox (n:=1) (o':=0) rfl Tryd.runUnderlying24 rfl Tryd.sizeOf22 (by decide) rfl)<|rs (vL A0_0 a0.vDefs.length c0_0) (r_loadBox rfl Tryd.isAgg22 (HS1.look 0 rfl) rfl)<|rs (vI (a0.vDefs.length:Int)) (r_len rfl Tryd.runUnderlying22)<|rs (vB (decide ((a0.vDefs.length:Int)>200))) (r_bin rfl rfl rfl) ?_
 try simp only [sc0,sc1]
 refine run_nil<|norm_then<|wp_cond_split (t:=(decide ((a0.vDefs.length:Int)>200))) rfl (fun c1=>?_) (fun c1=>?_)
 ·replace H:=of_pos H c1
  refine wp_seq<|region<|rs (vB false) (r_assign rfl) ?_
  try simp only [sc0,sc1]
  refine run_nil<|norm_then<|wp_ret<|ret_then ?_
  obtain rfl:=Option.some.inj H
  exact bodyPost_ret (results_1 rfl (one_tmp rfl)) rfl<|⟨rfl,HS1.toE⟩
 ·replace H:=of_neg H (nt c1)
  refine wp_skip<|norm_then<|wp_seq<|region<|run_mkmap HS1 ?_
  intro w2 b2 HS2
  refine rs (Value.map (some b2)) (r_assign rfl) ?_
  try simp only [sc0,sc1]
  refine run_nil<|norm_then<|wp_seq<|wp_seq<|region<|rs (vP b1 0) (r_fieldBox (n:=1) (o':=0) rfl Tryd.runUnderlying24 rfl Tryd.sizeOf22 (by decide) rfl)<|rs (vL A0_0 a0.vDefs.length c0_0) (r_loadBox rfl Tryd.isAgg22 (HS2.look 1 rfl) rfl)<|rs (vI (a0.vDefs.length:Int)) (r_len rfl Tryd.runUnderlying22)<|rs (vI 0) (r_move rfl) ?_
  try simp only [sc0,sc1]
  refine run_nil<|norm_then ?_
  obtain ⟨xx1,H,G1⟩:=of_bind H
  refine loop_j [2,5,16,17,18,19,20,21,22,23,24,25,26,27,28,29,30,31,32,33,34,35,36,37,38,39] (fun m us w'=>∃(y1_0:Int),∃(y1_1:List (ByteArray×Bool)),∃(esy1_1:Array MapEntry) (cly1_1:Nat),Fit us (fun uy1=>[(uy1 0),(uy1 1),vI y1_0,(uy1 3),(uy1 4),(uy1 5),(uy1 6),(uy1 7),(uy1 8),(uy1 9),(uy1 10),(uy1 11),(uy1 12),(uy1 13),(uy1 14),(uy1 15),(uy1 16),(uy1 17),(uy1 18),(uy1 19),(uy1 20),(uy1 21),(uy1 22),(uy1 23),(uy1 24),(uy1 25)])∧ctf_valid.l0 k a0 m y1_0 y1_1=some xx1∧MapOk vS vB y1_1 esy1_1 cly1_1∧St [] h0 w0 h0 [(some b2, .map esy1_1 cly1_1),(some b1, .cells #[vL A0_0 a0.vDefs.length c0_0] 24 (0,0))] w') (fun us w'=>∃(s1:(List (ByteArray×Bool))),xx1= .inr s1∧∃(eso1_0:Array MapEntry) (clo1_0:Nat),Fit us (fun uo1=>[(uo1 0),(uo1 1),(uo1 2),(uo1 3),(uo1 4),(uo1 5),(uo1 6),(uo1 7),(uo1 8),(uo1 9),(uo1 10),(uo1 11),(uo1 12),(uo1 13),(uo1 14),(uo1 15),(uo1 16),(uo1 17),(uo1 18),(uo1 19),(uo1 20),(uo1 21),(uo1 22),(uo1 23),(uo1 24),(uo1 25)])∧MapOk vS vB s1 eso1_0 clo1_0∧St [] h0 w0 h0 [(some b2, .map eso1_0 clo1_0),(some b1, .cells #[vL A0_0 a0.vDefs.length c0_0] 24 (0,0))] w') k ⟨0,([]:List (ByteArray×Bool)),#[],0,(fit rfl),H,(MapOk.nil),HS2⟩ ?_ ?_
  ·rintro m us w3 ⟨y1_0,y1_1,esy1_1,cly1_1,huy1,H,hoy1_1,HS3⟩
   obtain ⟨uy1,rfl⟩:=unj huy1
   cases m with
   |zero=>exact absurd H (by simp [ctf_valid.l0])
   |succ m=>
    rw [ctf_valid.l0] at H
    try simp only [patch,sc0,sc1]
    refine wp_seq<|region<|rs (vB (decide (y1_0<(a0.vDefs.length:Int)))) (r_bin rfl rfl rfl) ?_
    try simp only [sc0,sc1]
    refine run_nil<|norm_then<|wp_seq<|wp_cond_split (t:=(decide (y1_0<(a0.vDefs.length:Int)))) rfl (fun c2=>?_) (fun c2=>?_)
    ·replace H:=of_pos H c2
     refine wp_skip<|norm_then<|wp_seq<|wp_block<|wp_seq<|region ?_
     obtain ⟨hi1,H⟩:=of_ite H
     obtain ⟨ad1,Aad1_6,cad1_6,e1,hel1,hcad1_6,hrad1_6⟩:=ld_api_Def hr0_0 hi1.1 hi1.2
     refine rs (Value.pointer (some (Addr.add ad1 (y1_0.toNat*7)))) (r_indexA (sz:=7) rfl e1 rfl hi1.1 hi1.2 Tryd.runUnderlying22 Tryd.sizeOf34)<|rs (Value.agg #[vI ((rd z_api_Def a0.vDefs y1_0).vKind),vS ((rd z_api_Def a0.vDefs y1_0).vName),vI ((rd z_api_Def a0.vDefs y1_0).vInt.vSize),vB ((rd z_api_Def a0.vDefs y1_0).vInt.vSigned),vI ((rd z_api_Def a0.vDefs y1_0).vRef),vI ((rd z_api_Def a0.vDefs y1_0).vN),vL Aad1_6 ((rd z_api_Def a0.vDefs y1_0).vFields).length cad1_6]) (r_loadAgg rfl Tryd.isAgg34 (hel1.sees HS3.sees) Tryd.sizeOf34)<|run_ex rfl rfl (does_alloc (cs:=#[vI 0,vS ByteArray.empty,vI 0,vB false,vI 0,vI 0,vL none 0 0]) Tryd.zeroValue34 rfl) ?_
     rintro w4 _ hE2 ⟨b3,rfl,ge2,hb2⟩
     have HS4:=HS3.new hE2 ge2 hb2
     refine run_st (i:=0) (cs:=[vI 0,vS ByteArray.empty,vI 0,vB false,vI 0,vI 0,vL none 0 0]) (cs':=[vI ((rd z_api_Def a0.vDefs y1_0).vKind),vS ((rd z_api_Def a0.vDefs y1_0).vName),vI ((rd z_api_Def a0.vDefs y1_0).vInt.vSize),vB ((rd z_api_Def a0.vDefs y1_0).vInt.vSigned),vI ((rd z_api_Def a0.vDefs y1_0).vRef),vI ((rd z_api_Def a0.vDefs y1_0).vN),vL Aad1_6 ((rd z_api_Def a0.vDefs y1_0).vFields).length cad1_6]) (vs:=[vI ((rd z_api_Def a0.vDefs y1_0).vKind),vS ((rd z_api_Def a0.vDefs y1_0).vName),vI ((rd z_api_Def a0.vDefs y1_0).vInt.vSize),vB ((rd z_api_Def a0.vDefs y1_0).vInt.vSigned),vI ((rd z_api_Def a0.vDefs y1_0).vRef),vI ((rd z_api_Def a0.vDefs y1_0).vN),vL Aad1_6 ((rd z_api_Def a0.vDefs y1_0).vFields).length cad1_6]) (bs':=[(some b3, .cells #[vI ((rd z_api_Def a0.vDefs y1_0).vKind),vS ((rd z_api_Def a0.vDefs y1_0).vName),vI ((rd z_api_Def a0.vDefs y1_0).vInt.vSize),vB ((rd z_api_Def a0.vDefs y1_0).vInt.vSigned),vI ((rd z_api_Def a0.vDefs y1_0).vRef),vI ((rd z_api_Def a0.vDefs y1_0).vN),vL Aad1_6 ((rd z_api_Def a0.vDefs y1_0).vFields).length cad1_6] 34 (0,0)),(some b2, .map esy1_1 cly1_1),(some b1, .cells #[vL A0_0 a0.vDefs.length c0_0] 24 (0,0))]) rfl rfl Tryd.sizeOf34 rfl rfl (by decide) rfl HS4 rfl (Nat.le_of_ble_eq_true rfl) rfl rfl ?_
     intro w5 HS5
     try simp only [sc0,sc1]
     refine run_nil<|norm_then<|wp_seq<|wp_seq<|region<|rs (Value.agg #[vI ((rd z_api_Def a0.vDefs y1_0).vKind),vS ((rd z_api_Def a0.vDefs y1_0).vName),vI ((rd z_api_Def a0.vDefs y1_0).vInt.vSize),vB ((rd z_api_Def a0.vDefs y1_0).vInt.vSigned),vI ((rd z_api_Def a0.vDefs y1_0).vRef),vI ((rd z_api_Def a0.vDefs y1_0).vN),vL Aad1_6 ((rd z_api_Def a0.vDefs y1_0).vFields).length cad1_6]) (r_loadBoxAgg (n:=7) (vs:=[vI ((rd z_api_Def a0.vDefs y1_0).vKind),vS ((rd z_api_Def a0.vDefs y1_0).vName),vI ((rd z_api_Def a0.vDefs y1_0).vInt.vSize),vB ((rd z_api_Def a0.vDefs y1_0).vInt.vSigned),vI ((rd z_api_Def a0.vDefs y1_0).vRef),vI ((rd z_api_Def a0.vDefs y1_0).vN),vL Aad1_6 ((rd z_api_Def a0.vDefs y1_0).vFields).length cad1_6]) rfl Tryd.isAgg34 (HS5.look 0 rfl) Tryd.sizeOf34 rfl rfl)<|rs (vP b1 0) (r_fieldBox (n:=1) (o':=0) rfl Tryd.runUnderlying24 rfl Tryd.sizeOf22 (by decide) rfl)<|rs (vL A0_0 a0.vDefs.length c0_0) (r_loadBox rfl Tryd.isAgg22 (HS5.look 2 rfl) rfl)<|rs (vI (a0.vDefs.length:Int)) (r_len rfl Tryd.runUnderlying22)<|run_frame (by simp only [sc0,sc1];rfl) ?_
     obtain ⟨v1,H1,H⟩:=of_bind H
     refine run_eq (v:=vB v1) rfl rfl (does_call_eq Tryd.call89 rfl rfl (ctf_shaped.calls k (rd z_api_Def a0.vDefs y1_0) (a0.vDefs.length:Int) Aad1_6 cad1_6 HS5.sees hrad1_6 hcad1_6 H1)) ?_
     intro w6 hE3
     have HS6:=HS5.step hE3
     refine rs (vB (!v1)) (r_not rfl)<|rs (vB (!v1)) (r_move rfl)<|rgs (!v1) true (Value.agg #[vI ((rd z_api_Def a0.vDefs y1_0).vKind),vS ((rd z_api_Def a0.vDefs y1_0).vName),vI ((rd z_api_Def a0.vDefs y1_0).vInt.vSize),vB ((rd z_api_Def a0.vDefs y1_0).vInt.vSigned),vI ((rd z_api_Def a0.vDefs y1_0).vRef),vI ((rd z_api_Def a0.vDefs y1_0).vN),vL Aad1_6 ((rd z_api_Def a0.vDefs y1_0).vFields).length cad1_6]) rfl rfl rfl rfl (fun hg=>(r_loadBoxAgg (n:=7) (vs:=[vI ((rd z_api_Def a0.vDefs y1_0).vKind),vS ((rd z_api_Def a0.vDefs y1_0).vName),vI ((rd z_api_Def a0.vDefs y1_0).vInt.vSize),vB ((rd z_api_Def a0.vDefs y1_0).vInt.vSigned),vI ((rd z_api_Def a0.vDefs y1_0).vRef),vI ((rd z_api_Def a0.vDefs y1_0).vN),vL Aad1_6 ((rd z_api_Def a0.vDefs y1_0).vFields).length cad1_6]) rfl Tryd.isAgg34 (HS6.look 0 rfl) Tryd.sizeOf34 rfl rfl))<|run_frame (by simp only [sc0,sc1];rfl) ?_
     obtain ⟨v2,H2,H⟩:=of_bind H
     refine run_g (b:=(!v1)) (c:=true) (v:=vB v2) rfl rfl rfl rfl (fun hg=>(does_call_eq Tryd.call68 rfl (map1 (gvt (Value.agg #[vI ((rd z_api_Def a0.vDefs y1_0).vKind),vS ((rd z_api_Def a0.vDefs y1_0).vName),vI ((rd z_api_Def a0.vDefs y1_0).vInt.vSize),vB ((rd z_api_Def a0.vDefs y1_0).vInt.vSigned),vI ((rd z_api_Def a0.vDefs y1_0).vRef),vI ((rd z_api_Def a0.vDefs y1_0).vN),vL Aad1_6 ((rd z_api_Def a0.vDefs y1_0).vFields).length cad1_6]) hg rfl)) (ctf_named.calls (rd z_api_Def a0.vDefs y1_0) Aad1_6 cad1_6 HS6.sees hrad1_6 hcad1_6 (of_pos H2 hg)))) ?_
     intro w7 hE4
     have HS7:=HS6.step hE4
     refine rgs (!v1) true (vB v2) rfl rfl rfl rfl (fun hg=>(r_move (gvt (vB v2) hg rfl)))<|rgs v2 (true&&((!v1)==false)) (Value.map (some b2)) rfl rfl rfl rfl (fun hg=>(r_move rfl))<|rgs v2 (true&&((!v1)==false)) (vP b3 1) rfl rfl rfl rfl (fun hg=>(r_fieldBox (n:=1) (o':=1) rfl Tryd.runUnderlying34 rfl Tryd.sizeOf9 (by decide) rfl))<|run_frame (by simp only [sc0,sc1];rfl) ?_
     refine rgs v2 (true&&((!v1)==false)) (vS ((rd z_api_Def a0.vDefs y1_0).vName)) rfl rfl rfl rfl (fun hg=>(r_loadBox (gvt (vP b3 1) hg rfl) Tryd.isAgg9 (HS7.look 0 rfl) rfl))<|rgs v2 (true&&((!v1)==false)) (vB ((mfind strEq y1_1 ((rd z_api_Def a0.vDefs y1_0).vName)).getD false)) rfl rfl rfl rfl (fun hg=>(r_mget (key_str Tryd.runUnderlying9) (k:=((rd z_api_Def a0.vDefs y1_0).vName)) (m:=y1_1) (ev:=vB) false (gvt (Value.map (some b2)) hg rfl) (gvt (vS ((rd z_api_Def a0.vDefs y1_0).vName)) hg rfl) Tryd.runUnderlying150 Tryd.zeroValue4 (HS7.look 1 rfl) hoy1_1))<|rgs (!v1) true (vB (v2&&((mfind strEq y1_1 ((rd z_api_Def a0.vDefs y1_0).vName)).getD false))) rfl rfl rfl rfl (fun hg=>(r_pick_and (gvt (vB v2) hg rfl) (fun hp=>(gvt (vB ((mfind strEq y1_1 ((rd z_api_Def a0.vDefs y1_0).vName)).getD false)) (and_i hg hp) rfl)) rfl))<|rs (vB ((!v1)||(v2&&((mfind strEq y1_1 ((rd z_api_Def a0.vDefs y1_0).vName)).getD false)))) (r_pick_or rfl rfl (fun hp=>(gvt (vB (v2&&((mfind strEq y1_1 ((rd z_api_Def a0.vDefs y1_0).vName)).getD false))) (and_i rfl hp) rfl))) ?_
     try simp only [sc0,sc1]
     refine run_nil<|norm_then<|wp_cond_split (t:=((!v1)||(v2&&((mfind strEq y1_1 ((rd z_api_Def a0.vDefs y1_0).vName)).getD false)))) rfl (fun c3=>?_) (fun c3=>?_)
     ·replace H:=of_pos H c3
      refine wp_seq<|region<|rs (vB false) (r_assign rfl) ?_
      try simp only [sc0,sc1]
      refine run_nil<|norm_then<|wp_ret<|ret_then<|ret_block<|ret_then<|ret_loop<|ret_then ?_
      obtain rfl:=Option.some.inj H
      obtain rfl:=Option.some.inj G1
      exact bodyPost_ret (results_1 rfl (one_tmp rfl)) rfl<|⟨rfl,HS7.toE⟩
     ·replace H:=of_neg H (nt c3)
      refine wp_skip<|norm_then<|region<|rs (Value.map (some b2)) (r_move rfl)<|rs (vP b3 1) (r_fieldBox (n:=1) (o':=1) rfl Tryd.runUnderlying34 rfl Tryd.sizeOf9 (by decide) rfl)<|rs (vS ((rd z_api_Def a0.vDefs y1_0).vName)) (r_loadBox rfl Tryd.isAgg9 (HS7.look 0 rfl) rfl)<|mupd (key_str Tryd.runUnderlying9) (i:=1) (k:=((rd z_api_Def a0.vDefs y1_0).vName)) (v:=true) (ev:=vB) (m:=y1_1) (by first|exact .inl rfl|exact .inr rfl) rfl rfl rfl rfl rfl Tryd.runUnderlying150 HS7 rfl hoy1_1 ?_
      intro w8 es1 cl1 HS8 ho1
      try simp only [sc0,sc1]
      refine run_nil<|norm_block<|norm_then<|region<|rs (vI (w64 (y1_0+1))) (r_bin rfl rfl rfl)<|rs (vI (w64 (y1_0+1))) (r_move rfl) ?_
      try simp only [sc0,sc1]
      refine run_nil<|again_j m (Nat.lt_succ_self m) rfl ⟨(w64 (y1_0+1)),(mput strEq y1_1 ((rd z_api_Def a0.vDefs y1_0).vName) true),es1,cl1,(fit rfl),H,ho1,HS8.tail⟩
    ·replace H:=of_neg H (nt c2)
     refine wp_exit<|exit_then ?_
     obtain rfl:=Option.some.inj H
     refine leave_j rfl ⟨_,rfl,esy1_1,cly1_1,(fit rfl),hoy1_1,HS3⟩
  ·rintro us w9 ⟨s1,rfl,eso1_0,clo1_0,huo1,hoo1_0,HS9⟩
   obtain ⟨uo1,rfl⟩:=unj huo1
   replace H:=G1
   clear G1
   try simp only [patch,sc0,sc1]
   refine norm_then<|wp_seq<|region<|rs (Value.agg #[vL A0_0 a0.vDefs.length c0_0]) (r_loadBoxAgg (n:=1) (vs:=[vL A0_0 a0.vDefs.length c0_0]) rfl Tryd.isAgg24 (HS9.look 1 rfl) Tryd.sizeOf24 rfl rfl) ?_
   obtain ⟨v3,H3,H⟩:=of_bind H
   refine run_ex rfl rfl (does_call Tryd.call44 rfl (gives_in (h:=h0) (R:=(fun hx u=>∃(Av3_0_0:Option Addr) (cv3_0_0:Nat),u=Value.tuple #[vL Av3_0_0 v3.1.length cv3_0_0,vB v3.2]∧v3.1.length≤cv3_0_0∧Rd (Kd.int .i64) hx Av3_0_0 v3.1)) (Ext.rfl' w9) ((ctf_sizes.calls k a0 A0_0 c0_0 HS9.sees hr0_0 hc0_0 H3).mono ?_)) rfl) ?_
   ·rintro _ _ ⟨h1,Av3_0_0,cv3_0_0,rfl,hcv3_0_0,hrv3_0_0,g,ss,x⟩
    exact ⟨h1,_,rfl,⟨Av3_0_0,cv3_0_0,rfl,hcv3_0_0,hrv3_0_0⟩,g,ss,x⟩
   rintro w10 _ hE5 ⟨h1,⟨Av3_0_0,cv3_0_0,rfl,hcv3_0_0,hrv3_0_0⟩,gr1,se1⟩
   have HS10:=HS9.view hE5 gr1 se1
   refine rs (Value.tuple #[vL Av3_0_0 v3.1.length cv3_0_0,vB v3.2]) (r_move rfl)<|rs (vL Av3_0_0 v3.1.length cv3_0_0) (r_extract rfl rfl)<|run_frame (by simp only [sc0,sc1];rfl) ?_
   refine rs (vB v3.2) (r_extract rfl rfl)<|run_ex rfl rfl (does_alloc (cs:=#[vL none 0 0]) Tryd.zeroValue62 rfl) ?_
   rintro w11 _ hE6 ⟨b4,rfl,ge3,hb3⟩
   have HS11:=HS10.new hE6 ge3 hb3
   refine run_st (i:=0) (cs:=[vL none 0 0]) (cs':=[vL Av3_0_0 v3.1.length cv3_0_0]) (vs:=[vL Av3_0_0 v3.1.length cv3_0_0]) (bs':=[(some b4, .cells #[vL Av3_0_0 v3.1.length cv3_0_0] 62 (0,0)),(some b2, .map eso1_0 clo1_0),(some b1, .cells #[vL A0_0 a0.vDefs.length c0_0] 24 (0,0))]) rfl rfl Tryd.sizeOf62 rfl rfl (by decide) rfl HS11 rfl (Nat.le_of_ble_eq_true rfl) rfl rfl ?_
   intro w12 HS12
   refine rs (vB v3.2) (r_assign rfl) ?_
   try simp only [sc0,sc1]
   refine run_nil<|norm_then<|wp_seq<|wp_seq<|region<|rs (vB v3.2) (r_move rfl)<|rs (vB (!v3.2)) (r_not rfl)<|rs (vB (!v3.2)) (r_move rfl)<|rgs (!v3.2) true (Value.agg #[vL A0_0 a0.vDefs.length c0_0]) rfl rfl rfl rfl (fun hg=>(r_loadBoxAgg (n:=1) (vs:=[vL A0_0 a0.vDefs.length c0_0]) rfl Tryd.isAgg24 (HS12.look 2 rfl) Tryd.sizeOf24 rfl rfl))<|run_frame (by simp only [sc0,sc1];rfl) ?_
   obtain ⟨v4,H4,H⟩:=of_bind H
   refine run_g (b:=(!v3.2)) (c:=true) (v:=vB v4) rfl rfl rfl rfl (fun hg=>(does_call_eq Tryd.call90 rfl (map1 (gvt (Value.agg #[vL A0_0 a0.vDefs.length c0_0]) hg rfl)) (ctf_ends.calls k a0 A0_0 c0_0 HS12.sees (hr0_0.ext HS12.sub) hc0_0 (of_pos H4 hg)))) ?_
   intro w13 hE7
   have HS13:=HS12.step hE7
   refine rgs (!v3.2) true (vB (!v4)) rfl rfl rfl rfl (fun hg=>(r_not (gvt (vB v4) hg rfl)))<|rs (vB ((!v3.2)||(!v4))) (r_pick_or rfl rfl (fun hp=>(gvt (vB (!v4)) (and_i rfl hp) rfl))) ?_
   try simp only [sc0,sc1]
   refine run_nil<|norm_then<|wp_cond_split (t:=((!v3.2)||(!v4))) rfl (fun c4=>?_) (fun c4=>?_)
   ·replace H:=of_pos H c4
    refine wp_seq<|region<|rs (vB false) (r_assign rfl) ?_
    try simp only [sc0,sc1]
    refine run_nil<|norm_then<|wp_ret<|ret_then ?_
    obtain rfl:=Option.some.inj H
    exact bodyPost_ret (results_1 rfl (one_tmp rfl)) rfl<|⟨rfl,HS13.toE⟩
   ·replace H:=of_neg H (nt c4)
    refine wp_skip<|norm_then<|wp_seq<|region<|rs (vP b1 0) (r_fieldBox (n:=1) (o':=0) rfl Tryd.runUnderlying24 rfl Tryd.sizeOf22 (by decide) rfl)<|rs (vL A0_0 a0.vDefs.length c0_0) (r_loadBox rfl Tryd.isAgg22 (HS13.look 2 rfl) rfl)<|rs (Value.func (.func 92) #[] #[vP b4 0]) (r_makeFunc (vs:=[vP b4 0]) rfl) ?_
    obtain ⟨v5,H5,H⟩:=of_bind H
    refine run_eq (v:=vB v5) rfl rfl (does_call_eq Tryd.call91 rfl rfl (slices_ContainsFunc_api_Def_api_Def.calls k a0.vDefs (fun z0=>ctf_valid_1.f k z0 v3.1) A0_0 c0_0 92 [vP b4 0] HS13.sees (hr0_0.ext HS13.sub) hc0_0 Tryd.call92 (fun z0 Az0_6 cz0_6 h w hE hs hv hz0_6 hzc0_6 r H=>ctf_valid_1.calls k z0 v3.1 Az0_6 cz0_6 b4 Av3_0_0 cv3_0_0 hv hz0_6 hzc0_6 (hrv3_0_0.ext hs) hcv3_0_0 (heap_ext (HS13.look 0 rfl) hE) H) H5)) ?_
    intro w14 hE8
    have HS14:=HS13.step hE8
    refine run_frame (by simp only [sc0,sc1];rfl) ?_
    refine rs (vB (!v5)) (r_not rfl)<|rs (vB (!v5)) (r_assign rfl) ?_
    try simp only [sc0,sc1]
    refine run_nil<|norm_then<|wp_ret ?_
    obtain rfl:=Option.some.inj H
    exact bodyPost_ret (results_1 rfl (one_tmp rfl)) rfl<|⟨rfl,HS14.toE⟩
def ctf_given.f (k:Nat) (a0:api_Types) (a1:Int):Option (Int):=(ctf_valid.f k a0).bind fun v1=>(if (!v1)=true then (some 80) else (if ((decide (a1<0))||(decide (a1≥(a0.vDefs.length:Int))))=true then (some 3) else (some 0)))
theorem ctf_given.calls (k:Nat) (a0:api_Types) (a1:Int) (A0_0:Option Addr) (c0_0:Nat) {h0:View} {w0:World} (hv:Sees h0 w0) (hr0_0:Rd k_api_Def h0 A0_0 a0.vDefs) (hc0_0:a0.vDefs.length≤c0_0) {r:Int} (H:ctf_given.f k a0 a1=some r):Calls Tryd.prog 43 #[Value.agg #[vL A0_0 a0.vDefs.length c0_0],vI a1] w0 (fun e w1=>e= .returned (vI r)∧Ext w0 w1):=by
 unfold ctf_given.f at H
 have HS:St [] h0 w0 h0 [] w0:=St.init hv
 go_enter Tryd.func43,Tryd.ntmps43
 refine wp_seq<|region<|run_ex rfl rfl (does_box (cs:=#[vL A0_0 a0.vDefs.length c0_0]) rfl rfl) ?_
 rintro w1 _ hE1 ⟨b1,rfl,ge1,hb1⟩
 have HS1:=HS.new hE1 ge1 hb1
 refine rs (vI 0) (r_assign rfl) ?_
 try simp only [sc0,sc1]
 refine run_nil<|norm_then<|wp_seq<|wp_block<|wp_seq<|region<|rs (Value.agg #[vL A0_0 a0.vDefs.length c0_0]) (r_loadBoxAgg (n:=1) (vs:=[vL A0_0 a0.vDefs.length c0_0]) rfl Tryd.isAgg24 (HS1.look 0 rfl) Tryd.sizeOf24 rfl rfl) ?_
 obtain ⟨v1,H1,H⟩:=of_bind H
 refine run_eq (v:=vB v1) rfl rfl (does_call_eq Tryd.call47 rfl rfl (ctf_valid.calls k a0 A0_0 c0_0 HS1.sees hr0_0 hc0_0 H1)) ?_
 intro w2 hE2
 have HS2:=HS1.step hE2
 refine rs (vB (!v1)) (r_not rfl)<|rs (vB (!v1)) (r_assign rfl) ?_
 try simp only [sc0,sc1]
 refine run_nil<|norm_then<|wp_cond_split (t:=(!v1)) rfl (fun c1=>?_) (fun c1=>?_)
 ·replace H:=of_pos H c1
  refine wp_seq<|region<|rs (vI 80) (r_assign rfl) ?_
  try simp only [sc0,sc1]
  refine run_nil<|norm_then<|wp_ret<|ret_block<|ret_then ?_
  obtain rfl:=Option.some.inj H
  exact bodyPost_ret (results_1 rfl (one_tmp rfl)) rfl<|⟨rfl,HS2.toE⟩
 ·replace H:=of_neg H (nt c1)
  refine wp_seq<|region<|rs (vI a1) (r_move rfl)<|rs (vB (decide (a1<0))) (r_bin rfl rfl rfl)<|rs (vB (decide (a1<0))) (r_move rfl)<|rgs (decide (a1<0)) true (vI a1) rfl rfl rfl rfl (fun hg=>(r_move rfl))<|run_frame (by simp only [sc0,sc1];rfl) ?_
  refine rgs (decide (a1<0)) true (vP b1 0) rfl rfl rfl rfl (fun hg=>(r_fieldBox (n:=1) (o':=0) rfl Tryd.runUnderlying24 rfl Tryd.sizeOf22 (by decide) rfl))<|rgs (decide (a1<0)) true (vL A0_0 a0.vDefs.length c0_0) rfl rfl rfl rfl (fun hg=>(r_loadBox (gvt (vP b1 0) hg rfl) Tryd.isAgg22 (HS2.look 0 rfl) rfl))<|rgs (decide (a1<0)) true (vI (a0.vDefs.length:Int)) rfl rfl rfl rfl (fun hg=>(r_len (gvt (vL A0_0 a0.vDefs.length c0_0) hg rfl) Tryd.runUnderlying22))<|rgs (decide (a1<0)) true (vB (decide (a1≥(a0.vDefs.length:Int)))) rfl rfl rfl rfl (fun hg=>(r_bin (gvt (vI a1) hg rfl) (gvt (vI (a0.vDefs.length:Int)) hg rfl) rfl))<|run_frame (by simp only [sc0,sc1];rfl) ?_
  refine rs (vB ((decide (a1<0))||(decide (a1≥(a0.vDefs.length:Int))))) (r_pick_or rfl rfl (fun hp=>(gvt (vB (decide (a1≥(a0.vDefs.length:Int)))) (and_i rfl hp) rfl)))<|rs (vB ((decide (a1<0))||(decide (a1≥(a0.vDefs.length:Int))))) (r_assign rfl) ?_
  try simp only [sc0,sc1]
  refine run_nil<|norm_then<|wp_cond_split (t:=((decide (a1<0))||(decide (a1≥(a0.vDefs.length:Int))))) rfl (fun c2=>?_) (fun c2=>?_)
  ·replace H:=of_pos H c2
   refine wp_seq<|region<|rs (vI 3) (r_assign rfl) ?_
   try simp only [sc0,sc1]
   refine run_nil<|norm_then<|wp_ret<|ret_block<|ret_then ?_
   obtain rfl:=Option.some.inj H
   exact bodyPost_ret (results_1 rfl (one_tmp rfl)) rfl<|⟨rfl,HS2.toE⟩
  ·replace H:=of_neg H (nt c2)
   refine wp_skip<|norm_block<|norm_then<|wp_seq<|region<|rs (vI 0) (r_assign rfl) ?_
   try simp only [sc0,sc1]
   refine run_nil<|norm_then<|wp_ret ?_
   obtain rfl:=Option.some.inj H
   exact bodyPost_ret (results_1 rfl (one_tmp rfl)) rfl<|⟨rfl,HS2.toE⟩
def ctf_resolved.l0 (a0:api_Types):Nat→Int→Option (Int)
 |0,_=>none
 |m+1,y1_0=>if 0≤y1_0∧y1_0<a0.vDefs.length then (if ((rd z_api_Def a0.vDefs y1_0).vKind==6)=true then (if 0≤y1_0∧y1_0<a0.vDefs.length then (ctf_resolved.l0 a0 m ((rd z_api_Def a0.vDefs y1_0).vRef)) else none) else (some y1_0)) else none
def ctf_resolved.f (k:Nat) (a0:api_Types) (a1:Int):Option (Int):=(ctf_resolved.l0 a0 k a1).bind fun xx1=>(some xx1)
theorem ctf_resolved.calls (k:Nat) (a0:api_Types) (a1:Int) (A0_0:Option Addr) (c0_0:Nat) {h0:View} {w0:World} (hv:Sees h0 w0) (hr0_0:Rd k_api_Def h0 A0_0 a0.vDefs) (hc0_0:a0.vDefs.length≤c0_0) {r:Int} (H:ctf_resolved.f k a0 a1=some r):Calls Tryd.prog 45 #[Value.agg #[vL A0_0 a0.vDefs.length c0_0],vI a1] w0 (fun e w1=>e= .returned (vI r)∧Ext w0 w1):=by
 unfold ctf_resolved.f at H
 have HS:St [] h0 w0 h0 [] w0:=St.init hv
 go_enter Tryd.func45,Tryd.ntmps45
 refine wp_seq<|region<|run_ex rfl rfl (does_box (cs:=#[vL A0_0 a0.vDefs.length c0_0]) rfl rfl) ?_
 rintro w1 _ hE1 ⟨b1,rfl,ge1,hb1⟩
 have HS1:=HS.new hE1 ge1 hb1
 refine rs (vI 0) (r_assign rfl) ?_
 try simp only [sc0,sc1]
 refine run_nil<|norm_then<|wp_seq ?_
 obtain ⟨xx1,H,G1⟩:=of_bind H
 refine loop_j [1,5,6,7,8,9,10,11,12,13,14,15,16,17] (fun m us w'=>∃(y1_0:Int),Fit us (fun uy1=>[vI y1_0,(uy1 1),(uy1 2),(uy1 3),(uy1 4),(uy1 5),(uy1 6),(uy1 7),(uy1 8),(uy1 9),(uy1 10),(uy1 11),(uy1 12),(uy1 13)])∧ctf_resolved.l0 a0 m y1_0=some xx1∧St [] h0 w0 h0 [(some b1, .cells #[vL A0_0 a0.vDefs.length c0_0] 24 (0,0))] w') (fun us w'=>Fit us (fun uo1=>[vI xx1,(uo1 1),(uo1 2),(uo1 3),(uo1 4),(uo1 5),(uo1 6),(uo1 7),(uo1 8),(uo1 9),(uo1 10),(uo1 11),(uo1 12),(uo1 13)])∧St [] h0 w0 h0 [(some b1, .cells #[vL A0_0 a0.vDefs.length c0_0] 24 (0,0))] w') k ⟨a1,(fit rfl),H,HS1⟩ ?_ ?_
 ·rintro m us w2 ⟨y1_0,huy1,H,HS2⟩
  obtain ⟨uy1,rfl⟩:=unj huy1
  cases m with
  |zero=>exact absurd H (by simp [ctf_resolved.l0])
  |succ m=>
   rw [ctf_resolved.l0] at H
   try simp only [patch,sc0,sc1]
   refine wp_seq<|wp_seq<|region<|rs (vP b1 0) (r_fieldBox (n:=1) (o':=0) rfl Tryd.runUnderlying24 rfl Tryd.sizeOf22 (by decide) rfl)<|rs (vL A0_0 a0.vDefs.length c0_0) (r_loadBox rfl Tryd.isAgg22 (HS2.look 0 rfl) rfl)<|rs (vI y1_0) (r_move rfl) ?_
   obtain ⟨hi1,H⟩:=of_ite H
   obtain ⟨ad1,Aad1_6,cad1_6,e1,hel1,hcad1_6,hrad1_6⟩:=ld_api_Def hr0_0 hi1.1 hi1.2
   refine rs (Value.pointer (some (Addr.add ad1 (y1_0.toNat*7)))) (r_indexA (sz:=7) rfl e1 rfl hi1.1 hi1.2 Tryd.runUnderlying22 Tryd.sizeOf34)<|run_frame (by simp only [sc0,sc1];rfl) ?_
   refine rs (Value.pointer (some (Addr.add (Addr.add ad1 (y1_0.toNat*7)) 0))) (r_fieldEl (n:=1) (o':=0) rfl Tryd.runUnderlying34 rfl Tryd.sizeOf3 (by decide) rfl)<|rs (vI ((rd z_api_Def a0.vDefs y1_0).vKind)) (r_load rfl Tryd.isAgg3 (hel1.cell HS2.sees 0 rfl))<|rs (vB ((rd z_api_Def a0.vDefs y1_0).vKind==6)) (r_bin rfl rfl rfl) ?_
   try simp only [sc0,sc1]
   refine run_nil<|norm_then<|wp_cond_split (t:=((rd z_api_Def a0.vDefs y1_0).vKind==6)) rfl (fun c1=>?_) (fun c1=>?_)
   ·replace H:=of_pos H c1
    refine wp_skip<|norm_then<|wp_block<|region<|rs (vP b1 0) (r_fieldBox (n:=1) (o':=0) rfl Tryd.runUnderlying24 rfl Tryd.sizeOf22 (by decide) rfl)<|rs (vL A0_0 a0.vDefs.length c0_0) (r_loadBox rfl Tryd.isAgg22 (HS2.look 0 rfl) rfl)<|rs (vI y1_0) (r_move rfl) ?_
    obtain ⟨hi2,H⟩:=of_ite H
    obtain ⟨ad2,Aad2_6,cad2_6,e2,hel2,hcad2_6,hrad2_6⟩:=ld_api_Def hr0_0 hi2.1 hi2.2
    refine rs (Value.pointer (some (Addr.add ad2 (y1_0.toNat*7)))) (r_indexA (sz:=7) rfl e2 rfl hi2.1 hi2.2 Tryd.runUnderlying22 Tryd.sizeOf34)<|run_frame (by simp only [sc0,sc1];rfl) ?_
    refine rs (Value.pointer (some (Addr.add (Addr.add ad2 (y1_0.toNat*7)) 4))) (r_fieldEl (n:=1) (o':=4) rfl Tryd.runUnderlying34 rfl Tryd.sizeOf3 (by decide) rfl)<|rs (vI ((rd z_api_Def a0.vDefs y1_0).vRef)) (r_load rfl Tryd.isAgg3 (hel2.cell HS2.sees 4 rfl))<|rs (vI ((rd z_api_Def a0.vDefs y1_0).vRef)) (r_assign rfl) ?_
    try simp only [sc0,sc1]
    refine run_nil<|norm_block<|again_j m (Nat.lt_succ_self m) rfl ⟨(rd z_api_Def a0.vDefs y1_0).vRef,(fit rfl),H,HS2⟩
   ·replace H:=of_neg H (nt c1)
    refine wp_exit<|exit_then ?_
    obtain rfl:=Option.some.inj H
    refine leave_j rfl ⟨(fit rfl),HS2⟩
 ·rintro us w3 ⟨huo1,HS3⟩
  obtain ⟨uo1,rfl⟩:=unj huo1
  replace H:=G1
  clear G1
  try simp only [patch,sc0,sc1]
  refine norm_then<|wp_seq<|region<|rs (vI xx1) (r_move rfl)<|rs (vI xx1) (r_assign rfl) ?_
  try simp only [sc0,sc1]
  refine run_nil<|norm_then<|wp_ret ?_
  obtain rfl:=Option.some.inj H
  exact bodyPost_ret (results_1 rfl (one_tmp rfl)) rfl<|⟨rfl,HS3.toE⟩
def ctf_member.l0 (a0:api_Types) (a2:ByteArray) (v1:Int):Nat→Int→Option ((api_Field×Int)⊕(Unit))
 |0,_=>none
 |m+1,y1_0=>if (decide (y1_0<(((rd z_api_Def a0.vDefs v1).vFields).length:Int)))=true then (if 0≤y1_0∧y1_0<((rd z_api_Def a0.vDefs v1).vFields).length then (if (strEq ((rd z_api_Field ((rd z_api_Def a0.vDefs v1).vFields) y1_0).vName) a2)=true then (some (.inl ((rd z_api_Field ((rd z_api_Def a0.vDefs v1).vFields) y1_0),0))) else (ctf_member.l0 a0 a2 v1 m (IntKind.wrap .i64 (y1_0+1)))) else none) else (some (.inr ()))
def ctf_member.f (k:Nat) (a0:api_Types) (a1:Int) (a2:ByteArray):Option (api_Field×Int):=(ctf_resolved.f k a0 a1).bind fun v1=>(if 0≤v1∧v1<a0.vDefs.length then (if ((rd z_api_Def a0.vDefs v1).vKind !=4)=true then (some ((⟨ByteArray.empty,0,0⟩:api_Field),5)) else ((ctf_member.l0 a0 a2 v1 k 0).bind fun xx1=>(match xx1 with| .inl r=>some r| .inr s1=>some ((⟨ByteArray.empty,0,0⟩:api_Field),3)))) else none)
theorem ctf_member.calls (k:Nat) (a0:api_Types) (a1:Int) (a2:ByteArray) (A0_0:Option Addr) (c0_0:Nat) {h0:View} {w0:World} (hv:Sees h0 w0) (hr0_0:Rd k_api_Def h0 A0_0 a0.vDefs) (hc0_0:a0.vDefs.length≤c0_0) {r:api_Field×Int} (H:ctf_member.f k a0 a1 a2=some r):Calls Tryd.prog 46 #[Value.agg #[vL A0_0 a0.vDefs.length c0_0],vI a1,vS a2] w0 (fun e w1=>e= .returned (Value.tuple #[Value.agg #[vS r.1.vName,vI r.1.vType,vI r.1.vAt],vI r.2])∧Ext w0 w1):=by
 unfold ctf_member.f at H
 have HS:St [] h0 w0 h0 [] w0:=St.init hv
 go_enter Tryd.func46,Tryd.ntmps46
 refine wp_seq<|region<|run_ex rfl rfl (does_box (cs:=#[vL A0_0 a0.vDefs.length c0_0]) rfl rfl) ?_
 rintro w1 _ hE1 ⟨b1,rfl,ge1,hb1⟩
 have HS1:=HS.new hE1 ge1 hb1
 refine run_ex rfl rfl (does_alloc (cs:=#[vS ByteArray.empty,vI 0,vI 0]) Tryd.zeroValue36 rfl) ?_
 rintro w2 _ hE2 ⟨b2,rfl,ge2,hb2⟩
 have HS2:=HS1.new hE2 ge2 hb2
 refine rs (vI 0) (r_assign rfl) ?_
 try simp only [sc0,sc1]
 refine run_nil<|norm_then<|wp_seq ?_
 obtain ⟨v1,H1,H⟩:=of_bind H
 obtain ⟨hi1,H⟩:=of_ite H
 obtain ⟨ad1,Aad1_6,cad1_6,e1,hel1,hcad1_6,hrad1_6⟩:=ld_api_Def hr0_0 hi1.1 hi1.2
 refine drawn [.eq (vP b1 0), .eq (vL A0_0 a0.vDefs.length c0_0), .eq (Value.agg #[vL A0_0 a0.vDefs.length c0_0]), .eq (vI a1), .eq (vI v1), .eq (Value.pointer (some (Addr.add ad1 (v1.toNat*7)))), .eq (Value.agg #[vI ((rd z_api_Def a0.vDefs v1).vKind),vS ((rd z_api_Def a0.vDefs v1).vName),vI ((rd z_api_Def a0.vDefs v1).vInt.vSize),vB ((rd z_api_Def a0.vDefs v1).vInt.vSigned),vI ((rd z_api_Def a0.vDefs v1).vRef),vI ((rd z_api_Def a0.vDefs v1).vN),vL Aad1_6 ((rd z_api_Def a0.vDefs v1).vFields).length cad1_6]), .ex (NewBox w2 #[vI 0,vS ByteArray.empty,vI 0,vB false,vI 0,vI 0,vL none 0 0] 34)] [11,12,13,14,15,16,17,8] hmix (by kernel_rfl) rfl (stable_eq (stable_eq (stable_eq (stable_eq (stable_eq (stable_eq (stable_eq (stable_ex NewBox.stable stable_nil)))))))) ⟨ob_plain rfl (fun a' w' hE hk=>by have HSd:=HS2.step hE;exact does_eq (r_fieldBox (n:=1) (o':=0) (show _=vP b1 0 from hk 3 rfl) Tryd.runUnderlying24 rfl Tryd.sizeOf22 (by decide) rfl)),ob_plain rfl (fun a' w' hE hk=>by have HSd:=HS2.step hE;exact does_eq (r_loadBox (show _=vP b1 0 from hk 11 rfl) Tryd.isAgg22 (HSd.look 1 rfl) rfl)),ob_plain rfl (fun a' w' hE hk=>by have HSd:=HS2.step hE;exact does_eq (r_loadBoxAgg (n:=1) (vs:=[vL A0_0 a0.vDefs.length c0_0]) (show _=vP b1 0 from hk 3 rfl) Tryd.isAgg24 (HSd.look 1 rfl) Tryd.sizeOf24 rfl rfl)),ob_plain rfl (fun a' w' hE hk=>by have HSd:=HS2.step hE;exact does_eq (r_move (show _=vI a1 from hk 1 rfl))),ob_plain rfl (fun a' w' hE hk=>by have HSd:=HS2.step hE;exact (does_call_eq Tryd.call45 rfl (map2 (show _=Value.agg #[vL A0_0 a0.vDefs.length c0_0] from hk 13 rfl) (show _=vI a1 from hk 14 rfl)) (ctf_resolved.calls k a0 a1 A0_0 c0_0 HSd.sees hr0_0 hc0_0 H1))),ob_plain rfl (fun a' w' hE hk=>by have HSd:=HS2.step hE;exact does_eq (r_indexA (sz:=7) (show _=vL A0_0 a0.vDefs.length c0_0 from hk 12 rfl) e1 (show _=vI v1 from hk 15 rfl) hi1.1 hi1.2 Tryd.runUnderlying22 Tryd.sizeOf34)),ob_plain rfl (fun a' w' hE hk=>by have HSd:=HS2.step hE;exact does_eq (r_loadAgg (show _=Value.pointer (some (Addr.add ad1 (v1.toNat*7))) from hk 16 rfl) Tryd.isAgg34 (hel1.sees HSd.sees) Tryd.sizeOf34)),ob_plain rfl (fun a' w' hE hk=>(alloc_in hE (cs:=#[vI 0,vS ByteArray.empty,vI 0,vB false,vI 0,vI 0,vL none 0 0]) Tryd.zeroValue34 rfl)),trivial⟩ ?_
 intro w3 hE3
 simp only [List.zip_cons_cons,List.zip_nil_left,List.zip_nil_right,finL,sc0,sc1,List.length_cons,List.length_nil,List.drop_succ_cons,List.drop_zero,Nat.zero_add,Nat.reduceAdd]
 rintro _ ⟨b3,rfl,ge3,hb3⟩
 have HS3:=HS2.new hE3 ge3 hb3
 refine run_st (i:=0) (cs:=[vI 0,vS ByteArray.empty,vI 0,vB false,vI 0,vI 0,vL none 0 0]) (cs':=[vI ((rd z_api_Def a0.vDefs v1).vKind),vS ((rd z_api_Def a0.vDefs v1).vName),vI ((rd z_api_Def a0.vDefs v1).vInt.vSize),vB ((rd z_api_Def a0.vDefs v1).vInt.vSigned),vI ((rd z_api_Def a0.vDefs v1).vRef),vI ((rd z_api_Def a0.vDefs v1).vN),vL Aad1_6 ((rd z_api_Def a0.vDefs v1).vFields).length cad1_6]) (vs:=[vI ((rd z_api_Def a0.vDefs v1).vKind),vS ((rd z_api_Def a0.vDefs v1).vName),vI ((rd z_api_Def a0.vDefs v1).vInt.vSize),vB ((rd z_api_Def a0.vDefs v1).vInt.vSigned),vI ((rd z_api_Def a0.vDefs v1).vRef),vI ((rd z_api_Def a0.vDefs v1).vN),vL Aad1_6 ((rd z_api_Def a0.vDefs v1).vFields).length cad1_6]) (bs':=[(some b3, .cells #[vI ((rd z_api_Def a0.vDefs v1).vKind),vS ((rd z_api_Def a0.vDefs v1).vName),vI ((rd z_api_Def a0.vDefs v1).vInt.vSize),vB ((rd z_api_Def a0.vDefs v1).vInt.vSigned),vI ((rd z_api_Def a0.vDefs v1).vRef),vI ((rd z_api_Def a0.vDefs v1).vN),vL Aad1_6 ((rd z_api_Def a0.vDefs v1).vFields).length cad1_6] 34 (0,0)),(some b2, .cells #[vS ByteArray.empty,vI 0,vI 0] 36 (0,0)),(some b1, .cells #[vL A0_0 a0.vDefs.length c0_0] 24 (0,0))]) rfl rfl Tryd.sizeOf34 rfl rfl (by decide) rfl HS3 rfl (Nat.le_of_ble_eq_true rfl) rfl rfl ?_
 intro w4 HS4
 try simp only [sc0,sc1]
 refine run_nil<|norm_then<|wp_seq<|wp_seq<|region<|rs (vP b3 0) (r_fieldBox (n:=1) (o':=0) rfl Tryd.runUnderlying34 rfl Tryd.sizeOf3 (by decide) rfl)<|rs (vI ((rd z_api_Def a0.vDefs v1).vKind)) (r_loadBox rfl Tryd.isAgg3 (HS4.look 0 rfl) rfl)<|rs (vB ((rd z_api_Def a0.vDefs v1).vKind !=4)) (r_bin rfl rfl rfl) ?_
 try simp only [sc0,sc1]
 refine run_nil<|norm_then<|wp_cond_split (t:=((rd z_api_Def a0.vDefs v1).vKind !=4)) rfl (fun c1=>?_) (fun c1=>?_)
 ·replace H:=of_pos H c1
  refine wp_seq<|region<|rs (Value.agg #[vS ByteArray.empty,vI 0,vI 0]) (r_build0 (cs:=[vS ByteArray.empty,vI 0,vI 0]) Tryd.zeroValue36 Tryd.runUnderlying36 (pl:=#[(0,1),(1,1),(2,1)]) (fun w=>by simp [Tryd.sizeOf3,Tryd.sizeOf9]) rfl) ?_
  refine run_st (i:=1) (cs:=[vS ByteArray.empty,vI 0,vI 0]) (cs':=[vS ByteArray.empty,vI 0,vI 0]) (vs:=[vS ByteArray.empty,vI 0,vI 0]) (bs':=[(some b3, .cells #[vI ((rd z_api_Def a0.vDefs v1).vKind),vS ((rd z_api_Def a0.vDefs v1).vName),vI ((rd z_api_Def a0.vDefs v1).vInt.vSize),vB ((rd z_api_Def a0.vDefs v1).vInt.vSigned),vI ((rd z_api_Def a0.vDefs v1).vRef),vI ((rd z_api_Def a0.vDefs v1).vN),vL Aad1_6 ((rd z_api_Def a0.vDefs v1).vFields).length cad1_6] 34 (0,0)),(some b2, .cells #[vS ByteArray.empty,vI 0,vI 0] 36 (0,0)),(some b1, .cells #[vL A0_0 a0.vDefs.length c0_0] 24 (0,0))]) rfl rfl Tryd.sizeOf36 rfl rfl (by decide) rfl HS4 rfl (Nat.le_of_ble_eq_true rfl) rfl rfl ?_
  intro w5 HS5
  refine rs (vI 5) (r_assign rfl) ?_
  try simp only [sc0,sc1]
  refine run_nil<|norm_then<|wp_ret<|ret_then ?_
  obtain rfl:=Option.some.inj H
  exact bodyPost_ret (results_2 rfl (one_agg rfl Tryd.isAgg36 (HS5.look 1 rfl) Tryd.sizeOf36 rfl) (one_tmp rfl)) rfl<|⟨rfl,HS5.toE⟩
 ·replace H:=of_neg H (nt c1)
  refine wp_skip<|norm_then<|wp_seq<|wp_seq<|region<|rs (vP b3 6) (r_fieldBox (n:=1) (o':=6) rfl Tryd.runUnderlying34 rfl Tryd.sizeOf32 (by decide) rfl)<|rs (vL Aad1_6 ((rd z_api_Def a0.vDefs v1).vFields).length cad1_6) (r_loadBox rfl Tryd.isAgg32 (HS4.look 0 rfl) rfl)<|rs (vI (((rd z_api_Def a0.vDefs v1).vFields).length:Int)) (r_len rfl Tryd.runUnderlying32)<|rs (vI 0) (r_move rfl) ?_
  try simp only [sc0,sc1]
  refine run_nil<|norm_then ?_
  obtain ⟨xx1,H,G1⟩:=of_bind H
  refine loop_j [7,10,25,26,27,28,29,30,31,32,33,34] (fun m us w'=>∃(y1_0:Int),Fit us (fun uy1=>[(uy1 0),(uy1 1),vI y1_0,(uy1 3),(uy1 4),(uy1 5),(uy1 6),(uy1 7),(uy1 8),(uy1 9),(uy1 10),(uy1 11)])∧ctf_member.l0 a0 a2 v1 m y1_0=some xx1∧St [] h0 w0 h0 [(some b3, .cells #[vI ((rd z_api_Def a0.vDefs v1).vKind),vS ((rd z_api_Def a0.vDefs v1).vName),vI ((rd z_api_Def a0.vDefs v1).vInt.vSize),vB ((rd z_api_Def a0.vDefs v1).vInt.vSigned),vI ((rd z_api_Def a0.vDefs v1).vRef),vI ((rd z_api_Def a0.vDefs v1).vN),vL Aad1_6 ((rd z_api_Def a0.vDefs v1).vFields).length cad1_6] 34 (0,0)),(some b2, .cells #[vS ByteArray.empty,vI 0,vI 0] 36 (0,0)),(some b1, .cells #[vL A0_0 a0.vDefs.length c0_0] 24 (0,0))] w') (fun us w'=>∃(s1:Unit),xx1= .inr s1∧Fit us (fun uo1=>[(uo1 0),(uo1 1),(uo1 2),(uo1 3),(uo1 4),(uo1 5),(uo1 6),(uo1 7),(uo1 8),(uo1 9),(uo1 10),(uo1 11)])∧St [] h0 w0 h0 [(some b3, .cells #[vI ((rd z_api_Def a0.vDefs v1).vKind),vS ((rd z_api_Def a0.vDefs v1).vName),vI ((rd z_api_Def a0.vDefs v1).vInt.vSize),vB ((rd z_api_Def a0.vDefs v1).vInt.vSigned),vI ((rd z_api_Def a0.vDefs v1).vRef),vI ((rd z_api_Def a0.vDefs v1).vN),vL Aad1_6 ((rd z_api_Def a0.vDefs v1).vFields).length cad1_6] 34 (0,0)),(some b2, .cells #[vS ByteArray.empty,vI 0,vI 0] 36 (0,0)),(some b1, .cells #[vL A0_0 a0.vDefs.length c0_0] 24 (0,0))] w') k ⟨0,(fit rfl),H,HS4⟩ ?_ ?_
  ·rintro m us w6 ⟨y1_0,huy1,H,HS6⟩
   obtain ⟨uy1,rfl⟩:=unj huy1
   cases m with
   |zero=>exact absurd H (by simp [ctf_member.l0])
   |succ m=>
    rw [ctf_member.l0] at H
    try simp only [patch,sc0,sc1]
    refine wp_seq<|region<|rs (vB (decide (y1_0<(((rd z_api_Def a0.vDefs v1).vFields).length:Int)))) (r_bin rfl rfl rfl) ?_
    try simp only [sc0,sc1]
    refine run_nil<|norm_then<|wp_seq<|wp_cond_split (t:=(decide (y1_0<(((rd z_api_Def a0.vDefs v1).vFields).length:Int)))) rfl (fun c2=>?_) (fun c2=>?_)
    ·replace H:=of_pos H c2
     refine wp_skip<|norm_then<|wp_seq<|wp_block<|wp_seq<|region ?_
     obtain ⟨hi2,H⟩:=of_ite H
     obtain ⟨ad2,e2,hel2⟩:=ld_api_Field hrad1_6 hi2.1 hi2.2
     refine rs (Value.pointer (some (Addr.add ad2 (y1_0.toNat*3)))) (r_indexA (sz:=3) rfl e2 rfl hi2.1 hi2.2 Tryd.runUnderlying32 Tryd.sizeOf36)<|rs (Value.agg #[vS ((rd z_api_Field ((rd z_api_Def a0.vDefs v1).vFields) y1_0).vName),vI ((rd z_api_Field ((rd z_api_Def a0.vDefs v1).vFields) y1_0).vType),vI ((rd z_api_Field ((rd z_api_Def a0.vDefs v1).vFields) y1_0).vAt)]) (r_loadAgg rfl Tryd.isAgg36 (hel2.sees HS6.sees) Tryd.sizeOf36)<|run_ex rfl rfl (does_alloc (cs:=#[vS ByteArray.empty,vI 0,vI 0]) Tryd.zeroValue36 rfl) ?_
     rintro w7 _ hE4 ⟨b4,rfl,ge4,hb4⟩
     have HS7:=HS6.new hE4 ge4 hb4
     refine run_st (i:=0) (cs:=[vS ByteArray.empty,vI 0,vI 0]) (cs':=[vS ((rd z_api_Field ((rd z_api_Def a0.vDefs v1).vFields) y1_0).vName),vI ((rd z_api_Field ((rd z_api_Def a0.vDefs v1).vFields) y1_0).vType),vI ((rd z_api_Field ((rd z_api_Def a0.vDefs v1).vFields) y1_0).vAt)]) (vs:=[vS ((rd z_api_Field ((rd z_api_Def a0.vDefs v1).vFields) y1_0).vName),vI ((rd z_api_Field ((rd z_api_Def a0.vDefs v1).vFields) y1_0).vType),vI ((rd z_api_Field ((rd z_api_Def a0.vDefs v1).vFields) y1_0).vAt)]) (bs':=[(some b4, .cells #[vS ((rd z_api_Field ((rd z_api_Def a0.vDefs v1).vFields) y1_0).vName),vI ((rd z_api_Field ((rd z_api_Def a0.vDefs v1).vFields) y1_0).vType),vI ((rd z_api_Field ((rd z_api_Def a0.vDefs v1).vFields) y1_0).vAt)] 36 (0,0)),(some b3, .cells #[vI ((rd z_api_Def a0.vDefs v1).vKind),vS ((rd z_api_Def a0.vDefs v1).vName),vI ((rd z_api_Def a0.vDefs v1).vInt.vSize),vB ((rd z_api_Def a0.vDefs v1).vInt.vSigned),vI ((rd z_api_Def a0.vDefs v1).vRef),vI ((rd z_api_Def a0.vDefs v1).vN),vL Aad1_6 ((rd z_api_Def a0.vDefs v1).vFields).length cad1_6] 34 (0,0)),(some b2, .cells #[vS ByteArray.empty,vI 0,vI 0] 36 (0,0)),(some b1, .cells #[vL A0_0 a0.vDefs.length c0_0] 24 (0,0))]) rfl rfl Tryd.sizeOf36 rfl rfl (by decide) rfl HS7 rfl (Nat.le_of_ble_eq_true rfl) rfl rfl ?_
     intro w8 HS8
     try simp only [sc0,sc1]
     refine run_nil<|norm_then<|wp_seq<|region<|rs (vP b4 0) (r_fieldBox (n:=1) (o':=0) rfl Tryd.runUnderlying36 rfl Tryd.sizeOf9 (by decide) rfl)<|rs (vS ((rd z_api_Field ((rd z_api_Def a0.vDefs v1).vFields) y1_0).vName)) (r_loadBox rfl Tryd.isAgg9 (HS8.look 0 rfl) rfl)<|rs (vS a2) (r_move rfl)<|rs (vB (strEq ((rd z_api_Field ((rd z_api_Def a0.vDefs v1).vFields) y1_0).vName) a2)) (r_streql rfl rfl) ?_
     try simp only [sc0,sc1]
     refine run_nil<|norm_then<|wp_cond_split (t:=(strEq ((rd z_api_Field ((rd z_api_Def a0.vDefs v1).vFields) y1_0).vName) a2)) rfl (fun c3=>?_) (fun c3=>?_)
     ·replace H:=of_pos H c3
      refine wp_seq<|region<|rs (Value.agg #[vS ((rd z_api_Field ((rd z_api_Def a0.vDefs v1).vFields) y1_0).vName),vI ((rd z_api_Field ((rd z_api_Def a0.vDefs v1).vFields) y1_0).vType),vI ((rd z_api_Field ((rd z_api_Def a0.vDefs v1).vFields) y1_0).vAt)]) (r_loadBoxAgg (n:=3) (vs:=[vS ((rd z_api_Field ((rd z_api_Def a0.vDefs v1).vFields) y1_0).vName),vI ((rd z_api_Field ((rd z_api_Def a0.vDefs v1).vFields) y1_0).vType),vI ((rd z_api_Field ((rd z_api_Def a0.vDefs v1).vFields) y1_0).vAt)]) rfl Tryd.isAgg36 (HS8.look 0 rfl) Tryd.sizeOf36 rfl rfl)<|run_st (i:=2) (cs:=[vS ByteArray.empty,vI 0,vI 0]) (cs':=[vS ((rd z_api_Field ((rd z_api_Def a0.vDefs v1).vFields) y1_0).vName),vI ((rd z_api_Field ((rd z_api_Def a0.vDefs v1).vFields) y1_0).vType),vI ((rd z_api_Field ((rd z_api_Def a0.vDefs v1).vFields) y1_0).vAt)]) (vs:=[vS ((rd z_api_Field ((rd z_api_Def a0.vDefs v1).vFields) y1_0).vName),vI ((rd z_api_Field ((rd z_api_Def a0.vDefs v1).vFields) y1_0).vType),vI ((rd z_api_Field ((rd z_api_Def a0.vDefs v1).vFields) y1_0).vAt)]) (bs':=[(some b4, .cells #[vS ((rd z_api_Field ((rd z_api_Def a0.vDefs v1).vFields) y1_0).vName),vI ((rd z_api_Field ((rd z_api_Def a0.vDefs v1).vFields) y1_0).vType),vI ((rd z_api_Field ((rd z_api_Def a0.vDefs v1).vFields) y1_0).vAt)] 36 (0,0)),(some b3, .cells #[vI ((rd z_api_Def a0.vDefs v1).vKind),vS ((rd z_api_Def a0.vDefs v1).vName),vI ((rd z_api_Def a0.vDefs v1).vInt.vSize),vB ((rd z_api_Def a0.vDefs v1).vInt.vSigned),vI ((rd z_api_Def a0.vDefs v1).vRef),vI ((rd z_api_Def a0.vDefs v1).vN),vL Aad1_6 ((rd z_api_Def a0.vDefs v1).vFields).length cad1_6] 34 (0,0)),(some b2, .cells #[vS ((rd z_api_Field ((rd z_api_Def a0.vDefs v1).vFields) y1_0).vName),vI ((rd z_api_Field ((rd z_api_Def a0.vDefs v1).vFields) y1_0).vType),vI ((rd z_api_Field ((rd z_api_Def a0.vDefs v1).vFields) y1_0).vAt)] 36 (0,0)),(some b1, .cells #[vL A0_0 a0.vDefs.length c0_0] 24 (0,0))]) rfl rfl Tryd.sizeOf36 rfl rfl (by decide) rfl HS8 rfl (Nat.le_of_ble_eq_true rfl) rfl rfl ?_
      intro w9 HS9
      refine rs (vI 0) (r_assign rfl) ?_
      try simp only [sc0,sc1]
      refine run_nil<|norm_then<|wp_ret<|ret_block<|ret_then<|ret_loop<|ret_then ?_
      obtain rfl:=Option.some.inj H
      obtain rfl:=Option.some.inj G1
      exact bodyPost_ret (results_2 rfl (one_agg rfl Tryd.isAgg36 (HS9.look 2 rfl) Tryd.sizeOf36 rfl) (one_tmp rfl)) rfl<|⟨rfl,HS9.toE⟩
     ·replace H:=of_neg H (nt c3)
      refine wp_skip<|norm_block<|norm_then<|region<|rs (vI (w64 (y1_0+1))) (r_bin rfl rfl rfl)<|rs (vI (w64 (y1_0+1))) (r_move rfl) ?_
      try simp only [sc0,sc1]
      refine run_nil<|again_j m (Nat.lt_succ_self m) rfl ⟨(w64 (y1_0+1)),(fit rfl),H,HS8.tail⟩
    ·replace H:=of_neg H (nt c2)
     refine wp_exit<|exit_then ?_
     obtain rfl:=Option.some.inj H
     refine leave_j rfl ⟨_,rfl,(fit rfl),HS6⟩
  ·rintro us w10 ⟨s1,rfl,huo1,HS10⟩
   obtain ⟨uo1,rfl⟩:=unj huo1
   replace H:=G1
   clear G1
   try simp only [patch,sc0,sc1]
   refine norm_then<|wp_seq<|region<|rs (Value.agg #[vS ByteArray.empty,vI 0,vI 0]) (r_build0 (cs:=[vS ByteArray.empty,vI 0,vI 0]) Tryd.zeroValue36 Tryd.runUnderlying36 (pl:=#[(0,1),(1,1),(2,1)]) (fun w=>by simp [Tryd.sizeOf3,Tryd.sizeOf9]) rfl) ?_
   refine run_st (i:=1) (cs:=[vS ByteArray.empty,vI 0,vI 0]) (cs':=[vS ByteArray.empty,vI 0,vI 0]) (vs:=[vS ByteArray.empty,vI 0,vI 0]) (bs':=[(some b3, .cells #[vI ((rd z_api_Def a0.vDefs v1).vKind),vS ((rd z_api_Def a0.vDefs v1).vName),vI ((rd z_api_Def a0.vDefs v1).vInt.vSize),vB ((rd z_api_Def a0.vDefs v1).vInt.vSigned),vI ((rd z_api_Def a0.vDefs v1).vRef),vI ((rd z_api_Def a0.vDefs v1).vN),vL Aad1_6 ((rd z_api_Def a0.vDefs v1).vFields).length cad1_6] 34 (0,0)),(some b2, .cells #[vS ByteArray.empty,vI 0,vI 0] 36 (0,0)),(some b1, .cells #[vL A0_0 a0.vDefs.length c0_0] 24 (0,0))]) rfl rfl Tryd.sizeOf36 rfl rfl (by decide) rfl HS10 rfl (Nat.le_of_ble_eq_true rfl) rfl rfl ?_
   intro w11 HS11
   refine rs (vI 3) (r_assign rfl) ?_
   try simp only [sc0,sc1]
   refine run_nil<|norm_then<|wp_ret ?_
   obtain rfl:=Option.some.inj H
   exact bodyPost_ret (results_2 rfl (one_agg rfl Tryd.isAgg36 (HS11.look 1 rfl) Tryd.sizeOf36 rfl) (one_tmp rfl)) rfl<|⟨rfl,HS11.toE⟩
def ctf_Path.l0 (k:Nat) (a0:api_Types) (a2:List ByteArray):Nat→Int→Int→Int→Option ((Int×Int×Int)⊕(Int×Int))
 |0,_,_,_=>none
 |m+1,y1_0,y1_1,y1_2=>if (decide (y1_2<(a2.length:Int)))=true then (if 0≤y1_2∧y1_2<a2.length then ((ctf_member.f k a0 y1_0 (rd ByteArray.empty a2 y1_2)).bind fun v2=>(if (v2.2 !=0)=true then (some (.inl (0,0,v2.2))) else (ctf_Path.l0 k a0 a2 m v2.1.vType (IntKind.wrap .i64 (y1_1+v2.1.vAt)) (IntKind.wrap .i64 (y1_2+1))))) else none) else (some (.inr (y1_0,y1_1)))
def ctf_Path.f (k:Nat) (a0:api_Types) (a1:Int) (a2:List ByteArray):Option (Int×Int×Int):=(ctf_given.f k a0 a1).bind fun v1=>(if (v1 !=0)=true then (some (0,0,v1)) else (if (decide ((a2.length:Int)>16))=true then (some (0,0,2)) else ((ctf_Path.l0 k a0 a2 k a1 0 0).bind fun xx1=>(match xx1 with| .inl r=>some r| .inr s1=>some (s1.1,s1.2,0)))))
theorem ctf_Path.calls (k:Nat) (a0:api_Types) (a1:Int) (a2:List ByteArray) (A0_0:Option Addr) (c0_0:Nat) (A2_0:Option Addr) (c2_0:Nat) {h0:View} {w0:World} (hv:Sees h0 w0) (hr0_0:Rd k_api_Def h0 A0_0 a0.vDefs) (hc0_0:a0.vDefs.length≤c0_0) (hr2_0:Rd Kd.str h0 A2_0 a2) (hc2_0:a2.length≤c2_0) {r:Int×Int×Int} (H:ctf_Path.f k a0 a1 a2=some r):Calls Tryd.prog 17 #[Value.agg #[vL A0_0 a0.vDefs.length c0_0],vI a1,vL A2_0 a2.length c2_0] w0 (fun e w1=>e= .returned (Value.tuple #[vI r.1,vI r.2.1,vI r.2.2])∧Ext w0 w1):=by
 unfold ctf_Path.f at H
 have HS:St [] h0 w0 h0 [] w0:=St.init hv
 go_enter Tryd.func17,Tryd.ntmps17
 refine wp_seq<|region<|run_ex rfl rfl (does_box (cs:=#[vL A0_0 a0.vDefs.length c0_0]) rfl rfl) ?_
 rintro w1 _ hE1 ⟨b1,rfl,ge1,hb1⟩
 have HS1:=HS.new hE1 ge1 hb1
 refine rs (vI 0) (r_assign rfl)<|rs (vI 0) (r_assign rfl)<|rs (vI 0) (r_assign rfl) ?_
 try simp only [sc0,sc1]
 refine run_nil<|norm_then<|wp_seq<|wp_seq<|region<|rs (Value.agg #[vL A0_0 a0.vDefs.length c0_0]) (r_loadBoxAgg (n:=1) (vs:=[vL A0_0 a0.vDefs.length c0_0]) rfl Tryd.isAgg24 (HS1.look 0 rfl) Tryd.sizeOf24 rfl rfl)<|rs (vI a1) (r_move rfl) ?_
 obtain ⟨v1,H1,H⟩:=of_bind H
 refine run_eq (v:=vI v1) rfl rfl (does_call_eq Tryd.call43 rfl rfl (ctf_given.calls k a0 a1 A0_0 c0_0 HS1.sees hr0_0 hc0_0 H1)) ?_
 intro w2 hE2
 have HS2:=HS1.step hE2
 refine rs (vI v1) (r_assign rfl) ?_
 try simp only [sc0,sc1]
 refine run_nil<|norm_then<|wp_seq<|region<|rs (vI v1) (r_move rfl)<|rs (vB (v1 !=0)) (r_bin rfl rfl rfl) ?_
 try simp only [sc0,sc1]
 refine run_nil<|norm_then<|wp_cond_split (t:=(v1 !=0)) rfl (fun c1=>?_) (fun c1=>?_)
 ·replace H:=of_pos H c1
  refine wp_seq<|region<|rs (vI v1) (r_move rfl)<|rs (vI 0) (r_assign rfl)<|rs (vI 0) (r_assign rfl)<|rs (vI v1) (r_assign rfl) ?_
  try simp only [sc0,sc1]
  refine run_nil<|norm_then<|wp_ret<|ret_then ?_
  obtain rfl:=Option.some.inj H
  exact bodyPost_ret (results_3 rfl (one_tmp rfl) (one_tmp rfl) (one_tmp rfl)) rfl<|⟨rfl,HS2.toE⟩
 ·replace H:=of_neg H (nt c1)
  refine wp_skip<|norm_then<|wp_seq<|wp_seq<|region<|rs (vL A2_0 a2.length c2_0) (r_move rfl)<|rs (vI (a2.length:Int)) (r_len rfl Tryd.runUnderlying25)<|rs (vB (decide ((a2.length:Int)>16))) (r_bin rfl rfl rfl) ?_
  try simp only [sc0,sc1]
  refine run_nil<|norm_then<|wp_cond_split (t:=(decide ((a2.length:Int)>16))) rfl (fun c2=>?_) (fun c2=>?_)
  ·replace H:=of_pos H c2
   refine wp_seq<|region<|rs (vI 0) (r_assign rfl)<|rs (vI 0) (r_assign rfl)<|rs (vI 2) (r_assign rfl) ?_
   try simp only [sc0,sc1]
   refine run_nil<|norm_then<|wp_ret<|ret_then ?_
   obtain rfl:=Option.some.inj H
   exact bodyPost_ret (results_3 rfl (one_tmp rfl) (one_tmp rfl) (one_tmp rfl)) rfl<|⟨rfl,HS2.toE⟩
  ·replace H:=of_neg H (nt c2)
   refine wp_skip<|norm_then<|wp_seq<|region<|rs (vI 0) (r_assign rfl) ?_
   try simp only [sc0,sc1]
   refine run_nil<|norm_then<|wp_seq<|wp_seq<|region<|rs (vL A2_0 a2.length c2_0) (r_move rfl)<|rs (vI (a2.length:Int)) (r_len rfl Tryd.runUnderlying25)<|rs (vI 0) (r_move rfl) ?_
   try simp only [sc0,sc1]
   refine run_nil<|norm_then ?_
   obtain ⟨xx1,H,G1⟩:=of_bind H
   refine loop_j [1,6,7,8,10,12,13,14,26,27,28,29,30,31,32,33,34,35,36,37,38,39,40,41,42,43,44,45,46] (fun m us w'=>∃y1_0 y1_1 y1_2:Int,Fit us (fun uy1=>[vI y1_0,(uy1 1),(uy1 2),(uy1 3),vI y1_1,(uy1 5),(uy1 6),(uy1 7),vI y1_2,(uy1 9),(uy1 10),(uy1 11),(uy1 12),(uy1 13),(uy1 14),(uy1 15),(uy1 16),(uy1 17),(uy1 18),(uy1 19),(uy1 20),(uy1 21),(uy1 22),(uy1 23),(uy1 24),(uy1 25),(uy1 26),(uy1 27),(uy1 28)])∧ctf_Path.l0 k a0 a2 m y1_0 y1_1 y1_2=some xx1∧St [] h0 w0 h0 [(some b1, .cells #[vL A0_0 a0.vDefs.length c0_0] 24 (0,0))] w') (fun us w'=>∃(s1:Int×Int),xx1= .inr s1∧Fit us (fun uo1=>[vI s1.1,(uo1 1),(uo1 2),(uo1 3),vI s1.2,(uo1 5),(uo1 6),(uo1 7),(uo1 8),(uo1 9),(uo1 10),(uo1 11),(uo1 12),(uo1 13),(uo1 14),(uo1 15),(uo1 16),(uo1 17),(uo1 18),(uo1 19),(uo1 20),(uo1 21),(uo1 22),(uo1 23),(uo1 24),(uo1 25),(uo1 26),(uo1 27),(uo1 28)])∧St [] h0 w0 h0 [(some b1, .cells #[vL A0_0 a0.vDefs.length c0_0] 24 (0,0))] w') k ⟨a1,0,0,(fit rfl),H,HS2⟩ ?_ ?_
   ·rintro m us w3 ⟨y1_0,y1_1,y1_2,huy1,H,HS3⟩
    obtain ⟨uy1,rfl⟩:=unj huy1
    cases m with
    |zero=>exact absurd H (by simp [ctf_Path.l0])
    |succ m=>
     rw [ctf_Path.l0] at H
     try simp only [patch,sc0,sc1]
     refine wp_seq<|region<|rs (vB (decide (y1_2<(a2.length:Int)))) (r_bin rfl rfl rfl) ?_
     try simp only [sc0,sc1]
     refine run_nil<|norm_then<|wp_seq<|wp_cond_split (t:=(decide (y1_2<(a2.length:Int)))) rfl (fun c3=>?_) (fun c3=>?_)
     ·replace H:=of_pos H c3
      refine wp_skip<|norm_then<|wp_seq<|wp_block<|wp_seq<|region ?_
      obtain ⟨hi1,H⟩:=of_ite H
      obtain ⟨ad1,e1,hel1⟩:=ld_str hr2_0 hi1.1 hi1.2
      refine rs (Value.pointer (some (Addr.add ad1 (y1_2.toNat*1)))) (r_indexA (sz:=1) rfl e1 rfl hi1.1 hi1.2 Tryd.runUnderlying25 Tryd.sizeOf9)<|rs (vS (rd ByteArray.empty a2 y1_2)) (r_load rfl Tryd.isAgg9 (hel1.cell0 HS3.sees rfl))<|rs (vS (rd ByteArray.empty a2 y1_2)) (r_assign rfl) ?_
      try simp only [sc0,sc1]
      refine run_nil<|norm_then<|wp_seq<|region<|rs (Value.agg #[vL A0_0 a0.vDefs.length c0_0]) (r_loadBoxAgg (n:=1) (vs:=[vL A0_0 a0.vDefs.length c0_0]) rfl Tryd.isAgg24 (HS3.look 0 rfl) Tryd.sizeOf24 rfl rfl)<|rs (vI y1_0) (r_move rfl)<|rs (vS (rd ByteArray.empty a2 y1_2)) (r_move rfl) ?_
      obtain ⟨v2,H2,H⟩:=of_bind H
      refine run_eq (v:=Value.tuple #[Value.agg #[vS v2.1.vName,vI v2.1.vType,vI v2.1.vAt],vI v2.2]) rfl rfl (does_call_eq Tryd.call46 rfl rfl (ctf_member.calls k a0 y1_0 (rd ByteArray.empty a2 y1_2) A0_0 c0_0 HS3.sees hr0_0 hc0_0 H2)) ?_
      intro w4 hE3
      have HS4:=HS3.step hE3
      refine run_frame (by simp only [sc0,sc1];rfl) ?_
      refine rs (Value.tuple #[Value.agg #[vS v2.1.vName,vI v2.1.vType,vI v2.1.vAt],vI v2.2]) (r_move rfl)<|rs (Value.agg #[vS v2.1.vName,vI v2.1.vType,vI v2.1.vAt]) (r_extract rfl rfl)<|rs (vI v2.2) (r_extract rfl rfl)<|run_ex rfl rfl (does_alloc (cs:=#[vS ByteArray.empty,vI 0,vI 0]) Tryd.zeroValue36 rfl) ?_
      rintro w5 _ hE4 ⟨b2,rfl,ge2,hb2⟩
      have HS5:=HS4.new hE4 ge2 hb2
      refine run_frame (by simp only [sc0,sc1];rfl) ?_
      refine run_st (i:=0) (cs:=[vS ByteArray.empty,vI 0,vI 0]) (cs':=[vS v2.1.vName,vI v2.1.vType,vI v2.1.vAt]) (vs:=[vS v2.1.vName,vI v2.1.vType,vI v2.1.vAt]) (bs':=[(some b2, .cells #[vS v2.1.vName,vI v2.1.vType,vI v2.1.vAt] 36 (0,0)),(some b1, .cells #[vL A0_0 a0.vDefs.length c0_0] 24 (0,0))]) rfl rfl Tryd.sizeOf36 rfl rfl (by decide) rfl HS5 rfl (Nat.le_of_ble_eq_true rfl) rfl rfl ?_
      intro w6 HS6
      refine rs (vI v2.2) (r_assign rfl) ?_
      try simp only [sc0,sc1]
      refine run_nil<|norm_then<|wp_seq<|wp_seq<|region<|rs (vI v2.2) (r_move rfl)<|rs (vB (v2.2 !=0)) (r_bin rfl rfl rfl) ?_
      try simp only [sc0,sc1]
      refine run_nil<|norm_then<|wp_cond_split (t:=(v2.2 !=0)) rfl (fun c4=>?_) (fun c4=>?_)
      ·replace H:=of_pos H c4
       refine wp_seq<|region<|rs (vI v2.2) (r_move rfl)<|rs (vI 0) (r_assign rfl)<|rs (vI 0) (r_assign rfl)<|rs (vI v2.2) (r_assign rfl) ?_
       try simp only [sc0,sc1]
       refine run_nil<|norm_then<|wp_ret<|ret_then<|ret_block<|ret_then<|ret_loop<|ret_then ?_
       obtain rfl:=Option.some.inj H
       obtain rfl:=Option.some.inj G1
       exact bodyPost_ret (results_3 rfl (one_tmp rfl) (one_tmp rfl) (one_tmp rfl)) rfl<|⟨rfl,HS6.toE⟩
      ·replace H:=of_neg H (nt c4)
       refine wp_skip<|norm_then<|drawn [.eq (vP b2 1), .eq (vI v2.1.vType), .eq (vI y1_1), .eq (vP b2 2), .eq (vI v2.1.vAt), .eq (vI (w64 (y1_1+v2.1.vAt))), .eq (vI v2.1.vType)] [40,41,42,43,44,45,1] hmix (by kernel_rfl) rfl (stable_eq (stable_eq (stable_eq (stable_eq (stable_eq (stable_eq (stable_eq stable_nil))))))) ⟨ob_plain rfl (fun a' w' hE hk=>by have HSd:=HS6.step hE;exact does_eq (r_fieldBox (n:=1) (o':=1) (show _=vP b2 0 from hk 13 rfl) Tryd.runUnderlying36 rfl Tryd.sizeOf3 (by decide) rfl)),ob_plain rfl (fun a' w' hE hk=>by have HSd:=HS6.step hE;exact does_eq (r_loadBox (show _=vP b2 1 from hk 40 rfl) Tryd.isAgg3 (HSd.look 0 rfl) rfl)),ob_plain rfl (fun a' w' hE hk=>by have HSd:=HS6.step hE;exact does_eq (r_move (show _=vI y1_1 from hk 10 rfl))),ob_plain rfl (fun a' w' hE hk=>by have HSd:=HS6.step hE;exact does_eq (r_fieldBox (n:=1) (o':=2) (show _=vP b2 0 from hk 13 rfl) Tryd.runUnderlying36 rfl Tryd.sizeOf3 (by decide) rfl)),ob_plain rfl (fun a' w' hE hk=>by have HSd:=HS6.step hE;exact does_eq (r_loadBox (show _=vP b2 2 from hk 43 rfl) Tryd.isAgg3 (HSd.look 0 rfl) rfl)),ob_plain rfl (fun a' w' hE hk=>by have HSd:=HS6.step hE;exact does_eq (r_bin (show _=vI y1_1 from hk 42 rfl) (show _=vI v2.1.vAt from hk 44 rfl) rfl)),ob_plain rfl (fun a' w' hE hk=>by have HSd:=HS6.step hE;exact does_eq (r_assign (show _=vI v2.1.vType from hk 41 rfl))),trivial⟩ ?_
       intro w7 hE5
       simp only [List.zip_cons_cons,List.zip_nil_left,List.zip_nil_right,finL,sc0,sc1,List.length_cons,List.length_nil,List.drop_succ_cons,List.drop_zero,Nat.zero_add,Nat.reduceAdd]
       have HS7:=HS6.step hE5
       refine rs (vI (w64 (y1_1+v2.1.vAt))) (r_assign rfl) ?_
       try simp only [sc0,sc1]
       refine run_nil<|norm_block<|norm_then<|region<|rs (vI (w64 (y1_2+1))) (r_bin rfl rfl rfl)<|rs (vI (w64 (y1_2+1))) (r_move rfl) ?_
       try simp only [sc0,sc1]
       refine run_nil<|again_j m (Nat.lt_succ_self m) rfl ⟨v2.1.vType,(w64 (y1_1+v2.1.vAt)),(w64 (y1_2+1)),(fit rfl),H,HS7.tail⟩
     ·replace H:=of_neg H (nt c3)
      refine wp_exit<|exit_then ?_
      obtain rfl:=Option.some.inj H
      refine leave_j rfl ⟨_,rfl,(fit rfl),HS3⟩
   ·rintro us w8 ⟨s1,rfl,huo1,HS8⟩
    obtain ⟨uo1,rfl⟩:=unj huo1
    replace H:=G1
    clear G1
    try simp only [patch,sc0,sc1]
    refine norm_then<|wp_seq<|region<|rs (vI s1.1) (r_move rfl)<|rs (vI s1.2) (r_move rfl)<|rs (vI s1.1) (r_assign rfl)<|rs (vI s1.2) (r_assign rfl)<|run_frame (by simp only [sc0,sc1];rfl) ?_
    refine rs (vI 0) (r_assign rfl) ?_
    try simp only [sc0,sc1]
    refine run_nil<|norm_then<|wp_ret ?_
    obtain rfl:=Option.some.inj H
    exact bodyPost_ret (results_3 rfl (one_tmp rfl) (one_tmp rfl) (one_tmp rfl)) rfl<|⟨rfl,HS8.toE⟩
def ctf_Size.f (k:Nat) (a0:api_Types) (a1:Int):Option (Int×Int):=(ctf_given.f k a0 a1).bind fun v1=>(if (v1 !=0)=true then (some (0,v1)) else ((ctf_sizes.f k a0).bind fun v2=>(if 0≤a1∧a1<v2.1.length then (some ((rd 0 v2.1 a1),0)) else none)))
theorem ctf_Size.calls (k:Nat) (a0:api_Types) (a1:Int) (A0_0:Option Addr) (c0_0:Nat) {h0:View} {w0:World} (hv:Sees h0 w0) (hr0_0:Rd k_api_Def h0 A0_0 a0.vDefs) (hc0_0:a0.vDefs.length≤c0_0) {r:Int×Int} (H:ctf_Size.f k a0 a1=some r):Calls Tryd.prog 14 #[Value.agg #[vL A0_0 a0.vDefs.length c0_0],vI a1] w0 (fun e w1=>e= .returned (Value.tuple #[vI r.1,vI r.2])∧Ext w0 w1):=by
 unfold ctf_Size.f at H
 have HS:St [] h0 w0 h0 [] w0:=St.init hv
 go_enter Tryd.func14,Tryd.ntmps14
 refine wp_seq<|region<|run_ex rfl rfl (does_box (cs:=#[vL A0_0 a0.vDefs.length c0_0]) rfl rfl) ?_
 rintro w1 _ hE1 ⟨b1,rfl,ge1,hb1⟩
 have HS1:=HS.new hE1 ge1 hb1
 refine rs (vI 0) (r_assign rfl)<|rs (vI 0) (r_assign rfl) ?_
 try simp only [sc0,sc1]
 refine run_nil<|norm_then<|wp_seq<|wp_seq<|region<|rs (Value.agg #[vL A0_0 a0.vDefs.length c0_0]) (r_loadBoxAgg (n:=1) (vs:=[vL A0_0 a0.vDefs.length c0_0]) rfl Tryd.isAgg24 (HS1.look 0 rfl) Tryd.sizeOf24 rfl rfl)<|rs (vI a1) (r_move rfl) ?_
 obtain ⟨v1,H1,H⟩:=of_bind H
 refine run_eq (v:=vI v1) rfl rfl (does_call_eq Tryd.call43 rfl rfl (ctf_given.calls k a0 a1 A0_0 c0_0 HS1.sees hr0_0 hc0_0 H1)) ?_
 intro w2 hE2
 have HS2:=HS1.step hE2
 refine rs (vI v1) (r_assign rfl) ?_
 try simp only [sc0,sc1]
 refine run_nil<|norm_then<|wp_seq<|region<|rs (vI v1) (r_move rfl)<|rs (vB (v1 !=0)) (r_bin rfl rfl rfl) ?_
 try simp only [sc0,sc1]
 refine run_nil<|norm_then<|wp_cond_split (t:=(v1 !=0)) rfl (fun c1=>?_) (fun c1=>?_)
 ·replace H:=of_pos H c1
  refine wp_seq<|region<|rs (vI v1) (r_move rfl)<|rs (vI 0) (r_assign rfl)<|rs (vI v1) (r_assign rfl) ?_
  try simp only [sc0,sc1]
  refine run_nil<|norm_then<|wp_ret<|ret_then ?_
  obtain rfl:=Option.some.inj H
  exact bodyPost_ret (results_2 rfl (one_tmp rfl) (one_tmp rfl)) rfl<|⟨rfl,HS2.toE⟩
 ·replace H:=of_neg H (nt c1)
  refine wp_skip<|norm_then<|wp_seq<|region<|rs (Value.agg #[vL A0_0 a0.vDefs.length c0_0]) (r_loadBoxAgg (n:=1) (vs:=[vL A0_0 a0.vDefs.length c0_0]) rfl Tryd.isAgg24 (HS2.look 0 rfl) Tryd.sizeOf24 rfl rfl) ?_
  obtain ⟨v2,H2,H⟩:=of_bind H
  refine run_ex rfl rfl (does_call Tryd.call44 rfl (gives_in (h:=h0) (R:=(fun hx u=>∃(Av2_0_0:Option Addr) (cv2_0_0:Nat),u=Value.tuple #[vL Av2_0_0 v2.1.length cv2_0_0,vB v2.2]∧v2.1.length≤cv2_0_0∧Rd (Kd.int .i64) hx Av2_0_0 v2.1)) (Ext.rfl' w2) ((ctf_sizes.calls k a0 A0_0 c0_0 HS2.sees hr0_0 hc0_0 H2).mono ?_)) rfl) ?_
  ·rintro _ _ ⟨h1,Av2_0_0,cv2_0_0,rfl,hcv2_0_0,hrv2_0_0,g,ss,x⟩
   exact ⟨h1,_,rfl,⟨Av2_0_0,cv2_0_0,rfl,hcv2_0_0,hrv2_0_0⟩,g,ss,x⟩
  rintro w3 _ hE3 ⟨h1,⟨Av2_0_0,cv2_0_0,rfl,hcv2_0_0,hrv2_0_0⟩,gr1,se1⟩
  have HS3:=HS2.view hE3 gr1 se1
  refine rs (Value.tuple #[vL Av2_0_0 v2.1.length cv2_0_0,vB v2.2]) (r_move rfl)<|rs (vL Av2_0_0 v2.1.length cv2_0_0) (r_extract rfl rfl)<|run_frame (by simp only [sc0,sc1];rfl) ?_
  refine rs (vB v2.2) (r_extract rfl rfl)<|rs (vL Av2_0_0 v2.1.length cv2_0_0) (r_assign rfl)<|rs (vB v2.2) (r_assign rfl) ?_
  try simp only [sc0,sc1]
  refine run_nil<|norm_then<|wp_seq<|region<|rs (vL Av2_0_0 v2.1.length cv2_0_0) (r_move rfl)<|rs (vI a1) (r_move rfl) ?_
  obtain ⟨hi1,H⟩:=of_ite H
  obtain ⟨ad1,e1,hel1⟩:=ld_int hrv2_0_0 hi1.1 hi1.2
  refine rs (Value.pointer (some (Addr.add ad1 (a1.toNat*1)))) (r_indexA (sz:=1) rfl e1 rfl hi1.1 hi1.2 Tryd.runUnderlying62 Tryd.sizeOf3)<|rs (vI (rd 0 v2.1 a1)) (r_load rfl Tryd.isAgg3 (hel1.cell0 HS3.sees rfl))<|run_frame (by simp only [sc0,sc1];rfl) ?_
  refine rs (vI (rd 0 v2.1 a1)) (r_assign rfl)<|rs (vI 0) (r_assign rfl) ?_
  try simp only [sc0,sc1]
  refine run_nil<|norm_then<|wp_ret ?_
  obtain rfl:=Option.some.inj H
  exact bodyPost_ret (results_2 rfl (one_tmp rfl) (one_tmp rfl)) rfl<|⟨rfl,HS3.toE⟩
def ctf_Member.f (k:Nat) (a0:api_Types) (a1:Int) (a2:ByteArray):Option (api_Field×Int):=(ctf_given.f k a0 a1).bind fun v1=>(if (v1 !=0)=true then (some ((⟨ByteArray.empty,0,0⟩:api_Field),v1)) else ((ctf_member.f k a0 a1 a2).bind fun v2=>(some (v2.1,v2.2))))
theorem ctf_Member.calls (k:Nat) (a0:api_Types) (a1:Int) (a2:ByteArray) (A0_0:Option Addr) (c0_0:Nat) {h0:View} {w0:World} (hv:Sees h0 w0) (hr0_0:Rd k_api_Def h0 A0_0 a0.vDefs) (hc0_0:a0.vDefs.length≤c0_0) {r:api_Field×Int} (H:ctf_Member.f k a0 a1 a2=some r):Calls Tryd.prog 16 #[Value.agg #[vL A0_0 a0.vDefs.length c0_0],vI a1,vS a2] w0 (fun e w1=>e= .returned (Value.tuple #[Value.agg #[vS r.1.vName,vI r.1.vType,vI r.1.vAt],vI r.2])∧Ext w0 w1):=by
 unfold ctf_Member.f at H
 have HS:St [] h0 w0 h0 [] w0:=St.init hv
 go_enter Tryd.func16,Tryd.ntmps16
 refine wp_seq<|region<|run_ex rfl rfl (does_box (cs:=#[vL A0_0 a0.vDefs.length c0_0]) rfl rfl) ?_
 rintro w1 _ hE1 ⟨b1,rfl,ge1,hb1⟩
 have HS1:=HS.new hE1 ge1 hb1
 refine run_ex rfl rfl (does_alloc (cs:=#[vS ByteArray.empty,vI 0,vI 0]) Tryd.zeroValue36 rfl) ?_
 rintro w2 _ hE2 ⟨b2,rfl,ge2,hb2⟩
 have HS2:=HS1.new hE2 ge2 hb2
 refine rs (vI 0) (r_assign rfl) ?_
 try simp only [sc0,sc1]
 refine run_nil<|norm_then<|wp_seq<|wp_seq<|region<|rs (Value.agg #[vL A0_0 a0.vDefs.length c0_0]) (r_loadBoxAgg (n:=1) (vs:=[vL A0_0 a0.vDefs.length c0_0]) rfl Tryd.isAgg24 (HS2.look 1 rfl) Tryd.sizeOf24 rfl rfl)<|rs (vI a1) (r_move rfl) ?_
 obtain ⟨v1,H1,H⟩:=of_bind H
 refine run_eq (v:=vI v1) rfl rfl (does_call_eq Tryd.call43 rfl rfl (ctf_given.calls k a0 a1 A0_0 c0_0 HS2.sees hr0_0 hc0_0 H1)) ?_
 intro w3 hE3
 have HS3:=HS2.step hE3
 refine rs (vI v1) (r_assign rfl) ?_
 try simp only [sc0,sc1]
 refine run_nil<|norm_then<|wp_seq<|region<|rs (vI v1) (r_move rfl)<|rs (vB (v1 !=0)) (r_bin rfl rfl rfl) ?_
 try simp only [sc0,sc1]
 refine run_nil<|norm_then<|wp_cond_split (t:=(v1 !=0)) rfl (fun c1=>?_) (fun c1=>?_)
 ·replace H:=of_pos H c1
  refine wp_seq<|region<|rs (Value.agg #[vS ByteArray.empty,vI 0,vI 0]) (r_build0 (cs:=[vS ByteArray.empty,vI 0,vI 0]) Tryd.zeroValue36 Tryd.runUnderlying36 (pl:=#[(0,1),(1,1),(2,1)]) (fun w=>by simp [Tryd.sizeOf3,Tryd.sizeOf9]) rfl) ?_
  refine rs (vI v1) (r_move rfl)<|run_st (i:=0) (cs:=[vS ByteArray.empty,vI 0,vI 0]) (cs':=[vS ByteArray.empty,vI 0,vI 0]) (vs:=[vS ByteArray.empty,vI 0,vI 0]) (bs':=[(some b2, .cells #[vS ByteArray.empty,vI 0,vI 0] 36 (0,0)),(some b1, .cells #[vL A0_0 a0.vDefs.length c0_0] 24 (0,0))]) rfl rfl Tryd.sizeOf36 rfl rfl (by decide) rfl HS3 rfl (Nat.le_of_ble_eq_true rfl) rfl rfl ?_
  intro w4 HS4
  refine rs (vI v1) (r_assign rfl) ?_
  try simp only [sc0,sc1]
  refine run_nil<|norm_then<|wp_ret<|ret_then ?_
  obtain rfl:=Option.some.inj H
  exact bodyPost_ret (results_2 rfl (one_agg rfl Tryd.isAgg36 (HS4.look 0 rfl) Tryd.sizeOf36 rfl) (one_tmp rfl)) rfl<|⟨rfl,HS4.toE⟩
 ·replace H:=of_neg H (nt c1)
  refine wp_skip<|norm_then<|wp_seq<|region<|rs (Value.agg #[vL A0_0 a0.vDefs.length c0_0]) (r_loadBoxAgg (n:=1) (vs:=[vL A0_0 a0.vDefs.length c0_0]) rfl Tryd.isAgg24 (HS3.look 1 rfl) Tryd.sizeOf24 rfl rfl)<|rs (vI a1) (r_move rfl)<|rs (vS a2) (r_move rfl) ?_
  obtain ⟨v2,H2,H⟩:=of_bind H
  refine run_eq (v:=Value.tuple #[Value.agg #[vS v2.1.vName,vI v2.1.vType,vI v2.1.vAt],vI v2.2]) rfl rfl (does_call_eq Tryd.call46 rfl rfl (ctf_member.calls k a0 a1 a2 A0_0 c0_0 HS3.sees hr0_0 hc0_0 H2)) ?_
  intro w5 hE4
  have HS5:=HS3.step hE4
  refine run_frame (by simp only [sc0,sc1];rfl) ?_
  refine rs (Value.agg #[vS v2.1.vName,vI v2.1.vType,vI v2.1.vAt]) (r_extract rfl rfl)<|rs (vI v2.2) (r_extract rfl rfl)<|run_st (i:=0) (cs:=[vS ByteArray.empty,vI 0,vI 0]) (cs':=[vS v2.1.vName,vI v2.1.vType,vI v2.1.vAt]) (vs:=[vS v2.1.vName,vI v2.1.vType,vI v2.1.vAt]) (bs':=[(some b2, .cells #[vS v2.1.vName,vI v2.1.vType,vI v2.1.vAt] 36 (0,0)),(some b1, .cells #[vL A0_0 a0.vDefs.length c0_0] 24 (0,0))]) rfl rfl Tryd.sizeOf36 rfl rfl (by decide) rfl HS5 rfl (Nat.le_of_ble_eq_true rfl) rfl rfl ?_
  intro w6 HS6
  refine rs (vI v2.2) (r_assign rfl) ?_
  try simp only [sc0,sc1]
  refine run_nil<|norm_then<|wp_ret ?_
  obtain rfl:=Option.some.inj H
  exact bodyPost_ret (results_2 rfl (one_agg rfl Tryd.isAgg36 (HS6.look 0 rfl) Tryd.sizeOf36 rfl) (one_tmp rfl)) rfl<|⟨rfl,HS6.toE⟩
def Ev {α:Type} (f:Nat→Option α) (v:α):Prop:=∃K,∀k,K≤k→f k=some v
def Ev2 {α:Type} (f:Nat→Nat→Option α) (v:α):Prop:=∃K,∀k m,K≤k→K≤m→f k m=some v
section
variable {α β γ:Type}
theorem Ev.pure {f:Nat→Option α} {v:α} (h:∀k,f k=some v):Ev f v:=⟨0,fun k _=>h k⟩
theorem Ev.bind {f:Nat→Option α} {g:Nat→α→Option β} {a:α} {b:β} (hf:Ev f a) (hg:Ev (fun k=>g k a) b):Ev (fun k=>(f k).bind (g k)) b:=by
 obtain ⟨K,hK⟩:=hf
 obtain ⟨L,hL⟩:=hg
 exact ⟨max K L, fun k hk => by
  show (f k).bind (g k)=some b
  rw [hK k (by omega)]
  exact hL k (by omega)⟩
theorem Ev.congr {f g:Nat→Option α} {v:α} (hf:Ev f v) (h:∀k,g k=f k):Ev g v:=by
 obtain ⟨K,hK⟩:=hf
 exact ⟨K,fun k hk=>(h k).trans (hK k hk)⟩
theorem Ev.succ {f:Nat→Option α} {v:α} (hf:Ev (fun k=>f (k+1)) v):Ev f v:=by
 obtain ⟨K,hK⟩:=hf
 refine ⟨K+1,fun k hk=>?_⟩
 obtain ⟨m,rfl⟩:∃m,k=m+1:=⟨k-1,by omega⟩
 exact hK m (by omega)
theorem Ev.uniq {f:Nat→Option α} {v u:α} (hf:Ev f v) (hg:Ev f u):v=u:=by
 obtain ⟨K,hK⟩:=hf
 obtain ⟨L,hL⟩:=hg
 have h1:=hK (max K L) (by omega)
 have h2:=hL (max K L) (by omega)
 rw [h1] at h2
 exact Option.some.inj h2
theorem Ev2.diag {f:Nat→Nat→Option α} {v:α} (h:Ev2 f v):Ev (fun k=>f k k) v:=by
 obtain ⟨K,hK⟩:=h
 exact ⟨K,fun k hk=>hK k k hk hk⟩
theorem Ev2.pure {f : Nat → Nat → Option α} {v : α} (h : ∀ k m, f k (m + 1) = some v) : Ev2 f v := ⟨1, fun k m _ hm => by
 obtain ⟨q,rfl⟩:∃q,m=q+1:=⟨m-1,by omega⟩
 exact h k q⟩
theorem Ev2.step {f:Nat→Nat→Option α} {g:Nat→Option β} {b:β} {r:Nat→Nat→β→Option α} {v:α} (hg:Ev g b) (hr:Ev2 (fun k m=>r k m b) v) (h:∀k m,f k (m+1)=(g k).bind (r k m)):Ev2 f v:=by
 obtain ⟨K,hK⟩:=hg
 obtain ⟨L,hL⟩:=hr
 refine ⟨max K L+1,fun k m hk hm=>?_⟩
 obtain ⟨q,rfl⟩:∃q,m=q+1:=⟨m-1,by omega⟩
 rw [h,hK k (by omega)]
 exact hL k q (by omega) (by omega)
theorem Ev2.next {f r:Nat→Nat→Option α} {v:α} (hr:Ev2 r v) (h:∀k m,f k (m+1)=r k m):Ev2 f v:=by
 obtain ⟨L,hL⟩:=hr
 refine ⟨L+1,fun k m hk hm=>?_⟩
 obtain ⟨q,rfl⟩:∃q,m=q+1:=⟨m-1,by omega⟩
 rw [h]
 exact hL k q (by omega) (by omega)
theorem Ev.all {f:γ→Nat→Option α} {q:γ→α}:∀(l:List γ),(∀z∈l,Ev (f z) (q z))→∃K,∀k,K≤k→∀z∈l,f z k=some (q z)
  |[],_=>⟨0,fun k _ z hz=>by cases hz⟩
  | x :: l, h => by
    obtain ⟨K,hK⟩:=h x List.mem_cons_self
    obtain ⟨L,hL⟩:=Ev.all l (fun z hz=>h z (List.mem_cons_of_mem _ hz))
    refine ⟨max K L,fun k hk z hz=>?_⟩
    rcases List.mem_cons.1 hz with rfl|hz
    · exact hK k (by omega)
    · exact hL k (by omega) z hz
end
theorem wrap_id {x:Int} (h0: -9223372036854775808≤x) (h1:x≤9223372036854775807):IntKind.wrap .i64 x=x:=by
 simp [IntKind.wrap,IntKind.bits,IntKind.signed]
 omega
theorem wrap_nat {j n:Nat} (hj:j<n) (hn:n≤9223372036854775807):IntKind.wrap .i64 ((j:Int)+1)=((j+1:Nat):Int):=by
 rw [wrap_id (by omega) (by omega)];rfl
section
variable {α:Type} {z:α} {xs:List α}
theorem rd_nat (j:Nat):rd z xs (j:Int)=xs.getD j z:=by simp [rd]
theorem rd_mem {i:Int} (h0:0≤i) (h1:i<xs.length):rd z xs i∈xs:=by
 unfold rd
 have:i.toNat<xs.length:=by omega
 rw [List.getD_eq_getElem?_getD,List.getElem?_eq_getElem this]
 exact List.getElem_mem this
theorem getD_mem {j:Nat} (h1:j<xs.length):xs.getD j z∈xs:=by
 rw [List.getD_eq_getElem?_getD,List.getElem?_eq_getElem h1]
 exact List.getElem_mem h1
end
theorem index_loop {l:List api_Def} {p:api_Def→Option Bool} {q:api_Def→Bool} (hp:∀z∈l,p z=some (q z)) (hl:l.length≤9223372036854775807):
    ∀(d j m:Nat),j+d=l.length→d<m→slices_IndexFunc_api_Def_api_Def.l0 l p m (j:Int)=some (if ((l.drop j).any q)=true then .inl (((j+(l.drop j).findIdx q:Nat)):Int) else .inr ()):=by
  intro d
  induction d with
  | zero =>
    intro j m hj hm
    obtain ⟨m,rfl⟩:∃q,m=q+1:=⟨m-1,by omega⟩
    rw [slices_IndexFunc_api_Def_api_Def.l0,if_neg (by simp;omega)]
    have:l.drop j=[]:=List.drop_eq_nil_of_le (by omega)
    rw [this]
    rfl
  | succ d ih =>
    intro j m hj hm
    obtain ⟨m,rfl⟩:∃q,m=q+1:=⟨m-1,by omega⟩
    have hlt:j<l.length:=by omega
    rw [slices_IndexFunc_api_Def_api_Def.l0,if_pos (by simp;omega),if_pos (by omega),rd_nat,hp _ (getD_mem hlt)]
    have hd:l.drop j=l.getD j z_api_Def::l.drop (j+1):=by
      rw [List.drop_eq_getElem_cons hlt,List.getD_eq_getElem?_getD,List.getElem?_eq_getElem hlt];rfl
    simp only [Option.bind_some]
    cases hb:q (l.getD j z_api_Def) with
    | true =>
      rw [if_pos rfl,hd]
      simp only [List.any_cons,hb,Bool.true_or,if_true,List.findIdx_cons,cond_true,Nat.add_zero]
    | false =>
      rw [if_neg (by simp),wrap_nat hlt hl,ih (j+1) m (by omega) (by omega),hd]
      simp only [List.any_cons,hb,Bool.false_or,List.findIdx_cons,cond_false]
      split
      · congr 2;omega
      · rfl
theorem contains_ev {l:List api_Def} {p:Nat→api_Def→Option Bool} {q:api_Def→Bool} (hp:∀z∈l,Ev (fun k=>p k z) (q z)) (hl:l.length≤9223372036854775807):
  Ev (fun k=>slices_ContainsFunc_api_Def_api_Def.f k l (p k)) (l.any q):=by
 obtain ⟨K,hK⟩:=Ev.all (f:=fun z k=>p k z) l hp
 refine ⟨max K (l.length+1),fun k hk=>?_⟩
 unfold slices_ContainsFunc_api_Def_api_Def.f slices_IndexFunc_api_Def_api_Def.f
 have:=index_loop (l:=l) (p:=p k) (q:=q) (fun z hz=>hK k (by omega) z hz) hl l.length 0 k (by omega) (by omega)
 rw [show ((0:Nat):Int)=0 from rfl] at this
 simp only []
 rw [this,List.drop_zero]
 cases h:l.any q with
 |true=>simp
 |false=>simp
end Go.Proofs.YtfjppgobidjndaaDoor
