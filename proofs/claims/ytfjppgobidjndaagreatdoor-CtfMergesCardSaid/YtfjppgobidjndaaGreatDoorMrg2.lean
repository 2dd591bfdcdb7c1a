/- Parts of a proof, merged by program: Sqz G0 Shelf F69 F23 F68 F67 F41 F56 F75 F87 F76 F46 F52 F48 F77 F47 F50 F49 F20 F42 F21 F57 F27 F51. The walks (each function once) and the plain laws; no condition of their own. -/
import Derived.Test.YtfjppgobidjndaaGreatDoorMrg1
import Derived.Test.YtfjppgobidjndaaGreatDoorProg
import Derived.Shelf.Strconv.Itoa0
import Derived.Shelf.Strconv.Itoa1
import Derived.Shelf.LaysM
import Derived.Shelf.Strconv.Itoa2
import Derived.Shelf.Strconv.Itoa3
set_option linter.unusedVariables false
set_option linter.unusedSimpArgs false
set_option maxRecDepth 20000
set_option maxHeartbeats 4000000
namespace Go.M
open Go.RowKit
abbrev vI (x:Int):Value:=Value.int .i64 x
abbrev vB (x:Bool):Value:=Value.bool x
abbrev vS (x:ByteArray):Value:=Value.string x
abbrev vL (A:Option Addr) (n c:Nat):Value:=Value.slice A n c
abbrev vP (b o:Nat):Value:=Value.pointer (some ⟨b,o,none⟩)
abbrev w64 (x:Int):Int:=IntKind.wrap .i64 x
theorem gvt {c:Bool} {x:Value} (v:Value) (h:c=true) (e:x=gv c v):x=v:=e.trans (lW h)
section
variable {P:Program} {Q:Exit→Act→World→Prop} {l:List Value} {df:List Deferred} {w:World} {ops:Array Oper} {o:Oper} {os:List Oper}
theorem rs (v:Value) {d:Tmp} {i:Op} {ty:TypeId} {pos:String} {af:Array Edge} (h:(execOp (ev l) ⟨some d,i,ty,pos,af,none⟩).run P w= .ok (.value v) w)
  (k:run P ops Q df os (l.set d v) w):run P ops Q df (⟨some d,i,ty,pos,af,none⟩::os) l w:=Py rfl rfl h k
theorem rgs (b c:Bool) (v:Value) {d e:Tmp} {j:Nat} {want:Bool} (hg:o.guard=some (j,want)) (hj:(ops[j]?).bind (·.dst)=some e) (hv:l.getD e undef=gv c (.bool b)) (hd:o.dst=some d)
  (h:(c&&(b==want))=true→(execOp (ev l) o).run P w= .ok (.value v) w) (k:run P ops Q df os (l.set d (gv (c&&(b==want)) v)) w):run P ops Q df (o::os) l w:=Ko hg hj hv hd h k
end
section
variable {M:List Nat} {h0 h:View} {w0 w:World} {a b c d e f g:Res} {r:List Res}
theorem St.f1 (H:St M h0 w0 h (a::b::r) w):St M h0 w0 h (b::a::r) w:=H.front (i:=1) rfl
theorem St.f2 (H:St M h0 w0 h (a::b::c::r) w):St M h0 w0 h (c::a::b::r) w:=H.front (i:=2) rfl
theorem St.f3 (H:St M h0 w0 h (a::b::c::d::r) w):St M h0 w0 h (d::a::b::c::r) w:=H.front (i:=3) rfl
theorem St.f4 (H:St M h0 w0 h (a::b::c::d::e::r) w):St M h0 w0 h (e::a::b::c::d::r) w:=H.front (i:=4) rfl
theorem St.f5 (H:St M h0 w0 h (a::b::c::d::e::f::r) w):St M h0 w0 h (f::a::b::c::d::e::r) w:=H.front (i:=5) rfl
theorem St.f6 (H:St M h0 w0 h (a::b::c::d::e::f::g::r) w):St M h0 w0 h (g::a::b::c::d::e::f::r) w:=H.front (i:=6) rfl
theorem St.f7 {x:Res} (H:St M h0 w0 h (a::b::c::d::e::f::g::x::r) w):St M h0 w0 h (x::a::b::c::d::e::f::g::r) w:=H.front (i:=7) rfl
theorem St.d0 (H:St M h0 w0 h (a::r) w):St M h0 w0 h r w:=H.drop 0
theorem St.d1 (H:St M h0 w0 h (a::b::r) w):St M h0 w0 h (a::r) w:=H.drop 1
theorem St.d2 (H:St M h0 w0 h (a::b::c::r) w):St M h0 w0 h (a::b::r) w:=H.drop 2
end
theorem sc0 {α:Type _} {x:α} {l:List α} {a:α}:(x::l).set 0 a=a::l:=rfl
theorem sc1 {α:Type _} {x:α} {l:List α} {n:Nat} {a:α}:(x::l).set (n+1) a=x::l.set n a:=rfl
end Go.M
namespace Go.Proofs.YtfjppgobidjndaaGreatDoor
open Go.RowKit Go.M
theorem rM:Tryz.prog.follows .mixedOrders=true:=by kernel_rfl
structure jE where
 aU:Int
 aJ:Bool
def MP:jE:=⟨0,false⟩
def Df:Kd jE:=Kd.iso (Kd.pair (Kd.int .i64) Kd.bool) fun x=>(x.aU,x.aJ)
theorem Iq:One Df:=Ip (uU zi PX)
def pz (x:jE):Value:= .agg #[.int .i64 x.aU, .bool x.aJ]
structure bf where
 aF:ByteArray
 vType:Int
 vAt:Int
def aj:bf:=⟨ByteArray.empty,0,0⟩
def dw:Kd bf:=Kd.iso (Kd.pair Kd.str (Kd.pair (Kd.int .i64) (Kd.int .i64))) fun x=>(x.aF,(x.vType,x.vAt))
theorem E5:One dw:=Ip (uU MH (uU zi zi))
theorem ji {h:View} {A:Option Addr} {xs:List bf} {i:Int} (hr:Rd dw h A xs) (h0:0≤i) (h1:i<xs.length):
  ∃ad,A=some ad∧mM h (ad.add (i.toNat*3)) [.string (rd aj xs i).aF, .int .i64 (rd aj xs i).vType, .int .i64 (rd aj xs i).vAt]:=by
 obtain ⟨ad,cs,e,hK,hc⟩:=hr.get aj h0 h1
 obtain ⟨_,_,rfl,rfl,⟨_,_,rfl,rfl,rfl⟩⟩:=hK
 exact ⟨ad,e,hc⟩
structure aZ where
 aA:Int
 aF:ByteArray
 aY:jE
 bY:Int
 vN:Int
 ak:List bf
def ah:aZ:=⟨0,ByteArray.empty,MP,0,0,[]⟩
def bI:Kd aZ:=Kd.iso (Kd.pair (Kd.int .i64) (Kd.pair Kd.str (Kd.pair Df (Kd.pair (Kd.int .i64) (Kd.pair (Kd.int .i64) (Kd.slice dw)))))) fun x=>(x.aA,(x.aF,(x.aY,(x.bY,(x.vN,x.ak)))))
theorem Ir:One bI:=Ip (uU zi (uU MH (uU Iq (uU zi (uU zi MI)))))
theorem gK {h:View} {A:Option Addr} {xs:List aZ} {i:Int} (hr:Rd bI h A xs) (h0:0≤i) (h1:i<xs.length):
  ∃ad A6 c6,A=some ad∧mM h (ad.add (i.toNat*7)) [.int .i64 (rd ah xs i).aA, .string (rd ah xs i).aF, .int .i64 (rd ah xs i).aY.aU, .bool (rd ah xs i).aY.aJ, .int .i64 (rd ah xs i).bY, .int .i64 (rd ah xs i).vN, .slice A6 (rd ah xs i).ak.length c6]∧(rd ah xs i).ak.length≤c6∧Rd dw h A6 (rd ah xs i).ak:=by
 obtain ⟨ad,cs,e,hK,hc⟩:=hr.get ah h0 h1
 obtain ⟨_,_,rfl,rfl,⟨_,_,rfl,rfl,⟨_,_,rfl,⟨_,_,rfl,rfl,rfl⟩,⟨_,_,rfl,rfl,⟨_,_,rfl,rfl,⟨A6,c6,rfl,hl6,hr6⟩⟩⟩⟩⟩⟩:=hK
 exact ⟨ad,A6,c6,e,hc,hl6,hr6⟩
structure aQ where
 au:List aZ
def Iu:aQ:=⟨[]⟩
def Dh:Kd aQ:=Kd.iso (Kd.slice bI) fun x=>x.au
structure iD where
 ny:Bool
 um:Bool
 mD:Bool
 vn:Bool
 kN:Bool
def aI:iD:=⟨false,false,false,false,false⟩
def kP (x:iD):Value:= .agg #[.bool x.ny, .bool x.um, .bool x.mD, .bool x.vn, .bool x.kN]
structure gu where
 vT:aQ
 vA:List Int
 vB:List Int
 vE:Int
structure dR where
 vt:aQ
 vi:Int
def bJ:dR:=⟨Iu,0⟩
def lq:Kd dR:=Kd.iso (Kd.pair Dh (Kd.int .i64)) fun x=>(x.vt,x.vi)
end Go.Proofs.YtfjppgobidjndaaGreatDoor
namespace Go.Proofs
open Go.Shelf
def Tryz.laysM171_ren:Go.Shelf.Ren:=⟨fun|171=>69|243=>86|246=>88|283=>97|284=>98|285=>99|286=>100|129=>102|317=>101|318=>103|319=>104|320=>105|337=>106|338=>107|n=>n,fun|3=>3|9=>9|2=>2|4=>4|171=>135|0=>0|53=>124|37=>59|5=>5|173=>138|212=>141|51=>134|20=>20|213=>142|46=>125|232=>146|233=>147|n=>n,fun|17=>0|18=>1|19=>2|n=>n⟩
theorem Tryz.laysM171 : Go.Proofs.LaysM.n171 Tryz.prog Tryz.laysM171_ren := {
 mixed:=by kernel_rfl
 f129:=Tryz.func102.trans (congrArg some (by kernel_rfl))
 f171:=Tryz.func69.trans (congrArg some (by kernel_rfl))
 f243:=Tryz.func86.trans (congrArg some (by kernel_rfl))
 f246:=Tryz.func88.trans (congrArg some (by kernel_rfl))
 f283:=Tryz.func97.trans (congrArg some (by kernel_rfl))
 f284:=Tryz.func98.trans (congrArg some (by kernel_rfl))
 f285:=Tryz.func99.trans (congrArg some (by kernel_rfl))
 f286:=Tryz.func100.trans (congrArg some (by kernel_rfl))
 f317:=Tryz.func101.trans (congrArg some (by kernel_rfl))
 f318:=Tryz.func103.trans (congrArg some (by kernel_rfl))
 f319:=Tryz.func104.trans (congrArg some (by kernel_rfl))
 f320:=Tryz.func105.trans (congrArg some (by kernel_rfl))
 f337:=Tryz.func106.trans (congrArg some (by kernel_rfl))
 f338:=Tryz.func107.trans (congrArg some (by kernel_rfl))
 t0:=Tryz.underlying0
 a0:=Tryz.isAgg0
 z0:=Tryz.sizeOf0
 v0:=Tryz.zeroValue0
 t2:=Tryz.underlying2
 a2:=Tryz.isAgg2
 z2:=Tryz.sizeOf2
 v2:=Tryz.zeroValue2
 t3:=Tryz.underlying3
 a3:=Tryz.isAgg3
 z3:=Tryz.sizeOf3
 v3:=Tryz.zeroValue3
 t4:=Tryz.underlying4
 a4:=Tryz.isAgg4
 z4:=Tryz.sizeOf4
 v4:=Tryz.zeroValue4
 t5:=Tryz.underlying5
 a5:=Tryz.isAgg5
 z5:=Tryz.sizeOf5
 v5:=Tryz.zeroValue5
 t9:=Tryz.underlying9
 a9:=Tryz.isAgg9
 z9:=Tryz.sizeOf9
 v9:=Tryz.zeroValue9
 t20:=Tryz.underlying20
 a20:=Tryz.isAgg20
 z20:=Tryz.sizeOf20
 v20:=Tryz.zeroValue20
 t37:=Tryz.underlying59
 a37:=Tryz.isAgg59
 z37:=Tryz.sizeOf59
 v37:=Tryz.zeroValue59
 t46:=Tryz.underlying125
 a46:=Tryz.isAgg125
 z46:=Tryz.sizeOf125
 v46:=Tryz.zeroValue125
 t51:=Tryz.underlying134
 a51:=Tryz.isAgg134
 z51:=Tryz.sizeOf134
 v51:=Tryz.zeroValue134
 t53:=Tryz.underlying124
 a53:=Tryz.isAgg124
 z53:=Tryz.sizeOf124
 v53:=Tryz.zeroValue124
 t171:=Tryz.underlying135
 a171:=Tryz.isAgg135
 z171:=Tryz.sizeOf135
 v171:=Tryz.zeroValue135
 t173:=Tryz.underlying138
 a173:=Tryz.isAgg138
 z173:=Tryz.sizeOf138
 v173:=Tryz.zeroValue138
 t212:=Tryz.underlying141
 a212:=Tryz.isAgg141
 z212:=Tryz.sizeOf141
 v212:=Tryz.zeroValue141
 t213:=Tryz.underlying142
 a213:=Tryz.isAgg142
 z213:=Tryz.sizeOf142
 t232:=Tryz.underlying146
 a232:=Tryz.isAgg146
 z232:=Tryz.sizeOf146
 v232:=Tryz.zeroValue146
 t233:=Tryz.underlying147
 a233:=Tryz.isAgg147
 z233:=Tryz.sizeOf147
 v233:=Tryz.zeroValue147
 g17:=by kernel_rfl
 g18:=by kernel_rfl
 g19:=by kernel_rfl
 i0:=by kernel_rfl
 i2:=by kernel_rfl
 i3:=by kernel_rfl
 i4:=by kernel_rfl
 i5:=by kernel_rfl
 i9:=by kernel_rfl
 i20:=by kernel_rfl
 i37:=by kernel_rfl
 i46:=by kernel_rfl
 i51:=by kernel_rfl
 i53:=by kernel_rfl
 i171:=by kernel_rfl
 i173:=by kernel_rfl
 i212:=by kernel_rfl
 i232:=by kernel_rfl
 i233:=by kernel_rfl
 m17:=by kernel_rfl
 m18:=by kernel_rfl
 m19 := by kernel_rfl }
open Go.RowKit Go.Sort Go.Lib in
theorem Tryz.strconv_Itoa (n : Int) (h0 : -9223372036854775808 ≤ n) (h1 : n ≤ 9223372036854775807) (w : World) (htab : Lib.TabIs Tryz.prog w "internal/strconv.uint64pow10" .u64 Lib.pow10Tab) :
    Calls Tryz.prog 69 #[.int .i64 n] w fun e w'=>e= .returned (.string ⟨(Lib.itoa n).toArray⟩)∧∃k os,w'=grow (w.drewN k) os:=Any.strconv_Itoa Tryz.laysM171 n h0 h1 w htab
end Go.Proofs
/-strconv.Itoa,by the library's contract,in the form of the walks here;the table that it looks at. -/
namespace Go.Proofs.YtfjppgobidjndaaGreatDoor
open Go.RowKit Go.M
set_option linter.defProp false
theorem X{α:Sort _}{a:α}:a=a:=rfl
def Ab:=@Option.some.inj
def Al:=@wp_seq
def An:=@Tryz.runUnderlying58
def Ao:=@region
def As:=@Tryz.sizeOf3
def Av:=@wp_cond_split
def Ax:=@Nat.le_of_ble_eq_true
def Ay:=@bodyPost_ret
def AC:=@Tryz.isAgg3
def AD:=@Tryz.sizeOf24
def AE:=@Tryz.runUnderlying24
def AF:=@Tryz.runUnderlying22
def AG:=@Tryz.runUnderlying27
def AH:=@Tryz.sizeOf58
def AI:=@Tryz.isAgg24
def AJ:=@Tryz.runUnderlying48
def AK:=@Tryz.runUnderlying56
def AM:=@Tryz.sizeOf22
def AN:=@wp_skip
def AR:=@Tryz.isAgg22
def AS:=@Tryz.sizeOf48
def AT:=@wp_ret
def AW:=@Tryz.sizeOf9
def A4:=@Tryz.sizeOf56
def A5:=@Tryz.runUnderlying25
def A7:=@Tryz.isAgg58
def A9:=@Tryz.zeroValue58
def A_:=@Tryz.runUnderlying55
def Bb:=@Tryz.zeroValue3
def Be:=@Tryz.isAgg9
def Bi:=@Tryz.sizeOf4
def Bk:=@Tryz.sizeOf55
def Bm:=@Tryz.zeroValue48
def Bn:=@Tryz.runUnderlying3
def Bp:=@Tryz.zeroValue24
def Br:=@Tryz.typeInfo3
def Bs:=@Tryz.isAgg56
def Bt:=@Tryz.runUnderlying101
def Bu:=@Tryz.runUnderlying59
def Bw:=@Tryz.runUnderlying35
def Bx:=@wp_exit
def By:=@Tryz.isAgg4
def BB:=@Tryz.runUnderlying9
def BC:=@Tryz.isAgg48
def BE:=@Tryz.sizeOf35
def BS:=@Tryz.zeroValue35
def BT:=@Tryz.runUnderlying80
def BV:=@Tryz.runUnderlying67
def BW:=@Tryz.runUnderlying102
def BY:=@Tryz.sizeOf27
def B0:=@Tryz.typeInfo58
def B1:=@Tryz.zeroValue101
def B2:=@Tryz.zeroValue55
def B3:=@Tryz.isAgg27
def B4:=@Tryz.runUnderlying110
def B5:=@Tryz.sizeOf28
def B6:=@Tryz.zeroValue5
def B7:=@Tryz.runUnderlying65
def B8:=@Tryz.typeInfo5
def B9:=@Tryz.underlying3
def B_:=@Tryz.zeroValue4
def Ca:=@Tryz.isAgg55
def Cd:=@Tryz.call42
def Cf:=@Tryz.sizeOf65
def Cg:=@Tryz.underlying4
def Ch:=@Tryz.underlying55
def Ck:=@Tryz.isAgg35
def Cl:=@Tryz.runUnderlying5
def Cn:=@Tryz.call71
def Co:=@Tryz.call62
def Cp:=@Tryz.runUnderlying90
def Cq:=@Tryz.runUnderlying96
def Cr:=@Tryz.runUnderlying72
def Cs:=@Tryz.typeInfo48
def Ct:=@Tryz.zeroValue9
def Cu:=@Tryz.call20
def Cv:=@Tryz.call34
def Cw:=@Tryz.typeInfo9
def Cx:=@Tryz.runUnderlying124
def Cy:=@Tryz.zeroValue96
def Cz:=@Tryz.sizeOf64
def CA:=@Tryz.call23
def CC:=@Tryz.runUnderlying64
def CD:=@Tryz.runUnderlying4
def CE:=@Tryz.isAgg65
def CF:=@Tryz.call12
def CH:=@Tryz.call29
def CK:=@Tryz.zeroValue27
def CL:=@Tryz.runUnderlying128
def CM:=@Tryz.call56
def CN:=@Tryz.call40
def CR:=@Tryz.call11
def CT:=@Tryz.call82
def C1:=@Tryz.sizeOf96
def C2:=@Tryz.isAgg64
def C3:=@Tryz.underlying48
def C4:=@Tryz.isAgg72
def C5:=@Tryz.isAgg99
def C6:=@Tryz.isAgg28
def C7:=@Tryz.underlying25
def C8:=@Tryz.underlying24
def C_:=@Tryz.zeroValue67
def Da:=@Tryz.underlying9
def Db:=@Tryz.call21
def Dd:=@Tryz.call55
def De:=@Tryz.call24
def Dg:=@Tryz.call85
def Dm:=@Tryz.call30
def Do:=@Tryz.call32
def Dr:=@Tryz.call33
def Ds:=@Tryz.call35
def DA:=@Tryz.typeInfo96
/-- the table of powers of ten is there -/
def Tab (w : World) : Prop := Lib.TabIs Tryz.prog w "internal/strconv.uint64pow10" .u64 Lib.pow10Tab
theorem Tab.b {w w':World} (h:Tab w) (hE:Kr [] w w'):Tab w':=by
 unfold Tab Lib.TabIs World.var? at*
 cases hg : Tryz.prog.globalNamed "internal/strconv.uint64pow10" with
 |none=>rw [hg] at h;cases h
 |some g=>
  rw [hg] at h
  simp only [Option.bind_some] at h⊢
  cases hb:w.heap[g]? with
  |none=>rw [hb] at h;cases h
  |some o=>
   have hlt:=(Array.getElem?_eq_some_iff.1 hb).1
   rw [hE.block g hlt (by simp)]
   exact h
theorem Tab.e {w w':World} (h:Tab w) (hE:Ext w w'):Tab w':=h.b (hE.toB [])
theorem Tab.s {h0 h:View} {w0 w:World} {bs:List Res} (ht:Tab w0) (HS:St [] h0 w0 h bs w):Tab w:=ht.b HS.ext
def strconv_Itoa.f (a0:Int):Option ByteArray:=if-9223372036854775808≤a0∧a0≤9223372036854775807 then some ⟨(Lib.itoa a0).toArray⟩ else none
theorem strconv_Itoa.calls (a0:Int) {h0:View} {w0:World} (hv:lS h0 w0) (ht:Tab w0) {r:ByteArray} (H:strconv_Itoa.f a0=some r):Calls Tryz.prog 69 #[vI a0] w0 (fun e w1=>e= .returned (vS r)∧Ext w0 w1):=by
 unfold strconv_Itoa.f at H
 obtain ⟨hc,H⟩:=dN H
 obtain rfl:=Ab H
 refine (Tryz.strconv_Itoa a0 hc.1 hc.2 w0 ht).mono ?_
 rintro e w1 ⟨rfl,k,os,rfl⟩
 refine ⟨X,X,X,X,by simp [Sort.grow,World.drewN],fun i hi=>?_⟩
 simp only [Sort.grow,World.drewN]
 rw [Array.getElem?_append_left hi]
end Go.Proofs.YtfjppgobidjndaaGreatDoor
namespace Go.Proofs.YtfjppgobidjndaaGreatDoor
open Go.RowKit Go.M
def jH.f (a0:aZ):Option (Bool):=some ((a0.aA !=2)&&(a0.aA !=3))
theorem jH.calls (a0:aZ) (kG:Option Addr) (kH:Nat) {h0:View} {w0:World} (hv:lS h0 w0) (sV:Rd dw h0 kG a0.ak) (wL:a0.ak.length≤kH) {r:Bool} (H:jH.f a0=some r):Calls Tryz.prog 23 #[Value.agg #[vI a0.aA,vS a0.aF,vI a0.aY.aU,vB a0.aY.aJ,vI a0.bY,vI a0.vN,vL kG a0.ak.length kH]] w0 (fun e w1=>e= .returned (vB r)∧Ext w0 w1):=by
 unfold jH.f at H
 have HS:St [] h0 w0 h0 [] w0:=St.init hv
 go_enter Tryz.func23,Tryz.ntmps23
 refine Al<|Ao<|dF X X (eF (cs:=#[vI a0.aA,vS a0.aF,vI a0.aY.aU,vB a0.aY.aJ,vI a0.bY,vI a0.vN,vL kG a0.ak.length kH]) X X) ?_
 rintro w1 _ hE1 ⟨b1,rfl,ge1,hb1⟩
 have HS1:=HS.new hE1 ge1 hb1
 refine rs (vB false) (aG X) ?_
 try simp only [sc0,sc1]
 refine aB<|ay<|Al<|Ao<|rs (vP b1 0) (aH (n:=1) (o':=0) X An X As (by decide) X)<|rs (vI a0.aA) (aN X AC (HS1.look 0 X) X)<|rs (vB (a0.aA !=2)) (bW X X X)<|rs (vB (a0.aA !=2)) (aO X)<|aK (by simp only [sc0,sc1];rfl) ?_
 refine rgs (a0.aA !=2) true (vP b1 0) X X X X (fun hg=>(aH (n:=1) (o':=0) X An X As (by decide) X))<|rgs (a0.aA !=2) true (vI a0.aA) X X X X (fun hg=>(aN (gvt (vP b1 0) hg X) AC (HS1.look 0 X) X))<|rgs (a0.aA !=2) true (vB (a0.aA !=3)) X X X X (fun hg=>(bW (gvt (vI a0.aA) hg X) X X))<|rs (vB ((a0.aA !=2)&&(a0.aA !=3))) (dL X (fun hp=>(gvt (vB (a0.aA !=3)) (gQ X hp) X)) X)<|aK (by simp only [sc0,sc1];rfl) ?_
 refine rs (vB ((a0.aA !=2)&&(a0.aA !=3))) (aG X) ?_
 try simp only [sc0,sc1]
 refine aB<|ay<|AT ?_
 obtain rfl:=Ab H
 exact Ay (bD X (bK X)) X<|⟨X,HS1.toE⟩
def iW.l0 (a0:aZ):Nat→Int→(List Int)→Option ((List Int))
 |0,_,_=>none
 |m+1,aC,dG=>if (decide (aC<(a0.ak.length:Int)))=true then (if 0≤aC∧aC<a0.ak.length then (if dG.length+1≤4294967296 then (iW.l0 a0 m (IntKind.wrap .i64 (aC+1)) (dG++([(rd aj a0.ak aC).vType]:List Int))) else none) else none) else (some dG)
def iW.f (k:Nat) (a0:aZ):Option ((List Int)):=((if (a0.aA==3)=true then (some (a0.aA==3)) else (some (a0.aA==6))):Option (Bool)).bind fun xx1=>(if xx1=true then (some ([a0.bY]:List Int)) else (if (a0.aA==4)=true then ((iW.l0 a0 k 0 ([]:List Int)).bind fun xx2=>(some xx2)) else (some ([]:List Int))))
theorem iW.calls (k:Nat) (a0:aZ) (kG:Option Addr) (kH:Nat) {h0:View} {w0:World} (hv:lS h0 w0) (sV:Rd dw h0 kG a0.ak) (wL:a0.ak.length≤kH) {r:(List Int)} (H:iW.f k a0=some r):Calls Tryz.prog 68 #[Value.agg #[vI a0.aA,vS a0.aF,vI a0.aY.aU,vB a0.aY.aJ,vI a0.bY,vI a0.vN,vL kG a0.ak.length kH]] w0 (fun e w1=>∃(h1:View) (bQ:Option Addr) (bT:Nat),e= .returned (vL bQ r.length bT)∧r.length≤bT∧Rd (Kd.int .i64) h1 bQ r∧Gr w0.heap.size h0 h1∧lS h1 w1∧Ext w0 w1):=by
 unfold iW.f at H
 have HS:St [] h0 w0 h0 [] w0:=St.init hv
 go_enter Tryz.func68,Tryz.ntmps68
 refine Al<|Ao<|dF X X (eF (cs:=#[vI a0.aA,vS a0.aF,vI a0.aY.aU,vB a0.aY.aJ,vI a0.bY,vI a0.vN,vL kG a0.ak.length kH]) X X) ?_
 rintro w1 _ hE1 ⟨b1,rfl,ge1,hb1⟩
 have HS1:=HS.new hE1 ge1 hb1
 refine rs (vL none 0 0) (aG X) ?_
 try simp only [sc0,sc1]
 refine aB<|ay<|Al<|Al<|Ao<|rs (vP b1 0) (aH (n:=1) (o':=0) X An X As (by decide) X)<|rs (vI a0.aA) (aN X AC (HS1.look 0 X) X) ?_
 try simp only [sc0,sc1]
 refine aB<|ay<|wp_block<|Al<|Al<|Ao<|rs (vB (a0.aA==3)) (bW X X X)<|rs (vB (a0.aA==3)) (aG X) ?_
 try simp only [sc0,sc1]
 refine aB<|ay ?_
 obtain ⟨xx1,H,G1⟩:=bn H
 refine kT [8,10] (fun us w'=>Fit us (fun uj1=>[vB xx1,(uj1 1)])∧St [] h0 w0 h0 [(some b1, .cells #[vI a0.aA,vS a0.aF,vI a0.aY.aU,vB a0.aY.aJ,vI a0.bY,vI a0.vN,vL kG a0.ak.length kH] 58 (0,0))] w') ?_ ?_
 ·refine Av (t:=(a0.aA==3)) X (fun c1=>?_) (fun c1=>?_)
  ·replace H:=bU H c1
   refine AN ?_
   obtain rfl:=Ab H
   refine oH X ⟨(fit X),HS1⟩
  ·replace H:=cO H (nt c1)
   refine Ao<|rs (vB (a0.aA==6)) (bW X X X)<|rs (vB (a0.aA==6)) (aG X) ?_
   try simp only [sc0,sc1]
   refine aB ?_
   obtain rfl:=Ab H
   refine oH X ⟨(fit X),HS1⟩
 ·rintro us w2 ⟨AB,HS2⟩
  obtain ⟨uj1,rfl⟩:=unj AB
  replace H:=G1
  clear G1
  try simp only [patch,sc0,sc1]
  refine Av (t:=xx1) X (fun c2=>?_) (fun c2=>?_)
  ·replace H:=bU H c2
   refine Al<|Ao<|rs (vP b1 4) (aH (n:=1) (o':=4) X An X As (by decide) X)<|rs (vI a0.bY) (aN X AC (HS2.look 0 X) X)<|ng (Kd.int .i64) (xs:=([a0.bY]:List Int)) (n:=1) (cs:=[vI a0.bY]) AG Br Bb X X (by decide) (by decide) (by decide) [vI a0.bY] (jd.trans X) X X X X (fH (qs:=[vI a0.bY]) X (jc (cs:=[]))) HS2 ?_
   intro w3 b2 HS3 ho1
   refine rs (vL (rowA (some b2)) 1 1) (aG X) ?_
   try simp only [sc0,sc1]
   refine aB<|ay<|AT<|fA<|bP ?_
   obtain rfl:=Ab H
   refine Ay (bD X (bK X)) X ?_
   obtain ⟨h1,HS4,hs1,oV⟩:=lC HS3 (i:=0) rfl ho1
   exact ⟨h1,(rowA (some b2)),1,(by first|rfl|(rw [ho1.len];done)|(rw [ho1.len];rfl)),ho1.cap,oV,HS4.gr,HS4.sees,HS4.toE⟩
  ·replace H:=cO H (nt c2)
   refine Al<|Ao<|rs (vB (a0.aA==4)) (bW X X X)<|rs (vB (a0.aA==4)) (aG X) ?_
   try simp only [sc0,sc1]
   refine aB<|ay<|Av (t:=(a0.aA==4)) X (fun c3=>?_) (fun c3=>?_)
   ·replace H:=bU H c3
    refine Al<|Ao<|rs (vL none 0 0) (aG X) ?_
    try simp only [sc0,sc1]
    refine aB<|ay<|Al<|Al<|Ao<|rs (vP b1 6) (aH (n:=1) (o':=6) X An X A4 (by decide) X)<|rs (vL kG a0.ak.length kH) (aN X Bs (HS2.look 0 X) X)<|rs (vI (a0.ak.length:Int)) (jD X AK)<|rs (vI 0) (aO X) ?_
    try simp only [sc0,sc1]
    refine aB<|ay ?_
    have HS5:=HS2.nothing (.cells ([]:List Value).toArray 3 (0,0))
    obtain ⟨xx2,H,G2⟩:=bn H
    refine jB [3,5,19,20,21,22,23,24,25,26,27,28] (fun m us w'=>∃aC:Int,∃dG:List Int,∃(fC:Option Nat) (jv:Nat),∃(eH:List Value),Fit us (fun uy1=>[vL (rowA fC) dG.length jv,(uy1 1),vI aC,(uy1 3),(uy1 4),(uy1 5),(uy1 6),(uy1 7),(uy1 8),(uy1 9),(uy1 10),(uy1 11)])∧iW.l0 a0 m aC dG=some xx2∧gU (Kd.int .i64) h0 dG fC dG.length jv eH∧St [] h0 w0 h0 [(fC, .cells (eH).toArray 3 (0,0)),(some b1, .cells #[vI a0.aA,vS a0.aF,vI a0.aY.aU,vB a0.aY.aJ,vI a0.bY,vI a0.vN,vL kG a0.ak.length kH] 58 (0,0))] w') (fun us w'=>∃(eP:Option Nat) (jo:Nat),∃(iw:List Value),Fit us (fun uo1=>[vL (rowA eP) xx2.length jo,(uo1 1),(uo1 2),(uo1 3),(uo1 4),(uo1 5),(uo1 6),(uo1 7),(uo1 8),(uo1 9),(uo1 10),(uo1 11)])∧gU (Kd.int .i64) h0 xx2 eP xx2.length jo iw∧St [] h0 w0 h0 [(eP, .cells (iw).toArray 3 (0,0)),(some b1, .cells #[vI a0.aA,vS a0.aF,vI a0.aY.aU,vB a0.aY.aJ,vI a0.bY,vI a0.vN,vL kG a0.ak.length kH] 58 (0,0))] w') k ⟨0,([]:List Int),none,0,([]:List Value),(fit X),H,(gU.none' (Kd.int .i64) _).norm,HS5⟩ ?_ ?_
    ·rintro m us w4 ⟨aC,dG,fC,jv,eH,nO,H,iE,HS6⟩
     obtain ⟨uy1,rfl⟩:=unj nO
     cases m with
     |zero=>exact absurd H (by simp [iW.l0])
     |succ m=>
      rw [iW.l0] at H
      try simp only [patch,sc0,sc1]
      refine Al<|Ao<|rs (vB (decide (aC<(a0.ak.length:Int)))) (bW X X X) ?_
      try simp only [sc0,sc1]
      refine aB<|ay<|Al<|Av (t:=(decide (aC<(a0.ak.length:Int)))) X (fun c4=>?_) (fun c4=>?_)
      ·replace H:=bU H c4
       refine AN<|ay<|Al<|wp_block<|Al<|Ao ?_
       obtain ⟨hi1,H⟩:=dN H
       obtain ⟨ad1,e1,mJ⟩:=ji sV hi1.1 hi1.2
       refine rs (Value.pointer (some (Addr.add ad1 (aC.toNat*3)))) (dP (sz:=3) X e1 X hi1.1 hi1.2 AK AS)<|rs (Value.agg #[vS ((rd aj a0.ak aC).aF),vI ((rd aj a0.ak aC).vType),vI ((rd aj a0.ak aC).vAt)]) (gG X BC (mJ.sees HS6.sees) AS)<|dF X X (dO (cs:=#[vS ByteArray.empty,vI 0,vI 0]) Bm X) ?_
       rintro w5 _ hE2 ⟨b3,rfl,ge2,hb2⟩
       have HS7:=HS6.new hE2 ge2 hb2
       refine gJ (i:=0) (cs:=[vS ByteArray.empty,vI 0,vI 0]) (cs':=[vS ((rd aj a0.ak aC).aF),vI ((rd aj a0.ak aC).vType),vI ((rd aj a0.ak aC).vAt)]) (vs:=[vS ((rd aj a0.ak aC).aF),vI ((rd aj a0.ak aC).vType),vI ((rd aj a0.ak aC).vAt)]) (bs':=[(some b3, .cells #[vS ((rd aj a0.ak aC).aF),vI ((rd aj a0.ak aC).vType),vI ((rd aj a0.ak aC).vAt)] 48 (0,0)),(fC, .cells (eH).toArray 3 (0,0)),(some b1, .cells #[vI a0.aA,vS a0.aF,vI a0.aY.aU,vB a0.aY.aJ,vI a0.bY,vI a0.vN,vL kG a0.ak.length kH] 58 (0,0))]) X X AS X X (by decide) X HS7 X (Ax X) X X ?_
       intro w6 HS8
       try simp only [sc0,sc1]
       refine aB<|ay<|Ao<|rs (vL (rowA fC) dG.length jv) (aO X)<|rs (vP b3 1) (aH (n:=1) (o':=1) X AJ X As (by decide) X)<|rs (vI ((rd aj a0.ak aC).vType)) (aN X AC (HS8.look 0 X) X)<|ng (Kd.int .i64) (xs:=([(rd aj a0.ak aC).vType]:List Int)) (n:=1) (cs:=[vI ((rd aj a0.ak aC).vType)]) AG Br Bb X X (by decide) (by decide) (by decide) [vI ((rd aj a0.ak aC).vType)] (jd.trans X) X X X X (fH (qs:=[vI ((rd aj a0.ak aC).vType)]) X (jc (cs:=[]))) HS8 ?_
       intro w7 b4 HS9 ho2
       refine aK (by simp only [sc0,sc1];rfl) ?_
       obtain ⟨hl1,H⟩:=dN H
       refine oD (Kd.int .i64) (q:=2) (cs:=eH) X X AG Br Bb X (by decide) X (ni AG HS9 (i:=0) X ho2 X) ho2.len (iC ho2) hl1 HS9 X iE ?_
       intro w8 ob1 c5 cs1 kF ho3
       refine rs (vL (rowA ob1) (dG.length+1) c5) (aG X) ?_
       try simp only [sc0,sc1]
       refine aB<|dD<|ay<|Ao<|rs (vI (w64 (aC+1))) (bW X X X)<|rs (vI (w64 (aC+1))) (aO X) ?_
       try simp only [sc0,sc1]
       refine aB<|gI m (Nat.lt_succ_self m) X ⟨(w64 (aC+1)),(dG++([(rd aj a0.ak aC).vType]:List Int)),ob1,c5,cs1,(fit (by first|rfl|(rw [ho3.len];done)|(rw [ho3.len];rfl))),H,ho3.norm,kF.tail.tail⟩
      ·replace H:=cO H (nt c4)
       refine Bx<|eU ?_
       obtain rfl:=Ab H
       refine iK X ⟨fC,jv,eH,(fit X),iE.norm,HS6⟩
    ·rintro us w9 ⟨eP,jo,iw,nP,jr,oC⟩
     obtain ⟨uo1,rfl⟩:=unj nP
     replace H:=G2
     clear G2
     try simp only [patch,sc0,sc1]
     refine ay<|Al<|Ao<|rs (vL (rowA eP) xx2.length jo) (aO X)<|rs (vL (rowA eP) xx2.length jo) (aG X) ?_
     try simp only [sc0,sc1]
     refine aB<|ay<|AT<|fA<|bP ?_
     obtain rfl:=Ab H
     refine Ay (bD X (bK X)) X ?_
     obtain ⟨h2,mW,hs2,D8⟩:=lC oC (i:=0) rfl jr
     exact ⟨h2,(rowA eP),jo,X,jr.cap,D8,mW.gr,mW.sees,mW.toE⟩
   ·replace H:=cO H (nt c3)
    refine AN<|dD<|ay<|Al<|Ao<|rs (vL none 0 0) (aG X) ?_
    try simp only [sc0,sc1]
    refine aB<|ay<|AT ?_
    obtain rfl:=Ab H
    exact Ay (bD X (bK X)) X<|⟨h0,none,0,X,(Nat.le_refl 0),(Rd.nil _ _ _),HS2.gr,HS2.sees,HS2.toE⟩
def fE.l0 (rec:Int→(List Int)→Bool→(List Bool)→(List aZ)→Option (Int×(List Int)×Bool×(List Bool))) (x3:List aZ) (v1:(List Int)):Nat→Int→Int→Bool→(List Int)→(List Bool)→Option (Int×Bool×(List Int)×(List Bool))
 |0,_,_,_,_,_=>none
 |m+1,aC,dG,o7,sK,Eo=>if (decide (dG<(v1.length:Int)))=true then (if 0≤dG∧dG<v1.length then ((rec (rd 0 v1 dG) sK o7 Eo x3).bind fun v2=>(fE.l0 rec x3 v1 m v2.1 (IntKind.wrap .i64 (dG+1)) v2.2.2.1 v2.2.1 v2.2.2.2)) else none) else (some (aC,o7,sK,Eo))
def fE.f:Nat→Int→(List Int)→Bool→(List Bool)→(List aZ)→Option (Int×(List Int)×Bool×(List Bool))
 |0,_,_,_,_,_=>none
 |k+1,a0,x0,x1,x2,x3=>if 0≤a0∧a0<((x0.length:Nat):Int) then (if ((decide ((rd 0 x0 a0)>0))||(!x1))=true then (if 0≤a0∧a0<((x0.length:Nat):Int) then (some ((rd 0 x0 a0),x0,x1,x2)) else none) else (if 0≤a0∧a0<((x2.length:Nat):Int) then (if (rd false x2 a0)=true then (some (0,x0,false,x2)) else (if 0≤a0∧a0<((x2.length:Nat):Int) then (if 0≤a0∧a0<x3.length then ((iW.f k (rd ah x3 a0)).bind fun v1=>((fE.l0 (fE.f k) x3 v1 k 0 0 x1 x0 (List.set x2 a0.toNat true)).bind fun xx1=>(if 0≤a0∧a0<((xx1.2.2.1.length:Nat):Int) then (some (((bM ieq (iG ieq (iG ieq (iG ieq (iG ieq (iG ieq (iG ieq ([]:List (Int×Int)) 1 ((rd ah x3 a0).aY.aU)) 2 8) 3 (IntKind.wrap .i64 ((rd ah x3 a0).vN*xx1.1))) 4 ((rd ah x3 a0).vN)) 5 4) 6 xx1.1) ((rd ah x3 a0).aA)).getD 0),(List.set xx1.2.2.1 a0.toNat ((bM ieq (iG ieq (iG ieq (iG ieq (iG ieq (iG ieq (iG ieq ([]:List (Int×Int)) 1 ((rd ah x3 a0).aY.aU)) 2 8) 3 (IntKind.wrap .i64 ((rd ah x3 a0).vN*xx1.1))) 4 ((rd ah x3 a0).vN)) 5 4) 6 xx1.1) ((rd ah x3 a0).aA)).getD 0)),(xx1.2.1&&(decide (((bM ieq (iG ieq (iG ieq (iG ieq (iG ieq (iG ieq (iG ieq ([]:List (Int×Int)) 1 ((rd ah x3 a0).aY.aU)) 2 8) 3 (IntKind.wrap .i64 ((rd ah x3 a0).vN*xx1.1))) 4 ((rd ah x3 a0).vN)) 5 4) 6 xx1.1) ((rd ah x3 a0).aA)).getD 0)≤512))),xx1.2.2.2)) else none))) else none) else none)) else none)) else none
theorem fE.calls:∀(k:Nat) (a0:Int) (x0:List Int) (x1:Bool) (x2:List Bool) (x3:List aZ) (bx0:Nat) (Iw:Option Nat) (cx0:Nat) (MQ:List Value) (bx1:Nat) (bx2:Nat) (Iy:Option Nat) (cx2:Nat) (MR:List Value) (bx3:Nat) (Ax3:Option Addr) (cx3:Nat) (bx4:Nat) {h0:View} {w0:World} {h:View} {w:World} {rest:List Res} (HS:St [] h0 w0 h ((some bx0, .cells #[vL (rowA Iw) x0.length cx0] 27 (0,0))::(Iw, .cells (MQ).toArray 3 (0,0))::(some bx1, .cells #[vB x1] 4 (0,0))::(some bx2, .cells #[vL (rowA Iy) x2.length cx2] 80 (0,0))::(Iy, .cells (MR).toArray 4 (0,0))::(some bx3, .cells #[vL Ax3 x3.length cx3] 24 (0,0))::(some bx4, .cells #[Value.func (.func 67) #[] #[vP bx0 0,vP bx1 0,vP bx2 0,vP bx3 0,vP bx4 0]] 75 (0,0))::rest) w) (KC:gU (Kd.int .i64) h x0 Iw x0.length cx0 MQ) (SB:gU Kd.bool h x2 Iy x2.length cx2 MR) (LQ:Rd bI h Ax3 x3) (Xd:x3.length≤cx3) {r:Int×(List Int)×Bool×(List Bool)} (H:fE.f k a0 x0 x1 x2 x3=some r),Calls Tryz.prog 67 #[vI a0,vP bx0 0,vP bx1 0,vP bx2 0,vP bx3 0,vP bx4 0] w (fun e w1=>∃(h1:View),∃(MS:Option Nat) (UE:Nat) (Rl:List Value),∃(MV:Option Nat) (UF:Nat) (Rn:List Value),e= .returned (vI r.1)∧gU (Kd.int .i64) h1 r.2.1 MS r.2.1.length UE Rl∧gU Kd.bool h1 r.2.2.2 MV r.2.2.2.length UF Rn∧Sub h h1∧St [] h0 w0 h1 ((some bx0, .cells #[vL (rowA MS) r.2.1.length UE] 27 (0,0))::(MS, .cells (Rl).toArray 3 (0,0))::(some bx1, .cells #[vB r.2.2.1] 4 (0,0))::(some bx2, .cells #[vL (rowA MV) r.2.2.2.length UF] 80 (0,0))::(MV, .cells (Rn).toArray 4 (0,0))::(some bx3, .cells #[vL Ax3 x3.length cx3] 24 (0,0))::(some bx4, .cells #[Value.func (.func 67) #[] #[vP bx0 0,vP bx1 0,vP bx2 0,vP bx3 0,vP bx4 0]] 75 (0,0))::rest) w1):=by
 intro k
 induction k with
 |zero=>
  intros
  rename_i H
  exact absurd H (by simp [fE.f])
 |succ k ih=>
  intro a0 x0 x1 x2 x3 bx0 Iw cx0 MQ bx1 bx2 Iy cx2 MR bx3 Ax3 cx3 bx4 h0 w0 h w rest HS KC SB LQ Xd r H
  rw [fE.f] at H
  have hsub:Sub h h:=Sub.rfl' h
  go_enter Tryz.func67,Tryz.ntmps67
  refine Al<|Ao<|rs (vI 0) (aG X) ?_
  try simp only [sc0,sc1]
  refine aB<|ay<|Al<|Al<|Ao<|rs (vL (rowA Iw) x0.length cx0) (aN X B3 (HS.look 0 X) X)<|rs (vI a0) (aO X) ?_
  obtain ⟨hi1,H⟩:=dN H
  obtain ⟨rb1,_,Hz,rfl,hp1⟩:=KC.at 0 hi1.1 hi1.2
  refine rs (Value.pointer (some ⟨rb1,a0.toNat*1+0,none⟩)) (lX (sz:=1) X Hz X hi1.1 hi1.2 AG As)<|rs (vI (rd 0 x0 a0)) (aN (cs:=MQ) X AC (HS.ES 1 X Hz) (hp1 0 _ X))<|aK (by simp only [sc0,sc1];rfl) ?_
  refine rs (vB (decide ((rd 0 x0 a0)>0))) (bW X X X)<|rs (vB (decide ((rd 0 x0 a0)>0))) (aO X)<|rgs (decide ((rd 0 x0 a0)>0)) true (vB x1) X X X X (fun hg=>(aN X By (HS.look 2 X) X))<|rgs (decide ((rd 0 x0 a0)>0)) true (vB (!x1)) X X X X (fun hg=>(mZ (gvt (vB x1) hg X)))<|aK (by simp only [sc0,sc1];rfl) ?_
  refine rs (vB ((decide ((rd 0 x0 a0)>0))||(!x1))) (dQ X X (fun hp=>(gvt (vB (!x1)) (gQ X hp) X))) ?_
  try simp only [sc0,sc1]
  refine aB<|ay<|Av (t:=((decide ((rd 0 x0 a0)>0))||(!x1))) X (fun c1=>?_) (fun c1=>?_)
  ·replace H:=bU H c1
   refine Al<|Ao<|rs (vL (rowA Iw) x0.length cx0) (aN X B3 (HS.look 0 X) X)<|rs (vI a0) (aO X) ?_
   obtain ⟨hi2,H⟩:=dN H
   obtain ⟨rb2,_,Jr,rfl,hp2⟩:=KC.at 0 hi2.1 hi2.2
   refine rs (Value.pointer (some ⟨rb2,a0.toNat*1+0,none⟩)) (lX (sz:=1) X Jr X hi2.1 hi2.2 AG As)<|rs (vI (rd 0 x0 a0)) (aN (cs:=MQ) X AC (HS.ES 1 X Jr) (hp2 0 _ X))<|aK (by simp only [sc0,sc1];rfl) ?_
   refine rs (vI (rd 0 x0 a0)) (aG X) ?_
   try simp only [sc0,sc1]
   refine aB<|ay<|AT<|bP ?_
   obtain rfl:=Ab H
   exact Ay (bD X (bK X)) X<|⟨h,Iw,cx0,MQ,Iy,cx2,MR,X,KC,SB,hsub,HS⟩
  ·replace H:=cO H (nt c1)
   refine AN<|ay<|Al<|Al<|Ao<|rs (vL (rowA Iy) x2.length cx2) (aN X Tryz.isAgg80 (HS.look 3 X) X)<|rs (vI a0) (aO X) ?_
   obtain ⟨hi3,H⟩:=dN H
   obtain ⟨rb3,_,UG,rfl,hp3⟩:=SB.at false hi3.1 hi3.2
   refine rs (Value.pointer (some ⟨rb3,a0.toNat*1+0,none⟩)) (lX (sz:=1) X UG X hi3.1 hi3.2 BT Bi)<|rs (vB (rd false x2 a0)) (aN (cs:=MR) X By (HS.ES 4 X UG) (hp3 0 _ X)) ?_
   try simp only [sc0,sc1]
   refine aB<|ay<|Av (t:=(rd false x2 a0)) X (fun c2=>?_) (fun c2=>?_)
   ·replace H:=bU H c2
    refine Al<|Ao<|gJ (i:=2) (cs:=[vB x1]) (cs':=[vB false]) (vs:=[vB false]) (bs':=((some bx0, .cells #[vL (rowA Iw) x0.length cx0] 27 (0,0))::(Iw, .cells (MQ).toArray 3 (0,0))::(some bx1, .cells #[vB false] 4 (0,0))::(some bx2, .cells #[vL (rowA Iy) x2.length cx2] 80 (0,0))::(Iy, .cells (MR).toArray 4 (0,0))::(some bx3, .cells #[vL Ax3 x3.length cx3] 24 (0,0))::(some bx4, .cells #[Value.func (.func 67) #[] #[vP bx0 0,vP bx1 0,vP bx2 0,vP bx3 0,vP bx4 0]] 75 (0,0))::rest)) X X Bi X X (by decide) X HS X (Ax X) X X ?_
    intro w1 HS1
    try simp only [sc0,sc1]
    refine aB<|ay<|Al<|Ao<|rs (vI 0) (aG X) ?_
    try simp only [sc0,sc1]
    refine aB<|ay<|AT<|bP ?_
    obtain rfl:=Ab H
    exact Ay (bD X (bK X)) X<|⟨h,Iw,cx0,MQ,Iy,cx2,MR,X,KC,SB,hsub,HS1⟩
   ·replace H:=cO H (nt c2)
    refine AN<|ay<|Al<|Ao<|rs (vL (rowA Iy) x2.length cx2) (aN X Tryz.isAgg80 (HS.look 3 X) X)<|rs (vI a0) (aO X) ?_
    obtain ⟨hi4,H⟩:=dN H
    obtain ⟨rb4,_,Xe,rfl,hp4⟩:=SB.at false hi4.1 hi4.2
    refine rs (Value.pointer (some ⟨rb4,a0.toNat*1+0,none⟩)) (lX (sz:=1) X Xe X hi4.1 hi4.2 BT Bi)<|CV (i:=4) (cs:=MR) (v:=vB true) Xe X X Bi X X HS X (SB.inb hi4.1 hi4.2 (m:=1) (by decide)) ?_
    intro w2 HS2
    have ho1:=SB.set (o:=0) (v:=vB true) (x':=true) hi4.1 hi4.2 hp4 X (Ax X)
    try simp only [sc0,sc1]
    refine aB<|ay<|Al<|Ao<|rs (vP bx3 0) (aH (n:=1) (o':=0) X AE X AM (by decide) X)<|rs (vL Ax3 x3.length cx3) (aN X AR (HS2.look 5 X) X)<|rs (vI a0) (aO X) ?_
    obtain ⟨hi5,H⟩:=dN H
    obtain ⟨ad1,dU,dY,e1,mJ,jS,iY⟩:=gK LQ hi5.1 hi5.2
    refine rs (Value.pointer (some (Addr.add ad1 (a0.toNat*7)))) (dP (sz:=7) X e1 X hi5.1 hi5.2 AF AH)<|aK (by simp only [sc0,sc1];rfl) ?_
    refine rs (Value.agg #[vI ((rd ah x3 a0).aA),vS ((rd ah x3 a0).aF),vI ((rd ah x3 a0).aY.aU),vB ((rd ah x3 a0).aY.aJ),vI ((rd ah x3 a0).bY),vI ((rd ah x3 a0).vN),vL dU ((rd ah x3 a0).ak).length dY]) (gG X A7 (mJ.sees HS2.sees) AH)<|dF X X (dO (cs:=#[vI 0,vS ByteArray.empty,vI 0,vB false,vI 0,vI 0,vL none 0 0]) A9 X) ?_
    rintro w3 _ hE1 ⟨b1,rfl,ge1,hb1⟩
    have HS3:=HS2.new hE1 ge1 hb1
    refine gJ (i:=0) (cs:=[vI 0,vS ByteArray.empty,vI 0,vB false,vI 0,vI 0,vL none 0 0]) (cs':=[vI ((rd ah x3 a0).aA),vS ((rd ah x3 a0).aF),vI ((rd ah x3 a0).aY.aU),vB ((rd ah x3 a0).aY.aJ),vI ((rd ah x3 a0).bY),vI ((rd ah x3 a0).vN),vL dU ((rd ah x3 a0).ak).length dY]) (vs:=[vI ((rd ah x3 a0).aA),vS ((rd ah x3 a0).aF),vI ((rd ah x3 a0).aY.aU),vB ((rd ah x3 a0).aY.aJ),vI ((rd ah x3 a0).bY),vI ((rd ah x3 a0).vN),vL dU ((rd ah x3 a0).ak).length dY]) (bs':=((some b1, .cells #[vI ((rd ah x3 a0).aA),vS ((rd ah x3 a0).aF),vI ((rd ah x3 a0).aY.aU),vB ((rd ah x3 a0).aY.aJ),vI ((rd ah x3 a0).bY),vI ((rd ah x3 a0).vN),vL dU ((rd ah x3 a0).ak).length dY] 58 (0,0))::(some bx0, .cells #[vL (rowA Iw) x0.length cx0] 27 (0,0))::(Iw, .cells (MQ).toArray 3 (0,0))::(some bx1, .cells #[vB x1] 4 (0,0))::(some bx2, .cells #[vL (rowA Iy) x2.length cx2] 80 (0,0))::(Iy, .cells ((List.set MR (a0.toNat*1+0) (vB true))).toArray 4 (0,0))::(some bx3, .cells #[vL Ax3 x3.length cx3] 24 (0,0))::(some bx4, .cells #[Value.func (.func 67) #[] #[vP bx0 0,vP bx1 0,vP bx2 0,vP bx3 0,vP bx4 0]] 75 (0,0))::rest)) X X AH X X (by decide) X HS3 X (Ax X) X X ?_
    intro w4 HS4
    try simp only [sc0,sc1]
    refine aB<|ay<|Al<|Ao<|rs (vI 0) (aG X) ?_
    try simp only [sc0,sc1]
    refine aB<|ay<|Al<|Al<|Ao<|rs (Value.agg #[vI ((rd ah x3 a0).aA),vS ((rd ah x3 a0).aF),vI ((rd ah x3 a0).aY.aU),vB ((rd ah x3 a0).aY.aJ),vI ((rd ah x3 a0).bY),vI ((rd ah x3 a0).vN),vL dU ((rd ah x3 a0).ak).length dY]) (aT (n:=7) (vs:=[vI ((rd ah x3 a0).aA),vS ((rd ah x3 a0).aF),vI ((rd ah x3 a0).aY.aU),vB ((rd ah x3 a0).aY.aJ),vI ((rd ah x3 a0).bY),vI ((rd ah x3 a0).vN),vL dU ((rd ah x3 a0).ak).length dY]) X A7 (HS4.look 0 X) AH X X) ?_
    obtain ⟨v1,H1,H⟩:=bn H
    refine dF X X (iQ Tryz.call68 X (jX (h:=h) (R:=(fun hx u=>∃(iV:Option Addr) (jq:Nat),u=vL iV v1.length jq∧v1.length≤jq∧Rd (Kd.int .i64) hx iV v1)) (Ext.rfl' w4) ((iW.calls k (rd ah x3 a0) dU dY HS4.sees iY jS H1).mono ?_)) X) ?_
    ·rintro _ _ ⟨h1,iV,jq,rfl,qm,jM,g,ss,x⟩
     exact ⟨h1,_,X,⟨iV,jq,X,qm,jM⟩,g,ss,x⟩
    rintro w5 _ hE2 ⟨h1,⟨iV,jq,rfl,qm,jM⟩,gr1,se1⟩
    have HS5:=HS4.view hE2 gr1 se1
    replace LQ:Rd bI h1 Ax3 x3:=LQ.ext gr1.1
    replace hsub:Sub h h1:=hsub.then gr1.1
    replace mJ:mM h1 (Addr.add ad1 (a0.toNat*7)) [vI ((rd ah x3 a0).aA),vS ((rd ah x3 a0).aF),vI ((rd ah x3 a0).aY.aU),vB ((rd ah x3 a0).aY.aJ),vI ((rd ah x3 a0).bY),vI ((rd ah x3 a0).vN),vL dU ((rd ah x3 a0).ak).length dY]:=mJ.sub gr1.1
    replace iY:Rd dw h1 dU ((rd ah x3 a0).ak):=iY.ext gr1.1
    replace KC:=KC.view gr1.1
    replace ho1:=ho1.view gr1.1
    refine rs (vI (v1.length:Int)) (jD X AG)<|rs (vI 0) (aO X) ?_
    try simp only [sc0,sc1]
    refine aB<|ay ?_
    obtain ⟨xx1,H,G1⟩:=bn H
    have BX:St [] h0 w0 h1 ((some b1, .cells #[vI ((rd ah x3 a0).aA),vS ((rd ah x3 a0).aF),vI ((rd ah x3 a0).aY.aU),vB ((rd ah x3 a0).aY.aJ),vI ((rd ah x3 a0).bY),vI ((rd ah x3 a0).vN),vL dU ((rd ah x3 a0).ak).length dY] 58 (0,0))::(some bx0, .cells #[vL (rowA Iw) x0.length cx0] 27 (0,0))::(Iw, .cells (MQ).toArray 3 (0,0))::(some bx1, .cells #[vB x1] 4 (0,0))::(some bx2, .cells #[vL (rowA Iy) ((List.set x2 a0.toNat true).length) cx2] 80 (0,0))::(Iy, .cells ((List.set MR (a0.toNat*1+0) (vB true))).toArray 4 (0,0))::(some bx3, .cells #[vL Ax3 x3.length cx3] 24 (0,0))::(some bx4, .cells #[Value.func (.func 67) #[] #[vP bx0 0,vP bx1 0,vP bx2 0,vP bx3 0,vP bx4 0]] 75 (0,0))::rest) w5:=HS5.cast (by first|rfl|(rw [ho1.len];done)|(rw [ho1.len];rfl))
    have ho2:=ho1.norm
    refine jB [9,11,41,42,43,44,45,46,47,48] (fun m us w'=>∃aC dG:Int,∃o7:Bool,∃sK:List Int,∃Eo:List Bool,∃h2:View,∃(vX:Option Nat) (Di:Nat),∃(xQ:List Value),∃(Ep:Option Nat) (MW:Nat),∃(Gm:List Value),Fit us (fun uy1=>[vI aC,(uy1 1),vI dG,(uy1 3),(uy1 4),(uy1 5),(uy1 6),(uy1 7),(uy1 8),(uy1 9)])∧fE.l0 (fE.f k) x3 v1 m aC dG o7 sK Eo=some xx1∧gU (Kd.int .i64) h2 sK vX sK.length Di xQ∧gU Kd.bool h2 Eo Ep Eo.length MW Gm∧Rd bI h2 Ax3 x3∧Sub h h2∧mM h2 (Addr.add ad1 (a0.toNat*7)) [vI ((rd ah x3 a0).aA),vS ((rd ah x3 a0).aF),vI ((rd ah x3 a0).aY.aU),vB ((rd ah x3 a0).aY.aJ),vI ((rd ah x3 a0).bY),vI ((rd ah x3 a0).vN),vL dU ((rd ah x3 a0).ak).length dY]∧Rd dw h2 dU ((rd ah x3 a0).ak)∧Rd (Kd.int .i64) h2 iV v1∧St [] h0 w0 h2 ((some b1, .cells #[vI ((rd ah x3 a0).aA),vS ((rd ah x3 a0).aF),vI ((rd ah x3 a0).aY.aU),vB ((rd ah x3 a0).aY.aJ),vI ((rd ah x3 a0).bY),vI ((rd ah x3 a0).vN),vL dU ((rd ah x3 a0).ak).length dY] 58 (0,0))::(some bx0, .cells #[vL (rowA vX) sK.length Di] 27 (0,0))::(vX, .cells (xQ).toArray 3 (0,0))::(some bx1, .cells #[vB o7] 4 (0,0))::(some bx2, .cells #[vL (rowA Ep) Eo.length MW] 80 (0,0))::(Ep, .cells (Gm).toArray 4 (0,0))::(some bx3, .cells #[vL Ax3 x3.length cx3] 24 (0,0))::(some bx4, .cells #[Value.func (.func 67) #[] #[vP bx0 0,vP bx1 0,vP bx2 0,vP bx3 0,vP bx4 0]] 75 (0,0))::rest) w') (fun us w'=>∃(h4:View),∃(qI:Option Nat) (zk:Nat),∃(xR:List Value),∃(zL:Option Nat) (KD:Nat),∃(Es:List Value),Fit us (fun uo1=>[vI xx1.1,(uo1 1),(uo1 2),(uo1 3),(uo1 4),(uo1 5),(uo1 6),(uo1 7),(uo1 8),(uo1 9)])∧gU (Kd.int .i64) h4 xx1.2.2.1 qI xx1.2.2.1.length zk xR∧gU Kd.bool h4 xx1.2.2.2 zL xx1.2.2.2.length KD Es∧Rd bI h4 Ax3 x3∧Sub h h4∧mM h4 (Addr.add ad1 (a0.toNat*7)) [vI ((rd ah x3 a0).aA),vS ((rd ah x3 a0).aF),vI ((rd ah x3 a0).aY.aU),vB ((rd ah x3 a0).aY.aJ),vI ((rd ah x3 a0).bY),vI ((rd ah x3 a0).vN),vL dU ((rd ah x3 a0).ak).length dY]∧Rd dw h4 dU ((rd ah x3 a0).ak)∧Rd (Kd.int .i64) h4 iV v1∧St [] h0 w0 h4 ((some b1, .cells #[vI ((rd ah x3 a0).aA),vS ((rd ah x3 a0).aF),vI ((rd ah x3 a0).aY.aU),vB ((rd ah x3 a0).aY.aJ),vI ((rd ah x3 a0).bY),vI ((rd ah x3 a0).vN),vL dU ((rd ah x3 a0).ak).length dY] 58 (0,0))::(some bx0, .cells #[vL (rowA qI) xx1.2.2.1.length zk] 27 (0,0))::(qI, .cells (xR).toArray 3 (0,0))::(some bx1, .cells #[vB xx1.2.1] 4 (0,0))::(some bx2, .cells #[vL (rowA zL) xx1.2.2.2.length KD] 80 (0,0))::(zL, .cells (Es).toArray 4 (0,0))::(some bx3, .cells #[vL Ax3 x3.length cx3] 24 (0,0))::(some bx4, .cells #[Value.func (.func 67) #[] #[vP bx0 0,vP bx1 0,vP bx2 0,vP bx3 0,vP bx4 0]] 75 (0,0))::rest) w') k ⟨0,0,x1,x0,(List.set x2 a0.toNat true),h1,Iw,cx0,MQ,Iy,cx2,(List.set MR (a0.toNat*1+0) (vB true)),(fit (by first|rfl|(rw [ho1.len];done)|(rw [ho1.len];rfl))),H,KC.norm,ho2.norm,LQ,hsub,mJ,iY,jM,BX⟩ ?_ ?_
    ·rintro m us w6 ⟨aC,dG,o7,sK,Eo,h2,vX,Di,xQ,Ep,MW,Gm,nO,H,yV,Ro,LQ,hsub,mJ,iY,jM,HS6⟩
     obtain ⟨uy1,rfl⟩:=unj nO
     cases m with
     |zero=>exact absurd H (by simp [fE.l0])
     |succ m=>
      rw [fE.l0] at H
      try simp only [patch,sc0,sc1]
      refine Al<|Ao<|rs (vB (decide (dG<(v1.length:Int)))) (bW X X X) ?_
      try simp only [sc0,sc1]
      refine aB<|ay<|Al<|Av (t:=(decide (dG<(v1.length:Int)))) X (fun c3=>?_) (fun c3=>?_)
      ·replace H:=bU H c3
       refine AN<|ay<|Al<|wp_block<|Al<|Ao ?_
       obtain ⟨hi6,H⟩:=dN H
       obtain ⟨ad2,e2,tN⟩:=qY jM hi6.1 hi6.2
       refine rs (Value.pointer (some (Addr.add ad2 (dG.toNat*1)))) (dP (sz:=1) X e2 X hi6.1 hi6.2 AG As)<|rs (vI (rd 0 v1 dG)) (kE X AC (tN.cell0 HS6.sees X))<|rs (vI (rd 0 v1 dG)) (aG X) ?_
       try simp only [sc0,sc1]
       refine aB<|ay<|Ao<|rs (Value.func (.func 67) #[] #[vP bx0 0,vP bx1 0,vP bx2 0,vP bx3 0,vP bx4 0]) (aN X Tryz.isAgg75 (HS6.look 7 X) X)<|rs (vI (rd 0 v1 dG)) (aO X) ?_
       obtain ⟨v2,H2,H⟩:=bn H
       have HS7:=HS6.f7
       have HS8:=HS7.f7
       have HS9:=HS8.f7
       have kF:=HS9.f7
       have oC:=kF.f7
       have mW:=oC.f7
       have qx:=mW.f7
       refine jJ (vs:=[vI (rd 0 v1 dG)]) (caps:=[vP bx0 0,vP bx1 0,vP bx2 0,vP bx3 0,vP bx4 0]) Tryz.call67 X X (ih (rd 0 v1 dG) sK o7 Eo x3 bx0 vX Di xQ bx1 bx2 Ep MW Gm bx3 Ax3 cx3 bx4 qx yV Ro LQ Xd H2) ?_
       rintro _ w7 ⟨h3,SC,UH,SE,SG,UJ,SH,rfl,Iz,SI,hs1,ru⟩
       refine ⟨_,X,?_⟩
       replace LQ:Rd bI h3 Ax3 x3:=LQ.ext hs1
       replace hsub:Sub h h3:=hsub.then hs1
       replace mJ:mM h3 (Addr.add ad1 (a0.toNat*7)) [vI ((rd ah x3 a0).aA),vS ((rd ah x3 a0).aF),vI ((rd ah x3 a0).aY.aU),vB ((rd ah x3 a0).aY.aJ),vI ((rd ah x3 a0).bY),vI ((rd ah x3 a0).vN),vL dU ((rd ah x3 a0).ak).length dY]:=mJ.sub hs1
       replace iY:Rd dw h3 dU ((rd ah x3 a0).ak):=iY.ext hs1
       replace jM:Rd (Kd.int .i64) h3 iV v1:=jM.ext hs1
       replace tN:mM h3 (Addr.add ad2 (dG.toNat*1)) [vI (rd 0 v1 dG)]:=tN.sub hs1
       have sW:=ru.f6
       have sH:=sW.f6
       have uQ:=sH.f6
       have xU:=uQ.f6
       have zM:=xU.f6
       have zl:=zM.f6
       have zN:=zl.f6
       have Bf:=zN.f7
       refine rs (vI v2.1) (aG X) ?_
       try simp only [sc0,sc1]
       refine aB<|dD<|ay<|Ao<|rs (vI (w64 (dG+1))) (bW X X X)<|rs (vI (w64 (dG+1))) (aO X) ?_
       try simp only [sc0,sc1]
       refine aB<|gI m (Nat.lt_succ_self m) X ⟨v2.1,(w64 (dG+1)),v2.2.2.1,v2.2.1,v2.2.2.2,h3,SC,UH,SE,SG,UJ,SH,(fit X),H,Iz.norm,SI.norm,LQ,hsub,mJ,iY,jM,Bf⟩
      ·replace H:=cO H (nt c3)
       refine Bx<|eU ?_
       obtain rfl:=Ab H
       refine iK X ⟨h2,vX,Di,xQ,Ep,MW,Gm,(fit X),yV.norm,Ro.norm,LQ,hsub,mJ,iY,jM,HS6⟩
    ·rintro us w8 ⟨h4,qI,zk,xR,zL,KD,Es,nP,Bg,UK,LQ,hsub,mJ,iY,jM,zO⟩
     obtain ⟨uo1,rfl⟩:=unj nP
     replace H:=G1
     clear G1
     try simp only [patch,sc0,sc1]
     refine ay<|Al<|Ao<|uj zO ?_
     intro w9 b2 BI
     refine rs (vP b1 2) (aH (n:=2) (o':=2) X An X Bk (by decide) X)<|rs (vP b1 2) (aH (n:=1) (o':=2) X A_ X As (by decide) X)<|rs (vI ((rd ah x3 a0).aY.aU)) (aN X AC (BI.look 1 X) X)<|aK (by simp only [sc0,sc1];rfl) ?_
     refine Hy (og Bn) (i:=0) (k:=1) (v:=((rd ah x3 a0).aY.aU)) (ev:=(vI)) (m:=([]:List (Int×Int))) (by first|exact .inl X|exact .inr X) X X X X X B4 BI X (oG.nil) ?_
     intro w10 es1 cl1 AL ho3
     refine Hy (og Bn) (i:=0) (k:=2) (v:=8) (ev:=(vI)) (m:=(iG ieq ([]:List (Int×Int)) 1 ((rd ah x3 a0).aY.aU))) (by first|exact .inl X|exact .inr X) X X X X X B4 AL X ho3 ?_
     intro w11 es2 cl2 yX ho4
     refine rs (vP b1 5) (aH (n:=1) (o':=5) X An X As (by decide) X)<|rs (vI ((rd ah x3 a0).vN)) (aN X AC (yX.look 1 X) X)<|aK (by simp only [sc0,sc1];rfl) ?_
     refine rs (vI xx1.1) (aO X)<|rs (vI (w64 ((rd ah x3 a0).vN*xx1.1))) (bW X X X)<|Hy (og Bn) (i:=0) (k:=3) (v:=(w64 ((rd ah x3 a0).vN*xx1.1))) (ev:=(vI)) (m:=(iG ieq (iG ieq ([]:List (Int×Int)) 1 ((rd ah x3 a0).aY.aU)) 2 8)) (by first|exact .inl X|exact .inr X) X X X X X B4 yX X ho4 ?_
     intro w12 es3 cl3 Bh ho5
     refine rs (vP b1 5) (aH (n:=1) (o':=5) X An X As (by decide) X)<|aK (by simp only [sc0,sc1];rfl) ?_
     refine rs (vI ((rd ah x3 a0).vN)) (aN X AC (Bh.look 1 X) X)<|Hy (og Bn) (i:=0) (k:=4) (v:=((rd ah x3 a0).vN)) (ev:=(vI)) (m:=(iG ieq (iG ieq (iG ieq ([]:List (Int×Int)) 1 ((rd ah x3 a0).aY.aU)) 2 8) 3 (w64 ((rd ah x3 a0).vN*xx1.1)))) (by first|exact .inl X|exact .inr X) X X X X X B4 Bh X ho5 ?_
     intro w13 es4 cl4 IB ho6
     refine Hy (og Bn) (i:=0) (k:=5) (v:=4) (ev:=(vI)) (m:=(iG ieq (iG ieq (iG ieq (iG ieq ([]:List (Int×Int)) 1 ((rd ah x3 a0).aY.aU)) 2 8) 3 (w64 ((rd ah x3 a0).vN*xx1.1))) 4 ((rd ah x3 a0).vN))) (by first|exact .inl X|exact .inr X) X X X X X B4 IB X ho6 ?_
     intro w14 es5 cl5 Ea ho7
     refine rs (vI xx1.1) (aO X)<|aK (by simp only [sc0,sc1];rfl) ?_
     refine Hy (og Bn) (i:=0) (k:=6) (v:=xx1.1) (ev:=(vI)) (m:=(iG ieq (iG ieq (iG ieq (iG ieq (iG ieq ([]:List (Int×Int)) 1 ((rd ah x3 a0).aY.aU)) 2 8) 3 (w64 ((rd ah x3 a0).vN*xx1.1))) 4 ((rd ah x3 a0).vN)) 5 4)) (by first|exact .inl X|exact .inr X) X X X X X B4 Ea X ho7 ?_
     intro w15 es6 cl6 LU ho8
     refine rs (Value.map (some b2)) (aO X)<|rs (vP b1 0) (aH (n:=1) (o':=0) X An X As (by decide) X)<|rs (vI ((rd ah x3 a0).aA)) (aN X AC (LU.look 1 X) X)<|aK (by simp only [sc0,sc1];rfl) ?_
     refine rs (vI ((bM ieq (iG ieq (iG ieq (iG ieq (iG ieq (iG ieq (iG ieq ([]:List (Int×Int)) 1 ((rd ah x3 a0).aY.aU)) 2 8) 3 (w64 ((rd ah x3 a0).vN*xx1.1))) 4 ((rd ah x3 a0).vN)) 5 4) 6 xx1.1) ((rd ah x3 a0).aA)).getD 0)) (yU (og Bn) (k:=((rd ah x3 a0).aA)) (m:=(iG ieq (iG ieq (iG ieq (iG ieq (iG ieq (iG ieq ([]:List (Int×Int)) 1 ((rd ah x3 a0).aY.aU)) 2 8) 3 (w64 ((rd ah x3 a0).vN*xx1.1))) 4 ((rd ah x3 a0).vN)) 5 4) 6 xx1.1)) (ev:=(vI)) 0 X X B4 Bb (LU.look 0 X) ho8)<|rs (vI ((bM ieq (iG ieq (iG ieq (iG ieq (iG ieq (iG ieq (iG ieq ([]:List (Int×Int)) 1 ((rd ah x3 a0).aY.aU)) 2 8) 3 (w64 ((rd ah x3 a0).vN*xx1.1))) 4 ((rd ah x3 a0).vN)) 5 4) 6 xx1.1) ((rd ah x3 a0).aA)).getD 0)) (aG X) ?_
     try simp only [sc0,sc1]
     refine aB<|ay<|Al<|Ao<|rs (vB xx1.2.1) (aN X By (LU.look 4 X) X)<|rs (vB xx1.2.1) (aO X)<|rgs xx1.2.1 true (vI ((bM ieq (iG ieq (iG ieq (iG ieq (iG ieq (iG ieq (iG ieq ([]:List (Int×Int)) 1 ((rd ah x3 a0).aY.aU)) 2 8) 3 (w64 ((rd ah x3 a0).vN*xx1.1))) 4 ((rd ah x3 a0).vN)) 5 4) 6 xx1.1) ((rd ah x3 a0).aA)).getD 0)) X X X X (fun hg=>(aO X))<|rgs xx1.2.1 true (vB (decide (((bM ieq (iG ieq (iG ieq (iG ieq (iG ieq (iG ieq (iG ieq ([]:List (Int×Int)) 1 ((rd ah x3 a0).aY.aU)) 2 8) 3 (w64 ((rd ah x3 a0).vN*xx1.1))) 4 ((rd ah x3 a0).vN)) 5 4) 6 xx1.1) ((rd ah x3 a0).aA)).getD 0)≤512))) X X X X (fun hg=>(bW (gvt (vI ((bM ieq (iG ieq (iG ieq (iG ieq (iG ieq (iG ieq (iG ieq ([]:List (Int×Int)) 1 ((rd ah x3 a0).aY.aU)) 2 8) 3 (w64 ((rd ah x3 a0).vN*xx1.1))) 4 ((rd ah x3 a0).vN)) 5 4) 6 xx1.1) ((rd ah x3 a0).aA)).getD 0)) hg X) X X))<|aK (by simp only [sc0,sc1];rfl) ?_
     refine rs (vB (xx1.2.1&&(decide (((bM ieq (iG ieq (iG ieq (iG ieq (iG ieq (iG ieq (iG ieq ([]:List (Int×Int)) 1 ((rd ah x3 a0).aY.aU)) 2 8) 3 (w64 ((rd ah x3 a0).vN*xx1.1))) 4 ((rd ah x3 a0).vN)) 5 4) 6 xx1.1) ((rd ah x3 a0).aA)).getD 0)≤512)))) (dL X (fun hp=>(gvt (vB (decide (((bM ieq (iG ieq (iG ieq (iG ieq (iG ieq (iG ieq (iG ieq ([]:List (Int×Int)) 1 ((rd ah x3 a0).aY.aU)) 2 8) 3 (w64 ((rd ah x3 a0).vN*xx1.1))) 4 ((rd ah x3 a0).vN)) 5 4) 6 xx1.1) ((rd ah x3 a0).aA)).getD 0)≤512))) (gQ X hp) X)) X)<|gJ (i:=4) (cs:=[vB xx1.2.1]) (cs':=[vB (xx1.2.1&&(decide (((bM ieq (iG ieq (iG ieq (iG ieq (iG ieq (iG ieq (iG ieq ([]:List (Int×Int)) 1 ((rd ah x3 a0).aY.aU)) 2 8) 3 (w64 ((rd ah x3 a0).vN*xx1.1))) 4 ((rd ah x3 a0).vN)) 5 4) 6 xx1.1) ((rd ah x3 a0).aA)).getD 0)≤512)))]) (vs:=[vB (xx1.2.1&&(decide (((bM ieq (iG ieq (iG ieq (iG ieq (iG ieq (iG ieq (iG ieq ([]:List (Int×Int)) 1 ((rd ah x3 a0).aY.aU)) 2 8) 3 (w64 ((rd ah x3 a0).vN*xx1.1))) 4 ((rd ah x3 a0).vN)) 5 4) 6 xx1.1) ((rd ah x3 a0).aA)).getD 0)≤512)))]) (bs':=((some b2, .map es6 cl6)::(some b1, .cells #[vI ((rd ah x3 a0).aA),vS ((rd ah x3 a0).aF),vI ((rd ah x3 a0).aY.aU),vB ((rd ah x3 a0).aY.aJ),vI ((rd ah x3 a0).bY),vI ((rd ah x3 a0).vN),vL dU ((rd ah x3 a0).ak).length dY] 58 (0,0))::(some bx0, .cells #[vL (rowA qI) xx1.2.2.1.length zk] 27 (0,0))::(qI, .cells (xR).toArray 3 (0,0))::(some bx1, .cells #[vB (xx1.2.1&&(decide (((bM ieq (iG ieq (iG ieq (iG ieq (iG ieq (iG ieq (iG ieq ([]:List (Int×Int)) 1 ((rd ah x3 a0).aY.aU)) 2 8) 3 (w64 ((rd ah x3 a0).vN*xx1.1))) 4 ((rd ah x3 a0).vN)) 5 4) 6 xx1.1) ((rd ah x3 a0).aA)).getD 0)≤512)))] 4 (0,0))::(some bx2, .cells #[vL (rowA zL) xx1.2.2.2.length KD] 80 (0,0))::(zL, .cells (Es).toArray 4 (0,0))::(some bx3, .cells #[vL Ax3 x3.length cx3] 24 (0,0))::(some bx4, .cells #[Value.func (.func 67) #[] #[vP bx0 0,vP bx1 0,vP bx2 0,vP bx3 0,vP bx4 0]] 75 (0,0))::rest)) X X Bi X X (by decide) X LU X (Ax X) X X ?_
     intro w16 LV
     try simp only [sc0,sc1]
     refine aB<|ay<|Al<|Ao<|rs (vL (rowA qI) xx1.2.2.1.length zk) (aN X B3 (LV.look 2 X) X)<|rs (vI a0) (aO X)<|rs (vI ((bM ieq (iG ieq (iG ieq (iG ieq (iG ieq (iG ieq (iG ieq ([]:List (Int×Int)) 1 ((rd ah x3 a0).aY.aU)) 2 8) 3 (w64 ((rd ah x3 a0).vN*xx1.1))) 4 ((rd ah x3 a0).vN)) 5 4) 6 xx1.1) ((rd ah x3 a0).aA)).getD 0)) (aO X) ?_
     obtain ⟨hi7,H⟩:=dN H
     obtain ⟨rb5,_,Xf,rfl,hp5⟩:=Bg.at 0 hi7.1 hi7.2
     refine rs (Value.pointer (some ⟨rb5,a0.toNat*1+0,none⟩)) (lX (sz:=1) X Xf X hi7.1 hi7.2 AG As)<|aK (by simp only [sc0,sc1];rfl) ?_
     refine CV (i:=3) (cs:=xR) (v:=vI ((bM ieq (iG ieq (iG ieq (iG ieq (iG ieq (iG ieq (iG ieq ([]:List (Int×Int)) 1 ((rd ah x3 a0).aY.aU)) 2 8) 3 (w64 ((rd ah x3 a0).vN*xx1.1))) 4 ((rd ah x3 a0).vN)) 5 4) 6 xx1.1) ((rd ah x3 a0).aA)).getD 0)) Xf X X As X X LV X (Bg.inb hi7.1 hi7.2 (m:=1) (by decide)) ?_
     intro w17 KE
     have ho9:=Bg.set (o:=0) (v:=vI ((bM ieq (iG ieq (iG ieq (iG ieq (iG ieq (iG ieq (iG ieq ([]:List (Int×Int)) 1 ((rd ah x3 a0).aY.aU)) 2 8) 3 (w64 ((rd ah x3 a0).vN*xx1.1))) 4 ((rd ah x3 a0).vN)) 5 4) 6 xx1.1) ((rd ah x3 a0).aA)).getD 0)) (x':=((bM ieq (iG ieq (iG ieq (iG ieq (iG ieq (iG ieq (iG ieq ([]:List (Int×Int)) 1 ((rd ah x3 a0).aY.aU)) 2 8) 3 (w64 ((rd ah x3 a0).vN*xx1.1))) 4 ((rd ah x3 a0).vN)) 5 4) 6 xx1.1) ((rd ah x3 a0).aA)).getD 0)) hi7.1 hi7.2 hp5 X (Ax X)
     try simp only [sc0,sc1]
     refine aB<|ay<|Al<|Ao<|rs (vI ((bM ieq (iG ieq (iG ieq (iG ieq (iG ieq (iG ieq (iG ieq ([]:List (Int×Int)) 1 ((rd ah x3 a0).aY.aU)) 2 8) 3 (w64 ((rd ah x3 a0).vN*xx1.1))) 4 ((rd ah x3 a0).vN)) 5 4) 6 xx1.1) ((rd ah x3 a0).aA)).getD 0)) (aO X)<|rs (vI ((bM ieq (iG ieq (iG ieq (iG ieq (iG ieq (iG ieq (iG ieq ([]:List (Int×Int)) 1 ((rd ah x3 a0).aY.aU)) 2 8) 3 (w64 ((rd ah x3 a0).vN*xx1.1))) 4 ((rd ah x3 a0).vN)) 5 4) 6 xx1.1) ((rd ah x3 a0).aA)).getD 0)) (aG X) ?_
     try simp only [sc0,sc1]
     refine aB<|ay<|AT ?_
     obtain rfl:=Ab H
     refine Ay (bD X (bK X)) X ?_
     have MX:St [] h0 w0 h4 ((some b2, .map es6 cl6)::(some b1, .cells #[vI ((rd ah x3 a0).aA),vS ((rd ah x3 a0).aF),vI ((rd ah x3 a0).aY.aU),vB ((rd ah x3 a0).aY.aJ),vI ((rd ah x3 a0).bY),vI ((rd ah x3 a0).vN),vL dU ((rd ah x3 a0).ak).length dY] 58 (0,0))::(some bx0, .cells #[vL (rowA qI) ((List.set xx1.2.2.1 a0.toNat ((bM ieq (iG ieq (iG ieq (iG ieq (iG ieq (iG ieq (iG ieq ([]:List (Int×Int)) 1 ((rd ah x3 a0).aY.aU)) 2 8) 3 (w64 ((rd ah x3 a0).vN*xx1.1))) 4 ((rd ah x3 a0).vN)) 5 4) 6 xx1.1) ((rd ah x3 a0).aA)).getD 0)).length) zk] 27 (0,0))::(qI, .cells ((List.set xR (a0.toNat*1+0) (vI ((bM ieq (iG ieq (iG ieq (iG ieq (iG ieq (iG ieq (iG ieq ([]:List (Int×Int)) 1 ((rd ah x3 a0).aY.aU)) 2 8) 3 (w64 ((rd ah x3 a0).vN*xx1.1))) 4 ((rd ah x3 a0).vN)) 5 4) 6 xx1.1) ((rd ah x3 a0).aA)).getD 0)))).toArray 3 (0,0))::(some bx1, .cells #[vB (xx1.2.1&&(decide (((bM ieq (iG ieq (iG ieq (iG ieq (iG ieq (iG ieq (iG ieq ([]:List (Int×Int)) 1 ((rd ah x3 a0).aY.aU)) 2 8) 3 (w64 ((rd ah x3 a0).vN*xx1.1))) 4 ((rd ah x3 a0).vN)) 5 4) 6 xx1.1) ((rd ah x3 a0).aA)).getD 0)≤512)))] 4 (0,0))::(some bx2, .cells #[vL (rowA zL) xx1.2.2.2.length KD] 80 (0,0))::(zL, .cells (Es).toArray 4 (0,0))::(some bx3, .cells #[vL Ax3 x3.length cx3] 24 (0,0))::(some bx4, .cells #[Value.func (.func 67) #[] #[vP bx0 0,vP bx1 0,vP bx2 0,vP bx3 0,vP bx4 0]] 75 (0,0))::rest) w17:=KE.cast (by first|rfl|(rw [ho9.len];done)|(rw [ho9.len];rfl))
     have SK:=ho9.norm
     have LW:=MX.d1
     have MZ:=LW.d0
     exact ⟨h4,qI,zk,(List.set xR (a0.toNat*1+0) (vI ((bM ieq (iG ieq (iG ieq (iG ieq (iG ieq (iG ieq (iG ieq ([]:List (Int×Int)) 1 ((rd ah x3 a0).aY.aU)) 2 8) 3 (w64 ((rd ah x3 a0).vN*xx1.1))) 4 ((rd ah x3 a0).vN)) 5 4) 6 xx1.1) ((rd ah x3 a0).aA)).getD 0))),zL,KD,Es,X,SK,UK,hsub,MZ⟩
def iT.l0 (k:Nat) (a0:aQ):Nat→Int→Bool→(List Bool)→(List Int)→Option (Bool×(List Bool)×(List Int))
 |0,_,_,_,_=>none
 |m+1,aC,dG,o7,sK=>if (decide (aC<(a0.au.length:Int)))=true then ((fE.f k aC sK dG o7 a0.au).bind fun v1=>(iT.l0 k a0 m (IntKind.wrap .i64 (aC+1)) v1.2.2.1 v1.2.2.2 v1.2.1)) else (some (dG,o7,sK))
def iT.f (k:Nat) (a0:aQ):Option ((List Int)×Bool):=if 0≤(a0.au.length:Int)∧(a0.au.length:Int)≤4294967296 then (if 0≤(a0.au.length:Int)∧(a0.au.length:Int)≤4294967296 then ((iT.l0 k a0 k 0 true (List.replicate (a0.au.length:Int).toNat (false:Bool)) (List.replicate (a0.au.length:Int).toNat (0:Int))).bind fun xx1=>(some (xx1.2.2,xx1.1))) else none) else none
theorem iT.calls (k:Nat) (a0:aQ) (bQ:Option Addr) (bT:Nat) {h0:View} {w0:World} (hv:lS h0 w0) (fK:Rd bI h0 bQ a0.au) (iF:a0.au.length≤bT) {r:(List Int)×Bool} (H:iT.f k a0=some r):Calls Tryz.prog 41 #[Value.agg #[vL bQ a0.au.length bT]] w0 (fun e w1=>∃(h1:View) (bQ:Option Addr) (bT:Nat),e= .returned (Value.tuple #[vL bQ r.1.length bT,vB r.2])∧r.1.length≤bT∧Rd (Kd.int .i64) h1 bQ r.1∧Gr w0.heap.size h0 h1∧lS h1 w1∧Ext w0 w1):=by
 unfold iT.f at H
 have HS:St [] h0 w0 h0 [] w0:=St.init hv
 go_enter Tryz.func41,Tryz.ntmps41
 refine Al<|Ao<|dF X X (eF (cs:=#[vL bQ a0.au.length bT]) X X) ?_
 rintro w1 _ hE1 ⟨b1,rfl,ge1,hb1⟩
 have HS1:=HS.new hE1 ge1 hb1
 refine rs (vL none 0 0) (aG X)<|rs (vB false) (aG X) ?_
 try simp only [sc0,sc1]
 refine aB<|ay<|Al<|Ao<|rs (vP b1 0) (aH (n:=1) (o':=0) X AE X AM (by decide) X)<|rs (vL bQ a0.au.length bT) (aN X AR (HS1.look 0 X) X)<|rs (vI (a0.au.length:Int)) (jD X AF) ?_
 obtain ⟨hk1,H⟩:=dN H
 refine run_mk (Kd.int .i64) 0 (zs:=[vI 0]) X X hk1 AG Br (by decide) X Bb X X HS1 ?_
 intro w2 b2 cs1 HS2 ho1
 refine aK (by simp only [sc0,sc1];rfl) ?_
 refine dF X X (dO (cs:=#[vL none 0 0]) CK X) ?_
 rintro w3 _ hE2 ⟨b3,rfl,ge2,hb2⟩
 have HS3:=HS2.new hE2 ge2 hb2
 refine gJ (i:=0) (cs:=[vL none 0 0]) (cs':=[vL (rowA (some b2)) ((a0.au.length:Int).toNat) ((a0.au.length:Int).toNat)]) (vs:=[vL (rowA (some b2)) ((a0.au.length:Int).toNat) ((a0.au.length:Int).toNat)]) (bs':=[(some b3, .cells #[vL (rowA (some b2)) ((a0.au.length:Int).toNat) ((a0.au.length:Int).toNat)] 27 (0,0)),((some b2), .cells (cs1).toArray 3 (0,0)),(some b1, .cells #[vL bQ a0.au.length bT] 24 (0,0))]) X X BY X X (by decide) X HS3 X (Ax X) X X ?_
 intro w4 HS4
 try simp only [sc0,sc1]
 refine aB<|ay<|Al<|Ao<|rs (vP b1 0) (aH (n:=1) (o':=0) X AE X AM (by decide) X)<|rs (vL bQ a0.au.length bT) (aN X AR (HS4.look 2 X) X)<|rs (vI (a0.au.length:Int)) (jD X AF) ?_
 obtain ⟨hk2,H⟩:=dN H
 refine run_mk Kd.bool false (zs:=[vB false]) X X hk2 BT Tryz.typeInfo4 (by decide) X B_ X X HS4 ?_
 intro w5 b4 cs2 HS5 ho2
 refine aK (by simp only [sc0,sc1];rfl) ?_
 refine dF X X (dO (cs:=#[vL none 0 0]) Tryz.zeroValue80 X) ?_
 rintro w6 _ hE3 ⟨b5,rfl,ge3,hb3⟩
 have HS6:=HS5.new hE3 ge3 hb3
 refine gJ (i:=0) (cs:=[vL none 0 0]) (cs':=[vL (rowA (some b4)) ((a0.au.length:Int).toNat) ((a0.au.length:Int).toNat)]) (vs:=[vL (rowA (some b4)) ((a0.au.length:Int).toNat) ((a0.au.length:Int).toNat)]) (bs':=[(some b5, .cells #[vL (rowA (some b4)) ((a0.au.length:Int).toNat) ((a0.au.length:Int).toNat)] 80 (0,0)),((some b4), .cells (cs2).toArray 4 (0,0)),(some b3, .cells #[vL (rowA (some b2)) ((a0.au.length:Int).toNat) ((a0.au.length:Int).toNat)] 27 (0,0)),((some b2), .cells (cs1).toArray 3 (0,0)),(some b1, .cells #[vL bQ a0.au.length bT] 24 (0,0))]) X X Tryz.sizeOf80 X X (by decide) X HS6 X (Ax X) X X ?_
 intro w7 HS7
 try simp only [sc0,sc1]
 refine aB<|ay<|Al<|Ao<|dF X X (dO (cs:=#[vB false]) B_ X) ?_
 rintro w8 _ hE4 ⟨b6,rfl,ge4,hb4⟩
 have HS8:=HS7.new hE4 ge4 hb4
 refine gJ (i:=0) (cs:=[vB false]) (cs':=[vB true]) (vs:=[vB true]) (bs':=[(some b6, .cells #[vB true] 4 (0,0)),(some b5, .cells #[vL (rowA (some b4)) ((a0.au.length:Int).toNat) ((a0.au.length:Int).toNat)] 80 (0,0)),((some b4), .cells (cs2).toArray 4 (0,0)),(some b3, .cells #[vL (rowA (some b2)) ((a0.au.length:Int).toNat) ((a0.au.length:Int).toNat)] 27 (0,0)),((some b2), .cells (cs1).toArray 3 (0,0)),(some b1, .cells #[vL bQ a0.au.length bT] 24 (0,0))]) X X Bi X X (by decide) X HS8 X (Ax X) X X ?_
 intro w9 HS9
 try simp only [sc0,sc1]
 refine aB<|ay<|Al<|Ao<|dF X X (dO (cs:=#[Value.nilFunc]) Tryz.zeroValue75 X) ?_
 rintro w10 _ hE5 ⟨b7,rfl,ge5,hb5⟩
 have kF:=HS9.new hE5 ge5 hb5
 try simp only [sc0,sc1]
 refine aB<|ay<|Al<|Ao<|rs (Value.func (.func 67) #[] #[vP b3 0,vP b6 0,vP b5 0,vP b1 0,vP b7 0]) (qC (vs:=[vP b3 0,vP b6 0,vP b5 0,vP b1 0,vP b7 0]) X)<|gJ (i:=0) (cs:=[Value.nilFunc]) (cs':=[Value.func (.func 67) #[] #[vP b3 0,vP b6 0,vP b5 0,vP b1 0,vP b7 0]]) (vs:=[Value.func (.func 67) #[] #[vP b3 0,vP b6 0,vP b5 0,vP b1 0,vP b7 0]]) (bs':=[(some b7, .cells #[Value.func (.func 67) #[] #[vP b3 0,vP b6 0,vP b5 0,vP b1 0,vP b7 0]] 75 (0,0)),(some b6, .cells #[vB true] 4 (0,0)),(some b5, .cells #[vL (rowA (some b4)) ((a0.au.length:Int).toNat) ((a0.au.length:Int).toNat)] 80 (0,0)),((some b4), .cells (cs2).toArray 4 (0,0)),(some b3, .cells #[vL (rowA (some b2)) ((a0.au.length:Int).toNat) ((a0.au.length:Int).toNat)] 27 (0,0)),((some b2), .cells (cs1).toArray 3 (0,0)),(some b1, .cells #[vL bQ a0.au.length bT] 24 (0,0))]) X X Tryz.sizeOf75 X X (by decide) X kF X (Ax X) X X ?_
 intro w11 oC
 try simp only [sc0,sc1]
 refine aB<|ay<|Al<|Al<|Ao<|rs (vP b1 0) (aH (n:=1) (o':=0) X AE X AM (by decide) X)<|rs (vL bQ a0.au.length bT) (aN X AR (oC.look 6 X) X)<|rs (vI (a0.au.length:Int)) (jD X AF)<|rs (vI 0) (aO X) ?_
 try simp only [sc0,sc1]
 refine aB<|ay ?_
 obtain ⟨xx1,H,G1⟩:=bn H
 have Bh:St [] h0 w0 h0 [(some b7, .cells #[Value.func (.func 67) #[] #[vP b3 0,vP b6 0,vP b5 0,vP b1 0,vP b7 0]] 75 (0,0)),(some b6, .cells #[vB true] 4 (0,0)),(some b5, .cells #[vL (rowA (some b4)) ((List.replicate (a0.au.length:Int).toNat (false:Bool)).length) ((a0.au.length:Int).toNat)] 80 (0,0)),((some b4), .cells (cs2).toArray 4 (0,0)),(some b3, .cells #[vL (rowA (some b2)) ((List.replicate (a0.au.length:Int).toNat (0:Int)).length) ((a0.au.length:Int).toNat)] 27 (0,0)),((some b2), .cells (cs1).toArray 3 (0,0)),(some b1, .cells #[vL bQ a0.au.length bT] 24 (0,0))] w11:=oC.cast (by first|rfl|(rw [ho2.len,ho1.len];done)|(rw [ho2.len,ho1.len];rfl))
 have ho3:=ho2.norm
 have ho4:=ho1.norm
 refine jB [8,21,22,23,24,25,26,27] (fun m us w'=>∃aC:Int,∃dG:Bool,∃o7:List Bool,∃sK:List Int,∃h1:View,∃(rC:Option Nat) (yS:Nat),∃(xC:List Value),∃(vX:Option Nat) (Di:Nat),∃(xQ:List Value),Fit us (fun uy1=>[(uy1 0),vI aC,(uy1 2),(uy1 3),(uy1 4),(uy1 5),(uy1 6),(uy1 7)])∧iT.l0 k a0 m aC dG o7 sK=some xx1∧gU Kd.bool h1 o7 rC o7.length yS xC∧gU (Kd.int .i64) h1 sK vX sK.length Di xQ∧St [] h0 w0 h1 [(some b7, .cells #[Value.func (.func 67) #[] #[vP b3 0,vP b6 0,vP b5 0,vP b1 0,vP b7 0]] 75 (0,0)),(some b6, .cells #[vB dG] 4 (0,0)),(some b5, .cells #[vL (rowA rC) o7.length yS] 80 (0,0)),(rC, .cells (xC).toArray 4 (0,0)),(some b3, .cells #[vL (rowA vX) sK.length Di] 27 (0,0)),(vX, .cells (xQ).toArray 3 (0,0)),(some b1, .cells #[vL bQ a0.au.length bT] 24 (0,0))] w') (fun us w'=>∃(h3:View),∃(tV:Option Nat) (AO:Nat),∃(qJ:List Value),∃(qI:Option Nat) (zk:Nat),∃(xR:List Value),Fit us (fun uo1=>[(uo1 0),(uo1 1),(uo1 2),(uo1 3),(uo1 4),(uo1 5),(uo1 6),(uo1 7)])∧gU Kd.bool h3 xx1.2.1 tV xx1.2.1.length AO qJ∧gU (Kd.int .i64) h3 xx1.2.2 qI xx1.2.2.length zk xR∧St [] h0 w0 h3 [(some b7, .cells #[Value.func (.func 67) #[] #[vP b3 0,vP b6 0,vP b5 0,vP b1 0,vP b7 0]] 75 (0,0)),(some b6, .cells #[vB xx1.1] 4 (0,0)),(some b5, .cells #[vL (rowA tV) xx1.2.1.length AO] 80 (0,0)),(tV, .cells (qJ).toArray 4 (0,0)),(some b3, .cells #[vL (rowA qI) xx1.2.2.length zk] 27 (0,0)),(qI, .cells (xR).toArray 3 (0,0)),(some b1, .cells #[vL bQ a0.au.length bT] 24 (0,0))] w') k ⟨0,true,(List.replicate (a0.au.length:Int).toNat (false:Bool)),(List.replicate (a0.au.length:Int).toNat (0:Int)),h0,(some b4),(a0.au.length:Int).toNat,cs2,(some b2),(a0.au.length:Int).toNat,cs1,(fit (by first|rfl|(rw [ho2.len,ho1.len];done)|(rw [ho2.len,ho1.len];rfl))),H,ho3.norm,ho4.norm,Bh⟩ ?_ ?_
 ·rintro m us w12 ⟨aC,dG,o7,sK,h1,rC,yS,xC,vX,Di,xQ,nO,H,Et,yV,mW⟩
  obtain ⟨uy1,rfl⟩:=unj nO
  cases m with
  |zero=>exact absurd H (by simp [iT.l0])
  |succ m=>
   rw [iT.l0] at H
   try simp only [patch,sc0,sc1]
   refine Al<|Ao<|rs (vB (decide (aC<(a0.au.length:Int)))) (bW X X X) ?_
   try simp only [sc0,sc1]
   refine aB<|ay<|Al<|Av (t:=(decide (aC<(a0.au.length:Int)))) X (fun c1=>?_) (fun c1=>?_)
   ·replace H:=bU H c1
    refine AN<|ay<|Al<|wp_block<|Al<|Ao<|rs (vI aC) (aO X)<|rs (vI aC) (aG X) ?_
    try simp only [sc0,sc1]
    refine aB<|ay<|Ao<|rs (Value.func (.func 67) #[] #[vP b3 0,vP b6 0,vP b5 0,vP b1 0,vP b7 0]) (aN X Tryz.isAgg75 (mW.look 0 X) X)<|rs (vI aC) (aO X) ?_
    obtain ⟨v1,H1,H⟩:=bn H
    have qx:=mW.f6
    have ru:=qx.f4
    have sW:=ru.f4
    have sH:=sW.f4
    have uQ:=sH.f6
    have xU:=uQ.f6
    refine jJ (vs:=[vI aC]) (caps:=[vP b3 0,vP b6 0,vP b5 0,vP b1 0,vP b7 0]) Tryz.call67 X X (fE.calls k aC sK dG o7 a0.au b3 vX Di xQ b6 b5 rC yS xC b1 bQ bT b7 xU yV Et (fK.ext xU.sub) iF H1) ?_
    rintro _ w13 ⟨h2,SL,UL,SN,SQ,UM,SS,rfl,IC,SV,hs1,zM⟩
    refine ⟨_,X,?_⟩
    have zl:=zM.f5
    have zN:=zl.f2
    have Bf:=zN.f2
    have zO:=Bf.f5
    have BX:=zO.f5
    have BI:=BX.f5
    have AL:=BI.f6
    try simp only [sc0,sc1]
    refine aB<|dD<|ay<|Ao<|rs (vI (w64 (aC+1))) (bW X X X)<|rs (vI (w64 (aC+1))) (aO X) ?_
    try simp only [sc0,sc1]
    refine aB<|gI m (Nat.lt_succ_self m) X ⟨(w64 (aC+1)),v1.2.2.1,v1.2.2.2,v1.2.1,h2,SQ,UM,SS,SL,UL,SN,(fit X),H,SV.norm,IC.norm,AL⟩
   ·replace H:=cO H (nt c1)
    refine Bx<|eU ?_
    obtain rfl:=Ab H
    refine iK X ⟨h1,rC,yS,xC,vX,Di,xQ,(fit X),Et.norm,yV.norm,mW⟩
 ·rintro us w14 ⟨h3,tV,AO,qJ,qI,zk,xR,nP,Bj,Bg,yX⟩
  obtain ⟨uo1,rfl⟩:=unj nP
  replace H:=G1
  clear G1
  try simp only [patch,sc0,sc1]
  refine ay<|Al<|drawn [.eq (vL (rowA qI) xx1.2.2.length zk), .eq (vB xx1.1), .eq (vL (rowA qI) xx1.2.2.length zk)] [28,29,2] rM (by kernel_rfl) X (aP (aP (aP iJ))) ⟨aX X (fun a' w' hE hk=>by exact aW (aN (show _=vP b3 0 from hk 4 X) B3 ((yX.step hE).look 4 X) X)),aX X (fun a' w' hE hk=>by exact aW (aN (show _=vP b6 0 from hk 6 X) By ((yX.step hE).look 1 X) X)),aX X (fun a' w' hE hk=>by exact aW (aG (show _=vL (rowA qI) xx1.2.2.length zk from hk 28 X))),trivial⟩ ?_
  intro w15 hE6
  simp only [List.zip_cons_cons,List.zip_nil_left,List.zip_nil_right,vO,sc0,sc1,List.length_cons,List.length_nil,List.drop_succ_cons,List.drop_zero,Nat.zero_add,Nat.reduceAdd]
  have IB:=yX.step hE6
  refine rs (vB xx1.1) (aG X) ?_
  try simp only [sc0,sc1]
  refine aB<|ay<|AT ?_
  obtain rfl:=Ab H
  refine Ay (oL X (bK X) (bK X)) X ?_
  obtain ⟨h4,Ea,hs2,oV⟩:=lC IB (i:=5) rfl Bg
  replace Bj:=Bj.view hs2
  exact ⟨h4,(rowA qI),zk,X,Bg.cap,oV,Ea.gr,Ea.sees,Ea.toE⟩
def nV.f:Option ((List (Int×iD))):=some (iG ieq (iG ieq (iG ieq (iG ieq (iG ieq (iG ieq ([]:List (Int×iD)) 1 (⟨true,true,false,false,false⟩:iD)) 2 (⟨false,false,true,false,false⟩:iD)) 3 (⟨false,false,true,true,false⟩:iD)) 4 (⟨true,false,false,true,true⟩:iD)) 5 (⟨true,false,false,false,true⟩:iD)) 6 (⟨true,false,true,false,false⟩:iD))
theorem nV.calls {h0:View} {w0:World} (hv:lS h0 w0) {r:(List (Int×iD))} (H:nV.f=some r):Calls Tryz.prog 56 #[] w0 (fun e w1=>∃(b:Nat) (es:Array MapEntry) (cl:Nat),e= .returned (.map (some b))∧(w0.heap.size≤b∧w1.heap[b]?=some (.map es cl))∧oG (vI) kP r es cl∧Ext w0 w1):=by
 unfold nV.f at H
 have HS:St [] h0 w0 h0 [] w0:=St.init hv
 go_enter Tryz.func56,Tryz.ntmps56
 refine Al<|Ao<|rs (Value.map none) (aG X) ?_
 try simp only [sc0,sc1]
 refine aB<|ay<|Al<|Ao<|uj HS ?_
 intro w1 b1 HS1
 refine rs (Value.agg #[vB true,vB true,vB false,vB false,vB false]) (jy (cs:=[vB true,vB true,vB false,vB false,vB false]) (ps:=[(0,vB true),(1,vB true)]) B1 Bt (pl:=#[(0,1),(1,1),(2,1),(3,1),(4,1)]) (fun w=>by simp [Tryz.sizeOf4]) (qp (show _=vB true from X) (show _=vB true from X)) X) ?_
 refine Hy (og Bn) (i:=0) (k:=1) (v:=(⟨true,true,false,false,false⟩:iD)) (ev:=kP) (m:=([]:List (Int×iD))) (by first|exact .inl X|exact .inr X) X X X X X BW HS1 X (oG.nil) ?_
 intro w2 es1 cl1 HS2 ho1
 refine rs (Value.agg #[vB false,vB false,vB true,vB false,vB false]) (jy (cs:=[vB false,vB false,vB true,vB false,vB false]) (ps:=[(2,vB true)]) B1 Bt (pl:=#[(0,1),(1,1),(2,1),(3,1),(4,1)]) (fun w=>by simp [Tryz.sizeOf4]) (pq (show _=vB true from X)) X) ?_
 refine aK (by simp only [sc0,sc1];rfl) ?_
 refine Hy (og Bn) (i:=0) (k:=2) (v:=(⟨false,false,true,false,false⟩:iD)) (ev:=kP) (m:=(iG ieq ([]:List (Int×iD)) 1 (⟨true,true,false,false,false⟩:iD))) (by first|exact .inl X|exact .inr X) X X X X X BW HS2 X ho1 ?_
 intro w3 es2 cl2 HS3 ho2
 refine rs (Value.agg #[vB false,vB false,vB true,vB true,vB false]) (jy (cs:=[vB false,vB false,vB true,vB true,vB false]) (ps:=[(2,vB true),(3,vB true)]) B1 Bt (pl:=#[(0,1),(1,1),(2,1),(3,1),(4,1)]) (fun w=>by simp [Tryz.sizeOf4]) (qp (show _=vB true from X) (show _=vB true from X)) X) ?_
 refine Hy (og Bn) (i:=0) (k:=3) (v:=(⟨false,false,true,true,false⟩:iD)) (ev:=kP) (m:=(iG ieq (iG ieq ([]:List (Int×iD)) 1 (⟨true,true,false,false,false⟩:iD)) 2 (⟨false,false,true,false,false⟩:iD))) (by first|exact .inl X|exact .inr X) X X X X X BW HS3 X ho2 ?_
 intro w4 es3 cl3 HS4 ho3
 refine rs (Value.agg #[vB true,vB false,vB false,vB true,vB true]) (jy (cs:=[vB true,vB false,vB false,vB true,vB true]) (ps:=[(0,vB true),(3,vB true),(4,vB true)]) B1 Bt (pl:=#[(0,1),(1,1),(2,1),(3,1),(4,1)]) (fun w=>by simp [Tryz.sizeOf4]) (xM (show _=vB true from X) (show _=vB true from X) (show _=vB true from X)) X) ?_
 refine aK (by simp only [sc0,sc1];rfl) ?_
 refine Hy (og Bn) (i:=0) (k:=4) (v:=(⟨true,false,false,true,true⟩:iD)) (ev:=kP) (m:=(iG ieq (iG ieq (iG ieq ([]:List (Int×iD)) 1 (⟨true,true,false,false,false⟩:iD)) 2 (⟨false,false,true,false,false⟩:iD)) 3 (⟨false,false,true,true,false⟩:iD))) (by first|exact .inl X|exact .inr X) X X X X X BW HS4 X ho3 ?_
 intro w5 es4 cl4 HS5 ho4
 refine rs (Value.agg #[vB true,vB false,vB false,vB false,vB true]) (jy (cs:=[vB true,vB false,vB false,vB false,vB true]) (ps:=[(0,vB true),(4,vB true)]) B1 Bt (pl:=#[(0,1),(1,1),(2,1),(3,1),(4,1)]) (fun w=>by simp [Tryz.sizeOf4]) (qp (show _=vB true from X) (show _=vB true from X)) X) ?_
 refine Hy (og Bn) (i:=0) (k:=5) (v:=(⟨true,false,false,false,true⟩:iD)) (ev:=kP) (m:=(iG ieq (iG ieq (iG ieq (iG ieq ([]:List (Int×iD)) 1 (⟨true,true,false,false,false⟩:iD)) 2 (⟨false,false,true,false,false⟩:iD)) 3 (⟨false,false,true,true,false⟩:iD)) 4 (⟨true,false,false,true,true⟩:iD))) (by first|exact .inl X|exact .inr X) X X X X X BW HS5 X ho4 ?_
 intro w6 es5 cl5 HS6 ho5
 refine rs (Value.agg #[vB true,vB false,vB true,vB false,vB false]) (jy (cs:=[vB true,vB false,vB true,vB false,vB false]) (ps:=[(0,vB true),(2,vB true)]) B1 Bt (pl:=#[(0,1),(1,1),(2,1),(3,1),(4,1)]) (fun w=>by simp [Tryz.sizeOf4]) (qp (show _=vB true from X) (show _=vB true from X)) X) ?_
 refine aK (by simp only [sc0,sc1];rfl) ?_
 refine Hy (og Bn) (i:=0) (k:=6) (v:=(⟨true,false,true,false,false⟩:iD)) (ev:=kP) (m:=(iG ieq (iG ieq (iG ieq (iG ieq (iG ieq ([]:List (Int×iD)) 1 (⟨true,true,false,false,false⟩:iD)) 2 (⟨false,false,true,false,false⟩:iD)) 3 (⟨false,false,true,true,false⟩:iD)) 4 (⟨true,false,false,true,true⟩:iD)) 5 (⟨true,false,false,false,true⟩:iD))) (by first|exact .inl X|exact .inr X) X X X X X BW HS6 X ho5 ?_
 intro w7 es6 cl6 HS7 ho6
 refine rs (Value.map (some b1)) (aO X)<|rs (Value.map (some b1)) (aG X) ?_
 try simp only [sc0,sc1]
 refine aB<|ay<|AT ?_
 obtain rfl:=Ab H
 exact Ay (bD X (bK X)) X<|⟨b1,es6,cl6,X,HS7.fresh 0 X,ho6,HS7.toE⟩
def jF.l0 (a0:ByteArray):Nat→Int→Option ((Bool)⊕(Unit))
 |0,_=>none
 |m+1,aC=>if (decide (aC<((bytesOf a0).length:Int)))=true then (if 0≤aC∧aC<(bytesOf a0).length then (if ((!((((decide ((rd 0 (bytesOf a0) aC)≥97))&&(decide ((rd 0 (bytesOf a0) aC)≤122)))||((decide ((rd 0 (bytesOf a0) aC)≥65))&&(decide ((rd 0 (bytesOf a0) aC)≤90))))||((rd 0 (bytesOf a0) aC)==95)))&&(((aC==0)||(decide ((rd 0 (bytesOf a0) aC)<48)))||(decide ((rd 0 (bytesOf a0) aC)>57))))=true then (some (.inl false)) else (jF.l0 a0 m (IntKind.wrap .i64 (aC+1)))) else none) else (some (.inr ()))
def jF.f (k:Nat) (a0:ByteArray):Option (Bool):=if a0.size≤9223372036854775807 then ((jF.l0 a0 k 0).bind fun xx1=>(match xx1 with| .inl r=>some r| .inr s1=>some ((!(strEq a0 ByteArray.empty))&&(decide ((a0.size:Int)≤31))))) else none
theorem jF.calls (k:Nat) (a0:ByteArray) {h0:View} {w0:World} (hv:lS h0 w0) {r:Bool} (H:jF.f k a0=some r):Calls Tryz.prog 75 #[vS a0] w0 (fun e w1=>e= .returned (vB r)∧Ext w0 w1):=by
 unfold jF.f at H
 have HS:St [] h0 w0 h0 [] w0:=St.init hv
 go_enter Tryz.func75,Tryz.ntmps75
 refine Al<|Ao<|rs (vB false) (aG X) ?_
 try simp only [sc0,sc1]
 refine aB<|ay<|Al<|Al<|Ao<|rs (vS a0) (aO X) ?_
 obtain ⟨hl1,H⟩:=dN H
 refine RY (s:=a0) X BB Bu Cl hl1 HS ?_
 intro w1 h1 As1 cs1 HS1 sb1 hcs1 XC
 refine rs (vI ((bytesOf a0).length:Int)) (jD X Bu)<|rs (vI 0) (aO X) ?_
 try simp only [sc0,sc1]
 refine aB<|ay ?_
 obtain ⟨xx1,H,G1⟩:=bn H
 refine jB [2,3,4,5,9,10,11,12,13,14,15,16,17,18,19,20,21,22,23,24,25,26,27,28,29,30,31,32,33,34,35,36,37,38,39,40,41,42,43,44,45,46] (fun m us w'=>∃(aC:Int),Fit us (fun uy1=>[(uy1 0),(uy1 1),(uy1 2),(uy1 3),vI aC,(uy1 5),(uy1 6),(uy1 7),(uy1 8),(uy1 9),(uy1 10),(uy1 11),(uy1 12),(uy1 13),(uy1 14),(uy1 15),(uy1 16),(uy1 17),(uy1 18),(uy1 19),(uy1 20),(uy1 21),(uy1 22),(uy1 23),(uy1 24),(uy1 25),(uy1 26),(uy1 27),(uy1 28),(uy1 29),(uy1 30),(uy1 31),(uy1 32),(uy1 33),(uy1 34),(uy1 35),(uy1 36),(uy1 37),(uy1 38),(uy1 39),(uy1 40),(uy1 41)])∧jF.l0 a0 m aC=some xx1∧St [] h0 w0 h1 [] w') (fun us w'=>∃(s1:Unit),xx1= .inr s1∧Fit us (fun uo1=>[(uo1 0),(uo1 1),(uo1 2),(uo1 3),(uo1 4),(uo1 5),(uo1 6),(uo1 7),(uo1 8),(uo1 9),(uo1 10),(uo1 11),(uo1 12),(uo1 13),(uo1 14),(uo1 15),(uo1 16),(uo1 17),(uo1 18),(uo1 19),(uo1 20),(uo1 21),(uo1 22),(uo1 23),(uo1 24),(uo1 25),(uo1 26),(uo1 27),(uo1 28),(uo1 29),(uo1 30),(uo1 31),(uo1 32),(uo1 33),(uo1 34),(uo1 35),(uo1 36),(uo1 37),(uo1 38),(uo1 39),(uo1 40),(uo1 41)])∧St [] h0 w0 h1 [] w') k ⟨0,(fit X),H,HS1⟩ ?_ ?_
 ·rintro m us w2 ⟨aC,nO,H,HS2⟩
  obtain ⟨uy1,rfl⟩:=unj nO
  cases m with
  |zero=>exact absurd H (by simp [jF.l0])
  |succ m=>
   rw [jF.l0] at H
   try simp only [patch,sc0,sc1]
   refine Al<|Ao<|rs (vB (decide (aC<((bytesOf a0).length:Int)))) (bW X X X) ?_
   try simp only [sc0,sc1]
   refine aB<|ay<|Al<|Av (t:=(decide (aC<((bytesOf a0).length:Int)))) X (fun c1=>?_) (fun c1=>?_)
   ·replace H:=bU H c1
    refine AN<|ay<|Al<|wp_block<|Al<|Ao<|rs (vI aC) (aO X) ?_
    obtain ⟨hi1,H⟩:=dN H
    obtain ⟨ad1,e1,mJ⟩:=qY XC hi1.1 hi1.2
    refine rs (Value.pointer (some (Addr.add ad1 (aC.toNat*1)))) (dP (sz:=1) X e1 X hi1.1 hi1.2 Bu Tryz.sizeOf5)<|rs (Value.int .u8 (rd 0 (bytesOf a0) aC)) (kE X Tryz.isAgg5 (mJ.cell0 HS2.sees X))<|rs (vI aC) (aG X)<|aK (by simp only [sc0,sc1];rfl) ?_
    refine rs (Value.int .u8 (rd 0 (bytesOf a0) aC)) (aG X) ?_
    try simp only [sc0,sc1]
    refine aB<|ay<|Al<|Ao<|rs (Value.int .u8 (rd 0 (bytesOf a0) aC)) (aO X)<|rs (vB (decide ((rd 0 (bytesOf a0) aC)≥97))) (bW X X X)<|rs (vB (decide ((rd 0 (bytesOf a0) aC)≥97))) (aO X)<|rgs (decide ((rd 0 (bytesOf a0) aC)≥97)) true (Value.int .u8 (rd 0 (bytesOf a0) aC)) X X X X (fun hg=>(aO X))<|aK (by simp only [sc0,sc1];rfl) ?_
    refine rgs (decide ((rd 0 (bytesOf a0) aC)≥97)) true (vB (decide ((rd 0 (bytesOf a0) aC)≤122))) X X X X (fun hg=>(bW (gvt (Value.int .u8 (rd 0 (bytesOf a0) aC)) hg X) X X))<|rs (vB ((decide ((rd 0 (bytesOf a0) aC)≥97))&&(decide ((rd 0 (bytesOf a0) aC)≤122)))) (dL X (fun hp=>(gvt (vB (decide ((rd 0 (bytesOf a0) aC)≤122))) (gQ X hp) X)) X)<|rs (vB ((decide ((rd 0 (bytesOf a0) aC)≥97))&&(decide ((rd 0 (bytesOf a0) aC)≤122)))) (aO X)<|rgs ((decide ((rd 0 (bytesOf a0) aC)≥97))&&(decide ((rd 0 (bytesOf a0) aC)≤122))) true (Value.int .u8 (rd 0 (bytesOf a0) aC)) X X X X (fun hg=>(aO X))<|aK (by simp only [sc0,sc1];rfl) ?_
    refine rgs ((decide ((rd 0 (bytesOf a0) aC)≥97))&&(decide ((rd 0 (bytesOf a0) aC)≤122))) true (vB (decide ((rd 0 (bytesOf a0) aC)≥65))) X X X X (fun hg=>(bW (gvt (Value.int .u8 (rd 0 (bytesOf a0) aC)) hg X) X X))<|rgs ((decide ((rd 0 (bytesOf a0) aC)≥97))&&(decide ((rd 0 (bytesOf a0) aC)≤122))) true (vB (decide ((rd 0 (bytesOf a0) aC)≥65))) X X X X (fun hg=>(aO (gvt (vB (decide ((rd 0 (bytesOf a0) aC)≥65))) hg X)))<|rgs (decide ((rd 0 (bytesOf a0) aC)≥65)) (true&&(((decide ((rd 0 (bytesOf a0) aC)≥97))&&(decide ((rd 0 (bytesOf a0) aC)≤122)))==false)) (Value.int .u8 (rd 0 (bytesOf a0) aC)) X X X X (fun hg=>(aO X))<|rgs (decide ((rd 0 (bytesOf a0) aC)≥65)) (true&&(((decide ((rd 0 (bytesOf a0) aC)≥97))&&(decide ((rd 0 (bytesOf a0) aC)≤122)))==false)) (vB (decide ((rd 0 (bytesOf a0) aC)≤90))) X X X X (fun hg=>(bW (gvt (Value.int .u8 (rd 0 (bytesOf a0) aC)) hg X) X X))<|aK (by simp only [sc0,sc1];rfl) ?_
    refine rgs ((decide ((rd 0 (bytesOf a0) aC)≥97))&&(decide ((rd 0 (bytesOf a0) aC)≤122))) true (vB ((decide ((rd 0 (bytesOf a0) aC)≥65))&&(decide ((rd 0 (bytesOf a0) aC)≤90)))) X X X X (fun hg=>(dL (gvt (vB (decide ((rd 0 (bytesOf a0) aC)≥65))) hg X) (fun hp=>(gvt (vB (decide ((rd 0 (bytesOf a0) aC)≤90))) (gQ hg hp) X)) X))<|rs (vB (((decide ((rd 0 (bytesOf a0) aC)≥97))&&(decide ((rd 0 (bytesOf a0) aC)≤122)))||((decide ((rd 0 (bytesOf a0) aC)≥65))&&(decide ((rd 0 (bytesOf a0) aC)≤90))))) (dQ X X (fun hp=>(gvt (vB ((decide ((rd 0 (bytesOf a0) aC)≥65))&&(decide ((rd 0 (bytesOf a0) aC)≤90)))) (gQ X hp) X)))<|rs (vB (((decide ((rd 0 (bytesOf a0) aC)≥97))&&(decide ((rd 0 (bytesOf a0) aC)≤122)))||((decide ((rd 0 (bytesOf a0) aC)≥65))&&(decide ((rd 0 (bytesOf a0) aC)≤90))))) (aO X)<|rgs (((decide ((rd 0 (bytesOf a0) aC)≥97))&&(decide ((rd 0 (bytesOf a0) aC)≤122)))||((decide ((rd 0 (bytesOf a0) aC)≥65))&&(decide ((rd 0 (bytesOf a0) aC)≤90)))) true (Value.int .u8 (rd 0 (bytesOf a0) aC)) X X X X (fun hg=>(aO X))<|aK (by simp only [sc0,sc1];rfl) ?_
    refine rgs (((decide ((rd 0 (bytesOf a0) aC)≥97))&&(decide ((rd 0 (bytesOf a0) aC)≤122)))||((decide ((rd 0 (bytesOf a0) aC)≥65))&&(decide ((rd 0 (bytesOf a0) aC)≤90)))) true (vB ((rd 0 (bytesOf a0) aC)==95)) X X X X (fun hg=>(bW (gvt (Value.int .u8 (rd 0 (bytesOf a0) aC)) hg X) X X))<|rs (vB ((((decide ((rd 0 (bytesOf a0) aC)≥97))&&(decide ((rd 0 (bytesOf a0) aC)≤122)))||((decide ((rd 0 (bytesOf a0) aC)≥65))&&(decide ((rd 0 (bytesOf a0) aC)≤90))))||((rd 0 (bytesOf a0) aC)==95))) (dQ X X (fun hp=>(gvt (vB ((rd 0 (bytesOf a0) aC)==95)) (gQ X hp) X)))<|rs (vB ((((decide ((rd 0 (bytesOf a0) aC)≥97))&&(decide ((rd 0 (bytesOf a0) aC)≤122)))||((decide ((rd 0 (bytesOf a0) aC)≥65))&&(decide ((rd 0 (bytesOf a0) aC)≤90))))||((rd 0 (bytesOf a0) aC)==95))) (aG X) ?_
    try simp only [sc0,sc1]
    refine aB<|ay<|Al<|Ao<|rs (vB ((((decide ((rd 0 (bytesOf a0) aC)≥97))&&(decide ((rd 0 (bytesOf a0) aC)≤122)))||((decide ((rd 0 (bytesOf a0) aC)≥65))&&(decide ((rd 0 (bytesOf a0) aC)≤90))))||((rd 0 (bytesOf a0) aC)==95))) (aO X)<|rs (vB (!((((decide ((rd 0 (bytesOf a0) aC)≥97))&&(decide ((rd 0 (bytesOf a0) aC)≤122)))||((decide ((rd 0 (bytesOf a0) aC)≥65))&&(decide ((rd 0 (bytesOf a0) aC)≤90))))||((rd 0 (bytesOf a0) aC)==95)))) (mZ X)<|rs (vB (!((((decide ((rd 0 (bytesOf a0) aC)≥97))&&(decide ((rd 0 (bytesOf a0) aC)≤122)))||((decide ((rd 0 (bytesOf a0) aC)≥65))&&(decide ((rd 0 (bytesOf a0) aC)≤90))))||((rd 0 (bytesOf a0) aC)==95)))) (aO X)<|rgs (!((((decide ((rd 0 (bytesOf a0) aC)≥97))&&(decide ((rd 0 (bytesOf a0) aC)≤122)))||((decide ((rd 0 (bytesOf a0) aC)≥65))&&(decide ((rd 0 (bytesOf a0) aC)≤90))))||((rd 0 (bytesOf a0) aC)==95))) true (vI aC) X X X X (fun hg=>(aO X))<|aK (by simp only [sc0,sc1];rfl) ?_
    refine rgs (!((((decide ((rd 0 (bytesOf a0) aC)≥97))&&(decide ((rd 0 (bytesOf a0) aC)≤122)))||((decide ((rd 0 (bytesOf a0) aC)≥65))&&(decide ((rd 0 (bytesOf a0) aC)≤90))))||((rd 0 (bytesOf a0) aC)==95))) true (vB (aC==0)) X X X X (fun hg=>(bW (gvt (vI aC) hg X) X X))<|rgs (!((((decide ((rd 0 (bytesOf a0) aC)≥97))&&(decide ((rd 0 (bytesOf a0) aC)≤122)))||((decide ((rd 0 (bytesOf a0) aC)≥65))&&(decide ((rd 0 (bytesOf a0) aC)≤90))))||((rd 0 (bytesOf a0) aC)==95))) true (vB (aC==0)) X X X X (fun hg=>(aO (gvt (vB (aC==0)) hg X)))<|rgs (aC==0) (true&&((!((((decide ((rd 0 (bytesOf a0) aC)≥97))&&(decide ((rd 0 (bytesOf a0) aC)≤122)))||((decide ((rd 0 (bytesOf a0) aC)≥65))&&(decide ((rd 0 (bytesOf a0) aC)≤90))))||((rd 0 (bytesOf a0) aC)==95)))==true)) (Value.int .u8 (rd 0 (bytesOf a0) aC)) X X X X (fun hg=>(aO X))<|rgs (aC==0) (true&&((!((((decide ((rd 0 (bytesOf a0) aC)≥97))&&(decide ((rd 0 (bytesOf a0) aC)≤122)))||((decide ((rd 0 (bytesOf a0) aC)≥65))&&(decide ((rd 0 (bytesOf a0) aC)≤90))))||((rd 0 (bytesOf a0) aC)==95)))==true)) (vB (decide ((rd 0 (bytesOf a0) aC)<48))) X X X X (fun hg=>(bW (gvt (Value.int .u8 (rd 0 (bytesOf a0) aC)) hg X) X X))<|aK (by simp only [sc0,sc1];rfl) ?_
    refine rgs (!((((decide ((rd 0 (bytesOf a0) aC)≥97))&&(decide ((rd 0 (bytesOf a0) aC)≤122)))||((decide ((rd 0 (bytesOf a0) aC)≥65))&&(decide ((rd 0 (bytesOf a0) aC)≤90))))||((rd 0 (bytesOf a0) aC)==95))) true (vB ((aC==0)||(decide ((rd 0 (bytesOf a0) aC)<48)))) X X X X (fun hg=>(dQ (gvt (vB (aC==0)) hg X) X (fun hp=>(gvt (vB (decide ((rd 0 (bytesOf a0) aC)<48))) (gQ hg hp) X))))<|rgs (!((((decide ((rd 0 (bytesOf a0) aC)≥97))&&(decide ((rd 0 (bytesOf a0) aC)≤122)))||((decide ((rd 0 (bytesOf a0) aC)≥65))&&(decide ((rd 0 (bytesOf a0) aC)≤90))))||((rd 0 (bytesOf a0) aC)==95))) true (vB ((aC==0)||(decide ((rd 0 (bytesOf a0) aC)<48)))) X X X X (fun hg=>(aO (gvt (vB ((aC==0)||(decide ((rd 0 (bytesOf a0) aC)<48)))) hg X)))<|rgs ((aC==0)||(decide ((rd 0 (bytesOf a0) aC)<48))) (true&&((!((((decide ((rd 0 (bytesOf a0) aC)≥97))&&(decide ((rd 0 (bytesOf a0) aC)≤122)))||((decide ((rd 0 (bytesOf a0) aC)≥65))&&(decide ((rd 0 (bytesOf a0) aC)≤90))))||((rd 0 (bytesOf a0) aC)==95)))==true)) (Value.int .u8 (rd 0 (bytesOf a0) aC)) X X X X (fun hg=>(aO X))<|rgs ((aC==0)||(decide ((rd 0 (bytesOf a0) aC)<48))) (true&&((!((((decide ((rd 0 (bytesOf a0) aC)≥97))&&(decide ((rd 0 (bytesOf a0) aC)≤122)))||((decide ((rd 0 (bytesOf a0) aC)≥65))&&(decide ((rd 0 (bytesOf a0) aC)≤90))))||((rd 0 (bytesOf a0) aC)==95)))==true)) (vB (decide ((rd 0 (bytesOf a0) aC)>57))) X X X X (fun hg=>(bW (gvt (Value.int .u8 (rd 0 (bytesOf a0) aC)) hg X) X X))<|aK (by simp only [sc0,sc1];rfl) ?_
    refine rgs (!((((decide ((rd 0 (bytesOf a0) aC)≥97))&&(decide ((rd 0 (bytesOf a0) aC)≤122)))||((decide ((rd 0 (bytesOf a0) aC)≥65))&&(decide ((rd 0 (bytesOf a0) aC)≤90))))||((rd 0 (bytesOf a0) aC)==95))) true (vB (((aC==0)||(decide ((rd 0 (bytesOf a0) aC)<48)))||(decide ((rd 0 (bytesOf a0) aC)>57)))) X X X X (fun hg=>(dQ (gvt (vB ((aC==0)||(decide ((rd 0 (bytesOf a0) aC)<48)))) hg X) X (fun hp=>(gvt (vB (decide ((rd 0 (bytesOf a0) aC)>57))) (gQ hg hp) X))))<|rs (vB ((!((((decide ((rd 0 (bytesOf a0) aC)≥97))&&(decide ((rd 0 (bytesOf a0) aC)≤122)))||((decide ((rd 0 (bytesOf a0) aC)≥65))&&(decide ((rd 0 (bytesOf a0) aC)≤90))))||((rd 0 (bytesOf a0) aC)==95)))&&(((aC==0)||(decide ((rd 0 (bytesOf a0) aC)<48)))||(decide ((rd 0 (bytesOf a0) aC)>57))))) (dL X (fun hp=>(gvt (vB (((aC==0)||(decide ((rd 0 (bytesOf a0) aC)<48)))||(decide ((rd 0 (bytesOf a0) aC)>57)))) (gQ X hp) X)) X) ?_
    try simp only [sc0,sc1]
    refine aB<|ay<|Av (t:=((!((((decide ((rd 0 (bytesOf a0) aC)≥97))&&(decide ((rd 0 (bytesOf a0) aC)≤122)))||((decide ((rd 0 (bytesOf a0) aC)≥65))&&(decide ((rd 0 (bytesOf a0) aC)≤90))))||((rd 0 (bytesOf a0) aC)==95)))&&(((aC==0)||(decide ((rd 0 (bytesOf a0) aC)<48)))||(decide ((rd 0 (bytesOf a0) aC)>57))))) X (fun c2=>?_) (fun c2=>?_)
    ·replace H:=bU H c2
     refine Al<|Ao<|rs (vB false) (aG X) ?_
     try simp only [sc0,sc1]
     refine aB<|ay<|AT<|fA<|bP<|jm<|bP ?_
     obtain rfl:=Ab H
     obtain rfl:=Ab G1
     exact Ay (bD X (bK X)) X<|⟨X,HS2.toE⟩
    ·replace H:=cO H (nt c2)
     refine AN<|dD<|ay<|Ao<|rs (vI (w64 (aC+1))) (bW X X X)<|rs (vI (w64 (aC+1))) (aO X) ?_
     try simp only [sc0,sc1]
     refine aB<|gI m (Nat.lt_succ_self m) X ⟨(w64 (aC+1)),(fit X),H,HS2⟩
   ·replace H:=cO H (nt c1)
    refine Bx<|eU ?_
    obtain rfl:=Ab H
    refine iK X ⟨_,X,(fit X),HS2⟩
 ·rintro us w3 ⟨s1,rfl,nP,HS3⟩
  obtain ⟨uo1,rfl⟩:=unj nP
  replace H:=G1
  clear G1
  try simp only [patch,sc0,sc1]
  refine ay<|Al<|Ao<|rs (vS a0) (aO X)<|rs (vB (!(strEq a0 ByteArray.empty))) (ql X X)<|rs (vB (!(strEq a0 ByteArray.empty))) (aO X)<|rgs (!(strEq a0 ByteArray.empty)) true (vS a0) X X X X (fun hg=>(aO X))<|aK (by simp only [sc0,sc1];rfl) ?_
  refine rgs (!(strEq a0 ByteArray.empty)) true (vI (a0.size:Int)) X X X X (fun hg=>(zD (gvt (vS a0) hg X) BB))<|rgs (!(strEq a0 ByteArray.empty)) true (vB (decide ((a0.size:Int)≤31))) X X X X (fun hg=>(bW (gvt (vI (a0.size:Int)) hg X) X X))<|rs (vB ((!(strEq a0 ByteArray.empty))&&(decide ((a0.size:Int)≤31)))) (dL X (fun hp=>(gvt (vB (decide ((a0.size:Int)≤31))) (gQ X hp) X)) X)<|rs (vB ((!(strEq a0 ByteArray.empty))&&(decide ((a0.size:Int)≤31)))) (aG X) ?_
  try simp only [sc0,sc1]
  refine aB<|ay<|AT ?_
  obtain rfl:=Ab H
  exact Ay (bD X (bK X)) X<|⟨X,HS3.toE⟩
end Go.Proofs.YtfjppgobidjndaaGreatDoor
/-bits.Check holds of the types of 1,2,4 and 8 bytes:the map of conversions,its entries put in in any order. -/
namespace Go.Proofs.YtfjppgobidjndaaGreatDoor
open Go.RowKit Go.M
section
variable {P:Program} {Q:Exit→Act→World→Prop}
theorem Dj {ops:Array Oper} {i:Nat} {o:Oper} {K:Act→World→Prop} {a:Act} {w w':World} {v:Value} (hi:ops[i]?=some o) (hg:o.guard=none) (hex:(execOp a.eval o).run P w= .ok (.value v) w') (hK:K (a.put o.dst v) w'):wpOp P ops Q i K a w:=by
 unfold wpOp
 rw [hi]
 simp only [Region.wanted,hg,if_true]
 refine .inl ?_
 unfold Oper.wp
 rw [hex]
 exact hK
theorem steps {ops:Array Oper} {i:Nat} {o:Oper} {K:Act→World→Prop} {a:Act} {w w':World} (hi:ops[i]?=some o) (hg:o.guard=none) (hd:o.dst=none) (hex:(execOp a.eval o).run P w= .ok .skip w') (hK:K a w'):wpOp P ops Q i K a w:=by
 unfold wpOp
 rw [hi]
 simp only [Region.wanted,hg,if_true]
 refine .inl ?_
 unfold Oper.wp
 rw [hex]
 simp only [Oper.upon,hd]
 exact hK
end
def eqI (a b:jE):Bool:=(a.aU==b.aU)&&((a.aJ==b.aJ)&&true)
theorem IE {a b:jE}:eqI a b=true↔a=b:=by
 obtain ⟨a1,a2⟩:=a
 obtain ⟨b1,b2⟩:=b
 simp [eqI]
theorem Xg : UA Tryz.prog 55 #[{ name := "Size", type := 3, offset := 0, embedded := false, tag := "", pkgPath := "", byteOffset := 0 }, { name := "Signed", type := 4, offset := 1, embedded := false, tag := "", pkgPath := "", byteOffset := 8 }] pz eqI where
 hu:=A_
 same:=fun a b w=>(Az Tryz.stoodInHeld55 Ch (pJ (by decide) (jR AC rfl) (jR AC rfl) (zf B9) (pJ (by decide) (jR By rfl) (jR By rfl) (zH Cg) Aw)):EqR Tryz.prog 10000 55 (pz a) (pz b) (eqI a b)) w
 check:=fun e k w=>by
  have hp1:(part 3 #[.int .i64 k.aU, .bool k.aJ] 0).run Tryz.prog w= .ok (.int .i64 k.aU) w:=jR AC X w
  have hp2:(part 4 #[.int .i64 k.aU, .bool k.aJ] 1).run Tryz.prog w= .ok (.bool k.aJ) w:=jR By X w
  have h1:∀n v,(Instr.checkKey e (n+1) 3 v).run Tryz.prog w= .ok () w:=fun n v=>by
   rw [Instr.checkKey]
   simp only [Sem.run_bind,Tryz.runUnderlying3,Result.andThen_ok]
   cases v<;>rfl
  have h2:∀n v,(Instr.checkKey e (n+1) 4 v).run Tryz.prog w= .ok () w:=fun n v=>by
   rw [Instr.checkKey]
   simp only [Sem.run_bind,Tryz.runUnderlying4,Result.andThen_ok]
   cases v<;>rfl
  show (Instr.checkKey e (9998+1+1) 55 (.agg #[.int .i64 k.aU, .bool k.aJ])).run Tryz.prog w=_
  rw [Instr.checkKey]
  simp only [Sem.run_bind,Tryz.runUnderlying55,Result.andThen_ok]
  simp [hp1,hp2,h1,h2]
def keyAt (j:Nat):jE:=⟨([1,1,2,2,4,4,8,8]:List Int).getD j 0,j%2==0⟩
structure Wi (wz w:World) (b:Nat) (es:Array MapEntry) (cl:Nat) (ks:List jE):Prop where
 ge:wz.heap.size≤b
 at_:w.heap[b]?=some (.map es cl)
 keys:Bc pz ks es
 ext:Ext wz w
structure Na (wz:World) (df:List Deferred) (L:Nat→Bool) (a:Act) (w:World):Prop where
 defers:a.defers=df
 size:a.tmps.size=11
 built:∀j:Nat,j<8→L (2*j+1)=true→a.tmps.getD (Nat.add j 2) undef=pz (keyAt j)
 none_:L 0=false→Ext wz w∧(∀j,j<8→L (2*j+2)=false)∧L 17=false∧L 18=false
 some_:L 0=true→∃b es cl ks,a.tmps.getD 1 undef= .map (some b)∧Wi wz w b es cl ks∧(∀j,j<8→(L (2*j+2)=true↔keyAt j∈ks))∧(∀k∈ks,∃j,j<8∧k=keyAt j)∧
  (L 17=true→a.tmps.getD 10 undef= .map (some b))∧(L 18=true→a.tmps.getD 0 undef= .map (some b))
theorem upd_ne {L:Nat→Bool} {i j:Nat} (h:j≠i):upd L i j=L j:=if_neg h
theorem Rq {L:Nat→Bool} {i:Nat}:upd L i i=true:=if_pos rfl
theorem nC {a:Act} {d t:Tmp} {v:Value} (h:d≠t):(a.put (some d) v).tmps.getD t undef=a.tmps.getD t undef:=by
 simp [Act.put,Array.getD_eq_getD_getElem?,Array.getElem?_setIfInBounds_ne h]
theorem wM {a:Act} {d:Tmp} {v:Value} (h:d<a.tmps.size):(a.put (some d) v).tmps.getD d undef=v:=by
 simp [Act.put,Array.getD_eq_getD_getElem?,h]
theorem Wj {j:Nat} (h:j<8):Nat.add j 2<11:=by show j+2<11;omega
theorem Wn {j q:Nat} (h:¬q=j):Nat.add j 2≠Nat.add q 2:=by show j+2≠q+2;omega
theorem XD {j:Nat}:Nat.add j 2≠1:=by show j+2≠1;omega
theorem Wp {j:Nat}:1≠Nat.add j 2:=by show 1≠j+2;omega
theorem XE {j:Nat}:Nat.add j 2≠0:=by show j+2≠0;omega
theorem Wq {j:Nat} (h:j<8):Nat.add j 2≠10:=by show j+2≠10;omega
theorem UN {j:Nat} (h:j<8):10≠Nat.add j 2:=by show 10≠j+2;omega
theorem Ws {j:Nat}:0≠Nat.add j 2:=by show 0≠j+2;omega
/-- a slot that is built -/
theorem Na.build {wz w:World} {df:List Deferred} {L:Nat→Bool} {a:Act} (C:Na wz df L a w) {j:Nat} (hj:j<8):Na wz df (upd L (2*j+1)) (a.put (some (Nat.add j 2)) (pz (keyAt j))) w:=by
 refine ⟨by simp [Act.put,C.defers],by simp [Act.put,C.size],fun q hq hL=>?_,fun h=>?_,fun h=>?_⟩
 ·by_cases hqj:q=j
  ·subst hqj;exact wM (by rw [C.size];exact Wj hq)
  ·rw [nC (Wn hqj)]
   rw [upd_ne (by omega)] at hL
   exact C.built q hq hL
 ·rw [upd_ne (by omega)] at h
  obtain ⟨h1,h2,h3,h4⟩:=C.none_ h
  exact ⟨h1,fun q hq=>by rw [upd_ne (by omega)];exact h2 q hq,by rw [upd_ne (by omega)];exact h3,by rw [upd_ne (by omega)];exact h4⟩
 ·rw [upd_ne (by omega)] at h
  obtain ⟨b,es,cl,ks,h1,h2,h3,h4,h5,h6⟩:=C.some_ h
  refine ⟨b,es,cl,ks,by rw [nC XD];exact h1,h2,fun q hq=>by rw [upd_ne (by omega)];exact h3 q hq,h4,fun h=>?_,fun h=>?_⟩
  ·rw [upd_ne (by omega)] at h
   rw [nC (Wq hj)];exact h5 h
  ·rw [upd_ne (by omega)] at h
   rw [nC XE];exact h6 h
theorem Nb {i j:Nat} (hi:i<8) (hj:j<8) (h:keyAt i=keyAt j):i=j:=by
 have:∀i j:Fin 8,(([1,1,2,2,4,4,8,8]:List Int).getD i 0=([1,1,2,2,4,4,8,8]:List Int).getD j 0∧(i.val%2==0)=(j.val%2==0))→i=j:=by decide
 have h2:=this ⟨i,hi⟩ ⟨j,hj⟩ (by simpa [keyAt] using h)
 exact congrArg Fin.val h2
/-- an entry that is put in -/
theorem Na.insert {wz w:World} {df:List Deferred} {L:Nat→Bool} {a:Act} (C:Na wz df L a w) {j:Nat} (hj:j<8) (hL:L (2*j+2)=false) (h0:L 0=true) (hb:L (2*j+1)=true) {o:Oper} {y:Operand}
  (ho:o.op= .insert 128 (.tmp 1) (.tmp (Nat.add j 2)) y):∃w',(execOp a.eval o).run Tryz.prog w= .ok .skip w'∧Na wz df (upd L (2*j+2)) a w':=by
 obtain ⟨b,es,cl,ks,h1,h2,h3,h4,h5,h6⟩:=C.some_ h0
 have hnot:ks.any (eqI (keyAt j))=false:=by
  rw [List.any_eq_false]
  intro k hk he
  have:=IE.1 he
  rw [←this] at hk
  have:=(h3 j hj).2 hk
  rw [hL] at this
  cases this
 obtain ⟨es',cl',hr,hk⟩:=V8 (P:=Tryz.prog) Xg (keyAt j) (v:=a.eval y) h2.keys CL h2.at_ hnot
 have e1:a.eval (.tmp 1)= .map (some b):=h1
 have e2:a.eval (.tmp (Nat.add j 2))=pz (keyAt j):=C.built j hj hb
 have hlt:=(Array.getElem?_eq_some_iff.1 h2.at_).1
 refine ⟨wG w b (.map es' cl'),by simp [execOp,ho,e1,e2,hr],C.defers,C.size,fun q hq hLq=>?_,fun h=>?_,fun h=>?_⟩
 ·rw [upd_ne (by omega)] at hLq
  exact C.built q hq hLq
 ·rw [upd_ne (by omega),h0] at h;cases h
 ·refine ⟨b,es',cl',ks++[keyAt j],h1,⟨h2.ge,CS hlt,hk,?_⟩,fun q hq=>?_,fun k hk=>?_,fun h=>?_,fun h=>?_⟩
  ·refine ⟨h2.ext.os,h2.ext.tape,h2.ext.output,by simpa [wG] using h2.ext.size,fun i hi=>?_⟩
   rw [EP (by have:=h2.ge;omega)]
   exact h2.ext.block i hi
  ·by_cases hqj:q=j
   ·subst hqj;simp [Rq]
   ·rw [upd_ne (by omega),h3 q hq,List.mem_append,List.mem_singleton]
    exact ⟨.inl,fun h=>h.elim id (fun e=>absurd (Nb hq hj e) hqj)⟩
  ·rcases List.mem_append.1 hk with hk|hk
   ·exact h4 k hk
   ·exact ⟨j,hj,List.mem_singleton.1 hk⟩
  ·rw [upd_ne (by omega)] at h;exact h5 h
  ·rw [upd_ne (by omega)] at h;exact h6 h
/-- the sizes of valid integer types -/
def okI (k:jE):Bool:=k.aU==1||k.aU==2||k.aU==4||k.aU==8
theorem all_keys {ks:List jE} (h3:∀j,j<8→keyAt j∈ks) (h4:∀k∈ks,∃j,j<8∧k=keyAt j) (k:jE):ks.any (eqI k)=okI k:=by
 have key:ks.any (eqI k)=true↔okI k=true:=by
  rw [List.any_eq_true]
  constructor
  ·rintro ⟨q,hq,he⟩
   obtain ⟨j,hj,rfl⟩:=h4 q hq
   obtain rfl:=IE.1 he
   have:∀j:Fin 8,okI (keyAt j)=true:=by decide
   exact this ⟨j,hj⟩
  ·intro h
   obtain ⟨s,g⟩:=k
   have h1:∃j,j<8∧keyAt j=⟨s,g⟩:=by
    simp only [okI,Bool.or_eq_true,beq_iff_eq] at h
    rcases h with ((h|h)|h)|h<;>subst h<;>cases g
    ·exact ⟨1,by decide,X⟩
    ·exact ⟨0,by decide,X⟩
    ·exact ⟨3,by decide,X⟩
    ·exact ⟨2,by decide,X⟩
    ·exact ⟨5,by decide,X⟩
    ·exact ⟨4,by decide,X⟩
    ·exact ⟨7,by decide,X⟩
    ·exact ⟨6,by decide,X⟩
   obtain ⟨j,hj,e⟩:=h1
   exact ⟨keyAt j,h3 j hj,IE.2 e.symm⟩
 cases h1:ks.any (eqI k) with
 |true=>exact (key.1 h1).symm
 |false=>
  cases h2:okI k with
  |false=>rfl
  |true=>rw [key.2 h2] at h1;cases h1
theorem BJ.calls {w0:World}:Calls Tryz.prog 87 #[] w0 (fun e w1=>∃b es cl ks,e= .returned (.map (some b))∧w0.heap.size≤b∧w1.heap[b]?=some (.map es cl)∧Bc pz ks es∧(∀k,ks.any (eqI k)=okI k)∧Ext w0 w1):=by
 go_enter Tryz.func87,Tryz.ntmps87
 refine Al<|Ao<|rs (Value.map none) (aG X) ?_
 try simp only [sc0,sc1]
 refine aB<|ay<|Al<|F9 (Na w0 []) rM (by kernel_rfl) ?_ ?_ ?_
 ·intro w' hE
  exact Na.mk X X (fun j hj h=>by cases h) (fun _=>⟨hE,fun _ _=>rfl,X,X⟩) (fun h=>by cases h)
 ·intro L a w i o C ho hLi hall
  have hil:i<19:=(List.getElem?_eq_some_iff.1 ho).1
  have hops:=ho
  rw [←List.getElem?_toArray] at hops
  rcases (by omega:i=0∨i=1∨i=2∨i=3∨i=4∨i=5∨i=6∨i=7∨i=8∨i=9∨i=10∨i=11∨i=12∨i=13∨i=14∨i=15∨i=16∨i=17∨i=18) with rfl|rfl|rfl|rfl|rfl|rfl|rfl|rfl|rfl|rfl|rfl|rfl|rfl|rfl|rfl|rfl|rfl|rfl|rfl
  ·-- the map
   obtain rfl:=Ab ho
   obtain ⟨h1,h2,h3,h4⟩:=C.none_ hLi
   refine Dj hops X (v:= .map (some w.heap.size)) (w':=w.alloc (.map #[] 0)) ?_ ?_
   ·have hn:Sem.run Tryz.prog (Sem.new (Obj.map #[] 0) Sem.pure) w= .ok w.heap.size (w.alloc (.map #[] 0)):=X
    simp [execOp,Instr.makeMap,newObj,hn]
   ·refine Na.mk (by simp [Act.put,C.defers]) (by simp [Act.put,C.size]) (fun q hq hL=>?_) (fun h=>by rw [Rq] at h;cases h) (fun _=>?_)
    ·rw [upd_ne (by omega)] at hL
     show (a.put (some 1) _).tmps.getD _ undef=_
     rw [nC Wp];exact C.built q hq hL
    ·refine ⟨w.heap.size,#[],0,[],wM (by rw [C.size];decide),⟨h1.size,heap_alloc_new w _,X,h1.then (Ext.new w _)⟩,fun q hq=>?_,by simp,fun h=>?_,fun h=>?_⟩
     ·rw [upd_ne (by omega),h2 q hq];simp
     ·rw [upd_ne (by omega),h3] at h;cases h
     ·rw [upd_ne (by omega),h4] at h;cases h
  ·obtain rfl:=Ab ho
   exact Dj hops X (jy (cs:=[.int .i64 1, .bool true]) (ps:=[(0, .int .i64 1),(1, .bool true)]) B2 A_ (pl:=#[(0,1),(1,1)]) (fun w=>by simp [Tryz.sizeOf3,Tryz.sizeOf4]) (qp X X) X) (C.build (j:=0) (by decide))
  ·obtain rfl:=Ab ho
   simp [Region.binds] at hall
   obtain ⟨w', hex, hC⟩ := C.insert (o := ⟨none, .insert 128 (.tmp 1) (.tmp 2) (.func 89), 0, "bits.go:22", #[{ on := 0, ground := Ground.data }, { on := 1, ground := Ground.data }], none⟩) (j := 0) (by decide) hLi hall.1 hall.2 rfl
   exact steps hops X X hex hC
  ·obtain rfl:=Ab ho
   exact Dj hops X (jy (cs:=[.int .i64 1, .bool false]) (ps:=[(0, .int .i64 1)]) B2 A_ (pl:=#[(0,1),(1,1)]) (fun w=>by simp [Tryz.sizeOf3,Tryz.sizeOf4]) (pq X) X) (C.build (j:=1) (by decide))
  ·obtain rfl:=Ab ho
   simp [Region.binds] at hall
   obtain ⟨w', hex, hC⟩ := C.insert (o := ⟨none, .insert 128 (.tmp 1) (.tmp 3) (.func 90), 0, "bits.go:22", #[{ on := 0, ground := Ground.data }, { on := 3, ground := Ground.data }], none⟩) (j := 1) (by decide) hLi hall.1 hall.2 rfl
   exact steps hops X X hex hC
  ·obtain rfl:=Ab ho
   exact Dj hops X (jy (cs:=[.int .i64 2, .bool true]) (ps:=[(0, .int .i64 2),(1, .bool true)]) B2 A_ (pl:=#[(0,1),(1,1)]) (fun w=>by simp [Tryz.sizeOf3,Tryz.sizeOf4]) (qp X X) X) (C.build (j:=2) (by decide))
  ·obtain rfl:=Ab ho
   simp [Region.binds] at hall
   obtain ⟨w', hex, hC⟩ := C.insert (o := ⟨none, .insert 128 (.tmp 1) (.tmp 4) (.func 91), 0, "bits.go:22", #[{ on := 0, ground := Ground.data }, { on := 5, ground := Ground.data }], none⟩) (j := 2) (by decide) hLi hall.1 hall.2 rfl
   exact steps hops X X hex hC
  ·obtain rfl:=Ab ho
   exact Dj hops X (jy (cs:=[.int .i64 2, .bool false]) (ps:=[(0, .int .i64 2)]) B2 A_ (pl:=#[(0,1),(1,1)]) (fun w=>by simp [Tryz.sizeOf3,Tryz.sizeOf4]) (pq X) X) (C.build (j:=3) (by decide))
  ·obtain rfl:=Ab ho
   simp [Region.binds] at hall
   obtain ⟨w', hex, hC⟩ := C.insert (o := ⟨none, .insert 128 (.tmp 1) (.tmp 5) (.func 92), 0, "bits.go:22", #[{ on := 0, ground := Ground.data }, { on := 7, ground := Ground.data }], none⟩) (j := 3) (by decide) hLi hall.1 hall.2 rfl
   exact steps hops X X hex hC
  ·obtain rfl:=Ab ho
   exact Dj hops X (jy (cs:=[.int .i64 4, .bool true]) (ps:=[(0, .int .i64 4),(1, .bool true)]) B2 A_ (pl:=#[(0,1),(1,1)]) (fun w=>by simp [Tryz.sizeOf3,Tryz.sizeOf4]) (qp X X) X) (C.build (j:=4) (by decide))
  ·obtain rfl:=Ab ho
   simp [Region.binds] at hall
   obtain ⟨w', hex, hC⟩ := C.insert (o := ⟨none, .insert 128 (.tmp 1) (.tmp 6) (.func 93), 0, "bits.go:22", #[{ on := 0, ground := Ground.data }, { on := 9, ground := Ground.data }], none⟩) (j := 4) (by decide) hLi hall.1 hall.2 rfl
   exact steps hops X X hex hC
  ·obtain rfl:=Ab ho
   exact Dj hops X (jy (cs:=[.int .i64 4, .bool false]) (ps:=[(0, .int .i64 4)]) B2 A_ (pl:=#[(0,1),(1,1)]) (fun w=>by simp [Tryz.sizeOf3,Tryz.sizeOf4]) (pq X) X) (C.build (j:=5) (by decide))
  ·obtain rfl:=Ab ho
   simp [Region.binds] at hall
   obtain ⟨w', hex, hC⟩ := C.insert (o := ⟨none, .insert 128 (.tmp 1) (.tmp 7) (.func 94), 0, "bits.go:22", #[{ on := 0, ground := Ground.data }, { on := 11, ground := Ground.data }], none⟩) (j := 5) (by decide) hLi hall.1 hall.2 rfl
   exact steps hops X X hex hC
  ·obtain rfl:=Ab ho
   exact Dj hops X (jy (cs:=[.int .i64 8, .bool true]) (ps:=[(0, .int .i64 8),(1, .bool true)]) B2 A_ (pl:=#[(0,1),(1,1)]) (fun w=>by simp [Tryz.sizeOf3,Tryz.sizeOf4]) (qp X X) X) (C.build (j:=6) (by decide))
  ·obtain rfl:=Ab ho
   simp [Region.binds] at hall
   obtain ⟨w', hex, hC⟩ := C.insert (o := ⟨none, .insert 128 (.tmp 1) (.tmp 8) (.func 95), 0, "bits.go:22", #[{ on := 0, ground := Ground.data }, { on := 13, ground := Ground.data }], none⟩) (j := 6) (by decide) hLi hall.1 hall.2 rfl
   exact steps hops X X hex hC
  ·obtain rfl:=Ab ho
   exact Dj hops X (jy (cs:=[.int .i64 8, .bool false]) (ps:=[(0, .int .i64 8)]) B2 A_ (pl:=#[(0,1),(1,1)]) (fun w=>by simp [Tryz.sizeOf3,Tryz.sizeOf4]) (pq X) X) (C.build (j:=7) (by decide))
  ·obtain rfl:=Ab ho
   simp [Region.binds] at hall
   obtain ⟨w', hex, hC⟩ := C.insert (o := ⟨none, .insert 128 (.tmp 1) (.tmp 9) (.func 96), 0, "bits.go:22", #[{ on := 0, ground := Ground.data }, { on := 15, ground := Ground.data }], none⟩) (j := 7) (by decide) hLi hall.1 hall.2 rfl
   exact steps hops X X hex hC
  ·obtain rfl:=Ab ho
   simp [Region.binds] at hall
   obtain ⟨b,es,cl,ks,h1,h2,h3,h4,h5,h6⟩:=C.some_ hall.1
   refine Dj hops X (v:= .map (some b)) (w':=w) (aO h1)<|Na.mk (by simp [Act.put,C.defers]) (by simp [Act.put,C.size]) (fun q hq hL=>?_) (fun h=>by rw [upd_ne (by omega),hall.1] at h;cases h) (fun _=>⟨b,es,cl,ks,?_,h2,fun q hq=>by rw [upd_ne (by omega)];exact h3 q hq,h4,fun _=>?_,fun h=>?_⟩)
   ·rw [upd_ne (by omega)] at hL
    show (a.put (some 10) _).tmps.getD _ undef=_
    rw [nC (UN hq)];exact C.built q hq hL
   ·exact (nC (by decide)).trans h1
   ·exact wM (by rw [C.size];decide)
   ·rw [upd_ne (by omega)] at h
    exact (nC (by decide)).trans (h6 h)
  ·obtain rfl:=Ab ho
   simp [Region.binds] at hall
   obtain ⟨b,es,cl,ks,h1,h2,h3,h4,h5,h6⟩:=C.some_ hall.2.1
   refine Dj hops X (v:= .map (some b)) (w':=w) (aG (h5 hall.1))<|Na.mk (by simp [Act.put,C.defers]) (by simp [Act.put,C.size]) (fun q hq hL=>?_) (fun h=>by rw [upd_ne (by omega),hall.2.1] at h;cases h) (fun _=>⟨b,es,cl,ks,?_,h2,fun q hq=>by rw [upd_ne (by omega)];exact h3 q hq,h4,fun h=>?_,fun _=>?_⟩)
   ·rw [upd_ne (by omega)] at hL
    show (a.put (some 0) _).tmps.getD _ undef=_
    rw [nC Ws];exact C.built q hq hL
   ·exact (nC (by decide)).trans h1
   ·rw [upd_ne (by omega)] at h
    exact (nC (by decide)).trans (h5 h)
   ·exact wM (by rw [C.size];decide)
 ·intro L a w C hall
  obtain ⟨b,es,cl,ks,h1,h2,h3,h4,h5,h6⟩:=C.some_ (hall 0 (by decide))
  exact ay<|AT<|Ay (bD X (bK (h6 (hall 18 (by decide))))) C.defers<|⟨b,es,cl,ks,X,h2.ge,h2.at_,h2.keys,all_keys (fun j hj=>(h3 j hj).1 (hall (2*j+2) (by show 2*j+2<19;omega))) h4,h2.ext⟩
end Go.Proofs.YtfjppgobidjndaaGreatDoor
/-bits.Check:which integer types are valid. -/
namespace Go.Proofs.YtfjppgobidjndaaGreatDoor
open Go.RowKit Go.M
def rP.f (a0:jE):Option Int:=some (if okI a0=true then 0 else 10)
theorem Nc {P:Program} {ρ:Operand→Value} {w:World} {dst:Option Tmp} {ty:TypeId} {pos:String} {after:Array Edge} {guard:Option (Nat×Bool)} {xt:TypeId} {x y:Operand} {b:Nat} {k v:Value} (hx:ρ x= .map (some b)) (hy:ρ y=k)
  (h:(Instr.lookup xt (.map (some b)) k true).run P w= .ok v w):(execOp ρ ⟨dst, .lookup xt x y true,ty,pos,after,guard⟩).run P w= .ok (.value v) w:=by
 simp [execOp,hx,hy,h]
theorem rP.calls (a0:jE) {h0:View} {w0:World} (hv:lS h0 w0) {r:Int} (H:rP.f a0=some r):Calls Tryz.prog 76 #[Value.agg #[vI a0.aU,vB a0.aJ]] w0 (fun e w1=>e= .returned (vI r)∧Ext w0 w1):=by
 unfold rP.f at H
 obtain rfl:=Ab H
 have HS:St [] h0 w0 h0 [] w0:=St.init hv
 go_enter Tryz.func76,Tryz.ntmps76
 refine Al<|Ao<|dF X X (eF (cs:=#[vI a0.aU,vB a0.aJ]) X X) ?_
 rintro w1 _ hE1 ⟨b1,rfl,ge1,hb1⟩
 have HS1:=HS.new hE1 ge1 hb1
 refine rs (vI 0) (aG X) ?_
 try simp only [sc0,sc1]
 refine aB<|ay<|Al<|Al<|mg [([7],[1]),([8,5,9,10,3,4],[1,2,3,4,5,6,7])] [0] [[],[],[0,1],[0,1,2],[0,1,2,3],[0,1,2,3],[0,1,2,3,4],[0,1,2,3,4,5,6]] rM (by kernel_rfl) ?_
 intro w2 hE2
 have HS2:=HS1.step hE2
 refine iR [pz a0] ?_ X X ?_
 ·simp only [patch,sc0,sc1]
  exact bF (bG (v:=pz a0) X X X X (aT (n:=2) (vs:=[vI a0.aU,vB a0.aJ]) X Ca (HS2.look 0 X) Bk X X)) iH
 simp only [patch,sc0,sc1]
 refine jJ (vs:=[]) (caps:=[]) Tryz.call87 X X BJ.calls ?_
 rintro _ w3 ⟨b2,es,cl,ks,rfl,hge,hb,hk,hok,hE3⟩
 refine ⟨_,X,?_⟩
 refine lY ?_
 try simp only [sc0,sc1]
 have HS3:=HS2.step hE3
 obtain ⟨v,hlk⟩:=P5 Xg a0 hk CL Tryz.zeroValue126 hb
 rw [hok a0] at hlk
 refine nU [.tuple #[v, .bool (okI a0)], .tuple #[v, .bool (okI a0)],v, .bool (okI a0),v, .bool (okI a0)] ?_ ?_
 ·simp only [patch,sc0,sc1]
  exact bF (bG (v:=pz a0) X X X X (aT (n:=2) (vs:=[vI a0.aU,vB a0.aJ]) X Ca (HS3.look 0 X) Bk X X)) (bF (bG (v:= .tuple #[v, .bool (okI a0)]) X X X X (Nc X X hlk))
   (bF (bG rfl rfl rfl rfl (aO rfl)) (bF (bG rfl rfl rfl rfl (gV rfl rfl)) (bF (bG rfl rfl rfl rfl (gV rfl rfl)) (bF (bG rfl rfl rfl rfl (aG rfl)) (bF (bG rfl rfl rfl rfl (aG rfl)) iH))))))
 simp only [patch,sc0,sc1]
 refine ay<|Al<|Ao<|rs (vB (okI a0)) (aO X)<|rs (vB (!(okI a0))) (mZ X) ?_
 try simp only [sc0,sc1]
 refine aB<|ay<|Av (t:= !(okI a0)) X (fun c1=>?_) (fun c1=>?_)
 ·refine Al<|Ao<|rs (vI 10) (aG X) ?_
  try simp only [sc0,sc1]
  refine aB<|ay<|AT<|bP<|Ay (bD X (bK X)) X ?_
  have:okI a0=false:=by simpa using c1
  rw [this]
  exact ⟨X,HS3.toE⟩
 ·refine AN<|ay<|Al<|Ao<|rs (vI 0) (aG X) ?_
  try simp only [sc0,sc1]
  refine aB<|ay<|AT<|Ay (bD X (bK X)) X ?_
  have:okI a0=true:=by simpa using c1
  rw [this]
  exact ⟨X,HS3.toE⟩
end Go.Proofs.YtfjppgobidjndaaGreatDoor
namespace Go.Proofs.YtfjppgobidjndaaGreatDoor
open Go.RowKit Go.M
def jl.l0 (k:Nat) (a0:aZ) (a1:Int):Nat→Int→(List (ByteArray×Bool))→Option ((Bool)⊕((List (ByteArray×Bool))))
 |0,_,_=>none
 |m+1,aC,dG=>if (decide (aC<(a0.ak.length:Int)))=true then (if 0≤aC∧aC<a0.ak.length then ((jF.f k ((rd aj a0.ak aC).aF)).bind fun v4=>(if ((!v4)||((bM strEq dG ((rd aj a0.ak aC).aF)).getD false))=true then (some (.inl false)) else (if (((a0.aA==5)&&((((rd aj a0.ak aC).vType !=0)||(decide ((rd aj a0.ak aC).vAt<(-2147483648))))||(decide ((rd aj a0.ak aC).vAt>2147483647))))||((a0.aA==4)&&((decide ((rd aj a0.ak aC).vType<0))||(decide ((rd aj a0.ak aC).vType≥a1)))))=true then (some (.inl false)) else (jl.l0 k a0 a1 m (IntKind.wrap .i64 (aC+1)) (iG strEq dG ((rd aj a0.ak aC).aF) true))))) else none) else (some (.inr dG))
def jl.f (k:Nat) (a0:aZ) (a1:Int):Option (Bool):=(nV.f).bind fun v1=>(((if (!((bM ieq v1 a0.aA).isSome))=true then (some (!((bM ieq v1 a0.aA).isSome))) else ((if (true&&(((bM ieq v1 a0.aA).getD aI).ny==true))=true then jF.f k a0.aF else some false).bind fun v2=>(if (((bM ieq v1 a0.aA).getD aI).ny&&(!v2))=true then (some (((bM ieq v1 a0.aA).getD aI).ny&&(!v2))) else (some ((!(((bM ieq v1 a0.aA).getD aI).ny))&&(!(strEq a0.aF ByteArray.empty))))))):Option (Bool)).bind fun xx1=>(if xx1=true then (some false) else ((if (true&&(((bM ieq v1 a0.aA).getD aI).um==true))=true then rP.f a0.aY else some 0).bind fun v3=>(((if (((bM ieq v1 a0.aA).getD aI).um&&(v3 !=0))=true then (some (((bM ieq v1 a0.aA).getD aI).um&&(v3 !=0))) else (some ((!(((bM ieq v1 a0.aA).getD aI).um))&&(!((a0.aY.aU==0)&&((a0.aY.aJ==false)&&true)))))):Option (Bool)).bind fun xx2=>(if xx2=true then (some false) else (((if (((bM ieq v1 a0.aA).getD aI).mD&&((decide (a0.bY<0))||(decide (a0.bY≥a1))))=true then (some (((bM ieq v1 a0.aA).getD aI).mD&&((decide (a0.bY<0))||(decide (a0.bY≥a1))))) else (some ((!(((bM ieq v1 a0.aA).getD aI).mD))&&(a0.bY !=0)))):Option (Bool)).bind fun xx3=>(if xx3=true then (some false) else (((if (((bM ieq v1 a0.aA).getD aI).vn&&((decide (a0.vN<1))||(decide (a0.vN>512))))=true then (some (((bM ieq v1 a0.aA).getD aI).vn&&((decide (a0.vN<1))||(decide (a0.vN>512))))) else (some ((!(((bM ieq v1 a0.aA).getD aI).vn))&&(a0.vN !=0)))):Option (Bool)).bind fun xx4=>(if xx4=true then (some false) else (((if (((bM ieq v1 a0.aA).getD aI).kN !=(decide ((a0.ak.length:Int)>0)))=true then (some (((bM ieq v1 a0.aA).getD aI).kN !=(decide ((a0.ak.length:Int)>0)))) else (some (decide ((a0.ak.length:Int)>32)))):Option (Bool)).bind fun xx5=>(if xx5=true then (some false) else ((jl.l0 k a0 a1 k 0 ([]:List (ByteArray×Bool))).bind fun xx6=>(match xx6 with| .inl r=>some r| .inr s1=>some true)))))))))))))
theorem jl.calls (k:Nat) (a0:aZ) (a1:Int) (kG:Option Addr) (kH:Nat) {h0:View} {w0:World} (hv:lS h0 w0) (sV:Rd dw h0 kG a0.ak) (wL:a0.ak.length≤kH) {r:Bool} (H:jl.f k a0 a1=some r):Calls Tryz.prog 46 #[Value.agg #[vI a0.aA,vS a0.aF,vI a0.aY.aU,vB a0.aY.aJ,vI a0.bY,vI a0.vN,vL kG a0.ak.length kH],vI a1] w0 (fun e w1=>e= .returned (vB r)∧Ext w0 w1):=by
 unfold jl.f at H
 have HS:St [] h0 w0 h0 [] w0:=St.init hv
 go_enter Tryz.func46,Tryz.ntmps46
 refine Al<|Ao<|dF X X (eF (cs:=#[vI a0.aA,vS a0.aF,vI a0.aY.aU,vB a0.aY.aJ,vI a0.bY,vI a0.vN,vL kG a0.ak.length kH]) X X) ?_
 rintro w1 _ hE1 ⟨b1,rfl,ge1,hb1⟩
 have HS1:=HS.new hE1 ge1 hb1
 refine rs (vB false) (aG X) ?_
 try simp only [sc0,sc1]
 refine aB<|ay<|Al ?_
 obtain ⟨v1,H1,H⟩:=bn H
 refine Em [.ex (xB w1 (vI) kP v1), .eq (vP b1 0), .eq (vI a0.aA), .eq (Value.tuple #[Value.agg #[vB (((bM ieq v1 a0.aA).getD aI).ny),vB (((bM ieq v1 a0.aA).getD aI).um),vB (((bM ieq v1 a0.aA).getD aI).mD),vB (((bM ieq v1 a0.aA).getD aI).vn),vB (((bM ieq v1 a0.aA).getD aI).kN)],vB ((bM ieq v1 a0.aA).isSome)]), .eq (Value.tuple #[Value.agg #[vB (((bM ieq v1 a0.aA).getD aI).ny),vB (((bM ieq v1 a0.aA).getD aI).um),vB (((bM ieq v1 a0.aA).getD aI).mD),vB (((bM ieq v1 a0.aA).getD aI).vn),vB (((bM ieq v1 a0.aA).getD aI).kN)],vB ((bM ieq v1 a0.aA).isSome)]), .eq (Value.agg #[vB (((bM ieq v1 a0.aA).getD aI).ny),vB (((bM ieq v1 a0.aA).getD aI).um),vB (((bM ieq v1 a0.aA).getD aI).mD),vB (((bM ieq v1 a0.aA).getD aI).vn),vB (((bM ieq v1 a0.aA).getD aI).kN)]), .eq (vB ((bM ieq v1 a0.aA).isSome)), .ex (Ba w1 #[vB false,vB false,vB false,vB false,vB false] 101)] [11,12,13,14,10,15,16,5] 6 16 (vB ((bM ieq v1 a0.aA).isSome)) _ _ rM (by kernel_rfl) X X X X X (vV xB.stable (aP (aP (aP (aP (aP (aP (vV Ba.stable iJ)))))))) ⟨aX X (fun a' w' hE hk=>by exact iQ CM X (Ej hE (nV.calls (HS1.step hE).sees H1)) X),aX X (fun a' w' hE hk=>by exact aW (aH (n:=1) (o':=0) (show _=vP b1 0 from hk 2 X) An X As (by decide) X)),aX X (fun a' w' hE hk=>by exact aW (aN (show _=vP b1 0 from hk 12 X) AC ((HS1.step hE).look 0 X) X)),aX X (fun a' w' hE hk=>by obtain ⟨_,_,_,e11,_,XF,SX⟩:=hk 11 X;have HSd:=HS1.step hE;exact aW (Md (og Bn) (k:=a0.aA) (m:=v1) (ev:=kP) aI e11 (show _=vI a0.aA from hk 13 X) BW B1 XF SX)),aX X (fun a' w' hE hk=>by exact aW (aO (show _=Value.tuple #[Value.agg #[vB (((bM ieq v1 a0.aA).getD aI).ny),vB (((bM ieq v1 a0.aA).getD aI).um),vB (((bM ieq v1 a0.aA).getD aI).mD),vB (((bM ieq v1 a0.aA).getD aI).vn),vB (((bM ieq v1 a0.aA).getD aI).kN)],vB ((bM ieq v1 a0.aA).isSome)] from hk 14 X))),aX X (fun a' w' hE hk=>by exact aW (gV (show _=Value.tuple #[Value.agg #[vB (((bM ieq v1 a0.aA).getD aI).ny),vB (((bM ieq v1 a0.aA).getD aI).um),vB (((bM ieq v1 a0.aA).getD aI).mD),vB (((bM ieq v1 a0.aA).getD aI).vn),vB (((bM ieq v1 a0.aA).getD aI).kN)],vB ((bM ieq v1 a0.aA).isSome)] from hk 10 X) X)),aX X (fun a' w' hE hk=>by exact aW (gV (show _=Value.tuple #[Value.agg #[vB (((bM ieq v1 a0.aA).getD aI).ny),vB (((bM ieq v1 a0.aA).getD aI).um),vB (((bM ieq v1 a0.aA).getD aI).mD),vB (((bM ieq v1 a0.aA).getD aI).vn),vB (((bM ieq v1 a0.aA).getD aI).kN)],vB ((bM ieq v1 a0.aA).isSome)] from hk 10 X) X)),aX X (fun a' w' hE hk=>(Jl hE (cs:=#[vB false,vB false,vB false,vB false,vB false]) B1 X)),trivial⟩ ?_
 intro w2 hE2
 simp only [List.zip_cons_cons,List.zip_nil_left,List.zip_nil_right,vO,sc0,sc1,List.length_cons,List.length_nil,List.drop_succ_cons,List.drop_zero,Nat.zero_add,Nat.reduceAdd]
 rintro _ ⟨b3,es1,cl1,rfl,ge3,hb3,ho1⟩
 rintro _ ⟨b2,rfl,ge2,hb2⟩
 have HS2:=HS1.two hE2 ge3 hb3 ge2 hb2 (fun e=>by subst e;rw [hb3] at hb2;cases hb2)
 refine Me (i:=0) (cs:=[vB false,vB false,vB false,vB false,vB false]) (cs':=[vB (((bM ieq v1 a0.aA).getD aI).ny),vB (((bM ieq v1 a0.aA).getD aI).um),vB (((bM ieq v1 a0.aA).getD aI).mD),vB (((bM ieq v1 a0.aA).getD aI).vn),vB (((bM ieq v1 a0.aA).getD aI).kN)]) (vs:=[vB (((bM ieq v1 a0.aA).getD aI).ny),vB (((bM ieq v1 a0.aA).getD aI).um),vB (((bM ieq v1 a0.aA).getD aI).mD),vB (((bM ieq v1 a0.aA).getD aI).vn),vB (((bM ieq v1 a0.aA).getD aI).kN)]) (bs':=[(some b2, .cells #[vB (((bM ieq v1 a0.aA).getD aI).ny),vB (((bM ieq v1 a0.aA).getD aI).um),vB (((bM ieq v1 a0.aA).getD aI).mD),vB (((bM ieq v1 a0.aA).getD aI).vn),vB (((bM ieq v1 a0.aA).getD aI).kN)] 101 (0,0)),(some b3, .map es1 cl1),(some b1, .cells #[vI a0.aA,vS a0.aF,vI a0.aY.aU,vB a0.aY.aJ,vI a0.bY,vI a0.vN,vL kG a0.ak.length kH] 58 (0,0))]) (fun _=>rfl) (fun _=>rfl) Tryz.sizeOf101 X X (by decide) X HS2 X (Ax X) X X X (Ax X) (fun w2 HSl u=>(gV X X)) X ?_
 intro w3 HS3
 refine rs (vB ((bM ieq v1 a0.aA).isSome)) (aG X) ?_
 try simp only [sc0,sc1]
 refine aB<|ay<|Al<|wp_block<|Al<|Al<|Ao<|rs (vB ((bM ieq v1 a0.aA).isSome)) (aO X)<|rs (vB (!((bM ieq v1 a0.aA).isSome))) (mZ X)<|rs (vB (!((bM ieq v1 a0.aA).isSome))) (aG X) ?_
 try simp only [sc0,sc1]
 refine aB<|ay ?_
 obtain ⟨xx1,H,G1⟩:=bn H
 refine kT [17,20,21,22,23,24,25,26,27,28,29,30,31,32,33,34,35] (fun us w'=>Fit us (fun uj1=>[vB xx1,(uj1 1),(uj1 2),(uj1 3),(uj1 4),(uj1 5),(uj1 6),(uj1 7),(uj1 8),(uj1 9),(uj1 10),(uj1 11),(uj1 12),(uj1 13),(uj1 14),(uj1 15),(uj1 16)])∧St [] h0 w0 h0 [(some b2, .cells #[vB (((bM ieq v1 a0.aA).getD aI).ny),vB (((bM ieq v1 a0.aA).getD aI).um),vB (((bM ieq v1 a0.aA).getD aI).mD),vB (((bM ieq v1 a0.aA).getD aI).vn),vB (((bM ieq v1 a0.aA).getD aI).kN)] 101 (0,0)),(some b3, .map es1 cl1),(some b1, .cells #[vI a0.aA,vS a0.aF,vI a0.aY.aU,vB a0.aY.aJ,vI a0.bY,vI a0.vN,vL kG a0.ak.length kH] 58 (0,0))] w') ?_ ?_
 ·refine Av (t:=(!((bM ieq v1 a0.aA).isSome))) X (fun c1=>?_) (fun c1=>?_)
  ·replace H:=bU H c1
   refine AN ?_
   obtain rfl:=Ab H
   refine oH X ⟨(fit X),HS3⟩
  ·replace H:=cO H (nt c1)
   refine Al<|Ao<|rs (vP b2 0) (aH (n:=1) (o':=0) X Bt X Bi (by decide) X)<|rs (vB (((bM ieq v1 a0.aA).getD aI).ny)) (aN X By (HS3.look 0 X) X)<|rs (vB (((bM ieq v1 a0.aA).getD aI).ny)) (aO X)<|rgs (((bM ieq v1 a0.aA).getD aI).ny) true (vP b1 1) X X X X (fun hg=>(aH (n:=1) (o':=1) X An X AW (by decide) X))<|aK (by simp only [sc0,sc1];rfl) ?_
   refine rgs (((bM ieq v1 a0.aA).getD aI).ny) true (vS a0.aF) X X X X (fun hg=>(aN (gvt (vP b1 1) hg X) Be (HS3.look 2 X) X)) ?_
   obtain ⟨v2,H2,H⟩:=bn H
   refine sJ (b:=((bM ieq v1 a0.aA).getD aI).ny) (c:=true) (v:=vB v2) X X X X (fun hg=>(bC Tryz.call75 X (Jk (gvt (vS a0.aF) hg X)) (jF.calls k a0.aF HS3.sees (bU H2 hg)))) ?_
   intro w4 hE3
   have HS4:=HS3.step hE3
   refine rgs (((bM ieq v1 a0.aA).getD aI).ny) true (vB (!v2)) X X X X (fun hg=>(mZ (gvt (vB v2) hg X)))<|rs (vB (((bM ieq v1 a0.aA).getD aI).ny&&(!v2))) (dL X (fun hp=>(gvt (vB (!v2)) (gQ X hp) X)) X)<|aK (by simp only [sc0,sc1];rfl) ?_
   refine rs (vB (((bM ieq v1 a0.aA).getD aI).ny&&(!v2))) (aG X) ?_
   try simp only [sc0,sc1]
   refine aB<|ay<|Av (t:=(((bM ieq v1 a0.aA).getD aI).ny&&(!v2))) X (fun c2=>?_) (fun c2=>?_)
   ·replace H:=bU H c2
    refine AN ?_
    obtain rfl:=Ab H
    refine oH X ⟨(fit X),HS4⟩
   ·replace H:=cO H (nt c2)
    refine Ao<|rs (vP b2 0) (aH (n:=1) (o':=0) X Bt X Bi (by decide) X)<|rs (vB (((bM ieq v1 a0.aA).getD aI).ny)) (aN X By (HS4.look 0 X) X)<|rs (vB (!(((bM ieq v1 a0.aA).getD aI).ny))) (mZ X)<|rs (vB (!(((bM ieq v1 a0.aA).getD aI).ny))) (aO X)<|aK (by simp only [sc0,sc1];rfl) ?_
    refine rgs (!(((bM ieq v1 a0.aA).getD aI).ny)) true (vP b1 1) X X X X (fun hg=>(aH (n:=1) (o':=1) X An X AW (by decide) X))<|rgs (!(((bM ieq v1 a0.aA).getD aI).ny)) true (vS a0.aF) X X X X (fun hg=>(aN (gvt (vP b1 1) hg X) Be (HS4.look 2 X) X))<|rgs (!(((bM ieq v1 a0.aA).getD aI).ny)) true (vB (!(strEq a0.aF ByteArray.empty))) X X X X (fun hg=>(ql (gvt (vS a0.aF) hg X) X))<|rs (vB ((!(((bM ieq v1 a0.aA).getD aI).ny))&&(!(strEq a0.aF ByteArray.empty)))) (dL X (fun hp=>(gvt (vB (!(strEq a0.aF ByteArray.empty))) (gQ X hp) X)) X)<|aK (by simp only [sc0,sc1];rfl) ?_
    refine rs (vB ((!(((bM ieq v1 a0.aA).getD aI).ny))&&(!(strEq a0.aF ByteArray.empty)))) (aG X) ?_
    try simp only [sc0,sc1]
    refine aB ?_
    obtain rfl:=Ab H
    refine oH X ⟨(fit X),HS4⟩
 ·rintro us w5 ⟨AB,HS5⟩
  obtain ⟨uj1,rfl⟩:=unj AB
  replace H:=G1
  clear G1
  try simp only [patch,sc0,sc1]
  refine Av (t:=xx1) X (fun c3=>?_) (fun c3=>?_)
  ·replace H:=bU H c3
   refine Al<|Ao<|rs (vB false) (aG X) ?_
   try simp only [sc0,sc1]
   refine aB<|ay<|AT<|fA<|bP ?_
   obtain rfl:=Ab H
   exact Ay (bD X (bK X)) X<|⟨X,HS5.toE⟩
  ·replace H:=cO H (nt c3)
   refine Al<|Al<|Ao<|rs (vP b2 1) (aH (n:=1) (o':=1) X Bt X Bi (by decide) X)<|rs (vB (((bM ieq v1 a0.aA).getD aI).um)) (aN X By (HS5.look 0 X) X)<|rs (vB (((bM ieq v1 a0.aA).getD aI).um)) (aO X)<|rgs (((bM ieq v1 a0.aA).getD aI).um) true (vP b1 2) X X X X (fun hg=>(aH (n:=2) (o':=2) X An X Bk (by decide) X))<|aK (by simp only [sc0,sc1];rfl) ?_
   refine rgs (((bM ieq v1 a0.aA).getD aI).um) true (Value.agg #[vI a0.aY.aU,vB a0.aY.aJ]) X X X X (fun hg=>(aT (n:=2) (vs:=[vI a0.aY.aU,vB a0.aY.aJ]) (gvt (vP b1 2) hg X) Ca (HS5.look 2 X) Bk X X)) ?_
   obtain ⟨v3,H3,H⟩:=bn H
   refine sJ (b:=((bM ieq v1 a0.aA).getD aI).um) (c:=true) (v:=vI v3) X X X X (fun hg=>(bC Tryz.call76 X (Jk (gvt (Value.agg #[vI a0.aY.aU,vB a0.aY.aJ]) hg X)) (rP.calls a0.aY HS5.sees (bU H3 hg)))) ?_
   intro w6 hE4
   have HS6:=HS5.step hE4
   refine rgs (((bM ieq v1 a0.aA).getD aI).um) true (vB (v3 !=0)) X X X X (fun hg=>(bW (gvt (vI v3) hg X) X X))<|rs (vB (((bM ieq v1 a0.aA).getD aI).um&&(v3 !=0))) (dL X (fun hp=>(gvt (vB (v3 !=0)) (gQ X hp) X)) X)<|aK (by simp only [sc0,sc1];rfl) ?_
   refine rs (vB (((bM ieq v1 a0.aA).getD aI).um&&(v3 !=0))) (aG X) ?_
   try simp only [sc0,sc1]
   refine aB<|ay ?_
   obtain ⟨xx2,H,G2⟩:=bn H
   refine kT [36,45,46,47,48,49,50,51,52,53] (fun us w'=>Fit us (fun uj2=>[vB xx2,(uj2 1),(uj2 2),(uj2 3),(uj2 4),(uj2 5),(uj2 6),(uj2 7),(uj2 8),(uj2 9)])∧St [] h0 w0 h0 [(some b2, .cells #[vB (((bM ieq v1 a0.aA).getD aI).ny),vB (((bM ieq v1 a0.aA).getD aI).um),vB (((bM ieq v1 a0.aA).getD aI).mD),vB (((bM ieq v1 a0.aA).getD aI).vn),vB (((bM ieq v1 a0.aA).getD aI).kN)] 101 (0,0)),(some b3, .map es1 cl1),(some b1, .cells #[vI a0.aA,vS a0.aF,vI a0.aY.aU,vB a0.aY.aJ,vI a0.bY,vI a0.vN,vL kG a0.ak.length kH] 58 (0,0))] w') ?_ ?_
   ·refine Av (t:=(((bM ieq v1 a0.aA).getD aI).um&&(v3 !=0))) X (fun c4=>?_) (fun c4=>?_)
    ·replace H:=bU H c4
     refine AN ?_
     obtain rfl:=Ab H
     refine oH X ⟨(fit X),HS6⟩
    ·replace H:=cO H (nt c4)
     refine Ao<|rs (vP b2 1) (aH (n:=1) (o':=1) X Bt X Bi (by decide) X)<|rs (vB (((bM ieq v1 a0.aA).getD aI).um)) (aN X By (HS6.look 0 X) X)<|rs (vB (!(((bM ieq v1 a0.aA).getD aI).um))) (mZ X)<|rs (vB (!(((bM ieq v1 a0.aA).getD aI).um))) (aO X)<|aK (by simp only [sc0,sc1];rfl) ?_
     refine rgs (!(((bM ieq v1 a0.aA).getD aI).um)) true (vP b1 2) X X X X (fun hg=>(aH (n:=2) (o':=2) X An X Bk (by decide) X))<|rgs (!(((bM ieq v1 a0.aA).getD aI).um)) true (Value.agg #[vI a0.aY.aU,vB a0.aY.aJ]) X X X X (fun hg=>(aT (n:=2) (vs:=[vI a0.aY.aU,vB a0.aY.aJ]) (gvt (vP b1 2) hg X) Ca (HS6.look 2 X) Bk X X))<|rgs (!(((bM ieq v1 a0.aA).getD aI).um)) true (Value.agg #[vI 0,vB false]) X X X X (fun hg=>(qj (cs:=[vI 0,vB false]) B2 A_ (pl:=#[(0,1),(1,1)]) (fun w=>by simp [Tryz.sizeOf3,Tryz.sizeOf4]) X)) ?_
     refine rgs (!(((bM ieq v1 a0.aA).getD aI).um)) true (vB (!((a0.aY.aU==0)&&((a0.aY.aJ==false)&&true)))) X X X X (fun hg=>(BO (gvt (Value.agg #[vI a0.aY.aU,vB a0.aY.aJ]) hg X) (gvt (Value.agg #[vI 0,vB false]) hg X) Tryz.eqGuardType55 (Az Tryz.stoodInHeld55 Ch (pJ (by decide) (jR AC X) (jR AC X) (zf B9) (pJ (by decide) (jR By X) (jR By X) (zH Cg) Aw)))))<|aK (by simp only [sc0,sc1];rfl) ?_
     refine rs (vB ((!(((bM ieq v1 a0.aA).getD aI).um))&&(!((a0.aY.aU==0)&&((a0.aY.aJ==false)&&true))))) (dL X (fun hp=>(gvt (vB (!((a0.aY.aU==0)&&((a0.aY.aJ==false)&&true)))) (gQ X hp) X)) X)<|rs (vB ((!(((bM ieq v1 a0.aA).getD aI).um))&&(!((a0.aY.aU==0)&&((a0.aY.aJ==false)&&true))))) (aG X) ?_
     try simp only [sc0,sc1]
     refine aB ?_
     obtain rfl:=Ab H
     refine oH X ⟨(fit X),HS6⟩
   ·rintro us w7 ⟨UO,HS7⟩
    obtain ⟨uj2,rfl⟩:=unj UO
    replace H:=G2
    clear G2
    try simp only [patch,sc0,sc1]
    refine Av (t:=xx2) X (fun c5=>?_) (fun c5=>?_)
    ·replace H:=bU H c5
     refine Al<|Ao<|rs (vB false) (aG X) ?_
     try simp only [sc0,sc1]
     refine aB<|ay<|AT<|fA<|bP ?_
     obtain rfl:=Ab H
     exact Ay (bD X (bK X)) X<|⟨X,HS7.toE⟩
    ·replace H:=cO H (nt c5)
     refine Al<|Al<|Ao<|rs (vP b2 2) (aH (n:=1) (o':=2) X Bt X Bi (by decide) X)<|rs (vB (((bM ieq v1 a0.aA).getD aI).mD)) (aN X By (HS7.look 0 X) X)<|rs (vB (((bM ieq v1 a0.aA).getD aI).mD)) (aO X)<|rgs (((bM ieq v1 a0.aA).getD aI).mD) true (vP b1 4) X X X X (fun hg=>(aH (n:=1) (o':=4) X An X As (by decide) X))<|aK (by simp only [sc0,sc1];rfl) ?_
     refine rgs (((bM ieq v1 a0.aA).getD aI).mD) true (vI a0.bY) X X X X (fun hg=>(aN (gvt (vP b1 4) hg X) AC (HS7.look 2 X) X))<|rgs (((bM ieq v1 a0.aA).getD aI).mD) true (vB (decide (a0.bY<0))) X X X X (fun hg=>(bW (gvt (vI a0.bY) hg X) X X))<|rgs (((bM ieq v1 a0.aA).getD aI).mD) true (vB (decide (a0.bY<0))) X X X X (fun hg=>(aO (gvt (vB (decide (a0.bY<0))) hg X)))<|rgs (decide (a0.bY<0)) (true&&(((bM ieq v1 a0.aA).getD aI).mD==true)) (vP b1 4) X X X X (fun hg=>(aH (n:=1) (o':=4) X An X As (by decide) X))<|aK (by simp only [sc0,sc1];rfl) ?_
     refine rgs (decide (a0.bY<0)) (true&&(((bM ieq v1 a0.aA).getD aI).mD==true)) (vI a0.bY) X X X X (fun hg=>(aN (gvt (vP b1 4) hg X) AC (HS7.look 2 X) X))<|rgs (decide (a0.bY<0)) (true&&(((bM ieq v1 a0.aA).getD aI).mD==true)) (vI a1) X X X X (fun hg=>(aO X))<|rgs (decide (a0.bY<0)) (true&&(((bM ieq v1 a0.aA).getD aI).mD==true)) (vB (decide (a0.bY≥a1))) X X X X (fun hg=>(bW (gvt (vI a0.bY) hg X) (gvt (vI a1) hg X) X))<|rgs (((bM ieq v1 a0.aA).getD aI).mD) true (vB ((decide (a0.bY<0))||(decide (a0.bY≥a1)))) X X X X (fun hg=>(dQ (gvt (vB (decide (a0.bY<0))) hg X) X (fun hp=>(gvt (vB (decide (a0.bY≥a1))) (gQ hg hp) X))))<|aK (by simp only [sc0,sc1];rfl) ?_
     refine rs (vB (((bM ieq v1 a0.aA).getD aI).mD&&((decide (a0.bY<0))||(decide (a0.bY≥a1))))) (dL X (fun hp=>(gvt (vB ((decide (a0.bY<0))||(decide (a0.bY≥a1)))) (gQ X hp) X)) X)<|rs (vB (((bM ieq v1 a0.aA).getD aI).mD&&((decide (a0.bY<0))||(decide (a0.bY≥a1))))) (aG X) ?_
     try simp only [sc0,sc1]
     refine aB<|ay ?_
     obtain ⟨xx3,H,G3⟩:=bn H
     refine kT [54,68,69,70,71,72,73,74,75] (fun us w'=>Fit us (fun uj3=>[vB xx3,(uj3 1),(uj3 2),(uj3 3),(uj3 4),(uj3 5),(uj3 6),(uj3 7),(uj3 8)])∧St [] h0 w0 h0 [(some b2, .cells #[vB (((bM ieq v1 a0.aA).getD aI).ny),vB (((bM ieq v1 a0.aA).getD aI).um),vB (((bM ieq v1 a0.aA).getD aI).mD),vB (((bM ieq v1 a0.aA).getD aI).vn),vB (((bM ieq v1 a0.aA).getD aI).kN)] 101 (0,0)),(some b3, .map es1 cl1),(some b1, .cells #[vI a0.aA,vS a0.aF,vI a0.aY.aU,vB a0.aY.aJ,vI a0.bY,vI a0.vN,vL kG a0.ak.length kH] 58 (0,0))] w') ?_ ?_
     ·refine Av (t:=(((bM ieq v1 a0.aA).getD aI).mD&&((decide (a0.bY<0))||(decide (a0.bY≥a1))))) X (fun c6=>?_) (fun c6=>?_)
      ·replace H:=bU H c6
       refine AN ?_
       obtain rfl:=Ab H
       refine oH X ⟨(fit X),HS7⟩
      ·replace H:=cO H (nt c6)
       refine Ao<|rs (vP b2 2) (aH (n:=1) (o':=2) X Bt X Bi (by decide) X)<|rs (vB (((bM ieq v1 a0.aA).getD aI).mD)) (aN X By (HS7.look 0 X) X)<|rs (vB (!(((bM ieq v1 a0.aA).getD aI).mD))) (mZ X)<|rs (vB (!(((bM ieq v1 a0.aA).getD aI).mD))) (aO X)<|aK (by simp only [sc0,sc1];rfl) ?_
       refine rgs (!(((bM ieq v1 a0.aA).getD aI).mD)) true (vP b1 4) X X X X (fun hg=>(aH (n:=1) (o':=4) X An X As (by decide) X))<|rgs (!(((bM ieq v1 a0.aA).getD aI).mD)) true (vI a0.bY) X X X X (fun hg=>(aN (gvt (vP b1 4) hg X) AC (HS7.look 2 X) X))<|rgs (!(((bM ieq v1 a0.aA).getD aI).mD)) true (vB (a0.bY !=0)) X X X X (fun hg=>(bW (gvt (vI a0.bY) hg X) X X))<|rs (vB ((!(((bM ieq v1 a0.aA).getD aI).mD))&&(a0.bY !=0))) (dL X (fun hp=>(gvt (vB (a0.bY !=0)) (gQ X hp) X)) X)<|aK (by simp only [sc0,sc1];rfl) ?_
       refine rs (vB ((!(((bM ieq v1 a0.aA).getD aI).mD))&&(a0.bY !=0))) (aG X) ?_
       try simp only [sc0,sc1]
       refine aB ?_
       obtain rfl:=Ab H
       refine oH X ⟨(fit X),HS7⟩
     ·rintro us w8 ⟨XG,HS8⟩
      obtain ⟨uj3,rfl⟩:=unj XG
      replace H:=G3
      clear G3
      try simp only [patch,sc0,sc1]
      refine Av (t:=xx3) X (fun c7=>?_) (fun c7=>?_)
      ·replace H:=bU H c7
       refine Al<|Ao<|rs (vB false) (aG X) ?_
       try simp only [sc0,sc1]
       refine aB<|ay<|AT<|fA<|bP ?_
       obtain rfl:=Ab H
       exact Ay (bD X (bK X)) X<|⟨X,HS8.toE⟩
      ·replace H:=cO H (nt c7)
       refine Al<|Al<|Ao<|rs (vP b2 3) (aH (n:=1) (o':=3) X Bt X Bi (by decide) X)<|rs (vB (((bM ieq v1 a0.aA).getD aI).vn)) (aN X By (HS8.look 0 X) X)<|rs (vB (((bM ieq v1 a0.aA).getD aI).vn)) (aO X)<|rgs (((bM ieq v1 a0.aA).getD aI).vn) true (vP b1 5) X X X X (fun hg=>(aH (n:=1) (o':=5) X An X As (by decide) X))<|aK (by simp only [sc0,sc1];rfl) ?_
       refine rgs (((bM ieq v1 a0.aA).getD aI).vn) true (vI a0.vN) X X X X (fun hg=>(aN (gvt (vP b1 5) hg X) AC (HS8.look 2 X) X))<|rgs (((bM ieq v1 a0.aA).getD aI).vn) true (vB (decide (a0.vN<1))) X X X X (fun hg=>(bW (gvt (vI a0.vN) hg X) X X))<|rgs (((bM ieq v1 a0.aA).getD aI).vn) true (vB (decide (a0.vN<1))) X X X X (fun hg=>(aO (gvt (vB (decide (a0.vN<1))) hg X)))<|rgs (decide (a0.vN<1)) (true&&(((bM ieq v1 a0.aA).getD aI).vn==true)) (vP b1 5) X X X X (fun hg=>(aH (n:=1) (o':=5) X An X As (by decide) X))<|aK (by simp only [sc0,sc1];rfl) ?_
       refine rgs (decide (a0.vN<1)) (true&&(((bM ieq v1 a0.aA).getD aI).vn==true)) (vI a0.vN) X X X X (fun hg=>(aN (gvt (vP b1 5) hg X) AC (HS8.look 2 X) X))<|rgs (decide (a0.vN<1)) (true&&(((bM ieq v1 a0.aA).getD aI).vn==true)) (vB (decide (a0.vN>512))) X X X X (fun hg=>(bW (gvt (vI a0.vN) hg X) X X))<|rgs (((bM ieq v1 a0.aA).getD aI).vn) true (vB ((decide (a0.vN<1))||(decide (a0.vN>512)))) X X X X (fun hg=>(dQ (gvt (vB (decide (a0.vN<1))) hg X) X (fun hp=>(gvt (vB (decide (a0.vN>512))) (gQ hg hp) X))))<|rs (vB (((bM ieq v1 a0.aA).getD aI).vn&&((decide (a0.vN<1))||(decide (a0.vN>512))))) (dL X (fun hp=>(gvt (vB ((decide (a0.vN<1))||(decide (a0.vN>512)))) (gQ X hp) X)) X)<|aK (by simp only [sc0,sc1];rfl) ?_
       refine rs (vB (((bM ieq v1 a0.aA).getD aI).vn&&((decide (a0.vN<1))||(decide (a0.vN>512))))) (aG X) ?_
       try simp only [sc0,sc1]
       refine aB<|ay ?_
       obtain ⟨xx4,H,G4⟩:=bn H
       refine kT [76,89,90,91,92,93,94,95,96] (fun us w'=>Fit us (fun uj4=>[vB xx4,(uj4 1),(uj4 2),(uj4 3),(uj4 4),(uj4 5),(uj4 6),(uj4 7),(uj4 8)])∧St [] h0 w0 h0 [(some b2, .cells #[vB (((bM ieq v1 a0.aA).getD aI).ny),vB (((bM ieq v1 a0.aA).getD aI).um),vB (((bM ieq v1 a0.aA).getD aI).mD),vB (((bM ieq v1 a0.aA).getD aI).vn),vB (((bM ieq v1 a0.aA).getD aI).kN)] 101 (0,0)),(some b3, .map es1 cl1),(some b1, .cells #[vI a0.aA,vS a0.aF,vI a0.aY.aU,vB a0.aY.aJ,vI a0.bY,vI a0.vN,vL kG a0.ak.length kH] 58 (0,0))] w') ?_ ?_
       ·refine Av (t:=(((bM ieq v1 a0.aA).getD aI).vn&&((decide (a0.vN<1))||(decide (a0.vN>512))))) X (fun c8=>?_) (fun c8=>?_)
        ·replace H:=bU H c8
         refine AN ?_
         obtain rfl:=Ab H
         refine oH X ⟨(fit X),HS8⟩
        ·replace H:=cO H (nt c8)
         refine Ao<|rs (vP b2 3) (aH (n:=1) (o':=3) X Bt X Bi (by decide) X)<|rs (vB (((bM ieq v1 a0.aA).getD aI).vn)) (aN X By (HS8.look 0 X) X)<|rs (vB (!(((bM ieq v1 a0.aA).getD aI).vn))) (mZ X)<|rs (vB (!(((bM ieq v1 a0.aA).getD aI).vn))) (aO X)<|aK (by simp only [sc0,sc1];rfl) ?_
         refine rgs (!(((bM ieq v1 a0.aA).getD aI).vn)) true (vP b1 5) X X X X (fun hg=>(aH (n:=1) (o':=5) X An X As (by decide) X))<|rgs (!(((bM ieq v1 a0.aA).getD aI).vn)) true (vI a0.vN) X X X X (fun hg=>(aN (gvt (vP b1 5) hg X) AC (HS8.look 2 X) X))<|rgs (!(((bM ieq v1 a0.aA).getD aI).vn)) true (vB (a0.vN !=0)) X X X X (fun hg=>(bW (gvt (vI a0.vN) hg X) X X))<|rs (vB ((!(((bM ieq v1 a0.aA).getD aI).vn))&&(a0.vN !=0))) (dL X (fun hp=>(gvt (vB (a0.vN !=0)) (gQ X hp) X)) X)<|aK (by simp only [sc0,sc1];rfl) ?_
         refine rs (vB ((!(((bM ieq v1 a0.aA).getD aI).vn))&&(a0.vN !=0))) (aG X) ?_
         try simp only [sc0,sc1]
         refine aB ?_
         obtain rfl:=Ab H
         refine oH X ⟨(fit X),HS8⟩
       ·rintro us w9 ⟨XH,HS9⟩
        obtain ⟨uj4,rfl⟩:=unj XH
        replace H:=G4
        clear G4
        try simp only [patch,sc0,sc1]
        refine Av (t:=xx4) X (fun c9=>?_) (fun c9=>?_)
        ·replace H:=bU H c9
         refine Al<|Ao<|rs (vB false) (aG X) ?_
         try simp only [sc0,sc1]
         refine aB<|ay<|AT<|fA<|bP ?_
         obtain rfl:=Ab H
         exact Ay (bD X (bK X)) X<|⟨X,HS9.toE⟩
        ·replace H:=cO H (nt c9)
         refine Al<|Al<|Ao<|rs (vP b2 4) (aH (n:=1) (o':=4) X Bt X Bi (by decide) X)<|rs (vB (((bM ieq v1 a0.aA).getD aI).kN)) (aN X By (HS9.look 0 X) X)<|rs (vP b1 6) (aH (n:=1) (o':=6) X An X A4 (by decide) X)<|rs (vL kG a0.ak.length kH) (aN X Bs (HS9.look 2 X) X)<|aK (by simp only [sc0,sc1];rfl) ?_
         refine rs (vI (a0.ak.length:Int)) (jD X AK)<|rs (vB (decide ((a0.ak.length:Int)>0))) (bW X X X)<|rs (vB (((bM ieq v1 a0.aA).getD aI).kN !=(decide ((a0.ak.length:Int)>0)))) (F7 X X CD)<|rs (vB (((bM ieq v1 a0.aA).getD aI).kN !=(decide ((a0.ak.length:Int)>0)))) (aG X) ?_
         try simp only [sc0,sc1]
         refine aB<|ay ?_
         obtain ⟨xx5,H,G5⟩:=bn H
         refine kT [97,105,106,107,108] (fun us w'=>Fit us (fun uj5=>[vB xx5,(uj5 1),(uj5 2),(uj5 3),(uj5 4)])∧St [] h0 w0 h0 [(some b2, .cells #[vB (((bM ieq v1 a0.aA).getD aI).ny),vB (((bM ieq v1 a0.aA).getD aI).um),vB (((bM ieq v1 a0.aA).getD aI).mD),vB (((bM ieq v1 a0.aA).getD aI).vn),vB (((bM ieq v1 a0.aA).getD aI).kN)] 101 (0,0)),(some b3, .map es1 cl1),(some b1, .cells #[vI a0.aA,vS a0.aF,vI a0.aY.aU,vB a0.aY.aJ,vI a0.bY,vI a0.vN,vL kG a0.ak.length kH] 58 (0,0))] w') ?_ ?_
         ·refine Av (t:=(((bM ieq v1 a0.aA).getD aI).kN !=(decide ((a0.ak.length:Int)>0)))) X (fun c10=>?_) (fun c10=>?_)
          ·replace H:=bU H c10
           refine AN ?_
           obtain rfl:=Ab H
           refine oH X ⟨(fit X),HS9⟩
          ·replace H:=cO H (nt c10)
           refine Ao<|rs (vP b1 6) (aH (n:=1) (o':=6) X An X A4 (by decide) X)<|rs (vL kG a0.ak.length kH) (aN X Bs (HS9.look 2 X) X)<|rs (vI (a0.ak.length:Int)) (jD X AK)<|rs (vB (decide ((a0.ak.length:Int)>32))) (bW X X X)<|aK (by simp only [sc0,sc1];rfl) ?_
           refine rs (vB (decide ((a0.ak.length:Int)>32))) (aG X) ?_
           try simp only [sc0,sc1]
           refine aB ?_
           obtain rfl:=Ab H
           refine oH X ⟨(fit X),HS9⟩
         ·rintro us w10 ⟨XI,kF⟩
          obtain ⟨uj5,rfl⟩:=unj XI
          replace H:=G5
          clear G5
          try simp only [patch,sc0,sc1]
          refine Av (t:=xx5) X (fun c11=>?_) (fun c11=>?_)
          ·replace H:=bU H c11
           refine Al<|Ao<|rs (vB false) (aG X) ?_
           try simp only [sc0,sc1]
           refine aB<|ay<|AT<|fA<|bP ?_
           obtain rfl:=Ab H
           exact Ay (bD X (bK X)) X<|⟨X,kF.toE⟩
          ·replace H:=cO H (nt c11)
           refine AN<|dD<|ay<|Al<|Ao<|uj kF ?_
           intro w11 b4 oC
           refine rs (Value.map (some b4)) (aG X) ?_
           try simp only [sc0,sc1]
           refine aB<|ay<|Al<|Al<|Ao<|rs (vP b1 6) (aH (n:=1) (o':=6) X An X A4 (by decide) X)<|rs (vL kG a0.ak.length kH) (aN X Bs (oC.look 3 X) X)<|rs (vI (a0.ak.length:Int)) (jD X AK)<|rs (vI 0) (aO X) ?_
           try simp only [sc0,sc1]
           refine aB<|ay ?_
           obtain ⟨xx6,H,G6⟩:=bn H
           refine jB [4,9,113,114,115,116,117,118,119,120,121,122,123,124,125,126,127,128,129,130,131,132,133,134,135,136,137,138,139,140,141,142,143,144,145,146,147,148,149,150,151,152,153,154,155,156,157,158,159,160,161,162,163,164] (fun m us w'=>∃(aC:Int),∃(dG:List (ByteArray×Bool)),∃(o8:Array MapEntry) (o9:Nat),Fit us (fun uy1=>[(uy1 0),(uy1 1),vI aC,(uy1 3),(uy1 4),(uy1 5),(uy1 6),(uy1 7),(uy1 8),(uy1 9),(uy1 10),(uy1 11),(uy1 12),(uy1 13),(uy1 14),(uy1 15),(uy1 16),(uy1 17),(uy1 18),(uy1 19),(uy1 20),(uy1 21),(uy1 22),(uy1 23),(uy1 24),(uy1 25),(uy1 26),(uy1 27),(uy1 28),(uy1 29),(uy1 30),(uy1 31),(uy1 32),(uy1 33),(uy1 34),(uy1 35),(uy1 36),(uy1 37),(uy1 38),(uy1 39),(uy1 40),(uy1 41),(uy1 42),(uy1 43),(uy1 44),(uy1 45),(uy1 46),(uy1 47),(uy1 48),(uy1 49),(uy1 50),(uy1 51),(uy1 52),(uy1 53)])∧jl.l0 k a0 a1 m aC dG=some xx6∧oG vS vB dG o8 o9∧St [] h0 w0 h0 [(some b4, .map o8 o9),(some b2, .cells #[vB (((bM ieq v1 a0.aA).getD aI).ny),vB (((bM ieq v1 a0.aA).getD aI).um),vB (((bM ieq v1 a0.aA).getD aI).mD),vB (((bM ieq v1 a0.aA).getD aI).vn),vB (((bM ieq v1 a0.aA).getD aI).kN)] 101 (0,0)),(some b3, .map es1 cl1),(some b1, .cells #[vI a0.aA,vS a0.aF,vI a0.aY.aU,vB a0.aY.aJ,vI a0.bY,vI a0.vN,vL kG a0.ak.length kH] 58 (0,0))] w') (fun us w'=>∃(s1:(List (ByteArray×Bool))),xx6= .inr s1∧∃(rD:Array MapEntry) (rE:Nat),Fit us (fun uo1=>[(uo1 0),(uo1 1),(uo1 2),(uo1 3),(uo1 4),(uo1 5),(uo1 6),(uo1 7),(uo1 8),(uo1 9),(uo1 10),(uo1 11),(uo1 12),(uo1 13),(uo1 14),(uo1 15),(uo1 16),(uo1 17),(uo1 18),(uo1 19),(uo1 20),(uo1 21),(uo1 22),(uo1 23),(uo1 24),(uo1 25),(uo1 26),(uo1 27),(uo1 28),(uo1 29),(uo1 30),(uo1 31),(uo1 32),(uo1 33),(uo1 34),(uo1 35),(uo1 36),(uo1 37),(uo1 38),(uo1 39),(uo1 40),(uo1 41),(uo1 42),(uo1 43),(uo1 44),(uo1 45),(uo1 46),(uo1 47),(uo1 48),(uo1 49),(uo1 50),(uo1 51),(uo1 52),(uo1 53)])∧oG vS vB s1 rD rE∧St [] h0 w0 h0 [(some b4, .map rD rE),(some b2, .cells #[vB (((bM ieq v1 a0.aA).getD aI).ny),vB (((bM ieq v1 a0.aA).getD aI).um),vB (((bM ieq v1 a0.aA).getD aI).mD),vB (((bM ieq v1 a0.aA).getD aI).vn),vB (((bM ieq v1 a0.aA).getD aI).kN)] 101 (0,0)),(some b3, .map es1 cl1),(some b1, .cells #[vI a0.aA,vS a0.aF,vI a0.aY.aU,vB a0.aY.aJ,vI a0.bY,vI a0.vN,vL kG a0.ak.length kH] 58 (0,0))] w') k ⟨0,([]:List (ByteArray×Bool)),#[],0,(fit X),H,(oG.nil),oC⟩ ?_ ?_
           ·rintro m us w12 ⟨aC,dG,o8,o9,nO,H,iE,mW⟩
            obtain ⟨uy1,rfl⟩:=unj nO
            cases m with
            |zero=>exact absurd H (by simp [jl.l0])
            |succ m=>
             rw [jl.l0] at H
             try simp only [patch,sc0,sc1]
             refine Al<|Ao<|rs (vB (decide (aC<(a0.ak.length:Int)))) (bW X X X) ?_
             try simp only [sc0,sc1]
             refine aB<|ay<|Al<|Av (t:=(decide (aC<(a0.ak.length:Int)))) X (fun c12=>?_) (fun c12=>?_)
             ·replace H:=bU H c12
              refine AN<|ay<|Al<|wp_block<|Al<|Ao ?_
              obtain ⟨hi1,H⟩:=dN H
              obtain ⟨ad1,e1,mJ⟩:=ji sV hi1.1 hi1.2
              refine rs (Value.pointer (some (Addr.add ad1 (aC.toNat*3)))) (dP (sz:=3) X e1 X hi1.1 hi1.2 AK AS)<|rs (Value.agg #[vS ((rd aj a0.ak aC).aF),vI ((rd aj a0.ak aC).vType),vI ((rd aj a0.ak aC).vAt)]) (gG X BC (mJ.sees mW.sees) AS)<|dF X X (dO (cs:=#[vS ByteArray.empty,vI 0,vI 0]) Bm X) ?_
              rintro w13 _ hE5 ⟨b5,rfl,ge4,hb4⟩
              have qx:=mW.new hE5 ge4 hb4
              refine gJ (i:=0) (cs:=[vS ByteArray.empty,vI 0,vI 0]) (cs':=[vS ((rd aj a0.ak aC).aF),vI ((rd aj a0.ak aC).vType),vI ((rd aj a0.ak aC).vAt)]) (vs:=[vS ((rd aj a0.ak aC).aF),vI ((rd aj a0.ak aC).vType),vI ((rd aj a0.ak aC).vAt)]) (bs':=[(some b5, .cells #[vS ((rd aj a0.ak aC).aF),vI ((rd aj a0.ak aC).vType),vI ((rd aj a0.ak aC).vAt)] 48 (0,0)),(some b4, .map o8 o9),(some b2, .cells #[vB (((bM ieq v1 a0.aA).getD aI).ny),vB (((bM ieq v1 a0.aA).getD aI).um),vB (((bM ieq v1 a0.aA).getD aI).mD),vB (((bM ieq v1 a0.aA).getD aI).vn),vB (((bM ieq v1 a0.aA).getD aI).kN)] 101 (0,0)),(some b3, .map es1 cl1),(some b1, .cells #[vI a0.aA,vS a0.aF,vI a0.aY.aU,vB a0.aY.aJ,vI a0.bY,vI a0.vN,vL kG a0.ak.length kH] 58 (0,0))]) X X AS X X (by decide) X qx X (Ax X) X X ?_
              intro w14 ru
              try simp only [sc0,sc1]
              refine aB<|ay<|Al<|Al<|Ao<|rs (vP b5 0) (aH (n:=1) (o':=0) X AJ X AW (by decide) X)<|rs (vS ((rd aj a0.ak aC).aF)) (aN X Be (ru.look 0 X) X) ?_
              obtain ⟨v4,H4,H⟩:=bn H
              refine run_eq (v:=vB v4) X X (bC Tryz.call75 X X (jF.calls k ((rd aj a0.ak aC).aF) ru.sees H4)) ?_
              intro w15 hE6
              have sW:=ru.step hE6
              refine rs (vB (!v4)) (mZ X)<|aK (by simp only [sc0,sc1];rfl) ?_
              refine rs (vB (!v4)) (aO X)<|rgs (!v4) true (Value.map (some b4)) X X X X (fun hg=>(aO X))<|rgs (!v4) true (vP b5 0) X X X X (fun hg=>(aH (n:=1) (o':=0) X AJ X AW (by decide) X))<|rgs (!v4) true (vS ((rd aj a0.ak aC).aF)) X X X X (fun hg=>(aN (gvt (vP b5 0) hg X) Be (sW.look 0 X) X))<|aK (by simp only [sc0,sc1];rfl) ?_
              refine rgs (!v4) true (vB ((bM strEq dG ((rd aj a0.ak aC).aF)).getD false)) X X X X (fun hg=>(yU (zh BB) (k:=((rd aj a0.ak aC).aF)) (m:=dG) (ev:=vB) false (gvt (Value.map (some b4)) hg X) (gvt (vS ((rd aj a0.ak aC).aF)) hg X) Cp B_ (sW.look 1 X) iE))<|rs (vB ((!v4)||((bM strEq dG ((rd aj a0.ak aC).aF)).getD false))) (dQ X X (fun hp=>(gvt (vB ((bM strEq dG ((rd aj a0.ak aC).aF)).getD false)) (gQ X hp) X))) ?_
              try simp only [sc0,sc1]
              refine aB<|ay<|Av (t:=((!v4)||((bM strEq dG ((rd aj a0.ak aC).aF)).getD false))) X (fun c13=>?_) (fun c13=>?_)
              ·replace H:=bU H c13
               refine Al<|Ao<|rs (vB false) (aG X) ?_
               try simp only [sc0,sc1]
               refine aB<|ay<|AT<|bP<|fA<|bP<|jm<|bP ?_
               obtain rfl:=Ab H
               obtain rfl:=Ab G6
               exact Ay (bD X (bK X)) X<|⟨X,sW.toE⟩
              ·replace H:=cO H (nt c13)
               refine AN<|ay<|Al<|Ao<|rs (Value.map (some b4)) (aO X)<|rs (vP b5 0) (aH (n:=1) (o':=0) X AJ X AW (by decide) X)<|rs (vS ((rd aj a0.ak aC).aF)) (aN X Be (sW.look 0 X) X)<|Hy (zh BB) (i:=1) (k:=((rd aj a0.ak aC).aF)) (v:=true) (ev:=vB) (m:=dG) (by first|exact .inl X|exact .inr X) X X X X X Cp sW X iE ?_
               intro w16 es2 cl2 sH ho2
               try simp only [sc0,sc1]
               refine aB<|ay<|Al<|Ao<|rs (vP b1 0) (aH (n:=1) (o':=0) X An X As (by decide) X)<|rs (vI a0.aA) (aN X AC (sH.look 4 X) X)<|rs (vB (a0.aA==5)) (bW X X X)<|rs (vB (a0.aA==5)) (aO X)<|aK (by simp only [sc0,sc1];rfl) ?_
               refine rgs (a0.aA==5) true (vP b5 1) X X X X (fun hg=>(aH (n:=1) (o':=1) X AJ X As (by decide) X))<|rgs (a0.aA==5) true (vI ((rd aj a0.ak aC).vType)) X X X X (fun hg=>(aN (gvt (vP b5 1) hg X) AC (sH.look 0 X) X))<|rgs (a0.aA==5) true (vB ((rd aj a0.ak aC).vType !=0)) X X X X (fun hg=>(bW (gvt (vI ((rd aj a0.ak aC).vType)) hg X) X X))<|rgs (a0.aA==5) true (vB ((rd aj a0.ak aC).vType !=0)) X X X X (fun hg=>(aO (gvt (vB ((rd aj a0.ak aC).vType !=0)) hg X)))<|aK (by simp only [sc0,sc1];rfl) ?_
               refine rgs ((rd aj a0.ak aC).vType !=0) (true&&((a0.aA==5)==true)) (vP b5 2) X X X X (fun hg=>(aH (n:=1) (o':=2) X AJ X As (by decide) X))<|rgs ((rd aj a0.ak aC).vType !=0) (true&&((a0.aA==5)==true)) (vI ((rd aj a0.ak aC).vAt)) X X X X (fun hg=>(aN (gvt (vP b5 2) hg X) AC (sH.look 0 X) X))<|rgs ((rd aj a0.ak aC).vType !=0) (true&&((a0.aA==5)==true)) (vB (decide ((rd aj a0.ak aC).vAt<(-2147483648)))) X X X X (fun hg=>(bW (gvt (vI ((rd aj a0.ak aC).vAt)) hg X) X X))<|rgs (a0.aA==5) true (vB (((rd aj a0.ak aC).vType !=0)||(decide ((rd aj a0.ak aC).vAt<(-2147483648))))) X X X X (fun hg=>(dQ (gvt (vB ((rd aj a0.ak aC).vType !=0)) hg X) X (fun hp=>(gvt (vB (decide ((rd aj a0.ak aC).vAt<(-2147483648)))) (gQ hg hp) X))))<|aK (by simp only [sc0,sc1];rfl) ?_
               refine rgs (a0.aA==5) true (vB (((rd aj a0.ak aC).vType !=0)||(decide ((rd aj a0.ak aC).vAt<(-2147483648))))) X X X X (fun hg=>(aO (gvt (vB (((rd aj a0.ak aC).vType !=0)||(decide ((rd aj a0.ak aC).vAt<(-2147483648))))) hg X)))<|rgs (((rd aj a0.ak aC).vType !=0)||(decide ((rd aj a0.ak aC).vAt<(-2147483648)))) (true&&((a0.aA==5)==true)) (vP b5 2) X X X X (fun hg=>(aH (n:=1) (o':=2) X AJ X As (by decide) X))<|rgs (((rd aj a0.ak aC).vType !=0)||(decide ((rd aj a0.ak aC).vAt<(-2147483648)))) (true&&((a0.aA==5)==true)) (vI ((rd aj a0.ak aC).vAt)) X X X X (fun hg=>(aN (gvt (vP b5 2) hg X) AC (sH.look 0 X) X))<|rgs (((rd aj a0.ak aC).vType !=0)||(decide ((rd aj a0.ak aC).vAt<(-2147483648)))) (true&&((a0.aA==5)==true)) (vB (decide ((rd aj a0.ak aC).vAt>2147483647))) X X X X (fun hg=>(bW (gvt (vI ((rd aj a0.ak aC).vAt)) hg X) X X))<|aK (by simp only [sc0,sc1];rfl) ?_
               refine rgs (a0.aA==5) true (vB ((((rd aj a0.ak aC).vType !=0)||(decide ((rd aj a0.ak aC).vAt<(-2147483648))))||(decide ((rd aj a0.ak aC).vAt>2147483647)))) X X X X (fun hg=>(dQ (gvt (vB (((rd aj a0.ak aC).vType !=0)||(decide ((rd aj a0.ak aC).vAt<(-2147483648))))) hg X) X (fun hp=>(gvt (vB (decide ((rd aj a0.ak aC).vAt>2147483647))) (gQ hg hp) X))))<|rs (vB ((a0.aA==5)&&((((rd aj a0.ak aC).vType !=0)||(decide ((rd aj a0.ak aC).vAt<(-2147483648))))||(decide ((rd aj a0.ak aC).vAt>2147483647))))) (dL X (fun hp=>(gvt (vB ((((rd aj a0.ak aC).vType !=0)||(decide ((rd aj a0.ak aC).vAt<(-2147483648))))||(decide ((rd aj a0.ak aC).vAt>2147483647)))) (gQ X hp) X)) X)<|rs (vB ((a0.aA==5)&&((((rd aj a0.ak aC).vType !=0)||(decide ((rd aj a0.ak aC).vAt<(-2147483648))))||(decide ((rd aj a0.ak aC).vAt>2147483647))))) (aO X)<|rgs ((a0.aA==5)&&((((rd aj a0.ak aC).vType !=0)||(decide ((rd aj a0.ak aC).vAt<(-2147483648))))||(decide ((rd aj a0.ak aC).vAt>2147483647)))) true (vP b1 0) X X X X (fun hg=>(aH (n:=1) (o':=0) X An X As (by decide) X))<|aK (by simp only [sc0,sc1];rfl) ?_
               refine rgs ((a0.aA==5)&&((((rd aj a0.ak aC).vType !=0)||(decide ((rd aj a0.ak aC).vAt<(-2147483648))))||(decide ((rd aj a0.ak aC).vAt>2147483647)))) true (vI a0.aA) X X X X (fun hg=>(aN (gvt (vP b1 0) hg X) AC (sH.look 4 X) X))<|rgs ((a0.aA==5)&&((((rd aj a0.ak aC).vType !=0)||(decide ((rd aj a0.ak aC).vAt<(-2147483648))))||(decide ((rd aj a0.ak aC).vAt>2147483647)))) true (vB (a0.aA==4)) X X X X (fun hg=>(bW (gvt (vI a0.aA) hg X) X X))<|rgs ((a0.aA==5)&&((((rd aj a0.ak aC).vType !=0)||(decide ((rd aj a0.ak aC).vAt<(-2147483648))))||(decide ((rd aj a0.ak aC).vAt>2147483647)))) true (vB (a0.aA==4)) X X X X (fun hg=>(aO (gvt (vB (a0.aA==4)) hg X)))<|rgs (a0.aA==4) (true&&(((a0.aA==5)&&((((rd aj a0.ak aC).vType !=0)||(decide ((rd aj a0.ak aC).vAt<(-2147483648))))||(decide ((rd aj a0.ak aC).vAt>2147483647))))==false)) (vP b5 1) X X X X (fun hg=>(aH (n:=1) (o':=1) X AJ X As (by decide) X))<|aK (by simp only [sc0,sc1];rfl) ?_
               refine rgs (a0.aA==4) (true&&(((a0.aA==5)&&((((rd aj a0.ak aC).vType !=0)||(decide ((rd aj a0.ak aC).vAt<(-2147483648))))||(decide ((rd aj a0.ak aC).vAt>2147483647))))==false)) (vI ((rd aj a0.ak aC).vType)) X X X X (fun hg=>(aN (gvt (vP b5 1) hg X) AC (sH.look 0 X) X))<|rgs (a0.aA==4) (true&&(((a0.aA==5)&&((((rd aj a0.ak aC).vType !=0)||(decide ((rd aj a0.ak aC).vAt<(-2147483648))))||(decide ((rd aj a0.ak aC).vAt>2147483647))))==false)) (vB (decide ((rd aj a0.ak aC).vType<0))) X X X X (fun hg=>(bW (gvt (vI ((rd aj a0.ak aC).vType)) hg X) X X))<|rgs (a0.aA==4) (true&&(((a0.aA==5)&&((((rd aj a0.ak aC).vType !=0)||(decide ((rd aj a0.ak aC).vAt<(-2147483648))))||(decide ((rd aj a0.ak aC).vAt>2147483647))))==false)) (vB (decide ((rd aj a0.ak aC).vType<0))) X X X X (fun hg=>(aO (gvt (vB (decide ((rd aj a0.ak aC).vType<0))) hg X)))<|rgs (decide ((rd aj a0.ak aC).vType<0)) ((true&&(((a0.aA==5)&&((((rd aj a0.ak aC).vType !=0)||(decide ((rd aj a0.ak aC).vAt<(-2147483648))))||(decide ((rd aj a0.ak aC).vAt>2147483647))))==false))&&((a0.aA==4)==true)) (vP b5 1) X X X X (fun hg=>(aH (n:=1) (o':=1) X AJ X As (by decide) X))<|aK (by simp only [sc0,sc1];rfl) ?_
               refine rgs (decide ((rd aj a0.ak aC).vType<0)) ((true&&(((a0.aA==5)&&((((rd aj a0.ak aC).vType !=0)||(decide ((rd aj a0.ak aC).vAt<(-2147483648))))||(decide ((rd aj a0.ak aC).vAt>2147483647))))==false))&&((a0.aA==4)==true)) (vI ((rd aj a0.ak aC).vType)) X X X X (fun hg=>(aN (gvt (vP b5 1) hg X) AC (sH.look 0 X) X))<|rgs (decide ((rd aj a0.ak aC).vType<0)) ((true&&(((a0.aA==5)&&((((rd aj a0.ak aC).vType !=0)||(decide ((rd aj a0.ak aC).vAt<(-2147483648))))||(decide ((rd aj a0.ak aC).vAt>2147483647))))==false))&&((a0.aA==4)==true)) (vI a1) X X X X (fun hg=>(aO X))<|rgs (decide ((rd aj a0.ak aC).vType<0)) ((true&&(((a0.aA==5)&&((((rd aj a0.ak aC).vType !=0)||(decide ((rd aj a0.ak aC).vAt<(-2147483648))))||(decide ((rd aj a0.ak aC).vAt>2147483647))))==false))&&((a0.aA==4)==true)) (vB (decide ((rd aj a0.ak aC).vType≥a1))) X X X X (fun hg=>(bW (gvt (vI ((rd aj a0.ak aC).vType)) hg X) (gvt (vI a1) hg X) X))<|rgs (a0.aA==4) (true&&(((a0.aA==5)&&((((rd aj a0.ak aC).vType !=0)||(decide ((rd aj a0.ak aC).vAt<(-2147483648))))||(decide ((rd aj a0.ak aC).vAt>2147483647))))==false)) (vB ((decide ((rd aj a0.ak aC).vType<0))||(decide ((rd aj a0.ak aC).vType≥a1)))) X X X X (fun hg=>(dQ (gvt (vB (decide ((rd aj a0.ak aC).vType<0))) hg X) X (fun hp=>(gvt (vB (decide ((rd aj a0.ak aC).vType≥a1))) (gQ hg hp) X))))<|aK (by simp only [sc0,sc1];rfl) ?_
               refine rgs ((a0.aA==5)&&((((rd aj a0.ak aC).vType !=0)||(decide ((rd aj a0.ak aC).vAt<(-2147483648))))||(decide ((rd aj a0.ak aC).vAt>2147483647)))) true (vB ((a0.aA==4)&&((decide ((rd aj a0.ak aC).vType<0))||(decide ((rd aj a0.ak aC).vType≥a1))))) X X X X (fun hg=>(dL (gvt (vB (a0.aA==4)) hg X) (fun hp=>(gvt (vB ((decide ((rd aj a0.ak aC).vType<0))||(decide ((rd aj a0.ak aC).vType≥a1)))) (gQ hg hp) X)) X))<|rs (vB (((a0.aA==5)&&((((rd aj a0.ak aC).vType !=0)||(decide ((rd aj a0.ak aC).vAt<(-2147483648))))||(decide ((rd aj a0.ak aC).vAt>2147483647))))||((a0.aA==4)&&((decide ((rd aj a0.ak aC).vType<0))||(decide ((rd aj a0.ak aC).vType≥a1)))))) (dQ X X (fun hp=>(gvt (vB ((a0.aA==4)&&((decide ((rd aj a0.ak aC).vType<0))||(decide ((rd aj a0.ak aC).vType≥a1))))) (gQ X hp) X))) ?_
               try simp only [sc0,sc1]
               refine aB<|ay<|Av (t:=(((a0.aA==5)&&((((rd aj a0.ak aC).vType !=0)||(decide ((rd aj a0.ak aC).vAt<(-2147483648))))||(decide ((rd aj a0.ak aC).vAt>2147483647))))||((a0.aA==4)&&((decide ((rd aj a0.ak aC).vType<0))||(decide ((rd aj a0.ak aC).vType≥a1)))))) X (fun c14=>?_) (fun c14=>?_)
               ·replace H:=bU H c14
                refine Al<|Ao<|rs (vB false) (aG X) ?_
                try simp only [sc0,sc1]
                refine aB<|ay<|AT<|fA<|bP<|jm<|bP ?_
                obtain rfl:=Ab H
                obtain rfl:=Ab G6
                exact Ay (bD X (bK X)) X<|⟨X,sH.toE⟩
               ·replace H:=cO H (nt c14)
                refine AN<|dD<|ay<|Ao<|rs (vI (w64 (aC+1))) (bW X X X)<|rs (vI (w64 (aC+1))) (aO X) ?_
                try simp only [sc0,sc1]
                refine aB<|gI m (Nat.lt_succ_self m) X ⟨(w64 (aC+1)),(iG strEq dG ((rd aj a0.ak aC).aF) true),es2,cl2,(fit X),H,ho2,sH.tail⟩
             ·replace H:=cO H (nt c12)
              refine Bx<|eU ?_
              obtain rfl:=Ab H
              refine iK X ⟨_,X,o8,o9,(fit X),iE,mW⟩
           ·rintro us w17 ⟨s1,rfl,rD,rE,nP,jr,uQ⟩
            obtain ⟨uo1,rfl⟩:=unj nP
            replace H:=G6
            clear G6
            try simp only [patch,sc0,sc1]
            refine ay<|Al<|Ao<|rs (vB true) (aG X) ?_
            try simp only [sc0,sc1]
            refine aB<|ay<|AT ?_
            obtain rfl:=Ab H
            exact Ay (bD X (bK X)) X<|⟨X,uQ.toE⟩
def cu.l0 (a0:List aZ) (a1:(aZ→Option Bool)):Nat→Int→Option ((Int)⊕(Unit))
 |0,_=>none
 |m+1,aC=>if (decide (aC<(a0.length:Int)))=true then (if 0≤aC∧aC<a0.length then ((a1 (rd ah a0 aC)).bind fun v1=>(if v1=true then (some (.inl aC)) else (cu.l0 a0 a1 m (IntKind.wrap .i64 (aC+1))))) else none) else (some (.inr ()))
def cu.f (k:Nat) (a0:List aZ) (a1:aZ→Option Bool):Option (Int):=(cu.l0 a0 a1 k 0).bind fun xx1=>(match xx1 with| .inl r=>some r| .inr s1=>some (-1))
theorem cu.calls (k:Nat) (a0:List aZ) (a1:aZ→Option Bool) (bQ:Option Addr) (bT:Nat) (Eb:Nat) (cap1:List Value) {h0:View} {w0:World} (hv:lS h0 w0) (fK:Rd bI h0 bQ a0) (iF:a0.length≤bT) (KF:∀args w,(callFunc Eb args).run Tryz.prog w= .ok (.enter Eb args) w) (Ul:∀(z0:aZ) (AP:Option Addr) (AQ:Nat) (h:View) (w:World),Ext w0 w→Sub h0 h→lS h w→Rd dw h AP z0.ak→z0.ak.length≤AQ→∀(r:Bool),a1 z0=some r→Calls Tryz.prog Eb ([Value.agg #[vI z0.aA,vS z0.aF,vI z0.aY.aU,vB z0.aY.aJ,vI z0.bY,vI z0.vN,vL AP z0.ak.length AQ]]++cap1).toArray w (fun e w1=>e= .returned (vB r)∧Ext w w1)) {r:Int} (H:cu.f k a0 a1=some r):Calls Tryz.prog 52 #[vL bQ a0.length bT,Value.func (.func Eb) #[] cap1.toArray] w0 (fun e w1=>e= .returned (vI r)∧Ext w0 w1):=by
 unfold cu.f at H
 have HS:St [] h0 w0 h0 [] w0:=St.init hv
 go_enter Tryz.func52,Tryz.ntmps52
 refine Al<|Ao<|rs (vI 0) (aG X) ?_
 try simp only [sc0,sc1]
 refine aB<|ay<|Al<|Al<|Ao<|rs (vL bQ a0.length bT) (aO X)<|rs (vI (a0.length:Int)) (jD X AF)<|rs (vI 0) (aO X) ?_
 try simp only [sc0,sc1]
 refine aB<|ay ?_
 obtain ⟨xx1,H,G1⟩:=bn H
 refine jB [4,5,8,9,10,11,12,13,14,15,16,17,18] (fun m us w'=>∃(aC:Int),Fit us (fun uy1=>[(uy1 0),(uy1 1),vI aC,(uy1 3),(uy1 4),(uy1 5),(uy1 6),(uy1 7),(uy1 8),(uy1 9),(uy1 10),(uy1 11),(uy1 12)])∧cu.l0 a0 a1 m aC=some xx1∧St [] h0 w0 h0 [] w') (fun us w'=>∃(s1:Unit),xx1= .inr s1∧Fit us (fun uo1=>[(uo1 0),(uo1 1),(uo1 2),(uo1 3),(uo1 4),(uo1 5),(uo1 6),(uo1 7),(uo1 8),(uo1 9),(uo1 10),(uo1 11),(uo1 12)])∧St [] h0 w0 h0 [] w') k ⟨0,(fit X),H,HS⟩ ?_ ?_
 ·rintro m us w1 ⟨aC,nO,H,HS1⟩
  obtain ⟨uy1,rfl⟩:=unj nO
  cases m with
  |zero=>exact absurd H (by simp [cu.l0])
  |succ m=>
   rw [cu.l0] at H
   try simp only [patch,sc0,sc1]
   refine Al<|Ao<|rs (vB (decide (aC<(a0.length:Int)))) (bW X X X) ?_
   try simp only [sc0,sc1]
   refine aB<|ay<|Al<|Av (t:=(decide (aC<(a0.length:Int)))) X (fun c1=>?_) (fun c1=>?_)
   ·replace H:=bU H c1
    refine AN<|ay<|Al<|wp_block<|Al<|Ao<|rs (vI aC) (aO X)<|rs (vI aC) (aG X) ?_
    try simp only [sc0,sc1]
    refine aB<|ay<|Al<|Ao<|rs (Value.func (.func Eb) #[] cap1.toArray) (aO X)<|rs (vL bQ a0.length bT) (aO X)<|rs (vI aC) (aO X) ?_
    obtain ⟨hi1,H⟩:=dN H
    obtain ⟨ad1,dU,dY,e1,mJ,jS,iY⟩:=gK fK hi1.1 hi1.2
    refine rs (Value.pointer (some (Addr.add ad1 (aC.toNat*7)))) (dP (sz:=7) X e1 X hi1.1 hi1.2 AF AH)<|aK (by simp only [sc0,sc1];rfl) ?_
    refine rs (Value.agg #[vI ((rd ah a0 aC).aA),vS ((rd ah a0 aC).aF),vI ((rd ah a0 aC).aY.aU),vB ((rd ah a0 aC).aY.aJ),vI ((rd ah a0 aC).bY),vI ((rd ah a0 aC).vN),vL dU ((rd ah a0 aC).ak).length dY]) (gG X A7 (mJ.sees HS1.sees) AH) ?_
    obtain ⟨v1,H1,H⟩:=bn H
    refine run_eq (v:=vB v1) X X (yK (vs:=[Value.agg #[vI ((rd ah a0 aC).aA),vS ((rd ah a0 aC).aF),vI ((rd ah a0 aC).aY.aU),vB ((rd ah a0 aC).aY.aJ),vI ((rd ah a0 aC).bY),vI ((rd ah a0 aC).vN),vL dU ((rd ah a0 aC).ak).length dY]]) (caps:=cap1) KF X X (Ul (rd ah a0 aC) dU dY _ _ HS1.toE HS1.sub HS1.sees iY jS _ H1)) ?_
    intro w2 hE1
    have HS2:=HS1.step hE1
    try simp only [sc0,sc1]
    refine aB<|ay<|Av (t:=v1) X (fun c2=>?_) (fun c2=>?_)
    ·replace H:=bU H c2
     refine Al<|Ao<|rs (vI aC) (aO X)<|rs (vI aC) (aG X) ?_
     try simp only [sc0,sc1]
     refine aB<|ay<|AT<|fA<|bP<|jm<|bP ?_
     obtain rfl:=Ab H
     obtain rfl:=Ab G1
     exact Ay (bD X (bK X)) X<|⟨X,HS2.toE⟩
    ·replace H:=cO H (nt c2)
     refine AN<|dD<|ay<|Ao<|rs (vI (w64 (aC+1))) (bW X X X)<|rs (vI (w64 (aC+1))) (aO X) ?_
     try simp only [sc0,sc1]
     refine aB<|gI m (Nat.lt_succ_self m) X ⟨(w64 (aC+1)),(fit X),H,HS2⟩
   ·replace H:=cO H (nt c1)
    refine Bx<|eU ?_
    obtain rfl:=Ab H
    refine iK X ⟨_,X,(fit X),HS1⟩
 ·rintro us w3 ⟨s1,rfl,nP,HS3⟩
  obtain ⟨uo1,rfl⟩:=unj nP
  replace H:=G1
  clear G1
  try simp only [patch,sc0,sc1]
  refine ay<|Al<|Ao<|rs (vI (-1)) (aG X) ?_
  try simp only [sc0,sc1]
  refine aB<|ay<|AT ?_
  obtain rfl:=Ab H
  exact Ay (bD X (bK X)) X<|⟨X,HS3.toE⟩
def eG.f (k:Nat) (a0:List aZ) (a1:aZ→Option Bool):Option (Bool):=(cu.f k a0 a1).bind fun v1=>(some (decide (v1≥0)))
theorem eG.calls (k:Nat) (a0:List aZ) (a1:aZ→Option Bool) (bQ:Option Addr) (bT:Nat) (Eb:Nat) (cap1:List Value) {h0:View} {w0:World} (hv:lS h0 w0) (fK:Rd bI h0 bQ a0) (iF:a0.length≤bT) (KF:∀args w,(callFunc Eb args).run Tryz.prog w= .ok (.enter Eb args) w) (Ul:∀(z0:aZ) (AP:Option Addr) (AQ:Nat) (h:View) (w:World),Ext w0 w→Sub h0 h→lS h w→Rd dw h AP z0.ak→z0.ak.length≤AQ→∀(r:Bool),a1 z0=some r→Calls Tryz.prog Eb ([Value.agg #[vI z0.aA,vS z0.aF,vI z0.aY.aU,vB z0.aY.aJ,vI z0.bY,vI z0.vN,vL AP z0.ak.length AQ]]++cap1).toArray w (fun e w1=>e= .returned (vB r)∧Ext w w1)) {r:Bool} (H:eG.f k a0 a1=some r):Calls Tryz.prog 48 #[vL bQ a0.length bT,Value.func (.func Eb) #[] cap1.toArray] w0 (fun e w1=>e= .returned (vB r)∧Ext w0 w1):=by
 unfold eG.f at H
 have HS:St [] h0 w0 h0 [] w0:=St.init hv
 go_enter Tryz.func48,Tryz.ntmps48
 refine Al<|Ao<|rs (vB false) (aG X) ?_
 try simp only [sc0,sc1]
 refine aB<|ay<|Al<|Ao<|rs (vL bQ a0.length bT) (aO X)<|rs (Value.func (.func Eb) #[] cap1.toArray) (aO X) ?_
 obtain ⟨v1,H1,H⟩:=bn H
 refine run_eq (v:=vI v1) X X (bC Tryz.call52 X X (cu.calls k a0 a1 bQ bT Eb cap1 HS.sees fK iF KF (fun z0 AP AQ h w hE hs hv IG Dk r H=>Ul z0 AP AQ h w (HS.toE.then hE) (HS.sub.then hs) hv IG Dk r H) H1)) ?_
 intro w1 hE1
 have HS1:=HS.step hE1
 refine rs (vB (decide (v1≥0))) (bW X X X)<|aK (by simp only [sc0,sc1];rfl) ?_
 refine rs (vB (decide (v1≥0))) (aG X) ?_
 try simp only [sc0,sc1]
 refine aB<|ay<|AT ?_
 obtain rfl:=Ab H
 exact Ay (bD X (bK X)) X<|⟨X,HS1.toE⟩
def kJ.l0 (x0:aQ):Nat→Int→Int→ByteArray→Int→Bool→Int→Int→(List bf)→Option ((Bool)⊕(Int×ByteArray×Int×Bool×Int×Int×(List bf)))
 |0,_,_,_,_,_,_,_,_=>none
 |m+1,aC,dG,o7,sK,Eo,rF,Po,LX=>if (decide (aC<(x0.au.length:Int)))=true then ((jH.f (⟨dG,o7,(⟨sK,Eo⟩:jE),rF,Po,LX⟩:aZ)).bind fun v1=>(if v1=true then (some (.inl false)) else (if 0≤rF∧rF<x0.au.length then (kJ.l0 x0 m (IntKind.wrap .i64 (aC+1)) ((rd ah x0.au rF).aA) ((rd ah x0.au rF).aF) ((rd ah x0.au rF).aY.aU) ((rd ah x0.au rF).aY.aJ) ((rd ah x0.au rF).bY) ((rd ah x0.au rF).vN) ((rd ah x0.au rF).ak)) else none))) else (some (.inr (dG,o7,sK,Eo,rF,Po,LX)))
def kJ.f (k:Nat) (a0:aZ) (x0:aQ):Option (Bool):=(kJ.l0 x0 k 0 a0.aA a0.aF a0.aY.aU a0.aY.aJ a0.bY a0.vN a0.ak).bind fun xx1=>(match xx1 with| .inl r=>some r| .inr s1=>(jH.f (⟨s1.1,s1.2.1,(⟨s1.2.2.1,s1.2.2.2.1⟩:jE),s1.2.2.2.2.1,s1.2.2.2.2.2.1,s1.2.2.2.2.2.2⟩:aZ)).bind fun v2=>(some (!v2)))
theorem kJ.calls (k:Nat) (a0:aZ) (x0:aQ) (kG:Option Addr) (kH:Nat) (bx0:Nat) (zQ:Option Addr) (zS:Nat) {h0:View} {w0:World} (hv:lS h0 w0) (sV:Rd dw h0 kG a0.ak) (wL:a0.ak.length≤kH) (Gn:Rd bI h0 zQ x0.au) (Nh:x0.au.length≤zS) (hx0:w0.heap[bx0]?=some (.cells #[vL zQ x0.au.length zS] 24 (0,0))) {r:Bool} (H:kJ.f k a0 x0=some r):Calls Tryz.prog 77 #[Value.agg #[vI a0.aA,vS a0.aF,vI a0.aY.aU,vB a0.aY.aJ,vI a0.bY,vI a0.vN,vL kG a0.ak.length kH],vP bx0 0] w0 (fun e w1=>e= .returned (vB r)∧Ext w0 w1):=by
 unfold kJ.f at H
 have HS:St [] h0 w0 h0 [] w0:=St.init hv
 go_enter Tryz.func77,Tryz.ntmps77
 refine Al<|Ao<|dF X X (eF (cs:=#[vI a0.aA,vS a0.aF,vI a0.aY.aU,vB a0.aY.aJ,vI a0.bY,vI a0.vN,vL kG a0.ak.length kH]) X X) ?_
 rintro w1 _ hE1 ⟨b1,rfl,ge1,hb1⟩
 have HS1:=HS.new hE1 ge1 hb1
 refine rs (vB false) (aG X) ?_
 try simp only [sc0,sc1]
 refine aB<|ay<|Al<|Al<|Ao<|rs (vP bx0 0) (aH (n:=1) (o':=0) X AE X AM (by decide) X)<|rs (vL zQ x0.au.length zS) (aN X AR (kD hx0 HS1.toE) X)<|rs (vI (x0.au.length:Int)) (jD X AF)<|rs (vI 0) (aO X) ?_
 try simp only [sc0,sc1]
 refine aB<|ay ?_
 obtain ⟨xx1,H,G1⟩:=bn H
 refine jB [3,7,8,9,10,11,12,13,14,15,16,17] (fun m us w'=>∃aC dG:Int,∃o7:ByteArray,∃sK:Int,∃Eo:Bool,∃rF Po:Int,∃LX:List bf,∃(Gp:Option Addr) (Gq:Nat),Fit us (fun uy1=>[(uy1 0),vI aC,(uy1 2),(uy1 3),(uy1 4),(uy1 5),(uy1 6),(uy1 7),(uy1 8),(uy1 9),(uy1 10),(uy1 11)])∧kJ.l0 x0 m aC dG o7 sK Eo rF Po LX=some xx1∧LX.length≤Gq∧Rd dw h0 Gp LX∧St [] h0 w0 h0 [(some b1, .cells #[vI dG,vS o7,vI sK,vB Eo,vI rF,vI Po,vL Gp LX.length Gq] 58 (0,0))] w') (fun us w'=>∃(s1:Int×ByteArray×Int×Bool×Int×Int×(List bf)),xx1= .inr s1∧∃(KG:Option Addr) (KH:Nat),Fit us (fun uo1=>[(uo1 0),(uo1 1),(uo1 2),(uo1 3),(uo1 4),(uo1 5),(uo1 6),(uo1 7),(uo1 8),(uo1 9),(uo1 10),(uo1 11)])∧s1.2.2.2.2.2.2.length≤KH∧Rd dw h0 KG s1.2.2.2.2.2.2∧St [] h0 w0 h0 [(some b1, .cells #[vI s1.1,vS s1.2.1,vI s1.2.2.1,vB s1.2.2.2.1,vI s1.2.2.2.2.1,vI s1.2.2.2.2.2.1,vL KG s1.2.2.2.2.2.2.length KH] 58 (0,0))] w') k ⟨0,a0.aA,a0.aF,a0.aY.aU,a0.aY.aJ,a0.bY,a0.vN,a0.ak,kG,kH,(fit X),H,wL,sV,HS1⟩ ?_ ?_
 ·rintro m us w2 ⟨aC,dG,o7,sK,Eo,rF,Po,LX,Gp,Gq,nO,H,Rt,Ru,HS2⟩
  obtain ⟨uy1,rfl⟩:=unj nO
  cases m with
  |zero=>exact absurd H (by simp [kJ.l0])
  |succ m=>
   rw [kJ.l0] at H
   try simp only [patch,sc0,sc1]
   refine Al<|Ao<|rs (vB (decide (aC<(x0.au.length:Int)))) (bW X X X) ?_
   try simp only [sc0,sc1]
   refine aB<|ay<|Al<|Av (t:=(decide (aC<(x0.au.length:Int)))) X (fun c1=>?_) (fun c1=>?_)
   ·replace H:=bU H c1
    refine AN<|ay<|Al<|wp_block<|Al<|Al<|Ao<|rs (Value.agg #[vI dG,vS o7,vI sK,vB Eo,vI rF,vI Po,vL Gp LX.length Gq]) (aT (n:=7) (vs:=[vI dG,vS o7,vI sK,vB Eo,vI rF,vI Po,vL Gp LX.length Gq]) X A7 (HS2.look 0 X) AH X X) ?_
    obtain ⟨v1,H1,H⟩:=bn H
    refine run_eq (v:=vB v1) X X (bC CA X X (jH.calls (⟨dG,o7,(⟨sK,Eo⟩:jE),rF,Po,LX⟩:aZ) Gp Gq HS2.sees Ru Rt H1)) ?_
    intro w3 hE2
    have HS3:=HS2.step hE2
    try simp only [sc0,sc1]
    refine aB<|ay<|Av (t:=v1) X (fun c2=>?_) (fun c2=>?_)
    ·replace H:=bU H c2
     refine Al<|Ao<|rs (vB false) (aG X) ?_
     try simp only [sc0,sc1]
     refine aB<|ay<|AT<|bP<|fA<|bP<|jm<|bP ?_
     obtain rfl:=Ab H
     obtain rfl:=Ab G1
     exact Ay (bD X (bK X)) X<|⟨X,HS3.toE⟩
    ·replace H:=cO H (nt c2)
     refine AN<|ay<|Ao<|rs (vP bx0 0) (aH (n:=1) (o':=0) X AE X AM (by decide) X)<|rs (vL zQ x0.au.length zS) (aN X AR (kD hx0 HS3.toE) X)<|rs (vP b1 4) (aH (n:=1) (o':=4) X An X As (by decide) X)<|rs (vI rF) (aN X AC (HS3.look 0 X) X)<|aK (by simp only [sc0,sc1];rfl) ?_
     obtain ⟨hi1,H⟩:=dN H
     obtain ⟨ad1,dU,dY,e1,mJ,jS,iY⟩:=gK Gn hi1.1 hi1.2
     refine rs (Value.pointer (some (Addr.add ad1 (rF.toNat*7)))) (dP (sz:=7) X e1 X hi1.1 hi1.2 AF AH)<|rs (Value.agg #[vI ((rd ah x0.au rF).aA),vS ((rd ah x0.au rF).aF),vI ((rd ah x0.au rF).aY.aU),vB ((rd ah x0.au rF).aY.aJ),vI ((rd ah x0.au rF).bY),vI ((rd ah x0.au rF).vN),vL dU ((rd ah x0.au rF).ak).length dY]) (gG X A7 (mJ.sees HS3.sees) AH)<|gJ (i:=0) (cs:=[vI dG,vS o7,vI sK,vB Eo,vI rF,vI Po,vL Gp LX.length Gq]) (cs':=[vI ((rd ah x0.au rF).aA),vS ((rd ah x0.au rF).aF),vI ((rd ah x0.au rF).aY.aU),vB ((rd ah x0.au rF).aY.aJ),vI ((rd ah x0.au rF).bY),vI ((rd ah x0.au rF).vN),vL dU ((rd ah x0.au rF).ak).length dY]) (vs:=[vI ((rd ah x0.au rF).aA),vS ((rd ah x0.au rF).aF),vI ((rd ah x0.au rF).aY.aU),vB ((rd ah x0.au rF).aY.aJ),vI ((rd ah x0.au rF).bY),vI ((rd ah x0.au rF).vN),vL dU ((rd ah x0.au rF).ak).length dY]) (bs':=[(some b1, .cells #[vI ((rd ah x0.au rF).aA),vS ((rd ah x0.au rF).aF),vI ((rd ah x0.au rF).aY.aU),vB ((rd ah x0.au rF).aY.aJ),vI ((rd ah x0.au rF).bY),vI ((rd ah x0.au rF).vN),vL dU ((rd ah x0.au rF).ak).length dY] 58 (0,0))]) X X AH X X (by decide) X HS3 X (Ax X) X X ?_
     intro w4 HS4
     try simp only [sc0,sc1]
     refine aB<|dD<|ay<|Ao<|rs (vI (w64 (aC+1))) (bW X X X)<|rs (vI (w64 (aC+1))) (aO X) ?_
     try simp only [sc0,sc1]
     refine aB<|gI m (Nat.lt_succ_self m) X ⟨(w64 (aC+1)),(rd ah x0.au rF).aA,(rd ah x0.au rF).aF,(rd ah x0.au rF).aY.aU,(rd ah x0.au rF).aY.aJ,(rd ah x0.au rF).bY,(rd ah x0.au rF).vN,(rd ah x0.au rF).ak,dU,dY,(fit X),H,jS,iY,HS4⟩
   ·replace H:=cO H (nt c1)
    refine Bx<|eU ?_
    obtain rfl:=Ab H
    refine iK X ⟨_,X,Gp,Gq,(fit X),Rt,Ru,HS2⟩
 ·rintro us w5 ⟨s1,rfl,KG,KH,nP,UQ,UR,HS5⟩
  obtain ⟨uo1,rfl⟩:=unj nP
  replace H:=G1
  clear G1
  try simp only [patch,sc0,sc1]
  refine ay<|Al<|Ao<|rs (Value.agg #[vI s1.1,vS s1.2.1,vI s1.2.2.1,vB s1.2.2.2.1,vI s1.2.2.2.2.1,vI s1.2.2.2.2.2.1,vL KG s1.2.2.2.2.2.2.length KH]) (aT (n:=7) (vs:=[vI s1.1,vS s1.2.1,vI s1.2.2.1,vB s1.2.2.2.1,vI s1.2.2.2.2.1,vI s1.2.2.2.2.2.1,vL KG s1.2.2.2.2.2.2.length KH]) X A7 (HS5.look 0 X) AH X X) ?_
  obtain ⟨v2,H2,H⟩:=bn H
  refine run_eq (v:=vB v2) X X (bC CA X X (jH.calls (⟨s1.1,s1.2.1,(⟨s1.2.2.1,s1.2.2.2.1⟩:jE),s1.2.2.2.2.1,s1.2.2.2.2.2.1,s1.2.2.2.2.2.2⟩:aZ) KG KH HS5.sees UR UQ H2)) ?_
  intro w6 hE3
  have HS6:=HS5.step hE3
  refine rs (vB (!v2)) (mZ X)<|rs (vB (!v2)) (aG X) ?_
  try simp only [sc0,sc1]
  refine aB<|ay<|AT ?_
  obtain rfl:=Ab H
  exact Ay (bD X (bK X)) X<|⟨X,HS6.toE⟩
def tZ.f (k:Nat) (a0:aQ):Option (Bool):=(eG.f k a0.au (fun z0=>kJ.f k z0 a0)).bind fun v1=>(some (!v1))
theorem tZ.calls (k:Nat) (a0:aQ) (bQ:Option Addr) (bT:Nat) {h0:View} {w0:World} (hv:lS h0 w0) (fK:Rd bI h0 bQ a0.au) (iF:a0.au.length≤bT) {r:Bool} (H:tZ.f k a0=some r):Calls Tryz.prog 47 #[Value.agg #[vL bQ a0.au.length bT]] w0 (fun e w1=>e= .returned (vB r)∧Ext w0 w1):=by
 unfold tZ.f at H
 have HS:St [] h0 w0 h0 [] w0:=St.init hv
 go_enter Tryz.func47,Tryz.ntmps47
 refine Al<|Ao<|dF X X (eF (cs:=#[vL bQ a0.au.length bT]) X X) ?_
 rintro w1 _ hE1 ⟨b1,rfl,ge1,hb1⟩
 have HS1:=HS.new hE1 ge1 hb1
 refine rs (vB false) (aG X) ?_
 try simp only [sc0,sc1]
 refine aB<|ay<|Al<|Ao<|rs (vP b1 0) (aH (n:=1) (o':=0) X AE X AM (by decide) X)<|rs (vL bQ a0.au.length bT) (aN X AR (HS1.look 0 X) X)<|rs (Value.func (.func 77) #[] #[vP b1 0]) (qC (vs:=[vP b1 0]) X) ?_
 obtain ⟨v1,H1,H⟩:=bn H
 refine run_eq (v:=vB v1) X X (bC Tryz.call48 X X (eG.calls k a0.au (fun z0=>kJ.f k z0 a0) bQ bT 77 [vP b1 0] HS1.sees fK iF Tryz.call77 (fun z0 AP AQ h w hE hs hv IG Dk r H=>kJ.calls k z0 a0 AP AQ b1 bQ bT hv IG Dk (fK.ext hs) iF (kD (HS1.look 0 X) hE) H) H1)) ?_
 intro w2 hE2
 have HS2:=HS1.step hE2
 refine aK (by simp only [sc0,sc1];rfl) ?_
 refine rs (vB (!v1)) (mZ X)<|rs (vB (!v1)) (aG X) ?_
 try simp only [sc0,sc1]
 refine aB<|ay<|AT ?_
 obtain rfl:=Ab H
 exact Ay (bD X (bK X)) X<|⟨X,HS2.toE⟩
def kK.l0 (a0:aZ) (a1:List Int):Nat→Int→Int→Option ((Bool)⊕(Int))
 |0,_,_=>none
 |m+1,aC,dG=>if (decide (dG<(a0.ak.length:Int)))=true then (if 0≤dG∧dG<a0.ak.length then (if ((decide ((rd aj a0.ak dG).vAt<aC))||(decide ((rd aj a0.ak dG).vAt>512)))=true then (some (.inl false)) else (if 0≤(rd aj a0.ak dG).vType∧(rd aj a0.ak dG).vType<a1.length then (kK.l0 a0 a1 m (IntKind.wrap .i64 ((rd aj a0.ak dG).vAt+(rd 0 a1 ((rd aj a0.ak dG).vType)))) (IntKind.wrap .i64 (dG+1))) else none)) else none) else (some (.inr aC))
def kK.f (k:Nat) (a0:aZ) (a1:List Int):Option (Bool):=(kK.l0 a0 a1 k 0 0).bind fun xx1=>(match xx1 with| .inl r=>some r| .inr s1=>some (decide (s1≤a0.vN)))
theorem kK.calls (k:Nat) (a0:aZ) (a1:List Int) (kG:Option Addr) (kH:Nat) (iM:Option Addr) (iO:Nat) {h0:View} {w0:World} (hv:lS h0 w0) (sV:Rd dw h0 kG a0.ak) (wL:a0.ak.length≤kH) (kX:Rd (Kd.int .i64) h0 iM a1) (pK:a1.length≤iO) {r:Bool} (H:kK.f k a0 a1=some r):Calls Tryz.prog 50 #[Value.agg #[vI a0.aA,vS a0.aF,vI a0.aY.aU,vB a0.aY.aJ,vI a0.bY,vI a0.vN,vL kG a0.ak.length kH],vL iM a1.length iO] w0 (fun e w1=>e= .returned (vB r)∧Ext w0 w1):=by
 unfold kK.f at H
 have HS:St [] h0 w0 h0 [] w0:=St.init hv
 go_enter Tryz.func50,Tryz.ntmps50
 refine Al<|Ao<|dF X X (eF (cs:=#[vI a0.aA,vS a0.aF,vI a0.aY.aU,vB a0.aY.aJ,vI a0.bY,vI a0.vN,vL kG a0.ak.length kH]) X X) ?_
 rintro w1 _ hE1 ⟨b1,rfl,ge1,hb1⟩
 have HS1:=HS.new hE1 ge1 hb1
 refine rs (vB false) (aG X) ?_
 try simp only [sc0,sc1]
 refine aB<|ay<|Al<|Ao<|rs (vI 0) (aG X) ?_
 try simp only [sc0,sc1]
 refine aB<|ay<|Al<|Al<|Ao<|rs (vP b1 6) (aH (n:=1) (o':=6) X An X A4 (by decide) X)<|rs (vL kG a0.ak.length kH) (aN X Bs (HS1.look 0 X) X)<|rs (vI (a0.ak.length:Int)) (jD X AK)<|rs (vI 0) (aO X) ?_
 try simp only [sc0,sc1]
 refine aB<|ay ?_
 obtain ⟨xx1,H,G1⟩:=bn H
 refine jB [4,5,7,11,12,13,14,15,16,17,18,19,20,21,22,23,24,25,26,27,28,29,30,31,32] (fun m us w'=>∃aC dG:Int,Fit us (fun uy1=>[(uy1 0),vI aC,(uy1 2),vI dG,(uy1 4),(uy1 5),(uy1 6),(uy1 7),(uy1 8),(uy1 9),(uy1 10),(uy1 11),(uy1 12),(uy1 13),(uy1 14),(uy1 15),(uy1 16),(uy1 17),(uy1 18),(uy1 19),(uy1 20),(uy1 21),(uy1 22),(uy1 23),(uy1 24)])∧kK.l0 a0 a1 m aC dG=some xx1∧St [] h0 w0 h0 [(some b1, .cells #[vI a0.aA,vS a0.aF,vI a0.aY.aU,vB a0.aY.aJ,vI a0.bY,vI a0.vN,vL kG a0.ak.length kH] 58 (0,0))] w') (fun us w'=>∃(s1:Int),xx1= .inr s1∧Fit us (fun uo1=>[(uo1 0),vI s1,(uo1 2),(uo1 3),(uo1 4),(uo1 5),(uo1 6),(uo1 7),(uo1 8),(uo1 9),(uo1 10),(uo1 11),(uo1 12),(uo1 13),(uo1 14),(uo1 15),(uo1 16),(uo1 17),(uo1 18),(uo1 19),(uo1 20),(uo1 21),(uo1 22),(uo1 23),(uo1 24)])∧St [] h0 w0 h0 [(some b1, .cells #[vI a0.aA,vS a0.aF,vI a0.aY.aU,vB a0.aY.aJ,vI a0.bY,vI a0.vN,vL kG a0.ak.length kH] 58 (0,0))] w') k ⟨0,0,(fit X),H,HS1⟩ ?_ ?_
 ·rintro m us w2 ⟨aC,dG,nO,H,HS2⟩
  obtain ⟨uy1,rfl⟩:=unj nO
  cases m with
  |zero=>exact absurd H (by simp [kK.l0])
  |succ m=>
   rw [kK.l0] at H
   try simp only [patch,sc0,sc1]
   refine Al<|Ao<|rs (vB (decide (dG<(a0.ak.length:Int)))) (bW X X X) ?_
   try simp only [sc0,sc1]
   refine aB<|ay<|Al<|Av (t:=(decide (dG<(a0.ak.length:Int)))) X (fun c1=>?_) (fun c1=>?_)
   ·replace H:=bU H c1
    refine AN<|ay<|Al<|wp_block<|Al<|Ao ?_
    obtain ⟨hi1,H⟩:=dN H
    obtain ⟨ad1,e1,mJ⟩:=ji sV hi1.1 hi1.2
    refine rs (Value.pointer (some (Addr.add ad1 (dG.toNat*3)))) (dP (sz:=3) X e1 X hi1.1 hi1.2 AK AS)<|rs (Value.agg #[vS ((rd aj a0.ak dG).aF),vI ((rd aj a0.ak dG).vType),vI ((rd aj a0.ak dG).vAt)]) (gG X BC (mJ.sees HS2.sees) AS)<|dF X X (dO (cs:=#[vS ByteArray.empty,vI 0,vI 0]) Bm X) ?_
    rintro w3 _ hE2 ⟨b2,rfl,ge2,hb2⟩
    have HS3:=HS2.new hE2 ge2 hb2
    refine gJ (i:=0) (cs:=[vS ByteArray.empty,vI 0,vI 0]) (cs':=[vS ((rd aj a0.ak dG).aF),vI ((rd aj a0.ak dG).vType),vI ((rd aj a0.ak dG).vAt)]) (vs:=[vS ((rd aj a0.ak dG).aF),vI ((rd aj a0.ak dG).vType),vI ((rd aj a0.ak dG).vAt)]) (bs':=[(some b2, .cells #[vS ((rd aj a0.ak dG).aF),vI ((rd aj a0.ak dG).vType),vI ((rd aj a0.ak dG).vAt)] 48 (0,0)),(some b1, .cells #[vI a0.aA,vS a0.aF,vI a0.aY.aU,vB a0.aY.aJ,vI a0.bY,vI a0.vN,vL kG a0.ak.length kH] 58 (0,0))]) X X AS X X (by decide) X HS3 X (Ax X) X X ?_
    intro w4 HS4
    try simp only [sc0,sc1]
    refine aB<|ay<|Al<|Al<|Ao<|rs (vP b2 2) (aH (n:=1) (o':=2) X AJ X As (by decide) X)<|rs (vI ((rd aj a0.ak dG).vAt)) (aN X AC (HS4.look 0 X) X)<|rs (vI aC) (aO X)<|rs (vB (decide ((rd aj a0.ak dG).vAt<aC))) (bW X X X)<|aK (by simp only [sc0,sc1];rfl) ?_
    refine rs (vB (decide ((rd aj a0.ak dG).vAt<aC))) (aO X)<|rgs (decide ((rd aj a0.ak dG).vAt<aC)) true (vP b2 2) X X X X (fun hg=>(aH (n:=1) (o':=2) X AJ X As (by decide) X))<|rgs (decide ((rd aj a0.ak dG).vAt<aC)) true (vI ((rd aj a0.ak dG).vAt)) X X X X (fun hg=>(aN (gvt (vP b2 2) hg X) AC (HS4.look 0 X) X))<|rgs (decide ((rd aj a0.ak dG).vAt<aC)) true (vB (decide ((rd aj a0.ak dG).vAt>512))) X X X X (fun hg=>(bW (gvt (vI ((rd aj a0.ak dG).vAt)) hg X) X X))<|aK (by simp only [sc0,sc1];rfl) ?_
    refine rs (vB ((decide ((rd aj a0.ak dG).vAt<aC))||(decide ((rd aj a0.ak dG).vAt>512)))) (dQ X X (fun hp=>(gvt (vB (decide ((rd aj a0.ak dG).vAt>512))) (gQ X hp) X))) ?_
    try simp only [sc0,sc1]
    refine aB<|ay<|Av (t:=((decide ((rd aj a0.ak dG).vAt<aC))||(decide ((rd aj a0.ak dG).vAt>512)))) X (fun c2=>?_) (fun c2=>?_)
    ·replace H:=bU H c2
     refine Al<|Ao<|rs (vB false) (aG X) ?_
     try simp only [sc0,sc1]
     refine aB<|ay<|AT<|bP<|fA<|bP<|jm<|bP ?_
     obtain rfl:=Ab H
     obtain rfl:=Ab G1
     exact Ay (bD X (bK X)) X<|⟨X,HS4.toE⟩
    ·replace H:=cO H (nt c2)
     refine AN<|ay ?_
     obtain ⟨hi2,H⟩:=dN H
     obtain ⟨ad2,e2,tN⟩:=qY kX hi2.1 hi2.2
     refine drawn [.eq (vP b2 2), .eq (vI ((rd aj a0.ak dG).vAt)), .eq (vL iM a1.length iO), .eq (vP b2 1), .eq (vI ((rd aj a0.ak dG).vType)), .eq (Value.pointer (some (Addr.add ad2 (((rd aj a0.ak dG).vType).toNat*1)))), .eq (vI (rd 0 a1 ((rd aj a0.ak dG).vType))), .eq (vI (w64 ((rd aj a0.ak dG).vAt+(rd 0 a1 ((rd aj a0.ak dG).vType)))))] [24,25,26,27,28,29,30,31] rM (by kernel_rfl) X (aP (aP (aP (aP (aP (aP (aP (aP iJ)))))))) ⟨aX X (fun a' w' hE hk=>by exact aW (aH (n:=1) (o':=2) (show _=vP b2 0 from hk 7 X) AJ X As (by decide) X)),aX X (fun a' w' hE hk=>by exact aW (aN (show _=vP b2 2 from hk 24 X) AC ((HS4.step hE).look 0 X) X)),aX X (fun a' w' hE hk=>by exact aW (aO (show _=vL iM a1.length iO from hk 1 X))),aX X (fun a' w' hE hk=>by exact aW (aH (n:=1) (o':=1) (show _=vP b2 0 from hk 7 X) AJ X As (by decide) X)),aX X (fun a' w' hE hk=>by exact aW (aN (show _=vP b2 1 from hk 27 X) AC ((HS4.step hE).look 0 X) X)),aX X (fun a' w' hE hk=>by exact aW (dP (sz:=1) (show _=vL iM a1.length iO from hk 26 X) e2 (show _=vI ((rd aj a0.ak dG).vType) from hk 28 X) hi2.1 hi2.2 AG As)),aX X (fun a' w' hE hk=>by exact aW (kE (show _=Value.pointer (some (Addr.add ad2 (((rd aj a0.ak dG).vType).toNat*1))) from hk 29 X) AC (tN.cell0 (HS4.step hE).sees X))),aX X (fun a' w' hE hk=>by exact aW (bW (show _=vI ((rd aj a0.ak dG).vAt) from hk 25 X) (show _=vI (rd 0 a1 ((rd aj a0.ak dG).vType)) from hk 30 X) X)),trivial⟩ ?_
     intro w5 hE3
     simp only [List.zip_cons_cons,List.zip_nil_left,List.zip_nil_right,vO,sc0,sc1,List.length_cons,List.length_nil,List.drop_succ_cons,List.drop_zero,Nat.zero_add,Nat.reduceAdd]
     have HS5:=HS4.step hE3
     refine rs (vI (w64 ((rd aj a0.ak dG).vAt+(rd 0 a1 ((rd aj a0.ak dG).vType))))) (aG X) ?_
     try simp only [sc0,sc1]
     refine aB<|dD<|ay<|Ao<|rs (vI (w64 (dG+1))) (bW X X X)<|rs (vI (w64 (dG+1))) (aO X) ?_
     try simp only [sc0,sc1]
     refine aB<|gI m (Nat.lt_succ_self m) X ⟨(w64 ((rd aj a0.ak dG).vAt+(rd 0 a1 ((rd aj a0.ak dG).vType)))),(w64 (dG+1)),(fit X),H,HS5.tail⟩
   ·replace H:=cO H (nt c1)
    refine Bx<|eU ?_
    obtain rfl:=Ab H
    refine iK X ⟨_,X,(fit X),HS2⟩
 ·rintro us w6 ⟨s1,rfl,nP,HS6⟩
  obtain ⟨uo1,rfl⟩:=unj nP
  replace H:=G1
  clear G1
  try simp only [patch,sc0,sc1]
  refine ay<|Al<|Ao<|rs (vI s1) (aO X)<|rs (vP b1 5) (aH (n:=1) (o':=5) X An X As (by decide) X)<|rs (vI a0.vN) (aN X AC (HS6.look 0 X) X)<|rs (vB (decide (s1≤a0.vN))) (bW X X X)<|aK (by simp only [sc0,sc1];rfl) ?_
  refine rs (vB (decide (s1≤a0.vN))) (aG X) ?_
  try simp only [sc0,sc1]
  refine aB<|ay<|AT ?_
  obtain rfl:=Ab H
  exact Ay (bD X (bK X)) X<|⟨X,HS6.toE⟩
def mF.f (k:Nat) (a0:aZ) (x0:List Int):Option (Bool):=(if (true&&((a0.aA==4)==true))=true then kK.f k a0 x0 else some false).bind fun v1=>(some ((a0.aA==4)&&(!v1)))
theorem mF.calls (k:Nat) (a0:aZ) (x0:List Int) (kG:Option Addr) (kH:Nat) (bx0:Nat) (zQ:Option Addr) (zS:Nat) {h0:View} {w0:World} (hv:lS h0 w0) (sV:Rd dw h0 kG a0.ak) (wL:a0.ak.length≤kH) (Gn:Rd (Kd.int .i64) h0 zQ x0) (Nh:x0.length≤zS) (hx0:w0.heap[bx0]?=some (.cells #[vL zQ x0.length zS] 27 (0,0))) {r:Bool} (H:mF.f k a0 x0=some r):Calls Tryz.prog 49 #[Value.agg #[vI a0.aA,vS a0.aF,vI a0.aY.aU,vB a0.aY.aJ,vI a0.bY,vI a0.vN,vL kG a0.ak.length kH],vP bx0 0] w0 (fun e w1=>e= .returned (vB r)∧Ext w0 w1):=by
 unfold mF.f at H
 have HS:St [] h0 w0 h0 [] w0:=St.init hv
 go_enter Tryz.func49,Tryz.ntmps49
 refine Al<|Ao<|dF X X (eF (cs:=#[vI a0.aA,vS a0.aF,vI a0.aY.aU,vB a0.aY.aJ,vI a0.bY,vI a0.vN,vL kG a0.ak.length kH]) X X) ?_
 rintro w1 _ hE1 ⟨b1,rfl,ge1,hb1⟩
 have HS1:=HS.new hE1 ge1 hb1
 refine rs (vB false) (aG X) ?_
 try simp only [sc0,sc1]
 refine aB<|ay<|Al<|Ao<|rs (vP b1 0) (aH (n:=1) (o':=0) X An X As (by decide) X)<|rs (vI a0.aA) (aN X AC (HS1.look 0 X) X)<|rs (vB (a0.aA==4)) (bW X X X)<|rs (vB (a0.aA==4)) (aO X)<|aK (by simp only [sc0,sc1];rfl) ?_
 refine rgs (a0.aA==4) true (Value.agg #[vI a0.aA,vS a0.aF,vI a0.aY.aU,vB a0.aY.aJ,vI a0.bY,vI a0.vN,vL kG a0.ak.length kH]) X X X X (fun hg=>(aT (n:=7) (vs:=[vI a0.aA,vS a0.aF,vI a0.aY.aU,vB a0.aY.aJ,vI a0.bY,vI a0.vN,vL kG a0.ak.length kH]) X A7 (HS1.look 0 X) AH X X))<|rgs (a0.aA==4) true (vL zQ x0.length zS) X X X X (fun hg=>(aN X B3 (kD hx0 HS1.toE) X)) ?_
 obtain ⟨v1,H1,H⟩:=bn H
 refine sJ (b:=(a0.aA==4)) (c:=true) (v:=vB v1) X X X X (fun hg=>(bC Tryz.call50 X (wF (gvt (Value.agg #[vI a0.aA,vS a0.aF,vI a0.aY.aU,vB a0.aY.aJ,vI a0.bY,vI a0.vN,vL kG a0.ak.length kH]) hg X) (gvt (vL zQ x0.length zS) hg X)) (kK.calls k a0 x0 kG kH zQ zS HS1.sees sV wL Gn Nh (bU H1 hg)))) ?_
 intro w2 hE2
 have HS2:=HS1.step hE2
 refine rgs (a0.aA==4) true (vB (!v1)) X X X X (fun hg=>(mZ (gvt (vB v1) hg X)))<|aK (by simp only [sc0,sc1];rfl) ?_
 refine rs (vB ((a0.aA==4)&&(!v1))) (dL X (fun hp=>(gvt (vB (!v1)) (gQ X hp) X)) X)<|rs (vB ((a0.aA==4)&&(!v1))) (aG X) ?_
 try simp only [sc0,sc1]
 refine aB<|ay<|AT ?_
 obtain rfl:=Ab H
 exact Ay (bD X (bK X)) X<|⟨X,HS2.toE⟩
def dH.l0 (k:Nat) (a0:aQ):Nat→Int→(List (ByteArray×Bool))→Option ((Bool)⊕((List (ByteArray×Bool))))
 |0,_,_=>none
 |m+1,aC,dG=>if (decide (aC<(a0.au.length:Int)))=true then (if 0≤aC∧aC<a0.au.length then ((jl.f k (rd ah a0.au aC) (a0.au.length:Int)).bind fun v1=>((if (true&&((!v1)==false))=true then jH.f (rd ah a0.au aC) else some false).bind fun v2=>(if ((!v1)||(v2&&((bM strEq dG ((rd ah a0.au aC).aF)).getD false)))=true then (some (.inl false)) else (dH.l0 k a0 m (IntKind.wrap .i64 (aC+1)) (iG strEq dG ((rd ah a0.au aC).aF) true))))) else none) else (some (.inr dG))
def dH.f (k:Nat) (a0:aQ):Option (Bool):=if (decide ((a0.au.length:Int)>200))=true then (some false) else ((dH.l0 k a0 k 0 ([]:List (ByteArray×Bool))).bind fun xx1=>(match xx1 with| .inl r=>some r| .inr s1=>(iT.f k a0).bind fun v3=>((if (true&&((!v3.2)==false))=true then tZ.f k a0 else some false).bind fun v4=>(if ((!v3.2)||(!v4))=true then (some false) else ((eG.f k a0.au (fun z0=>mF.f k z0 v3.1)).bind fun v5=>(some (!v5)))))))
theorem dH.calls (k:Nat) (a0:aQ) (bQ:Option Addr) (bT:Nat) {h0:View} {w0:World} (hv:lS h0 w0) (fK:Rd bI h0 bQ a0.au) (iF:a0.au.length≤bT) {r:Bool} (H:dH.f k a0=some r):Calls Tryz.prog 20 #[Value.agg #[vL bQ a0.au.length bT]] w0 (fun e w1=>e= .returned (vB r)∧Ext w0 w1):=by
 unfold dH.f at H
 have HS:St [] h0 w0 h0 [] w0:=St.init hv
 go_enter Tryz.func20,Tryz.ntmps20
 refine Al<|Ao<|dF X X (eF (cs:=#[vL bQ a0.au.length bT]) X X) ?_
 rintro w1 _ hE1 ⟨b1,rfl,ge1,hb1⟩
 have HS1:=HS.new hE1 ge1 hb1
 refine rs (vB false) (aG X) ?_
 try simp only [sc0,sc1]
 refine aB<|ay<|Al<|Al<|Ao<|rs (vP b1 0) (aH (n:=1) (o':=0) X AE X AM (by decide) X)<|rs (vL bQ a0.au.length bT) (aN X AR (HS1.look 0 X) X)<|rs (vI (a0.au.length:Int)) (jD X AF)<|rs (vB (decide ((a0.au.length:Int)>200))) (bW X X X) ?_
 try simp only [sc0,sc1]
 refine aB<|ay<|Av (t:=(decide ((a0.au.length:Int)>200))) X (fun c1=>?_) (fun c1=>?_)
 ·replace H:=bU H c1
  refine Al<|Ao<|rs (vB false) (aG X) ?_
  try simp only [sc0,sc1]
  refine aB<|ay<|AT<|bP ?_
  obtain rfl:=Ab H
  exact Ay (bD X (bK X)) X<|⟨X,HS1.toE⟩
 ·replace H:=cO H (nt c1)
  refine AN<|ay<|Al<|Ao<|uj HS1 ?_
  intro w2 b2 HS2
  refine rs (Value.map (some b2)) (aG X) ?_
  try simp only [sc0,sc1]
  refine aB<|ay<|Al<|Al<|Ao<|rs (vP b1 0) (aH (n:=1) (o':=0) X AE X AM (by decide) X)<|rs (vL bQ a0.au.length bT) (aN X AR (HS2.look 1 X) X)<|rs (vI (a0.au.length:Int)) (jD X AF)<|rs (vI 0) (aO X) ?_
  try simp only [sc0,sc1]
  refine aB<|ay ?_
  obtain ⟨xx1,H,G1⟩:=bn H
  refine jB [2,5,16,17,18,19,20,21,22,23,24,25,26,27,28,29,30,31,32,33,34,35,36,37,38,39] (fun m us w'=>∃(aC:Int),∃(dG:List (ByteArray×Bool)),∃(o8:Array MapEntry) (o9:Nat),Fit us (fun uy1=>[(uy1 0),(uy1 1),vI aC,(uy1 3),(uy1 4),(uy1 5),(uy1 6),(uy1 7),(uy1 8),(uy1 9),(uy1 10),(uy1 11),(uy1 12),(uy1 13),(uy1 14),(uy1 15),(uy1 16),(uy1 17),(uy1 18),(uy1 19),(uy1 20),(uy1 21),(uy1 22),(uy1 23),(uy1 24),(uy1 25)])∧dH.l0 k a0 m aC dG=some xx1∧oG vS vB dG o8 o9∧St [] h0 w0 h0 [(some b2, .map o8 o9),(some b1, .cells #[vL bQ a0.au.length bT] 24 (0,0))] w') (fun us w'=>∃(s1:(List (ByteArray×Bool))),xx1= .inr s1∧∃(rD:Array MapEntry) (rE:Nat),Fit us (fun uo1=>[(uo1 0),(uo1 1),(uo1 2),(uo1 3),(uo1 4),(uo1 5),(uo1 6),(uo1 7),(uo1 8),(uo1 9),(uo1 10),(uo1 11),(uo1 12),(uo1 13),(uo1 14),(uo1 15),(uo1 16),(uo1 17),(uo1 18),(uo1 19),(uo1 20),(uo1 21),(uo1 22),(uo1 23),(uo1 24),(uo1 25)])∧oG vS vB s1 rD rE∧St [] h0 w0 h0 [(some b2, .map rD rE),(some b1, .cells #[vL bQ a0.au.length bT] 24 (0,0))] w') k ⟨0,([]:List (ByteArray×Bool)),#[],0,(fit X),H,(oG.nil),HS2⟩ ?_ ?_
  ·rintro m us w3 ⟨aC,dG,o8,o9,nO,H,iE,HS3⟩
   obtain ⟨uy1,rfl⟩:=unj nO
   cases m with
   |zero=>exact absurd H (by simp [dH.l0])
   |succ m=>
    rw [dH.l0] at H
    try simp only [patch,sc0,sc1]
    refine Al<|Ao<|rs (vB (decide (aC<(a0.au.length:Int)))) (bW X X X) ?_
    try simp only [sc0,sc1]
    refine aB<|ay<|Al<|Av (t:=(decide (aC<(a0.au.length:Int)))) X (fun c2=>?_) (fun c2=>?_)
    ·replace H:=bU H c2
     refine AN<|ay<|Al<|wp_block<|Al<|Ao ?_
     obtain ⟨hi1,H⟩:=dN H
     obtain ⟨ad1,dU,dY,e1,mJ,jS,iY⟩:=gK fK hi1.1 hi1.2
     refine rs (Value.pointer (some (Addr.add ad1 (aC.toNat*7)))) (dP (sz:=7) X e1 X hi1.1 hi1.2 AF AH)<|rs (Value.agg #[vI ((rd ah a0.au aC).aA),vS ((rd ah a0.au aC).aF),vI ((rd ah a0.au aC).aY.aU),vB ((rd ah a0.au aC).aY.aJ),vI ((rd ah a0.au aC).bY),vI ((rd ah a0.au aC).vN),vL dU ((rd ah a0.au aC).ak).length dY]) (gG X A7 (mJ.sees HS3.sees) AH)<|dF X X (dO (cs:=#[vI 0,vS ByteArray.empty,vI 0,vB false,vI 0,vI 0,vL none 0 0]) A9 X) ?_
     rintro w4 _ hE2 ⟨b3,rfl,ge2,hb2⟩
     have HS4:=HS3.new hE2 ge2 hb2
     refine gJ (i:=0) (cs:=[vI 0,vS ByteArray.empty,vI 0,vB false,vI 0,vI 0,vL none 0 0]) (cs':=[vI ((rd ah a0.au aC).aA),vS ((rd ah a0.au aC).aF),vI ((rd ah a0.au aC).aY.aU),vB ((rd ah a0.au aC).aY.aJ),vI ((rd ah a0.au aC).bY),vI ((rd ah a0.au aC).vN),vL dU ((rd ah a0.au aC).ak).length dY]) (vs:=[vI ((rd ah a0.au aC).aA),vS ((rd ah a0.au aC).aF),vI ((rd ah a0.au aC).aY.aU),vB ((rd ah a0.au aC).aY.aJ),vI ((rd ah a0.au aC).bY),vI ((rd ah a0.au aC).vN),vL dU ((rd ah a0.au aC).ak).length dY]) (bs':=[(some b3, .cells #[vI ((rd ah a0.au aC).aA),vS ((rd ah a0.au aC).aF),vI ((rd ah a0.au aC).aY.aU),vB ((rd ah a0.au aC).aY.aJ),vI ((rd ah a0.au aC).bY),vI ((rd ah a0.au aC).vN),vL dU ((rd ah a0.au aC).ak).length dY] 58 (0,0)),(some b2, .map o8 o9),(some b1, .cells #[vL bQ a0.au.length bT] 24 (0,0))]) X X AH X X (by decide) X HS4 X (Ax X) X X ?_
     intro w5 HS5
     try simp only [sc0,sc1]
     refine aB<|ay<|Al<|Al<|Ao<|rs (Value.agg #[vI ((rd ah a0.au aC).aA),vS ((rd ah a0.au aC).aF),vI ((rd ah a0.au aC).aY.aU),vB ((rd ah a0.au aC).aY.aJ),vI ((rd ah a0.au aC).bY),vI ((rd ah a0.au aC).vN),vL dU ((rd ah a0.au aC).ak).length dY]) (aT (n:=7) (vs:=[vI ((rd ah a0.au aC).aA),vS ((rd ah a0.au aC).aF),vI ((rd ah a0.au aC).aY.aU),vB ((rd ah a0.au aC).aY.aJ),vI ((rd ah a0.au aC).bY),vI ((rd ah a0.au aC).vN),vL dU ((rd ah a0.au aC).ak).length dY]) X A7 (HS5.look 0 X) AH X X)<|rs (vP b1 0) (aH (n:=1) (o':=0) X AE X AM (by decide) X)<|rs (vL bQ a0.au.length bT) (aN X AR (HS5.look 2 X) X)<|rs (vI (a0.au.length:Int)) (jD X AF)<|aK (by simp only [sc0,sc1];rfl) ?_
     obtain ⟨v1,H1,H⟩:=bn H
     refine run_eq (v:=vB v1) X X (bC Tryz.call46 X X (jl.calls k (rd ah a0.au aC) (a0.au.length:Int) dU dY HS5.sees iY jS H1)) ?_
     intro w6 hE3
     have HS6:=HS5.step hE3
     refine rs (vB (!v1)) (mZ X)<|rs (vB (!v1)) (aO X)<|rgs (!v1) true (Value.agg #[vI ((rd ah a0.au aC).aA),vS ((rd ah a0.au aC).aF),vI ((rd ah a0.au aC).aY.aU),vB ((rd ah a0.au aC).aY.aJ),vI ((rd ah a0.au aC).bY),vI ((rd ah a0.au aC).vN),vL dU ((rd ah a0.au aC).ak).length dY]) X X X X (fun hg=>(aT (n:=7) (vs:=[vI ((rd ah a0.au aC).aA),vS ((rd ah a0.au aC).aF),vI ((rd ah a0.au aC).aY.aU),vB ((rd ah a0.au aC).aY.aJ),vI ((rd ah a0.au aC).bY),vI ((rd ah a0.au aC).vN),vL dU ((rd ah a0.au aC).ak).length dY]) X A7 (HS6.look 0 X) AH X X))<|aK (by simp only [sc0,sc1];rfl) ?_
     obtain ⟨v2,H2,H⟩:=bn H
     refine sJ (b:=(!v1)) (c:=true) (v:=vB v2) X X X X (fun hg=>(bC CA X (Jk (gvt (Value.agg #[vI ((rd ah a0.au aC).aA),vS ((rd ah a0.au aC).aF),vI ((rd ah a0.au aC).aY.aU),vB ((rd ah a0.au aC).aY.aJ),vI ((rd ah a0.au aC).bY),vI ((rd ah a0.au aC).vN),vL dU ((rd ah a0.au aC).ak).length dY]) hg X)) (jH.calls (rd ah a0.au aC) dU dY HS6.sees iY jS (bU H2 hg)))) ?_
     intro w7 hE4
     have HS7:=HS6.step hE4
     refine rgs (!v1) true (vB v2) X X X X (fun hg=>(aO (gvt (vB v2) hg X)))<|rgs v2 (true&&((!v1)==false)) (Value.map (some b2)) X X X X (fun hg=>(aO X))<|rgs v2 (true&&((!v1)==false)) (vP b3 1) X X X X (fun hg=>(aH (n:=1) (o':=1) X An X AW (by decide) X))<|aK (by simp only [sc0,sc1];rfl) ?_
     refine rgs v2 (true&&((!v1)==false)) (vS ((rd ah a0.au aC).aF)) X X X X (fun hg=>(aN (gvt (vP b3 1) hg X) Be (HS7.look 0 X) X))<|rgs v2 (true&&((!v1)==false)) (vB ((bM strEq dG ((rd ah a0.au aC).aF)).getD false)) X X X X (fun hg=>(yU (zh BB) (k:=((rd ah a0.au aC).aF)) (m:=dG) (ev:=vB) false (gvt (Value.map (some b2)) hg X) (gvt (vS ((rd ah a0.au aC).aF)) hg X) Cp B_ (HS7.look 1 X) iE))<|rgs (!v1) true (vB (v2&&((bM strEq dG ((rd ah a0.au aC).aF)).getD false))) X X X X (fun hg=>(dL (gvt (vB v2) hg X) (fun hp=>(gvt (vB ((bM strEq dG ((rd ah a0.au aC).aF)).getD false)) (gQ hg hp) X)) X))<|rs (vB ((!v1)||(v2&&((bM strEq dG ((rd ah a0.au aC).aF)).getD false)))) (dQ X X (fun hp=>(gvt (vB (v2&&((bM strEq dG ((rd ah a0.au aC).aF)).getD false))) (gQ X hp) X))) ?_
     try simp only [sc0,sc1]
     refine aB<|ay<|Av (t:=((!v1)||(v2&&((bM strEq dG ((rd ah a0.au aC).aF)).getD false)))) X (fun c3=>?_) (fun c3=>?_)
     ·replace H:=bU H c3
      refine Al<|Ao<|rs (vB false) (aG X) ?_
      try simp only [sc0,sc1]
      refine aB<|ay<|AT<|bP<|fA<|bP<|jm<|bP ?_
      obtain rfl:=Ab H
      obtain rfl:=Ab G1
      exact Ay (bD X (bK X)) X<|⟨X,HS7.toE⟩
     ·replace H:=cO H (nt c3)
      refine AN<|ay<|Ao<|rs (Value.map (some b2)) (aO X)<|rs (vP b3 1) (aH (n:=1) (o':=1) X An X AW (by decide) X)<|rs (vS ((rd ah a0.au aC).aF)) (aN X Be (HS7.look 0 X) X)<|Hy (zh BB) (i:=1) (k:=((rd ah a0.au aC).aF)) (v:=true) (ev:=vB) (m:=dG) (by first|exact .inl X|exact .inr X) X X X X X Cp HS7 X iE ?_
      intro w8 es1 cl1 HS8 ho1
      try simp only [sc0,sc1]
      refine aB<|dD<|ay<|Ao<|rs (vI (w64 (aC+1))) (bW X X X)<|rs (vI (w64 (aC+1))) (aO X) ?_
      try simp only [sc0,sc1]
      refine aB<|gI m (Nat.lt_succ_self m) X ⟨(w64 (aC+1)),(iG strEq dG ((rd ah a0.au aC).aF) true),es1,cl1,(fit X),H,ho1,HS8.tail⟩
    ·replace H:=cO H (nt c2)
     refine Bx<|eU ?_
     obtain rfl:=Ab H
     refine iK X ⟨_,X,o8,o9,(fit X),iE,HS3⟩
  ·rintro us w9 ⟨s1,rfl,rD,rE,nP,jr,HS9⟩
   obtain ⟨uo1,rfl⟩:=unj nP
   replace H:=G1
   clear G1
   try simp only [patch,sc0,sc1]
   refine ay<|Al<|Ao<|rs (Value.agg #[vL bQ a0.au.length bT]) (aT (n:=1) (vs:=[vL bQ a0.au.length bT]) X AI (HS9.look 1 X) AD X X) ?_
   obtain ⟨v3,H3,H⟩:=bn H
   refine dF X X (iQ Tryz.call41 X (jX (h:=h0) (R:=(fun hx u=>∃(fQ:Option Addr) (gY:Nat),u=Value.tuple #[vL fQ v3.1.length gY,vB v3.2]∧v3.1.length≤gY∧Rd (Kd.int .i64) hx fQ v3.1)) (Ext.rfl' w9) ((iT.calls k a0 bQ bT HS9.sees fK iF H3).mono ?_)) X) ?_
   ·rintro _ _ ⟨h1,fQ,gY,rfl,nJ,iy,g,ss,x⟩
    exact ⟨h1,_,X,⟨fQ,gY,X,nJ,iy⟩,g,ss,x⟩
   rintro w10 _ hE5 ⟨h1,⟨fQ,gY,rfl,nJ,iy⟩,gr1,se1⟩
   have kF:=HS9.view hE5 gr1 se1
   refine rs (Value.tuple #[vL fQ v3.1.length gY,vB v3.2]) (aO X)<|rs (vL fQ v3.1.length gY) (gV X X)<|aK (by simp only [sc0,sc1];rfl) ?_
   refine rs (vB v3.2) (gV X X)<|dF X X (dO (cs:=#[vL none 0 0]) CK X) ?_
   rintro w11 _ hE6 ⟨b4,rfl,ge3,hb3⟩
   have oC:=kF.new hE6 ge3 hb3
   refine gJ (i:=0) (cs:=[vL none 0 0]) (cs':=[vL fQ v3.1.length gY]) (vs:=[vL fQ v3.1.length gY]) (bs':=[(some b4, .cells #[vL fQ v3.1.length gY] 27 (0,0)),(some b2, .map rD rE),(some b1, .cells #[vL bQ a0.au.length bT] 24 (0,0))]) X X BY X X (by decide) X oC X (Ax X) X X ?_
   intro w12 mW
   refine rs (vB v3.2) (aG X) ?_
   try simp only [sc0,sc1]
   refine aB<|ay<|Al<|Al<|Ao<|rs (vB v3.2) (aO X)<|rs (vB (!v3.2)) (mZ X)<|rs (vB (!v3.2)) (aO X)<|rgs (!v3.2) true (Value.agg #[vL bQ a0.au.length bT]) X X X X (fun hg=>(aT (n:=1) (vs:=[vL bQ a0.au.length bT]) X AI (mW.look 2 X) AD X X))<|aK (by simp only [sc0,sc1];rfl) ?_
   obtain ⟨v4,H4,H⟩:=bn H
   refine sJ (b:=(!v3.2)) (c:=true) (v:=vB v4) X X X X (fun hg=>(bC Tryz.call47 X (Jk (gvt (Value.agg #[vL bQ a0.au.length bT]) hg X)) (tZ.calls k a0 bQ bT mW.sees (fK.ext mW.sub) iF (bU H4 hg)))) ?_
   intro w13 hE7
   have qx:=mW.step hE7
   refine rgs (!v3.2) true (vB (!v4)) X X X X (fun hg=>(mZ (gvt (vB v4) hg X)))<|rs (vB ((!v3.2)||(!v4))) (dQ X X (fun hp=>(gvt (vB (!v4)) (gQ X hp) X))) ?_
   try simp only [sc0,sc1]
   refine aB<|ay<|Av (t:=((!v3.2)||(!v4))) X (fun c4=>?_) (fun c4=>?_)
   ·replace H:=bU H c4
    refine Al<|Ao<|rs (vB false) (aG X) ?_
    try simp only [sc0,sc1]
    refine aB<|ay<|AT<|bP ?_
    obtain rfl:=Ab H
    exact Ay (bD X (bK X)) X<|⟨X,qx.toE⟩
   ·replace H:=cO H (nt c4)
    refine AN<|ay<|Al<|Ao<|rs (vP b1 0) (aH (n:=1) (o':=0) X AE X AM (by decide) X)<|rs (vL bQ a0.au.length bT) (aN X AR (qx.look 2 X) X)<|rs (Value.func (.func 49) #[] #[vP b4 0]) (qC (vs:=[vP b4 0]) X) ?_
    obtain ⟨v5,H5,H⟩:=bn H
    refine run_eq (v:=vB v5) X X (bC Tryz.call48 X X (eG.calls k a0.au (fun z0=>mF.f k z0 v3.1) bQ bT 49 [vP b4 0] qx.sees (fK.ext qx.sub) iF Tryz.call49 (fun z0 AP AQ h w hE hs hv IG Dk r H=>mF.calls k z0 v3.1 AP AQ b4 fQ gY hv IG Dk (iy.ext hs) nJ (kD (qx.look 0 X) hE) H) H5)) ?_
    intro w14 hE8
    have ru:=qx.step hE8
    refine aK (by simp only [sc0,sc1];rfl) ?_
    refine rs (vB (!v5)) (mZ X)<|rs (vB (!v5)) (aG X) ?_
    try simp only [sc0,sc1]
    refine aB<|ay<|AT ?_
    obtain rfl:=Ab H
    exact Ay (bD X (bK X)) X<|⟨X,ru.toE⟩
def fB.f:Nat→aQ→Int→Option (ByteArray)
 |0,_,_=>none
 |k+1,a0,a1=>if 0≤a1∧a1<a0.au.length then (if ((rd ah a0.au a1).aA==2)=true then ((fB.f k a0 ((rd ah a0.au a1).bY)).bind fun v1=>(if v1.size+(⟨#[32,42]⟩:ByteArray).size≤9223372036854775807 then (some (v1++(⟨#[32,42]⟩:ByteArray))) else none)) else (if ((rd ah a0.au a1).aA==3)=true then ((fB.f k a0 ((rd ah a0.au a1).bY)).bind fun v2=>(if v2.size+(⟨#[32,91]⟩:ByteArray).size≤9223372036854775807 then ((strconv_Itoa.f ((rd ah a0.au a1).vN)).bind fun v3=>(if (v2++(⟨#[32,91]⟩:ByteArray)).size+v3.size≤9223372036854775807 then (if ((v2++(⟨#[32,91]⟩:ByteArray))++v3).size+(⟨#[93]⟩:ByteArray).size≤9223372036854775807 then (some (((v2++(⟨#[32,91]⟩:ByteArray))++v3)++(⟨#[93]⟩:ByteArray))) else none) else none)) else none)) else (some ((rd ah a0.au a1).aF)))) else none
theorem fB.calls:∀(k:Nat) (a0:aQ) (a1:Int) (bQ:Option Addr) (bT:Nat) {h0:View} {w0:World} (hv:lS h0 w0) (ht:Tab w0) (fK:Rd bI h0 bQ a0.au) (iF:a0.au.length≤bT) {r:ByteArray} (H:fB.f k a0 a1=some r),Calls Tryz.prog 42 #[Value.agg #[vL bQ a0.au.length bT],vI a1] w0 (fun e w1=>e= .returned (vS r)∧Ext w0 w1):=by
 intro k
 induction k with
 |zero=>
  intros
  rename_i H
  exact absurd H (by simp [fB.f])
 |succ k ih=>
  intro a0 a1 bQ bT h0 w0 hv ht fK iF r H
  rw [fB.f] at H
  have HS:St [] h0 w0 h0 [] w0:=St.init hv
  go_enter Tryz.func42,Tryz.ntmps42
  refine Al<|Ao<|dF X X (eF (cs:=#[vL bQ a0.au.length bT]) X X) ?_
  rintro w1 _ hE1 ⟨b1,rfl,ge1,hb1⟩
  have HS1:=HS.new hE1 ge1 hb1
  refine rs (vS ByteArray.empty) (aG X) ?_
  try simp only [sc0,sc1]
  refine aB<|ay<|Al<|Ao<|rs (vP b1 0) (aH (n:=1) (o':=0) X AE X AM (by decide) X)<|rs (vL bQ a0.au.length bT) (aN X AR (HS1.look 0 X) X)<|rs (vI a1) (aO X) ?_
  obtain ⟨hi1,H⟩:=dN H
  obtain ⟨ad1,dU,dY,e1,mJ,jS,iY⟩:=gK fK hi1.1 hi1.2
  refine rs (Value.pointer (some (Addr.add ad1 (a1.toNat*7)))) (dP (sz:=7) X e1 X hi1.1 hi1.2 AF AH)<|aK (by simp only [sc0,sc1];rfl) ?_
  refine rs (Value.agg #[vI ((rd ah a0.au a1).aA),vS ((rd ah a0.au a1).aF),vI ((rd ah a0.au a1).aY.aU),vB ((rd ah a0.au a1).aY.aJ),vI ((rd ah a0.au a1).bY),vI ((rd ah a0.au a1).vN),vL dU ((rd ah a0.au a1).ak).length dY]) (gG X A7 (mJ.sees HS1.sees) AH)<|dF X X (dO (cs:=#[vI 0,vS ByteArray.empty,vI 0,vB false,vI 0,vI 0,vL none 0 0]) A9 X) ?_
  rintro w2 _ hE2 ⟨b2,rfl,ge2,hb2⟩
  have HS2:=HS1.new hE2 ge2 hb2
  refine gJ (i:=0) (cs:=[vI 0,vS ByteArray.empty,vI 0,vB false,vI 0,vI 0,vL none 0 0]) (cs':=[vI ((rd ah a0.au a1).aA),vS ((rd ah a0.au a1).aF),vI ((rd ah a0.au a1).aY.aU),vB ((rd ah a0.au a1).aY.aJ),vI ((rd ah a0.au a1).bY),vI ((rd ah a0.au a1).vN),vL dU ((rd ah a0.au a1).ak).length dY]) (vs:=[vI ((rd ah a0.au a1).aA),vS ((rd ah a0.au a1).aF),vI ((rd ah a0.au a1).aY.aU),vB ((rd ah a0.au a1).aY.aJ),vI ((rd ah a0.au a1).bY),vI ((rd ah a0.au a1).vN),vL dU ((rd ah a0.au a1).ak).length dY]) (bs':=[(some b2, .cells #[vI ((rd ah a0.au a1).aA),vS ((rd ah a0.au a1).aF),vI ((rd ah a0.au a1).aY.aU),vB ((rd ah a0.au a1).aY.aJ),vI ((rd ah a0.au a1).bY),vI ((rd ah a0.au a1).vN),vL dU ((rd ah a0.au a1).ak).length dY] 58 (0,0)),(some b1, .cells #[vL bQ a0.au.length bT] 24 (0,0))]) X X AH X X (by decide) X HS2 X (Ax X) X X ?_
  intro w3 HS3
  try simp only [sc0,sc1]
  refine aB<|ay<|Al<|Al<|Ao<|rs (vP b2 0) (aH (n:=1) (o':=0) X An X As (by decide) X)<|rs (vI ((rd ah a0.au a1).aA)) (aN X AC (HS3.look 0 X) X) ?_
  try simp only [sc0,sc1]
  refine aB<|ay<|wp_block<|Al<|Ao<|rs (vB ((rd ah a0.au a1).aA==2)) (bW X X X)<|rs (vB ((rd ah a0.au a1).aA==2)) (aG X) ?_
  try simp only [sc0,sc1]
  refine aB<|ay<|Av (t:=((rd ah a0.au a1).aA==2)) X (fun c1=>?_) (fun c1=>?_)
  ·replace H:=bU H c1
   refine Al<|Ao<|rs (Value.agg #[vL bQ a0.au.length bT]) (aT (n:=1) (vs:=[vL bQ a0.au.length bT]) X AI (HS3.look 1 X) AD X X)<|rs (vP b2 4) (aH (n:=1) (o':=4) X An X As (by decide) X)<|rs (vI ((rd ah a0.au a1).bY)) (aN X AC (HS3.look 0 X) X) ?_
   obtain ⟨v1,H1,H⟩:=bn H
   refine run_eq (v:=vS v1) X X (bC Cd X X (ih a0 ((rd ah a0.au a1).bY) bQ bT HS3.sees (ht.s HS3) fK iF H1)) ?_
   intro w4 hE3
   have HS4:=HS3.step hE3
   refine aK (by simp only [sc0,sc1];rfl) ?_
   obtain ⟨hb3,H⟩:=dN H
   refine rs (vS (v1++(⟨#[32,42]⟩:ByteArray))) (tY X X hb3)<|rs (vS (v1++(⟨#[32,42]⟩:ByteArray))) (aG X) ?_
   try simp only [sc0,sc1]
   refine aB<|ay<|AT<|fA<|bP ?_
   obtain rfl:=Ab H
   exact Ay (bD X (bK X)) X<|⟨X,HS4.toE⟩
  ·replace H:=cO H (nt c1)
   refine Al<|Ao<|rs (vB ((rd ah a0.au a1).aA==3)) (bW X X X)<|rs (vB ((rd ah a0.au a1).aA==3)) (aG X) ?_
   try simp only [sc0,sc1]
   refine aB<|ay<|Av (t:=((rd ah a0.au a1).aA==3)) X (fun c2=>?_) (fun c2=>?_)
   ·replace H:=bU H c2
    refine Al ?_
    obtain ⟨v2,H2,H⟩:=bn H
    obtain ⟨hb4,H⟩:=dN H
    obtain ⟨v3,H3,H⟩:=bn H
    obtain ⟨hb5,H⟩:=dN H
    obtain ⟨hb6,H⟩:=dN H
    refine drawn [.eq (Value.agg #[vL bQ a0.au.length bT]), .eq (vP b2 4), .eq (vI ((rd ah a0.au a1).bY)), .eq (vS v2), .eq (vS (v2++(⟨#[32,91]⟩:ByteArray))), .eq (vP b2 5), .eq (vI ((rd ah a0.au a1).vN)), .eq (vS v3), .eq (vS ((v2++(⟨#[32,91]⟩:ByteArray))++v3)), .eq (vS (((v2++(⟨#[32,91]⟩:ByteArray))++v3)++(⟨#[93]⟩:ByteArray)))] [22,23,24,25,26,27,28,29,30,31] rM (by kernel_rfl) X (aP (aP (aP (aP (aP (aP (aP (aP (aP (aP iJ)))))))))) ⟨aX X (fun a' w' hE hk=>by exact aW (aT (n:=1) (vs:=[vL bQ a0.au.length bT]) (show _=vP b1 0 from hk 2 X) AI ((HS3.step hE).look 1 X) AD X X)),aX X (fun a' w' hE hk=>by exact aW (aH (n:=1) (o':=4) (show _=vP b2 0 from hk 5 X) An X As (by decide) X)),aX X (fun a' w' hE hk=>by exact aW (aN (show _=vP b2 4 from hk 23 X) AC ((HS3.step hE).look 0 X) X)),aX X (fun a' w' hE hk=>by have HSd:=HS3.step hE;exact (bC Cd X (wF (show _=Value.agg #[vL bQ a0.au.length bT] from hk 22 X) (show _=vI ((rd ah a0.au a1).bY) from hk 24 X)) (ih a0 ((rd ah a0.au a1).bY) bQ bT HSd.sees (ht.s HSd) fK iF H2))),aX X (fun a' w' hE hk=>by exact aW (tY (show _=vS v2 from hk 25 X) X hb4)),aX X (fun a' w' hE hk=>by exact aW (aH (n:=1) (o':=5) (show _=vP b2 0 from hk 5 X) An X As (by decide) X)),aX X (fun a' w' hE hk=>by exact aW (aN (show _=vP b2 5 from hk 27 X) AC ((HS3.step hE).look 0 X) X)),aX X (fun a' w' hE hk=>by have HSd:=HS3.step hE;exact (bC Tryz.call69 X (Jk (show _=vI ((rd ah a0.au a1).vN) from hk 28 X)) (strconv_Itoa.calls ((rd ah a0.au a1).vN) HSd.sees (ht.s HSd) H3))),aX X (fun a' w' hE hk=>by exact aW (tY (show _=vS (v2++(⟨#[32,91]⟩:ByteArray)) from hk 26 X) (show _=vS v3 from hk 29 X) hb5)),aX X (fun a' w' hE hk=>by exact aW (tY (show _=vS ((v2++(⟨#[32,91]⟩:ByteArray))++v3) from hk 30 X) X hb6)),trivial⟩ ?_
    intro w5 hE4
    simp only [List.zip_cons_cons,List.zip_nil_left,List.zip_nil_right,vO,sc0,sc1,List.length_cons,List.length_nil,List.drop_succ_cons,List.drop_zero,Nat.zero_add,Nat.reduceAdd]
    have HS5:=HS3.step hE4
    refine rs (vS (((v2++(⟨#[32,91]⟩:ByteArray))++v3)++(⟨#[93]⟩:ByteArray))) (aG X) ?_
    try simp only [sc0,sc1]
    refine aB<|ay<|AT<|fA<|bP ?_
    obtain rfl:=Ab H
    exact Ay (bD X (bK X)) X<|⟨X,HS5.toE⟩
   ·replace H:=cO H (nt c2)
    refine AN<|dD<|ay<|Al<|Ao<|rs (vP b2 1) (aH (n:=1) (o':=1) X An X AW (by decide) X)<|rs (vS ((rd ah a0.au a1).aF)) (aN X Be (HS3.look 0 X) X)<|rs (vS ((rd ah a0.au a1).aF)) (aG X) ?_
    try simp only [sc0,sc1]
    refine aB<|ay<|AT ?_
    obtain rfl:=Ab H
    exact Ay (bD X (bK X)) X<|⟨X,HS3.toE⟩
def fG.l0 (k:Nat) (a1:aQ):Nat→Int→(List Int)→(List dR)→(List (ByteArray×Int))→Option ((List Int)×(List dR)×(List (ByteArray×Int)))
 |0,_,_,_,_=>none
 |m+1,aC,dG,o7,sK=>if (decide (aC<(a1.au.length:Int)))=true then ((fB.f k a1 aC).bind fun v1=>(((if (!((bM strEq sK v1).isSome))=true then (if o7.length+1≤4294967296 then (some (((o7.length:Nat):Int),(o7++([(⟨(⟨a1.au⟩:aQ),aC⟩:dR)]:List dR)),(iG strEq sK v1 ((o7.length:Nat):Int)))) else none) else (some (((bM strEq sK v1).getD 0),o7,sK))):Option (Int×(List dR)×(List (ByteArray×Int)))).bind fun xx2=>(if dG.length+1≤4294967296 then (fG.l0 k a1 m (IntKind.wrap .i64 (aC+1)) (dG++([xx2.1]:List Int)) xx2.2.1 xx2.2.2) else none))) else (some (dG,o7,sK))
def fG.f (k:Nat) (HY:List (ByteArray×Int)) (lI:List dR) (a1:aQ):Option ((List Int)×(List (ByteArray×Int))×(List dR)):=(fG.l0 k a1 k 0 ([]:List Int) lI HY).bind fun xx1=>(some (xx1.1,xx1.2.2,xx1.2.1))
theorem fG.calls (k:Nat) (HY:List (ByteArray×Int)) (lI:List dR) (a1:aQ) (bp0:Nat) (oM:Nat) (uo:Array MapEntry) (uq:Nat) (oh:Option Nat) (xH:Nat) (sN:List Value) (iM:Option Addr) (iO:Nat) {h0:View} {w0:World} {h:View} {w:World} {rest:List Res} (HS:St [] h0 w0 h ((some bp0, .cells #[Value.map (some oM),vL (rowA oh) lI.length xH] 67 (0,0))::(some oM, .map uo uq)::(oh, .cells (sN).toArray 96 (0,0))::rest) w) (ht:Tab w0) (Nj:oG vS (vI) HY uo uq) (xE:gU lq h lI oh lI.length xH sN) (kX:Rd bI h iM a1.au) (pK:a1.au.length≤iO) {r:(List Int)×(List (ByteArray×Int))×(List dR)} (H:fG.f k HY lI a1=some r):Calls Tryz.prog 21 #[vP bp0 0,Value.agg #[vL iM a1.au.length iO]] w (fun e w1=>∃(Dl:Option Nat) (Nk:Nat) (Gs:List Value),∃(Js:Array MapEntry) (Jt:Nat),∃(E8:Option Nat) (Nl:Nat) (Ju:List Value),e= .returned (vL (rowA Dl) r.1.length Nk)∧gU (Kd.int .i64) h r.1 Dl r.1.length Nk Gs∧oG vS (vI) r.2.1 Js Jt∧gU lq h r.2.2 E8 r.2.2.length Nl Ju∧St [] h0 w0 h ((Dl, .cells (Gs).toArray 3 (0,0))::(some bp0, .cells #[Value.map (some oM),vL (rowA E8) r.2.2.length Nl] 67 (0,0))::(some oM, .map Js Jt)::(E8, .cells (Ju).toArray 96 (0,0))::rest) w1):=by
 unfold fG.f at H
 have hsub:Sub h h:=Sub.rfl' h
 go_enter Tryz.func21,Tryz.ntmps21
 refine Al<|Ao<|dF X X (eF (cs:=#[vL iM a1.au.length iO]) X X) ?_
 rintro w1 _ hE1 ⟨b1,rfl,ge1,hb1⟩
 have HS1:=HS.new hE1 ge1 hb1
 refine rs (vL none 0 0) (aG X) ?_
 try simp only [sc0,sc1]
 refine aB<|ay<|Al<|Ao<|rs (vL none 0 0) (aG X) ?_
 try simp only [sc0,sc1]
 refine aB<|ay<|Al<|Al<|Ao<|rs (vP b1 0) (aH (n:=1) (o':=0) X AE X AM (by decide) X)<|rs (vL iM a1.au.length iO) (aN X AR (HS1.look 0 X) X)<|rs (vI (a1.au.length:Int)) (jD X AF)<|rs (vI 0) (aO X) ?_
 try simp only [sc0,sc1]
 refine aB<|ay ?_
 have HS2:=HS1.nothing (.cells ([]:List Value).toArray 3 (0,0))
 obtain ⟨xx1,H,G1⟩:=bn H
 refine jB [5,6,7,8,9,13,14,15,16,17,18,19,20,21,22,23,24,25,26,27,28,29,30,31,32,33,34,35,36,37,38,39,40,41,42,43,44,45,46,47,48,49,50,51,52,53,54,55,56,57] (fun m us w'=>∃aC:Int,∃dG:List Int,∃o7:List dR,∃(sK:List (ByteArray×Int)),∃(fC:Option Nat) (jv:Nat),∃(eH:List Value),∃(rC:Option Nat) (yS:Nat),∃(xC:List Value),∃(Gt:Array MapEntry) (Gu:Nat),Fit us (fun uy1=>[vL (rowA fC) dG.length jv,(uy1 1),(uy1 2),(uy1 3),(uy1 4),vI aC,(uy1 6),(uy1 7),(uy1 8),(uy1 9),(uy1 10),(uy1 11),(uy1 12),(uy1 13),(uy1 14),(uy1 15),(uy1 16),(uy1 17),(uy1 18),(uy1 19),(uy1 20),(uy1 21),(uy1 22),(uy1 23),(uy1 24),(uy1 25),(uy1 26),(uy1 27),(uy1 28),(uy1 29),(uy1 30),(uy1 31),(uy1 32),(uy1 33),(uy1 34),(uy1 35),(uy1 36),(uy1 37),(uy1 38),(uy1 39),(uy1 40),(uy1 41),(uy1 42),(uy1 43),(uy1 44),(uy1 45),(uy1 46),(uy1 47),(uy1 48),(uy1 49)])∧fG.l0 k a1 m aC dG o7 sK=some xx1∧gU (Kd.int .i64) h dG fC dG.length jv eH∧gU lq h o7 rC o7.length yS xC∧oG vS (vI) sK Gt Gu∧St [] h0 w0 h ((fC, .cells (eH).toArray 3 (0,0))::(some b1, .cells #[vL iM a1.au.length iO] 24 (0,0))::(some bp0, .cells #[Value.map (some oM),vL (rowA rC) o7.length yS] 67 (0,0))::(some oM, .map Gt Gu)::(rC, .cells (xC).toArray 96 (0,0))::rest) w') (fun us w'=>∃(eP:Option Nat) (jo:Nat),∃(iw:List Value),∃(tV:Option Nat) (AO:Nat),∃(qJ:List Value),∃(Jv:Array MapEntry) (Jw:Nat),Fit us (fun uo1=>[vL (rowA eP) xx1.1.length jo,(uo1 1),(uo1 2),(uo1 3),(uo1 4),(uo1 5),(uo1 6),(uo1 7),(uo1 8),(uo1 9),(uo1 10),(uo1 11),(uo1 12),(uo1 13),(uo1 14),(uo1 15),(uo1 16),(uo1 17),(uo1 18),(uo1 19),(uo1 20),(uo1 21),(uo1 22),(uo1 23),(uo1 24),(uo1 25),(uo1 26),(uo1 27),(uo1 28),(uo1 29),(uo1 30),(uo1 31),(uo1 32),(uo1 33),(uo1 34),(uo1 35),(uo1 36),(uo1 37),(uo1 38),(uo1 39),(uo1 40),(uo1 41),(uo1 42),(uo1 43),(uo1 44),(uo1 45),(uo1 46),(uo1 47),(uo1 48),(uo1 49)])∧gU (Kd.int .i64) h xx1.1 eP xx1.1.length jo iw∧gU lq h xx1.2.1 tV xx1.2.1.length AO qJ∧oG vS (vI) xx1.2.2 Jv Jw∧St [] h0 w0 h ((eP, .cells (iw).toArray 3 (0,0))::(some b1, .cells #[vL iM a1.au.length iO] 24 (0,0))::(some bp0, .cells #[Value.map (some oM),vL (rowA tV) xx1.2.1.length AO] 67 (0,0))::(some oM, .map Jv Jw)::(tV, .cells (qJ).toArray 96 (0,0))::rest) w') k ⟨0,([]:List Int),lI,HY,none,0,([]:List Value),oh,xH,sN,uo,uq,(fit X),H,(gU.none' (Kd.int .i64) _).norm,xE.norm,Nj,HS2⟩ ?_ ?_
 ·rintro m us w2 ⟨aC,dG,o7,sK,fC,jv,eH,rC,yS,xC,Gt,Gu,nO,H,iE,Et,yV,HS3⟩
  obtain ⟨uy1,rfl⟩:=unj nO
  cases m with
  |zero=>exact absurd H (by simp [fG.l0])
  |succ m=>
   rw [fG.l0] at H
   try simp only [patch,sc0,sc1]
   refine Al<|Ao<|rs (vB (decide (aC<(a1.au.length:Int)))) (bW X X X) ?_
   try simp only [sc0,sc1]
   refine aB<|ay<|Al<|Av (t:=(decide (aC<(a1.au.length:Int)))) X (fun c1=>?_) (fun c1=>?_)
   ·replace H:=bU H c1
    refine AN<|ay<|Al<|wp_block<|Al<|Ao<|rs (vI aC) (aO X)<|rs (vI aC) (aG X) ?_
    try simp only [sc0,sc1]
    refine aB<|ay<|Al<|Ao<|rs (Value.agg #[vL iM a1.au.length iO]) (aT (n:=1) (vs:=[vL iM a1.au.length iO]) X AI (HS3.look 1 X) AD X X)<|rs (vI aC) (aO X) ?_
    obtain ⟨v1,H1,H⟩:=bn H
    refine run_eq (v:=vS v1) X X (bC Cd X X (fB.calls k a1 aC iM iO HS3.sees (ht.s HS3) kX pK H1)) ?_
    intro w3 hE2
    have HS4:=HS3.step hE2
    refine rs (vS v1) (aG X) ?_
    try simp only [sc0,sc1]
    refine aB<|ay<|Al<|Ao<|rs (vP bp0 0) (aO X)<|rs (vP bp0 0) (pI X)<|rs (vP bp0 0) (aH (n:=1) (o':=0) X BV X Cz (by decide) X)<|rs (Value.map (some oM)) (aN X C2 (HS4.look 2 X) X)<|aK (by simp only [sc0,sc1];rfl) ?_
    refine rs (vS v1) (aO X)<|rs (Value.tuple #[vI ((bM strEq sK v1).getD 0),vB ((bM strEq sK v1).isSome)]) (Md (zh BB) (k:=v1) (m:=sK) (ev:=(vI)) 0 X X CC Bb (HS4.look 3 X) yV)<|rs (Value.tuple #[vI ((bM strEq sK v1).getD 0),vB ((bM strEq sK v1).isSome)]) (aO X)<|rs (vI ((bM strEq sK v1).getD 0)) (gV X X)<|aK (by simp only [sc0,sc1];rfl) ?_
    refine rs (vB ((bM strEq sK v1).isSome)) (gV X X)<|rs (vI ((bM strEq sK v1).getD 0)) (aG X)<|rs (vB ((bM strEq sK v1).isSome)) (aG X) ?_
    try simp only [sc0,sc1]
    refine aB<|ay<|Al<|Al<|Ao<|rs (vB ((bM strEq sK v1).isSome)) (aO X)<|rs (vB (!((bM strEq sK v1).isSome))) (mZ X) ?_
    try simp only [sc0,sc1]
    refine aB<|ay ?_
    obtain ⟨xx2,H,G2⟩:=bn H
    refine kT [8,30,31,32,33,34,35,36,37,38,39,40,41,42,43,44,45,46,47,48,49,50,51,52] (fun us w'=>∃(Gv:Option Nat) (Qd:Nat),∃(Jy:List Value),∃(Jz:Array MapEntry) (JA:Nat),Fit us (fun uj1=>[vI xx2.1,(uj1 1),(uj1 2),(uj1 3),(uj1 4),(uj1 5),(uj1 6),(uj1 7),(uj1 8),(uj1 9),(uj1 10),(uj1 11),(uj1 12),(uj1 13),(uj1 14),(uj1 15),(uj1 16),(uj1 17),(uj1 18),(uj1 19),(uj1 20),(uj1 21),(uj1 22),(uj1 23)])∧gU lq h xx2.2.1 Gv xx2.2.1.length Qd Jy∧oG vS (vI) xx2.2.2 Jz JA∧St [] h0 w0 h ((fC, .cells (eH).toArray 3 (0,0))::(some b1, .cells #[vL iM a1.au.length iO] 24 (0,0))::(some bp0, .cells #[Value.map (some oM),vL (rowA Gv) xx2.2.1.length Qd] 67 (0,0))::(some oM, .map Jz JA)::(Gv, .cells (Jy).toArray 96 (0,0))::rest) w') ?_ ?_
    ·refine Av (t:=(!((bM strEq sK v1).isSome))) X (fun c2=>?_) (fun c2=>?_)
     ·replace H:=bU H c2
      refine Al<|Ao<|rs (vP bp0 0) (aO X)<|rs (vP bp0 0) (pI X)<|rs (vP bp0 1) (aH (n:=1) (o':=1) X BV X Cf (by decide) X)<|rs (vL (rowA rC) o7.length yS) (aN X CE (HS4.look 2 X) X)<|aK (by simp only [sc0,sc1];rfl) ?_
      refine rs (vI ((o7.length:Nat):Int)) (BP X B7)<|rs (vI ((o7.length:Nat):Int)) (aG X) ?_
      try simp only [sc0,sc1]
      refine aB<|ay<|Al<|Ao<|rs (vP bp0 0) (aO X)<|rs (vP bp0 0) (pI X)<|rs (vP bp0 0) (aH (n:=1) (o':=0) X BV X Cz (by decide) X)<|rs (Value.map (some oM)) (aN X C2 (HS4.look 2 X) X)<|aK (by simp only [sc0,sc1];rfl) ?_
      refine rs (vS v1) (aO X)<|rs (vI ((o7.length:Nat):Int)) (aO X)<|Hy (zh BB) (i:=3) (k:=v1) (v:=((o7.length:Nat):Int)) (ev:=(vI)) (m:=sK) (by first|exact .inl X|exact .inr X) X X X X X CC HS4 X yV ?_
      intro w4 es1 cl1 HS5 ho1
      try simp only [sc0,sc1]
      refine aB<|ay<|mg [([41,42,43,44,45,46,47,48],[0,1,2,3,4,5,6,7]),([],[0,1,2,3,4]),([51,52],[0,10,11]),([],[])] [8,9,12] [[],[],[1],[1,2],[1,2,3],[],[],[5,6],[5,6,7],[1,2,3,4,5,6,7,8],[0,1,2,3,4,5,6,7,8,9],[0,1,2,3,4,5,6,7,8,9,10],[0,1,2,3,4,5,6,7,8,9,10,11]] rM (by kernel_rfl) ?_
      intro w5 hE3
      have HS6:=HS5.step hE3
      refine iR [vP bp0 0,vP bp0 0,vP bp0 0,vP bp0 1,vL (rowA rC) o7.length yS,Value.agg #[vL iM a1.au.length iO],vI aC,Value.agg #[vL iM a1.au.length iO,vI aC]] ?_ X X ?_
      ·try simp only [patch,sc0,sc1]
       exact bF (bG (v:=vP bp0 0) X X X X (aO X)) (bF (bG (v:=vP bp0 0) X X X X (aO X)) (bF (bG (v:=vP bp0 0) X X X X (pI X)) (bF (bG (v:=vP bp0 1) X X X X (aH (n:=1) (o':=1) X BV X Cf (by decide) X)) (bF (bG (v:=vL (rowA rC) o7.length yS) X X X X (aN X CE (HS6.look 2 X) X)) (bF (bG (v:=Value.agg #[vL iM a1.au.length iO]) X X X X (aT (n:=1) (vs:=[vL iM a1.au.length iO]) X AI (HS6.look 1 X) AD X X)) (bF (bG (v:=vI aC) X X X X (aO X)) (bF (bG (v:=Value.agg #[vL iM a1.au.length iO,vI aC]) X X X X (jy (cs:=[vL iM a1.au.length iO,vI aC]) (ps:=[(0,Value.agg #[vL iM a1.au.length iO]),(1,vI aC)]) Cy Cq (pl:=#[(0,1),(1,1)]) (fun w=>by simp [Tryz.sizeOf24,Tryz.sizeOf3]) (qp (show _=Value.agg #[vL iM a1.au.length iO] from X) (show _=vI aC from X)) X)) (iH))))))))
      try simp only [patch,sc0,sc1]
      refine ng lq (xs:=([(⟨(⟨a1.au⟩:aQ),aC⟩:dR)]:List dR)) (n:=1) (cs:=[vL iM a1.au.length iO,vI aC]) B7 DA Cy X X (by decide) (by decide) (by decide) [Value.agg #[vL iM a1.au.length iO,vI aC]] (jd.trans X) X X X X (fH (qs:=[vL iM a1.au.length iO,vI aC]) ⟨[vL iM a1.au.length iO],[vI aC],X,⟨iM,iO,X,pK,kX⟩,X⟩ (jc (cs:=[]))) HS6 ?_
      intro w6 b2 HS7 ho2
      refine lY ?_
      try simp only [sc0,sc1]
      refine iR [] ?_ X X ?_
      ·try simp only [patch,sc0,sc1]
       exact bF (bG (v:=vP bp0 0) X X X X (aO X)) (bF (bG (v:=vP bp0 0) X X X X (aO X)) (bF (bG (v:=vP bp0 0) X X X X (pI X)) (bF (bG (v:=vP bp0 1) X X X X (aH (n:=1) (o':=1) X BV X Cf (by decide) X)) (bF (bG (v:=vL (rowA rC) o7.length yS) X X X X (aN X CE (HS7.look 3 X) X)) (iH)))))
      try simp only [patch,sc0,sc1]
      obtain ⟨hl1,H⟩:=dN H
      refine oD lq (q:=5) (cs:=xC) X X B7 DA Cy X (by decide) X (ni B7 HS7 (i:=0) X ho2 X) ho2.len (iC ho2) hl1 HS7 X Et ?_
      intro w7 ob1 c3 cs1 HS8 ho3
      refine lY ?_
      try simp only [sc0,sc1]
      refine iR [vP bp0 0,vP bp0 1] ?_ X X ?_
      ·try simp only [patch,sc0,sc1]
       exact bF (bG (v:=vP bp0 0) X X X X (aO X)) (bF (bG (v:=vP bp0 0) X X X X (pI X)) (bF (bG (v:=vP bp0 1) X X X X (aH (n:=1) (o':=1) X BV X Cf (by decide) X)) (iH)))
      try simp only [patch,sc0,sc1]
      refine gJ (i:=3) (cs:=[Value.map (some oM),vL (rowA rC) o7.length yS]) (cs':=[Value.map (some oM),vL (rowA ob1) (o7.length+1) c3]) (vs:=[vL (rowA ob1) (o7.length+1) c3]) (bs':=(((some b2), .cells ([vL iM a1.au.length iO,vI aC]).toArray 96 (0,0))::(fC, .cells (eH).toArray 3 (0,0))::(some b1, .cells #[vL iM a1.au.length iO] 24 (0,0))::(some bp0, .cells #[Value.map (some oM),vL (rowA ob1) (o7.length+1) c3] 67 (0,0))::(some oM, .map es1 cl1)::(ob1, .cells (cs1).toArray 96 (0,0))::rest)) X X Cf X X (by decide) X HS8 X (Ax X) X X ?_
      intro w8 HS9
      refine lY ?_
      try simp only [sc0,sc1]
      refine nU [] ?_ ?_
      ·try simp only [patch,sc0,sc1]
       exact iH
      try simp only [patch,sc0,sc1]
      obtain rfl:=Ab H
      have kF:St [] h0 w0 h (((some b2), .cells ([vL iM a1.au.length iO,vI aC]).toArray 96 (0,0))::(fC, .cells (eH).toArray 3 (0,0))::(some b1, .cells #[vL iM a1.au.length iO] 24 (0,0))::(some bp0, .cells #[Value.map (some oM),vL (rowA ob1) ((o7++([(⟨(⟨a1.au⟩:aQ),aC⟩:dR)]:List dR)).length) c3] 67 (0,0))::(some oM, .map es1 cl1)::(ob1, .cells (cs1).toArray 96 (0,0))::rest) w8:=HS9.cast (by first|rfl|(rw [ho3.len];done)|(rw [ho3.len];rfl))
      have ho4:=ho3.norm
      refine oH X ⟨ob1,c3,cs1,es1,cl1,(fit (by first|rfl|(rw [ho3.len];done)|(rw [ho3.len];rfl))),ho4.norm,ho1,kF.tail⟩
     ·replace H:=cO H (nt c2)
      refine AN ?_
      obtain rfl:=Ab H
      refine oH X ⟨rC,yS,xC,Gt,Gu,(fit X),Et.norm,yV,HS4⟩
    ·rintro us w9 ⟨Gv,Qd,Jy,Jz,JA,AB,UU,UW,oC⟩
     obtain ⟨uj1,rfl⟩:=unj AB
     replace H:=G2
     clear G2
     try simp only [patch,sc0,sc1]
     refine Ao<|rs (vL (rowA fC) dG.length jv) (aO X)<|rs (vI xx2.1) (aO X)<|ng (Kd.int .i64) (xs:=([xx2.1]:List Int)) (n:=1) (cs:=[vI xx2.1]) AG Br Bb X X (by decide) (by decide) (by decide) [vI xx2.1] (jd.trans X) X X X X (fH (qs:=[vI xx2.1]) X (jc (cs:=[]))) oC ?_
     intro w10 b3 mW ho5
     obtain ⟨hl2,H⟩:=dN H
     refine oD (Kd.int .i64) (q:=1) (cs:=eH) X X AG Br Bb X (by decide) X (ni AG mW (i:=0) X ho5 X) ho5.len (iC ho5) hl2 mW X iE ?_
     intro w11 ob2 c4 cs2 qx ho6
     refine aK (by simp only [sc0,sc1];rfl) ?_
     refine rs (vL (rowA ob2) (dG.length+1) c4) (aG X) ?_
     try simp only [sc0,sc1]
     refine aB<|dD<|ay<|Ao<|rs (vI (w64 (aC+1))) (bW X X X)<|rs (vI (w64 (aC+1))) (aO X) ?_
     try simp only [sc0,sc1]
     refine aB<|gI m (Nat.lt_succ_self m) X ⟨(w64 (aC+1)),(dG++([xx2.1]:List Int)),xx2.2.1,xx2.2.2,ob2,c4,cs2,Gv,Qd,Jy,Jz,JA,(fit (by first|rfl|(rw [ho6.len];done)|(rw [ho6.len];rfl))),H,ho6.norm,UU.norm,UW,qx.tail⟩
   ·replace H:=cO H (nt c1)
    refine Bx<|eU ?_
    obtain rfl:=Ab H
    refine iK X ⟨fC,jv,eH,rC,yS,xC,Gt,Gu,(fit X),iE.norm,Et.norm,yV,HS3⟩
 ·rintro us w12 ⟨eP,jo,iw,tV,AO,qJ,Jv,Jw,nP,jr,Bj,Bg,ru⟩
  obtain ⟨uo1,rfl⟩:=unj nP
  replace H:=G1
  clear G1
  try simp only [patch,sc0,sc1]
  refine ay<|Al<|Ao<|rs (vL (rowA eP) xx1.1.length jo) (aO X)<|rs (vL (rowA eP) xx1.1.length jo) (aG X) ?_
  try simp only [sc0,sc1]
  refine aB<|ay<|AT ?_
  obtain rfl:=Ab H
  refine Ay (bD X (bK X)) X ?_
  have sW:=ru.d1
  exact ⟨eP,jo,iw,Jv,Jw,tV,AO,qJ,X,jr,Bg,Bj,sW⟩
def iI.f (a0:List bf):Option (List bf):=if a0.length≤4294967296 then some a0 else none
theorem iI.calls (a0:List bf) (bQ:Option Addr) (bT:Nat) {h0:View} {w0:World} {h:View} {w:World} {rest:List Res} (HS:St [] h0 w0 h (rest) w) (fK:Rd dw h bQ a0) (iF:a0.length≤bT) {r:(List bf)} (H:iI.f a0=some r):Calls Tryz.prog 57 #[vL bQ a0.length bT] w (fun e w1=>∃(Dl:Option Nat) (Nk:Nat) (Gs:List Value),e= .returned (vL (rowA Dl) r.length Nk)∧gU dw h r Dl r.length Nk Gs∧St [] h0 w0 h ((Dl, .cells (Gs).toArray 48 (0,0))::rest) w1):=by
 unfold iI.f at H
 obtain ⟨hl,H⟩:=dN H
 obtain rfl:=Ab H
 go_enter Tryz.func57,Tryz.ntmps57
 refine Al<|Ao<|rs (vL none 0 0) (aG X) ?_
 try simp only [sc0,sc1]
 refine aB<|ay<|Al<|Al<|Ao<|rs (vL bQ a0.length bT) (aO X)<|rs (vB bQ.isNone) (PZ X X AK) ?_
 try simp only [sc0,sc1]
 refine aB<|ay<|Av (t:=bQ.isNone) X (fun cn=>?_) (fun cn=>?_)
 ·have ha:a0=[]:=by
   cases a0 with
   |nil=>rfl
   |cons x xs=>
    obtain ⟨ad,e,_⟩:=fK.2 (by simp)
    subst e
    cases cn
  subst ha
  refine Al<|Ao<|rs (vL none 0 0) (aG X) ?_
  try simp only [sc0,sc1]
  exact aB<|ay<|AT<|bP<|Ay (bD X (bK X)) X<|⟨none,0,[],X,gU.none' _ _,HS.nothing _⟩
 ·refine AN<|ay<|Al<|Ao<|Ik dw AK Cs HS ?_
  intro w1 b1 HS1 ho1
  refine rs (vL bQ a0.length bT) (aO X) ?_
  obtain ⟨nw1,sr1,hn1⟩:=MJ (c:=bT) E5 AK HS1.sees fK
  refine oD dw (q:=0) (cs:=[]) X X AK Cs Bm X (by decide) X sr1 X hn1 (by omega) HS1 X ho1 ?_
  intro w2 ob2 c2 cs2 HS2 ho2
  refine rs (vL (rowA ob2) (0+a0.length) c2) (aG X) ?_
  try simp only [sc0,sc1]
  refine aB<|ay<|AT<|Ay (bD X (bK X)) X ?_
  have ho3:=ho2.norm
  simp only [List.nil_append] at ho3
  exact ⟨ob2,c2,cs2,by simp,ho3,HS2⟩
def jI.l0 (a1:(Int→Option Int)) (v1:(List bf)):Nat→Int→(List bf)→Option ((List bf))
 |0,_,_=>none
 |m+1,aC,dG=>if (decide (aC<((v1.length:Nat):Int)))=true then (if 0≤aC∧aC<((v1.length:Nat):Int) then ((a1 ((rd aj dG aC).vType)).bind fun v4=>(if 0≤aC∧aC<((v1.length:Nat):Int) then (jI.l0 a1 v1 m (IntKind.wrap .i64 (aC+1)) (List.set dG aC.toNat (⟨(rd aj dG aC).aF,v4,(rd aj dG aC).vAt⟩:bf))) else none)) else none) else (some dG)
def jI.f (k:Nat) (a0:aZ) (a1:Int→Option Int):Option (aZ):=(iI.f a0.ak).bind fun v1=>((nV.f).bind fun v2=>(((if ((bM ieq v2 a0.aA).getD aI).mD=true then ((a1 a0.bY).bind fun v3=>(some v3)) else (some a0.bY)):Option (Int)).bind fun xx1=>(if (a0.aA==4)=true then ((jI.l0 a1 v1 k 0 v1).bind fun xx2=>(some (⟨a0.aA,a0.aF,(⟨a0.aY.aU,a0.aY.aJ⟩:jE),xx1,a0.vN,xx2⟩:aZ))) else (some (⟨a0.aA,a0.aF,(⟨a0.aY.aU,a0.aY.aJ⟩:jE),xx1,a0.vN,v1⟩:aZ)))))
theorem jI.calls (k:Nat) (a0:aZ) (a1:Int→Option Int) (kG:Option Addr) (kH:Nat) (Eb:Nat) (cap1:List Value) {h0:View} {w0:World} (hv:lS h0 w0) (sV:Rd dw h0 kG a0.ak) (wL:a0.ak.length≤kH) (KF:∀args w,(callFunc Eb args).run Tryz.prog w= .ok (.enter Eb args) w) (Ul:∀(z0:Int) (h:View) (w:World),Ext w0 w→Sub h0 h→lS h w→∀(r:Int),a1 z0=some r→Calls Tryz.prog Eb ([vI z0]++cap1).toArray w (fun e w1=>e= .returned (vI r)∧Ext w w1)) {r:aZ} (H:jI.f k a0 a1=some r):Calls Tryz.prog 27 #[Value.agg #[vI a0.aA,vS a0.aF,vI a0.aY.aU,vB a0.aY.aJ,vI a0.bY,vI a0.vN,vL kG a0.ak.length kH],Value.func (.func Eb) #[] cap1.toArray] w0 (fun e w1=>∃(h1:View) (kG:Option Addr) (kH:Nat),e= .returned (Value.agg #[vI r.aA,vS r.aF,vI r.aY.aU,vB r.aY.aJ,vI r.bY,vI r.vN,vL kG r.ak.length kH])∧r.ak.length≤kH∧Rd dw h1 kG r.ak∧Gr w0.heap.size h0 h1∧lS h1 w1∧Ext w0 w1):=by
 unfold jI.f at H
 have HS:St [] h0 w0 h0 [] w0:=St.init hv
 go_enter Tryz.func27,Tryz.ntmps27
 refine Al<|Ao<|dF X X (eF (cs:=#[vI a0.aA,vS a0.aF,vI a0.aY.aU,vB a0.aY.aJ,vI a0.bY,vI a0.vN,vL kG a0.ak.length kH]) X X) ?_
 rintro w1 _ hE1 ⟨b1,rfl,ge1,hb1⟩
 have HS1:=HS.new hE1 ge1 hb1
 refine dF X X (dO (cs:=#[vI 0,vS ByteArray.empty,vI 0,vB false,vI 0,vI 0,vL none 0 0]) A9 X) ?_
 rintro w2 _ hE2 ⟨b2,rfl,ge2,hb2⟩
 have HS2:=HS1.new hE2 ge2 hb2
 try simp only [sc0,sc1]
 refine aB<|ay<|Al<|Ao<|rs (vP b1 6) (aH (n:=1) (o':=6) X An X A4 (by decide) X)<|rs (vL kG a0.ak.length kH) (aN X Bs (HS2.look 1 X) X) ?_
 obtain ⟨v1,H1,H⟩:=bn H
 refine jJ (vs:=[vL kG a0.ak.length kH]) (caps:=[]) Tryz.call57 X X (iI.calls a0.ak kG kH HS2 sV wL H1) ?_
 rintro _ w3 ⟨jO,nY,Dn,rfl,II,HS3⟩
 refine ⟨_,X,?_⟩
 refine rs (vP b1 6) (aH (n:=1) (o':=6) X An X A4 (by decide) X)<|aK (by simp only [sc0,sc1];rfl) ?_
 refine gJ (i:=2) (cs:=[vI a0.aA,vS a0.aF,vI a0.aY.aU,vB a0.aY.aJ,vI a0.bY,vI a0.vN,vL kG a0.ak.length kH]) (cs':=[vI a0.aA,vS a0.aF,vI a0.aY.aU,vB a0.aY.aJ,vI a0.bY,vI a0.vN,vL (rowA jO) v1.length nY]) (vs:=[vL (rowA jO) v1.length nY]) (bs':=[(jO, .cells (Dn).toArray 48 (0,0)),(some b2, .cells #[vI 0,vS ByteArray.empty,vI 0,vB false,vI 0,vI 0,vL none 0 0] 58 (0,0)),(some b1, .cells #[vI a0.aA,vS a0.aF,vI a0.aY.aU,vB a0.aY.aJ,vI a0.bY,vI a0.vN,vL (rowA jO) v1.length nY] 58 (0,0))]) X X A4 X X (by decide) X HS3 X (Ax X) X X ?_
 intro w4 HS4
 try simp only [sc0,sc1]
 refine aB<|ay<|Al<|Al ?_
 obtain ⟨v2,H2,H⟩:=bn H
 refine drawn [.ex (xB w4 (vI) kP v2), .eq (vP b1 0), .eq (vI a0.aA), .eq (Value.agg #[vB (((bM ieq v2 a0.aA).getD aI).ny),vB (((bM ieq v2 a0.aA).getD aI).um),vB (((bM ieq v2 a0.aA).getD aI).mD),vB (((bM ieq v2 a0.aA).getD aI).vn),vB (((bM ieq v2 a0.aA).getD aI).kN)]), .eq (vB (((bM ieq v2 a0.aA).getD aI).mD))] [10,11,12,13,14] rM (by kernel_rfl) X (vV xB.stable (aP (aP (aP (aP iJ))))) ⟨aX X (fun a' w' hE hk=>by exact iQ CM X (Ej hE (nV.calls (HS4.step hE).sees H2)) X),aX X (fun a' w' hE hk=>by exact aW (aH (n:=1) (o':=0) (show _=vP b1 0 from hk 2 X) An X As (by decide) X)),aX X (fun a' w' hE hk=>by exact aW (aN (show _=vP b1 0 from hk 11 X) AC ((HS4.step hE).look 2 X) X)),aX X (fun a' w' hE hk=>by obtain ⟨_,_,_,e10,_,XJ,SK⟩:=hk 10 X;have HSd:=HS4.step hE;exact aW (yU (og Bn) (k:=a0.aA) (m:=v2) (ev:=kP) aI e10 (show _=vI a0.aA from hk 12 X) BW B1 XJ SK)),aX X (fun a' w' hE hk=>by exact aW (Ih (show _=Value.agg #[vB (((bM ieq v2 a0.aA).getD aI).ny),vB (((bM ieq v2 a0.aA).getD aI).um),vB (((bM ieq v2 a0.aA).getD aI).mD),vB (((bM ieq v2 a0.aA).getD aI).vn),vB (((bM ieq v2 a0.aA).getD aI).kN)] from hk 13 X) Bt X By X)),trivial⟩ ?_
 intro w5 hE3
 simp only [List.zip_cons_cons,List.zip_nil_left,List.zip_nil_right,vO,sc0,sc1,List.length_cons,List.length_nil,List.drop_succ_cons,List.drop_zero,Nat.zero_add,Nat.reduceAdd]
 rintro _ ⟨b3,es1,cl1,rfl,ge3,hb3,ho1⟩
 have HS5:=HS4.new hE3 ge3 hb3
 refine aB<|ay ?_
 obtain ⟨xx1,H,G1⟩:=bn H
 refine kT [15,16,17,18,19] (fun us w'=>Fit us (fun uj1=>[(uj1 0),(uj1 1),(uj1 2),(uj1 3),(uj1 4)])∧St [] h0 w0 h0 [(some b3, .map es1 cl1),(jO, .cells (Dn).toArray 48 (0,0)),(some b2, .cells #[vI 0,vS ByteArray.empty,vI 0,vB false,vI 0,vI 0,vL none 0 0] 58 (0,0)),(some b1, .cells #[vI a0.aA,vS a0.aF,vI a0.aY.aU,vB a0.aY.aJ,vI xx1,vI a0.vN,vL (rowA jO) v1.length nY] 58 (0,0))] w') ?_ ?_
 ·refine Av (t:=((bM ieq v2 a0.aA).getD aI).mD) X (fun c1=>?_) (fun c1=>?_)
  ·replace H:=bU H c1
   refine Ao<|rs (Value.func (.func Eb) #[] cap1.toArray) (aO X)<|rs (vP b1 4) (aH (n:=1) (o':=4) X An X As (by decide) X)<|rs (vI a0.bY) (aN X AC (HS5.look 3 X) X) ?_
   obtain ⟨v3,H3,H⟩:=bn H
   refine run_eq (v:=vI v3) X X (yK (vs:=[vI a0.bY]) (caps:=cap1) KF X X (Ul a0.bY _ _ HS5.toE HS5.sub HS5.sees _ H3)) ?_
   intro w6 hE4
   have HS6:=HS5.step hE4
   refine aK (by simp only [sc0,sc1];rfl) ?_
   refine rs (vP b1 4) (aH (n:=1) (o':=4) X An X As (by decide) X)<|gJ (i:=3) (cs:=[vI a0.aA,vS a0.aF,vI a0.aY.aU,vB a0.aY.aJ,vI a0.bY,vI a0.vN,vL (rowA jO) v1.length nY]) (cs':=[vI a0.aA,vS a0.aF,vI a0.aY.aU,vB a0.aY.aJ,vI v3,vI a0.vN,vL (rowA jO) v1.length nY]) (vs:=[vI v3]) (bs':=[(some b3, .map es1 cl1),(jO, .cells (Dn).toArray 48 (0,0)),(some b2, .cells #[vI 0,vS ByteArray.empty,vI 0,vB false,vI 0,vI 0,vL none 0 0] 58 (0,0)),(some b1, .cells #[vI a0.aA,vS a0.aF,vI a0.aY.aU,vB a0.aY.aJ,vI v3,vI a0.vN,vL (rowA jO) v1.length nY] 58 (0,0))]) X X As X X (by decide) X HS6 X (Ax X) X X ?_
   intro w7 HS7
   try simp only [sc0,sc1]
   refine aB ?_
   obtain rfl:=Ab H
   refine oH X ⟨(fit X),HS7⟩
  ·replace H:=cO H (nt c1)
   refine AN ?_
   obtain rfl:=Ab H
   refine oH X ⟨(fit X),HS5⟩
 ·rintro us w8 ⟨AB,HS8⟩
  obtain ⟨uj1,rfl⟩:=unj AB
  replace H:=G1
  clear G1
  try simp only [patch,sc0,sc1]
  refine Al<|Al<|Ao<|rs (vP b1 0) (aH (n:=1) (o':=0) X An X As (by decide) X)<|rs (vI a0.aA) (aN X AC (HS8.look 3 X) X)<|rs (vB (a0.aA==4)) (bW X X X) ?_
  try simp only [sc0,sc1]
  refine aB<|ay<|Av (t:=(a0.aA==4)) X (fun c2=>?_) (fun c2=>?_)
  ·replace H:=bU H c2
   refine Al<|Ao<|rs (vP b1 6) (aH (n:=1) (o':=6) X An X A4 (by decide) X)<|rs (vL (rowA jO) v1.length nY) (aN X Bs (HS8.look 3 X) X)<|rs (vI ((v1.length:Nat):Int)) (BP X AK)<|rs (vI 0) (aO X) ?_
   try simp only [sc0,sc1]
   refine aB<|ay ?_
   obtain ⟨xx2,H,G2⟩:=bn H
   refine jB [5,26,27,28,29,30,31,32,33,34,35,36,37,38,39,40,41,42] (fun m us w'=>∃aC:Int,∃dG:List bf,∃eH:List Value,Fit us (fun uy1=>[(uy1 0),vI aC,(uy1 2),(uy1 3),(uy1 4),(uy1 5),(uy1 6),(uy1 7),(uy1 8),(uy1 9),(uy1 10),(uy1 11),(uy1 12),(uy1 13),(uy1 14),(uy1 15),(uy1 16),(uy1 17)])∧jI.l0 a1 v1 m aC dG=some xx2∧gU dw h0 dG jO v1.length nY eH∧St [] h0 w0 h0 [(some b3, .map es1 cl1),(jO, .cells (eH).toArray 48 (0,0)),(some b2, .cells #[vI 0,vS ByteArray.empty,vI 0,vB false,vI 0,vI 0,vL none 0 0] 58 (0,0)),(some b1, .cells #[vI a0.aA,vS a0.aF,vI a0.aY.aU,vB a0.aY.aJ,vI xx1,vI a0.vN,vL (rowA jO) v1.length nY] 58 (0,0))] w') (fun us w'=>∃(iw:List Value),Fit us (fun uo1=>[(uo1 0),(uo1 1),(uo1 2),(uo1 3),(uo1 4),(uo1 5),(uo1 6),(uo1 7),(uo1 8),(uo1 9),(uo1 10),(uo1 11),(uo1 12),(uo1 13),(uo1 14),(uo1 15),(uo1 16),(uo1 17)])∧gU dw h0 xx2 jO v1.length nY iw∧St [] h0 w0 h0 [(some b3, .map es1 cl1),(jO, .cells (iw).toArray 48 (0,0)),(some b2, .cells #[vI 0,vS ByteArray.empty,vI 0,vB false,vI 0,vI 0,vL none 0 0] 58 (0,0)),(some b1, .cells #[vI a0.aA,vS a0.aF,vI a0.aY.aU,vB a0.aY.aJ,vI xx1,vI a0.vN,vL (rowA jO) v1.length nY] 58 (0,0))] w') k ⟨0,v1,Dn,(fit X),H,II,HS8⟩ ?_ ?_
   ·rintro m us w9 ⟨aC,dG,eH,nO,H,iE,HS9⟩
    obtain ⟨uy1,rfl⟩:=unj nO
    cases m with
    |zero=>exact absurd H (by simp [jI.l0])
    |succ m=>
     rw [jI.l0] at H
     try simp only [patch,sc0,sc1]
     refine Al<|Ao<|rs (vB (decide (aC<((v1.length:Nat):Int)))) (bW X X X) ?_
     try simp only [sc0,sc1]
     refine aB<|ay<|Al<|Av (t:=(decide (aC<((v1.length:Nat):Int)))) X (fun c3=>?_) (fun c3=>?_)
     ·replace H:=bU H c3
      refine AN<|ay<|Al<|wp_block<|Al<|Ao<|rs (vI aC) (aO X)<|rs (vI aC) (aG X) ?_
      try simp only [sc0,sc1]
      refine aB<|ay ?_
      obtain ⟨hi1,H⟩:=dN H
      obtain ⟨rb1,_,Hz,⟨_,_,rfl,rfl,⟨_,_,rfl,rfl,rfl⟩⟩,hp1⟩:=iE.at aj hi1.1 hi1.2
      obtain ⟨v4,H4,H⟩:=bn H
      refine drawn [.eq (vP b1 6), .eq (vL (rowA jO) v1.length nY), .eq (vI aC), .eq (Value.func (.func Eb) #[] cap1.toArray), .eq (vP b1 6), .eq (vL (rowA jO) v1.length nY), .eq (vI aC), .eq (Value.pointer (some ⟨rb1,aC.toNat*3+0,none⟩)), .eq (Value.pointer (some ⟨rb1,aC.toNat*3+1,none⟩)), .eq (vI ((rd aj dG aC).vType)), .eq (vI v4)] [29,30,31,32,33,34,35,36,37,38,39] rM (by kernel_rfl) X (aP (aP (aP (aP (aP (aP (aP (aP (aP (aP (aP iJ))))))))))) ⟨aX X (fun a' w' hE hk=>by exact aW (aH (n:=1) (o':=6) (show _=vP b1 0 from hk 2 X) An X A4 (by decide) X)),aX X (fun a' w' hE hk=>by exact aW (aN (show _=vP b1 6 from hk 29 X) Bs ((HS9.step hE).look 3 X) X)),aX X (fun a' w' hE hk=>by exact aW (aO (show _=vI aC from hk 5 X))),aX X (fun a' w' hE hk=>by exact aW (aO (show _=Value.func (.func Eb) #[] cap1.toArray from hk 1 X))),aX X (fun a' w' hE hk=>by exact aW (aH (n:=1) (o':=6) (show _=vP b1 0 from hk 2 X) An X A4 (by decide) X)),aX X (fun a' w' hE hk=>by exact aW (aN (show _=vP b1 6 from hk 33 X) Bs ((HS9.step hE).look 3 X) X)),aX X (fun a' w' hE hk=>by exact aW (aO (show _=vI aC from hk 5 X))),aX X (fun a' w' hE hk=>by exact aW (lX (sz:=3) (show _=vL (rowA jO) v1.length nY from hk 34 X) Hz (show _=vI aC from hk 35 X) hi1.1 hi1.2 AK AS)),aX X (fun a' w' hE hk=>by exact aW (aH (n:=1) (o':=aC.toNat*3+1) (show _=Value.pointer (some ⟨rb1,aC.toNat*3+0,none⟩) from hk 36 X) AJ X As (by decide) X)),aX X (fun a' w' hE hk=>by exact aW (aN (cs:=eH) (show _=Value.pointer (some ⟨rb1,aC.toNat*3+1,none⟩) from hk 37 X) AC ((HS9.step hE).ES 1 X Hz) (hp1 1 _ X))),aX X (fun a' w' hE hk=>by have HSd:=HS9.step hE;exact (yK (vs:=[vI ((rd aj dG aC).vType)]) (caps:=cap1) KF (show _=Value.func (.func Eb) #[] cap1.toArray from hk 32 X) (Jk (show _=vI ((rd aj dG aC).vType) from hk 38 X)) (Ul ((rd aj dG aC).vType) _ _ HSd.toE HS9.sub HSd.sees _ H4))),trivial⟩ ?_
      intro w10 hE5
      simp only [List.zip_cons_cons,List.zip_nil_left,List.zip_nil_right,vO,sc0,sc1,List.length_cons,List.length_nil,List.drop_succ_cons,List.drop_zero,Nat.zero_add,Nat.reduceAdd]
      have kF:=HS9.step hE5
      obtain ⟨hi2,H⟩:=dN H
      obtain ⟨rb2,_,Jr,⟨_,_,rfl,rfl,⟨_,_,rfl,rfl,rfl⟩⟩,hp2⟩:=iE.at aj hi2.1 hi2.2
      refine rs (Value.pointer (some ⟨rb2,aC.toNat*3+0,none⟩)) (lX (sz:=3) X Jr X hi2.1 hi2.2 AK AS)<|rs (Value.pointer (some ⟨rb2,aC.toNat*3+1,none⟩)) (aH (n:=1) (o':=aC.toNat*3+1) X AJ X As (by decide) X)<|CV (i:=1) (cs:=eH) (v:=vI v4) Jr X X As X X kF X (iE.inb hi2.1 hi2.2 (m:=2) (by decide)) ?_
      intro w11 oC
      have ho2:=iE.set (o:=1) (v:=vI v4) (x':=(⟨(rd aj dG aC).aF,v4,(rd aj dG aC).vAt⟩:bf)) hi2.1 hi2.2 hp2 ⟨[vS ((rd aj dG aC).aF)],[vI v4,vI ((rd aj dG aC).vAt)],X,X,⟨[vI v4],[vI ((rd aj dG aC).vAt)],X,X,X⟩⟩ (Ax X)
      try simp only [sc0,sc1]
      refine aB<|dD<|ay<|Ao<|rs (vI (w64 (aC+1))) (bW X X X)<|rs (vI (w64 (aC+1))) (aO X) ?_
      try simp only [sc0,sc1]
      refine aB<|gI m (Nat.lt_succ_self m) X ⟨(w64 (aC+1)),(List.set dG aC.toNat (⟨(rd aj dG aC).aF,v4,(rd aj dG aC).vAt⟩:bf)),(List.set eH (aC.toNat*3+1) (vI v4)),(fit X),H,ho2,oC⟩
     ·replace H:=cO H (nt c3)
      refine Bx<|eU ?_
      obtain rfl:=Ab H
      refine iK X ⟨eH,(fit X),iE,HS9⟩
   ·rintro us w12 ⟨iw,nP,jr,mW⟩
    obtain ⟨uo1,rfl⟩:=unj nP
    replace H:=G2
    clear G2
    try simp only [patch,sc0,sc1]
    refine ay<|Al<|Ao<|rs (Value.agg #[vI a0.aA,vS a0.aF,vI a0.aY.aU,vB a0.aY.aJ,vI xx1,vI a0.vN,vL (rowA jO) v1.length nY]) (aT (n:=7) (vs:=[vI a0.aA,vS a0.aF,vI a0.aY.aU,vB a0.aY.aJ,vI xx1,vI a0.vN,vL (rowA jO) v1.length nY]) X A7 (mW.look 3 X) AH X X)<|gJ (i:=2) (cs:=[vI 0,vS ByteArray.empty,vI 0,vB false,vI 0,vI 0,vL none 0 0]) (cs':=[vI a0.aA,vS a0.aF,vI a0.aY.aU,vB a0.aY.aJ,vI xx1,vI a0.vN,vL (rowA jO) v1.length nY]) (vs:=[vI a0.aA,vS a0.aF,vI a0.aY.aU,vB a0.aY.aJ,vI xx1,vI a0.vN,vL (rowA jO) v1.length nY]) (bs':=[(some b3, .map es1 cl1),(jO, .cells (iw).toArray 48 (0,0)),(some b2, .cells #[vI a0.aA,vS a0.aF,vI a0.aY.aU,vB a0.aY.aJ,vI xx1,vI a0.vN,vL (rowA jO) v1.length nY] 58 (0,0)),(some b1, .cells #[vI a0.aA,vS a0.aF,vI a0.aY.aU,vB a0.aY.aJ,vI xx1,vI a0.vN,vL (rowA jO) v1.length nY] 58 (0,0))]) X X AH X X (by decide) X mW X (Ax X) X X ?_
    intro w13 qx
    try simp only [sc0,sc1]
    refine aB<|ay<|AT ?_
    obtain rfl:=Ab H
    refine Ay (bD X (kY X A7 (qx.look 2 X) AH X)) X ?_
    obtain ⟨h1,ru,hs2,oV⟩:=lC qx (i:=1) rfl jr
    exact ⟨h1,(rowA jO),nY,(by first|rfl|(rw [jr.len];done)|(rw [jr.len];rfl)),jr.cap,oV,ru.gr,ru.sees,ru.toE⟩
  ·replace H:=cO H (nt c2)
   refine AN<|ay<|Al<|Ao<|rs (Value.agg #[vI a0.aA,vS a0.aF,vI a0.aY.aU,vB a0.aY.aJ,vI xx1,vI a0.vN,vL (rowA jO) v1.length nY]) (aT (n:=7) (vs:=[vI a0.aA,vS a0.aF,vI a0.aY.aU,vB a0.aY.aJ,vI xx1,vI a0.vN,vL (rowA jO) v1.length nY]) X A7 (HS8.look 3 X) AH X X)<|gJ (i:=2) (cs:=[vI 0,vS ByteArray.empty,vI 0,vB false,vI 0,vI 0,vL none 0 0]) (cs':=[vI a0.aA,vS a0.aF,vI a0.aY.aU,vB a0.aY.aJ,vI xx1,vI a0.vN,vL (rowA jO) v1.length nY]) (vs:=[vI a0.aA,vS a0.aF,vI a0.aY.aU,vB a0.aY.aJ,vI xx1,vI a0.vN,vL (rowA jO) v1.length nY]) (bs':=[(some b3, .map es1 cl1),(jO, .cells (Dn).toArray 48 (0,0)),(some b2, .cells #[vI a0.aA,vS a0.aF,vI a0.aY.aU,vB a0.aY.aJ,vI xx1,vI a0.vN,vL (rowA jO) v1.length nY] 58 (0,0)),(some b1, .cells #[vI a0.aA,vS a0.aF,vI a0.aY.aU,vB a0.aY.aJ,vI xx1,vI a0.vN,vL (rowA jO) v1.length nY] 58 (0,0))]) X X AH X X (by decide) X HS8 X (Ax X) X X ?_
   intro w14 sW
   try simp only [sc0,sc1]
   refine aB<|ay<|AT ?_
   obtain rfl:=Ab H
   refine Ay (bD X (kY X A7 (sW.look 2 X) AH X)) X ?_
   obtain ⟨h2,sH,hs3,D8⟩:=lC sW (i:=1) rfl II
   exact ⟨h2,(rowA jO),nY,X,II.cap,D8,sH.gr,sH.sees,sH.toE⟩
def kM.f (k:Nat) (a0:Int) (IJ:List (ByteArray×Int)) (x1:dR):Option (Int):=(fB.f k x1.vt a0).bind fun v1=>(some ((bM strEq IJ v1).getD 0))
theorem kM.calls (k:Nat) (a0:Int) (IJ:List (ByteArray×Int)) (x1:dR) (bx0:Nat) (Rw:Nat) (JB:Nat) (Np:Array MapEntry) (Nq:Nat) (UY:Value) (bx1:Nat) (zT:Option Addr) (zU:Nat) {h0:View} {w0:World} (hv:lS h0 w0) (ht:Tab w0) (SY:oG vS (vI) IJ Np Nq) (S9:w0.heap[JB]?=some (.map Np Nq)) (Wu:w0.heap[Rw]?=some (.cells #[Value.map (some JB),UY] 67 (0,0))) (XK:w0.heap[bx0]?=some (.cells #[vP Rw 0] 63 (0,0))) (Nr:Rd bI h0 zT x1.vt.au) (Ns:x1.vt.au.length≤zU) (hx1:w0.heap[bx1]?=some (.cells #[vL zT x1.vt.au.length zU,vI x1.vi] 96 (0,0))) {r:Int} (H:kM.f k a0 IJ x1=some r):Calls Tryz.prog 51 #[vI a0,vP bx0 0,vP bx1 0] w0 (fun e w1=>e= .returned (vI r)∧Ext w0 w1):=by
 unfold kM.f at H
 have HS:St [] h0 w0 h0 [] w0:=St.init hv
 go_enter Tryz.func51,Tryz.ntmps51
 refine Al<|Ao<|rs (vI 0) (aG X) ?_
 try simp only [sc0,sc1]
 refine aB<|ay<|Al ?_
 obtain ⟨v1,H1,H⟩:=bn H
 refine drawn [.eq (vP Rw 0), .eq (vP Rw 0), .eq (vP Rw 0), .eq (Value.map (some JB)), .eq (vP bx1 0), .eq (Value.agg #[vL zT x1.vt.au.length zU]), .eq (vI a0), .eq (vS v1), .eq (vI ((bM strEq IJ v1).getD 0))] [5,6,7,8,9,10,11,12,13] rM (by kernel_rfl) X (aP (aP (aP (aP (aP (aP (aP (aP (aP iJ))))))))) ⟨aX X (fun a' w' hE hk=>by exact aW (aN (show _=vP bx0 0 from hk 1 X) Tryz.isAgg63 (kD XK (HS.step hE).toE) X)),aX X (fun a' w' hE hk=>by exact aW (pI (show _=vP Rw 0 from hk 5 X))),aX X (fun a' w' hE hk=>by exact aW (aH (n:=1) (o':=0) (show _=vP Rw 0 from hk 6 X) BV X Cz (by decide) X)),aX X (fun a' w' hE hk=>by exact aW (aN (show _=vP Rw 0 from hk 7 X) C2 (kD Wu (HS.step hE).toE) X)),aX X (fun a' w' hE hk=>by exact aW (aH (n:=1) (o':=0) (show _=vP bx1 0 from hk 2 X) Cq X AD (by decide) X)),aX X (fun a' w' hE hk=>by exact aW (aT (n:=1) (vs:=[vL zT x1.vt.au.length zU]) (show _=vP bx1 0 from hk 9 X) AI (kD hx1 (HS.step hE).toE) AD X X)),aX X (fun a' w' hE hk=>by exact aW (aO (show _=vI a0 from hk 0 X))),aX X (fun a' w' hE hk=>by have HSd:=HS.step hE;exact (bC Cd X (wF (show _=Value.agg #[vL zT x1.vt.au.length zU] from hk 10 X) (show _=vI a0 from hk 11 X)) (fB.calls k x1.vt a0 zT zU HSd.sees (ht.s HSd) Nr Ns H1))),aX X (fun a' w' hE hk=>by exact aW (yU (zh BB) (k:=v1) (m:=IJ) (ev:=(vI)) 0 (show _=Value.map (some JB) from hk 8 X) (show _=vS v1 from hk 12 X) CC Bb (kD S9 (HS.step hE).toE) SY)),trivial⟩ ?_
 intro w1 hE1
 simp only [List.zip_cons_cons,List.zip_nil_left,List.zip_nil_right,vO,sc0,sc1,List.length_cons,List.length_nil,List.drop_succ_cons,List.drop_zero,Nat.zero_add,Nat.reduceAdd]
 have HS1:=HS.step hE1
 refine rs (vI ((bM strEq IJ v1).getD 0)) (aG X) ?_
 try simp only [sc0,sc1]
 refine aB<|ay<|AT ?_
 obtain rfl:=Ab H
 exact Ay (bD X (bK X)) X<|⟨X,HS1.toE⟩
end Go.Proofs.YtfjppgobidjndaaGreatDoor
