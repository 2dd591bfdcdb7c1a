/- Parts of a proof, merged by program: Sqz G0 G1 SV F10 C0 E1 F130 F129 F85 F90 F56 F156 F157 F115 F116 F121 F118 F158 F117 F120 F119 F74 F53 F89 F54. The walks (each function once) and the plain laws; no condition of their own. -/
import Derived.Test.YtecpbadkdpbkpaaGreatDoorLay1
import Derived.Test.YtecpbadkdpbkpaaGreatDoorLay3
import Derived.Test.YtecpbadkdpbkpaaGreatDoorProg
import Derived.KernelRfl
import Derived.Test.YtecpbadkdpbkpaaGreatDoorCards
import Derived.Test.YtecpbadkdpbkpaaGreatDoorTie
import Derived.WalkKit
import Derived.ProofKit
import Derived.OpenShut
import Derived.Deep.DeepHandedRow
import Derived.Lib.LaidTab
set_option linter.unusedVariables false
set_option linter.unusedSimpArgs false
namespace Go.M
open Go.RowKit
abbrev vI (x:Int):Value:=Value.int .i64 x
abbrev vB (x:Bool):Value:=Value.bool x
abbrev vS (x:ByteArray):Value:=Value.string x
abbrev vL (A:Option Addr) (n c:Nat):Value:=Value.slice A n c
abbrev vP (b o:Nat):Value:=Value.pointer (some ⟨b,o,none⟩)
abbrev w64 (x:Int):Int:=IntKind.wrap .i64 x
theorem gvt {c:Bool} {x:Value} (v:Value) (h:c=true) (e:x=gv c v):x=v:=e.trans (pU h)
abbrev sm (a:Addr):Value:=Value.pointer (some a)
section
variable {P:Program} {Q:Exit→Act→World→Prop} {l:List Value} {df:List Deferred} {w:World} {ops:Array Oper} {o:Oper} {os:List Oper}
theorem rs (v:Value) {d:Tmp} {i:Op} {ty:TypeId} {pos:String} {af:Array Edge} (h:(execOp (ev l) ⟨some d,i,ty,pos,af,none⟩).run P w= .ok (.value v) w)
    (k:run P ops Q df os (l.set d v) w):run P ops Q df (⟨some d,i,ty,pos,af,none⟩::os) l w:=dS rfl rfl h k
theorem rgs (b c:Bool) (v:Value) {d e:Tmp} {j:Nat} {want:Bool} (hg:o.guard=some (j,want)) (hj:(ops[j]?).bind (·.dst)=some e) (hv:l.getD e undef=gv c (.bool b)) (hd:o.dst=some d)
    (h:(c&&(b==want))=true→(execOp (ev l) o).run P w= .ok (.value v) w) (k:run P ops Q df os (l.set d (gv (c&&(b==want)) v)) w):run P ops Q df (o::os) l w:=fC hg hj hv hd h k
theorem rnn {K:Act→World→Prop} (h:K ⟨l.toArray,df⟩ w):run P ops (Exit.then K Q) df [] l w:=aA (ak h)
end
section
variable {M:List Nat} {h0 h:View} {w0 w:World} {a b c d e f g:Res} {r:List Res}
theorem St.f1 (H:St M h0 w0 h (a::b::r) w):St M h0 w0 h (b::a::r) w:=H.front (i:=1) rfl
theorem St.f2 (H:St M h0 w0 h (a::b::c::r) w):St M h0 w0 h (c::a::b::r) w:=H.front (i:=2) rfl
theorem St.f3 (H:St M h0 w0 h (a::b::c::d::r) w):St M h0 w0 h (d::a::b::c::r) w:=H.front (i:=3) rfl
theorem St.f4 (H:St M h0 w0 h (a::b::c::d::e::r) w):St M h0 w0 h (e::a::b::c::d::r) w:=H.front (i:=4) rfl
theorem St.f5 (H:St M h0 w0 h (a::b::c::d::e::f::r) w):St M h0 w0 h (f::a::b::c::d::e::r) w:=H.front (i:=5) rfl
theorem St.f6 (H:St M h0 w0 h (a::b::c::d::e::f::g::r) w):St M h0 w0 h (g::a::b::c::d::e::f::r) w:=H.front (i:=6) rfl
theorem St.f7 {x:Res} (H:St M h0 w0 h (a::b::c::d::e::f::g::x::r) w):St M h0 w0 h (x::a::b::c::d::e::f::g::r) w:=H.front (i:=7) rfl
theorem St.f8 {x y:Res} (H:St M h0 w0 h (a::b::c::d::e::f::g::x::y::r) w):St M h0 w0 h (y::a::b::c::d::e::f::g::x::r) w:=H.front (i:=8) rfl
theorem St.f9 {x y z:Res} (H:St M h0 w0 h (a::b::c::d::e::f::g::x::y::z::r) w):St M h0 w0 h (z::a::b::c::d::e::f::g::x::y::r) w:=H.front (i:=9) rfl
theorem St.d0 (H:St M h0 w0 h (a::r) w):St M h0 w0 h r w:=H.drop 0
theorem St.d1 (H:St M h0 w0 h (a::b::r) w):St M h0 w0 h (a::r) w:=H.drop 1
theorem St.d2 (H:St M h0 w0 h (a::b::c::r) w):St M h0 w0 h (a::b::r) w:=H.drop 2
end
theorem sc0 {α:Type _} {x:α} {l:List α} {a:α}:(x::l).set 0 a=a::l:=rfl
theorem sc1 {α:Type _} {x:α} {l:List α} {n:Nat} {a:α}:(x::l).set (n+1) a=x::l.set n a:=rfl
end Go.M
namespace Go.Proofs.YtecpbadkdpbkpaaGreatDoor
open Go.RowKit Go.M
theorem lW:Tryz.prog.follows .mixedOrders=true:=by kernel_rfl
structure dL where
  aP:Int
  aN:Bool
def vW:dL:=⟨0,false⟩
def vX:Kd dL:=Kd.iso (Kd.pair (Kd.int .i64) Kd.bool) fun x=>(x.aP,x.aN)
theorem Gp:One vX:=lZ (iK jO qK)
def jF (x:dL):Value:= .agg #[.int .i64 x.aP, .bool x.aN]
theorem UN {h:View} {A:Option Addr} {xs:List dL} {i:Int} (hr:Rd vX h A xs) (h0:0≤i) (h1:i<xs.length):
    ∃ad,A=some ad∧iF h (ad.add (i.toNat*2)) [.int .i64 (rd vW xs i).aP, .bool (rd vW xs i).aN]:=by
  obtain ⟨ad,cs,e,hK,hc⟩:=hr.get vW h0 h1
  obtain ⟨_,_,rfl,rfl,rfl⟩:=hK
  exact ⟨ad,e,hc⟩
structure dw where
  aQ:ByteArray
  vType:Int
  vAt:Int
def aj:dw:=⟨ByteArray.empty,0,0⟩
def eH:Kd dw:=Kd.iso (Kd.pair Kd.str (Kd.pair (Kd.int .i64) (Kd.int .i64))) fun x=>(x.aQ,(x.vType,x.vAt))
theorem Dk:One eH:=lZ (iK FD (iK jO jO))
def TS (x:dw):Value:= .agg #[.string x.aQ, .int .i64 x.vType, .int .i64 x.vAt]
theorem iM {h:View} {A:Option Addr} {xs:List dw} {i:Int} (hr:Rd eH h A xs) (h0:0≤i) (h1:i<xs.length):
    ∃ad,A=some ad∧iF h (ad.add (i.toNat*3)) [.string (rd aj xs i).aQ, .int .i64 (rd aj xs i).vType, .int .i64 (rd aj xs i).vAt]:=by
  obtain ⟨ad,cs,e,hK,hc⟩:=hr.get aj h0 h1
  obtain ⟨_,_,rfl,rfl,⟨_,_,rfl,rfl,rfl⟩⟩:=hK
  exact ⟨ad,e,hc⟩
structure bF where
  aC:Int
  aQ:ByteArray
  bG:dL
  dM:Int
  vN:Int
  au:List dw
def ah:bF:=⟨0,ByteArray.empty,vW,0,0,[]⟩
def dV:Kd bF:=Kd.iso (Kd.pair (Kd.int .i64) (Kd.pair Kd.str (Kd.pair vX (Kd.pair (Kd.int .i64) (Kd.pair (Kd.int .i64) (Kd.slice eH)))))) fun x=>(x.aC,(x.aQ,(x.bG,(x.dM,(x.vN,x.au)))))
theorem TT:One dV:=lZ (iK jO (iK FD (iK Gp (iK jO (iK jO pW)))))
theorem gy {h:View} {A:Option Addr} {xs:List bF} {i:Int} (hr:Rd dV h A xs) (h0:0≤i) (h1:i<xs.length):
    ∃ad A6 c6,A=some ad∧iF h (ad.add (i.toNat*7)) [.int .i64 (rd ah xs i).aC, .string (rd ah xs i).aQ, .int .i64 (rd ah xs i).bG.aP, .bool (rd ah xs i).bG.aN, .int .i64 (rd ah xs i).dM, .int .i64 (rd ah xs i).vN, .slice A6 (rd ah xs i).au.length c6]∧(rd ah xs i).au.length≤c6∧Rd eH h A6 (rd ah xs i).au:=by
  obtain ⟨ad,cs,e,hK,hc⟩:=hr.get ah h0 h1
  obtain ⟨_,_,rfl,rfl,⟨_,_,rfl,rfl,⟨_,_,rfl,⟨_,_,rfl,rfl,rfl⟩,⟨_,_,rfl,rfl,⟨_,_,rfl,rfl,⟨A6,c6,rfl,hl6,hr6⟩⟩⟩⟩⟩⟩:=hK
  exact ⟨ad,A6,c6,e,hc,hl6,hr6⟩
structure aU where
  ay:List bF
def qX:aU:=⟨[]⟩
def uF:Kd aU:=Kd.iso (Kd.slice dV) fun x=>x.ay
theorem P7:One uF:=lZ pW
theorem Rj {h:View} {A:Option Addr} {xs:List aU} {i:Int} (hr:Rd uF h A xs) (h0:0≤i) (h1:i<xs.length):
    ∃ad A0 c0,A=some ad∧iF h (ad.add (i.toNat*1)) [.slice A0 (rd qX xs i).ay.length c0]∧(rd qX xs i).ay.length≤c0∧Rd dV h A0 (rd qX xs i).ay:=by
  obtain ⟨ad,cs,e,hK,hc⟩:=hr.get qX h0 h1
  obtain ⟨A0,c0,rfl,hl0,hr0⟩:=hK
  exact ⟨ad,A0,c0,e,hc,hl0,hr0⟩
structure dR where
  jK:Bool
  pK:Bool
  oV:Bool
  vn:Bool
  iQ:Bool
def aF:dR:=⟨false,false,false,false,false⟩
def zu:Kd dR:=Kd.iso (Kd.pair Kd.bool (Kd.pair Kd.bool (Kd.pair Kd.bool (Kd.pair Kd.bool Kd.bool)))) fun x=>(x.jK,(x.pK,(x.oV,(x.vn,x.iQ))))
theorem P8:One zu:=lZ (iK qK (iK qK (iK qK (iK qK qK))))
def jU (x:dR):Value:= .agg #[.bool x.jK, .bool x.pK, .bool x.oV, .bool x.vn, .bool x.iQ]
theorem Rk {h:View} {A:Option Addr} {xs:List dR} {i:Int} (hr:Rd zu h A xs) (h0:0≤i) (h1:i<xs.length):
    ∃ad,A=some ad∧iF h (ad.add (i.toNat*5)) [.bool (rd aF xs i).jK, .bool (rd aF xs i).pK, .bool (rd aF xs i).oV, .bool (rd aF xs i).vn, .bool (rd aF xs i).iQ]:=by
  obtain ⟨ad,cs,e,hK,hc⟩:=hr.get aF h0 h1
  obtain ⟨_,_,rfl,rfl,⟨_,_,rfl,rfl,⟨_,_,rfl,rfl,⟨_,_,rfl,rfl,rfl⟩⟩⟩⟩:=hK
  exact ⟨ad,e,hc⟩
structure kR where
  lV:List ByteArray
  vV:Int
def dD:kR:=⟨[],0⟩
def nK:Kd kR:=Kd.iso (Kd.pair (Kd.slice Kd.str) (Kd.int .i64)) fun x=>(x.lV,x.vV)
theorem TU:One nK:=lZ (iK pW jO)
theorem xu {h:View} {A:Option Addr} {xs:List kR} {i:Int} (hr:Rd nK h A xs) (h0:0≤i) (h1:i<xs.length):
    ∃ad A0 c0,A=some ad∧iF h (ad.add (i.toNat*2)) [.slice A0 (rd dD xs i).lV.length c0, .int .i64 (rd dD xs i).vV]∧(rd dD xs i).lV.length≤c0∧Rd Kd.str h A0 (rd dD xs i).lV:=by
  obtain ⟨ad,cs,e,hK,hc⟩:=hr.get dD h0 h1
  obtain ⟨_,_,rfl,⟨A0,c0,rfl,hl0,hr0⟩,rfl⟩:=hK
  exact ⟨ad,A0,c0,e,hc,hl0,hr0⟩
structure fH where
  vF:dw
  vE:Int
def jv:fH:=⟨aj,0⟩
def oJ:Kd fH:=Kd.iso (Kd.pair eH (Kd.int .i64)) fun x=>(x.vF,x.vE)
theorem EM:One oJ:=lZ (iK Dk jO)
def Gq (x:fH):Value:= .agg #[.string x.vF.aQ, .int .i64 x.vF.vType, .int .i64 x.vF.vAt, .int .i64 x.vE]
theorem Fe {h:View} {A:Option Addr} {xs:List fH} {i:Int} (hr:Rd oJ h A xs) (h0:0≤i) (h1:i<xs.length):
    ∃ad,A=some ad∧iF h (ad.add (i.toNat*4)) [.string (rd jv xs i).vF.aQ, .int .i64 (rd jv xs i).vF.vType, .int .i64 (rd jv xs i).vF.vAt, .int .i64 (rd jv xs i).vE]:=by
  obtain ⟨ad,cs,e,hK,hc⟩:=hr.get jv h0 h1
  obtain ⟨_,_,rfl,⟨_,_,rfl,rfl,⟨_,_,rfl,rfl,rfl⟩⟩,rfl⟩:=hK
  exact ⟨ad,e,hc⟩
structure eF where
  vType:Int
  vAt:Int
  vE:Int
def jA:eF:=⟨0,0,0⟩
def mX:Kd eF:=Kd.iso (Kd.pair (Kd.int .i64) (Kd.pair (Kd.int .i64) (Kd.int .i64))) fun x=>(x.vType,(x.vAt,x.vE))
theorem Bj:One mX:=lZ (iK jO (iK jO jO))
def DJ (x:eF):Value:= .agg #[.int .i64 x.vType, .int .i64 x.vAt, .int .i64 x.vE]
theorem Dl {h:View} {A:Option Addr} {xs:List eF} {i:Int} (hr:Rd mX h A xs) (h0:0≤i) (h1:i<xs.length):
    ∃ad,A=some ad∧iF h (ad.add (i.toNat*3)) [.int .i64 (rd jA xs i).vType, .int .i64 (rd jA xs i).vAt, .int .i64 (rd jA xs i).vE]:=by
  obtain ⟨ad,cs,e,hK,hc⟩:=hr.get jA h0 h1
  obtain ⟨_,_,rfl,rfl,⟨_,_,rfl,rfl,rfl⟩⟩:=hK
  exact ⟨ad,e,hc⟩
structure gV where
  vN:Int
  vE:Int
def kS:gV:=⟨0,0⟩
def nM:Kd gV:=Kd.iso (Kd.pair (Kd.int .i64) (Kd.int .i64)) fun x=>(x.vN,x.vE)
theorem Dn:One nM:=lZ (iK jO jO)
def EN (x:gV):Value:= .agg #[.int .i64 x.vN, .int .i64 x.vE]
theorem DK {h:View} {A:Option Addr} {xs:List gV} {i:Int} (hr:Rd nM h A xs) (h0:0≤i) (h1:i<xs.length):
    ∃ad,A=some ad∧iF h (ad.add (i.toNat*2)) [.int .i64 (rd kS xs i).vN, .int .i64 (rd kS xs i).vE]:=by
  obtain ⟨ad,cs,e,hK,hc⟩:=hr.get kS h0 h1
  obtain ⟨_,_,rfl,rfl,rfl⟩:=hK
  exact ⟨ad,e,hc⟩
structure fJ where
  vB:List Int
  vE:Int
def jw:fJ:=⟨[],0⟩
def oK:Kd fJ:=Kd.iso (Kd.pair (Kd.slice (Kd.int .u8)) (Kd.int .i64)) fun x=>(x.vB,x.vE)
theorem EO:One oK:=lZ (iK pW jO)
theorem Fg {h:View} {A:Option Addr} {xs:List fJ} {i:Int} (hr:Rd oK h A xs) (h0:0≤i) (h1:i<xs.length):
    ∃ad A0 c0,A=some ad∧iF h (ad.add (i.toNat*2)) [.slice A0 (rd jw xs i).vB.length c0, .int .i64 (rd jw xs i).vE]∧(rd jw xs i).vB.length≤c0∧Rd (Kd.int .u8) h A0 (rd jw xs i).vB:=by
  obtain ⟨ad,cs,e,hK,hc⟩:=hr.get jw h0 h1
  obtain ⟨_,_,rfl,⟨A0,c0,rfl,hl0,hr0⟩,rfl⟩:=hK
  exact ⟨ad,A0,c0,e,hc,hl0,hr0⟩

end Go.Proofs.YtecpbadkdpbkpaaGreatDoor
namespace Go.Proofs.YtecpbadkdpbkpaaGreatDoor
open Go.RowKit Go.M
structure qY where
  vAt:Int
  Iw:List Int
def mO:qY:=⟨0,[]⟩
def nY:Kd qY:=Kd.iso (Kd.pair (Kd.int .i64) (Kd.slice (Kd.int .u8))) fun x=>(x.vAt,x.Iw)
theorem Nl:One nY:=lZ (iK jO pW)
theorem OC {h:View} {A:Option Addr} {xs:List qY} {i:Int} (hr:Rd nY h A xs) (h0:0≤i) (h1:i<xs.length):
    ∃ad A1 c1,A=some ad∧iF h (ad.add (i.toNat*2)) [.int .i64 (rd mO xs i).vAt, .slice A1 (rd mO xs i).Iw.length c1]∧(rd mO xs i).Iw.length≤c1∧Rd (Kd.int .u8) h A1 (rd mO xs i).Iw:=by
  obtain ⟨ad,cs,e,hK,hc⟩:=hr.get mO h0 h1
  obtain ⟨_,_,rfl,rfl,⟨A1,c1,rfl,hl1,hr1⟩⟩:=hK
  exact ⟨ad,A1,c1,e,hc,hl1,hr1⟩
structure zx where
  P9:List qY
def qZ:zx:=⟨[]⟩
def zy:Kd zx:=Kd.iso (Kd.slice nY) fun x=>x.P9
theorem Qa:One zy:=lZ pW
theorem Rl {h:View} {A:Option Addr} {xs:List zx} {i:Int} (hr:Rd zy h A xs) (h0:0≤i) (h1:i<xs.length):
    ∃ad A0 c0,A=some ad∧iF h (ad.add (i.toNat*1)) [.slice A0 (rd qZ xs i).P9.length c0]∧(rd qZ xs i).P9.length≤c0∧Rd nY h A0 (rd qZ xs i).P9:=by
  obtain ⟨ad,cs,e,hK,hc⟩:=hr.get qZ h0 h1
  obtain ⟨A0,c0,rfl,hl0,hr0⟩:=hK
  exact ⟨ad,A0,c0,e,hc,hl0,hr0⟩
structure jV where
  vV:Int
  vIs:Bool
  vE:Int
def jG:jV:=⟨0,false,0⟩
def nN:Kd jV:=Kd.iso (Kd.pair (Kd.int .i64) (Kd.pair Kd.bool (Kd.int .i64))) fun x=>(x.vV,(x.vIs,x.vE))
theorem Dp:One nN:=lZ (iK jO (iK qK jO))
def EP (x:jV):Value:= .agg #[.int .i64 x.vV, .bool x.vIs, .int .i64 x.vE]
theorem DL {h:View} {A:Option Addr} {xs:List jV} {i:Int} (hr:Rd nN h A xs) (h0:0≤i) (h1:i<xs.length):
    ∃ad,A=some ad∧iF h (ad.add (i.toNat*3)) [.int .i64 (rd jG xs i).vV, .bool (rd jG xs i).vIs, .int .i64 (rd jG xs i).vE]:=by
  obtain ⟨ad,cs,e,hK,hc⟩:=hr.get jG h0 h1
  obtain ⟨_,_,rfl,rfl,⟨_,_,rfl,rfl,rfl⟩⟩:=hK
  exact ⟨ad,e,hc⟩
structure uG where
  aQ:ByteArray
  vAt:Int
  aP:Int
def vY:uG:=⟨ByteArray.empty,0,0⟩
def sJ:Kd uG:=Kd.iso (Kd.pair Kd.str (Kd.pair (Kd.int .i64) (Kd.int .i64))) fun x=>(x.aQ,(x.vAt,x.aP))
theorem TV:One sJ:=lZ (iK FD (iK jO jO))
def Wi (x:uG):Value:= .agg #[.string x.aQ, .int .i64 x.vAt, .int .i64 x.aP]
theorem UO {h:View} {A:Option Addr} {xs:List uG} {i:Int} (hr:Rd sJ h A xs) (h0:0≤i) (h1:i<xs.length):
    ∃ad,A=some ad∧iF h (ad.add (i.toNat*3)) [.string (rd vY xs i).aQ, .int .i64 (rd vY xs i).vAt, .int .i64 (rd vY xs i).aP]:=by
  obtain ⟨ad,cs,e,hK,hc⟩:=hr.get vY h0 h1
  obtain ⟨_,_,rfl,rfl,⟨_,_,rfl,rfl,rfl⟩⟩:=hK
  exact ⟨ad,e,hc⟩
end Go.Proofs.YtecpbadkdpbkpaaGreatDoor
namespace Go.Proofs.YtecpbadkdpbkpaaGreatDoor
open Go.V
noncomputable section
def Bl : List (Nat × List Value) := [
   (0,[.int .u64 1, .int .u64 10, .int .u64 100, .int .u64 1000, .int .u64 10000, .int .u64 100000, .int .u64 1000000, .int .u64 10000000, .int .u64 100000000, .int .u64 1000000000, .int .u64 10000000000, .int .u64 100000000000, .int .u64 1000000000000, .int .u64 10000000000000, .int .u64 100000000000000, .int .u64 1000000000000000, .int .u64 10000000000000000, .int .u64 100000000000000000, .int .u64 1000000000000000000, .int .u64 10000000000000000000]),
   (1,[.int .u8 0, .int .u8 1, .int .u8 28, .int .u8 2, .int .u8 29, .int .u8 14, .int .u8 24, .int .u8 3, .int .u8 30, .int .u8 22, .int .u8 20, .int .u8 15, .int .u8 25, .int .u8 17, .int .u8 4, .int .u8 8, .int .u8 31, .int .u8 27, .int .u8 13, .int .u8 23, .int .u8 21, .int .u8 19, .int .u8 16, .int .u8 7, .int .u8 26, .int .u8 12, .int .u8 18, .int .u8 6, .int .u8 11, .int .u8 5, .int .u8 10, .int .u8 9]),
   (2, [.int .u8 0, .int .u8 1, .int .u8 56, .int .u8 2, .int .u8 57, .int .u8 49, .int .u8 28, .int .u8 3, .int .u8 61, .int .u8 58, .int .u8 42, .int .u8 50, .int .u8 38, .int .u8 29, .int .u8 17, .int .u8 4, .int .u8 62, .int .u8 47, .int .u8 59, .int .u8 36, .int .u8 45, .int .u8 43, .int .u8 51, .int .u8 22, .int .u8 53, .int .u8 39, .int .u8 33, .int .u8 30, .int .u8 24, .int .u8 18, .int .u8 12, .int .u8 5, .int .u8 63, .int .u8 55, .int .u8 48, .int .u8 27, .int .u8 60, .int .u8 41, .int .u8 37, .int .u8 16, .int .u8 46, .int .u8 35, .int .u8 44, .int .u8 21, .int .u8 52, .int .u8 32, .int .u8 23, .int .u8 11, .int .u8 54, .int .u8 26, .int .u8 40, .int .u8 15, .int .u8 34, .int .u8 20, .int .u8 31, .int .u8 10, .int .u8 25, .int .u8 14, .int .u8 19, .int .u8 9, .int .u8 13, .int .u8 8, .int .u8 7, .int .u8 6])]
def vo0:Obj:= .cells ⟨[.int .u8 0, .int .u8 1, .int .u8 56, .int .u8 2, .int .u8 57, .int .u8 49, .int .u8 28, .int .u8 3, .int .u8 61, .int .u8 58, .int .u8 42, .int .u8 50, .int .u8 38, .int .u8 29, .int .u8 17, .int .u8 4, .int .u8 62, .int .u8 47, .int .u8 59, .int .u8 36, .int .u8 45, .int .u8 43, .int .u8 51, .int .u8 22, .int .u8 53, .int .u8 39, .int .u8 33, .int .u8 30, .int .u8 24, .int .u8 18, .int .u8 12, .int .u8 5, .int .u8 63, .int .u8 55, .int .u8 48, .int .u8 27, .int .u8 60, .int .u8 41, .int .u8 37, .int .u8 16, .int .u8 46, .int .u8 35, .int .u8 44, .int .u8 21, .int .u8 52, .int .u8 32, .int .u8 23, .int .u8 11, .int .u8 54, .int .u8 26, .int .u8 40, .int .u8 15, .int .u8 34, .int .u8 20, .int .u8 31, .int .u8 10, .int .u8 25, .int .u8 14, .int .u8 19, .int .u8 9, .int .u8 13, .int .u8 8, .int .u8 7, .int .u8 6]⟩ 0 (0,1)
def vo2:Obj:= .cells ⟨[.int .i64 1, .string ⟨#[105,110,116,51,50]⟩, .int .i64 4, .bool true, .int .i64 0, .int .i64 0, .slice none 0 0, .int .i64 1, .string ⟨#[99,104,97,114]⟩, .int .i64 1, .bool true, .int .i64 0, .int .i64 0, .slice none 0 0, .int .i64 3, .string ⟨#[]⟩, .int .i64 0, .bool false, .int .i64 1, .int .i64 4, .slice none 0 0, .int .i64 4, .string ⟨#[112,114,111,99,95,116]⟩, .int .i64 0, .bool false, .int .i64 0, .int .i64 16, .slice (some ⟨77,0,none⟩) 2 5]⟩ 56 (0,0)
def vo3:Obj:= .cells ⟨[.int .u64 1, .int .u64 10, .int .u64 100, .int .u64 1000, .int .u64 10000, .int .u64 100000, .int .u64 1000000, .int .u64 10000000, .int .u64 100000000, .int .u64 1000000000, .int .u64 10000000000, .int .u64 100000000000, .int .u64 1000000000000, .int .u64 10000000000000, .int .u64 100000000000000, .int .u64 1000000000000000, .int .u64 10000000000000000, .int .u64 100000000000000000, .int .u64 1000000000000000000, .int .u64 10000000000000000000]⟩ 0 (0,1)
def vo4:Obj:= .cells ⟨[.int .u8 0, .int .u8 1, .int .u8 28, .int .u8 2, .int .u8 29, .int .u8 14, .int .u8 24, .int .u8 3, .int .u8 30, .int .u8 22, .int .u8 20, .int .u8 15, .int .u8 25, .int .u8 17, .int .u8 4, .int .u8 8, .int .u8 31, .int .u8 27, .int .u8 13, .int .u8 23, .int .u8 21, .int .u8 19, .int .u8 16, .int .u8 7, .int .u8 26, .int .u8 12, .int .u8 18, .int .u8 6, .int .u8 11, .int .u8 5, .int .u8 10, .int .u8 9]⟩ 0 (0,1)
def vo6:Obj:= .cells ⟨[.int .u8 0, .int .u8 0, .int .u8 0, .int .u8 0, .int .u8 0, .int .u8 0, .int .u8 0, .int .u8 0, .int .u8 105, .int .u8 110, .int .u8 105, .int .u8 116, .int .u8 0, .int .u8 0, .int .u8 0, .int .u8 0]⟩ 5 (0,0)
def Zd:Obj:= .cells ⟨[.string ⟨#[112,95,112,105,100]⟩, .int .i64 0, .int .i64 4, .string ⟨#[112,95,110,97,109,101]⟩, .int .i64 2, .int .i64 8]⟩ 129 (0,0)
def ZQ:Obj:= .cells ⟨[.int .i64 2097152, .slice (some ⟨497,0,none⟩) 16 33]⟩ 58 (0,0)
def ZR:Obj:= .cells ⟨[.slice (some ⟨776,0,none⟩) 1 131076]⟩ 27 (0,0)
def Ze:Obj:= .cells ⟨[.slice (some ⟨78,0,none⟩) 4 9]⟩ 24 (0,0)
def vt0:Tt:= .node none (.node (some (.pointer (some ⟨870,0,none⟩))) (.node (some (.int .i64 1761607680)) .leaf .leaf) .leaf) (.node (some (.int .i64 0)) (.node (some (.int .i64 0)) .leaf .leaf) .leaf)
def vt1:Tt:= .node (some (.pointer (some ⟨79,0,none⟩))) (.node (some (.bool true)) .leaf .leaf) .leaf
def vt2:Tt:= .node none (.node (some (.pointer (some ⟨79,0,none⟩))) .leaf .leaf) (.node (some (.int .i64 0)) .leaf .leaf)
def vt3:Tt:= .node (some (.pointer (some ⟨870,0,none⟩))) .leaf .leaf
def vt4:Tt:= .node (some (.int .i64 0)) .leaf .leaf
def vt5:Tt:= .node (some (.bool true)) .leaf .leaf
def vr0:Tr:= .node (some vo0) (.node none (.node none .leaf (.node none (.node none (.node none (.node none (.node none .leaf (.node (some ZQ) .leaf .leaf)) .leaf) .leaf) .leaf) .leaf)) .leaf) (.node none .leaf (.node none (.node none (.node none .leaf (.node none .leaf (.node none (.node none .leaf (.node (some ZR) .leaf .leaf)) .leaf))) .leaf) (.node none (.node none (.node (some vo2) .leaf .leaf) .leaf) .leaf)))
def vr1:Tr:= .node (some vo4) (.node none (.node none (.node none .leaf (.node none (.node (some Ze) .leaf .leaf) .leaf)) .leaf) .leaf) (.node none (.node none (.node none .leaf (.node none .leaf (.node none .leaf (.node none .leaf (.node (some vo6) .leaf .leaf))))) .leaf) (.node none .leaf (.node none (.node none (.node (some Zd) .leaf .leaf) .leaf) .leaf)))
def vr2:Tr:= .node none (.node (some Ze) .leaf .leaf) .leaf
def vr3:Tr:= .node none (.node (some Zd) .leaf .leaf) .leaf
def vr4:Tr:= .node none (.node (some vo2) .leaf .leaf) .leaf
def zS:Tr:=(.node (some vo3) (.node (some vo4) .leaf .leaf) (.node (some vo0) .leaf .leaf))

theorem Qb:zS=ofList Bl:=by kernel_rfl
theorem Np:Ri Tryz.prog Bl=true:=by kernel_rfl
theorem Yj:Tryz.prog.globals.size=3:=by kernel_rfl
theorem Zf:Tryz.prog.follows .mixedOrders=true:=by kernel_rfl
theorem Rn:iJ Tryz.prog:=Jt (by kernel_rfl)
abbrev vS0:VS:=⟨.leaf,zS,3,[],[]⟩
def vS1:VS:=⟨.node none (.node none (.node (some (.pointer (some ⟨79,0,none⟩))) .leaf .leaf) .leaf) (.node (some (.pointer (some ⟨75,0,none⟩))) .leaf .leaf), .node (some vo3) (.node (some vo4) (.node none (.node none (.node none (.node none (.node (some (.cells ⟨[]⟩ 68 (0,0))) .leaf .leaf) .leaf) vr2) .leaf) (.node none (.node none (.node (some (.cells ⟨[.int .i64 0, .int .i64 0, .int .i64 1]⟩ 188 (0,0))) (.node (some (.cells ⟨[.int .i64 0, .int .i64 0, .int .i64 0, .int .i64 0, .int .i64 0, .int .i64 0, .int .i64 0, .int .i64 0, .int .i64 0, .int .i64 0, .int .i64 0, .int .i64 0, .int .i64 (-1)]⟩ 152 (0,0))) .leaf .leaf) .leaf) .leaf) (.node none (.node none (.node (some (.cells ⟨[.slice (some ⟨65,0,none⟩) 1 131084, .slice (some ⟨67,0,none⟩) 1 131098, .slice (some ⟨69,0,none⟩) 1 131076, .slice (some ⟨32,0,none⟩) 1 131078, .slice (some ⟨35,0,none⟩) 1 131078, .int .i64 1, .slice (some ⟨74,0,none⟩) 1 131074, .slice (some ⟨70,0,none⟩) 0 1, .slice none 0 0, .int .i64 0]⟩ 99 (0,0))) .leaf .leaf) .leaf) .leaf))) (.node none (.node none (.node none (.node none (.node (some (.cells ⟨[.string ⟨#[105,110,105,116]⟩, .slice (some ⟨61,0,none⟩) 1 131074, .slice (some ⟨62,0,none⟩) 64 8388610, .slice (some ⟨63,0,none⟩) 0 1, .bool false, .int .i64 0]⟩ 147 (0,0))) .leaf .leaf) .leaf) .leaf) .leaf) (.node none (.node none (.node none (.node (some (.cells ⟨[.int .i64 0, .int .i64 1]⟩ 145 (0,0))) .leaf .leaf) .leaf) .leaf) (.node none vr3 (.node (some (.cells ⟨[.int .i64 4]⟩ 3 (0,0))) .leaf .leaf))))) (.node (some vo0) (.node none (.node none (.node none (.node (some (.cells ⟨[.int .i64 (-1), .int .i64 0, .slice (some ⟨38,0,none⟩) 1 131074]⟩ 185 (0,0))) .leaf .leaf) .leaf) (.node none (.node none (.node (some (.cells ⟨[.int .u8 0, .int .u8 0, .int .u8 0, .int .u8 0, .int .u8 0, .int .u8 0, .int .u8 0, .int .u8 0, .int .u8 0, .int .u8 0, .int .u8 0, .int .u8 0, .int .u8 0, .int .u8 0, .int .u8 0, .int .u8 0]⟩ 5 (0,0))) .leaf .leaf) .leaf) .leaf)) .leaf) (.node none (.node none .leaf (.node none (.node none (.node (some (.cells ⟨[.slice (some ⟨72,0,none⟩) 16 2097154]⟩ 42 (0,0))) .leaf .leaf) .leaf) .leaf)) (.node none (.node none (.node (some (.cells ⟨[.int .i64 0]⟩ 3 (0,0))) (.node (some (.cells ⟨[]⟩ 207 (0,0))) .leaf .leaf) .leaf) .leaf) (.node none vr4 (.node (some (.cells ⟨[.int .u8 0, .int .u8 0, .int .u8 0, .int .u8 0, .int .u8 0, .int .u8 0, .int .u8 0, .int .u8 0, .int .u8 0, .int .u8 0, .int .u8 0, .int .u8 0, .int .u8 0, .int .u8 0, .int .u8 0, .int .u8 0, .int .u8 0, .int .u8 0, .int .u8 0, .int .u8 0, .int .u8 0, .int .u8 0, .int .u8 0, .int .u8 0, .int .u8 0, .int .u8 0, .int .u8 0, .int .u8 0, .int .u8 0, .int .u8 0, .int .u8 0, .int .u8 0, .int .u8 0, .int .u8 0, .int .u8 0, .int .u8 0, .int .u8 0, .int .u8 0, .int .u8 0, .int .u8 0, .int .u8 0, .int .u8 0, .int .u8 0, .int .u8 0, .int .u8 0, .int .u8 0, .int .u8 0, .int .u8 0, .int .u8 0, .int .u8 0, .int .u8 0, .int .u8 0, .int .u8 0, .int .u8 0, .int .u8 0, .int .u8 0, .int .u8 0, .int .u8 0, .int .u8 0, .int .u8 0, .int .u8 0, .int .u8 0, .int .u8 0, .int .u8 0]⟩ 5 (0,0))) .leaf .leaf))))),80,[],[]⟩
def vS2:VS:=⟨.node none vt2 (.node none vt3 .leaf), .node (some vo3) vr1 vr0,871,[],[]⟩
def vS3:VS:=⟨.node none (.node none vt1 vt4) (.node none vt3 vt4), .node (some vo3) vr1 vr0,1248,[],[]⟩
def vS4:VS:=⟨.node none (.node none vt1 (.node (some (.int .i64 0)) vt5 .leaf)) vt0, .node (some vo3) vr1 vr0,1625,[],[]⟩
def vS5:VS:=⟨.node none (.node none vt1 (.node (some (.int .i64 0)) vt5 (.node (some (.int .i64 5)) .leaf .leaf))) vt0, .node (some vo3) vr1 vr0,1988,[],[]⟩
def vS6:VS:=⟨.node none vt2 .leaf, .node (some vo3) (.node (some vo4) (.node none (.node none (.node none .leaf vr2) .leaf) .leaf) (.node none .leaf (.node none .leaf (.node none vr3 .leaf)))) (.node (some vo0) .leaf (.node none .leaf (.node none .leaf (.node none vr4 .leaf)))),2010,[],[]⟩
theorem Wj:prune 3 zS [2,3] [32,35,38,61,62,63,65,67,69,70,72,74,75,77,78,79] (vl Tryz.prog 100 161 3 ((oI Tryz.prog 10).take 4) vS0)=some vS1:=by kernel_rfl
theorem Wn:prune 3 zS [3,4,5] [77,78,79,497,776,870] (vl Tryz.prog 100 161 3 (((oI Tryz.prog 10).drop 4).take 1) vS1)=some vS2:=by kernel_rfl
theorem Wp:prune 3 zS [3,4,5,6,7] [77,78,79,497,776,870] (vl Tryz.prog 100 161 3 ((((oI Tryz.prog 10).drop 4).drop 1).take 3) vS2)=some vS3:=by kernel_rfl
theorem Wq:prune 3 zS [3,4,5,6,7,8,9,10] [77,78,79,497,776,870] (vl Tryz.prog 100 161 3 (((((oI Tryz.prog 10).drop 4).drop 1).drop 3).take 1) vS3)=some vS4:=by kernel_rfl
theorem Ws:prune 3 zS [3,4,5,6,7,8,9,10,13] [77,78,79,497,776,870] (vl Tryz.prog 100 161 3 ((((((oI Tryz.prog 10).drop 4).drop 1).drop 3).drop 1).take 1) vS4)=some vS5:=by kernel_rfl
theorem Wu:prune 3 zS [3,5] [77,78,79] (vl Tryz.prog 100 161 3 (((((((oI Tryz.prog 10).drop 4).drop 1).drop 3).drop 1).drop 1).take 3) vS5)=some vS6:=by kernel_rfl
theorem Yk:ends true (endOf Tryz.prog 100 3 10 (vl Tryz.prog 100 161 3 (((((((oI Tryz.prog 10).drop 4).drop 1).drop 3).drop 1).drop 1).drop 3) vS6))=true:=by kernel_rfl
theorem ZT (lW:Tryz.prog.follows .mixedOrders=true) (hnm:iJ Tryz.prog) (R0:Ren) (w0:World) (hh:HR Tryz.prog R0 zS.get w0):∃e s,LOk Tryz.prog R0 3 zS w0 161 (oI Tryz.prog 10) vS0 e s∧ends true (endOf Tryz.prog 100 3 10 (some (e,s)))=true:=
  qo lW hnm hh Wj (qo lW hnm hh Wn (qo lW hnm hh Wp (qo lW hnm hh Wq (qo lW hnm hh Ws (qo lW hnm hh Wu (TK lW hnm Yk hh))))))

theorem Qc {w:World} (h:Laid Bl w):Calls Tryz.prog 10 #[] w fun e w'=>e= .returned (.bool true)∧w'.os=w.os∧w'.tape=w.tape∧w'.output=w.output∧w.heap.size≤w'.heap.size∧∀k,k<w.heap.size→w'.heap[k]?=w.heap[k]?:=by
  obtain ⟨h1,h2⟩:=TQ Qb Np h
  exact TM Yj Zf Rn (by kernel_rfl) (by kernel_rfl) (fun R0 w0 hh=>ZT Zf Rn R0 w0 hh) w h1 h2
end
end Go.Proofs.YtecpbadkdpbkpaaGreatDoor
/-taplinelaw09.sane in the form of the walks here;the variables of the package. -/
namespace Go.Proofs.YtecpbadkdpbkpaaGreatDoor
open Go.RowKit Go.M
/-- the package's variables hold what the rows list -/
def Tab (w:World):Prop:=Go.V.Laid Bl w
theorem Tab.b {w w':World} (h:Tab w) (hE:IW [] w w'):Tab w':=Go.V.Laid.later h fun k hk=>hE.block k hk (by simp)
theorem Tab.e {w w':World} (h:Tab w) (hE:Ext w w'):Tab w':=h.b (hE.toB [])
theorem Tab.s {h0 h:View} {w0 w:World} {bs:List Res} (ht:Tab w0) (HS:St [] h0 w0 h bs w):Tab w:=ht.b HS.ext
def jP.f:Option Bool:=some true
theorem jP.calls {h0:View} {w0:World} (hv:jL h0 w0) (ht:Tab w0) {r:Bool} (H:jP.f=some r):Calls Tryz.prog 10 #[] w0 (fun e w1=>e= .returned (vB r)∧Ext w0 w1):=by
 obtain rfl:=Option.some.inj H
 refine (Qc ht).mono ?_
 rintro e w1 ⟨rfl,h1,h2,h3,h4,h5⟩
 exact ⟨rfl,h1,h2,h3,h4,h5⟩
end Go.Proofs.YtecpbadkdpbkpaaGreatDoor
namespace Go.Proofs.YtecpbadkdpbkpaaGreatDoor
open Go.ChangeShapes Go.WideShapes Go.ChangeAt Go.RowKit Go.M
set_option maxRecDepth 100000
theorem own:ownKnob Tryz.prog.godebug=none:=by kernel_rfl
theorem laidOut:laidOutB Tryz.prog=true:=by kernel_rfl
abbrev Gs : List (String × DataW Unit) := [("math/bits.deBruijn32tab", Rows.laid_math_bits_deBruijn32tab), ("math/bits.deBruijn64tab", Rows.laid_math_bits_deBruijn64tab), ("internal/strconv.uint64pow10", Rows.laid_internal_strconv_uint64pow10)]
section
open Go.V
theorem ZU:Wh Tryz.prog 0 Rows.laid_internal_strconv_uint64pow10=some [.int .u64 1, .int .u64 10, .int .u64 100, .int .u64 1000, .int .u64 10000, .int .u64 100000, .int .u64 1000000, .int .u64 10000000, .int .u64 100000000, .int .u64 1000000000, .int .u64 10000000000, .int .u64 100000000000, .int .u64 1000000000000, .int .u64 10000000000000, .int .u64 100000000000000, .int .u64 1000000000000000, .int .u64 10000000000000000, .int .u64 100000000000000000, .int .u64 1000000000000000000, .int .u64 10000000000000000000]:=by kernel_rfl
theorem ZV:Wh Tryz.prog 1 Rows.laid_math_bits_deBruijn32tab=some [.int .u8 0, .int .u8 1, .int .u8 28, .int .u8 2, .int .u8 29, .int .u8 14, .int .u8 24, .int .u8 3, .int .u8 30, .int .u8 22, .int .u8 20, .int .u8 15, .int .u8 25, .int .u8 17, .int .u8 4, .int .u8 8, .int .u8 31, .int .u8 27, .int .u8 13, .int .u8 23, .int .u8 21, .int .u8 19, .int .u8 16, .int .u8 7, .int .u8 26, .int .u8 12, .int .u8 18, .int .u8 6, .int .u8 11, .int .u8 5, .int .u8 10, .int .u8 9]:=by kernel_rfl
theorem ZW:Wh Tryz.prog 2 Rows.laid_math_bits_deBruijn64tab=some [.int .u8 0, .int .u8 1, .int .u8 56, .int .u8 2, .int .u8 57, .int .u8 49, .int .u8 28, .int .u8 3, .int .u8 61, .int .u8 58, .int .u8 42, .int .u8 50, .int .u8 38, .int .u8 29, .int .u8 17, .int .u8 4, .int .u8 62, .int .u8 47, .int .u8 59, .int .u8 36, .int .u8 45, .int .u8 43, .int .u8 51, .int .u8 22, .int .u8 53, .int .u8 39, .int .u8 33, .int .u8 30, .int .u8 24, .int .u8 18, .int .u8 12, .int .u8 5, .int .u8 63, .int .u8 55, .int .u8 48, .int .u8 27, .int .u8 60, .int .u8 41, .int .u8 37, .int .u8 16, .int .u8 46, .int .u8 35, .int .u8 44, .int .u8 21, .int .u8 52, .int .u8 32, .int .u8 23, .int .u8 11, .int .u8 54, .int .u8 26, .int .u8 40, .int .u8 15, .int .u8 34, .int .u8 20, .int .u8 31, .int .u8 10, .int .u8 25, .int .u8 14, .int .u8 19, .int .u8 9, .int .u8 13, .int .u8 8, .int .u8 7, .int .u8 6]:=by kernel_rfl
theorem Wv {W:World} (h:laidMetH Tryz.prog Gs W):Tab W:=by
  obtain ⟨ps,hL,_⟩:laidMet Tryz.prog Gs W:=h
  intro p hp
  unfold Bl at hp
  simp only [List.mem_cons,List.not_mem_nil,or_false] at hp
  rcases hp with rfl|rfl|rfl
  · exact Dj hL (n := "internal/strconv.uint64pow10") (D := Rows.laid_internal_strconv_uint64pow10) (by unfold Gs; simp) (by kernel_rfl) ZU
  · exact Dj hL (n := "math/bits.deBruijn32tab") (D := Rows.laid_math_bits_deBruijn32tab) (by unfold Gs; simp) (by kernel_rfl) ZV
  · exact Dj hL (n := "math/bits.deBruijn64tab") (D := Rows.laid_math_bits_deBruijn64tab) (by unfold Gs; simp) (by kernel_rfl) ZW
end
def ZX (vs:List Value):Obj→Obj
  | .cells _ t frozen=> .cells ⟨vs⟩ t frozen
  |o=>o
noncomputable def Yl (os:Os):Array Obj:=(World.holding Tryz.prog os ⟨#[],#[],[]⟩).heap
noncomputable def Ym (os:Os):Array Obj:=Bl.foldl (fun h p=>h.modify p.1 (ZX p.2)) (Yl os)
noncomputable def laidWorld (os:Os):World:={World.holding Tryz.prog os ⟨#[],#[],[]⟩ with heap:=(Ym os)}
theorem laid_met (os:Os) (args:Array Value):laidMet Tryz.prog Gs ((laidWorld os).forCall (fun _ _=>0) ⟨#[],args,[]⟩).memory:=
  laidMet_of_run' 20 (by kernel_rfl) (by kernel_rfl)
section
variable {H:Type} {enc:TypeId×Value→H} {W:World}
theorem Nq {n:Nat} (h:n≤maxLen):n≤9223372036854775807:=by unfold maxLen at h;omega
theorem op2:Opn enc Tryz.prog W 2 (Kd.int .i64) (fun n=>(Lit.int .i64 n).wf=true):=QC Tryz.underlying2 (by kernel_rfl)
theorem op3:Opn enc Tryz.prog W 3 (Kd.int .i64) (fun n=>(Lit.int .i64 n).wf=true):=QC Tryz.underlying3 (by kernel_rfl)
theorem op4:Opn enc Tryz.prog W 4 Kd.bool (fun _=>True):=Sj Tryz.underlying4 (by kernel_rfl)
theorem op9:Opn enc Tryz.prog W 9 Kd.str (fun s=>s.size≤maxLen):=Ve Tryz.underlying9 (by kernel_rfl)
theorem wf64 {n:Int} (h:(Lit.int .i64 n).wf=true): -9223372036854775808≤n∧n≤9223372036854775807:=by
  simp [Lit.wf,IntKind.min,IntKind.max,IntKind.bits,IntKind.signed] at h
  omega
def Yn (s:uG):Prop:=s.aQ.size≤maxLen∧(Lit.int .i64 s.vAt).wf=true∧(Lit.int .i64 s.aP).wf=true
theorem ZY:Opn enc Tryz.prog W 68 sJ Yn:=
  (Ag (fun p=>(⟨p.1,p.2.1,p.2.2⟩:uG)) (fun _=>rfl) (pX Tryz.underlying68 (by kernel_rfl) (l7 op9 rfl (l7 op2 rfl (wI op2 rfl))))).weak fun _ h=>h
theorem Z4:Opn enc Tryz.prog W 49 (Kd.slice sJ) (fun xs=>xs.length≤maxLen∧∀s∈xs,Yn s):=vG ZY Tryz.underlying49 (by kernel_rfl)
theorem arg2 {b:Nat} {v:Value} {d:DataW H} {p:List MemPlace} (hval:Value.okWide Tryz.prog W .any b 2 v) (h:DataW.Trod enc Tryz.prog W 0 (fun _=>true) true 2 v d p):∃n:Int,v= .int .i64 n∧-9223372036854775808≤n∧n≤9223372036854775807:=by
  obtain ⟨n,rfl⟩:=okWide_int Tryz.underlying2 hval
  obtain ⟨fuel,hf⟩:=h
  obtain ⟨m,hK,hF⟩:=op2.open_ _ _ _ hf
  have:[Value.int .i64 n]=[Value.int .i64 m]:=hK
  injection this with this
  injection this with _ this
  subst this
  exact ⟨n,rfl,wf64 hF⟩
theorem Z5 {b:Nat} {v:Value} {d:DataW H} {p:List MemPlace} (hval:Value.okWide Tryz.prog W .any b 49 v) (h:DataW.Trod enc Tryz.prog W 0 (fun _=>true) true 49 v d p):
    ∃(xs:List uG) (A:Option Addr) (c:Nat),v= .slice A xs.length c∧Rd sJ (vw W) A xs∧xs.length≤c∧xs.length≤maxLen∧∀s∈xs,Yn s:=by
  obtain ⟨a,len,cap,rfl⟩:=okWide_slice Tryz.underlying49 hval
  obtain ⟨fuel,hf⟩:=h
  obtain ⟨xs,⟨A,c,hcs,hc,hr⟩,hF⟩:=Z4.open_ _ _ _ hf
  have:[Value.slice a len cap]=[Value.slice A xs.length c]:=hcs
  injection this with this
  injection this with h1 h2 h3
  subst h1 h2 h3
  exact ⟨xs,_,_,rfl,hr,hc,hF⟩
theorem Qd {fn:Func} {s:ChangeSpec} {args:Array Value} {ds gs:List (DataW H)} {before:List MemPlace} {W':World} (hT:∀t∈fn.params.toList,Tryz.prog.readableRec t=true∧t<Tryz.prog.types.size) (hr:fn.resultTypes=#[4]) (hvs:s.vars=[])
    (hfn:s.fn H (ds++gs)={results:=[.lit (.bool true)],args:=ds}) (hW:DataW.Whole enc Tryz.prog fn.params.toList s.vars false W args.toList ds gs before) (hE:Ext W W'):s.post enc Tryz.prog fn false true false false W args (.bool true) W':=by
  have hW':=hW
  obtain ⟨p,q,hA,hV,e,hfz,hnd⟩:=hW
  rw [hvs] at hV
  obtain ⟨rfl,rfl⟩:=trodVars_none hV
  have hlt:∀x∈p,x.block<W.heap.size:=fun x hx=>hW'.lt x (by rw [e];exact List.mem_append_left _ hx)
  refine ⟨ds,[],before,[],p,[],hW',?_,?_,?_,Below.frame hE _,fun h=>by cases h⟩
  · rw [hfn, hr]
    exact trodAll_cons_mk (shut_bool Tryz.underlying4 _) trodAll_mk0
  · rw [hfn]
    exact D7 laidOut hE hT hA hlt (fun x hx=>by simpa using hlt x hx)
  · rw [hfn, hvs]
    rfl
end
end Go.Proofs.YtecpbadkdpbkpaaGreatDoor
namespace Go.Proofs.YtecpbadkdpbkpaaGreatDoor
open Go.RowKit Go.M
def Ev {α:Type} (f:Nat→Option α) (v:α):Prop:=∃K,∀k,K≤k→f k=some v
def Ev2 {α:Type} (f:Nat→Nat→Option α) (v:α):Prop:=∃K,∀k m,K≤k→K≤m→f k m=some v
section
variable {α β γ:Type}
theorem Ev.pure {f:Nat→Option α} {v:α} (h:∀k,f k=some v):Ev f v:=⟨0,fun k _=>h k⟩
theorem Ev.bind {f:Nat→Option α} {g:Nat→α→Option β} {a:α} {b:β} (hf:Ev f a) (hg:Ev (fun k=>g k a) b):Ev (fun k=>(f k).bind (g k)) b:=by
  obtain ⟨K,hK⟩:=hf
  obtain ⟨L,hL⟩:=hg
  exact ⟨max K L, fun k hk => by
    show (f k).bind (g k)=some b
    rw [hK k (by omega)]
    exact hL k (by omega)⟩
theorem Ev.congr {f g:Nat→Option α} {v:α} (hf:Ev f v) (h:∀k,g k=f k):Ev g v:=by
  obtain ⟨K,hK⟩:=hf
  exact ⟨K,fun k hk=>(h k).trans (hK k hk)⟩
theorem Ev.of_le {f g:Nat→Option α} {v:α} (hf:Ev f v) (K:Nat) (h:∀k,K≤k→g k=f k):Ev g v:=by
  obtain ⟨L,hL⟩:=hf
  exact ⟨max K L,fun k hk=>(h k (by omega)).trans (hL k (by omega))⟩
theorem Ev.succ {f:Nat→Option α} {v:α} (hf:Ev (fun k=>f (k+1)) v):Ev f v:=by
  obtain ⟨K,hK⟩:=hf
  refine ⟨K+1,fun k hk=>?_⟩
  obtain ⟨m,rfl⟩:∃m,k=m+1:=⟨k-1,by omega⟩
  exact hK m (by omega)
theorem Ev.uniq {f:Nat→Option α} {v u:α} (hf:Ev f v) (hg:Ev f u):v=u:=by
  obtain ⟨K,hK⟩:=hf
  obtain ⟨L,hL⟩:=hg
  have h1:=hK (max K L) (by omega)
  have h2:=hL (max K L) (by omega)
  rw [h1] at h2
  exact Option.some.inj h2
theorem Ev2.diag {f:Nat→Nat→Option α} {v:α} (h:Ev2 f v):Ev (fun k=>f k k) v:=by
  obtain ⟨K,hK⟩:=h
  exact ⟨K,fun k hk=>hK k k hk hk⟩
theorem Ev2.pure {f : Nat → Nat → Option α} {v : α} (h : ∀ k m, f k (m + 1) = some v) : Ev2 f v := ⟨1, fun k m _ hm => by
  obtain ⟨q,rfl⟩:∃q,m=q+1:=⟨m-1,by omega⟩
  exact h k q⟩
theorem Ev2.step {f:Nat→Nat→Option α} {g:Nat→Option β} {b:β} {r:Nat→Nat→β→Option α} {v:α} (hg:Ev g b) (hr:Ev2 (fun k m=>r k m b) v) (h:∀k m,f k (m+1)=(g k).bind (r k m)):Ev2 f v:=by
  obtain ⟨K,hK⟩:=hg
  obtain ⟨L,hL⟩:=hr
  refine ⟨max K L+1,fun k m hk hm=>?_⟩
  obtain ⟨q,rfl⟩:∃q,m=q+1:=⟨m-1,by omega⟩
  rw [h,hK k (by omega)]
  exact hL k q (by omega) (by omega)
theorem Ev2.next {f r:Nat→Nat→Option α} {v:α} (hr:Ev2 r v) (h:∀k m,f k (m+1)=r k m):Ev2 f v:=by
  obtain ⟨L,hL⟩:=hr
  refine ⟨L+1,fun k m hk hm=>?_⟩
  obtain ⟨q,rfl⟩:∃q,m=q+1:=⟨m-1,by omega⟩
  rw [h]
  exact hL k q (by omega) (by omega)
theorem Ev.all {f:γ→Nat→Option α} {q:γ→α}:∀(l:List γ),(∀z∈l,Ev (f z) (q z))→∃K,∀k,K≤k→∀z∈l,f z k=some (q z)
  |[],_=>⟨0,fun k _ z hz=>by cases hz⟩
  | x :: l, h => by
    obtain ⟨K,hK⟩:=h x List.mem_cons_self
    obtain ⟨L,hL⟩:=Ev.all l (fun z hz=>h z (List.mem_cons_of_mem _ hz))
    refine ⟨max K L,fun k hk z hz=>?_⟩
    rcases List.mem_cons.1 hz with rfl|hz
    · exact hK k (by omega)
    · exact hL k (by omega) z hz
end
theorem lF {x:Int} (h0: -9223372036854775808≤x) (h1:x≤9223372036854775807):IntKind.wrap .i64 x=x:=by
  simp [IntKind.wrap,IntKind.bits,IntKind.signed]
  omega
theorem fO {j n:Nat} (hj:j<n) (hn:n≤9223372036854775807):IntKind.wrap .i64 ((j:Int)+1)=((j+1:Nat):Int):=by
  rw [lF (by omega) (by omega)];rfl
section
variable {α:Type} {z:α} {xs:List α}
theorem fU (j:Nat):rd z xs (j:Int)=xs.getD j z:=by simp [rd]
theorem Ro {i:Int} (h0:0≤i) (h1:i<xs.length):rd z xs i∈xs:=by
  unfold rd
  have:i.toNat<xs.length:=by omega
  rw [List.getD_eq_getElem?_getD,List.getElem?_eq_getElem this]
  exact List.getElem_mem this
theorem getD_mem {j:Nat} (h1:j<xs.length):xs.getD j z∈xs:=by
  rw [List.getD_eq_getElem?_getD,List.getElem?_eq_getElem h1]
  exact List.getElem_mem h1
end
end Go.Proofs.YtecpbadkdpbkpaaGreatDoor
namespace Go.Proofs.YtecpbadkdpbkpaaGreatDoor
open Go.RowKit Go.M
def fB.l0 (a0:bF):Nat→Int→(List Int)→Option ((List Int))
 |0,_,_=>none
 |m+1,aG,dB=>if (decide (aG<(a0.au.length:Int)))=true then (if 0≤aG∧aG<a0.au.length then (if dB.length+1≤4294967296 then (fB.l0 a0 m (IntKind.wrap .i64 (aG+1)) (dB++([(rd aj a0.au aG).vType]:List Int))) else none) else none) else (some dB)
def fB.f (k:Nat) (a0:bF):Option ((List Int)):=((if (a0.aC==3)=true then (some (a0.aC==3)) else (some (a0.aC==6))):Option (Bool)).bind fun xx1=>(if xx1=true then (some ([a0.dM]:List Int)) else (if (a0.aC==4)=true then ((fB.l0 a0 k 0 ([]:List Int)).bind fun xx2=>(some xx2)) else (some ([]:List Int))))
set_option maxRecDepth 20000 in
set_option maxHeartbeats 4000000 in
theorem fB.calls (k:Nat) (a0:bF) (jS:Option Addr) (jT:Nat) {h0:View} {w0:World} (hv:jL h0 w0) (sK:Rd eH h0 jS a0.au) (yc:a0.au.length≤jT) {r:(List Int)} (H:fB.f k a0=some r):Calls Tryz.prog 130 #[Value.agg #[vI a0.aC,vS a0.aQ,vI a0.bG.aP,vB a0.bG.aN,vI a0.dM,vI a0.vN,vL jS a0.au.length jT]] w0 (fun e w1=>∃(h1:View) (bU:Option Addr) (bV:Nat),e= .returned (vL bU r.length bV)∧r.length≤bV∧Rd (Kd.int .i64) h1 bU r∧Gr w0.heap.size h0 h1∧jL h1 w1∧Ext w0 w1):=by
 unfold fB.f at H
 have HS:St [] h0 w0 h0 [] w0:=St.init hv
 go_enter Tryz.func130,Tryz.ntmps130
 refine wp_seq<|region<|dU rfl rfl (dY (cs:=#[vI a0.aC,vS a0.aQ,vI a0.bG.aP,vB a0.bG.aN,vI a0.dM,vI a0.vN,vL jS a0.au.length jT]) rfl rfl) ?_
 rintro w1 _ hE1 ⟨b1,rfl,ge1,hb1⟩
 have HS1:=HS.new hE1 ge1 hb1
 refine rs (vL none 0 0) (aB rfl) ?_
 try simp only [sc0,sc1]
 refine aA<|ak<|wp_seq<|wp_seq<|region<|rs (vP b1 0) (aH (n:=1) (o':=0) rfl Tryz.runUnderlying56 rfl Tryz.sizeOf3 (by decide) rfl)<|rs (vI a0.aC) (aK rfl Tryz.isAgg3 (HS1.look 0 rfl) rfl) ?_
 try simp only [sc0,sc1]
 refine aA<|ak<|wp_block<|wp_seq<|wp_seq<|region<|rs (vB (a0.aC==3)) (bK rfl rfl rfl)<|rs (vB (a0.aC==3)) (aB rfl) ?_
 try simp only [sc0,sc1]
 refine aA<|ak ?_
 obtain ⟨xx1,H,G1⟩:=bJ H
 refine lX [8,10] (fun us w'=>Fit us (fun uj1=>[vB xx1,(uj1 1)])∧St [] h0 w0 h0 [(some b1, .cells #[vI a0.aC,vS a0.aQ,vI a0.bG.aP,vB a0.bG.aN,vI a0.dM,vI a0.vN,vL jS a0.au.length jT] 56 (0,0))] w') ?_ ?_
 ·refine wp_cond_split (t:=(a0.aC==3)) rfl (fun c1=>?_) (fun c1=>?_)
  ·replace H:=bM H c1
   refine wp_skip ?_
   obtain rfl:=Option.some.inj H
   refine qM rfl ⟨(fit rfl),HS1⟩
  ·replace H:=bW H (nt c1)
   refine region<|rs (vB (a0.aC==6)) (bK rfl rfl rfl)<|rs (vB (a0.aC==6)) (aB rfl) ?_
   try simp only [sc0,sc1]
   refine aA ?_
   obtain rfl:=Option.some.inj H
   refine qM rfl ⟨(fit rfl),HS1⟩
 ·rintro us w2 ⟨Qe,HS2⟩
  obtain ⟨uj1,rfl⟩:=unj Qe
  replace H:=G1
  clear G1
  try simp only [patch,sc0,sc1]
  refine wp_cond_split (t:=xx1) rfl (fun c2=>?_) (fun c2=>?_)
  ·replace H:=bM H c2
   refine wp_seq<|region<|rs (vP b1 4) (aH (n:=1) (o':=4) rfl Tryz.runUnderlying56 rfl Tryz.sizeOf3 (by decide) rfl)<|rs (vI a0.dM) (aK rfl Tryz.isAgg3 (HS2.look 0 rfl) rfl)<|DY (Kd.int .i64) (xs:=([a0.dM]:List Int)) (n:=1) (cs:=[vI a0.dM]) Tryz.runUnderlying81 Tryz.typeInfo3 Tryz.zeroValue3 rfl rfl (by decide) (by decide) (by decide) [vI a0.dM] (uX.trans rfl) rfl rfl rfl rfl (tJ (qs:=[vI a0.dM]) rfl (uV (cs:=[]))) HS2 ?_
   intro w3 b2 HS3 ho1
   refine rs (vL (rowA (some b2)) 1 1) (aB rfl) ?_
   try simp only [sc0,sc1]
   refine aA<|ak<|wp_ret<|dn<|aW ?_
   obtain rfl:=Option.some.inj H
   refine bodyPost_ret (aV rfl (aX rfl)) rfl ?_
   obtain ⟨h1,HS4,hs1,Ju⟩:=qC HS3 (i:=0) rfl ho1
   exact ⟨h1,(rowA (some b2)),1,(by first|rfl|(rw [ho1.len];done)|(rw [ho1.len];rfl)),ho1.cap,Ju,HS4.gr,HS4.sees,HS4.toE⟩
  ·replace H:=bW H (nt c2)
   refine wp_seq<|region<|rs (vB (a0.aC==4)) (bK rfl rfl rfl)<|rs (vB (a0.aC==4)) (aB rfl) ?_
   try simp only [sc0,sc1]
   refine aA<|ak<|wp_cond_split (t:=(a0.aC==4)) rfl (fun c3=>?_) (fun c3=>?_)
   ·replace H:=bM H c3
    refine wp_seq<|region<|rs (vL none 0 0) (aB rfl) ?_
    try simp only [sc0,sc1]
    refine aA<|ak<|wp_seq<|wp_seq<|region<|rs (vP b1 6) (aH (n:=1) (o':=6) rfl Tryz.runUnderlying56 rfl Tryz.sizeOf54 (by decide) rfl)<|rs (vL jS a0.au.length jT) (aK rfl Tryz.isAgg54 (HS2.look 0 rfl) rfl)<|rs (vI (a0.au.length:Int)) (jJ rfl Tryz.runUnderlying54)<|rs (vI 0) (aJ rfl) ?_
    try simp only [sc0,sc1]
    refine aA<|ak ?_
    have HS5:=HS2.nothing (.cells ([]:List Value).toArray 3 (0,0))
    obtain ⟨xx2,H,G2⟩:=bJ H
    refine jm [3,5,19,20,21,22,23,24,25,26,27,28] (fun m us w'=>∃aG:Int,∃dB:List Int,∃(zA:Option Nat) (Nr:Nat),∃(iO:List Value),Fit us (fun uy1=>[vL (rowA zA) dB.length Nr,(uy1 1),vI aG,(uy1 3),(uy1 4),(uy1 5),(uy1 6),(uy1 7),(uy1 8),(uy1 9),(uy1 10),(uy1 11)])∧fB.l0 a0 m aG dB=some xx2∧gY (Kd.int .i64) h0 dB zA dB.length Nr iO∧St [] h0 w0 h0 [(zA, .cells (iO).toArray 3 (0,0)),(some b1, .cells #[vI a0.aC,vS a0.aQ,vI a0.bG.aP,vB a0.bG.aN,vI a0.dM,vI a0.vN,vL jS a0.au.length jT] 56 (0,0))] w') (fun us w'=>∃(kT:Option Nat) (qp:Nat),∃(kD:List Value),Fit us (fun uo1=>[vL (rowA kT) xx2.length qp,(uo1 1),(uo1 2),(uo1 3),(uo1 4),(uo1 5),(uo1 6),(uo1 7),(uo1 8),(uo1 9),(uo1 10),(uo1 11)])∧gY (Kd.int .i64) h0 xx2 kT xx2.length qp kD∧St [] h0 w0 h0 [(kT, .cells (kD).toArray 3 (0,0)),(some b1, .cells #[vI a0.aC,vS a0.aQ,vI a0.bG.aP,vB a0.bG.aN,vI a0.dM,vI a0.vN,vL jS a0.au.length jT] 56 (0,0))] w') k ⟨0,([]:List Int),none,0,([]:List Value),(fit rfl),H,(gY.none' (Kd.int .i64) _).norm,HS5⟩ ?_ ?_
    ·rintro m us w4 ⟨aG,dB,zA,Nr,iO,ng,H,jD,HS6⟩
     obtain ⟨uy1,rfl⟩:=unj ng
     cases m with
     |zero=>exact absurd H (by simp [fB.l0])
     |succ m=>
      rw [fB.l0] at H
      try simp only [patch,sc0,sc1]
      refine wp_seq<|region<|rs (vB (decide (aG<(a0.au.length:Int)))) (bK rfl rfl rfl) ?_
      try simp only [sc0,sc1]
      refine aA<|ak<|wp_seq<|wp_cond_split (t:=(decide (aG<(a0.au.length:Int)))) rfl (fun c4=>?_) (fun c4=>?_)
      ·replace H:=bM H c4
       refine wp_skip<|ak<|wp_seq<|wp_block<|wp_seq<|region ?_
       obtain ⟨hi1,H⟩:=eG H
       obtain ⟨ad1,e1,lu⟩:=iM sK hi1.1 hi1.2
       refine rs (Value.pointer (some (Addr.add ad1 (aG.toNat*3)))) (dP (sz:=3) rfl e1 rfl hi1.1 hi1.2 Tryz.runUnderlying54 Tryz.sizeOf129)<|rs (Value.agg #[vS ((rd aj a0.au aG).aQ),vI ((rd aj a0.au aG).vType),vI ((rd aj a0.au aG).vAt)]) (ig rfl Tryz.isAgg129 (lu.sees HS6.sees) Tryz.sizeOf129)<|dU rfl rfl (fA (cs:=#[vS ByteArray.empty,vI 0,vI 0]) Tryz.zeroValue129 rfl) ?_
       rintro w5 _ hE2 ⟨b3,rfl,ge2,hb2⟩
       have HS7:=HS6.new hE2 ge2 hb2
       refine fV (i:=0) (cs:=[vS ByteArray.empty,vI 0,vI 0]) (cs':=[vS ((rd aj a0.au aG).aQ),vI ((rd aj a0.au aG).vType),vI ((rd aj a0.au aG).vAt)]) (vs:=[vS ((rd aj a0.au aG).aQ),vI ((rd aj a0.au aG).vType),vI ((rd aj a0.au aG).vAt)]) (bs':=[(some b3, .cells #[vS ((rd aj a0.au aG).aQ),vI ((rd aj a0.au aG).vType),vI ((rd aj a0.au aG).vAt)] 129 (0,0)),(zA, .cells (iO).toArray 3 (0,0)),(some b1, .cells #[vI a0.aC,vS a0.aQ,vI a0.bG.aP,vB a0.bG.aN,vI a0.dM,vI a0.vN,vL jS a0.au.length jT] 56 (0,0))]) rfl rfl Tryz.sizeOf129 rfl rfl (by decide) rfl HS7 rfl (Nat.le_of_ble_eq_true rfl) rfl rfl ?_
       intro w6 HS8
       try simp only [sc0,sc1]
       refine aA<|ak<|region<|rs (vL (rowA zA) dB.length Nr) (aJ rfl)<|rs (vP b3 1) (aH (n:=1) (o':=1) rfl Tryz.runUnderlying129 rfl Tryz.sizeOf3 (by decide) rfl)<|rs (vI ((rd aj a0.au aG).vType)) (aK rfl Tryz.isAgg3 (HS8.look 0 rfl) rfl)<|DY (Kd.int .i64) (xs:=([(rd aj a0.au aG).vType]:List Int)) (n:=1) (cs:=[vI ((rd aj a0.au aG).vType)]) Tryz.runUnderlying81 Tryz.typeInfo3 Tryz.zeroValue3 rfl rfl (by decide) (by decide) (by decide) [vI ((rd aj a0.au aG).vType)] (uX.trans rfl) rfl rfl rfl rfl (tJ (qs:=[vI ((rd aj a0.au aG).vType)]) rfl (uV (cs:=[]))) HS8 ?_
       intro w7 b4 HS9 ho2
       refine aI (by simp only [sc0,sc1];rfl) ?_
       obtain ⟨hl1,H⟩:=eG H
       refine Fq (Kd.int .i64) (q:=2) (cs:=iO) rfl rfl Tryz.runUnderlying81 Tryz.typeInfo3 Tryz.zeroValue3 rfl (by decide) rfl (Fv Tryz.runUnderlying81 HS9 (i:=0) rfl ho2 rfl) ho2.len (qG ho2) hl1 HS9 rfl jD ?_
       intro w8 ob1 c5 cs1 ru ho3
       refine rs (vL (rowA ob1) (dB.length+1) c5) (aB rfl) ?_
       try simp only [sc0,sc1]
       refine aA<|dI<|ak<|region<|rs (vI (w64 (aG+1))) (bK rfl rfl rfl)<|rs (vI (w64 (aG+1))) (aJ rfl) ?_
       try simp only [sc0,sc1]
       refine aA<|gZ m (Nat.lt_succ_self m) rfl ⟨(w64 (aG+1)),(dB++([(rd aj a0.au aG).vType]:List Int)),ob1,c5,cs1,(fit (by first|rfl|(rw [ho3.len];done)|(rw [ho3.len];rfl))),H,ho3.norm,ru.tail.tail⟩
      ·replace H:=bW H (nt c4)
       refine wp_exit<|eY ?_
       obtain rfl:=Option.some.inj H
       refine iG rfl ⟨zA,Nr,iO,(fit rfl),jD.norm,HS6⟩
    ·rintro us w9 ⟨kT,qp,kD,ni,lC,qw⟩
     obtain ⟨uo1,rfl⟩:=unj ni
     replace H:=G2
     clear G2
     try simp only [patch,sc0,sc1]
     refine ak<|wp_seq<|region<|rs (vL (rowA kT) xx2.length qp) (aJ rfl)<|rs (vL (rowA kT) xx2.length qp) (aB rfl) ?_
     try simp only [sc0,sc1]
     refine aA<|ak<|wp_ret<|dn<|aW ?_
     obtain rfl:=Option.some.inj H
     refine bodyPost_ret (aV rfl (aX rfl)) rfl ?_
     obtain ⟨h2,uf,hs2,Z7⟩:=qC qw (i:=0) rfl lC
     exact ⟨h2,(rowA kT),qp,rfl,lC.cap,Z7,uf.gr,uf.sees,uf.toE⟩
   ·replace H:=bW H (nt c3)
    refine wp_skip<|dI<|ak<|wp_seq<|region<|rs (vL none 0 0) (aB rfl) ?_
    try simp only [sc0,sc1]
    refine aA<|ak<|wp_ret ?_
    obtain rfl:=Option.some.inj H
    exact bodyPost_ret (aV rfl (aX rfl)) rfl<|⟨h0,none,0,rfl,(Nat.le_refl 0),(Rd.nil _ _ _),HS2.gr,HS2.sees,HS2.toE⟩

end Go.Proofs.YtecpbadkdpbkpaaGreatDoor
namespace Go.Proofs.YtecpbadkdpbkpaaGreatDoor
open Go.RowKit Go.M
def cu.l0 (rec:Int→(List Int)→Bool→(List Bool)→(List bF)→Option (Int×(List Int)×Bool×(List Bool))) (x3:List bF) (v1:(List Int)):Nat→Int→Int→Bool→(List Int)→(List Bool)→Option (Int×Bool×(List Int)×(List Bool))
 |0,_,_,_,_,_=>none
 |m+1,aG,dB,jl,uO,Bo=>if (decide (dB<(v1.length:Int)))=true then (if 0≤dB∧dB<v1.length then ((rec (rd 0 v1 dB) uO jl Bo x3).bind fun v2=>(cu.l0 rec x3 v1 m v2.1 (IntKind.wrap .i64 (dB+1)) v2.2.2.1 v2.2.1 v2.2.2.2)) else none) else (some (aG,jl,uO,Bo))
def cu.f:Nat→Int→(List Int)→Bool→(List Bool)→(List bF)→Option (Int×(List Int)×Bool×(List Bool))
 |0,_,_,_,_,_=>none
 |k+1,a0,x0,x1,x2,x3=>if 0≤a0∧a0<((x0.length:Nat):Int) then (if ((decide ((rd 0 x0 a0)>0))||(!x1))=true then (if 0≤a0∧a0<((x0.length:Nat):Int) then (some ((rd 0 x0 a0),x0,x1,x2)) else none) else (if 0≤a0∧a0<((x2.length:Nat):Int) then (if (rd false x2 a0)=true then (some (0,x0,false,x2)) else (if 0≤a0∧a0<((x2.length:Nat):Int) then (if 0≤a0∧a0<x3.length then ((fB.f k (rd ah x3 a0)).bind fun v1=>((cu.l0 (cu.f k) x3 v1 k 0 0 x1 x0 (List.set x2 a0.toNat true)).bind fun xx1=>(if 0≤a0∧a0<((xx1.2.2.1.length:Nat):Int) then (some (((bn ieq (eU ieq (eU ieq (eU ieq (eU ieq (eU ieq (eU ieq ([]:List (Int×Int)) 1 ((rd ah x3 a0).bG.aP)) 2 8) 3 (IntKind.wrap .i64 ((rd ah x3 a0).vN*xx1.1))) 4 ((rd ah x3 a0).vN)) 5 4) 6 xx1.1) ((rd ah x3 a0).aC)).getD 0),(List.set xx1.2.2.1 a0.toNat ((bn ieq (eU ieq (eU ieq (eU ieq (eU ieq (eU ieq (eU ieq ([]:List (Int×Int)) 1 ((rd ah x3 a0).bG.aP)) 2 8) 3 (IntKind.wrap .i64 ((rd ah x3 a0).vN*xx1.1))) 4 ((rd ah x3 a0).vN)) 5 4) 6 xx1.1) ((rd ah x3 a0).aC)).getD 0)),(xx1.2.1&&(decide (((bn ieq (eU ieq (eU ieq (eU ieq (eU ieq (eU ieq (eU ieq ([]:List (Int×Int)) 1 ((rd ah x3 a0).bG.aP)) 2 8) 3 (IntKind.wrap .i64 ((rd ah x3 a0).vN*xx1.1))) 4 ((rd ah x3 a0).vN)) 5 4) 6 xx1.1) ((rd ah x3 a0).aC)).getD 0)≤512))),xx1.2.2.2)) else none))) else none) else none)) else none)) else none
set_option maxRecDepth 20000 in
set_option maxHeartbeats 4000000 in
theorem cu.calls:∀(k:Nat) (a0:Int) (x0:List Int) (x1:Bool) (x2:List Bool) (x3:List bF) (bx0:Nat) (Gt:Option Nat) (cx0:Nat) (Ns:List Value) (bx1:Nat) (bx2:Nat) (Gu:Option Nat) (cx2:Nat) (Nu:List Value) (bx3:Nat) (Ax3:Option Addr) (cx3:Nat) (bx4:Nat) {h0:View} {w0:World} {h:View} {w:World} {rest:List Res} (HS:St [] h0 w0 h ((some bx0, .cells #[vL (rowA Gt) x0.length cx0] 81 (0,0))::(Gt, .cells (Ns).toArray 3 (0,0))::(some bx1, .cells #[vB x1] 4 (0,0))::(some bx2, .cells #[vL (rowA Gu) x2.length cx2] 216 (0,0))::(Gu, .cells (Nu).toArray 4 (0,0))::(some bx3, .cells #[vL Ax3 x3.length cx3] 24 (0,0))::(some bx4, .cells #[Value.func (.func 129) #[] #[vP bx0 0,vP bx1 0,vP bx2 0,vP bx3 0,vP bx4 0]] 217 (0,0))::rest) w) (Rq:gY (Kd.int .i64) h x0 Gt x0.length cx0 Ns) (TW:gY Kd.bool h x2 Gu x2.length cx2 Nu) (J3:Rd dV h Ax3 x3) (Zg:x3.length≤cx3) {r:Int×(List Int)×Bool×(List Bool)} (H:cu.f k a0 x0 x1 x2 x3=some r),Calls Tryz.prog 129 #[vI a0,vP bx0 0,vP bx1 0,vP bx2 0,vP bx3 0,vP bx4 0] w (fun e w1=>∃(h1:View),∃(Nv:Option Nat) (Wx:Nat) (Rt:List Value),∃(Nw:Option Nat) (Wy:Nat) (Ru:List Value),e= .returned (vI r.1)∧gY (Kd.int .i64) h1 r.2.1 Nv r.2.1.length Wx Rt∧gY Kd.bool h1 r.2.2.2 Nw r.2.2.2.length Wy Ru∧Sub h h1∧St [] h0 w0 h1 ((some bx0, .cells #[vL (rowA Nv) r.2.1.length Wx] 81 (0,0))::(Nv, .cells (Rt).toArray 3 (0,0))::(some bx1, .cells #[vB r.2.2.1] 4 (0,0))::(some bx2, .cells #[vL (rowA Nw) r.2.2.2.length Wy] 216 (0,0))::(Nw, .cells (Ru).toArray 4 (0,0))::(some bx3, .cells #[vL Ax3 x3.length cx3] 24 (0,0))::(some bx4, .cells #[Value.func (.func 129) #[] #[vP bx0 0,vP bx1 0,vP bx2 0,vP bx3 0,vP bx4 0]] 217 (0,0))::rest) w1):=by
 intro k
 induction k with
 |zero=>
  intros
  rename_i H
  exact absurd H (by simp [cu.f])
 |succ k ih=>
  intro a0 x0 x1 x2 x3 bx0 Gt cx0 Ns bx1 bx2 Gu cx2 Nu bx3 Ax3 cx3 bx4 h0 w0 h w rest HS Rq TW J3 Zg r H
  rw [cu.f] at H
  have hsub:Sub h h:=Sub.rfl' h
  go_enter Tryz.func129,Tryz.ntmps129
  refine wp_seq<|region<|rs (vI 0) (aB rfl) ?_
  try simp only [sc0,sc1]
  refine aA<|ak<|wp_seq<|wp_seq<|region<|rs (vL (rowA Gt) x0.length cx0) (aK rfl Tryz.isAgg81 (HS.look 0 rfl) rfl)<|rs (vI a0) (aJ rfl) ?_
  obtain ⟨hi1,H⟩:=eG H
  obtain ⟨rb1,_,Rw,rfl,hp1⟩:=Rq.at 0 hi1.1 hi1.2
  refine rs (Value.pointer (some ⟨rb1,a0.toNat*1+0,none⟩)) (lQ (sz:=1) rfl Rw rfl hi1.1 hi1.2 Tryz.runUnderlying81 Tryz.sizeOf3)<|rs (vI (rd 0 x0 a0)) (aK (cs:=Ns) rfl Tryz.isAgg3 (HS.OU 1 rfl Rw) (hp1 0 _ rfl))<|aI (by simp only [sc0,sc1];rfl) ?_
  refine rs (vB (decide ((rd 0 x0 a0)>0))) (bK rfl rfl rfl)<|rs (vB (decide ((rd 0 x0 a0)>0))) (aJ rfl)<|rgs (decide ((rd 0 x0 a0)>0)) true (vB x1) rfl rfl rfl rfl (fun hg=>(aK rfl Tryz.isAgg4 (HS.look 2 rfl) rfl))<|rgs (decide ((rd 0 x0 a0)>0)) true (vB (!x1)) rfl rfl rfl rfl (fun hg=>(lK (gvt (vB x1) hg rfl)))<|aI (by simp only [sc0,sc1];rfl) ?_
  refine rs (vB ((decide ((rd 0 x0 a0)>0))||(!x1))) (dZ rfl rfl (fun hp=>(gvt (vB (!x1)) (gu rfl hp) rfl))) ?_
  try simp only [sc0,sc1]
  refine aA<|ak<|wp_cond_split (t:=((decide ((rd 0 x0 a0)>0))||(!x1))) rfl (fun c1=>?_) (fun c1=>?_)
  ·replace H:=bM H c1
   refine wp_seq<|region<|rs (vL (rowA Gt) x0.length cx0) (aK rfl Tryz.isAgg81 (HS.look 0 rfl) rfl)<|rs (vI a0) (aJ rfl) ?_
   obtain ⟨hi2,H⟩:=eG H
   obtain ⟨rb2,_,WA,rfl,hp2⟩:=Rq.at 0 hi2.1 hi2.2
   refine rs (Value.pointer (some ⟨rb2,a0.toNat*1+0,none⟩)) (lQ (sz:=1) rfl WA rfl hi2.1 hi2.2 Tryz.runUnderlying81 Tryz.sizeOf3)<|rs (vI (rd 0 x0 a0)) (aK (cs:=Ns) rfl Tryz.isAgg3 (HS.OU 1 rfl WA) (hp2 0 _ rfl))<|aI (by simp only [sc0,sc1];rfl) ?_
   refine rs (vI (rd 0 x0 a0)) (aB rfl) ?_
   try simp only [sc0,sc1]
   refine aA<|ak<|wp_ret<|aW ?_
   obtain rfl:=Option.some.inj H
   exact bodyPost_ret (aV rfl (aX rfl)) rfl<|⟨h,Gt,cx0,Ns,Gu,cx2,Nu,rfl,Rq,TW,hsub,HS⟩
  ·replace H:=bW H (nt c1)
   refine wp_skip<|ak<|wp_seq<|wp_seq<|region<|rs (vL (rowA Gu) x2.length cx2) (aK rfl Tryz.isAgg216 (HS.look 3 rfl) rfl)<|rs (vI a0) (aJ rfl) ?_
   obtain ⟨hi3,H⟩:=eG H
   obtain ⟨rb3,_,Zh,rfl,hp3⟩:=TW.at false hi3.1 hi3.2
   refine rs (Value.pointer (some ⟨rb3,a0.toNat*1+0,none⟩)) (lQ (sz:=1) rfl Zh rfl hi3.1 hi3.2 Tryz.runUnderlying216 Tryz.sizeOf4)<|rs (vB (rd false x2 a0)) (aK (cs:=Nu) rfl Tryz.isAgg4 (HS.OU 4 rfl Zh) (hp3 0 _ rfl)) ?_
   try simp only [sc0,sc1]
   refine aA<|ak<|wp_cond_split (t:=(rd false x2 a0)) rfl (fun c2=>?_) (fun c2=>?_)
   ·replace H:=bM H c2
    refine wp_seq<|region<|fV (i:=2) (cs:=[vB x1]) (cs':=[vB false]) (vs:=[vB false]) (bs':=((some bx0, .cells #[vL (rowA Gt) x0.length cx0] 81 (0,0))::(Gt, .cells (Ns).toArray 3 (0,0))::(some bx1, .cells #[vB false] 4 (0,0))::(some bx2, .cells #[vL (rowA Gu) x2.length cx2] 216 (0,0))::(Gu, .cells (Nu).toArray 4 (0,0))::(some bx3, .cells #[vL Ax3 x3.length cx3] 24 (0,0))::(some bx4, .cells #[Value.func (.func 129) #[] #[vP bx0 0,vP bx1 0,vP bx2 0,vP bx3 0,vP bx4 0]] 217 (0,0))::rest)) rfl rfl Tryz.sizeOf4 rfl rfl (by decide) rfl HS rfl (Nat.le_of_ble_eq_true rfl) rfl rfl ?_
    intro w1 HS1
    try simp only [sc0,sc1]
    refine aA<|ak<|wp_seq<|region<|rs (vI 0) (aB rfl) ?_
    try simp only [sc0,sc1]
    refine aA<|ak<|wp_ret<|aW ?_
    obtain rfl:=Option.some.inj H
    exact bodyPost_ret (aV rfl (aX rfl)) rfl<|⟨h,Gt,cx0,Ns,Gu,cx2,Nu,rfl,Rq,TW,hsub,HS1⟩
   ·replace H:=bW H (nt c2)
    refine wp_skip<|ak<|wp_seq<|region<|rs (vL (rowA Gu) x2.length cx2) (aK rfl Tryz.isAgg216 (HS.look 3 rfl) rfl)<|rs (vI a0) (aJ rfl) ?_
    obtain ⟨hi4,H⟩:=eG H
    obtain ⟨rb4,_,Zi,rfl,hp4⟩:=TW.at false hi4.1 hi4.2
    refine rs (Value.pointer (some ⟨rb4,a0.toNat*1+0,none⟩)) (lQ (sz:=1) rfl Zi rfl hi4.1 hi4.2 Tryz.runUnderlying216 Tryz.sizeOf4)<|Cb (i:=4) (cs:=Nu) (v:=vB true) Zi rfl rfl Tryz.sizeOf4 rfl rfl HS rfl (TW.inb hi4.1 hi4.2 (m:=1) (by decide)) ?_
    intro w2 HS2
    have ho1:=TW.set (o:=0) (v:=vB true) (x':=true) hi4.1 hi4.2 hp4 rfl (Nat.le_of_ble_eq_true rfl)
    try simp only [sc0,sc1]
    refine aA<|ak<|wp_seq<|region<|rs (vP bx3 0) (aH (n:=1) (o':=0) rfl Tryz.runUnderlying24 rfl Tryz.sizeOf22 (by decide) rfl)<|rs (vL Ax3 x3.length cx3) (aK rfl Tryz.isAgg22 (HS2.look 5 rfl) rfl)<|rs (vI a0) (aJ rfl) ?_
    obtain ⟨hi5,H⟩:=eG H
    obtain ⟨ad1,dG,dJ,e1,lu,jQ,iH⟩:=gy J3 hi5.1 hi5.2
    refine rs (Value.pointer (some (Addr.add ad1 (a0.toNat*7)))) (dP (sz:=7) rfl e1 rfl hi5.1 hi5.2 Tryz.runUnderlying22 Tryz.sizeOf56)<|aI (by simp only [sc0,sc1];rfl) ?_
    refine rs (Value.agg #[vI ((rd ah x3 a0).aC),vS ((rd ah x3 a0).aQ),vI ((rd ah x3 a0).bG.aP),vB ((rd ah x3 a0).bG.aN),vI ((rd ah x3 a0).dM),vI ((rd ah x3 a0).vN),vL dG ((rd ah x3 a0).au).length dJ]) (ig rfl Tryz.isAgg56 (lu.sees HS2.sees) Tryz.sizeOf56)<|dU rfl rfl (fA (cs:=#[vI 0,vS ByteArray.empty,vI 0,vB false,vI 0,vI 0,vL none 0 0]) Tryz.zeroValue56 rfl) ?_
    rintro w3 _ hE1 ⟨b1,rfl,ge1,hb1⟩
    have HS3:=HS2.new hE1 ge1 hb1
    refine fV (i:=0) (cs:=[vI 0,vS ByteArray.empty,vI 0,vB false,vI 0,vI 0,vL none 0 0]) (cs':=[vI ((rd ah x3 a0).aC),vS ((rd ah x3 a0).aQ),vI ((rd ah x3 a0).bG.aP),vB ((rd ah x3 a0).bG.aN),vI ((rd ah x3 a0).dM),vI ((rd ah x3 a0).vN),vL dG ((rd ah x3 a0).au).length dJ]) (vs:=[vI ((rd ah x3 a0).aC),vS ((rd ah x3 a0).aQ),vI ((rd ah x3 a0).bG.aP),vB ((rd ah x3 a0).bG.aN),vI ((rd ah x3 a0).dM),vI ((rd ah x3 a0).vN),vL dG ((rd ah x3 a0).au).length dJ]) (bs':=((some b1, .cells #[vI ((rd ah x3 a0).aC),vS ((rd ah x3 a0).aQ),vI ((rd ah x3 a0).bG.aP),vB ((rd ah x3 a0).bG.aN),vI ((rd ah x3 a0).dM),vI ((rd ah x3 a0).vN),vL dG ((rd ah x3 a0).au).length dJ] 56 (0,0))::(some bx0, .cells #[vL (rowA Gt) x0.length cx0] 81 (0,0))::(Gt, .cells (Ns).toArray 3 (0,0))::(some bx1, .cells #[vB x1] 4 (0,0))::(some bx2, .cells #[vL (rowA Gu) x2.length cx2] 216 (0,0))::(Gu, .cells ((List.set Nu (a0.toNat*1+0) (vB true))).toArray 4 (0,0))::(some bx3, .cells #[vL Ax3 x3.length cx3] 24 (0,0))::(some bx4, .cells #[Value.func (.func 129) #[] #[vP bx0 0,vP bx1 0,vP bx2 0,vP bx3 0,vP bx4 0]] 217 (0,0))::rest)) rfl rfl Tryz.sizeOf56 rfl rfl (by decide) rfl HS3 rfl (Nat.le_of_ble_eq_true rfl) rfl rfl ?_
    intro w4 HS4
    try simp only [sc0,sc1]
    refine aA<|ak<|wp_seq<|region<|rs (vI 0) (aB rfl) ?_
    try simp only [sc0,sc1]
    refine aA<|ak<|wp_seq<|wp_seq<|region<|rs (Value.agg #[vI ((rd ah x3 a0).aC),vS ((rd ah x3 a0).aQ),vI ((rd ah x3 a0).bG.aP),vB ((rd ah x3 a0).bG.aN),vI ((rd ah x3 a0).dM),vI ((rd ah x3 a0).vN),vL dG ((rd ah x3 a0).au).length dJ]) (aZ (n:=7) (vs:=[vI ((rd ah x3 a0).aC),vS ((rd ah x3 a0).aQ),vI ((rd ah x3 a0).bG.aP),vB ((rd ah x3 a0).bG.aN),vI ((rd ah x3 a0).dM),vI ((rd ah x3 a0).vN),vL dG ((rd ah x3 a0).au).length dJ]) rfl Tryz.isAgg56 (HS4.look 0 rfl) Tryz.sizeOf56 rfl rfl) ?_
    obtain ⟨v1,H1,H⟩:=bJ H
    refine dU rfl rfl (kP Tryz.call130 rfl (nT (h:=h) (R:=(fun hx u=>∃(jW:Option Addr) (lG:Nat),u=vL jW v1.length lG∧v1.length≤lG∧Rd (Kd.int .i64) hx jW v1)) (Ext.rfl' w4) ((fB.calls k (rd ah x3 a0) dG dJ HS4.sees iH jQ H1).mono ?_)) rfl) ?_
    ·rintro _ _ ⟨h1,jW,lG,rfl,vZ,kH,g,ss,x⟩
     exact ⟨h1,_,rfl,⟨jW,lG,rfl,vZ,kH⟩,g,ss,x⟩
    rintro w5 _ hE2 ⟨h1,⟨jW,lG,rfl,vZ,kH⟩,gr1,se1⟩
    have HS5:=HS4.view hE2 gr1 se1
    replace J3:Rd dV h1 Ax3 x3:=J3.ext gr1.1
    replace hsub:Sub h h1:=hsub.then gr1.1
    replace lu:iF h1 (Addr.add ad1 (a0.toNat*7)) [vI ((rd ah x3 a0).aC),vS ((rd ah x3 a0).aQ),vI ((rd ah x3 a0).bG.aP),vB ((rd ah x3 a0).bG.aN),vI ((rd ah x3 a0).dM),vI ((rd ah x3 a0).vN),vL dG ((rd ah x3 a0).au).length dJ]:=lu.sub gr1.1
    replace iH:Rd eH h1 dG ((rd ah x3 a0).au):=iH.ext gr1.1
    replace Rq:=Rq.view gr1.1
    replace ho1:=ho1.view gr1.1
    refine rs (vI (v1.length:Int)) (jJ rfl Tryz.runUnderlying81)<|rs (vI 0) (aJ rfl) ?_
    try simp only [sc0,sc1]
    refine aA<|ak ?_
    obtain ⟨xx1,H,G1⟩:=bJ H
    have WB:St [] h0 w0 h1 ((some b1, .cells #[vI ((rd ah x3 a0).aC),vS ((rd ah x3 a0).aQ),vI ((rd ah x3 a0).bG.aP),vB ((rd ah x3 a0).bG.aN),vI ((rd ah x3 a0).dM),vI ((rd ah x3 a0).vN),vL dG ((rd ah x3 a0).au).length dJ] 56 (0,0))::(some bx0, .cells #[vL (rowA Gt) x0.length cx0] 81 (0,0))::(Gt, .cells (Ns).toArray 3 (0,0))::(some bx1, .cells #[vB x1] 4 (0,0))::(some bx2, .cells #[vL (rowA Gu) ((List.set x2 a0.toNat true).length) cx2] 216 (0,0))::(Gu, .cells ((List.set Nu (a0.toNat*1+0) (vB true))).toArray 4 (0,0))::(some bx3, .cells #[vL Ax3 x3.length cx3] 24 (0,0))::(some bx4, .cells #[Value.func (.func 129) #[] #[vP bx0 0,vP bx1 0,vP bx2 0,vP bx3 0,vP bx4 0]] 217 (0,0))::rest) w5:=HS5.cast (by first|rfl|(rw [ho1.len];done)|(rw [ho1.len];rfl))
    have ho2:=ho1.norm
    refine jm [9,11,41,42,43,44,45,46,47,48] (fun m us w'=>∃aG dB:Int,∃jl:Bool,∃uO:List Int,∃Bo:List Bool,∃h2:View,∃(qx:Option Nat) (zB:Nat),∃(sN:List Value),∃(Bq:Option Nat) (Ny:Nat),∃(ER:List Value),Fit us (fun uy1=>[vI aG,(uy1 1),vI dB,(uy1 3),(uy1 4),(uy1 5),(uy1 6),(uy1 7),(uy1 8),(uy1 9)])∧cu.l0 (cu.f k) x3 v1 m aG dB jl uO Bo=some xx1∧gY (Kd.int .i64) h2 uO qx uO.length zB sN∧gY Kd.bool h2 Bo Bq Bo.length Ny ER∧Rd dV h2 Ax3 x3∧Sub h h2∧iF h2 (Addr.add ad1 (a0.toNat*7)) [vI ((rd ah x3 a0).aC),vS ((rd ah x3 a0).aQ),vI ((rd ah x3 a0).bG.aP),vB ((rd ah x3 a0).bG.aN),vI ((rd ah x3 a0).dM),vI ((rd ah x3 a0).vN),vL dG ((rd ah x3 a0).au).length dJ]∧Rd eH h2 dG ((rd ah x3 a0).au)∧Rd (Kd.int .i64) h2 jW v1∧St [] h0 w0 h2 ((some b1, .cells #[vI ((rd ah x3 a0).aC),vS ((rd ah x3 a0).aQ),vI ((rd ah x3 a0).bG.aP),vB ((rd ah x3 a0).bG.aN),vI ((rd ah x3 a0).dM),vI ((rd ah x3 a0).vN),vL dG ((rd ah x3 a0).au).length dJ] 56 (0,0))::(some bx0, .cells #[vL (rowA qx) uO.length zB] 81 (0,0))::(qx, .cells (sN).toArray 3 (0,0))::(some bx1, .cells #[vB jl] 4 (0,0))::(some bx2, .cells #[vL (rowA Bq) Bo.length Ny] 216 (0,0))::(Bq, .cells (ER).toArray 4 (0,0))::(some bx3, .cells #[vL Ax3 x3.length cx3] 24 (0,0))::(some bx4, .cells #[Value.func (.func 129) #[] #[vP bx0 0,vP bx1 0,vP bx2 0,vP bx3 0,vP bx4 0]] 217 (0,0))::rest) w') (fun us w'=>∃(h4:View),∃(mP:Option Nat) (uH:Nat),∃(sO:List Value),∃(wo:Option Nat) (Jv:Nat),∃(Bv:List Value),Fit us (fun uo1=>[vI xx1.1,(uo1 1),(uo1 2),(uo1 3),(uo1 4),(uo1 5),(uo1 6),(uo1 7),(uo1 8),(uo1 9)])∧gY (Kd.int .i64) h4 xx1.2.2.1 mP xx1.2.2.1.length uH sO∧gY Kd.bool h4 xx1.2.2.2 wo xx1.2.2.2.length Jv Bv∧Rd dV h4 Ax3 x3∧Sub h h4∧iF h4 (Addr.add ad1 (a0.toNat*7)) [vI ((rd ah x3 a0).aC),vS ((rd ah x3 a0).aQ),vI ((rd ah x3 a0).bG.aP),vB ((rd ah x3 a0).bG.aN),vI ((rd ah x3 a0).dM),vI ((rd ah x3 a0).vN),vL dG ((rd ah x3 a0).au).length dJ]∧Rd eH h4 dG ((rd ah x3 a0).au)∧Rd (Kd.int .i64) h4 jW v1∧St [] h0 w0 h4 ((some b1, .cells #[vI ((rd ah x3 a0).aC),vS ((rd ah x3 a0).aQ),vI ((rd ah x3 a0).bG.aP),vB ((rd ah x3 a0).bG.aN),vI ((rd ah x3 a0).dM),vI ((rd ah x3 a0).vN),vL dG ((rd ah x3 a0).au).length dJ] 56 (0,0))::(some bx0, .cells #[vL (rowA mP) xx1.2.2.1.length uH] 81 (0,0))::(mP, .cells (sO).toArray 3 (0,0))::(some bx1, .cells #[vB xx1.2.1] 4 (0,0))::(some bx2, .cells #[vL (rowA wo) xx1.2.2.2.length Jv] 216 (0,0))::(wo, .cells (Bv).toArray 4 (0,0))::(some bx3, .cells #[vL Ax3 x3.length cx3] 24 (0,0))::(some bx4, .cells #[Value.func (.func 129) #[] #[vP bx0 0,vP bx1 0,vP bx2 0,vP bx3 0,vP bx4 0]] 217 (0,0))::rest) w') k ⟨0,0,x1,x0,(List.set x2 a0.toNat true),h1,Gt,cx0,Ns,Gu,cx2,(List.set Nu (a0.toNat*1+0) (vB true)),(fit (by first|rfl|(rw [ho1.len];done)|(rw [ho1.len];rfl))),H,Rq.norm,ho2.norm,J3,hsub,lu,iH,kH,WB⟩ ?_ ?_
    ·rintro m us w6 ⟨aG,dB,jl,uO,Bo,h2,qx,zB,sN,Bq,Ny,ER,ng,H,ES,Rx,J3,hsub,lu,iH,kH,HS6⟩
     obtain ⟨uy1,rfl⟩:=unj ng
     cases m with
     |zero=>exact absurd H (by simp [cu.l0])
     |succ m=>
      rw [cu.l0] at H
      try simp only [patch,sc0,sc1]
      refine wp_seq<|region<|rs (vB (decide (dB<(v1.length:Int)))) (bK rfl rfl rfl) ?_
      try simp only [sc0,sc1]
      refine aA<|ak<|wp_seq<|wp_cond_split (t:=(decide (dB<(v1.length:Int)))) rfl (fun c3=>?_) (fun c3=>?_)
      ·replace H:=bM H c3
       refine wp_skip<|ak<|wp_seq<|wp_block<|wp_seq<|region ?_
       obtain ⟨hi6,H⟩:=eG H
       obtain ⟨ad2,e2,xw⟩:=rF kH hi6.1 hi6.2
       refine rs (Value.pointer (some (Addr.add ad2 (dB.toNat*1)))) (dP (sz:=1) rfl e2 rfl hi6.1 hi6.2 Tryz.runUnderlying81 Tryz.sizeOf3)<|rs (vI (rd 0 v1 dB)) (jC rfl Tryz.isAgg3 (xw.cell0 HS6.sees rfl))<|rs (vI (rd 0 v1 dB)) (aB rfl) ?_
       try simp only [sc0,sc1]
       refine aA<|ak<|region<|rs (Value.func (.func 129) #[] #[vP bx0 0,vP bx1 0,vP bx2 0,vP bx3 0,vP bx4 0]) (aK rfl Tryz.isAgg217 (HS6.look 7 rfl) rfl)<|rs (vI (rd 0 v1 dB)) (aJ rfl) ?_
       obtain ⟨v2,H2,H⟩:=bJ H
       have HS7:=HS6.f7
       have HS8:=HS7.f7
       have HS9:=HS8.f7
       have ru:=HS9.f7
       have qw:=ru.f7
       have uf:=qw.f7
       have yC:=uf.f7
       refine qI (vs:=[vI (rd 0 v1 dB)]) (caps:=[vP bx0 0,vP bx1 0,vP bx2 0,vP bx3 0,vP bx4 0]) Tryz.call129 rfl rfl (ih (rd 0 v1 dB) uO jl Bo x3 bx0 qx zB sN bx1 bx2 Bq Ny ER bx3 Ax3 cx3 bx4 yC ES Rx J3 Zg H2) ?_
       rintro _ w7 ⟨h3,TY,WC,Ua,Ub,WE,Uc,rfl,Ud,Ue,hs1,DN⟩
       refine ⟨_,rfl,?_⟩
       replace J3:Rd dV h3 Ax3 x3:=J3.ext hs1
       replace hsub:Sub h h3:=hsub.then hs1
       replace lu:iF h3 (Addr.add ad1 (a0.toNat*7)) [vI ((rd ah x3 a0).aC),vS ((rd ah x3 a0).aQ),vI ((rd ah x3 a0).bG.aP),vB ((rd ah x3 a0).bG.aN),vI ((rd ah x3 a0).dM),vI ((rd ah x3 a0).vN),vL dG ((rd ah x3 a0).au).length dJ]:=lu.sub hs1
       replace iH:Rd eH h3 dG ((rd ah x3 a0).au):=iH.ext hs1
       replace kH:Rd (Kd.int .i64) h3 jW v1:=kH.ext hs1
       replace xw:iF h3 (Addr.add ad2 (dB.toNat*1)) [vI (rd 0 v1 dB)]:=xw.sub hs1
       have Iy:=DN.f6
       have Bz:=Iy.f6
       have Jw:=Bz.f6
       have Ry:=Jw.f6
       have Qg:=Ry.f6
       have WG:=Qg.f6
       have WH:=WG.f6
       have WI:=WH.f7
       refine rs (vI v2.1) (aB rfl) ?_
       try simp only [sc0,sc1]
       refine aA<|dI<|ak<|region<|rs (vI (w64 (dB+1))) (bK rfl rfl rfl)<|rs (vI (w64 (dB+1))) (aJ rfl) ?_
       try simp only [sc0,sc1]
       refine aA<|gZ m (Nat.lt_succ_self m) rfl ⟨v2.1,(w64 (dB+1)),v2.2.2.1,v2.2.1,v2.2.2.2,h3,TY,WC,Ua,Ub,WE,Uc,(fit rfl),H,Ud.norm,Ue.norm,J3,hsub,lu,iH,kH,WI⟩
      ·replace H:=bW H (nt c3)
       refine wp_exit<|eY ?_
       obtain rfl:=Option.some.inj H
       refine iG rfl ⟨h2,qx,zB,sN,Bq,Ny,ER,(fit rfl),ES.norm,Rx.norm,J3,hsub,lu,iH,kH,HS6⟩
    ·rintro us w8 ⟨h4,mP,uH,sO,wo,Jv,Bv,ni,BA,WJ,J3,hsub,lu,iH,kH,WL⟩
     obtain ⟨uo1,rfl⟩:=unj ni
     replace H:=G1
     clear G1
     try simp only [patch,sc0,sc1]
     refine ak<|wp_seq<|region<|uY WL ?_
     intro w9 b2 UQ
     refine rs (vP b1 2) (aH (n:=2) (o':=2) rfl Tryz.runUnderlying56 rfl Tryz.sizeOf29 (by decide) rfl)<|rs (vP b1 2) (aH (n:=1) (o':=2) rfl Tryz.runUnderlying29 rfl Tryz.sizeOf3 (by decide) rfl)<|rs (vI ((rd ah x3 a0).bG.aP)) (aK rfl Tryz.isAgg3 (UQ.look 1 rfl) rfl)<|aI (by simp only [sc0,sc1];rfl) ?_
     refine Hf (lY Tryz.runUnderlying3) (i:=0) (k:=1) (v:=((rd ah x3 a0).bG.aP)) (ev:=(vI)) (m:=([]:List (Int×Int))) (by first|exact .inl rfl|exact .inr rfl) rfl rfl rfl rfl rfl Tryz.runUnderlying219 UQ rfl (pV.nil) ?_
     intro w10 es1 cl1 WM ho3
     refine Hf (lY Tryz.runUnderlying3) (i:=0) (k:=2) (v:=8) (ev:=(vI)) (m:=(eU ieq ([]:List (Int×Int)) 1 ((rd ah x3 a0).bG.aP))) (by first|exact .inl rfl|exact .inr rfl) rfl rfl rfl rfl rfl Tryz.runUnderlying219 WM rfl ho3 ?_
     intro w11 es2 cl2 OD ho4
     refine rs (vP b1 5) (aH (n:=1) (o':=5) rfl Tryz.runUnderlying56 rfl Tryz.sizeOf3 (by decide) rfl)<|rs (vI ((rd ah x3 a0).vN)) (aK rfl Tryz.isAgg3 (OD.look 1 rfl) rfl)<|aI (by simp only [sc0,sc1];rfl) ?_
     refine rs (vI xx1.1) (aJ rfl)<|rs (vI (w64 ((rd ah x3 a0).vN*xx1.1))) (bK rfl rfl rfl)<|Hf (lY Tryz.runUnderlying3) (i:=0) (k:=3) (v:=(w64 ((rd ah x3 a0).vN*xx1.1))) (ev:=(vI)) (m:=(eU ieq (eU ieq ([]:List (Int×Int)) 1 ((rd ah x3 a0).bG.aP)) 2 8)) (by first|exact .inl rfl|exact .inr rfl) rfl rfl rfl rfl rfl Tryz.runUnderlying219 OD rfl ho4 ?_
     intro w12 es3 cl3 Rz ho5
     refine rs (vP b1 5) (aH (n:=1) (o':=5) rfl Tryz.runUnderlying56 rfl Tryz.sizeOf3 (by decide) rfl)<|aI (by simp only [sc0,sc1];rfl) ?_
     refine rs (vI ((rd ah x3 a0).vN)) (aK rfl Tryz.isAgg3 (Rz.look 1 rfl) rfl)<|Hf (lY Tryz.runUnderlying3) (i:=0) (k:=4) (v:=((rd ah x3 a0).vN)) (ev:=(vI)) (m:=(eU ieq (eU ieq (eU ieq ([]:List (Int×Int)) 1 ((rd ah x3 a0).bG.aP)) 2 8) 3 (w64 ((rd ah x3 a0).vN*xx1.1)))) (by first|exact .inl rfl|exact .inr rfl) rfl rfl rfl rfl rfl Tryz.runUnderlying219 Rz rfl ho5 ?_
     intro w13 es4 cl4 Yo ho6
     refine Hf (lY Tryz.runUnderlying3) (i:=0) (k:=5) (v:=4) (ev:=(vI)) (m:=(eU ieq (eU ieq (eU ieq (eU ieq ([]:List (Int×Int)) 1 ((rd ah x3 a0).bG.aP)) 2 8) 3 (w64 ((rd ah x3 a0).vN*xx1.1))) 4 ((rd ah x3 a0).vN))) (by first|exact .inl rfl|exact .inr rfl) rfl rfl rfl rfl rfl Tryz.runUnderlying219 Yo rfl ho6 ?_
     intro w14 es5 cl5 WO ho7
     refine rs (vI xx1.1) (aJ rfl)<|aI (by simp only [sc0,sc1];rfl) ?_
     refine Hf (lY Tryz.runUnderlying3) (i:=0) (k:=6) (v:=xx1.1) (ev:=(vI)) (m:=(eU ieq (eU ieq (eU ieq (eU ieq (eU ieq ([]:List (Int×Int)) 1 ((rd ah x3 a0).bG.aP)) 2 8) 3 (w64 ((rd ah x3 a0).vN*xx1.1))) 4 ((rd ah x3 a0).vN)) 5 4)) (by first|exact .inl rfl|exact .inr rfl) rfl rfl rfl rfl rfl Tryz.runUnderlying219 WO rfl ho7 ?_
     intro w15 es6 cl6 Xz ho8
     refine rs (Value.map (some b2)) (aJ rfl)<|rs (vP b1 0) (aH (n:=1) (o':=0) rfl Tryz.runUnderlying56 rfl Tryz.sizeOf3 (by decide) rfl)<|rs (vI ((rd ah x3 a0).aC)) (aK rfl Tryz.isAgg3 (Xz.look 1 rfl) rfl)<|aI (by simp only [sc0,sc1];rfl) ?_
     refine rs (vI ((bn ieq (eU ieq (eU ieq (eU ieq (eU ieq (eU ieq (eU ieq ([]:List (Int×Int)) 1 ((rd ah x3 a0).bG.aP)) 2 8) 3 (w64 ((rd ah x3 a0).vN*xx1.1))) 4 ((rd ah x3 a0).vN)) 5 4) 6 xx1.1) ((rd ah x3 a0).aC)).getD 0)) (Ku (lY Tryz.runUnderlying3) (k:=((rd ah x3 a0).aC)) (m:=(eU ieq (eU ieq (eU ieq (eU ieq (eU ieq (eU ieq ([]:List (Int×Int)) 1 ((rd ah x3 a0).bG.aP)) 2 8) 3 (w64 ((rd ah x3 a0).vN*xx1.1))) 4 ((rd ah x3 a0).vN)) 5 4) 6 xx1.1)) (ev:=(vI)) 0 rfl rfl Tryz.runUnderlying219 Tryz.zeroValue3 (Xz.look 0 rfl) ho8)<|rs (vI ((bn ieq (eU ieq (eU ieq (eU ieq (eU ieq (eU ieq (eU ieq ([]:List (Int×Int)) 1 ((rd ah x3 a0).bG.aP)) 2 8) 3 (w64 ((rd ah x3 a0).vN*xx1.1))) 4 ((rd ah x3 a0).vN)) 5 4) 6 xx1.1) ((rd ah x3 a0).aC)).getD 0)) (aB rfl) ?_
     try simp only [sc0,sc1]
     refine aA<|ak<|wp_seq<|region<|rs (vB xx1.2.1) (aK rfl Tryz.isAgg4 (Xz.look 4 rfl) rfl)<|rs (vB xx1.2.1) (aJ rfl)<|rgs xx1.2.1 true (vI ((bn ieq (eU ieq (eU ieq (eU ieq (eU ieq (eU ieq (eU ieq ([]:List (Int×Int)) 1 ((rd ah x3 a0).bG.aP)) 2 8) 3 (w64 ((rd ah x3 a0).vN*xx1.1))) 4 ((rd ah x3 a0).vN)) 5 4) 6 xx1.1) ((rd ah x3 a0).aC)).getD 0)) rfl rfl rfl rfl (fun hg=>(aJ rfl))<|rgs xx1.2.1 true (vB (decide (((bn ieq (eU ieq (eU ieq (eU ieq (eU ieq (eU ieq (eU ieq ([]:List (Int×Int)) 1 ((rd ah x3 a0).bG.aP)) 2 8) 3 (w64 ((rd ah x3 a0).vN*xx1.1))) 4 ((rd ah x3 a0).vN)) 5 4) 6 xx1.1) ((rd ah x3 a0).aC)).getD 0)≤512))) rfl rfl rfl rfl (fun hg=>(bK (gvt (vI ((bn ieq (eU ieq (eU ieq (eU ieq (eU ieq (eU ieq (eU ieq ([]:List (Int×Int)) 1 ((rd ah x3 a0).bG.aP)) 2 8) 3 (w64 ((rd ah x3 a0).vN*xx1.1))) 4 ((rd ah x3 a0).vN)) 5 4) 6 xx1.1) ((rd ah x3 a0).aC)).getD 0)) hg rfl) rfl rfl))<|aI (by simp only [sc0,sc1];rfl) ?_
     refine rs (vB (xx1.2.1&&(decide (((bn ieq (eU ieq (eU ieq (eU ieq (eU ieq (eU ieq (eU ieq ([]:List (Int×Int)) 1 ((rd ah x3 a0).bG.aP)) 2 8) 3 (w64 ((rd ah x3 a0).vN*xx1.1))) 4 ((rd ah x3 a0).vN)) 5 4) 6 xx1.1) ((rd ah x3 a0).aC)).getD 0)≤512)))) (dA rfl (fun hp=>(gvt (vB (decide (((bn ieq (eU ieq (eU ieq (eU ieq (eU ieq (eU ieq (eU ieq ([]:List (Int×Int)) 1 ((rd ah x3 a0).bG.aP)) 2 8) 3 (w64 ((rd ah x3 a0).vN*xx1.1))) 4 ((rd ah x3 a0).vN)) 5 4) 6 xx1.1) ((rd ah x3 a0).aC)).getD 0)≤512))) (gu rfl hp) rfl)) rfl)<|fV (i:=4) (cs:=[vB xx1.2.1]) (cs':=[vB (xx1.2.1&&(decide (((bn ieq (eU ieq (eU ieq (eU ieq (eU ieq (eU ieq (eU ieq ([]:List (Int×Int)) 1 ((rd ah x3 a0).bG.aP)) 2 8) 3 (w64 ((rd ah x3 a0).vN*xx1.1))) 4 ((rd ah x3 a0).vN)) 5 4) 6 xx1.1) ((rd ah x3 a0).aC)).getD 0)≤512)))]) (vs:=[vB (xx1.2.1&&(decide (((bn ieq (eU ieq (eU ieq (eU ieq (eU ieq (eU ieq (eU ieq ([]:List (Int×Int)) 1 ((rd ah x3 a0).bG.aP)) 2 8) 3 (w64 ((rd ah x3 a0).vN*xx1.1))) 4 ((rd ah x3 a0).vN)) 5 4) 6 xx1.1) ((rd ah x3 a0).aC)).getD 0)≤512)))]) (bs':=((some b2, .map es6 cl6)::(some b1, .cells #[vI ((rd ah x3 a0).aC),vS ((rd ah x3 a0).aQ),vI ((rd ah x3 a0).bG.aP),vB ((rd ah x3 a0).bG.aN),vI ((rd ah x3 a0).dM),vI ((rd ah x3 a0).vN),vL dG ((rd ah x3 a0).au).length dJ] 56 (0,0))::(some bx0, .cells #[vL (rowA mP) xx1.2.2.1.length uH] 81 (0,0))::(mP, .cells (sO).toArray 3 (0,0))::(some bx1, .cells #[vB (xx1.2.1&&(decide (((bn ieq (eU ieq (eU ieq (eU ieq (eU ieq (eU ieq (eU ieq ([]:List (Int×Int)) 1 ((rd ah x3 a0).bG.aP)) 2 8) 3 (w64 ((rd ah x3 a0).vN*xx1.1))) 4 ((rd ah x3 a0).vN)) 5 4) 6 xx1.1) ((rd ah x3 a0).aC)).getD 0)≤512)))] 4 (0,0))::(some bx2, .cells #[vL (rowA wo) xx1.2.2.2.length Jv] 216 (0,0))::(wo, .cells (Bv).toArray 4 (0,0))::(some bx3, .cells #[vL Ax3 x3.length cx3] 24 (0,0))::(some bx4, .cells #[Value.func (.func 129) #[] #[vP bx0 0,vP bx1 0,vP bx2 0,vP bx3 0,vP bx4 0]] 217 (0,0))::rest)) rfl rfl Tryz.sizeOf4 rfl rfl (by decide) rfl Xz rfl (Nat.le_of_ble_eq_true rfl) rfl rfl ?_
     intro w16 Zj
     try simp only [sc0,sc1]
     refine aA<|ak<|wp_seq<|region<|rs (vL (rowA mP) xx1.2.2.1.length uH) (aK rfl Tryz.isAgg81 (Zj.look 2 rfl) rfl)<|rs (vI a0) (aJ rfl)<|rs (vI ((bn ieq (eU ieq (eU ieq (eU ieq (eU ieq (eU ieq (eU ieq ([]:List (Int×Int)) 1 ((rd ah x3 a0).bG.aP)) 2 8) 3 (w64 ((rd ah x3 a0).vN*xx1.1))) 4 ((rd ah x3 a0).vN)) 5 4) 6 xx1.1) ((rd ah x3 a0).aC)).getD 0)) (aJ rfl) ?_
     obtain ⟨hi7,H⟩:=eG H
     obtain ⟨rb5,_,Zk,rfl,hp5⟩:=BA.at 0 hi7.1 hi7.2
     refine rs (Value.pointer (some ⟨rb5,a0.toNat*1+0,none⟩)) (lQ (sz:=1) rfl Zk rfl hi7.1 hi7.2 Tryz.runUnderlying81 Tryz.sizeOf3)<|aI (by simp only [sc0,sc1];rfl) ?_
     refine Cb (i:=3) (cs:=sO) (v:=vI ((bn ieq (eU ieq (eU ieq (eU ieq (eU ieq (eU ieq (eU ieq ([]:List (Int×Int)) 1 ((rd ah x3 a0).bG.aP)) 2 8) 3 (w64 ((rd ah x3 a0).vN*xx1.1))) 4 ((rd ah x3 a0).vN)) 5 4) 6 xx1.1) ((rd ah x3 a0).aC)).getD 0)) Zk rfl rfl Tryz.sizeOf3 rfl rfl Zj rfl (BA.inb hi7.1 hi7.2 (m:=1) (by decide)) ?_
     intro w17 Z8
     have ho9:=BA.set (o:=0) (v:=vI ((bn ieq (eU ieq (eU ieq (eU ieq (eU ieq (eU ieq (eU ieq ([]:List (Int×Int)) 1 ((rd ah x3 a0).bG.aP)) 2 8) 3 (w64 ((rd ah x3 a0).vN*xx1.1))) 4 ((rd ah x3 a0).vN)) 5 4) 6 xx1.1) ((rd ah x3 a0).aC)).getD 0)) (x':=((bn ieq (eU ieq (eU ieq (eU ieq (eU ieq (eU ieq (eU ieq ([]:List (Int×Int)) 1 ((rd ah x3 a0).bG.aP)) 2 8) 3 (w64 ((rd ah x3 a0).vN*xx1.1))) 4 ((rd ah x3 a0).vN)) 5 4) 6 xx1.1) ((rd ah x3 a0).aC)).getD 0)) hi7.1 hi7.2 hp5 rfl (Nat.le_of_ble_eq_true rfl)
     try simp only [sc0,sc1]
     refine aA<|ak<|wp_seq<|region<|rs (vI ((bn ieq (eU ieq (eU ieq (eU ieq (eU ieq (eU ieq (eU ieq ([]:List (Int×Int)) 1 ((rd ah x3 a0).bG.aP)) 2 8) 3 (w64 ((rd ah x3 a0).vN*xx1.1))) 4 ((rd ah x3 a0).vN)) 5 4) 6 xx1.1) ((rd ah x3 a0).aC)).getD 0)) (aJ rfl)<|rs (vI ((bn ieq (eU ieq (eU ieq (eU ieq (eU ieq (eU ieq (eU ieq ([]:List (Int×Int)) 1 ((rd ah x3 a0).bG.aP)) 2 8) 3 (w64 ((rd ah x3 a0).vN*xx1.1))) 4 ((rd ah x3 a0).vN)) 5 4) 6 xx1.1) ((rd ah x3 a0).aC)).getD 0)) (aB rfl) ?_
     try simp only [sc0,sc1]
     refine aA<|ak<|wp_ret ?_
     obtain rfl:=Option.some.inj H
     refine bodyPost_ret (aV rfl (aX rfl)) rfl ?_
     have Z9:St [] h0 w0 h4 ((some b2, .map es6 cl6)::(some b1, .cells #[vI ((rd ah x3 a0).aC),vS ((rd ah x3 a0).aQ),vI ((rd ah x3 a0).bG.aP),vB ((rd ah x3 a0).bG.aN),vI ((rd ah x3 a0).dM),vI ((rd ah x3 a0).vN),vL dG ((rd ah x3 a0).au).length dJ] 56 (0,0))::(some bx0, .cells #[vL (rowA mP) ((List.set xx1.2.2.1 a0.toNat ((bn ieq (eU ieq (eU ieq (eU ieq (eU ieq (eU ieq (eU ieq ([]:List (Int×Int)) 1 ((rd ah x3 a0).bG.aP)) 2 8) 3 (w64 ((rd ah x3 a0).vN*xx1.1))) 4 ((rd ah x3 a0).vN)) 5 4) 6 xx1.1) ((rd ah x3 a0).aC)).getD 0)).length) uH] 81 (0,0))::(mP, .cells ((List.set sO (a0.toNat*1+0) (vI ((bn ieq (eU ieq (eU ieq (eU ieq (eU ieq (eU ieq (eU ieq ([]:List (Int×Int)) 1 ((rd ah x3 a0).bG.aP)) 2 8) 3 (w64 ((rd ah x3 a0).vN*xx1.1))) 4 ((rd ah x3 a0).vN)) 5 4) 6 xx1.1) ((rd ah x3 a0).aC)).getD 0)))).toArray 3 (0,0))::(some bx1, .cells #[vB (xx1.2.1&&(decide (((bn ieq (eU ieq (eU ieq (eU ieq (eU ieq (eU ieq (eU ieq ([]:List (Int×Int)) 1 ((rd ah x3 a0).bG.aP)) 2 8) 3 (w64 ((rd ah x3 a0).vN*xx1.1))) 4 ((rd ah x3 a0).vN)) 5 4) 6 xx1.1) ((rd ah x3 a0).aC)).getD 0)≤512)))] 4 (0,0))::(some bx2, .cells #[vL (rowA wo) xx1.2.2.2.length Jv] 216 (0,0))::(wo, .cells (Bv).toArray 4 (0,0))::(some bx3, .cells #[vL Ax3 x3.length cx3] 24 (0,0))::(some bx4, .cells #[Value.func (.func 129) #[] #[vP bx0 0,vP bx1 0,vP bx2 0,vP bx3 0,vP bx4 0]] 217 (0,0))::rest) w17:=Z8.cast (by first|rfl|(rw [ho9.len];done)|(rw [ho9.len];rfl))
     have aac:=ho9.norm
     have aad:=Z9.d1
     have aae:=aad.d0
     exact ⟨h4,mP,uH,(List.set sO (a0.toNat*1+0) (vI ((bn ieq (eU ieq (eU ieq (eU ieq (eU ieq (eU ieq (eU ieq ([]:List (Int×Int)) 1 ((rd ah x3 a0).bG.aP)) 2 8) 3 (w64 ((rd ah x3 a0).vN*xx1.1))) 4 ((rd ah x3 a0).vN)) 5 4) 6 xx1.1) ((rd ah x3 a0).aC)).getD 0))),wo,Jv,Bv,rfl,aac,WJ,hsub,aae⟩

end Go.Proofs.YtecpbadkdpbkpaaGreatDoor
namespace Go.Proofs.YtecpbadkdpbkpaaGreatDoor
open Go.RowKit Go.M
def eP.l0 (k:Nat) (a0:aU):Nat→Int→Bool→(List Bool)→(List Int)→Option (Bool×(List Bool)×(List Int))
 |0,_,_,_,_=>none
 |m+1,aG,dB,jl,uO=>if (decide (aG<(a0.ay.length:Int)))=true then ((cu.f k aG uO dB jl a0.ay).bind fun v1=>(eP.l0 k a0 m (IntKind.wrap .i64 (aG+1)) v1.2.2.1 v1.2.2.2 v1.2.1)) else (some (dB,jl,uO))
def eP.f (k:Nat) (a0:aU):Option ((List Int)×Bool):=if 0≤(a0.ay.length:Int)∧(a0.ay.length:Int)≤4294967296 then (if 0≤(a0.ay.length:Int)∧(a0.ay.length:Int)≤4294967296 then ((eP.l0 k a0 k 0 true (List.replicate (a0.ay.length:Int).toNat (false:Bool)) (List.replicate (a0.ay.length:Int).toNat (0:Int))).bind fun xx1=>(some (xx1.2.2,xx1.1))) else none) else none
set_option maxRecDepth 20000 in
set_option maxHeartbeats 4000000 in
theorem eP.calls (k:Nat) (a0:aU) (bU:Option Addr) (bV:Nat) {h0:View} {w0:World} (hv:jL h0 w0) (fK:Rd dV h0 bU a0.ay) (iw:a0.ay.length≤bV) {r:(List Int)×Bool} (H:eP.f k a0=some r):Calls Tryz.prog 85 #[Value.agg #[vL bU a0.ay.length bV]] w0 (fun e w1=>∃(h1:View) (bU:Option Addr) (bV:Nat),e= .returned (Value.tuple #[vL bU r.1.length bV,vB r.2])∧r.1.length≤bV∧Rd (Kd.int .i64) h1 bU r.1∧Gr w0.heap.size h0 h1∧jL h1 w1∧Ext w0 w1):=by
 unfold eP.f at H
 have HS:St [] h0 w0 h0 [] w0:=St.init hv
 go_enter Tryz.func85,Tryz.ntmps85
 refine wp_seq<|region<|dU rfl rfl (dY (cs:=#[vL bU a0.ay.length bV]) rfl rfl) ?_
 rintro w1 _ hE1 ⟨b1,rfl,ge1,hb1⟩
 have HS1:=HS.new hE1 ge1 hb1
 refine rs (vL none 0 0) (aB rfl)<|rs (vB false) (aB rfl) ?_
 try simp only [sc0,sc1]
 refine aA<|ak<|wp_seq<|region<|rs (vP b1 0) (aH (n:=1) (o':=0) rfl Tryz.runUnderlying24 rfl Tryz.sizeOf22 (by decide) rfl)<|rs (vL bU a0.ay.length bV) (aK rfl Tryz.isAgg22 (HS1.look 0 rfl) rfl)<|rs (vI (a0.ay.length:Int)) (jJ rfl Tryz.runUnderlying22) ?_
 obtain ⟨hk1,H⟩:=eG H
 refine run_mk (Kd.int .i64) 0 (zs:=[vI 0]) rfl rfl hk1 Tryz.runUnderlying81 Tryz.typeInfo3 (by decide) rfl Tryz.zeroValue3 rfl rfl HS1 ?_
 intro w2 b2 cs1 HS2 ho1
 refine aI (by simp only [sc0,sc1];rfl) ?_
 refine dU rfl rfl (fA (cs:=#[vL none 0 0]) Tryz.zeroValue81 rfl) ?_
 rintro w3 _ hE2 ⟨b3,rfl,ge2,hb2⟩
 have HS3:=HS2.new hE2 ge2 hb2
 refine fV (i:=0) (cs:=[vL none 0 0]) (cs':=[vL (rowA (some b2)) ((a0.ay.length:Int).toNat) ((a0.ay.length:Int).toNat)]) (vs:=[vL (rowA (some b2)) ((a0.ay.length:Int).toNat) ((a0.ay.length:Int).toNat)]) (bs':=[(some b3, .cells #[vL (rowA (some b2)) ((a0.ay.length:Int).toNat) ((a0.ay.length:Int).toNat)] 81 (0,0)),((some b2), .cells (cs1).toArray 3 (0,0)),(some b1, .cells #[vL bU a0.ay.length bV] 24 (0,0))]) rfl rfl Tryz.sizeOf81 rfl rfl (by decide) rfl HS3 rfl (Nat.le_of_ble_eq_true rfl) rfl rfl ?_
 intro w4 HS4
 try simp only [sc0,sc1]
 refine aA<|ak<|wp_seq<|region<|rs (vP b1 0) (aH (n:=1) (o':=0) rfl Tryz.runUnderlying24 rfl Tryz.sizeOf22 (by decide) rfl)<|rs (vL bU a0.ay.length bV) (aK rfl Tryz.isAgg22 (HS4.look 2 rfl) rfl)<|rs (vI (a0.ay.length:Int)) (jJ rfl Tryz.runUnderlying22) ?_
 obtain ⟨hk2,H⟩:=eG H
 refine run_mk Kd.bool false (zs:=[vB false]) rfl rfl hk2 Tryz.runUnderlying216 Tryz.typeInfo4 (by decide) rfl Tryz.zeroValue4 rfl rfl HS4 ?_
 intro w5 b4 cs2 HS5 ho2
 refine aI (by simp only [sc0,sc1];rfl) ?_
 refine dU rfl rfl (fA (cs:=#[vL none 0 0]) Tryz.zeroValue216 rfl) ?_
 rintro w6 _ hE3 ⟨b5,rfl,ge3,hb3⟩
 have HS6:=HS5.new hE3 ge3 hb3
 refine fV (i:=0) (cs:=[vL none 0 0]) (cs':=[vL (rowA (some b4)) ((a0.ay.length:Int).toNat) ((a0.ay.length:Int).toNat)]) (vs:=[vL (rowA (some b4)) ((a0.ay.length:Int).toNat) ((a0.ay.length:Int).toNat)]) (bs':=[(some b5, .cells #[vL (rowA (some b4)) ((a0.ay.length:Int).toNat) ((a0.ay.length:Int).toNat)] 216 (0,0)),((some b4), .cells (cs2).toArray 4 (0,0)),(some b3, .cells #[vL (rowA (some b2)) ((a0.ay.length:Int).toNat) ((a0.ay.length:Int).toNat)] 81 (0,0)),((some b2), .cells (cs1).toArray 3 (0,0)),(some b1, .cells #[vL bU a0.ay.length bV] 24 (0,0))]) rfl rfl Tryz.sizeOf216 rfl rfl (by decide) rfl HS6 rfl (Nat.le_of_ble_eq_true rfl) rfl rfl ?_
 intro w7 HS7
 try simp only [sc0,sc1]
 refine aA<|ak<|wp_seq<|region<|dU rfl rfl (fA (cs:=#[vB false]) Tryz.zeroValue4 rfl) ?_
 rintro w8 _ hE4 ⟨b6,rfl,ge4,hb4⟩
 have HS8:=HS7.new hE4 ge4 hb4
 refine fV (i:=0) (cs:=[vB false]) (cs':=[vB true]) (vs:=[vB true]) (bs':=[(some b6, .cells #[vB true] 4 (0,0)),(some b5, .cells #[vL (rowA (some b4)) ((a0.ay.length:Int).toNat) ((a0.ay.length:Int).toNat)] 216 (0,0)),((some b4), .cells (cs2).toArray 4 (0,0)),(some b3, .cells #[vL (rowA (some b2)) ((a0.ay.length:Int).toNat) ((a0.ay.length:Int).toNat)] 81 (0,0)),((some b2), .cells (cs1).toArray 3 (0,0)),(some b1, .cells #[vL bU a0.ay.length bV] 24 (0,0))]) rfl rfl Tryz.sizeOf4 rfl rfl (by decide) rfl HS8 rfl (Nat.le_of_ble_eq_true rfl) rfl rfl ?_
 intro w9 HS9
 try simp only [sc0,sc1]
 refine aA<|ak<|wp_seq<|region<|dU rfl rfl (fA (cs:=#[Value.nilFunc]) Tryz.zeroValue217 rfl) ?_
 rintro w10 _ hE5 ⟨b7,rfl,ge5,hb5⟩
 have ru:=HS9.new hE5 ge5 hb5
 try simp only [sc0,sc1]
 refine aA<|ak<|wp_seq<|region<|rs (Value.func (.func 129) #[] #[vP b3 0,vP b6 0,vP b5 0,vP b1 0,vP b7 0]) (wG (vs:=[vP b3 0,vP b6 0,vP b5 0,vP b1 0,vP b7 0]) rfl)<|fV (i:=0) (cs:=[Value.nilFunc]) (cs':=[Value.func (.func 129) #[] #[vP b3 0,vP b6 0,vP b5 0,vP b1 0,vP b7 0]]) (vs:=[Value.func (.func 129) #[] #[vP b3 0,vP b6 0,vP b5 0,vP b1 0,vP b7 0]]) (bs':=[(some b7, .cells #[Value.func (.func 129) #[] #[vP b3 0,vP b6 0,vP b5 0,vP b1 0,vP b7 0]] 217 (0,0)),(some b6, .cells #[vB true] 4 (0,0)),(some b5, .cells #[vL (rowA (some b4)) ((a0.ay.length:Int).toNat) ((a0.ay.length:Int).toNat)] 216 (0,0)),((some b4), .cells (cs2).toArray 4 (0,0)),(some b3, .cells #[vL (rowA (some b2)) ((a0.ay.length:Int).toNat) ((a0.ay.length:Int).toNat)] 81 (0,0)),((some b2), .cells (cs1).toArray 3 (0,0)),(some b1, .cells #[vL bU a0.ay.length bV] 24 (0,0))]) rfl rfl Tryz.sizeOf217 rfl rfl (by decide) rfl ru rfl (Nat.le_of_ble_eq_true rfl) rfl rfl ?_
 intro w11 qw
 try simp only [sc0,sc1]
 refine aA<|ak<|wp_seq<|wp_seq<|region<|rs (vP b1 0) (aH (n:=1) (o':=0) rfl Tryz.runUnderlying24 rfl Tryz.sizeOf22 (by decide) rfl)<|rs (vL bU a0.ay.length bV) (aK rfl Tryz.isAgg22 (qw.look 6 rfl) rfl)<|rs (vI (a0.ay.length:Int)) (jJ rfl Tryz.runUnderlying22)<|rs (vI 0) (aJ rfl) ?_
 try simp only [sc0,sc1]
 refine aA<|ak ?_
 obtain ⟨xx1,H,G1⟩:=bJ H
 have Rz:St [] h0 w0 h0 [(some b7, .cells #[Value.func (.func 129) #[] #[vP b3 0,vP b6 0,vP b5 0,vP b1 0,vP b7 0]] 217 (0,0)),(some b6, .cells #[vB true] 4 (0,0)),(some b5, .cells #[vL (rowA (some b4)) ((List.replicate (a0.ay.length:Int).toNat (false:Bool)).length) ((a0.ay.length:Int).toNat)] 216 (0,0)),((some b4), .cells (cs2).toArray 4 (0,0)),(some b3, .cells #[vL (rowA (some b2)) ((List.replicate (a0.ay.length:Int).toNat (0:Int)).length) ((a0.ay.length:Int).toNat)] 81 (0,0)),((some b2), .cells (cs1).toArray 3 (0,0)),(some b1, .cells #[vL bU a0.ay.length bV] 24 (0,0))] w11:=qw.cast (by first|rfl|(rw [ho2.len,ho1.len];done)|(rw [ho2.len,ho1.len];rfl))
 have ho3:=ho2.norm
 have ho4:=ho1.norm
 refine jm [8,21,22,23,24,25,26,27] (fun m us w'=>∃aG:Int,∃dB:Bool,∃jl:List Bool,∃uO:List Int,∃h1:View,∃(lU:Option Nat) (sQ:Nat),∃(nO:List Value),∃(qx:Option Nat) (zB:Nat),∃(sN:List Value),Fit us (fun uy1=>[(uy1 0),vI aG,(uy1 2),(uy1 3),(uy1 4),(uy1 5),(uy1 6),(uy1 7)])∧eP.l0 k a0 m aG dB jl uO=some xx1∧gY Kd.bool h1 jl lU jl.length sQ nO∧gY (Kd.int .i64) h1 uO qx uO.length zB sN∧St [] h0 w0 h1 [(some b7, .cells #[Value.func (.func 129) #[] #[vP b3 0,vP b6 0,vP b5 0,vP b1 0,vP b7 0]] 217 (0,0)),(some b6, .cells #[vB dB] 4 (0,0)),(some b5, .cells #[vL (rowA lU) jl.length sQ] 216 (0,0)),(lU, .cells (nO).toArray 4 (0,0)),(some b3, .cells #[vL (rowA qx) uO.length zB] 81 (0,0)),(qx, .cells (sN).toArray 3 (0,0)),(some b1, .cells #[vL bU a0.ay.length bV] 24 (0,0))] w') (fun us w'=>∃(h3:View),∃(Iz:Option Nat) (Uf:Nat),∃(xO:List Value),∃(mP:Option Nat) (uH:Nat),∃(sO:List Value),Fit us (fun uo1=>[(uo1 0),(uo1 1),(uo1 2),(uo1 3),(uo1 4),(uo1 5),(uo1 6),(uo1 7)])∧gY Kd.bool h3 xx1.2.1 Iz xx1.2.1.length Uf xO∧gY (Kd.int .i64) h3 xx1.2.2 mP xx1.2.2.length uH sO∧St [] h0 w0 h3 [(some b7, .cells #[Value.func (.func 129) #[] #[vP b3 0,vP b6 0,vP b5 0,vP b1 0,vP b7 0]] 217 (0,0)),(some b6, .cells #[vB xx1.1] 4 (0,0)),(some b5, .cells #[vL (rowA Iz) xx1.2.1.length Uf] 216 (0,0)),(Iz, .cells (xO).toArray 4 (0,0)),(some b3, .cells #[vL (rowA mP) xx1.2.2.length uH] 81 (0,0)),(mP, .cells (sO).toArray 3 (0,0)),(some b1, .cells #[vL bU a0.ay.length bV] 24 (0,0))] w') k ⟨0,true,(List.replicate (a0.ay.length:Int).toNat (false:Bool)),(List.replicate (a0.ay.length:Int).toNat (0:Int)),h0,(some b4),(a0.ay.length:Int).toNat,cs2,(some b2),(a0.ay.length:Int).toNat,cs1,(fit (by first|rfl|(rw [ho2.len,ho1.len];done)|(rw [ho2.len,ho1.len];rfl))),H,ho3.norm,ho4.norm,Rz⟩ ?_ ?_
 ·rintro m us w12 ⟨aG,dB,jl,uO,h1,lU,sQ,nO,qx,zB,sN,ng,H,xP,ES,uf⟩
  obtain ⟨uy1,rfl⟩:=unj ng
  cases m with
  |zero=>exact absurd H (by simp [eP.l0])
  |succ m=>
   rw [eP.l0] at H
   try simp only [patch,sc0,sc1]
   refine wp_seq<|region<|rs (vB (decide (aG<(a0.ay.length:Int)))) (bK rfl rfl rfl) ?_
   try simp only [sc0,sc1]
   refine aA<|ak<|wp_seq<|wp_cond_split (t:=(decide (aG<(a0.ay.length:Int)))) rfl (fun c1=>?_) (fun c1=>?_)
   ·replace H:=bM H c1
    refine wp_skip<|ak<|wp_seq<|wp_block<|wp_seq<|region<|rs (vI aG) (aJ rfl)<|rs (vI aG) (aB rfl) ?_
    try simp only [sc0,sc1]
    refine aA<|ak<|region<|rs (Value.func (.func 129) #[] #[vP b3 0,vP b6 0,vP b5 0,vP b1 0,vP b7 0]) (aK rfl Tryz.isAgg217 (uf.look 0 rfl) rfl)<|rs (vI aG) (aJ rfl) ?_
    obtain ⟨v1,H1,H⟩:=bJ H
    have yC:=uf.f6
    have DN:=yC.f4
    have Iy:=DN.f4
    have Bz:=Iy.f4
    have Jw:=Bz.f6
    have Ry:=Jw.f6
    refine qI (vs:=[vI aG]) (caps:=[vP b3 0,vP b6 0,vP b5 0,vP b1 0,vP b7 0]) Tryz.call129 rfl rfl (cu.calls k aG uO dB jl a0.ay b3 qx zB sN b6 b5 lU sQ nO b1 bU bV b7 Ry ES xP (fK.ext Ry.sub) iw H1) ?_
    rintro _ w13 ⟨h2,Ug,WQ,Uh,Ui,WR,Uj,rfl,Uk,Ul,hs1,Qg⟩
    refine ⟨_,rfl,?_⟩
    have WG:=Qg.f5
    have WH:=WG.f2
    have WI:=WH.f2
    have WL:=WI.f5
    have WB:=WL.f5
    have UQ:=WB.f5
    have WM:=UQ.f6
    try simp only [sc0,sc1]
    refine aA<|dI<|ak<|region<|rs (vI (w64 (aG+1))) (bK rfl rfl rfl)<|rs (vI (w64 (aG+1))) (aJ rfl) ?_
    try simp only [sc0,sc1]
    refine aA<|gZ m (Nat.lt_succ_self m) rfl ⟨(w64 (aG+1)),v1.2.2.1,v1.2.2.2,v1.2.1,h2,Ui,WR,Uj,Ug,WQ,Uh,(fit rfl),H,Ul.norm,Uk.norm,WM⟩
   ·replace H:=bW H (nt c1)
    refine wp_exit<|eY ?_
    obtain rfl:=Option.some.inj H
    refine iG rfl ⟨h1,lU,sQ,nO,qx,zB,sN,(fit rfl),xP.norm,ES.norm,uf⟩
 ·rintro us w14 ⟨h3,Iz,Uf,xO,mP,uH,sO,ni,IB,BA,OD⟩
  obtain ⟨uo1,rfl⟩:=unj ni
  replace H:=G1
  clear G1
  try simp only [patch,sc0,sc1]
  refine ak<|wp_seq<|drawn [.eq (vL (rowA mP) xx1.2.2.length uH), .eq (vB xx1.1), .eq (vL (rowA mP) xx1.2.2.length uH)] [28,29,2] lW (by kernel_rfl) rfl (aS (aS (aS iP))) ⟨aY rfl (fun a' w' hE hk=>by have HSd:=OD.step hE;exact bI (aK (show _=vP b3 0 from hk 4 rfl) Tryz.isAgg81 (HSd.look 4 rfl) rfl)),aY rfl (fun a' w' hE hk=>by have HSd:=OD.step hE;exact bI (aK (show _=vP b6 0 from hk 6 rfl) Tryz.isAgg4 (HSd.look 1 rfl) rfl)),aY rfl (fun a' w' hE hk=>by have HSd:=OD.step hE;exact bI (aB (show _=vL (rowA mP) xx1.2.2.length uH from hk 28 rfl))),trivial⟩ ?_
  intro w15 hE6
  simp only [List.zip_cons_cons,List.zip_nil_left,List.zip_nil_right,yg,sc0,sc1,List.length_cons,List.length_nil,List.drop_succ_cons,List.drop_zero,Nat.zero_add,Nat.reduceAdd]
  have Yo:=OD.step hE6
  refine rs (vB xx1.1) (aB rfl) ?_
  try simp only [sc0,sc1]
  refine aA<|ak<|wp_ret ?_
  obtain rfl:=Option.some.inj H
  refine bodyPost_ret (fM rfl (aX rfl) (aX rfl)) rfl ?_
  obtain ⟨h4,WO,hs2,Ju⟩:=qC Yo (i:=5) rfl BA
  replace IB:=IB.view hs2
  exact ⟨h4,(rowA mP),uH,rfl,BA.cap,Ju,WO.gr,WO.sees,WO.toE⟩

end Go.Proofs.YtecpbadkdpbkpaaGreatDoor
/-bits.Check holds of the types of 1,2,4 and 8 bytes:the map of conversions,its entries put in in any order. -/
namespace Go.Proofs.YtecpbadkdpbkpaaGreatDoor
open Go.RowKit Go.M
section
variable {P:Program} {Q:Exit→Act→World→Prop}
theorem zC {ops:Array Oper} {i:Nat} {o:Oper} {K:Act→World→Prop} {a:Act} {w w':World} {v:Value} (hi:ops[i]?=some o) (hg:o.guard=none) (hex:(execOp a.eval o).run P w= .ok (.value v) w') (hK:K (a.put o.dst v) w'):wpOp P ops Q i K a w:=by
 unfold wpOp
 rw [hi]
 simp only [Region.wanted,hg,if_true]
 refine .inl ?_
 unfold Oper.wp
 rw [hex]
 exact hK
theorem steps {ops:Array Oper} {i:Nat} {o:Oper} {K:Act→World→Prop} {a:Act} {w w':World} (hi:ops[i]?=some o) (hg:o.guard=none) (hd:o.dst=none) (hex:(execOp a.eval o).run P w= .ok .skip w') (hK:K a w'):wpOp P ops Q i K a w:=by
 unfold wpOp
 rw [hi]
 simp only [Region.wanted,hg,if_true]
 refine .inl ?_
 unfold Oper.wp
 rw [hex]
 simp only [Oper.upon,hd]
 exact hK
end
def eqI (a b:dL):Bool:=(a.aP==b.aP)&&((a.aN==b.aN)&&true)
theorem Dq {a b:dL}:eqI a b=true↔a=b:=by
 obtain ⟨a1,a2⟩:=a
 obtain ⟨b1,b2⟩:=b
 simp [eqI]
theorem Yp : O5 Tryz.prog 29 #[{ name := "Size", type := 3, offset := 0, embedded := false, tag := "", pkgPath := "", byteOffset := 0 }, { name := "Signed", type := 4, offset := 1, embedded := false, tag := "", pkgPath := "", byteOffset := 8 }] jF eqI where
 hu:=Tryz.runUnderlying29
 same:=fun a b w=>(Kr Tryz.stoodInHeld29 Tryz.underlying29 (yj (by decide) (ny Tryz.isAgg3 rfl) (ny Tryz.isAgg3 rfl) (Ko Tryz.underlying3) (yj (by decide) (ny Tryz.isAgg4 rfl) (ny Tryz.isAgg4 rfl) (G8 Tryz.underlying4) Kq)):EqR Tryz.prog 10000 29 (jF a) (jF b) (eqI a b)) w
 check:=fun e k w=>by
  have hp1:(part 3 #[.int .i64 k.aP, .bool k.aN] 0).run Tryz.prog w= .ok (.int .i64 k.aP) w:=ny Tryz.isAgg3 rfl w
  have hp2:(part 4 #[.int .i64 k.aP, .bool k.aN] 1).run Tryz.prog w= .ok (.bool k.aN) w:=ny Tryz.isAgg4 rfl w
  have h1:∀n v,(Instr.checkKey e (n+1) 3 v).run Tryz.prog w= .ok () w:=fun n v=>by
   rw [Instr.checkKey]
   simp only [Sem.run_bind,Tryz.runUnderlying3,Result.andThen_ok]
   cases v<;>rfl
  have h2:∀n v,(Instr.checkKey e (n+1) 4 v).run Tryz.prog w= .ok () w:=fun n v=>by
   rw [Instr.checkKey]
   simp only [Sem.run_bind,Tryz.runUnderlying4,Result.andThen_ok]
   cases v<;>rfl
  show (Instr.checkKey e (9998+1+1) 29 (.agg #[.int .i64 k.aP, .bool k.aN])).run Tryz.prog w=_
  rw [Instr.checkKey]
  simp only [Sem.run_bind,Tryz.runUnderlying29,Result.andThen_ok]
  simp [hp1,hp2,h1,h2]
def keyAt (j:Nat):dL:=⟨([1,1,2,2,4,4,8,8]:List Int).getD j 0,j%2==0⟩
/-- what the map leads to -/
def thr (k:dL):Nat:=if k.aP==1 then (if k.aN then 135 else 136) else if k.aP==2 then (if k.aN then 137 else 138) else if k.aP==4 then (if k.aN then 139 else 140) else (if k.aN then 141 else 142)
def fvI (k:dL):Value:= .func (.func (thr k)) #[] #[]
structure Yq (wz w:World) (b:Nat) (es:Array MapEntry) (cl:Nat) (ks:List dL):Prop where
 ge:wz.heap.size≤b
 at_:w.heap[b]?=some (.map es cl)
 keys:KVs jF fvI ks es
 ext:Ext wz w
structure Nz (wz:World) (df:List Deferred) (L:Nat→Bool) (a:Act) (w:World):Prop where
 defers:a.defers=df
 size:a.tmps.size=11
 built:∀j:Nat,j<8→L (2*j+1)=true→a.tmps.getD (Nat.add j 2) undef=jF (keyAt j)
 none_:L 0=false→Ext wz w∧(∀j,j<8→L (2*j+2)=false)∧L 17=false∧L 18=false
 some_:L 0=true→∃b es cl ks,a.tmps.getD 1 undef= .map (some b)∧Yq wz w b es cl ks∧(∀j,j<8→(L (2*j+2)=true↔keyAt j∈ks))∧(∀k∈ks,∃j,j<8∧k=keyAt j)∧
  (L 17=true→a.tmps.getD 10 undef= .map (some b))∧(L 18=true→a.tmps.getD 0 undef= .map (some b))
theorem upd_ne {L:Nat→Bool} {i j:Nat} (h:j≠i):upd L i j=L j:=if_neg h
theorem RD {L:Nat→Bool} {i:Nat}:upd L i i=true:=if_pos rfl
theorem jy {a:Act} {d t:Tmp} {v:Value} (h:d≠t):(a.put (some d) v).tmps.getD t undef=a.tmps.getD t undef:=by
 simp [Act.put,Array.getD_eq_getD_getElem?,Array.getElem?_setIfInBounds_ne h]
theorem rC {a:Act} {d:Tmp} {v:Value} (h:d<a.tmps.size):(a.put (some d) v).tmps.getD d undef=v:=by
 simp [Act.put,Array.getD_eq_getD_getElem?,h]
theorem Yr {j:Nat} (h:j<8):Nat.add j 2<11:=by show j+2<11;omega
theorem Yt {j q:Nat} (h:¬q=j):Nat.add j 2≠Nat.add q 2:=by show j+2≠q+2;omega
theorem aaf {j:Nat}:Nat.add j 2≠1:=by show j+2≠1;omega
theorem Yu {j:Nat}:1≠Nat.add j 2:=by show 1≠j+2;omega
theorem aag {j:Nat}:Nat.add j 2≠0:=by show j+2≠0;omega
theorem Yv {j:Nat} (h:j<8):Nat.add j 2≠10:=by show j+2≠10;omega
theorem WS {j:Nat} (h:j<8):10≠Nat.add j 2:=by show 10≠j+2;omega
theorem Yw {j:Nat}:0≠Nat.add j 2:=by show 0≠j+2;omega
/-- a slot that is built -/
theorem Nz.build {wz w:World} {df:List Deferred} {L:Nat→Bool} {a:Act} (C:Nz wz df L a w) {j:Nat} (hj:j<8):Nz wz df (upd L (2*j+1)) (a.put (some (Nat.add j 2)) (jF (keyAt j))) w:=by
 refine ⟨by simp [Act.put,C.defers],by simp [Act.put,C.size],fun q hq hL=>?_,fun h=>?_,fun h=>?_⟩
 ·by_cases hqj:q=j
  ·subst hqj;exact rC (by rw [C.size];exact Yr hq)
  ·rw [jy (Yt hqj)]
   rw [upd_ne (by omega)] at hL
   exact C.built q hq hL
 ·rw [upd_ne (by omega)] at h
  obtain ⟨h1,h2,h3,h4⟩:=C.none_ h
  exact ⟨h1,fun q hq=>by rw [upd_ne (by omega)];exact h2 q hq,by rw [upd_ne (by omega)];exact h3,by rw [upd_ne (by omega)];exact h4⟩
 ·rw [upd_ne (by omega)] at h
  obtain ⟨b,es,cl,ks,h1,h2,h3,h4,h5,h6⟩:=C.some_ h
  refine ⟨b,es,cl,ks,by rw [jy aaf];exact h1,h2,fun q hq=>by rw [upd_ne (by omega)];exact h3 q hq,h4,fun h=>?_,fun h=>?_⟩
  ·rw [upd_ne (by omega)] at h
   rw [jy (Yv hj)];exact h5 h
  ·rw [upd_ne (by omega)] at h
   rw [jy aag];exact h6 h
theorem NC {i j:Nat} (hi:i<8) (hj:j<8) (h:keyAt i=keyAt j):i=j:=by
 have:∀i j:Fin 8,(([1,1,2,2,4,4,8,8]:List Int).getD i 0=([1,1,2,2,4,4,8,8]:List Int).getD j 0∧(i.val%2==0)=(j.val%2==0))→i=j:=by decide
 have h2:=this ⟨i,hi⟩ ⟨j,hj⟩ (by simpa [keyAt] using h)
 exact congrArg Fin.val h2
/-- an entry that is put in -/
theorem Nz.insert {wz w:World} {df:List Deferred} {L:Nat→Bool} {a:Act} (C:Nz wz df L a w) {j:Nat} (hj:j<8) (hL:L (2*j+2)=false) (h0:L 0=true) (hb:L (2*j+1)=true) {o:Oper} {y:Operand}
  (ho:o.op= .insert 178 (.tmp 1) (.tmp (Nat.add j 2)) y) (hy:a.eval y=fvI (keyAt j)):∃w',(execOp a.eval o).run Tryz.prog w= .ok .skip w'∧Nz wz df (upd L (2*j+2)) a w':=by
 obtain ⟨b,es,cl,ks,h1,h2,h3,h4,h5,h6⟩:=C.some_ h0
 have hnot:ks.any (eqI (keyAt j))=false:=by
  rw [List.any_eq_false]
  intro k hk he
  have:=Dq.1 he
  rw [←this] at hk
  have:=(h3 j hj).2 hk
  rw [hL] at this
  cases this
 obtain ⟨es',cl',hr,hk⟩:=XZ (P:=Tryz.prog) Yp (keyAt j) h2.keys Tryz.runUnderlying178 h2.at_ hnot
 have e1:a.eval (.tmp 1)= .map (some b):=h1
 have e2:a.eval (.tmp (Nat.add j 2))=jF (keyAt j):=C.built j hj hb
 have hlt:=(Array.getElem?_eq_some_iff.1 h2.at_).1
 refine ⟨rG w b (.map es' cl'),by simp [execOp,ho,e1,e2,hy,hr],C.defers,C.size,fun q hq hLq=>?_,fun h=>?_,fun h=>?_⟩
 ·rw [upd_ne (by omega)] at hLq
  exact C.built q hq hLq
 ·rw [upd_ne (by omega),h0] at h;cases h
 ·refine ⟨b,es',cl',ks++[keyAt j],h1,⟨h2.ge,BR hlt,hk,?_⟩,fun q hq=>?_,fun k hk=>?_,fun h=>?_,fun h=>?_⟩
  ·refine ⟨h2.ext.os,h2.ext.tape,h2.ext.output,by simpa [rG] using h2.ext.size,fun i hi=>?_⟩
   rw [BU (by have:=h2.ge;omega)]
   exact h2.ext.block i hi
  ·by_cases hqj:q=j
   ·subst hqj;simp [RD]
   ·rw [upd_ne (by omega),h3 q hq,List.mem_append,List.mem_singleton]
    exact ⟨.inl,fun h=>h.elim id (fun e=>absurd (NC hq hj e) hqj)⟩
  ·rcases List.mem_append.1 hk with hk|hk
   ·exact h4 k hk
   ·exact ⟨j,hj,List.mem_singleton.1 hk⟩
  ·rw [upd_ne (by omega)] at h;exact h5 h
  ·rw [upd_ne (by omega)] at h;exact h6 h
/-- the sizes of valid integer types -/
def okI (k:dL):Bool:=k.aP==1||k.aP==2||k.aP==4||k.aP==8
theorem all_keys {ks:List dL} (h3:∀j,j<8→keyAt j∈ks) (h4:∀k∈ks,∃j,j<8∧k=keyAt j) (k:dL):ks.any (eqI k)=okI k:=by
 have key:ks.any (eqI k)=true↔okI k=true:=by
  rw [List.any_eq_true]
  constructor
  ·rintro ⟨q,hq,he⟩
   obtain ⟨j,hj,rfl⟩:=h4 q hq
   obtain rfl:=Dq.1 he
   have:∀j:Fin 8,okI (keyAt j)=true:=by decide
   exact this ⟨j,hj⟩
  ·intro h
   obtain ⟨s,g⟩:=k
   have h1:∃j,j<8∧keyAt j=⟨s,g⟩:=by
    simp only [okI,Bool.or_eq_true,beq_iff_eq] at h
    rcases h with ((h|h)|h)|h<;>subst h<;>cases g
    ·exact ⟨1,by decide,rfl⟩
    ·exact ⟨0,by decide,rfl⟩
    ·exact ⟨3,by decide,rfl⟩
    ·exact ⟨2,by decide,rfl⟩
    ·exact ⟨5,by decide,rfl⟩
    ·exact ⟨4,by decide,rfl⟩
    ·exact ⟨7,by decide,rfl⟩
    ·exact ⟨6,by decide,rfl⟩
   obtain ⟨j,hj,e⟩:=h1
   exact ⟨keyAt j,h3 j hj,Dq.2 e.symm⟩
 cases h1:ks.any (eqI k) with
 |true=>exact (key.1 h1).symm
 |false=>
  cases h2:okI k with
  |false=>rfl
  |true=>rw [key.2 h2] at h1;cases h1
set_option maxRecDepth 20000 in
set_option maxHeartbeats 4000000 in
theorem rH.calls {w0:World}:Calls Tryz.prog 90 #[] w0 (fun e w1=>∃b es cl ks,e= .returned (.map (some b))∧w0.heap.size≤b∧w1.heap[b]?=some (.map es cl)∧KVs jF fvI ks es∧(∀k,ks.any (eqI k)=okI k)∧Ext w0 w1):=by
 go_enter Tryz.func90,Tryz.ntmps90
 refine wp_seq<|region<|rs (Value.map none) (aB rfl) ?_
 try simp only [sc0,sc1]
 refine aA<|ak<|wp_seq<|D6 (Nz w0 []) lW (by kernel_rfl) ?_ ?_ ?_
 ·intro w' hE
  exact Nz.mk rfl rfl (fun j hj h=>by cases h) (fun _=>⟨hE,fun _ _=>rfl,rfl,rfl⟩) (fun h=>by cases h)
 ·intro L a w i o C ho hLi hall
  have hil:i<19:=(List.getElem?_eq_some_iff.1 ho).1
  have hops:=ho
  rw [←List.getElem?_toArray] at hops
  rcases (by omega:i=0∨i=1∨i=2∨i=3∨i=4∨i=5∨i=6∨i=7∨i=8∨i=9∨i=10∨i=11∨i=12∨i=13∨i=14∨i=15∨i=16∨i=17∨i=18) with rfl|rfl|rfl|rfl|rfl|rfl|rfl|rfl|rfl|rfl|rfl|rfl|rfl|rfl|rfl|rfl|rfl|rfl|rfl
  ·-- the map
   obtain rfl:=Option.some.inj ho
   obtain ⟨h1,h2,h3,h4⟩:=C.none_ hLi
   refine zC hops rfl (v:= .map (some w.heap.size)) (w':=w.alloc (.map #[] 0)) ?_ ?_
   ·have hn:Sem.run Tryz.prog (Sem.new (Obj.map #[] 0) Sem.pure) w= .ok w.heap.size (w.alloc (.map #[] 0)):=rfl
    simp [execOp,Instr.makeMap,newObj,hn]
   ·refine Nz.mk (by simp [Act.put,C.defers]) (by simp [Act.put,C.size]) (fun q hq hL=>?_) (fun h=>by rw [RD] at h;cases h) (fun _=>?_)
    ·rw [upd_ne (by omega)] at hL
     show (a.put (some 1) _).tmps.getD _ undef=_
     rw [jy Yu];exact C.built q hq hL
    ·refine ⟨w.heap.size,#[],0,[],rC (by rw [C.size];decide),⟨h1.size,heap_alloc_new w _,rfl,h1.then (Ext.new w _)⟩,fun q hq=>?_,by simp,fun h=>?_,fun h=>?_⟩
     ·rw [upd_ne (by omega),h2 q hq];simp
     ·rw [upd_ne (by omega),h3] at h;cases h
     ·rw [upd_ne (by omega),h4] at h;cases h
  ·obtain rfl:=Option.some.inj ho
   exact zC hops rfl (iy (cs:=[.int .i64 1, .bool true]) (ps:=[(0, .int .i64 1),(1, .bool true)]) Tryz.zeroValue29 Tryz.runUnderlying29 (pl:=#[(0,1),(1,1)]) (fun w=>by simp [Tryz.sizeOf3,Tryz.sizeOf4]) (oD rfl rfl) rfl) (C.build (j:=0) (by decide))
  ·obtain rfl:=Option.some.inj ho
   simp [Region.binds] at hall
   obtain ⟨w', hex, hC⟩ := C.insert (o := ⟨none, .insert 178 (.tmp 1) (.tmp 2) (.func 135), 0, "bits.go:22", #[{ on := 0, ground := Ground.data }, { on := 1, ground := Ground.data }], none⟩) (j := 0) (by decide) hLi hall.1 hall.2 rfl rfl
   exact steps hops rfl rfl hex hC
  ·obtain rfl:=Option.some.inj ho
   exact zC hops rfl (iy (cs:=[.int .i64 1, .bool false]) (ps:=[(0, .int .i64 1)]) Tryz.zeroValue29 Tryz.runUnderlying29 (pl:=#[(0,1),(1,1)]) (fun w=>by simp [Tryz.sizeOf3,Tryz.sizeOf4]) (jM rfl) rfl) (C.build (j:=1) (by decide))
  ·obtain rfl:=Option.some.inj ho
   simp [Region.binds] at hall
   obtain ⟨w', hex, hC⟩ := C.insert (o := ⟨none, .insert 178 (.tmp 1) (.tmp 3) (.func 136), 0, "bits.go:22", #[{ on := 0, ground := Ground.data }, { on := 3, ground := Ground.data }], none⟩) (j := 1) (by decide) hLi hall.1 hall.2 rfl rfl
   exact steps hops rfl rfl hex hC
  ·obtain rfl:=Option.some.inj ho
   exact zC hops rfl (iy (cs:=[.int .i64 2, .bool true]) (ps:=[(0, .int .i64 2),(1, .bool true)]) Tryz.zeroValue29 Tryz.runUnderlying29 (pl:=#[(0,1),(1,1)]) (fun w=>by simp [Tryz.sizeOf3,Tryz.sizeOf4]) (oD rfl rfl) rfl) (C.build (j:=2) (by decide))
  ·obtain rfl:=Option.some.inj ho
   simp [Region.binds] at hall
   obtain ⟨w', hex, hC⟩ := C.insert (o := ⟨none, .insert 178 (.tmp 1) (.tmp 4) (.func 137), 0, "bits.go:22", #[{ on := 0, ground := Ground.data }, { on := 5, ground := Ground.data }], none⟩) (j := 2) (by decide) hLi hall.1 hall.2 rfl rfl
   exact steps hops rfl rfl hex hC
  ·obtain rfl:=Option.some.inj ho
   exact zC hops rfl (iy (cs:=[.int .i64 2, .bool false]) (ps:=[(0, .int .i64 2)]) Tryz.zeroValue29 Tryz.runUnderlying29 (pl:=#[(0,1),(1,1)]) (fun w=>by simp [Tryz.sizeOf3,Tryz.sizeOf4]) (jM rfl) rfl) (C.build (j:=3) (by decide))
  ·obtain rfl:=Option.some.inj ho
   simp [Region.binds] at hall
   obtain ⟨w', hex, hC⟩ := C.insert (o := ⟨none, .insert 178 (.tmp 1) (.tmp 5) (.func 138), 0, "bits.go:22", #[{ on := 0, ground := Ground.data }, { on := 7, ground := Ground.data }], none⟩) (j := 3) (by decide) hLi hall.1 hall.2 rfl rfl
   exact steps hops rfl rfl hex hC
  ·obtain rfl:=Option.some.inj ho
   exact zC hops rfl (iy (cs:=[.int .i64 4, .bool true]) (ps:=[(0, .int .i64 4),(1, .bool true)]) Tryz.zeroValue29 Tryz.runUnderlying29 (pl:=#[(0,1),(1,1)]) (fun w=>by simp [Tryz.sizeOf3,Tryz.sizeOf4]) (oD rfl rfl) rfl) (C.build (j:=4) (by decide))
  ·obtain rfl:=Option.some.inj ho
   simp [Region.binds] at hall
   obtain ⟨w', hex, hC⟩ := C.insert (o := ⟨none, .insert 178 (.tmp 1) (.tmp 6) (.func 139), 0, "bits.go:22", #[{ on := 0, ground := Ground.data }, { on := 9, ground := Ground.data }], none⟩) (j := 4) (by decide) hLi hall.1 hall.2 rfl rfl
   exact steps hops rfl rfl hex hC
  ·obtain rfl:=Option.some.inj ho
   exact zC hops rfl (iy (cs:=[.int .i64 4, .bool false]) (ps:=[(0, .int .i64 4)]) Tryz.zeroValue29 Tryz.runUnderlying29 (pl:=#[(0,1),(1,1)]) (fun w=>by simp [Tryz.sizeOf3,Tryz.sizeOf4]) (jM rfl) rfl) (C.build (j:=5) (by decide))
  ·obtain rfl:=Option.some.inj ho
   simp [Region.binds] at hall
   obtain ⟨w', hex, hC⟩ := C.insert (o := ⟨none, .insert 178 (.tmp 1) (.tmp 7) (.func 140), 0, "bits.go:22", #[{ on := 0, ground := Ground.data }, { on := 11, ground := Ground.data }], none⟩) (j := 5) (by decide) hLi hall.1 hall.2 rfl rfl
   exact steps hops rfl rfl hex hC
  ·obtain rfl:=Option.some.inj ho
   exact zC hops rfl (iy (cs:=[.int .i64 8, .bool true]) (ps:=[(0, .int .i64 8),(1, .bool true)]) Tryz.zeroValue29 Tryz.runUnderlying29 (pl:=#[(0,1),(1,1)]) (fun w=>by simp [Tryz.sizeOf3,Tryz.sizeOf4]) (oD rfl rfl) rfl) (C.build (j:=6) (by decide))
  ·obtain rfl:=Option.some.inj ho
   simp [Region.binds] at hall
   obtain ⟨w', hex, hC⟩ := C.insert (o := ⟨none, .insert 178 (.tmp 1) (.tmp 8) (.func 141), 0, "bits.go:22", #[{ on := 0, ground := Ground.data }, { on := 13, ground := Ground.data }], none⟩) (j := 6) (by decide) hLi hall.1 hall.2 rfl rfl
   exact steps hops rfl rfl hex hC
  ·obtain rfl:=Option.some.inj ho
   exact zC hops rfl (iy (cs:=[.int .i64 8, .bool false]) (ps:=[(0, .int .i64 8)]) Tryz.zeroValue29 Tryz.runUnderlying29 (pl:=#[(0,1),(1,1)]) (fun w=>by simp [Tryz.sizeOf3,Tryz.sizeOf4]) (jM rfl) rfl) (C.build (j:=7) (by decide))
  ·obtain rfl:=Option.some.inj ho
   simp [Region.binds] at hall
   obtain ⟨w', hex, hC⟩ := C.insert (o := ⟨none, .insert 178 (.tmp 1) (.tmp 9) (.func 142), 0, "bits.go:22", #[{ on := 0, ground := Ground.data }, { on := 15, ground := Ground.data }], none⟩) (j := 7) (by decide) hLi hall.1 hall.2 rfl rfl
   exact steps hops rfl rfl hex hC
  ·obtain rfl:=Option.some.inj ho
   simp [Region.binds] at hall
   obtain ⟨b,es,cl,ks,h1,h2,h3,h4,h5,h6⟩:=C.some_ hall.1
   refine zC hops rfl (v:= .map (some b)) (w':=w) (aJ h1)<|Nz.mk (by simp [Act.put,C.defers]) (by simp [Act.put,C.size]) (fun q hq hL=>?_) (fun h=>by rw [upd_ne (by omega),hall.1] at h;cases h) (fun _=>⟨b,es,cl,ks,?_,h2,fun q hq=>by rw [upd_ne (by omega)];exact h3 q hq,h4,fun _=>?_,fun h=>?_⟩)
   ·rw [upd_ne (by omega)] at hL
    show (a.put (some 10) _).tmps.getD _ undef=_
    rw [jy (WS hq)];exact C.built q hq hL
   ·exact (jy (by decide)).trans h1
   ·exact rC (by rw [C.size];decide)
   ·rw [upd_ne (by omega)] at h
    exact (jy (by decide)).trans (h6 h)
  ·obtain rfl:=Option.some.inj ho
   simp [Region.binds] at hall
   obtain ⟨b,es,cl,ks,h1,h2,h3,h4,h5,h6⟩:=C.some_ hall.2.1
   refine zC hops rfl (v:= .map (some b)) (w':=w) (aB (h5 hall.1))<|Nz.mk (by simp [Act.put,C.defers]) (by simp [Act.put,C.size]) (fun q hq hL=>?_) (fun h=>by rw [upd_ne (by omega),hall.2.1] at h;cases h) (fun _=>⟨b,es,cl,ks,?_,h2,fun q hq=>by rw [upd_ne (by omega)];exact h3 q hq,h4,fun h=>?_,fun _=>?_⟩)
   ·rw [upd_ne (by omega)] at hL
    show (a.put (some 0) _).tmps.getD _ undef=_
    rw [jy Yw];exact C.built q hq hL
   ·exact (jy (by decide)).trans h1
   ·rw [upd_ne (by omega)] at h
    exact (jy (by decide)).trans (h5 h)
   ·exact rC (by rw [C.size];decide)
 ·intro L a w C hall
  obtain ⟨b,es,cl,ks,h1,h2,h3,h4,h5,h6⟩:=C.some_ (hall 0 (by decide))
  exact ak<|wp_ret<|bodyPost_ret (aV rfl (aX (h6 (hall 18 (by decide))))) C.defers<|⟨b,es,cl,ks,rfl,h2.ge,h2.at_,h2.keys,all_keys (fun j hj=>(h3 j hj).1 (hall (2*j+2) (by show 2*j+2<19;omega))) h4,h2.ext⟩
end Go.Proofs.YtecpbadkdpbkpaaGreatDoor
/-bits.Check:which integer types are valid. -/
namespace Go.Proofs.YtecpbadkdpbkpaaGreatDoor
open Go.RowKit Go.M
def jq.f (a0:dL):Option Int:=some (if okI a0=true then 0 else 10)
theorem ND {P:Program} {ρ:Operand→Value} {w:World} {dst:Option Tmp} {ty:TypeId} {pos:String} {after:Array Edge} {guard:Option (Nat×Bool)} {xt:TypeId} {x y:Operand} {b:Nat} {k v:Value} (hx:ρ x= .map (some b)) (hy:ρ y=k)
  (h:(Instr.lookup xt (.map (some b)) k true).run P w= .ok v w):(execOp ρ ⟨dst, .lookup xt x y true,ty,pos,after,guard⟩).run P w= .ok (.value v) w:=by
 simp [execOp,hx,hy,h]
set_option maxRecDepth 20000 in
set_option maxHeartbeats 4000000 in
theorem jq.calls (a0:dL) {h0:View} {w0:World} (hv:jL h0 w0) {r:Int} (H:jq.f a0=some r):Calls Tryz.prog 56 #[Value.agg #[vI a0.aP,vB a0.aN]] w0 (fun e w1=>e= .returned (vI r)∧Ext w0 w1):=by
 unfold jq.f at H
 obtain rfl:=Option.some.inj H
 have HS:St [] h0 w0 h0 [] w0:=St.init hv
 go_enter Tryz.func56,Tryz.ntmps56
 refine wp_seq<|region<|dU rfl rfl (dY (cs:=#[vI a0.aP,vB a0.aN]) rfl rfl) ?_
 rintro w1 _ hE1 ⟨b1,rfl,ge1,hb1⟩
 have HS1:=HS.new hE1 ge1 hb1
 refine rs (vI 0) (aB rfl) ?_
 try simp only [sc0,sc1]
 refine aA<|ak<|wp_seq<|wp_seq<|uq [([7],[1]),([8,5,9,10,3,4],[1,2,3,4,5,6,7])] [0] [[],[],[0,1],[0,1,2],[0,1,2,3],[0,1,2,3],[0,1,2,3,4],[0,1,2,3,4,5,6]] lW (by kernel_rfl) ?_
 intro w2 hE2
 have HS2:=HS1.step hE2
 refine vC [jF a0] ?_ rfl rfl ?_
 ·simp only [patch,sc0,sc1]
  exact gK (gQ (v:=jF a0) rfl rfl rfl rfl (aZ (n:=2) (vs:=[vI a0.aP,vB a0.aN]) rfl Tryz.isAgg29 (HS2.look 0 rfl) Tryz.sizeOf29 rfl rfl)) qJ
 simp only [patch,sc0,sc1]
 refine qI (vs:=[]) (caps:=[]) Tryz.call90 rfl rfl rH.calls ?_
 rintro _ w3 ⟨b2,es,cl,ks,rfl,hge,hb,hk,hok,hE3⟩
 refine ⟨_,rfl,?_⟩
 refine Hg ?_
 try simp only [sc0,sc1]
 have HS3:=HS2.step hE3
 obtain ⟨v,hlk⟩:=O6 Yp a0 hk.keys Tryz.runUnderlying178 Tryz.zeroValue176 hb
 rw [hok a0] at hlk
 refine wH [.tuple #[v, .bool (okI a0)], .tuple #[v, .bool (okI a0)],v, .bool (okI a0),v, .bool (okI a0)] ?_ ?_
 ·simp only [patch,sc0,sc1]
  exact gK (gQ (v:=jF a0) rfl rfl rfl rfl (aZ (n:=2) (vs:=[vI a0.aP,vB a0.aN]) rfl Tryz.isAgg29 (HS3.look 0 rfl) Tryz.sizeOf29 rfl rfl)) (gK (gQ (v:= .tuple #[v, .bool (okI a0)]) rfl rfl rfl rfl (ND rfl rfl hlk))
   (gK (gQ rfl rfl rfl rfl (aJ rfl)) (gK (gQ rfl rfl rfl rfl (fF rfl rfl)) (gK (gQ rfl rfl rfl rfl (fF rfl rfl)) (gK (gQ rfl rfl rfl rfl (aB rfl)) (gK (gQ rfl rfl rfl rfl (aB rfl)) qJ))))))
 simp only [patch,sc0,sc1]
 refine ak<|wp_seq<|region<|rs (vB (okI a0)) (aJ rfl)<|rs (vB (!(okI a0))) (lK rfl) ?_
 try simp only [sc0,sc1]
 refine aA<|ak<|wp_cond_split (t:= !(okI a0)) rfl (fun c1=>?_) (fun c1=>?_)
 ·refine wp_seq<|region<|rs (vI 10) (aB rfl) ?_
  try simp only [sc0,sc1]
  refine aA<|ak<|wp_ret<|aW<|bodyPost_ret (aV rfl (aX rfl)) rfl ?_
  have:okI a0=false:=by simpa using c1
  rw [this]
  exact ⟨rfl,HS3.toE⟩
 ·refine wp_skip<|ak<|wp_seq<|region<|rs (vI 0) (aB rfl) ?_
  try simp only [sc0,sc1]
  refine aA<|ak<|wp_ret<|bodyPost_ret (aV rfl (aX rfl)) rfl ?_
  have:okI a0=true:=by simpa using c1
  rw [this]
  exact ⟨rfl,HS3.toE⟩
end Go.Proofs.YtecpbadkdpbkpaaGreatDoor
namespace Go.Proofs.YtecpbadkdpbkpaaGreatDoor
open Go.RowKit Go.M
def oh.f:Option ((List (Int×dR))):=some (eU ieq (eU ieq (eU ieq (eU ieq (eU ieq (eU ieq ([]:List (Int×dR)) 1 (⟨true,true,false,false,false⟩:dR)) 2 (⟨false,false,true,false,false⟩:dR)) 3 (⟨false,false,true,true,false⟩:dR)) 4 (⟨true,false,false,true,true⟩:dR)) 5 (⟨true,false,false,false,true⟩:dR)) 6 (⟨true,false,true,false,false⟩:dR))
set_option maxRecDepth 20000 in
set_option maxHeartbeats 4000000 in
theorem oh.calls {h0:View} {w0:World} (hv:jL h0 w0) {r:(List (Int×dR))} (H:oh.f=some r):Calls Tryz.prog 156 #[] w0 (fun e w1=>∃(b:Nat) (es:Array MapEntry) (cl:Nat),e= .returned (.map (some b))∧(w0.heap.size≤b∧w1.heap[b]?=some (.map es cl))∧pV (vI) jU r es cl∧Ext w0 w1):=by
 unfold oh.f at H
 have HS:St [] h0 w0 h0 [] w0:=St.init hv
 go_enter Tryz.func156,Tryz.ntmps156
 refine wp_seq<|region<|rs (Value.map none) (aB rfl) ?_
 try simp only [sc0,sc1]
 refine aA<|ak<|wp_seq<|region<|uY HS ?_
 intro w1 b1 HS1
 refine rs (Value.agg #[vB true,vB true,vB false,vB false,vB false]) (iy (cs:=[vB true,vB true,vB false,vB false,vB false]) (ps:=[(0,vB true),(1,vB true)]) Tryz.zeroValue243 Tryz.runUnderlying243 (pl:=#[(0,1),(1,1),(2,1),(3,1),(4,1)]) (fun w=>by simp [Tryz.sizeOf4]) (oD (show _=vB true from rfl) (show _=vB true from rfl)) rfl) ?_
 refine Hf (lY Tryz.runUnderlying3) (i:=0) (k:=1) (v:=(⟨true,true,false,false,false⟩:dR)) (ev:=jU) (m:=([]:List (Int×dR))) (by first|exact .inl rfl|exact .inr rfl) rfl rfl rfl rfl rfl Tryz.runUnderlying245 HS1 rfl (pV.nil) ?_
 intro w2 es1 cl1 HS2 ho1
 refine rs (Value.agg #[vB false,vB false,vB true,vB false,vB false]) (iy (cs:=[vB false,vB false,vB true,vB false,vB false]) (ps:=[(2,vB true)]) Tryz.zeroValue243 Tryz.runUnderlying243 (pl:=#[(0,1),(1,1),(2,1),(3,1),(4,1)]) (fun w=>by simp [Tryz.sizeOf4]) (jM (show _=vB true from rfl)) rfl) ?_
 refine aI (by simp only [sc0,sc1];rfl) ?_
 refine Hf (lY Tryz.runUnderlying3) (i:=0) (k:=2) (v:=(⟨false,false,true,false,false⟩:dR)) (ev:=jU) (m:=(eU ieq ([]:List (Int×dR)) 1 (⟨true,true,false,false,false⟩:dR))) (by first|exact .inl rfl|exact .inr rfl) rfl rfl rfl rfl rfl Tryz.runUnderlying245 HS2 rfl ho1 ?_
 intro w3 es2 cl2 HS3 ho2
 refine rs (Value.agg #[vB false,vB false,vB true,vB true,vB false]) (iy (cs:=[vB false,vB false,vB true,vB true,vB false]) (ps:=[(2,vB true),(3,vB true)]) Tryz.zeroValue243 Tryz.runUnderlying243 (pl:=#[(0,1),(1,1),(2,1),(3,1),(4,1)]) (fun w=>by simp [Tryz.sizeOf4]) (oD (show _=vB true from rfl) (show _=vB true from rfl)) rfl) ?_
 refine Hf (lY Tryz.runUnderlying3) (i:=0) (k:=3) (v:=(⟨false,false,true,true,false⟩:dR)) (ev:=jU) (m:=(eU ieq (eU ieq ([]:List (Int×dR)) 1 (⟨true,true,false,false,false⟩:dR)) 2 (⟨false,false,true,false,false⟩:dR))) (by first|exact .inl rfl|exact .inr rfl) rfl rfl rfl rfl rfl Tryz.runUnderlying245 HS3 rfl ho2 ?_
 intro w4 es3 cl3 HS4 ho3
 refine rs (Value.agg #[vB true,vB false,vB false,vB true,vB true]) (iy (cs:=[vB true,vB false,vB false,vB true,vB true]) (ps:=[(0,vB true),(3,vB true),(4,vB true)]) Tryz.zeroValue243 Tryz.runUnderlying243 (pl:=#[(0,1),(1,1),(2,1),(3,1),(4,1)]) (fun w=>by simp [Tryz.sizeOf4]) (RP (show _=vB true from rfl) (show _=vB true from rfl) (show _=vB true from rfl)) rfl) ?_
 refine aI (by simp only [sc0,sc1];rfl) ?_
 refine Hf (lY Tryz.runUnderlying3) (i:=0) (k:=4) (v:=(⟨true,false,false,true,true⟩:dR)) (ev:=jU) (m:=(eU ieq (eU ieq (eU ieq ([]:List (Int×dR)) 1 (⟨true,true,false,false,false⟩:dR)) 2 (⟨false,false,true,false,false⟩:dR)) 3 (⟨false,false,true,true,false⟩:dR))) (by first|exact .inl rfl|exact .inr rfl) rfl rfl rfl rfl rfl Tryz.runUnderlying245 HS4 rfl ho3 ?_
 intro w5 es4 cl4 HS5 ho4
 refine rs (Value.agg #[vB true,vB false,vB false,vB false,vB true]) (iy (cs:=[vB true,vB false,vB false,vB false,vB true]) (ps:=[(0,vB true),(4,vB true)]) Tryz.zeroValue243 Tryz.runUnderlying243 (pl:=#[(0,1),(1,1),(2,1),(3,1),(4,1)]) (fun w=>by simp [Tryz.sizeOf4]) (oD (show _=vB true from rfl) (show _=vB true from rfl)) rfl) ?_
 refine Hf (lY Tryz.runUnderlying3) (i:=0) (k:=5) (v:=(⟨true,false,false,false,true⟩:dR)) (ev:=jU) (m:=(eU ieq (eU ieq (eU ieq (eU ieq ([]:List (Int×dR)) 1 (⟨true,true,false,false,false⟩:dR)) 2 (⟨false,false,true,false,false⟩:dR)) 3 (⟨false,false,true,true,false⟩:dR)) 4 (⟨true,false,false,true,true⟩:dR))) (by first|exact .inl rfl|exact .inr rfl) rfl rfl rfl rfl rfl Tryz.runUnderlying245 HS5 rfl ho4 ?_
 intro w6 es5 cl5 HS6 ho5
 refine rs (Value.agg #[vB true,vB false,vB true,vB false,vB false]) (iy (cs:=[vB true,vB false,vB true,vB false,vB false]) (ps:=[(0,vB true),(2,vB true)]) Tryz.zeroValue243 Tryz.runUnderlying243 (pl:=#[(0,1),(1,1),(2,1),(3,1),(4,1)]) (fun w=>by simp [Tryz.sizeOf4]) (oD (show _=vB true from rfl) (show _=vB true from rfl)) rfl) ?_
 refine aI (by simp only [sc0,sc1];rfl) ?_
 refine Hf (lY Tryz.runUnderlying3) (i:=0) (k:=6) (v:=(⟨true,false,true,false,false⟩:dR)) (ev:=jU) (m:=(eU ieq (eU ieq (eU ieq (eU ieq (eU ieq ([]:List (Int×dR)) 1 (⟨true,true,false,false,false⟩:dR)) 2 (⟨false,false,true,false,false⟩:dR)) 3 (⟨false,false,true,true,false⟩:dR)) 4 (⟨true,false,false,true,true⟩:dR)) 5 (⟨true,false,false,false,true⟩:dR))) (by first|exact .inl rfl|exact .inr rfl) rfl rfl rfl rfl rfl Tryz.runUnderlying245 HS6 rfl ho5 ?_
 intro w7 es6 cl6 HS7 ho6
 refine rs (Value.map (some b1)) (aJ rfl)<|rs (Value.map (some b1)) (aB rfl) ?_
 try simp only [sc0,sc1]
 refine aA<|ak<|wp_ret ?_
 obtain rfl:=Option.some.inj H
 exact bodyPost_ret (aV rfl (aX rfl)) rfl<|⟨b1,es6,cl6,rfl,HS7.fresh 0 rfl,ho6,HS7.toE⟩

end Go.Proofs.YtecpbadkdpbkpaaGreatDoor
namespace Go.Proofs.YtecpbadkdpbkpaaGreatDoor
open Go.RowKit Go.M
def fZ.l0 (a0:ByteArray):Nat→Int→Option ((Bool)⊕(Unit))
 |0,_=>none
 |m+1,aG=>if (decide (aG<((bytesOf a0).length:Int)))=true then (if 0≤aG∧aG<(bytesOf a0).length then (if ((!((((decide ((rd 0 (bytesOf a0) aG)≥97))&&(decide ((rd 0 (bytesOf a0) aG)≤122)))||((decide ((rd 0 (bytesOf a0) aG)≥65))&&(decide ((rd 0 (bytesOf a0) aG)≤90))))||((rd 0 (bytesOf a0) aG)==95)))&&(((aG==0)||(decide ((rd 0 (bytesOf a0) aG)<48)))||(decide ((rd 0 (bytesOf a0) aG)>57))))=true then (some (.inl false)) else (fZ.l0 a0 m (IntKind.wrap .i64 (aG+1)))) else none) else (some (.inr ()))
def fZ.f (k:Nat) (a0:ByteArray):Option (Bool):=if a0.size≤9223372036854775807 then ((fZ.l0 a0 k 0).bind fun xx1=>(match xx1 with| .inl r=>some r| .inr s1=>some ((!(strEq a0 ByteArray.empty))&&(decide ((a0.size:Int)≤31))))) else none
set_option maxRecDepth 20000 in
set_option maxHeartbeats 4000000 in
theorem fZ.calls (k:Nat) (a0:ByteArray) {h0:View} {w0:World} (hv:jL h0 w0) {r:Bool} (H:fZ.f k a0=some r):Calls Tryz.prog 157 #[vS a0] w0 (fun e w1=>e= .returned (vB r)∧Ext w0 w1):=by
 unfold fZ.f at H
 have HS:St [] h0 w0 h0 [] w0:=St.init hv
 go_enter Tryz.func157,Tryz.ntmps157
 refine wp_seq<|region<|rs (vB false) (aB rfl) ?_
 try simp only [sc0,sc1]
 refine aA<|ak<|wp_seq<|wp_seq<|region<|rs (vS a0) (aJ rfl) ?_
 obtain ⟨hl1,H⟩:=eG H
 refine RV (s:=a0) rfl Tryz.runUnderlying9 Tryz.runUnderlying42 Tryz.runUnderlying5 hl1 HS ?_
 intro w1 h1 As1 cs1 HS1 sb1 hcs1 aah
 refine rs (vI ((bytesOf a0).length:Int)) (jJ rfl Tryz.runUnderlying42)<|rs (vI 0) (aJ rfl) ?_
 try simp only [sc0,sc1]
 refine aA<|ak ?_
 obtain ⟨xx1,H,G1⟩:=bJ H
 refine jm [2,3,4,5,9,10,11,12,13,14,15,16,17,18,19,20,21,22,23,24,25,26,27,28,29,30,31,32,33,34,35,36,37,38,39,40,41,42,43,44,45,46] (fun m us w'=>∃(aG:Int),Fit us (fun uy1=>[(uy1 0),(uy1 1),(uy1 2),(uy1 3),vI aG,(uy1 5),(uy1 6),(uy1 7),(uy1 8),(uy1 9),(uy1 10),(uy1 11),(uy1 12),(uy1 13),(uy1 14),(uy1 15),(uy1 16),(uy1 17),(uy1 18),(uy1 19),(uy1 20),(uy1 21),(uy1 22),(uy1 23),(uy1 24),(uy1 25),(uy1 26),(uy1 27),(uy1 28),(uy1 29),(uy1 30),(uy1 31),(uy1 32),(uy1 33),(uy1 34),(uy1 35),(uy1 36),(uy1 37),(uy1 38),(uy1 39),(uy1 40),(uy1 41)])∧fZ.l0 a0 m aG=some xx1∧St [] h0 w0 h1 [] w') (fun us w'=>∃(s1:Unit),xx1= .inr s1∧Fit us (fun uo1=>[(uo1 0),(uo1 1),(uo1 2),(uo1 3),(uo1 4),(uo1 5),(uo1 6),(uo1 7),(uo1 8),(uo1 9),(uo1 10),(uo1 11),(uo1 12),(uo1 13),(uo1 14),(uo1 15),(uo1 16),(uo1 17),(uo1 18),(uo1 19),(uo1 20),(uo1 21),(uo1 22),(uo1 23),(uo1 24),(uo1 25),(uo1 26),(uo1 27),(uo1 28),(uo1 29),(uo1 30),(uo1 31),(uo1 32),(uo1 33),(uo1 34),(uo1 35),(uo1 36),(uo1 37),(uo1 38),(uo1 39),(uo1 40),(uo1 41)])∧St [] h0 w0 h1 [] w') k ⟨0,(fit rfl),H,HS1⟩ ?_ ?_
 ·rintro m us w2 ⟨aG,ng,H,HS2⟩
  obtain ⟨uy1,rfl⟩:=unj ng
  cases m with
  |zero=>exact absurd H (by simp [fZ.l0])
  |succ m=>
   rw [fZ.l0] at H
   try simp only [patch,sc0,sc1]
   refine wp_seq<|region<|rs (vB (decide (aG<((bytesOf a0).length:Int)))) (bK rfl rfl rfl) ?_
   try simp only [sc0,sc1]
   refine aA<|ak<|wp_seq<|wp_cond_split (t:=(decide (aG<((bytesOf a0).length:Int)))) rfl (fun c1=>?_) (fun c1=>?_)
   ·replace H:=bM H c1
    refine wp_skip<|ak<|wp_seq<|wp_block<|wp_seq<|region<|rs (vI aG) (aJ rfl) ?_
    obtain ⟨hi1,H⟩:=eG H
    obtain ⟨ad1,e1,lu⟩:=rF aah hi1.1 hi1.2
    refine rs (Value.pointer (some (Addr.add ad1 (aG.toNat*1)))) (dP (sz:=1) rfl e1 rfl hi1.1 hi1.2 Tryz.runUnderlying42 Tryz.sizeOf5)<|rs (Value.int .u8 (rd 0 (bytesOf a0) aG)) (jC rfl Tryz.isAgg5 (lu.cell0 HS2.sees rfl))<|rs (vI aG) (aB rfl)<|aI (by simp only [sc0,sc1];rfl) ?_
    refine rs (Value.int .u8 (rd 0 (bytesOf a0) aG)) (aB rfl) ?_
    try simp only [sc0,sc1]
    refine aA<|ak<|wp_seq<|region<|rs (Value.int .u8 (rd 0 (bytesOf a0) aG)) (aJ rfl)<|rs (vB (decide ((rd 0 (bytesOf a0) aG)≥97))) (bK rfl rfl rfl)<|rs (vB (decide ((rd 0 (bytesOf a0) aG)≥97))) (aJ rfl)<|rgs (decide ((rd 0 (bytesOf a0) aG)≥97)) true (Value.int .u8 (rd 0 (bytesOf a0) aG)) rfl rfl rfl rfl (fun hg=>(aJ rfl))<|aI (by simp only [sc0,sc1];rfl) ?_
    refine rgs (decide ((rd 0 (bytesOf a0) aG)≥97)) true (vB (decide ((rd 0 (bytesOf a0) aG)≤122))) rfl rfl rfl rfl (fun hg=>(bK (gvt (Value.int .u8 (rd 0 (bytesOf a0) aG)) hg rfl) rfl rfl))<|rs (vB ((decide ((rd 0 (bytesOf a0) aG)≥97))&&(decide ((rd 0 (bytesOf a0) aG)≤122)))) (dA rfl (fun hp=>(gvt (vB (decide ((rd 0 (bytesOf a0) aG)≤122))) (gu rfl hp) rfl)) rfl)<|rs (vB ((decide ((rd 0 (bytesOf a0) aG)≥97))&&(decide ((rd 0 (bytesOf a0) aG)≤122)))) (aJ rfl)<|rgs ((decide ((rd 0 (bytesOf a0) aG)≥97))&&(decide ((rd 0 (bytesOf a0) aG)≤122))) true (Value.int .u8 (rd 0 (bytesOf a0) aG)) rfl rfl rfl rfl (fun hg=>(aJ rfl))<|aI (by simp only [sc0,sc1];rfl) ?_
    refine rgs ((decide ((rd 0 (bytesOf a0) aG)≥97))&&(decide ((rd 0 (bytesOf a0) aG)≤122))) true (vB (decide ((rd 0 (bytesOf a0) aG)≥65))) rfl rfl rfl rfl (fun hg=>(bK (gvt (Value.int .u8 (rd 0 (bytesOf a0) aG)) hg rfl) rfl rfl))<|rgs ((decide ((rd 0 (bytesOf a0) aG)≥97))&&(decide ((rd 0 (bytesOf a0) aG)≤122))) true (vB (decide ((rd 0 (bytesOf a0) aG)≥65))) rfl rfl rfl rfl (fun hg=>(aJ (gvt (vB (decide ((rd 0 (bytesOf a0) aG)≥65))) hg rfl)))<|rgs (decide ((rd 0 (bytesOf a0) aG)≥65)) (true&&(((decide ((rd 0 (bytesOf a0) aG)≥97))&&(decide ((rd 0 (bytesOf a0) aG)≤122)))==false)) (Value.int .u8 (rd 0 (bytesOf a0) aG)) rfl rfl rfl rfl (fun hg=>(aJ rfl))<|rgs (decide ((rd 0 (bytesOf a0) aG)≥65)) (true&&(((decide ((rd 0 (bytesOf a0) aG)≥97))&&(decide ((rd 0 (bytesOf a0) aG)≤122)))==false)) (vB (decide ((rd 0 (bytesOf a0) aG)≤90))) rfl rfl rfl rfl (fun hg=>(bK (gvt (Value.int .u8 (rd 0 (bytesOf a0) aG)) hg rfl) rfl rfl))<|aI (by simp only [sc0,sc1];rfl) ?_
    refine rgs ((decide ((rd 0 (bytesOf a0) aG)≥97))&&(decide ((rd 0 (bytesOf a0) aG)≤122))) true (vB ((decide ((rd 0 (bytesOf a0) aG)≥65))&&(decide ((rd 0 (bytesOf a0) aG)≤90)))) rfl rfl rfl rfl (fun hg=>(dA (gvt (vB (decide ((rd 0 (bytesOf a0) aG)≥65))) hg rfl) (fun hp=>(gvt (vB (decide ((rd 0 (bytesOf a0) aG)≤90))) (gu hg hp) rfl)) rfl))<|rs (vB (((decide ((rd 0 (bytesOf a0) aG)≥97))&&(decide ((rd 0 (bytesOf a0) aG)≤122)))||((decide ((rd 0 (bytesOf a0) aG)≥65))&&(decide ((rd 0 (bytesOf a0) aG)≤90))))) (dZ rfl rfl (fun hp=>(gvt (vB ((decide ((rd 0 (bytesOf a0) aG)≥65))&&(decide ((rd 0 (bytesOf a0) aG)≤90)))) (gu rfl hp) rfl)))<|rs (vB (((decide ((rd 0 (bytesOf a0) aG)≥97))&&(decide ((rd 0 (bytesOf a0) aG)≤122)))||((decide ((rd 0 (bytesOf a0) aG)≥65))&&(decide ((rd 0 (bytesOf a0) aG)≤90))))) (aJ rfl)<|rgs (((decide ((rd 0 (bytesOf a0) aG)≥97))&&(decide ((rd 0 (bytesOf a0) aG)≤122)))||((decide ((rd 0 (bytesOf a0) aG)≥65))&&(decide ((rd 0 (bytesOf a0) aG)≤90)))) true (Value.int .u8 (rd 0 (bytesOf a0) aG)) rfl rfl rfl rfl (fun hg=>(aJ rfl))<|aI (by simp only [sc0,sc1];rfl) ?_
    refine rgs (((decide ((rd 0 (bytesOf a0) aG)≥97))&&(decide ((rd 0 (bytesOf a0) aG)≤122)))||((decide ((rd 0 (bytesOf a0) aG)≥65))&&(decide ((rd 0 (bytesOf a0) aG)≤90)))) true (vB ((rd 0 (bytesOf a0) aG)==95)) rfl rfl rfl rfl (fun hg=>(bK (gvt (Value.int .u8 (rd 0 (bytesOf a0) aG)) hg rfl) rfl rfl))<|rs (vB ((((decide ((rd 0 (bytesOf a0) aG)≥97))&&(decide ((rd 0 (bytesOf a0) aG)≤122)))||((decide ((rd 0 (bytesOf a0) aG)≥65))&&(decide ((rd 0 (bytesOf a0) aG)≤90))))||((rd 0 (bytesOf a0) aG)==95))) (dZ rfl rfl (fun hp=>(gvt (vB ((rd 0 (bytesOf a0) aG)==95)) (gu rfl hp) rfl)))<|rs (vB ((((decide ((rd 0 (bytesOf a0) aG)≥97))&&(decide ((rd 0 (bytesOf a0) aG)≤122)))||((decide ((rd 0 (bytesOf a0) aG)≥65))&&(decide ((rd 0 (bytesOf a0) aG)≤90))))||((rd 0 (bytesOf a0) aG)==95))) (aB rfl) ?_
    try simp only [sc0,sc1]
    refine aA<|ak<|wp_seq<|region<|rs (vB ((((decide ((rd 0 (bytesOf a0) aG)≥97))&&(decide ((rd 0 (bytesOf a0) aG)≤122)))||((decide ((rd 0 (bytesOf a0) aG)≥65))&&(decide ((rd 0 (bytesOf a0) aG)≤90))))||((rd 0 (bytesOf a0) aG)==95))) (aJ rfl)<|rs (vB (!((((decide ((rd 0 (bytesOf a0) aG)≥97))&&(decide ((rd 0 (bytesOf a0) aG)≤122)))||((decide ((rd 0 (bytesOf a0) aG)≥65))&&(decide ((rd 0 (bytesOf a0) aG)≤90))))||((rd 0 (bytesOf a0) aG)==95)))) (lK rfl)<|rs (vB (!((((decide ((rd 0 (bytesOf a0) aG)≥97))&&(decide ((rd 0 (bytesOf a0) aG)≤122)))||((decide ((rd 0 (bytesOf a0) aG)≥65))&&(decide ((rd 0 (bytesOf a0) aG)≤90))))||((rd 0 (bytesOf a0) aG)==95)))) (aJ rfl)<|rgs (!((((decide ((rd 0 (bytesOf a0) aG)≥97))&&(decide ((rd 0 (bytesOf a0) aG)≤122)))||((decide ((rd 0 (bytesOf a0) aG)≥65))&&(decide ((rd 0 (bytesOf a0) aG)≤90))))||((rd 0 (bytesOf a0) aG)==95))) true (vI aG) rfl rfl rfl rfl (fun hg=>(aJ rfl))<|aI (by simp only [sc0,sc1];rfl) ?_
    refine rgs (!((((decide ((rd 0 (bytesOf a0) aG)≥97))&&(decide ((rd 0 (bytesOf a0) aG)≤122)))||((decide ((rd 0 (bytesOf a0) aG)≥65))&&(decide ((rd 0 (bytesOf a0) aG)≤90))))||((rd 0 (bytesOf a0) aG)==95))) true (vB (aG==0)) rfl rfl rfl rfl (fun hg=>(bK (gvt (vI aG) hg rfl) rfl rfl))<|rgs (!((((decide ((rd 0 (bytesOf a0) aG)≥97))&&(decide ((rd 0 (bytesOf a0) aG)≤122)))||((decide ((rd 0 (bytesOf a0) aG)≥65))&&(decide ((rd 0 (bytesOf a0) aG)≤90))))||((rd 0 (bytesOf a0) aG)==95))) true (vB (aG==0)) rfl rfl rfl rfl (fun hg=>(aJ (gvt (vB (aG==0)) hg rfl)))<|rgs (aG==0) (true&&((!((((decide ((rd 0 (bytesOf a0) aG)≥97))&&(decide ((rd 0 (bytesOf a0) aG)≤122)))||((decide ((rd 0 (bytesOf a0) aG)≥65))&&(decide ((rd 0 (bytesOf a0) aG)≤90))))||((rd 0 (bytesOf a0) aG)==95)))==true)) (Value.int .u8 (rd 0 (bytesOf a0) aG)) rfl rfl rfl rfl (fun hg=>(aJ rfl))<|rgs (aG==0) (true&&((!((((decide ((rd 0 (bytesOf a0) aG)≥97))&&(decide ((rd 0 (bytesOf a0) aG)≤122)))||((decide ((rd 0 (bytesOf a0) aG)≥65))&&(decide ((rd 0 (bytesOf a0) aG)≤90))))||((rd 0 (bytesOf a0) aG)==95)))==true)) (vB (decide ((rd 0 (bytesOf a0) aG)<48))) rfl rfl rfl rfl (fun hg=>(bK (gvt (Value.int .u8 (rd 0 (bytesOf a0) aG)) hg rfl) rfl rfl))<|aI (by simp only [sc0,sc1];rfl) ?_
    refine rgs (!((((decide ((rd 0 (bytesOf a0) aG)≥97))&&(decide ((rd 0 (bytesOf a0) aG)≤122)))||((decide ((rd 0 (bytesOf a0) aG)≥65))&&(decide ((rd 0 (bytesOf a0) aG)≤90))))||((rd 0 (bytesOf a0) aG)==95))) true (vB ((aG==0)||(decide ((rd 0 (bytesOf a0) aG)<48)))) rfl rfl rfl rfl (fun hg=>(dZ (gvt (vB (aG==0)) hg rfl) rfl (fun hp=>(gvt (vB (decide ((rd 0 (bytesOf a0) aG)<48))) (gu hg hp) rfl))))<|rgs (!((((decide ((rd 0 (bytesOf a0) aG)≥97))&&(decide ((rd 0 (bytesOf a0) aG)≤122)))||((decide ((rd 0 (bytesOf a0) aG)≥65))&&(decide ((rd 0 (bytesOf a0) aG)≤90))))||((rd 0 (bytesOf a0) aG)==95))) true (vB ((aG==0)||(decide ((rd 0 (bytesOf a0) aG)<48)))) rfl rfl rfl rfl (fun hg=>(aJ (gvt (vB ((aG==0)||(decide ((rd 0 (bytesOf a0) aG)<48)))) hg rfl)))<|rgs ((aG==0)||(decide ((rd 0 (bytesOf a0) aG)<48))) (true&&((!((((decide ((rd 0 (bytesOf a0) aG)≥97))&&(decide ((rd 0 (bytesOf a0) aG)≤122)))||((decide ((rd 0 (bytesOf a0) aG)≥65))&&(decide ((rd 0 (bytesOf a0) aG)≤90))))||((rd 0 (bytesOf a0) aG)==95)))==true)) (Value.int .u8 (rd 0 (bytesOf a0) aG)) rfl rfl rfl rfl (fun hg=>(aJ rfl))<|rgs ((aG==0)||(decide ((rd 0 (bytesOf a0) aG)<48))) (true&&((!((((decide ((rd 0 (bytesOf a0) aG)≥97))&&(decide ((rd 0 (bytesOf a0) aG)≤122)))||((decide ((rd 0 (bytesOf a0) aG)≥65))&&(decide ((rd 0 (bytesOf a0) aG)≤90))))||((rd 0 (bytesOf a0) aG)==95)))==true)) (vB (decide ((rd 0 (bytesOf a0) aG)>57))) rfl rfl rfl rfl (fun hg=>(bK (gvt (Value.int .u8 (rd 0 (bytesOf a0) aG)) hg rfl) rfl rfl))<|aI (by simp only [sc0,sc1];rfl) ?_
    refine rgs (!((((decide ((rd 0 (bytesOf a0) aG)≥97))&&(decide ((rd 0 (bytesOf a0) aG)≤122)))||((decide ((rd 0 (bytesOf a0) aG)≥65))&&(decide ((rd 0 (bytesOf a0) aG)≤90))))||((rd 0 (bytesOf a0) aG)==95))) true (vB (((aG==0)||(decide ((rd 0 (bytesOf a0) aG)<48)))||(decide ((rd 0 (bytesOf a0) aG)>57)))) rfl rfl rfl rfl (fun hg=>(dZ (gvt (vB ((aG==0)||(decide ((rd 0 (bytesOf a0) aG)<48)))) hg rfl) rfl (fun hp=>(gvt (vB (decide ((rd 0 (bytesOf a0) aG)>57))) (gu hg hp) rfl))))<|rs (vB ((!((((decide ((rd 0 (bytesOf a0) aG)≥97))&&(decide ((rd 0 (bytesOf a0) aG)≤122)))||((decide ((rd 0 (bytesOf a0) aG)≥65))&&(decide ((rd 0 (bytesOf a0) aG)≤90))))||((rd 0 (bytesOf a0) aG)==95)))&&(((aG==0)||(decide ((rd 0 (bytesOf a0) aG)<48)))||(decide ((rd 0 (bytesOf a0) aG)>57))))) (dA rfl (fun hp=>(gvt (vB (((aG==0)||(decide ((rd 0 (bytesOf a0) aG)<48)))||(decide ((rd 0 (bytesOf a0) aG)>57)))) (gu rfl hp) rfl)) rfl) ?_
    try simp only [sc0,sc1]
    refine aA<|ak<|wp_cond_split (t:=((!((((decide ((rd 0 (bytesOf a0) aG)≥97))&&(decide ((rd 0 (bytesOf a0) aG)≤122)))||((decide ((rd 0 (bytesOf a0) aG)≥65))&&(decide ((rd 0 (bytesOf a0) aG)≤90))))||((rd 0 (bytesOf a0) aG)==95)))&&(((aG==0)||(decide ((rd 0 (bytesOf a0) aG)<48)))||(decide ((rd 0 (bytesOf a0) aG)>57))))) rfl (fun c2=>?_) (fun c2=>?_)
    ·replace H:=bM H c2
     refine wp_seq<|region<|rs (vB false) (aB rfl) ?_
     try simp only [sc0,sc1]
     refine aA<|ak<|wp_ret<|dn<|aW<|gJ<|aW ?_
     obtain rfl:=Option.some.inj H
     obtain rfl:=Option.some.inj G1
     exact bodyPost_ret (aV rfl (aX rfl)) rfl<|⟨rfl,HS2.toE⟩
    ·replace H:=bW H (nt c2)
     refine wp_skip<|dI<|ak<|region<|rs (vI (w64 (aG+1))) (bK rfl rfl rfl)<|rs (vI (w64 (aG+1))) (aJ rfl) ?_
     try simp only [sc0,sc1]
     refine aA<|gZ m (Nat.lt_succ_self m) rfl ⟨(w64 (aG+1)),(fit rfl),H,HS2⟩
   ·replace H:=bW H (nt c1)
    refine wp_exit<|eY ?_
    obtain rfl:=Option.some.inj H
    refine iG rfl ⟨_,rfl,(fit rfl),HS2⟩
 ·rintro us w3 ⟨s1,rfl,ni,HS3⟩
  obtain ⟨uo1,rfl⟩:=unj ni
  replace H:=G1
  clear G1
  try simp only [patch,sc0,sc1]
  refine ak<|wp_seq<|region<|rs (vS a0) (aJ rfl)<|rs (vB (!(strEq a0 ByteArray.empty))) (BX rfl rfl)<|rs (vB (!(strEq a0 ByteArray.empty))) (aJ rfl)<|rgs (!(strEq a0 ByteArray.empty)) true (vS a0) rfl rfl rfl rfl (fun hg=>(aJ rfl))<|aI (by simp only [sc0,sc1];rfl) ?_
  refine rgs (!(strEq a0 ByteArray.empty)) true (vI (a0.size:Int)) rfl rfl rfl rfl (fun hg=>(yh (gvt (vS a0) hg rfl) Tryz.runUnderlying9))<|rgs (!(strEq a0 ByteArray.empty)) true (vB (decide ((a0.size:Int)≤31))) rfl rfl rfl rfl (fun hg=>(bK (gvt (vI (a0.size:Int)) hg rfl) rfl rfl))<|rs (vB ((!(strEq a0 ByteArray.empty))&&(decide ((a0.size:Int)≤31)))) (dA rfl (fun hp=>(gvt (vB (decide ((a0.size:Int)≤31))) (gu rfl hp) rfl)) rfl)<|rs (vB ((!(strEq a0 ByteArray.empty))&&(decide ((a0.size:Int)≤31)))) (aB rfl) ?_
  try simp only [sc0,sc1]
  refine aA<|ak<|wp_ret ?_
  obtain rfl:=Option.some.inj H
  exact bodyPost_ret (aV rfl (aX rfl)) rfl<|⟨rfl,HS3.toE⟩

end Go.Proofs.YtecpbadkdpbkpaaGreatDoor
namespace Go.Proofs.YtecpbadkdpbkpaaGreatDoor
open Go.RowKit Go.M
def fE.l0 (k:Nat) (a0:bF) (a1:Int):Nat→Int→(List (ByteArray×Bool))→Option ((Bool)⊕((List (ByteArray×Bool))))
 |0,_,_=>none
 |m+1,aG,dB=>if (decide (aG<(a0.au.length:Int)))=true then (if 0≤aG∧aG<a0.au.length then ((fZ.f k ((rd aj a0.au aG).aQ)).bind fun v4=>(if ((!v4)||((bn strEq dB ((rd aj a0.au aG).aQ)).getD false))=true then (some (.inl false)) else (if (((a0.aC==5)&&((((rd aj a0.au aG).vType !=0)||(decide ((rd aj a0.au aG).vAt<(-2147483648))))||(decide ((rd aj a0.au aG).vAt>2147483647))))||((a0.aC==4)&&((decide ((rd aj a0.au aG).vType<0))||(decide ((rd aj a0.au aG).vType≥a1)))))=true then (some (.inl false)) else (fE.l0 k a0 a1 m (IntKind.wrap .i64 (aG+1)) (eU strEq dB ((rd aj a0.au aG).aQ) true))))) else none) else (some (.inr dB))
def fE.f (k:Nat) (a0:bF) (a1:Int):Option (Bool):=(oh.f).bind fun v1=>(((if (!((bn ieq v1 a0.aC).isSome))=true then (some (!((bn ieq v1 a0.aC).isSome))) else ((if (true&&(((bn ieq v1 a0.aC).getD aF).jK==true))=true then fZ.f k a0.aQ else some false).bind fun v2=>(if (((bn ieq v1 a0.aC).getD aF).jK&&(!v2))=true then (some (((bn ieq v1 a0.aC).getD aF).jK&&(!v2))) else (some ((!(((bn ieq v1 a0.aC).getD aF).jK))&&(!(strEq a0.aQ ByteArray.empty))))))):Option (Bool)).bind fun xx1=>(if xx1=true then (some false) else ((if (true&&(((bn ieq v1 a0.aC).getD aF).pK==true))=true then jq.f a0.bG else some 0).bind fun v3=>(((if (((bn ieq v1 a0.aC).getD aF).pK&&(v3 !=0))=true then (some (((bn ieq v1 a0.aC).getD aF).pK&&(v3 !=0))) else (some ((!(((bn ieq v1 a0.aC).getD aF).pK))&&(!((a0.bG.aP==0)&&((a0.bG.aN==false)&&true)))))):Option (Bool)).bind fun xx2=>(if xx2=true then (some false) else (((if (((bn ieq v1 a0.aC).getD aF).oV&&((decide (a0.dM<0))||(decide (a0.dM≥a1))))=true then (some (((bn ieq v1 a0.aC).getD aF).oV&&((decide (a0.dM<0))||(decide (a0.dM≥a1))))) else (some ((!(((bn ieq v1 a0.aC).getD aF).oV))&&(a0.dM !=0)))):Option (Bool)).bind fun xx3=>(if xx3=true then (some false) else (((if (((bn ieq v1 a0.aC).getD aF).vn&&((decide (a0.vN<1))||(decide (a0.vN>512))))=true then (some (((bn ieq v1 a0.aC).getD aF).vn&&((decide (a0.vN<1))||(decide (a0.vN>512))))) else (some ((!(((bn ieq v1 a0.aC).getD aF).vn))&&(a0.vN !=0)))):Option (Bool)).bind fun xx4=>(if xx4=true then (some false) else (((if (((bn ieq v1 a0.aC).getD aF).iQ !=(decide ((a0.au.length:Int)>0)))=true then (some (((bn ieq v1 a0.aC).getD aF).iQ !=(decide ((a0.au.length:Int)>0)))) else (some (decide ((a0.au.length:Int)>32)))):Option (Bool)).bind fun xx5=>(if xx5=true then (some false) else ((fE.l0 k a0 a1 k 0 ([]:List (ByteArray×Bool))).bind fun xx6=>(match xx6 with| .inl r=>some r| .inr s1=>some true)))))))))))))
set_option maxRecDepth 20000 in
set_option maxHeartbeats 4000000 in
theorem fE.calls (k:Nat) (a0:bF) (a1:Int) (jS:Option Addr) (jT:Nat) {h0:View} {w0:World} (hv:jL h0 w0) (sK:Rd eH h0 jS a0.au) (yc:a0.au.length≤jT) {r:Bool} (H:fE.f k a0 a1=some r):Calls Tryz.prog 115 #[Value.agg #[vI a0.aC,vS a0.aQ,vI a0.bG.aP,vB a0.bG.aN,vI a0.dM,vI a0.vN,vL jS a0.au.length jT],vI a1] w0 (fun e w1=>e= .returned (vB r)∧Ext w0 w1):=by
 unfold fE.f at H
 have HS:St [] h0 w0 h0 [] w0:=St.init hv
 go_enter Tryz.func115,Tryz.ntmps115
 refine wp_seq<|region<|dU rfl rfl (dY (cs:=#[vI a0.aC,vS a0.aQ,vI a0.bG.aP,vB a0.bG.aN,vI a0.dM,vI a0.vN,vL jS a0.au.length jT]) rfl rfl) ?_
 rintro w1 _ hE1 ⟨b1,rfl,ge1,hb1⟩
 have HS1:=HS.new hE1 ge1 hb1
 refine rs (vB false) (aB rfl) ?_
 try simp only [sc0,sc1]
 refine aA<|ak<|wp_seq ?_
 obtain ⟨v1,H1,H⟩:=bJ H
 refine I5 [.ex (Ae w1 (vI) jU v1), .eq (vP b1 0), .eq (vI a0.aC), .eq (Value.tuple #[Value.agg #[vB (((bn ieq v1 a0.aC).getD aF).jK),vB (((bn ieq v1 a0.aC).getD aF).pK),vB (((bn ieq v1 a0.aC).getD aF).oV),vB (((bn ieq v1 a0.aC).getD aF).vn),vB (((bn ieq v1 a0.aC).getD aF).iQ)],vB ((bn ieq v1 a0.aC).isSome)]), .eq (Value.tuple #[Value.agg #[vB (((bn ieq v1 a0.aC).getD aF).jK),vB (((bn ieq v1 a0.aC).getD aF).pK),vB (((bn ieq v1 a0.aC).getD aF).oV),vB (((bn ieq v1 a0.aC).getD aF).vn),vB (((bn ieq v1 a0.aC).getD aF).iQ)],vB ((bn ieq v1 a0.aC).isSome)]), .eq (Value.agg #[vB (((bn ieq v1 a0.aC).getD aF).jK),vB (((bn ieq v1 a0.aC).getD aF).pK),vB (((bn ieq v1 a0.aC).getD aF).oV),vB (((bn ieq v1 a0.aC).getD aF).vn),vB (((bn ieq v1 a0.aC).getD aF).iQ)]), .eq (vB ((bn ieq v1 a0.aC).isSome)), .ex (nD w1 #[vB false,vB false,vB false,vB false,vB false] 243)] [11,12,13,14,10,15,16,5] 6 16 (vB ((bn ieq v1 a0.aC).isSome)) _ _ lW (by kernel_rfl) rfl rfl rfl rfl rfl (oC Ae.stable (aS (aS (aS (aS (aS (aS (oC nD.stable iP)))))))) ⟨aY rfl (fun a' w' hE hk=>by have HSd:=HS1.step hE;exact kP Tryz.call156 rfl (U5 hE (oh.calls HSd.sees H1)) rfl),aY rfl (fun a' w' hE hk=>by have HSd:=HS1.step hE;exact bI (aH (n:=1) (o':=0) (show _=vP b1 0 from hk 2 rfl) Tryz.runUnderlying56 rfl Tryz.sizeOf3 (by decide) rfl)),aY rfl (fun a' w' hE hk=>by have HSd:=HS1.step hE;exact bI (aK (show _=vP b1 0 from hk 12 rfl) Tryz.isAgg3 (HSd.look 0 rfl) rfl)),aY rfl (fun a' w' hE hk=>by obtain ⟨_,_,_,e11,_,aai,aaj⟩:=hk 11 rfl;have HSd:=HS1.step hE;exact bI (RU (lY Tryz.runUnderlying3) (k:=a0.aC) (m:=v1) (ev:=jU) aF e11 (show _=vI a0.aC from hk 13 rfl) Tryz.runUnderlying245 Tryz.zeroValue243 aai aaj)),aY rfl (fun a' w' hE hk=>by have HSd:=HS1.step hE;exact bI (aJ (show _=Value.tuple #[Value.agg #[vB (((bn ieq v1 a0.aC).getD aF).jK),vB (((bn ieq v1 a0.aC).getD aF).pK),vB (((bn ieq v1 a0.aC).getD aF).oV),vB (((bn ieq v1 a0.aC).getD aF).vn),vB (((bn ieq v1 a0.aC).getD aF).iQ)],vB ((bn ieq v1 a0.aC).isSome)] from hk 14 rfl))),aY rfl (fun a' w' hE hk=>by have HSd:=HS1.step hE;exact bI (fF (show _=Value.tuple #[Value.agg #[vB (((bn ieq v1 a0.aC).getD aF).jK),vB (((bn ieq v1 a0.aC).getD aF).pK),vB (((bn ieq v1 a0.aC).getD aF).oV),vB (((bn ieq v1 a0.aC).getD aF).vn),vB (((bn ieq v1 a0.aC).getD aF).iQ)],vB ((bn ieq v1 a0.aC).isSome)] from hk 10 rfl) rfl)),aY rfl (fun a' w' hE hk=>by have HSd:=HS1.step hE;exact bI (fF (show _=Value.tuple #[Value.agg #[vB (((bn ieq v1 a0.aC).getD aF).jK),vB (((bn ieq v1 a0.aC).getD aF).pK),vB (((bn ieq v1 a0.aC).getD aF).oV),vB (((bn ieq v1 a0.aC).getD aF).vn),vB (((bn ieq v1 a0.aC).getD aF).iQ)],vB ((bn ieq v1 a0.aC).isSome)] from hk 10 rfl) rfl)),aY rfl (fun a' w' hE hk=>(tC hE (cs:=#[vB false,vB false,vB false,vB false,vB false]) Tryz.zeroValue243 rfl)),trivial⟩ ?_
 intro w2 hE2
 simp only [List.zip_cons_cons,List.zip_nil_left,List.zip_nil_right,yg,sc0,sc1,List.length_cons,List.length_nil,List.drop_succ_cons,List.drop_zero,Nat.zero_add,Nat.reduceAdd]
 rintro _ ⟨b3,es1,cl1,rfl,ge3,hb3,ho1⟩
 rintro _ ⟨b2,rfl,ge2,hb2⟩
 have HS2:=HS1.two hE2 ge3 hb3 ge2 hb2 (fun e=>by subst e;rw [hb3] at hb2;cases hb2)
 refine RY (i:=0) (cs:=[vB false,vB false,vB false,vB false,vB false]) (cs':=[vB (((bn ieq v1 a0.aC).getD aF).jK),vB (((bn ieq v1 a0.aC).getD aF).pK),vB (((bn ieq v1 a0.aC).getD aF).oV),vB (((bn ieq v1 a0.aC).getD aF).vn),vB (((bn ieq v1 a0.aC).getD aF).iQ)]) (vs:=[vB (((bn ieq v1 a0.aC).getD aF).jK),vB (((bn ieq v1 a0.aC).getD aF).pK),vB (((bn ieq v1 a0.aC).getD aF).oV),vB (((bn ieq v1 a0.aC).getD aF).vn),vB (((bn ieq v1 a0.aC).getD aF).iQ)]) (bs':=[(some b2, .cells #[vB (((bn ieq v1 a0.aC).getD aF).jK),vB (((bn ieq v1 a0.aC).getD aF).pK),vB (((bn ieq v1 a0.aC).getD aF).oV),vB (((bn ieq v1 a0.aC).getD aF).vn),vB (((bn ieq v1 a0.aC).getD aF).iQ)] 243 (0,0)),(some b3, .map es1 cl1),(some b1, .cells #[vI a0.aC,vS a0.aQ,vI a0.bG.aP,vB a0.bG.aN,vI a0.dM,vI a0.vN,vL jS a0.au.length jT] 56 (0,0))]) (fun _=>rfl) (fun _=>rfl) Tryz.sizeOf243 rfl rfl (by decide) rfl HS2 rfl (Nat.le_of_ble_eq_true rfl) rfl rfl rfl (Nat.le_of_ble_eq_true rfl) (fun w2 HSl u=>(fF rfl rfl)) rfl ?_
 intro w3 HS3
 refine rs (vB ((bn ieq v1 a0.aC).isSome)) (aB rfl) ?_
 try simp only [sc0,sc1]
 refine aA<|ak<|wp_seq<|wp_block<|wp_seq<|wp_seq<|region<|rs (vB ((bn ieq v1 a0.aC).isSome)) (aJ rfl)<|rs (vB (!((bn ieq v1 a0.aC).isSome))) (lK rfl)<|rs (vB (!((bn ieq v1 a0.aC).isSome))) (aB rfl) ?_
 try simp only [sc0,sc1]
 refine aA<|ak ?_
 obtain ⟨xx1,H,G1⟩:=bJ H
 refine lX [17,20,21,22,23,24,25,26,27,28,29,30,31,32,33,34,35] (fun us w'=>Fit us (fun uj1=>[vB xx1,(uj1 1),(uj1 2),(uj1 3),(uj1 4),(uj1 5),(uj1 6),(uj1 7),(uj1 8),(uj1 9),(uj1 10),(uj1 11),(uj1 12),(uj1 13),(uj1 14),(uj1 15),(uj1 16)])∧St [] h0 w0 h0 [(some b2, .cells #[vB (((bn ieq v1 a0.aC).getD aF).jK),vB (((bn ieq v1 a0.aC).getD aF).pK),vB (((bn ieq v1 a0.aC).getD aF).oV),vB (((bn ieq v1 a0.aC).getD aF).vn),vB (((bn ieq v1 a0.aC).getD aF).iQ)] 243 (0,0)),(some b3, .map es1 cl1),(some b1, .cells #[vI a0.aC,vS a0.aQ,vI a0.bG.aP,vB a0.bG.aN,vI a0.dM,vI a0.vN,vL jS a0.au.length jT] 56 (0,0))] w') ?_ ?_
 ·refine wp_cond_split (t:=(!((bn ieq v1 a0.aC).isSome))) rfl (fun c1=>?_) (fun c1=>?_)
  ·replace H:=bM H c1
   refine wp_skip ?_
   obtain rfl:=Option.some.inj H
   refine qM rfl ⟨(fit rfl),HS3⟩
  ·replace H:=bW H (nt c1)
   refine wp_seq<|region<|rs (vP b2 0) (aH (n:=1) (o':=0) rfl Tryz.runUnderlying243 rfl Tryz.sizeOf4 (by decide) rfl)<|rs (vB (((bn ieq v1 a0.aC).getD aF).jK)) (aK rfl Tryz.isAgg4 (HS3.look 0 rfl) rfl)<|rs (vB (((bn ieq v1 a0.aC).getD aF).jK)) (aJ rfl)<|rgs (((bn ieq v1 a0.aC).getD aF).jK) true (vP b1 1) rfl rfl rfl rfl (fun hg=>(aH (n:=1) (o':=1) rfl Tryz.runUnderlying56 rfl Tryz.sizeOf9 (by decide) rfl))<|aI (by simp only [sc0,sc1];rfl) ?_
   refine rgs (((bn ieq v1 a0.aC).getD aF).jK) true (vS a0.aQ) rfl rfl rfl rfl (fun hg=>(aK (gvt (vP b1 1) hg rfl) Tryz.isAgg9 (HS3.look 2 rfl) rfl)) ?_
   obtain ⟨v2,H2,H⟩:=bJ H
   refine xZ (b:=((bn ieq v1 a0.aC).getD aF).jK) (c:=true) (v:=vB v2) rfl rfl rfl rfl (fun hg=>(bf Tryz.call157 rfl (OI (gvt (vS a0.aQ) hg rfl)) (fZ.calls k a0.aQ HS3.sees (bM H2 hg)))) ?_
   intro w4 hE3
   have HS4:=HS3.step hE3
   refine rgs (((bn ieq v1 a0.aC).getD aF).jK) true (vB (!v2)) rfl rfl rfl rfl (fun hg=>(lK (gvt (vB v2) hg rfl)))<|rs (vB (((bn ieq v1 a0.aC).getD aF).jK&&(!v2))) (dA rfl (fun hp=>(gvt (vB (!v2)) (gu rfl hp) rfl)) rfl)<|aI (by simp only [sc0,sc1];rfl) ?_
   refine rs (vB (((bn ieq v1 a0.aC).getD aF).jK&&(!v2))) (aB rfl) ?_
   try simp only [sc0,sc1]
   refine aA<|ak<|wp_cond_split (t:=(((bn ieq v1 a0.aC).getD aF).jK&&(!v2))) rfl (fun c2=>?_) (fun c2=>?_)
   ·replace H:=bM H c2
    refine wp_skip ?_
    obtain rfl:=Option.some.inj H
    refine qM rfl ⟨(fit rfl),HS4⟩
   ·replace H:=bW H (nt c2)
    refine region<|rs (vP b2 0) (aH (n:=1) (o':=0) rfl Tryz.runUnderlying243 rfl Tryz.sizeOf4 (by decide) rfl)<|rs (vB (((bn ieq v1 a0.aC).getD aF).jK)) (aK rfl Tryz.isAgg4 (HS4.look 0 rfl) rfl)<|rs (vB (!(((bn ieq v1 a0.aC).getD aF).jK))) (lK rfl)<|rs (vB (!(((bn ieq v1 a0.aC).getD aF).jK))) (aJ rfl)<|aI (by simp only [sc0,sc1];rfl) ?_
    refine rgs (!(((bn ieq v1 a0.aC).getD aF).jK)) true (vP b1 1) rfl rfl rfl rfl (fun hg=>(aH (n:=1) (o':=1) rfl Tryz.runUnderlying56 rfl Tryz.sizeOf9 (by decide) rfl))<|rgs (!(((bn ieq v1 a0.aC).getD aF).jK)) true (vS a0.aQ) rfl rfl rfl rfl (fun hg=>(aK (gvt (vP b1 1) hg rfl) Tryz.isAgg9 (HS4.look 2 rfl) rfl))<|rgs (!(((bn ieq v1 a0.aC).getD aF).jK)) true (vB (!(strEq a0.aQ ByteArray.empty))) rfl rfl rfl rfl (fun hg=>(BX (gvt (vS a0.aQ) hg rfl) rfl))<|rs (vB ((!(((bn ieq v1 a0.aC).getD aF).jK))&&(!(strEq a0.aQ ByteArray.empty)))) (dA rfl (fun hp=>(gvt (vB (!(strEq a0.aQ ByteArray.empty))) (gu rfl hp) rfl)) rfl)<|aI (by simp only [sc0,sc1];rfl) ?_
    refine rs (vB ((!(((bn ieq v1 a0.aC).getD aF).jK))&&(!(strEq a0.aQ ByteArray.empty)))) (aB rfl) ?_
    try simp only [sc0,sc1]
    refine aA ?_
    obtain rfl:=Option.some.inj H
    refine qM rfl ⟨(fit rfl),HS4⟩
 ·rintro us w5 ⟨Qe,HS5⟩
  obtain ⟨uj1,rfl⟩:=unj Qe
  replace H:=G1
  clear G1
  try simp only [patch,sc0,sc1]
  refine wp_cond_split (t:=xx1) rfl (fun c3=>?_) (fun c3=>?_)
  ·replace H:=bM H c3
   refine wp_seq<|region<|rs (vB false) (aB rfl) ?_
   try simp only [sc0,sc1]
   refine aA<|ak<|wp_ret<|dn<|aW ?_
   obtain rfl:=Option.some.inj H
   exact bodyPost_ret (aV rfl (aX rfl)) rfl<|⟨rfl,HS5.toE⟩
  ·replace H:=bW H (nt c3)
   refine wp_seq<|wp_seq<|region<|rs (vP b2 1) (aH (n:=1) (o':=1) rfl Tryz.runUnderlying243 rfl Tryz.sizeOf4 (by decide) rfl)<|rs (vB (((bn ieq v1 a0.aC).getD aF).pK)) (aK rfl Tryz.isAgg4 (HS5.look 0 rfl) rfl)<|rs (vB (((bn ieq v1 a0.aC).getD aF).pK)) (aJ rfl)<|rgs (((bn ieq v1 a0.aC).getD aF).pK) true (vP b1 2) rfl rfl rfl rfl (fun hg=>(aH (n:=2) (o':=2) rfl Tryz.runUnderlying56 rfl Tryz.sizeOf29 (by decide) rfl))<|aI (by simp only [sc0,sc1];rfl) ?_
   refine rgs (((bn ieq v1 a0.aC).getD aF).pK) true (Value.agg #[vI a0.bG.aP,vB a0.bG.aN]) rfl rfl rfl rfl (fun hg=>(aZ (n:=2) (vs:=[vI a0.bG.aP,vB a0.bG.aN]) (gvt (vP b1 2) hg rfl) Tryz.isAgg29 (HS5.look 2 rfl) Tryz.sizeOf29 rfl rfl)) ?_
   obtain ⟨v3,H3,H⟩:=bJ H
   refine xZ (b:=((bn ieq v1 a0.aC).getD aF).pK) (c:=true) (v:=vI v3) rfl rfl rfl rfl (fun hg=>(bf Tryz.call56 rfl (OI (gvt (Value.agg #[vI a0.bG.aP,vB a0.bG.aN]) hg rfl)) (jq.calls a0.bG HS5.sees (bM H3 hg)))) ?_
   intro w6 hE4
   have HS6:=HS5.step hE4
   refine rgs (((bn ieq v1 a0.aC).getD aF).pK) true (vB (v3 !=0)) rfl rfl rfl rfl (fun hg=>(bK (gvt (vI v3) hg rfl) rfl rfl))<|rs (vB (((bn ieq v1 a0.aC).getD aF).pK&&(v3 !=0))) (dA rfl (fun hp=>(gvt (vB (v3 !=0)) (gu rfl hp) rfl)) rfl)<|aI (by simp only [sc0,sc1];rfl) ?_
   refine rs (vB (((bn ieq v1 a0.aC).getD aF).pK&&(v3 !=0))) (aB rfl) ?_
   try simp only [sc0,sc1]
   refine aA<|ak ?_
   obtain ⟨xx2,H,G2⟩:=bJ H
   refine lX [36,45,46,47,48,49,50,51,52,53] (fun us w'=>Fit us (fun uj2=>[vB xx2,(uj2 1),(uj2 2),(uj2 3),(uj2 4),(uj2 5),(uj2 6),(uj2 7),(uj2 8),(uj2 9)])∧St [] h0 w0 h0 [(some b2, .cells #[vB (((bn ieq v1 a0.aC).getD aF).jK),vB (((bn ieq v1 a0.aC).getD aF).pK),vB (((bn ieq v1 a0.aC).getD aF).oV),vB (((bn ieq v1 a0.aC).getD aF).vn),vB (((bn ieq v1 a0.aC).getD aF).iQ)] 243 (0,0)),(some b3, .map es1 cl1),(some b1, .cells #[vI a0.aC,vS a0.aQ,vI a0.bG.aP,vB a0.bG.aN,vI a0.dM,vI a0.vN,vL jS a0.au.length jT] 56 (0,0))] w') ?_ ?_
   ·refine wp_cond_split (t:=(((bn ieq v1 a0.aC).getD aF).pK&&(v3 !=0))) rfl (fun c4=>?_) (fun c4=>?_)
    ·replace H:=bM H c4
     refine wp_skip ?_
     obtain rfl:=Option.some.inj H
     refine qM rfl ⟨(fit rfl),HS6⟩
    ·replace H:=bW H (nt c4)
     refine region<|rs (vP b2 1) (aH (n:=1) (o':=1) rfl Tryz.runUnderlying243 rfl Tryz.sizeOf4 (by decide) rfl)<|rs (vB (((bn ieq v1 a0.aC).getD aF).pK)) (aK rfl Tryz.isAgg4 (HS6.look 0 rfl) rfl)<|rs (vB (!(((bn ieq v1 a0.aC).getD aF).pK))) (lK rfl)<|rs (vB (!(((bn ieq v1 a0.aC).getD aF).pK))) (aJ rfl)<|aI (by simp only [sc0,sc1];rfl) ?_
     refine rgs (!(((bn ieq v1 a0.aC).getD aF).pK)) true (vP b1 2) rfl rfl rfl rfl (fun hg=>(aH (n:=2) (o':=2) rfl Tryz.runUnderlying56 rfl Tryz.sizeOf29 (by decide) rfl))<|rgs (!(((bn ieq v1 a0.aC).getD aF).pK)) true (Value.agg #[vI a0.bG.aP,vB a0.bG.aN]) rfl rfl rfl rfl (fun hg=>(aZ (n:=2) (vs:=[vI a0.bG.aP,vB a0.bG.aN]) (gvt (vP b1 2) hg rfl) Tryz.isAgg29 (HS6.look 2 rfl) Tryz.sizeOf29 rfl rfl))<|rgs (!(((bn ieq v1 a0.aC).getD aF).pK)) true (Value.agg #[vI 0,vB false]) rfl rfl rfl rfl (fun hg=>(tH (cs:=[vI 0,vB false]) Tryz.zeroValue29 Tryz.runUnderlying29 (pl:=#[(0,1),(1,1)]) (fun w=>by simp [Tryz.sizeOf3,Tryz.sizeOf4]) rfl)) ?_
     refine rgs (!(((bn ieq v1 a0.aC).getD aF).pK)) true (vB (!((a0.bG.aP==0)&&((a0.bG.aN==false)&&true)))) rfl rfl rfl rfl (fun hg=>(OM (gvt (Value.agg #[vI a0.bG.aP,vB a0.bG.aN]) hg rfl) (gvt (Value.agg #[vI 0,vB false]) hg rfl) Tryz.eqGuardType29 (Kr Tryz.stoodInHeld29 Tryz.underlying29 (yj (by decide) (ny Tryz.isAgg3 rfl) (ny Tryz.isAgg3 rfl) (Ko Tryz.underlying3) (yj (by decide) (ny Tryz.isAgg4 rfl) (ny Tryz.isAgg4 rfl) (G8 Tryz.underlying4) Kq)))))<|aI (by simp only [sc0,sc1];rfl) ?_
     refine rs (vB ((!(((bn ieq v1 a0.aC).getD aF).pK))&&(!((a0.bG.aP==0)&&((a0.bG.aN==false)&&true))))) (dA rfl (fun hp=>(gvt (vB (!((a0.bG.aP==0)&&((a0.bG.aN==false)&&true)))) (gu rfl hp) rfl)) rfl)<|rs (vB ((!(((bn ieq v1 a0.aC).getD aF).pK))&&(!((a0.bG.aP==0)&&((a0.bG.aN==false)&&true))))) (aB rfl) ?_
     try simp only [sc0,sc1]
     refine aA ?_
     obtain rfl:=Option.some.inj H
     refine qM rfl ⟨(fit rfl),HS6⟩
   ·rintro us w7 ⟨aak,HS7⟩
    obtain ⟨uj2,rfl⟩:=unj aak
    replace H:=G2
    clear G2
    try simp only [patch,sc0,sc1]
    refine wp_cond_split (t:=xx2) rfl (fun c5=>?_) (fun c5=>?_)
    ·replace H:=bM H c5
     refine wp_seq<|region<|rs (vB false) (aB rfl) ?_
     try simp only [sc0,sc1]
     refine aA<|ak<|wp_ret<|dn<|aW ?_
     obtain rfl:=Option.some.inj H
     exact bodyPost_ret (aV rfl (aX rfl)) rfl<|⟨rfl,HS7.toE⟩
    ·replace H:=bW H (nt c5)
     refine wp_seq<|wp_seq<|region<|rs (vP b2 2) (aH (n:=1) (o':=2) rfl Tryz.runUnderlying243 rfl Tryz.sizeOf4 (by decide) rfl)<|rs (vB (((bn ieq v1 a0.aC).getD aF).oV)) (aK rfl Tryz.isAgg4 (HS7.look 0 rfl) rfl)<|rs (vB (((bn ieq v1 a0.aC).getD aF).oV)) (aJ rfl)<|rgs (((bn ieq v1 a0.aC).getD aF).oV) true (vP b1 4) rfl rfl rfl rfl (fun hg=>(aH (n:=1) (o':=4) rfl Tryz.runUnderlying56 rfl Tryz.sizeOf3 (by decide) rfl))<|aI (by simp only [sc0,sc1];rfl) ?_
     refine rgs (((bn ieq v1 a0.aC).getD aF).oV) true (vI a0.dM) rfl rfl rfl rfl (fun hg=>(aK (gvt (vP b1 4) hg rfl) Tryz.isAgg3 (HS7.look 2 rfl) rfl))<|rgs (((bn ieq v1 a0.aC).getD aF).oV) true (vB (decide (a0.dM<0))) rfl rfl rfl rfl (fun hg=>(bK (gvt (vI a0.dM) hg rfl) rfl rfl))<|rgs (((bn ieq v1 a0.aC).getD aF).oV) true (vB (decide (a0.dM<0))) rfl rfl rfl rfl (fun hg=>(aJ (gvt (vB (decide (a0.dM<0))) hg rfl)))<|rgs (decide (a0.dM<0)) (true&&(((bn ieq v1 a0.aC).getD aF).oV==true)) (vP b1 4) rfl rfl rfl rfl (fun hg=>(aH (n:=1) (o':=4) rfl Tryz.runUnderlying56 rfl Tryz.sizeOf3 (by decide) rfl))<|aI (by simp only [sc0,sc1];rfl) ?_
     refine rgs (decide (a0.dM<0)) (true&&(((bn ieq v1 a0.aC).getD aF).oV==true)) (vI a0.dM) rfl rfl rfl rfl (fun hg=>(aK (gvt (vP b1 4) hg rfl) Tryz.isAgg3 (HS7.look 2 rfl) rfl))<|rgs (decide (a0.dM<0)) (true&&(((bn ieq v1 a0.aC).getD aF).oV==true)) (vI a1) rfl rfl rfl rfl (fun hg=>(aJ rfl))<|rgs (decide (a0.dM<0)) (true&&(((bn ieq v1 a0.aC).getD aF).oV==true)) (vB (decide (a0.dM≥a1))) rfl rfl rfl rfl (fun hg=>(bK (gvt (vI a0.dM) hg rfl) (gvt (vI a1) hg rfl) rfl))<|rgs (((bn ieq v1 a0.aC).getD aF).oV) true (vB ((decide (a0.dM<0))||(decide (a0.dM≥a1)))) rfl rfl rfl rfl (fun hg=>(dZ (gvt (vB (decide (a0.dM<0))) hg rfl) rfl (fun hp=>(gvt (vB (decide (a0.dM≥a1))) (gu hg hp) rfl))))<|aI (by simp only [sc0,sc1];rfl) ?_
     refine rs (vB (((bn ieq v1 a0.aC).getD aF).oV&&((decide (a0.dM<0))||(decide (a0.dM≥a1))))) (dA rfl (fun hp=>(gvt (vB ((decide (a0.dM<0))||(decide (a0.dM≥a1)))) (gu rfl hp) rfl)) rfl)<|rs (vB (((bn ieq v1 a0.aC).getD aF).oV&&((decide (a0.dM<0))||(decide (a0.dM≥a1))))) (aB rfl) ?_
     try simp only [sc0,sc1]
     refine aA<|ak ?_
     obtain ⟨xx3,H,G3⟩:=bJ H
     refine lX [54,68,69,70,71,72,73,74,75] (fun us w'=>Fit us (fun uj3=>[vB xx3,(uj3 1),(uj3 2),(uj3 3),(uj3 4),(uj3 5),(uj3 6),(uj3 7),(uj3 8)])∧St [] h0 w0 h0 [(some b2, .cells #[vB (((bn ieq v1 a0.aC).getD aF).jK),vB (((bn ieq v1 a0.aC).getD aF).pK),vB (((bn ieq v1 a0.aC).getD aF).oV),vB (((bn ieq v1 a0.aC).getD aF).vn),vB (((bn ieq v1 a0.aC).getD aF).iQ)] 243 (0,0)),(some b3, .map es1 cl1),(some b1, .cells #[vI a0.aC,vS a0.aQ,vI a0.bG.aP,vB a0.bG.aN,vI a0.dM,vI a0.vN,vL jS a0.au.length jT] 56 (0,0))] w') ?_ ?_
     ·refine wp_cond_split (t:=(((bn ieq v1 a0.aC).getD aF).oV&&((decide (a0.dM<0))||(decide (a0.dM≥a1))))) rfl (fun c6=>?_) (fun c6=>?_)
      ·replace H:=bM H c6
       refine wp_skip ?_
       obtain rfl:=Option.some.inj H
       refine qM rfl ⟨(fit rfl),HS7⟩
      ·replace H:=bW H (nt c6)
       refine region<|rs (vP b2 2) (aH (n:=1) (o':=2) rfl Tryz.runUnderlying243 rfl Tryz.sizeOf4 (by decide) rfl)<|rs (vB (((bn ieq v1 a0.aC).getD aF).oV)) (aK rfl Tryz.isAgg4 (HS7.look 0 rfl) rfl)<|rs (vB (!(((bn ieq v1 a0.aC).getD aF).oV))) (lK rfl)<|rs (vB (!(((bn ieq v1 a0.aC).getD aF).oV))) (aJ rfl)<|aI (by simp only [sc0,sc1];rfl) ?_
       refine rgs (!(((bn ieq v1 a0.aC).getD aF).oV)) true (vP b1 4) rfl rfl rfl rfl (fun hg=>(aH (n:=1) (o':=4) rfl Tryz.runUnderlying56 rfl Tryz.sizeOf3 (by decide) rfl))<|rgs (!(((bn ieq v1 a0.aC).getD aF).oV)) true (vI a0.dM) rfl rfl rfl rfl (fun hg=>(aK (gvt (vP b1 4) hg rfl) Tryz.isAgg3 (HS7.look 2 rfl) rfl))<|rgs (!(((bn ieq v1 a0.aC).getD aF).oV)) true (vB (a0.dM !=0)) rfl rfl rfl rfl (fun hg=>(bK (gvt (vI a0.dM) hg rfl) rfl rfl))<|rs (vB ((!(((bn ieq v1 a0.aC).getD aF).oV))&&(a0.dM !=0))) (dA rfl (fun hp=>(gvt (vB (a0.dM !=0)) (gu rfl hp) rfl)) rfl)<|aI (by simp only [sc0,sc1];rfl) ?_
       refine rs (vB ((!(((bn ieq v1 a0.aC).getD aF).oV))&&(a0.dM !=0))) (aB rfl) ?_
       try simp only [sc0,sc1]
       refine aA ?_
       obtain rfl:=Option.some.inj H
       refine qM rfl ⟨(fit rfl),HS7⟩
     ·rintro us w8 ⟨aal,HS8⟩
      obtain ⟨uj3,rfl⟩:=unj aal
      replace H:=G3
      clear G3
      try simp only [patch,sc0,sc1]
      refine wp_cond_split (t:=xx3) rfl (fun c7=>?_) (fun c7=>?_)
      ·replace H:=bM H c7
       refine wp_seq<|region<|rs (vB false) (aB rfl) ?_
       try simp only [sc0,sc1]
       refine aA<|ak<|wp_ret<|dn<|aW ?_
       obtain rfl:=Option.some.inj H
       exact bodyPost_ret (aV rfl (aX rfl)) rfl<|⟨rfl,HS8.toE⟩
      ·replace H:=bW H (nt c7)
       refine wp_seq<|wp_seq<|region<|rs (vP b2 3) (aH (n:=1) (o':=3) rfl Tryz.runUnderlying243 rfl Tryz.sizeOf4 (by decide) rfl)<|rs (vB (((bn ieq v1 a0.aC).getD aF).vn)) (aK rfl Tryz.isAgg4 (HS8.look 0 rfl) rfl)<|rs (vB (((bn ieq v1 a0.aC).getD aF).vn)) (aJ rfl)<|rgs (((bn ieq v1 a0.aC).getD aF).vn) true (vP b1 5) rfl rfl rfl rfl (fun hg=>(aH (n:=1) (o':=5) rfl Tryz.runUnderlying56 rfl Tryz.sizeOf3 (by decide) rfl))<|aI (by simp only [sc0,sc1];rfl) ?_
       refine rgs (((bn ieq v1 a0.aC).getD aF).vn) true (vI a0.vN) rfl rfl rfl rfl (fun hg=>(aK (gvt (vP b1 5) hg rfl) Tryz.isAgg3 (HS8.look 2 rfl) rfl))<|rgs (((bn ieq v1 a0.aC).getD aF).vn) true (vB (decide (a0.vN<1))) rfl rfl rfl rfl (fun hg=>(bK (gvt (vI a0.vN) hg rfl) rfl rfl))<|rgs (((bn ieq v1 a0.aC).getD aF).vn) true (vB (decide (a0.vN<1))) rfl rfl rfl rfl (fun hg=>(aJ (gvt (vB (decide (a0.vN<1))) hg rfl)))<|rgs (decide (a0.vN<1)) (true&&(((bn ieq v1 a0.aC).getD aF).vn==true)) (vP b1 5) rfl rfl rfl rfl (fun hg=>(aH (n:=1) (o':=5) rfl Tryz.runUnderlying56 rfl Tryz.sizeOf3 (by decide) rfl))<|aI (by simp only [sc0,sc1];rfl) ?_
       refine rgs (decide (a0.vN<1)) (true&&(((bn ieq v1 a0.aC).getD aF).vn==true)) (vI a0.vN) rfl rfl rfl rfl (fun hg=>(aK (gvt (vP b1 5) hg rfl) Tryz.isAgg3 (HS8.look 2 rfl) rfl))<|rgs (decide (a0.vN<1)) (true&&(((bn ieq v1 a0.aC).getD aF).vn==true)) (vB (decide (a0.vN>512))) rfl rfl rfl rfl (fun hg=>(bK (gvt (vI a0.vN) hg rfl) rfl rfl))<|rgs (((bn ieq v1 a0.aC).getD aF).vn) true (vB ((decide (a0.vN<1))||(decide (a0.vN>512)))) rfl rfl rfl rfl (fun hg=>(dZ (gvt (vB (decide (a0.vN<1))) hg rfl) rfl (fun hp=>(gvt (vB (decide (a0.vN>512))) (gu hg hp) rfl))))<|rs (vB (((bn ieq v1 a0.aC).getD aF).vn&&((decide (a0.vN<1))||(decide (a0.vN>512))))) (dA rfl (fun hp=>(gvt (vB ((decide (a0.vN<1))||(decide (a0.vN>512)))) (gu rfl hp) rfl)) rfl)<|aI (by simp only [sc0,sc1];rfl) ?_
       refine rs (vB (((bn ieq v1 a0.aC).getD aF).vn&&((decide (a0.vN<1))||(decide (a0.vN>512))))) (aB rfl) ?_
       try simp only [sc0,sc1]
       refine aA<|ak ?_
       obtain ⟨xx4,H,G4⟩:=bJ H
       refine lX [76,89,90,91,92,93,94,95,96] (fun us w'=>Fit us (fun uj4=>[vB xx4,(uj4 1),(uj4 2),(uj4 3),(uj4 4),(uj4 5),(uj4 6),(uj4 7),(uj4 8)])∧St [] h0 w0 h0 [(some b2, .cells #[vB (((bn ieq v1 a0.aC).getD aF).jK),vB (((bn ieq v1 a0.aC).getD aF).pK),vB (((bn ieq v1 a0.aC).getD aF).oV),vB (((bn ieq v1 a0.aC).getD aF).vn),vB (((bn ieq v1 a0.aC).getD aF).iQ)] 243 (0,0)),(some b3, .map es1 cl1),(some b1, .cells #[vI a0.aC,vS a0.aQ,vI a0.bG.aP,vB a0.bG.aN,vI a0.dM,vI a0.vN,vL jS a0.au.length jT] 56 (0,0))] w') ?_ ?_
       ·refine wp_cond_split (t:=(((bn ieq v1 a0.aC).getD aF).vn&&((decide (a0.vN<1))||(decide (a0.vN>512))))) rfl (fun c8=>?_) (fun c8=>?_)
        ·replace H:=bM H c8
         refine wp_skip ?_
         obtain rfl:=Option.some.inj H
         refine qM rfl ⟨(fit rfl),HS8⟩
        ·replace H:=bW H (nt c8)
         refine region<|rs (vP b2 3) (aH (n:=1) (o':=3) rfl Tryz.runUnderlying243 rfl Tryz.sizeOf4 (by decide) rfl)<|rs (vB (((bn ieq v1 a0.aC).getD aF).vn)) (aK rfl Tryz.isAgg4 (HS8.look 0 rfl) rfl)<|rs (vB (!(((bn ieq v1 a0.aC).getD aF).vn))) (lK rfl)<|rs (vB (!(((bn ieq v1 a0.aC).getD aF).vn))) (aJ rfl)<|aI (by simp only [sc0,sc1];rfl) ?_
         refine rgs (!(((bn ieq v1 a0.aC).getD aF).vn)) true (vP b1 5) rfl rfl rfl rfl (fun hg=>(aH (n:=1) (o':=5) rfl Tryz.runUnderlying56 rfl Tryz.sizeOf3 (by decide) rfl))<|rgs (!(((bn ieq v1 a0.aC).getD aF).vn)) true (vI a0.vN) rfl rfl rfl rfl (fun hg=>(aK (gvt (vP b1 5) hg rfl) Tryz.isAgg3 (HS8.look 2 rfl) rfl))<|rgs (!(((bn ieq v1 a0.aC).getD aF).vn)) true (vB (a0.vN !=0)) rfl rfl rfl rfl (fun hg=>(bK (gvt (vI a0.vN) hg rfl) rfl rfl))<|rs (vB ((!(((bn ieq v1 a0.aC).getD aF).vn))&&(a0.vN !=0))) (dA rfl (fun hp=>(gvt (vB (a0.vN !=0)) (gu rfl hp) rfl)) rfl)<|aI (by simp only [sc0,sc1];rfl) ?_
         refine rs (vB ((!(((bn ieq v1 a0.aC).getD aF).vn))&&(a0.vN !=0))) (aB rfl) ?_
         try simp only [sc0,sc1]
         refine aA ?_
         obtain rfl:=Option.some.inj H
         refine qM rfl ⟨(fit rfl),HS8⟩
       ·rintro us w9 ⟨aam,HS9⟩
        obtain ⟨uj4,rfl⟩:=unj aam
        replace H:=G4
        clear G4
        try simp only [patch,sc0,sc1]
        refine wp_cond_split (t:=xx4) rfl (fun c9=>?_) (fun c9=>?_)
        ·replace H:=bM H c9
         refine wp_seq<|region<|rs (vB false) (aB rfl) ?_
         try simp only [sc0,sc1]
         refine aA<|ak<|wp_ret<|dn<|aW ?_
         obtain rfl:=Option.some.inj H
         exact bodyPost_ret (aV rfl (aX rfl)) rfl<|⟨rfl,HS9.toE⟩
        ·replace H:=bW H (nt c9)
         refine wp_seq<|wp_seq<|region<|rs (vP b2 4) (aH (n:=1) (o':=4) rfl Tryz.runUnderlying243 rfl Tryz.sizeOf4 (by decide) rfl)<|rs (vB (((bn ieq v1 a0.aC).getD aF).iQ)) (aK rfl Tryz.isAgg4 (HS9.look 0 rfl) rfl)<|rs (vP b1 6) (aH (n:=1) (o':=6) rfl Tryz.runUnderlying56 rfl Tryz.sizeOf54 (by decide) rfl)<|rs (vL jS a0.au.length jT) (aK rfl Tryz.isAgg54 (HS9.look 2 rfl) rfl)<|aI (by simp only [sc0,sc1];rfl) ?_
         refine rs (vI (a0.au.length:Int)) (jJ rfl Tryz.runUnderlying54)<|rs (vB (decide ((a0.au.length:Int)>0))) (bK rfl rfl rfl)<|rs (vB (((bn ieq v1 a0.aC).getD aF).iQ !=(decide ((a0.au.length:Int)>0)))) (DX rfl rfl Tryz.runUnderlying4)<|rs (vB (((bn ieq v1 a0.aC).getD aF).iQ !=(decide ((a0.au.length:Int)>0)))) (aB rfl) ?_
         try simp only [sc0,sc1]
         refine aA<|ak ?_
         obtain ⟨xx5,H,G5⟩:=bJ H
         refine lX [97,105,106,107,108] (fun us w'=>Fit us (fun uj5=>[vB xx5,(uj5 1),(uj5 2),(uj5 3),(uj5 4)])∧St [] h0 w0 h0 [(some b2, .cells #[vB (((bn ieq v1 a0.aC).getD aF).jK),vB (((bn ieq v1 a0.aC).getD aF).pK),vB (((bn ieq v1 a0.aC).getD aF).oV),vB (((bn ieq v1 a0.aC).getD aF).vn),vB (((bn ieq v1 a0.aC).getD aF).iQ)] 243 (0,0)),(some b3, .map es1 cl1),(some b1, .cells #[vI a0.aC,vS a0.aQ,vI a0.bG.aP,vB a0.bG.aN,vI a0.dM,vI a0.vN,vL jS a0.au.length jT] 56 (0,0))] w') ?_ ?_
         ·refine wp_cond_split (t:=(((bn ieq v1 a0.aC).getD aF).iQ !=(decide ((a0.au.length:Int)>0)))) rfl (fun c10=>?_) (fun c10=>?_)
          ·replace H:=bM H c10
           refine wp_skip ?_
           obtain rfl:=Option.some.inj H
           refine qM rfl ⟨(fit rfl),HS9⟩
          ·replace H:=bW H (nt c10)
           refine region<|rs (vP b1 6) (aH (n:=1) (o':=6) rfl Tryz.runUnderlying56 rfl Tryz.sizeOf54 (by decide) rfl)<|rs (vL jS a0.au.length jT) (aK rfl Tryz.isAgg54 (HS9.look 2 rfl) rfl)<|rs (vI (a0.au.length:Int)) (jJ rfl Tryz.runUnderlying54)<|rs (vB (decide ((a0.au.length:Int)>32))) (bK rfl rfl rfl)<|aI (by simp only [sc0,sc1];rfl) ?_
           refine rs (vB (decide ((a0.au.length:Int)>32))) (aB rfl) ?_
           try simp only [sc0,sc1]
           refine aA ?_
           obtain rfl:=Option.some.inj H
           refine qM rfl ⟨(fit rfl),HS9⟩
         ·rintro us w10 ⟨aan,ru⟩
          obtain ⟨uj5,rfl⟩:=unj aan
          replace H:=G5
          clear G5
          try simp only [patch,sc0,sc1]
          refine wp_cond_split (t:=xx5) rfl (fun c11=>?_) (fun c11=>?_)
          ·replace H:=bM H c11
           refine wp_seq<|region<|rs (vB false) (aB rfl) ?_
           try simp only [sc0,sc1]
           refine aA<|ak<|wp_ret<|dn<|aW ?_
           obtain rfl:=Option.some.inj H
           exact bodyPost_ret (aV rfl (aX rfl)) rfl<|⟨rfl,ru.toE⟩
          ·replace H:=bW H (nt c11)
           refine wp_skip<|dI<|ak<|wp_seq<|region<|uY ru ?_
           intro w11 b4 qw
           refine rs (Value.map (some b4)) (aB rfl) ?_
           try simp only [sc0,sc1]
           refine aA<|ak<|wp_seq<|wp_seq<|region<|rs (vP b1 6) (aH (n:=1) (o':=6) rfl Tryz.runUnderlying56 rfl Tryz.sizeOf54 (by decide) rfl)<|rs (vL jS a0.au.length jT) (aK rfl Tryz.isAgg54 (qw.look 3 rfl) rfl)<|rs (vI (a0.au.length:Int)) (jJ rfl Tryz.runUnderlying54)<|rs (vI 0) (aJ rfl) ?_
           try simp only [sc0,sc1]
           refine aA<|ak ?_
           obtain ⟨xx6,H,G6⟩:=bJ H
           refine jm [4,9,113,114,115,116,117,118,119,120,121,122,123,124,125,126,127,128,129,130,131,132,133,134,135,136,137,138,139,140,141,142,143,144,145,146,147,148,149,150,151,152,153,154,155,156,157,158,159,160,161,162,163,164] (fun m us w'=>∃(aG:Int),∃(dB:List (ByteArray×Bool)),∃(sS:Array MapEntry) (sU:Nat),Fit us (fun uy1=>[(uy1 0),(uy1 1),vI aG,(uy1 3),(uy1 4),(uy1 5),(uy1 6),(uy1 7),(uy1 8),(uy1 9),(uy1 10),(uy1 11),(uy1 12),(uy1 13),(uy1 14),(uy1 15),(uy1 16),(uy1 17),(uy1 18),(uy1 19),(uy1 20),(uy1 21),(uy1 22),(uy1 23),(uy1 24),(uy1 25),(uy1 26),(uy1 27),(uy1 28),(uy1 29),(uy1 30),(uy1 31),(uy1 32),(uy1 33),(uy1 34),(uy1 35),(uy1 36),(uy1 37),(uy1 38),(uy1 39),(uy1 40),(uy1 41),(uy1 42),(uy1 43),(uy1 44),(uy1 45),(uy1 46),(uy1 47),(uy1 48),(uy1 49),(uy1 50),(uy1 51),(uy1 52),(uy1 53)])∧fE.l0 k a0 a1 m aG dB=some xx6∧pV vS vB dB sS sU∧St [] h0 w0 h0 [(some b4, .map sS sU),(some b2, .cells #[vB (((bn ieq v1 a0.aC).getD aF).jK),vB (((bn ieq v1 a0.aC).getD aF).pK),vB (((bn ieq v1 a0.aC).getD aF).oV),vB (((bn ieq v1 a0.aC).getD aF).vn),vB (((bn ieq v1 a0.aC).getD aF).iQ)] 243 (0,0)),(some b3, .map es1 cl1),(some b1, .cells #[vI a0.aC,vS a0.aQ,vI a0.bG.aP,vB a0.bG.aN,vI a0.dM,vI a0.vN,vL jS a0.au.length jT] 56 (0,0))] w') (fun us w'=>∃(s1:(List (ByteArray×Bool))),xx6= .inr s1∧∃(xQ:Array MapEntry) (xR:Nat),Fit us (fun uo1=>[(uo1 0),(uo1 1),(uo1 2),(uo1 3),(uo1 4),(uo1 5),(uo1 6),(uo1 7),(uo1 8),(uo1 9),(uo1 10),(uo1 11),(uo1 12),(uo1 13),(uo1 14),(uo1 15),(uo1 16),(uo1 17),(uo1 18),(uo1 19),(uo1 20),(uo1 21),(uo1 22),(uo1 23),(uo1 24),(uo1 25),(uo1 26),(uo1 27),(uo1 28),(uo1 29),(uo1 30),(uo1 31),(uo1 32),(uo1 33),(uo1 34),(uo1 35),(uo1 36),(uo1 37),(uo1 38),(uo1 39),(uo1 40),(uo1 41),(uo1 42),(uo1 43),(uo1 44),(uo1 45),(uo1 46),(uo1 47),(uo1 48),(uo1 49),(uo1 50),(uo1 51),(uo1 52),(uo1 53)])∧pV vS vB s1 xQ xR∧St [] h0 w0 h0 [(some b4, .map xQ xR),(some b2, .cells #[vB (((bn ieq v1 a0.aC).getD aF).jK),vB (((bn ieq v1 a0.aC).getD aF).pK),vB (((bn ieq v1 a0.aC).getD aF).oV),vB (((bn ieq v1 a0.aC).getD aF).vn),vB (((bn ieq v1 a0.aC).getD aF).iQ)] 243 (0,0)),(some b3, .map es1 cl1),(some b1, .cells #[vI a0.aC,vS a0.aQ,vI a0.bG.aP,vB a0.bG.aN,vI a0.dM,vI a0.vN,vL jS a0.au.length jT] 56 (0,0))] w') k ⟨0,([]:List (ByteArray×Bool)),#[],0,(fit rfl),H,(pV.nil),qw⟩ ?_ ?_
           ·rintro m us w12 ⟨aG,dB,sS,sU,ng,H,jD,uf⟩
            obtain ⟨uy1,rfl⟩:=unj ng
            cases m with
            |zero=>exact absurd H (by simp [fE.l0])
            |succ m=>
             rw [fE.l0] at H
             try simp only [patch,sc0,sc1]
             refine wp_seq<|region<|rs (vB (decide (aG<(a0.au.length:Int)))) (bK rfl rfl rfl) ?_
             try simp only [sc0,sc1]
             refine aA<|ak<|wp_seq<|wp_cond_split (t:=(decide (aG<(a0.au.length:Int)))) rfl (fun c12=>?_) (fun c12=>?_)
             ·replace H:=bM H c12
              refine wp_skip<|ak<|wp_seq<|wp_block<|wp_seq<|region ?_
              obtain ⟨hi1,H⟩:=eG H
              obtain ⟨ad1,e1,lu⟩:=iM sK hi1.1 hi1.2
              refine rs (Value.pointer (some (Addr.add ad1 (aG.toNat*3)))) (dP (sz:=3) rfl e1 rfl hi1.1 hi1.2 Tryz.runUnderlying54 Tryz.sizeOf129)<|rs (Value.agg #[vS ((rd aj a0.au aG).aQ),vI ((rd aj a0.au aG).vType),vI ((rd aj a0.au aG).vAt)]) (ig rfl Tryz.isAgg129 (lu.sees uf.sees) Tryz.sizeOf129)<|dU rfl rfl (fA (cs:=#[vS ByteArray.empty,vI 0,vI 0]) Tryz.zeroValue129 rfl) ?_
              rintro w13 _ hE5 ⟨b5,rfl,ge4,hb4⟩
              have yC:=uf.new hE5 ge4 hb4
              refine fV (i:=0) (cs:=[vS ByteArray.empty,vI 0,vI 0]) (cs':=[vS ((rd aj a0.au aG).aQ),vI ((rd aj a0.au aG).vType),vI ((rd aj a0.au aG).vAt)]) (vs:=[vS ((rd aj a0.au aG).aQ),vI ((rd aj a0.au aG).vType),vI ((rd aj a0.au aG).vAt)]) (bs':=[(some b5, .cells #[vS ((rd aj a0.au aG).aQ),vI ((rd aj a0.au aG).vType),vI ((rd aj a0.au aG).vAt)] 129 (0,0)),(some b4, .map sS sU),(some b2, .cells #[vB (((bn ieq v1 a0.aC).getD aF).jK),vB (((bn ieq v1 a0.aC).getD aF).pK),vB (((bn ieq v1 a0.aC).getD aF).oV),vB (((bn ieq v1 a0.aC).getD aF).vn),vB (((bn ieq v1 a0.aC).getD aF).iQ)] 243 (0,0)),(some b3, .map es1 cl1),(some b1, .cells #[vI a0.aC,vS a0.aQ,vI a0.bG.aP,vB a0.bG.aN,vI a0.dM,vI a0.vN,vL jS a0.au.length jT] 56 (0,0))]) rfl rfl Tryz.sizeOf129 rfl rfl (by decide) rfl yC rfl (Nat.le_of_ble_eq_true rfl) rfl rfl ?_
              intro w14 DN
              try simp only [sc0,sc1]
              refine aA<|ak<|wp_seq<|wp_seq<|region<|rs (vP b5 0) (aH (n:=1) (o':=0) rfl Tryz.runUnderlying129 rfl Tryz.sizeOf9 (by decide) rfl)<|rs (vS ((rd aj a0.au aG).aQ)) (aK rfl Tryz.isAgg9 (DN.look 0 rfl) rfl) ?_
              obtain ⟨v4,H4,H⟩:=bJ H
              refine run_eq (v:=vB v4) rfl rfl (bf Tryz.call157 rfl rfl (fZ.calls k ((rd aj a0.au aG).aQ) DN.sees H4)) ?_
              intro w15 hE6
              have Iy:=DN.step hE6
              refine rs (vB (!v4)) (lK rfl)<|aI (by simp only [sc0,sc1];rfl) ?_
              refine rs (vB (!v4)) (aJ rfl)<|rgs (!v4) true (Value.map (some b4)) rfl rfl rfl rfl (fun hg=>(aJ rfl))<|rgs (!v4) true (vP b5 0) rfl rfl rfl rfl (fun hg=>(aH (n:=1) (o':=0) rfl Tryz.runUnderlying129 rfl Tryz.sizeOf9 (by decide) rfl))<|rgs (!v4) true (vS ((rd aj a0.au aG).aQ)) rfl rfl rfl rfl (fun hg=>(aK (gvt (vP b5 0) hg rfl) Tryz.isAgg9 (Iy.look 0 rfl) rfl))<|aI (by simp only [sc0,sc1];rfl) ?_
              refine rgs (!v4) true (vB ((bn strEq dB ((rd aj a0.au aG).aQ)).getD false)) rfl rfl rfl rfl (fun hg=>(Ku (Cc Tryz.runUnderlying9) (k:=((rd aj a0.au aG).aQ)) (m:=dB) (ev:=vB) false (gvt (Value.map (some b4)) hg rfl) (gvt (vS ((rd aj a0.au aG).aQ)) hg rfl) Tryz.runUnderlying210 Tryz.zeroValue4 (Iy.look 1 rfl) jD))<|rs (vB ((!v4)||((bn strEq dB ((rd aj a0.au aG).aQ)).getD false))) (dZ rfl rfl (fun hp=>(gvt (vB ((bn strEq dB ((rd aj a0.au aG).aQ)).getD false)) (gu rfl hp) rfl))) ?_
              try simp only [sc0,sc1]
              refine aA<|ak<|wp_cond_split (t:=((!v4)||((bn strEq dB ((rd aj a0.au aG).aQ)).getD false))) rfl (fun c13=>?_) (fun c13=>?_)
              ·replace H:=bM H c13
               refine wp_seq<|region<|rs (vB false) (aB rfl) ?_
               try simp only [sc0,sc1]
               refine aA<|ak<|wp_ret<|aW<|dn<|aW<|gJ<|aW ?_
               obtain rfl:=Option.some.inj H
               obtain rfl:=Option.some.inj G6
               exact bodyPost_ret (aV rfl (aX rfl)) rfl<|⟨rfl,Iy.toE⟩
              ·replace H:=bW H (nt c13)
               refine wp_skip<|ak<|wp_seq<|region<|rs (Value.map (some b4)) (aJ rfl)<|rs (vP b5 0) (aH (n:=1) (o':=0) rfl Tryz.runUnderlying129 rfl Tryz.sizeOf9 (by decide) rfl)<|rs (vS ((rd aj a0.au aG).aQ)) (aK rfl Tryz.isAgg9 (Iy.look 0 rfl) rfl)<|Hf (Cc Tryz.runUnderlying9) (i:=1) (k:=((rd aj a0.au aG).aQ)) (v:=true) (ev:=vB) (m:=dB) (by first|exact .inl rfl|exact .inr rfl) rfl rfl rfl rfl rfl Tryz.runUnderlying210 Iy rfl jD ?_
               intro w16 es2 cl2 Bz ho2
               try simp only [sc0,sc1]
               refine aA<|ak<|wp_seq<|region<|rs (vP b1 0) (aH (n:=1) (o':=0) rfl Tryz.runUnderlying56 rfl Tryz.sizeOf3 (by decide) rfl)<|rs (vI a0.aC) (aK rfl Tryz.isAgg3 (Bz.look 4 rfl) rfl)<|rs (vB (a0.aC==5)) (bK rfl rfl rfl)<|rs (vB (a0.aC==5)) (aJ rfl)<|aI (by simp only [sc0,sc1];rfl) ?_
               refine rgs (a0.aC==5) true (vP b5 1) rfl rfl rfl rfl (fun hg=>(aH (n:=1) (o':=1) rfl Tryz.runUnderlying129 rfl Tryz.sizeOf3 (by decide) rfl))<|rgs (a0.aC==5) true (vI ((rd aj a0.au aG).vType)) rfl rfl rfl rfl (fun hg=>(aK (gvt (vP b5 1) hg rfl) Tryz.isAgg3 (Bz.look 0 rfl) rfl))<|rgs (a0.aC==5) true (vB ((rd aj a0.au aG).vType !=0)) rfl rfl rfl rfl (fun hg=>(bK (gvt (vI ((rd aj a0.au aG).vType)) hg rfl) rfl rfl))<|rgs (a0.aC==5) true (vB ((rd aj a0.au aG).vType !=0)) rfl rfl rfl rfl (fun hg=>(aJ (gvt (vB ((rd aj a0.au aG).vType !=0)) hg rfl)))<|aI (by simp only [sc0,sc1];rfl) ?_
               refine rgs ((rd aj a0.au aG).vType !=0) (true&&((a0.aC==5)==true)) (vP b5 2) rfl rfl rfl rfl (fun hg=>(aH (n:=1) (o':=2) rfl Tryz.runUnderlying129 rfl Tryz.sizeOf3 (by decide) rfl))<|rgs ((rd aj a0.au aG).vType !=0) (true&&((a0.aC==5)==true)) (vI ((rd aj a0.au aG).vAt)) rfl rfl rfl rfl (fun hg=>(aK (gvt (vP b5 2) hg rfl) Tryz.isAgg3 (Bz.look 0 rfl) rfl))<|rgs ((rd aj a0.au aG).vType !=0) (true&&((a0.aC==5)==true)) (vB (decide ((rd aj a0.au aG).vAt<(-2147483648)))) rfl rfl rfl rfl (fun hg=>(bK (gvt (vI ((rd aj a0.au aG).vAt)) hg rfl) rfl rfl))<|rgs (a0.aC==5) true (vB (((rd aj a0.au aG).vType !=0)||(decide ((rd aj a0.au aG).vAt<(-2147483648))))) rfl rfl rfl rfl (fun hg=>(dZ (gvt (vB ((rd aj a0.au aG).vType !=0)) hg rfl) rfl (fun hp=>(gvt (vB (decide ((rd aj a0.au aG).vAt<(-2147483648)))) (gu hg hp) rfl))))<|aI (by simp only [sc0,sc1];rfl) ?_
               refine rgs (a0.aC==5) true (vB (((rd aj a0.au aG).vType !=0)||(decide ((rd aj a0.au aG).vAt<(-2147483648))))) rfl rfl rfl rfl (fun hg=>(aJ (gvt (vB (((rd aj a0.au aG).vType !=0)||(decide ((rd aj a0.au aG).vAt<(-2147483648))))) hg rfl)))<|rgs (((rd aj a0.au aG).vType !=0)||(decide ((rd aj a0.au aG).vAt<(-2147483648)))) (true&&((a0.aC==5)==true)) (vP b5 2) rfl rfl rfl rfl (fun hg=>(aH (n:=1) (o':=2) rfl Tryz.runUnderlying129 rfl Tryz.sizeOf3 (by decide) rfl))<|rgs (((rd aj a0.au aG).vType !=0)||(decide ((rd aj a0.au aG).vAt<(-2147483648)))) (true&&((a0.aC==5)==true)) (vI ((rd aj a0.au aG).vAt)) rfl rfl rfl rfl (fun hg=>(aK (gvt (vP b5 2) hg rfl) Tryz.isAgg3 (Bz.look 0 rfl) rfl))<|rgs (((rd aj a0.au aG).vType !=0)||(decide ((rd aj a0.au aG).vAt<(-2147483648)))) (true&&((a0.aC==5)==true)) (vB (decide ((rd aj a0.au aG).vAt>2147483647))) rfl rfl rfl rfl (fun hg=>(bK (gvt (vI ((rd aj a0.au aG).vAt)) hg rfl) rfl rfl))<|aI (by simp only [sc0,sc1];rfl) ?_
               refine rgs (a0.aC==5) true (vB ((((rd aj a0.au aG).vType !=0)||(decide ((rd aj a0.au aG).vAt<(-2147483648))))||(decide ((rd aj a0.au aG).vAt>2147483647)))) rfl rfl rfl rfl (fun hg=>(dZ (gvt (vB (((rd aj a0.au aG).vType !=0)||(decide ((rd aj a0.au aG).vAt<(-2147483648))))) hg rfl) rfl (fun hp=>(gvt (vB (decide ((rd aj a0.au aG).vAt>2147483647))) (gu hg hp) rfl))))<|rs (vB ((a0.aC==5)&&((((rd aj a0.au aG).vType !=0)||(decide ((rd aj a0.au aG).vAt<(-2147483648))))||(decide ((rd aj a0.au aG).vAt>2147483647))))) (dA rfl (fun hp=>(gvt (vB ((((rd aj a0.au aG).vType !=0)||(decide ((rd aj a0.au aG).vAt<(-2147483648))))||(decide ((rd aj a0.au aG).vAt>2147483647)))) (gu rfl hp) rfl)) rfl)<|rs (vB ((a0.aC==5)&&((((rd aj a0.au aG).vType !=0)||(decide ((rd aj a0.au aG).vAt<(-2147483648))))||(decide ((rd aj a0.au aG).vAt>2147483647))))) (aJ rfl)<|rgs ((a0.aC==5)&&((((rd aj a0.au aG).vType !=0)||(decide ((rd aj a0.au aG).vAt<(-2147483648))))||(decide ((rd aj a0.au aG).vAt>2147483647)))) true (vP b1 0) rfl rfl rfl rfl (fun hg=>(aH (n:=1) (o':=0) rfl Tryz.runUnderlying56 rfl Tryz.sizeOf3 (by decide) rfl))<|aI (by simp only [sc0,sc1];rfl) ?_
               refine rgs ((a0.aC==5)&&((((rd aj a0.au aG).vType !=0)||(decide ((rd aj a0.au aG).vAt<(-2147483648))))||(decide ((rd aj a0.au aG).vAt>2147483647)))) true (vI a0.aC) rfl rfl rfl rfl (fun hg=>(aK (gvt (vP b1 0) hg rfl) Tryz.isAgg3 (Bz.look 4 rfl) rfl))<|rgs ((a0.aC==5)&&((((rd aj a0.au aG).vType !=0)||(decide ((rd aj a0.au aG).vAt<(-2147483648))))||(decide ((rd aj a0.au aG).vAt>2147483647)))) true (vB (a0.aC==4)) rfl rfl rfl rfl (fun hg=>(bK (gvt (vI a0.aC) hg rfl) rfl rfl))<|rgs ((a0.aC==5)&&((((rd aj a0.au aG).vType !=0)||(decide ((rd aj a0.au aG).vAt<(-2147483648))))||(decide ((rd aj a0.au aG).vAt>2147483647)))) true (vB (a0.aC==4)) rfl rfl rfl rfl (fun hg=>(aJ (gvt (vB (a0.aC==4)) hg rfl)))<|rgs (a0.aC==4) (true&&(((a0.aC==5)&&((((rd aj a0.au aG).vType !=0)||(decide ((rd aj a0.au aG).vAt<(-2147483648))))||(decide ((rd aj a0.au aG).vAt>2147483647))))==false)) (vP b5 1) rfl rfl rfl rfl (fun hg=>(aH (n:=1) (o':=1) rfl Tryz.runUnderlying129 rfl Tryz.sizeOf3 (by decide) rfl))<|aI (by simp only [sc0,sc1];rfl) ?_
               refine rgs (a0.aC==4) (true&&(((a0.aC==5)&&((((rd aj a0.au aG).vType !=0)||(decide ((rd aj a0.au aG).vAt<(-2147483648))))||(decide ((rd aj a0.au aG).vAt>2147483647))))==false)) (vI ((rd aj a0.au aG).vType)) rfl rfl rfl rfl (fun hg=>(aK (gvt (vP b5 1) hg rfl) Tryz.isAgg3 (Bz.look 0 rfl) rfl))<|rgs (a0.aC==4) (true&&(((a0.aC==5)&&((((rd aj a0.au aG).vType !=0)||(decide ((rd aj a0.au aG).vAt<(-2147483648))))||(decide ((rd aj a0.au aG).vAt>2147483647))))==false)) (vB (decide ((rd aj a0.au aG).vType<0))) rfl rfl rfl rfl (fun hg=>(bK (gvt (vI ((rd aj a0.au aG).vType)) hg rfl) rfl rfl))<|rgs (a0.aC==4) (true&&(((a0.aC==5)&&((((rd aj a0.au aG).vType !=0)||(decide ((rd aj a0.au aG).vAt<(-2147483648))))||(decide ((rd aj a0.au aG).vAt>2147483647))))==false)) (vB (decide ((rd aj a0.au aG).vType<0))) rfl rfl rfl rfl (fun hg=>(aJ (gvt (vB (decide ((rd aj a0.au aG).vType<0))) hg rfl)))<|rgs (decide ((rd aj a0.au aG).vType<0)) ((true&&(((a0.aC==5)&&((((rd aj a0.au aG).vType !=0)||(decide ((rd aj a0.au aG).vAt<(-2147483648))))||(decide ((rd aj a0.au aG).vAt>2147483647))))==false))&&((a0.aC==4)==true)) (vP b5 1) rfl rfl rfl rfl (fun hg=>(aH (n:=1) (o':=1) rfl Tryz.runUnderlying129 rfl Tryz.sizeOf3 (by decide) rfl))<|aI (by simp only [sc0,sc1];rfl) ?_
               refine rgs (decide ((rd aj a0.au aG).vType<0)) ((true&&(((a0.aC==5)&&((((rd aj a0.au aG).vType !=0)||(decide ((rd aj a0.au aG).vAt<(-2147483648))))||(decide ((rd aj a0.au aG).vAt>2147483647))))==false))&&((a0.aC==4)==true)) (vI ((rd aj a0.au aG).vType)) rfl rfl rfl rfl (fun hg=>(aK (gvt (vP b5 1) hg rfl) Tryz.isAgg3 (Bz.look 0 rfl) rfl))<|rgs (decide ((rd aj a0.au aG).vType<0)) ((true&&(((a0.aC==5)&&((((rd aj a0.au aG).vType !=0)||(decide ((rd aj a0.au aG).vAt<(-2147483648))))||(decide ((rd aj a0.au aG).vAt>2147483647))))==false))&&((a0.aC==4)==true)) (vI a1) rfl rfl rfl rfl (fun hg=>(aJ rfl))<|rgs (decide ((rd aj a0.au aG).vType<0)) ((true&&(((a0.aC==5)&&((((rd aj a0.au aG).vType !=0)||(decide ((rd aj a0.au aG).vAt<(-2147483648))))||(decide ((rd aj a0.au aG).vAt>2147483647))))==false))&&((a0.aC==4)==true)) (vB (decide ((rd aj a0.au aG).vType≥a1))) rfl rfl rfl rfl (fun hg=>(bK (gvt (vI ((rd aj a0.au aG).vType)) hg rfl) (gvt (vI a1) hg rfl) rfl))<|rgs (a0.aC==4) (true&&(((a0.aC==5)&&((((rd aj a0.au aG).vType !=0)||(decide ((rd aj a0.au aG).vAt<(-2147483648))))||(decide ((rd aj a0.au aG).vAt>2147483647))))==false)) (vB ((decide ((rd aj a0.au aG).vType<0))||(decide ((rd aj a0.au aG).vType≥a1)))) rfl rfl rfl rfl (fun hg=>(dZ (gvt (vB (decide ((rd aj a0.au aG).vType<0))) hg rfl) rfl (fun hp=>(gvt (vB (decide ((rd aj a0.au aG).vType≥a1))) (gu hg hp) rfl))))<|aI (by simp only [sc0,sc1];rfl) ?_
               refine rgs ((a0.aC==5)&&((((rd aj a0.au aG).vType !=0)||(decide ((rd aj a0.au aG).vAt<(-2147483648))))||(decide ((rd aj a0.au aG).vAt>2147483647)))) true (vB ((a0.aC==4)&&((decide ((rd aj a0.au aG).vType<0))||(decide ((rd aj a0.au aG).vType≥a1))))) rfl rfl rfl rfl (fun hg=>(dA (gvt (vB (a0.aC==4)) hg rfl) (fun hp=>(gvt (vB ((decide ((rd aj a0.au aG).vType<0))||(decide ((rd aj a0.au aG).vType≥a1)))) (gu hg hp) rfl)) rfl))<|rs (vB (((a0.aC==5)&&((((rd aj a0.au aG).vType !=0)||(decide ((rd aj a0.au aG).vAt<(-2147483648))))||(decide ((rd aj a0.au aG).vAt>2147483647))))||((a0.aC==4)&&((decide ((rd aj a0.au aG).vType<0))||(decide ((rd aj a0.au aG).vType≥a1)))))) (dZ rfl rfl (fun hp=>(gvt (vB ((a0.aC==4)&&((decide ((rd aj a0.au aG).vType<0))||(decide ((rd aj a0.au aG).vType≥a1))))) (gu rfl hp) rfl))) ?_
               try simp only [sc0,sc1]
               refine aA<|ak<|wp_cond_split (t:=(((a0.aC==5)&&((((rd aj a0.au aG).vType !=0)||(decide ((rd aj a0.au aG).vAt<(-2147483648))))||(decide ((rd aj a0.au aG).vAt>2147483647))))||((a0.aC==4)&&((decide ((rd aj a0.au aG).vType<0))||(decide ((rd aj a0.au aG).vType≥a1)))))) rfl (fun c14=>?_) (fun c14=>?_)
               ·replace H:=bM H c14
                refine wp_seq<|region<|rs (vB false) (aB rfl) ?_
                try simp only [sc0,sc1]
                refine aA<|ak<|wp_ret<|dn<|aW<|gJ<|aW ?_
                obtain rfl:=Option.some.inj H
                obtain rfl:=Option.some.inj G6
                exact bodyPost_ret (aV rfl (aX rfl)) rfl<|⟨rfl,Bz.toE⟩
               ·replace H:=bW H (nt c14)
                refine wp_skip<|dI<|ak<|region<|rs (vI (w64 (aG+1))) (bK rfl rfl rfl)<|rs (vI (w64 (aG+1))) (aJ rfl) ?_
                try simp only [sc0,sc1]
                refine aA<|gZ m (Nat.lt_succ_self m) rfl ⟨(w64 (aG+1)),(eU strEq dB ((rd aj a0.au aG).aQ) true),es2,cl2,(fit rfl),H,ho2,Bz.tail⟩
             ·replace H:=bW H (nt c12)
              refine wp_exit<|eY ?_
              obtain rfl:=Option.some.inj H
              refine iG rfl ⟨_,rfl,sS,sU,(fit rfl),jD,uf⟩
           ·rintro us w17 ⟨s1,rfl,xQ,xR,ni,lC,Jw⟩
            obtain ⟨uo1,rfl⟩:=unj ni
            replace H:=G6
            clear G6
            try simp only [patch,sc0,sc1]
            refine ak<|wp_seq<|region<|rs (vB true) (aB rfl) ?_
            try simp only [sc0,sc1]
            refine aA<|ak<|wp_ret ?_
            obtain rfl:=Option.some.inj H
            exact bodyPost_ret (aV rfl (aX rfl)) rfl<|⟨rfl,Jw.toE⟩

end Go.Proofs.YtecpbadkdpbkpaaGreatDoor
namespace Go.Proofs.YtecpbadkdpbkpaaGreatDoor
open Go.RowKit Go.M
def jR.f (a0:bF):Option (Bool):=some ((a0.aC !=2)&&(a0.aC !=3))
set_option maxRecDepth 20000 in
set_option maxHeartbeats 4000000 in
theorem jR.calls (a0:bF) (jS:Option Addr) (jT:Nat) {h0:View} {w0:World} (hv:jL h0 w0) (sK:Rd eH h0 jS a0.au) (yc:a0.au.length≤jT) {r:Bool} (H:jR.f a0=some r):Calls Tryz.prog 116 #[Value.agg #[vI a0.aC,vS a0.aQ,vI a0.bG.aP,vB a0.bG.aN,vI a0.dM,vI a0.vN,vL jS a0.au.length jT]] w0 (fun e w1=>e= .returned (vB r)∧Ext w0 w1):=by
 unfold jR.f at H
 have HS:St [] h0 w0 h0 [] w0:=St.init hv
 go_enter Tryz.func116,Tryz.ntmps116
 refine wp_seq<|region<|dU rfl rfl (dY (cs:=#[vI a0.aC,vS a0.aQ,vI a0.bG.aP,vB a0.bG.aN,vI a0.dM,vI a0.vN,vL jS a0.au.length jT]) rfl rfl) ?_
 rintro w1 _ hE1 ⟨b1,rfl,ge1,hb1⟩
 have HS1:=HS.new hE1 ge1 hb1
 refine rs (vB false) (aB rfl) ?_
 try simp only [sc0,sc1]
 refine aA<|ak<|wp_seq<|region<|rs (vP b1 0) (aH (n:=1) (o':=0) rfl Tryz.runUnderlying56 rfl Tryz.sizeOf3 (by decide) rfl)<|rs (vI a0.aC) (aK rfl Tryz.isAgg3 (HS1.look 0 rfl) rfl)<|rs (vB (a0.aC !=2)) (bK rfl rfl rfl)<|rs (vB (a0.aC !=2)) (aJ rfl)<|aI (by simp only [sc0,sc1];rfl) ?_
 refine rgs (a0.aC !=2) true (vP b1 0) rfl rfl rfl rfl (fun hg=>(aH (n:=1) (o':=0) rfl Tryz.runUnderlying56 rfl Tryz.sizeOf3 (by decide) rfl))<|rgs (a0.aC !=2) true (vI a0.aC) rfl rfl rfl rfl (fun hg=>(aK (gvt (vP b1 0) hg rfl) Tryz.isAgg3 (HS1.look 0 rfl) rfl))<|rgs (a0.aC !=2) true (vB (a0.aC !=3)) rfl rfl rfl rfl (fun hg=>(bK (gvt (vI a0.aC) hg rfl) rfl rfl))<|rs (vB ((a0.aC !=2)&&(a0.aC !=3))) (dA rfl (fun hp=>(gvt (vB (a0.aC !=3)) (gu rfl hp) rfl)) rfl)<|aI (by simp only [sc0,sc1];rfl) ?_
 refine rs (vB ((a0.aC !=2)&&(a0.aC !=3))) (aB rfl) ?_
 try simp only [sc0,sc1]
 refine aA<|ak<|wp_ret ?_
 obtain rfl:=Option.some.inj H
 exact bodyPost_ret (aV rfl (aX rfl)) rfl<|⟨rfl,HS1.toE⟩

end Go.Proofs.YtecpbadkdpbkpaaGreatDoor
namespace Go.Proofs.YtecpbadkdpbkpaaGreatDoor
open Go.RowKit Go.M
def bH.l0 (a0:List bF) (a1:(bF→Option Bool)):Nat→Int→Option ((Int)⊕(Unit))
 |0,_=>none
 |m+1,aG=>if (decide (aG<(a0.length:Int)))=true then (if 0≤aG∧aG<a0.length then ((a1 (rd ah a0 aG)).bind fun v1=>(if v1=true then (some (.inl aG)) else (bH.l0 a0 a1 m (IntKind.wrap .i64 (aG+1))))) else none) else (some (.inr ()))
def bH.f (k:Nat) (a0:List bF) (a1:bF→Option Bool):Option (Int):=(bH.l0 a0 a1 k 0).bind fun xx1=>(match xx1 with| .inl r=>some r| .inr s1=>some (-1))
set_option maxRecDepth 20000 in
set_option maxHeartbeats 4000000 in
theorem bH.calls (k:Nat) (a0:List bF) (a1:bF→Option Bool) (bU:Option Addr) (bV:Nat) (J4:Nat) (cap1:List Value) {h0:View} {w0:World} (hv:jL h0 w0) (fK:Rd dV h0 bU a0) (iw:a0.length≤bV) (Um:∀args w,(callFunc J4 args).run Tryz.prog w= .ok (.enter J4 args) w) (Yx:∀(z0:bF) (zD:Option Addr) (zF:Nat) (h:View) (w:World),Ext w0 w→Sub h0 h→jL h w→Rd eH h zD z0.au→z0.au.length≤zF→∀(r:Bool),a1 z0=some r→Calls Tryz.prog J4 ([Value.agg #[vI z0.aC,vS z0.aQ,vI z0.bG.aP,vB z0.bG.aN,vI z0.dM,vI z0.vN,vL zD z0.au.length zF]]++cap1).toArray w (fun e w1=>e= .returned (vB r)∧Ext w w1)) {r:Int} (H:bH.f k a0 a1=some r):Calls Tryz.prog 121 #[vL bU a0.length bV,Value.func (.func J4) #[] cap1.toArray] w0 (fun e w1=>e= .returned (vI r)∧Ext w0 w1):=by
 unfold bH.f at H
 have HS:St [] h0 w0 h0 [] w0:=St.init hv
 go_enter Tryz.func121,Tryz.ntmps121
 refine wp_seq<|region<|rs (vI 0) (aB rfl) ?_
 try simp only [sc0,sc1]
 refine aA<|ak<|wp_seq<|wp_seq<|region<|rs (vL bU a0.length bV) (aJ rfl)<|rs (vI (a0.length:Int)) (jJ rfl Tryz.runUnderlying22)<|rs (vI 0) (aJ rfl) ?_
 try simp only [sc0,sc1]
 refine aA<|ak ?_
 obtain ⟨xx1,H,G1⟩:=bJ H
 refine jm [4,5,8,9,10,11,12,13,14,15,16,17,18] (fun m us w'=>∃(aG:Int),Fit us (fun uy1=>[(uy1 0),(uy1 1),vI aG,(uy1 3),(uy1 4),(uy1 5),(uy1 6),(uy1 7),(uy1 8),(uy1 9),(uy1 10),(uy1 11),(uy1 12)])∧bH.l0 a0 a1 m aG=some xx1∧St [] h0 w0 h0 [] w') (fun us w'=>∃(s1:Unit),xx1= .inr s1∧Fit us (fun uo1=>[(uo1 0),(uo1 1),(uo1 2),(uo1 3),(uo1 4),(uo1 5),(uo1 6),(uo1 7),(uo1 8),(uo1 9),(uo1 10),(uo1 11),(uo1 12)])∧St [] h0 w0 h0 [] w') k ⟨0,(fit rfl),H,HS⟩ ?_ ?_
 ·rintro m us w1 ⟨aG,ng,H,HS1⟩
  obtain ⟨uy1,rfl⟩:=unj ng
  cases m with
  |zero=>exact absurd H (by simp [bH.l0])
  |succ m=>
   rw [bH.l0] at H
   try simp only [patch,sc0,sc1]
   refine wp_seq<|region<|rs (vB (decide (aG<(a0.length:Int)))) (bK rfl rfl rfl) ?_
   try simp only [sc0,sc1]
   refine aA<|ak<|wp_seq<|wp_cond_split (t:=(decide (aG<(a0.length:Int)))) rfl (fun c1=>?_) (fun c1=>?_)
   ·replace H:=bM H c1
    refine wp_skip<|ak<|wp_seq<|wp_block<|wp_seq<|region<|rs (vI aG) (aJ rfl)<|rs (vI aG) (aB rfl) ?_
    try simp only [sc0,sc1]
    refine aA<|ak<|wp_seq<|region<|rs (Value.func (.func J4) #[] cap1.toArray) (aJ rfl)<|rs (vL bU a0.length bV) (aJ rfl)<|rs (vI aG) (aJ rfl) ?_
    obtain ⟨hi1,H⟩:=eG H
    obtain ⟨ad1,dG,dJ,e1,lu,jQ,iH⟩:=gy fK hi1.1 hi1.2
    refine rs (Value.pointer (some (Addr.add ad1 (aG.toNat*7)))) (dP (sz:=7) rfl e1 rfl hi1.1 hi1.2 Tryz.runUnderlying22 Tryz.sizeOf56)<|aI (by simp only [sc0,sc1];rfl) ?_
    refine rs (Value.agg #[vI ((rd ah a0 aG).aC),vS ((rd ah a0 aG).aQ),vI ((rd ah a0 aG).bG.aP),vB ((rd ah a0 aG).bG.aN),vI ((rd ah a0 aG).dM),vI ((rd ah a0 aG).vN),vL dG ((rd ah a0 aG).au).length dJ]) (ig rfl Tryz.isAgg56 (lu.sees HS1.sees) Tryz.sizeOf56) ?_
    obtain ⟨v1,H1,H⟩:=bJ H
    refine run_eq (v:=vB v1) rfl rfl (IZ (vs:=[Value.agg #[vI ((rd ah a0 aG).aC),vS ((rd ah a0 aG).aQ),vI ((rd ah a0 aG).bG.aP),vB ((rd ah a0 aG).bG.aN),vI ((rd ah a0 aG).dM),vI ((rd ah a0 aG).vN),vL dG ((rd ah a0 aG).au).length dJ]]) (caps:=cap1) Um rfl rfl (Yx (rd ah a0 aG) dG dJ _ _ HS1.toE HS1.sub HS1.sees iH jQ _ H1)) ?_
    intro w2 hE1
    have HS2:=HS1.step hE1
    try simp only [sc0,sc1]
    refine aA<|ak<|wp_cond_split (t:=v1) rfl (fun c2=>?_) (fun c2=>?_)
    ·replace H:=bM H c2
     refine wp_seq<|region<|rs (vI aG) (aJ rfl)<|rs (vI aG) (aB rfl) ?_
     try simp only [sc0,sc1]
     refine aA<|ak<|wp_ret<|dn<|aW<|gJ<|aW ?_
     obtain rfl:=Option.some.inj H
     obtain rfl:=Option.some.inj G1
     exact bodyPost_ret (aV rfl (aX rfl)) rfl<|⟨rfl,HS2.toE⟩
    ·replace H:=bW H (nt c2)
     refine wp_skip<|dI<|ak<|region<|rs (vI (w64 (aG+1))) (bK rfl rfl rfl)<|rs (vI (w64 (aG+1))) (aJ rfl) ?_
     try simp only [sc0,sc1]
     refine aA<|gZ m (Nat.lt_succ_self m) rfl ⟨(w64 (aG+1)),(fit rfl),H,HS2⟩
   ·replace H:=bW H (nt c1)
    refine wp_exit<|eY ?_
    obtain rfl:=Option.some.inj H
    refine iG rfl ⟨_,rfl,(fit rfl),HS1⟩
 ·rintro us w3 ⟨s1,rfl,ni,HS3⟩
  obtain ⟨uo1,rfl⟩:=unj ni
  replace H:=G1
  clear G1
  try simp only [patch,sc0,sc1]
  refine ak<|wp_seq<|region<|rs (vI (-1)) (aB rfl) ?_
  try simp only [sc0,sc1]
  refine aA<|ak<|wp_ret ?_
  obtain rfl:=Option.some.inj H
  exact bodyPost_ret (aV rfl (aX rfl)) rfl<|⟨rfl,HS3.toE⟩

end Go.Proofs.YtecpbadkdpbkpaaGreatDoor
namespace Go.Proofs.YtecpbadkdpbkpaaGreatDoor
open Go.RowKit Go.M
def bY.f (k:Nat) (a0:List bF) (a1:bF→Option Bool):Option (Bool):=(bH.f k a0 a1).bind fun v1=>(some (decide (v1≥0)))
set_option maxRecDepth 20000 in
set_option maxHeartbeats 4000000 in
theorem bY.calls (k:Nat) (a0:List bF) (a1:bF→Option Bool) (bU:Option Addr) (bV:Nat) (J4:Nat) (cap1:List Value) {h0:View} {w0:World} (hv:jL h0 w0) (fK:Rd dV h0 bU a0) (iw:a0.length≤bV) (Um:∀args w,(callFunc J4 args).run Tryz.prog w= .ok (.enter J4 args) w) (Yx:∀(z0:bF) (zD:Option Addr) (zF:Nat) (h:View) (w:World),Ext w0 w→Sub h0 h→jL h w→Rd eH h zD z0.au→z0.au.length≤zF→∀(r:Bool),a1 z0=some r→Calls Tryz.prog J4 ([Value.agg #[vI z0.aC,vS z0.aQ,vI z0.bG.aP,vB z0.bG.aN,vI z0.dM,vI z0.vN,vL zD z0.au.length zF]]++cap1).toArray w (fun e w1=>e= .returned (vB r)∧Ext w w1)) {r:Bool} (H:bY.f k a0 a1=some r):Calls Tryz.prog 118 #[vL bU a0.length bV,Value.func (.func J4) #[] cap1.toArray] w0 (fun e w1=>e= .returned (vB r)∧Ext w0 w1):=by
 unfold bY.f at H
 have HS:St [] h0 w0 h0 [] w0:=St.init hv
 go_enter Tryz.func118,Tryz.ntmps118
 refine wp_seq<|region<|rs (vB false) (aB rfl) ?_
 try simp only [sc0,sc1]
 refine aA<|ak<|wp_seq<|region<|rs (vL bU a0.length bV) (aJ rfl)<|rs (Value.func (.func J4) #[] cap1.toArray) (aJ rfl) ?_
 obtain ⟨v1,H1,H⟩:=bJ H
 refine run_eq (v:=vI v1) rfl rfl (bf Tryz.call121 rfl rfl (bH.calls k a0 a1 bU bV J4 cap1 HS.sees fK iw Um (fun z0 zD zF h w hE hs hv NG ET r H=>Yx z0 zD zF h w (HS.toE.then hE) (HS.sub.then hs) hv NG ET r H) H1)) ?_
 intro w1 hE1
 have HS1:=HS.step hE1
 refine rs (vB (decide (v1≥0))) (bK rfl rfl rfl)<|aI (by simp only [sc0,sc1];rfl) ?_
 refine rs (vB (decide (v1≥0))) (aB rfl) ?_
 try simp only [sc0,sc1]
 refine aA<|ak<|wp_ret ?_
 obtain rfl:=Option.some.inj H
 exact bodyPost_ret (aV rfl (aX rfl)) rfl<|⟨rfl,HS1.toE⟩

end Go.Proofs.YtecpbadkdpbkpaaGreatDoor
namespace Go.Proofs.YtecpbadkdpbkpaaGreatDoor
open Go.RowKit Go.M
def iC.l0 (x0:aU):Nat→Int→Int→ByteArray→Int→Bool→Int→Int→(List dw)→Option ((Bool)⊕(Int×ByteArray×Int×Bool×Int×Int×(List dw)))
 |0,_,_,_,_,_,_,_,_=>none
 |m+1,aG,dB,jl,uO,Bo,mY,OE,J5=>if (decide (aG<(x0.ay.length:Int)))=true then ((jR.f (⟨dB,jl,(⟨uO,Bo⟩:dL),mY,OE,J5⟩:bF)).bind fun v1=>(if v1=true then (some (.inl false)) else (if 0≤mY∧mY<x0.ay.length then (iC.l0 x0 m (IntKind.wrap .i64 (aG+1)) ((rd ah x0.ay mY).aC) ((rd ah x0.ay mY).aQ) ((rd ah x0.ay mY).bG.aP) ((rd ah x0.ay mY).bG.aN) ((rd ah x0.ay mY).dM) ((rd ah x0.ay mY).vN) ((rd ah x0.ay mY).au)) else none))) else (some (.inr (dB,jl,uO,Bo,mY,OE,J5)))
def iC.f (k:Nat) (a0:bF) (x0:aU):Option (Bool):=(iC.l0 x0 k 0 a0.aC a0.aQ a0.bG.aP a0.bG.aN a0.dM a0.vN a0.au).bind fun xx1=>(match xx1 with| .inl r=>some r| .inr s1=>(jR.f (⟨s1.1,s1.2.1,(⟨s1.2.2.1,s1.2.2.2.1⟩:dL),s1.2.2.2.2.1,s1.2.2.2.2.2.1,s1.2.2.2.2.2.2⟩:bF)).bind fun v2=>(some (!v2)))
set_option maxRecDepth 20000 in
set_option maxHeartbeats 4000000 in
theorem iC.calls (k:Nat) (a0:bF) (x0:aU) (jS:Option Addr) (jT:Nat) (bx0:Nat) (zT:Option Addr) (zU:Nat) {h0:View} {w0:World} (hv:jL h0 w0) (sK:Rd eH h0 jS a0.au) (yc:a0.au.length≤jT) (NH:Rd dV h0 zT x0.ay) (RF:x0.ay.length≤zU) (hx0:w0.heap[bx0]?=some (.cells #[vL zT x0.ay.length zU] 24 (0,0))) {r:Bool} (H:iC.f k a0 x0=some r):Calls Tryz.prog 158 #[Value.agg #[vI a0.aC,vS a0.aQ,vI a0.bG.aP,vB a0.bG.aN,vI a0.dM,vI a0.vN,vL jS a0.au.length jT],vP bx0 0] w0 (fun e w1=>e= .returned (vB r)∧Ext w0 w1):=by
 unfold iC.f at H
 have HS:St [] h0 w0 h0 [] w0:=St.init hv
 go_enter Tryz.func158,Tryz.ntmps158
 refine wp_seq<|region<|dU rfl rfl (dY (cs:=#[vI a0.aC,vS a0.aQ,vI a0.bG.aP,vB a0.bG.aN,vI a0.dM,vI a0.vN,vL jS a0.au.length jT]) rfl rfl) ?_
 rintro w1 _ hE1 ⟨b1,rfl,ge1,hb1⟩
 have HS1:=HS.new hE1 ge1 hb1
 refine rs (vB false) (aB rfl) ?_
 try simp only [sc0,sc1]
 refine aA<|ak<|wp_seq<|wp_seq<|region<|rs (vP bx0 0) (aH (n:=1) (o':=0) rfl Tryz.runUnderlying24 rfl Tryz.sizeOf22 (by decide) rfl)<|rs (vL zT x0.ay.length zU) (aK rfl Tryz.isAgg22 (oZ hx0 HS1.toE) rfl)<|rs (vI (x0.ay.length:Int)) (jJ rfl Tryz.runUnderlying22)<|rs (vI 0) (aJ rfl) ?_
 try simp only [sc0,sc1]
 refine aA<|ak ?_
 obtain ⟨xx1,H,G1⟩:=bJ H
 refine jm [3,7,8,9,10,11,12,13,14,15,16,17] (fun m us w'=>∃aG dB:Int,∃jl:ByteArray,∃uO:Int,∃Bo:Bool,∃mY OE:Int,∃J5:List dw,∃(EU:Option Addr) (EW:Nat),Fit us (fun uy1=>[(uy1 0),vI aG,(uy1 2),(uy1 3),(uy1 4),(uy1 5),(uy1 6),(uy1 7),(uy1 8),(uy1 9),(uy1 10),(uy1 11)])∧iC.l0 x0 m aG dB jl uO Bo mY OE J5=some xx1∧J5.length≤EW∧Rd eH h0 EU J5∧St [] h0 w0 h0 [(some b1, .cells #[vI dB,vS jl,vI uO,vB Bo,vI mY,vI OE,vL EU J5.length EW] 56 (0,0))] w') (fun us w'=>∃(s1:Int×ByteArray×Int×Bool×Int×Int×(List dw)),xx1= .inr s1∧∃(Jy:Option Addr) (Jz:Nat),Fit us (fun uo1=>[(uo1 0),(uo1 1),(uo1 2),(uo1 3),(uo1 4),(uo1 5),(uo1 6),(uo1 7),(uo1 8),(uo1 9),(uo1 10),(uo1 11)])∧s1.2.2.2.2.2.2.length≤Jz∧Rd eH h0 Jy s1.2.2.2.2.2.2∧St [] h0 w0 h0 [(some b1, .cells #[vI s1.1,vS s1.2.1,vI s1.2.2.1,vB s1.2.2.2.1,vI s1.2.2.2.2.1,vI s1.2.2.2.2.2.1,vL Jy s1.2.2.2.2.2.2.length Jz] 56 (0,0))] w') k ⟨0,a0.aC,a0.aQ,a0.bG.aP,a0.bG.aN,a0.dM,a0.vN,a0.au,jS,jT,(fit rfl),H,yc,sK,HS1⟩ ?_ ?_
 ·rintro m us w2 ⟨aG,dB,jl,uO,Bo,mY,OE,J5,EU,EW,ng,H,RG,RH,HS2⟩
  obtain ⟨uy1,rfl⟩:=unj ng
  cases m with
  |zero=>exact absurd H (by simp [iC.l0])
  |succ m=>
   rw [iC.l0] at H
   try simp only [patch,sc0,sc1]
   refine wp_seq<|region<|rs (vB (decide (aG<(x0.ay.length:Int)))) (bK rfl rfl rfl) ?_
   try simp only [sc0,sc1]
   refine aA<|ak<|wp_seq<|wp_cond_split (t:=(decide (aG<(x0.ay.length:Int)))) rfl (fun c1=>?_) (fun c1=>?_)
   ·replace H:=bM H c1
    refine wp_skip<|ak<|wp_seq<|wp_block<|wp_seq<|wp_seq<|region<|rs (Value.agg #[vI dB,vS jl,vI uO,vB Bo,vI mY,vI OE,vL EU J5.length EW]) (aZ (n:=7) (vs:=[vI dB,vS jl,vI uO,vB Bo,vI mY,vI OE,vL EU J5.length EW]) rfl Tryz.isAgg56 (HS2.look 0 rfl) Tryz.sizeOf56 rfl rfl) ?_
    obtain ⟨v1,H1,H⟩:=bJ H
    refine run_eq (v:=vB v1) rfl rfl (bf Tryz.call116 rfl rfl (jR.calls (⟨dB,jl,(⟨uO,Bo⟩:dL),mY,OE,J5⟩:bF) EU EW HS2.sees RH RG H1)) ?_
    intro w3 hE2
    have HS3:=HS2.step hE2
    try simp only [sc0,sc1]
    refine aA<|ak<|wp_cond_split (t:=v1) rfl (fun c2=>?_) (fun c2=>?_)
    ·replace H:=bM H c2
     refine wp_seq<|region<|rs (vB false) (aB rfl) ?_
     try simp only [sc0,sc1]
     refine aA<|ak<|wp_ret<|aW<|dn<|aW<|gJ<|aW ?_
     obtain rfl:=Option.some.inj H
     obtain rfl:=Option.some.inj G1
     exact bodyPost_ret (aV rfl (aX rfl)) rfl<|⟨rfl,HS3.toE⟩
    ·replace H:=bW H (nt c2)
     refine wp_skip<|ak<|region<|rs (vP bx0 0) (aH (n:=1) (o':=0) rfl Tryz.runUnderlying24 rfl Tryz.sizeOf22 (by decide) rfl)<|rs (vL zT x0.ay.length zU) (aK rfl Tryz.isAgg22 (oZ hx0 HS3.toE) rfl)<|rs (vP b1 4) (aH (n:=1) (o':=4) rfl Tryz.runUnderlying56 rfl Tryz.sizeOf3 (by decide) rfl)<|rs (vI mY) (aK rfl Tryz.isAgg3 (HS3.look 0 rfl) rfl)<|aI (by simp only [sc0,sc1];rfl) ?_
     obtain ⟨hi1,H⟩:=eG H
     obtain ⟨ad1,dG,dJ,e1,lu,jQ,iH⟩:=gy NH hi1.1 hi1.2
     refine rs (Value.pointer (some (Addr.add ad1 (mY.toNat*7)))) (dP (sz:=7) rfl e1 rfl hi1.1 hi1.2 Tryz.runUnderlying22 Tryz.sizeOf56)<|rs (Value.agg #[vI ((rd ah x0.ay mY).aC),vS ((rd ah x0.ay mY).aQ),vI ((rd ah x0.ay mY).bG.aP),vB ((rd ah x0.ay mY).bG.aN),vI ((rd ah x0.ay mY).dM),vI ((rd ah x0.ay mY).vN),vL dG ((rd ah x0.ay mY).au).length dJ]) (ig rfl Tryz.isAgg56 (lu.sees HS3.sees) Tryz.sizeOf56)<|fV (i:=0) (cs:=[vI dB,vS jl,vI uO,vB Bo,vI mY,vI OE,vL EU J5.length EW]) (cs':=[vI ((rd ah x0.ay mY).aC),vS ((rd ah x0.ay mY).aQ),vI ((rd ah x0.ay mY).bG.aP),vB ((rd ah x0.ay mY).bG.aN),vI ((rd ah x0.ay mY).dM),vI ((rd ah x0.ay mY).vN),vL dG ((rd ah x0.ay mY).au).length dJ]) (vs:=[vI ((rd ah x0.ay mY).aC),vS ((rd ah x0.ay mY).aQ),vI ((rd ah x0.ay mY).bG.aP),vB ((rd ah x0.ay mY).bG.aN),vI ((rd ah x0.ay mY).dM),vI ((rd ah x0.ay mY).vN),vL dG ((rd ah x0.ay mY).au).length dJ]) (bs':=[(some b1, .cells #[vI ((rd ah x0.ay mY).aC),vS ((rd ah x0.ay mY).aQ),vI ((rd ah x0.ay mY).bG.aP),vB ((rd ah x0.ay mY).bG.aN),vI ((rd ah x0.ay mY).dM),vI ((rd ah x0.ay mY).vN),vL dG ((rd ah x0.ay mY).au).length dJ] 56 (0,0))]) rfl rfl Tryz.sizeOf56 rfl rfl (by decide) rfl HS3 rfl (Nat.le_of_ble_eq_true rfl) rfl rfl ?_
     intro w4 HS4
     try simp only [sc0,sc1]
     refine aA<|dI<|ak<|region<|rs (vI (w64 (aG+1))) (bK rfl rfl rfl)<|rs (vI (w64 (aG+1))) (aJ rfl) ?_
     try simp only [sc0,sc1]
     refine aA<|gZ m (Nat.lt_succ_self m) rfl ⟨(w64 (aG+1)),(rd ah x0.ay mY).aC,(rd ah x0.ay mY).aQ,(rd ah x0.ay mY).bG.aP,(rd ah x0.ay mY).bG.aN,(rd ah x0.ay mY).dM,(rd ah x0.ay mY).vN,(rd ah x0.ay mY).au,dG,dJ,(fit rfl),H,jQ,iH,HS4⟩
   ·replace H:=bW H (nt c1)
    refine wp_exit<|eY ?_
    obtain rfl:=Option.some.inj H
    refine iG rfl ⟨_,rfl,EU,EW,(fit rfl),RG,RH,HS2⟩
 ·rintro us w5 ⟨s1,rfl,Jy,Jz,ni,WT,WU,HS5⟩
  obtain ⟨uo1,rfl⟩:=unj ni
  replace H:=G1
  clear G1
  try simp only [patch,sc0,sc1]
  refine ak<|wp_seq<|region<|rs (Value.agg #[vI s1.1,vS s1.2.1,vI s1.2.2.1,vB s1.2.2.2.1,vI s1.2.2.2.2.1,vI s1.2.2.2.2.2.1,vL Jy s1.2.2.2.2.2.2.length Jz]) (aZ (n:=7) (vs:=[vI s1.1,vS s1.2.1,vI s1.2.2.1,vB s1.2.2.2.1,vI s1.2.2.2.2.1,vI s1.2.2.2.2.2.1,vL Jy s1.2.2.2.2.2.2.length Jz]) rfl Tryz.isAgg56 (HS5.look 0 rfl) Tryz.sizeOf56 rfl rfl) ?_
  obtain ⟨v2,H2,H⟩:=bJ H
  refine run_eq (v:=vB v2) rfl rfl (bf Tryz.call116 rfl rfl (jR.calls (⟨s1.1,s1.2.1,(⟨s1.2.2.1,s1.2.2.2.1⟩:dL),s1.2.2.2.2.1,s1.2.2.2.2.2.1,s1.2.2.2.2.2.2⟩:bF) Jy Jz HS5.sees WU WT H2)) ?_
  intro w6 hE3
  have HS6:=HS5.step hE3
  refine rs (vB (!v2)) (lK rfl)<|rs (vB (!v2)) (aB rfl) ?_
  try simp only [sc0,sc1]
  refine aA<|ak<|wp_ret ?_
  obtain rfl:=Option.some.inj H
  exact bodyPost_ret (aV rfl (aX rfl)) rfl<|⟨rfl,HS6.toE⟩

end Go.Proofs.YtecpbadkdpbkpaaGreatDoor
namespace Go.Proofs.YtecpbadkdpbkpaaGreatDoor
open Go.RowKit Go.M
def nZ.f (k:Nat) (a0:aU):Option (Bool):=(bY.f k a0.ay (fun z0=>iC.f k z0 a0)).bind fun v1=>(some (!v1))
set_option maxRecDepth 20000 in
set_option maxHeartbeats 4000000 in
theorem nZ.calls (k:Nat) (a0:aU) (bU:Option Addr) (bV:Nat) {h0:View} {w0:World} (hv:jL h0 w0) (fK:Rd dV h0 bU a0.ay) (iw:a0.ay.length≤bV) {r:Bool} (H:nZ.f k a0=some r):Calls Tryz.prog 117 #[Value.agg #[Value.slice bU a0.ay.length bV]] w0 (fun e w1=>e= .returned (Value.bool r)∧Ext w0 w1):=by
  unfold nZ.f at H
  have HS:St [] h0 w0 h0 [] w0:=St.init hv
  go_enter Tryz.func117,Tryz.ntmps117
  refine wp_seq ?_
  refine region ?_
  refine dU rfl rfl (dY (cs:=#[Value.slice bU a0.ay.length bV]) rfl rfl) ?_
  rintro w1 _ hE1 ⟨b1,rfl,ge1,hb1⟩
  have HS1:=HS.new hE1 ge1 hb1
  refine dS (v:=Value.bool false) rfl rfl (aB rfl) ?_
  try simp only [List.set_cons_zero,List.set_cons_succ]
  refine aA ?_
  refine ak ?_
  refine wp_seq ?_
  refine region ?_
  refine dS (v:=Value.pointer (some ⟨b1,0,none⟩)) rfl rfl (aH (n:=1) (o':=0) rfl Tryz.runUnderlying24 rfl Tryz.sizeOf22 (by decide) rfl) ?_
  refine dS (v:=Value.slice bU a0.ay.length bV) rfl rfl (aK rfl Tryz.isAgg22 (HS1.look 0 rfl) rfl) ?_
  refine dS (v:=Value.func (.func 158) #[] #[Value.pointer (some ⟨b1,0,none⟩)]) rfl rfl (wG (vs:=[Value.pointer (some ⟨b1,0,none⟩)]) rfl) ?_
  obtain ⟨v1,H1,H⟩:=bJ H
  refine run_eq (v:=Value.bool v1) rfl rfl (bf Tryz.call118 rfl rfl (bY.calls k a0.ay (fun z0=>iC.f k z0 a0) bU bV 158 [Value.pointer (some ⟨b1,0,none⟩)] HS1.sees fK iw Tryz.call158 (fun z0 zD zF h w hE hs hv NG ET r H=>iC.calls k z0 a0 zD zF b1 bU bV hv NG ET (fK.ext hs) iw (oZ (HS1.look 0 rfl) hE) H) H1)) ?_
  intro w2 hE2
  have HS2:=HS1.step hE2
  refine aI (by simp only [List.set_cons_zero,List.set_cons_succ];rfl) ?_
  refine dS (v:=Value.bool (!v1)) rfl rfl (lK rfl) ?_
  refine dS (v:=Value.bool (!v1)) rfl rfl (aB rfl) ?_
  try simp only [List.set_cons_zero,List.set_cons_succ]
  refine aA ?_
  refine ak ?_
  refine wp_ret ?_
  obtain rfl:=Option.some.inj H
  refine bodyPost_ret (aV rfl (aX rfl)) rfl ?_
  exact ⟨rfl,HS2.toE⟩

end Go.Proofs.YtecpbadkdpbkpaaGreatDoor
namespace Go.Proofs.YtecpbadkdpbkpaaGreatDoor
open Go.RowKit Go.M
def iD.l0 (a0:bF) (a1:List Int):Nat→Int→Int→Option ((Bool)⊕(Int))
 |0,_,_=>none
 |m+1,aG,dB=>if (decide (dB<(a0.au.length:Int)))=true then (if 0≤dB∧dB<a0.au.length then (if ((decide ((rd aj a0.au dB).vAt<aG))||(decide ((rd aj a0.au dB).vAt>512)))=true then (some (.inl false)) else (if 0≤(rd aj a0.au dB).vType∧(rd aj a0.au dB).vType<a1.length then (iD.l0 a0 a1 m (IntKind.wrap .i64 ((rd aj a0.au dB).vAt+(rd 0 a1 ((rd aj a0.au dB).vType)))) (IntKind.wrap .i64 (dB+1))) else none)) else none) else (some (.inr aG))
def iD.f (k:Nat) (a0:bF) (a1:List Int):Option (Bool):=(iD.l0 a0 a1 k 0 0).bind fun xx1=>(match xx1 with| .inl r=>some r| .inr s1=>some (decide (s1≤a0.vN)))
set_option maxRecDepth 20000 in
set_option maxHeartbeats 4000000 in
theorem iD.calls (k:Nat) (a0:bF) (a1:List Int) (jS:Option Addr) (jT:Nat) (Dt:Option Addr) (Du:Nat) {h0:View} {w0:World} (hv:jL h0 w0) (sK:Rd eH h0 jS a0.au) (yc:a0.au.length≤jT) (Gv:Rd (Kd.int .i64) h0 Dt a1) (WV:a1.length≤Du) {r:Bool} (H:iD.f k a0 a1=some r):Calls Tryz.prog 120 #[Value.agg #[vI a0.aC,vS a0.aQ,vI a0.bG.aP,vB a0.bG.aN,vI a0.dM,vI a0.vN,vL jS a0.au.length jT],vL Dt a1.length Du] w0 (fun e w1=>e= .returned (vB r)∧Ext w0 w1):=by
 unfold iD.f at H
 have HS:St [] h0 w0 h0 [] w0:=St.init hv
 go_enter Tryz.func120,Tryz.ntmps120
 refine wp_seq<|region<|dU rfl rfl (dY (cs:=#[vI a0.aC,vS a0.aQ,vI a0.bG.aP,vB a0.bG.aN,vI a0.dM,vI a0.vN,vL jS a0.au.length jT]) rfl rfl) ?_
 rintro w1 _ hE1 ⟨b1,rfl,ge1,hb1⟩
 have HS1:=HS.new hE1 ge1 hb1
 refine rs (vB false) (aB rfl) ?_
 try simp only [sc0,sc1]
 refine aA<|ak<|wp_seq<|region<|rs (vI 0) (aB rfl) ?_
 try simp only [sc0,sc1]
 refine aA<|ak<|wp_seq<|wp_seq<|region<|rs (vP b1 6) (aH (n:=1) (o':=6) rfl Tryz.runUnderlying56 rfl Tryz.sizeOf54 (by decide) rfl)<|rs (vL jS a0.au.length jT) (aK rfl Tryz.isAgg54 (HS1.look 0 rfl) rfl)<|rs (vI (a0.au.length:Int)) (jJ rfl Tryz.runUnderlying54)<|rs (vI 0) (aJ rfl) ?_
 try simp only [sc0,sc1]
 refine aA<|ak ?_
 obtain ⟨xx1,H,G1⟩:=bJ H
 refine jm [4,5,7,11,12,13,14,15,16,17,18,19,20,21,22,23,24,25,26,27,28,29,30,31,32] (fun m us w'=>∃aG dB:Int,Fit us (fun uy1=>[(uy1 0),vI aG,(uy1 2),vI dB,(uy1 4),(uy1 5),(uy1 6),(uy1 7),(uy1 8),(uy1 9),(uy1 10),(uy1 11),(uy1 12),(uy1 13),(uy1 14),(uy1 15),(uy1 16),(uy1 17),(uy1 18),(uy1 19),(uy1 20),(uy1 21),(uy1 22),(uy1 23),(uy1 24)])∧iD.l0 a0 a1 m aG dB=some xx1∧St [] h0 w0 h0 [(some b1, .cells #[vI a0.aC,vS a0.aQ,vI a0.bG.aP,vB a0.bG.aN,vI a0.dM,vI a0.vN,vL jS a0.au.length jT] 56 (0,0))] w') (fun us w'=>∃(s1:Int),xx1= .inr s1∧Fit us (fun uo1=>[(uo1 0),vI s1,(uo1 2),(uo1 3),(uo1 4),(uo1 5),(uo1 6),(uo1 7),(uo1 8),(uo1 9),(uo1 10),(uo1 11),(uo1 12),(uo1 13),(uo1 14),(uo1 15),(uo1 16),(uo1 17),(uo1 18),(uo1 19),(uo1 20),(uo1 21),(uo1 22),(uo1 23),(uo1 24)])∧St [] h0 w0 h0 [(some b1, .cells #[vI a0.aC,vS a0.aQ,vI a0.bG.aP,vB a0.bG.aN,vI a0.dM,vI a0.vN,vL jS a0.au.length jT] 56 (0,0))] w') k ⟨0,0,(fit rfl),H,HS1⟩ ?_ ?_
 ·rintro m us w2 ⟨aG,dB,ng,H,HS2⟩
  obtain ⟨uy1,rfl⟩:=unj ng
  cases m with
  |zero=>exact absurd H (by simp [iD.l0])
  |succ m=>
   rw [iD.l0] at H
   try simp only [patch,sc0,sc1]
   refine wp_seq<|region<|rs (vB (decide (dB<(a0.au.length:Int)))) (bK rfl rfl rfl) ?_
   try simp only [sc0,sc1]
   refine aA<|ak<|wp_seq<|wp_cond_split (t:=(decide (dB<(a0.au.length:Int)))) rfl (fun c1=>?_) (fun c1=>?_)
   ·replace H:=bM H c1
    refine wp_skip<|ak<|wp_seq<|wp_block<|wp_seq<|region ?_
    obtain ⟨hi1,H⟩:=eG H
    obtain ⟨ad1,e1,lu⟩:=iM sK hi1.1 hi1.2
    refine rs (Value.pointer (some (Addr.add ad1 (dB.toNat*3)))) (dP (sz:=3) rfl e1 rfl hi1.1 hi1.2 Tryz.runUnderlying54 Tryz.sizeOf129)<|rs (Value.agg #[vS ((rd aj a0.au dB).aQ),vI ((rd aj a0.au dB).vType),vI ((rd aj a0.au dB).vAt)]) (ig rfl Tryz.isAgg129 (lu.sees HS2.sees) Tryz.sizeOf129)<|dU rfl rfl (fA (cs:=#[vS ByteArray.empty,vI 0,vI 0]) Tryz.zeroValue129 rfl) ?_
    rintro w3 _ hE2 ⟨b2,rfl,ge2,hb2⟩
    have HS3:=HS2.new hE2 ge2 hb2
    refine fV (i:=0) (cs:=[vS ByteArray.empty,vI 0,vI 0]) (cs':=[vS ((rd aj a0.au dB).aQ),vI ((rd aj a0.au dB).vType),vI ((rd aj a0.au dB).vAt)]) (vs:=[vS ((rd aj a0.au dB).aQ),vI ((rd aj a0.au dB).vType),vI ((rd aj a0.au dB).vAt)]) (bs':=[(some b2, .cells #[vS ((rd aj a0.au dB).aQ),vI ((rd aj a0.au dB).vType),vI ((rd aj a0.au dB).vAt)] 129 (0,0)),(some b1, .cells #[vI a0.aC,vS a0.aQ,vI a0.bG.aP,vB a0.bG.aN,vI a0.dM,vI a0.vN,vL jS a0.au.length jT] 56 (0,0))]) rfl rfl Tryz.sizeOf129 rfl rfl (by decide) rfl HS3 rfl (Nat.le_of_ble_eq_true rfl) rfl rfl ?_
    intro w4 HS4
    try simp only [sc0,sc1]
    refine aA<|ak<|wp_seq<|wp_seq<|region<|rs (vP b2 2) (aH (n:=1) (o':=2) rfl Tryz.runUnderlying129 rfl Tryz.sizeOf3 (by decide) rfl)<|rs (vI ((rd aj a0.au dB).vAt)) (aK rfl Tryz.isAgg3 (HS4.look 0 rfl) rfl)<|rs (vI aG) (aJ rfl)<|rs (vB (decide ((rd aj a0.au dB).vAt<aG))) (bK rfl rfl rfl)<|aI (by simp only [sc0,sc1];rfl) ?_
    refine rs (vB (decide ((rd aj a0.au dB).vAt<aG))) (aJ rfl)<|rgs (decide ((rd aj a0.au dB).vAt<aG)) true (vP b2 2) rfl rfl rfl rfl (fun hg=>(aH (n:=1) (o':=2) rfl Tryz.runUnderlying129 rfl Tryz.sizeOf3 (by decide) rfl))<|rgs (decide ((rd aj a0.au dB).vAt<aG)) true (vI ((rd aj a0.au dB).vAt)) rfl rfl rfl rfl (fun hg=>(aK (gvt (vP b2 2) hg rfl) Tryz.isAgg3 (HS4.look 0 rfl) rfl))<|rgs (decide ((rd aj a0.au dB).vAt<aG)) true (vB (decide ((rd aj a0.au dB).vAt>512))) rfl rfl rfl rfl (fun hg=>(bK (gvt (vI ((rd aj a0.au dB).vAt)) hg rfl) rfl rfl))<|aI (by simp only [sc0,sc1];rfl) ?_
    refine rs (vB ((decide ((rd aj a0.au dB).vAt<aG))||(decide ((rd aj a0.au dB).vAt>512)))) (dZ rfl rfl (fun hp=>(gvt (vB (decide ((rd aj a0.au dB).vAt>512))) (gu rfl hp) rfl))) ?_
    try simp only [sc0,sc1]
    refine aA<|ak<|wp_cond_split (t:=((decide ((rd aj a0.au dB).vAt<aG))||(decide ((rd aj a0.au dB).vAt>512)))) rfl (fun c2=>?_) (fun c2=>?_)
    ·replace H:=bM H c2
     refine wp_seq<|region<|rs (vB false) (aB rfl) ?_
     try simp only [sc0,sc1]
     refine aA<|ak<|wp_ret<|aW<|dn<|aW<|gJ<|aW ?_
     obtain rfl:=Option.some.inj H
     obtain rfl:=Option.some.inj G1
     exact bodyPost_ret (aV rfl (aX rfl)) rfl<|⟨rfl,HS4.toE⟩
    ·replace H:=bW H (nt c2)
     refine wp_skip<|ak ?_
     obtain ⟨hi2,H⟩:=eG H
     obtain ⟨ad2,e2,xw⟩:=rF Gv hi2.1 hi2.2
     refine drawn [.eq (vP b2 2), .eq (vI ((rd aj a0.au dB).vAt)), .eq (vL Dt a1.length Du), .eq (vP b2 1), .eq (vI ((rd aj a0.au dB).vType)), .eq (Value.pointer (some (Addr.add ad2 (((rd aj a0.au dB).vType).toNat*1)))), .eq (vI (rd 0 a1 ((rd aj a0.au dB).vType))), .eq (vI (w64 ((rd aj a0.au dB).vAt+(rd 0 a1 ((rd aj a0.au dB).vType)))))] [24,25,26,27,28,29,30,31] lW (by kernel_rfl) rfl (aS (aS (aS (aS (aS (aS (aS (aS iP)))))))) ⟨aY rfl (fun a' w' hE hk=>by have HSd:=HS4.step hE;exact bI (aH (n:=1) (o':=2) (show _=vP b2 0 from hk 7 rfl) Tryz.runUnderlying129 rfl Tryz.sizeOf3 (by decide) rfl)),aY rfl (fun a' w' hE hk=>by have HSd:=HS4.step hE;exact bI (aK (show _=vP b2 2 from hk 24 rfl) Tryz.isAgg3 (HSd.look 0 rfl) rfl)),aY rfl (fun a' w' hE hk=>by have HSd:=HS4.step hE;exact bI (aJ (show _=vL Dt a1.length Du from hk 1 rfl))),aY rfl (fun a' w' hE hk=>by have HSd:=HS4.step hE;exact bI (aH (n:=1) (o':=1) (show _=vP b2 0 from hk 7 rfl) Tryz.runUnderlying129 rfl Tryz.sizeOf3 (by decide) rfl)),aY rfl (fun a' w' hE hk=>by have HSd:=HS4.step hE;exact bI (aK (show _=vP b2 1 from hk 27 rfl) Tryz.isAgg3 (HSd.look 0 rfl) rfl)),aY rfl (fun a' w' hE hk=>by have HSd:=HS4.step hE;exact bI (dP (sz:=1) (show _=vL Dt a1.length Du from hk 26 rfl) e2 (show _=vI ((rd aj a0.au dB).vType) from hk 28 rfl) hi2.1 hi2.2 Tryz.runUnderlying81 Tryz.sizeOf3)),aY rfl (fun a' w' hE hk=>by have HSd:=HS4.step hE;exact bI (jC (show _=Value.pointer (some (Addr.add ad2 (((rd aj a0.au dB).vType).toNat*1))) from hk 29 rfl) Tryz.isAgg3 (xw.cell0 HSd.sees rfl))),aY rfl (fun a' w' hE hk=>by have HSd:=HS4.step hE;exact bI (bK (show _=vI ((rd aj a0.au dB).vAt) from hk 25 rfl) (show _=vI (rd 0 a1 ((rd aj a0.au dB).vType)) from hk 30 rfl) rfl)),trivial⟩ ?_
     intro w5 hE3
     simp only [List.zip_cons_cons,List.zip_nil_left,List.zip_nil_right,yg,sc0,sc1,List.length_cons,List.length_nil,List.drop_succ_cons,List.drop_zero,Nat.zero_add,Nat.reduceAdd]
     have HS5:=HS4.step hE3
     refine rs (vI (w64 ((rd aj a0.au dB).vAt+(rd 0 a1 ((rd aj a0.au dB).vType))))) (aB rfl) ?_
     try simp only [sc0,sc1]
     refine aA<|dI<|ak<|region<|rs (vI (w64 (dB+1))) (bK rfl rfl rfl)<|rs (vI (w64 (dB+1))) (aJ rfl) ?_
     try simp only [sc0,sc1]
     refine aA<|gZ m (Nat.lt_succ_self m) rfl ⟨(w64 ((rd aj a0.au dB).vAt+(rd 0 a1 ((rd aj a0.au dB).vType)))),(w64 (dB+1)),(fit rfl),H,HS5.tail⟩
   ·replace H:=bW H (nt c1)
    refine wp_exit<|eY ?_
    obtain rfl:=Option.some.inj H
    refine iG rfl ⟨_,rfl,(fit rfl),HS2⟩
 ·rintro us w6 ⟨s1,rfl,ni,HS6⟩
  obtain ⟨uo1,rfl⟩:=unj ni
  replace H:=G1
  clear G1
  try simp only [patch,sc0,sc1]
  refine ak<|wp_seq<|region<|rs (vI s1) (aJ rfl)<|rs (vP b1 5) (aH (n:=1) (o':=5) rfl Tryz.runUnderlying56 rfl Tryz.sizeOf3 (by decide) rfl)<|rs (vI a0.vN) (aK rfl Tryz.isAgg3 (HS6.look 0 rfl) rfl)<|rs (vB (decide (s1≤a0.vN))) (bK rfl rfl rfl)<|aI (by simp only [sc0,sc1];rfl) ?_
  refine rs (vB (decide (s1≤a0.vN))) (aB rfl) ?_
  try simp only [sc0,sc1]
  refine aA<|ak<|wp_ret ?_
  obtain rfl:=Option.some.inj H
  exact bodyPost_ret (aV rfl (aX rfl)) rfl<|⟨rfl,HS6.toE⟩

end Go.Proofs.YtecpbadkdpbkpaaGreatDoor
namespace Go.Proofs.YtecpbadkdpbkpaaGreatDoor
open Go.RowKit Go.M
def jd.f (k:Nat) (a0:bF) (x0:List Int):Option (Bool):=(if (true&&((a0.aC==4)==true))=true then iD.f k a0 x0 else some false).bind fun v1=>(some ((a0.aC==4)&&(!v1)))
set_option maxRecDepth 20000 in
set_option maxHeartbeats 4000000 in
theorem jd.calls (k:Nat) (a0:bF) (x0:List Int) (jS:Option Addr) (jT:Nat) (bx0:Nat) (zT:Option Addr) (zU:Nat) {h0:View} {w0:World} (hv:jL h0 w0) (sK:Rd eH h0 jS a0.au) (yc:a0.au.length≤jT) (NH:Rd (Kd.int .i64) h0 zT x0) (RF:x0.length≤zU) (hx0:w0.heap[bx0]?=some (.cells #[Value.slice zT x0.length zU] 81 (0,0))) {r:Bool} (H:jd.f k a0 x0=some r):Calls Tryz.prog 119 #[Value.agg #[Value.int .i64 a0.aC,Value.string a0.aQ,Value.int .i64 a0.bG.aP,Value.bool a0.bG.aN,Value.int .i64 a0.dM,Value.int .i64 a0.vN,Value.slice jS a0.au.length jT],Value.pointer (some ⟨bx0,0,none⟩)] w0 (fun e w1=>e= .returned (Value.bool r)∧Ext w0 w1):=by
  unfold jd.f at H
  have HS:St [] h0 w0 h0 [] w0:=St.init hv
  go_enter Tryz.func119,Tryz.ntmps119
  refine wp_seq ?_
  refine region ?_
  refine dU rfl rfl (dY (cs:=#[Value.int .i64 a0.aC,Value.string a0.aQ,Value.int .i64 a0.bG.aP,Value.bool a0.bG.aN,Value.int .i64 a0.dM,Value.int .i64 a0.vN,Value.slice jS a0.au.length jT]) rfl rfl) ?_
  rintro w1 _ hE1 ⟨b1,rfl,ge1,hb1⟩
  have HS1:=HS.new hE1 ge1 hb1
  refine dS (v:=Value.bool false) rfl rfl (aB rfl) ?_
  try simp only [List.set_cons_zero,List.set_cons_succ]
  refine aA ?_
  refine ak ?_
  refine wp_seq ?_
  refine region ?_
  refine dS (v:=Value.pointer (some ⟨b1,0,none⟩)) rfl rfl (aH (n:=1) (o':=0) rfl Tryz.runUnderlying56 rfl Tryz.sizeOf3 (by decide) rfl) ?_
  refine dS (v:=Value.int .i64 a0.aC) rfl rfl (aK rfl Tryz.isAgg3 (HS1.look 0 rfl) rfl) ?_
  refine dS (v:=Value.bool (a0.aC==4)) rfl rfl (bK rfl rfl rfl) ?_
  refine dS (v:=Value.bool (a0.aC==4)) rfl rfl (aJ rfl) ?_
  refine aI (by simp only [List.set_cons_zero,List.set_cons_succ];rfl) ?_
  refine fC (b:=(a0.aC==4)) (c:=true) (v:=Value.agg #[Value.int .i64 a0.aC,Value.string a0.aQ,Value.int .i64 a0.bG.aP,Value.bool a0.bG.aN,Value.int .i64 a0.dM,Value.int .i64 a0.vN,Value.slice jS a0.au.length jT]) rfl rfl rfl rfl (fun hg=>(aZ (n:=7) (vs:=[Value.int .i64 a0.aC,Value.string a0.aQ,Value.int .i64 a0.bG.aP,Value.bool a0.bG.aN,Value.int .i64 a0.dM,Value.int .i64 a0.vN,Value.slice jS a0.au.length jT]) rfl Tryz.isAgg56 (HS1.look 0 rfl) Tryz.sizeOf56 rfl rfl)) ?_
  refine fC (b:=(a0.aC==4)) (c:=true) (v:=Value.slice zT x0.length zU) rfl rfl rfl rfl (fun hg=>(aK rfl Tryz.isAgg81 (oZ hx0 HS1.toE) rfl)) ?_
  obtain ⟨v1,H1,H⟩:=bJ H
  refine xZ (b:=(a0.aC==4)) (c:=true) (v:=Value.bool v1) rfl rfl rfl rfl (fun hg=>(bf Tryz.call120 rfl (OA ((show _=gv (true&&((a0.aC==4)==true)) (Value.agg #[Value.int .i64 a0.aC,Value.string a0.aQ,Value.int .i64 a0.bG.aP,Value.bool a0.bG.aN,Value.int .i64 a0.dM,Value.int .i64 a0.vN,Value.slice jS a0.au.length jT]) from rfl).trans (pU hg)) ((show _=gv (true&&((a0.aC==4)==true)) (Value.slice zT x0.length zU) from rfl).trans (pU hg))) (iD.calls k a0 x0 jS jT zT zU HS1.sees sK yc NH RF (bM H1 hg)))) ?_
  intro w2 hE2
  have HS2:=HS1.step hE2
  refine fC (b:=(a0.aC==4)) (c:=true) (v:=Value.bool (!v1)) rfl rfl rfl rfl (fun hg=>(lK ((show _=gv (true&&((a0.aC==4)==true)) (Value.bool v1) from rfl).trans (pU hg)))) ?_
  refine aI (by simp only [List.set_cons_zero,List.set_cons_succ];rfl) ?_
  refine dS (v:=Value.bool ((a0.aC==4)&&(!v1))) rfl rfl (dA rfl (fun hp=>((show _=gv (true&&((a0.aC==4)==true)) (Value.bool (!v1)) from rfl).trans (pU (gu rfl hp)))) rfl) ?_
  refine dS (v:=Value.bool ((a0.aC==4)&&(!v1))) rfl rfl (aB rfl) ?_
  try simp only [List.set_cons_zero,List.set_cons_succ]
  refine aA ?_
  refine ak ?_
  refine wp_ret ?_
  obtain rfl:=Option.some.inj H
  refine bodyPost_ret (aV rfl (aX rfl)) rfl ?_
  exact ⟨rfl,HS2.toE⟩

end Go.Proofs.YtecpbadkdpbkpaaGreatDoor
namespace Go.Proofs.YtecpbadkdpbkpaaGreatDoor
open Go.RowKit Go.M
def cO.l0 (k:Nat) (a0:aU):Nat→Int→(List (ByteArray×Bool))→Option ((Bool)⊕((List (ByteArray×Bool))))
 |0,_,_=>none
 |m+1,aG,dB=>if (decide (aG<(a0.ay.length:Int)))=true then (if 0≤aG∧aG<a0.ay.length then ((fE.f k (rd ah a0.ay aG) (a0.ay.length:Int)).bind fun v1=>((if (true&&((!v1)==false))=true then jR.f (rd ah a0.ay aG) else some false).bind fun v2=>(if ((!v1)||(v2&&((bn strEq dB ((rd ah a0.ay aG).aQ)).getD false)))=true then (some (.inl false)) else (cO.l0 k a0 m (IntKind.wrap .i64 (aG+1)) (eU strEq dB ((rd ah a0.ay aG).aQ) true))))) else none) else (some (.inr dB))
def cO.f (k:Nat) (a0:aU):Option (Bool):=if (decide ((a0.ay.length:Int)>200))=true then (some false) else ((cO.l0 k a0 k 0 ([]:List (ByteArray×Bool))).bind fun xx1=>(match xx1 with| .inl r=>some r| .inr s1=>(eP.f k a0).bind fun v3=>((if (true&&((!v3.2)==false))=true then nZ.f k a0 else some false).bind fun v4=>(if ((!v3.2)||(!v4))=true then (some false) else ((bY.f k a0.ay (fun z0=>jd.f k z0 v3.1)).bind fun v5=>(some (!v5)))))))
set_option maxRecDepth 20000 in
set_option maxHeartbeats 4000000 in
theorem cO.calls (k:Nat) (a0:aU) (bU:Option Addr) (bV:Nat) {h0:View} {w0:World} (hv:jL h0 w0) (fK:Rd dV h0 bU a0.ay) (iw:a0.ay.length≤bV) {r:Bool} (H:cO.f k a0=some r):Calls Tryz.prog 74 #[Value.agg #[vL bU a0.ay.length bV]] w0 (fun e w1=>e= .returned (vB r)∧Ext w0 w1):=by
 unfold cO.f at H
 have HS:St [] h0 w0 h0 [] w0:=St.init hv
 go_enter Tryz.func74,Tryz.ntmps74
 refine wp_seq<|region<|dU rfl rfl (dY (cs:=#[vL bU a0.ay.length bV]) rfl rfl) ?_
 rintro w1 _ hE1 ⟨b1,rfl,ge1,hb1⟩
 have HS1:=HS.new hE1 ge1 hb1
 refine rs (vB false) (aB rfl) ?_
 try simp only [sc0,sc1]
 refine aA<|ak<|wp_seq<|wp_seq<|region<|rs (vP b1 0) (aH (n:=1) (o':=0) rfl Tryz.runUnderlying24 rfl Tryz.sizeOf22 (by decide) rfl)<|rs (vL bU a0.ay.length bV) (aK rfl Tryz.isAgg22 (HS1.look 0 rfl) rfl)<|rs (vI (a0.ay.length:Int)) (jJ rfl Tryz.runUnderlying22)<|rs (vB (decide ((a0.ay.length:Int)>200))) (bK rfl rfl rfl) ?_
 try simp only [sc0,sc1]
 refine aA<|ak<|wp_cond_split (t:=(decide ((a0.ay.length:Int)>200))) rfl (fun c1=>?_) (fun c1=>?_)
 ·replace H:=bM H c1
  refine wp_seq<|region<|rs (vB false) (aB rfl) ?_
  try simp only [sc0,sc1]
  refine aA<|ak<|wp_ret<|aW ?_
  obtain rfl:=Option.some.inj H
  exact bodyPost_ret (aV rfl (aX rfl)) rfl<|⟨rfl,HS1.toE⟩
 ·replace H:=bW H (nt c1)
  refine wp_skip<|ak<|wp_seq<|region<|uY HS1 ?_
  intro w2 b2 HS2
  refine rs (Value.map (some b2)) (aB rfl) ?_
  try simp only [sc0,sc1]
  refine aA<|ak<|wp_seq<|wp_seq<|region<|rs (vP b1 0) (aH (n:=1) (o':=0) rfl Tryz.runUnderlying24 rfl Tryz.sizeOf22 (by decide) rfl)<|rs (vL bU a0.ay.length bV) (aK rfl Tryz.isAgg22 (HS2.look 1 rfl) rfl)<|rs (vI (a0.ay.length:Int)) (jJ rfl Tryz.runUnderlying22)<|rs (vI 0) (aJ rfl) ?_
  try simp only [sc0,sc1]
  refine aA<|ak ?_
  obtain ⟨xx1,H,G1⟩:=bJ H
  refine jm [2,5,16,17,18,19,20,21,22,23,24,25,26,27,28,29,30,31,32,33,34,35,36,37,38,39] (fun m us w'=>∃(aG:Int),∃(dB:List (ByteArray×Bool)),∃(sS:Array MapEntry) (sU:Nat),Fit us (fun uy1=>[(uy1 0),(uy1 1),vI aG,(uy1 3),(uy1 4),(uy1 5),(uy1 6),(uy1 7),(uy1 8),(uy1 9),(uy1 10),(uy1 11),(uy1 12),(uy1 13),(uy1 14),(uy1 15),(uy1 16),(uy1 17),(uy1 18),(uy1 19),(uy1 20),(uy1 21),(uy1 22),(uy1 23),(uy1 24),(uy1 25)])∧cO.l0 k a0 m aG dB=some xx1∧pV vS vB dB sS sU∧St [] h0 w0 h0 [(some b2, .map sS sU),(some b1, .cells #[vL bU a0.ay.length bV] 24 (0,0))] w') (fun us w'=>∃(s1:(List (ByteArray×Bool))),xx1= .inr s1∧∃(xQ:Array MapEntry) (xR:Nat),Fit us (fun uo1=>[(uo1 0),(uo1 1),(uo1 2),(uo1 3),(uo1 4),(uo1 5),(uo1 6),(uo1 7),(uo1 8),(uo1 9),(uo1 10),(uo1 11),(uo1 12),(uo1 13),(uo1 14),(uo1 15),(uo1 16),(uo1 17),(uo1 18),(uo1 19),(uo1 20),(uo1 21),(uo1 22),(uo1 23),(uo1 24),(uo1 25)])∧pV vS vB s1 xQ xR∧St [] h0 w0 h0 [(some b2, .map xQ xR),(some b1, .cells #[vL bU a0.ay.length bV] 24 (0,0))] w') k ⟨0,([]:List (ByteArray×Bool)),#[],0,(fit rfl),H,(pV.nil),HS2⟩ ?_ ?_
  ·rintro m us w3 ⟨aG,dB,sS,sU,ng,H,jD,HS3⟩
   obtain ⟨uy1,rfl⟩:=unj ng
   cases m with
   |zero=>exact absurd H (by simp [cO.l0])
   |succ m=>
    rw [cO.l0] at H
    try simp only [patch,sc0,sc1]
    refine wp_seq<|region<|rs (vB (decide (aG<(a0.ay.length:Int)))) (bK rfl rfl rfl) ?_
    try simp only [sc0,sc1]
    refine aA<|ak<|wp_seq<|wp_cond_split (t:=(decide (aG<(a0.ay.length:Int)))) rfl (fun c2=>?_) (fun c2=>?_)
    ·replace H:=bM H c2
     refine wp_skip<|ak<|wp_seq<|wp_block<|wp_seq<|region ?_
     obtain ⟨hi1,H⟩:=eG H
     obtain ⟨ad1,dG,dJ,e1,lu,jQ,iH⟩:=gy fK hi1.1 hi1.2
     refine rs (Value.pointer (some (Addr.add ad1 (aG.toNat*7)))) (dP (sz:=7) rfl e1 rfl hi1.1 hi1.2 Tryz.runUnderlying22 Tryz.sizeOf56)<|rs (Value.agg #[vI ((rd ah a0.ay aG).aC),vS ((rd ah a0.ay aG).aQ),vI ((rd ah a0.ay aG).bG.aP),vB ((rd ah a0.ay aG).bG.aN),vI ((rd ah a0.ay aG).dM),vI ((rd ah a0.ay aG).vN),vL dG ((rd ah a0.ay aG).au).length dJ]) (ig rfl Tryz.isAgg56 (lu.sees HS3.sees) Tryz.sizeOf56)<|dU rfl rfl (fA (cs:=#[vI 0,vS ByteArray.empty,vI 0,vB false,vI 0,vI 0,vL none 0 0]) Tryz.zeroValue56 rfl) ?_
     rintro w4 _ hE2 ⟨b3,rfl,ge2,hb2⟩
     have HS4:=HS3.new hE2 ge2 hb2
     refine fV (i:=0) (cs:=[vI 0,vS ByteArray.empty,vI 0,vB false,vI 0,vI 0,vL none 0 0]) (cs':=[vI ((rd ah a0.ay aG).aC),vS ((rd ah a0.ay aG).aQ),vI ((rd ah a0.ay aG).bG.aP),vB ((rd ah a0.ay aG).bG.aN),vI ((rd ah a0.ay aG).dM),vI ((rd ah a0.ay aG).vN),vL dG ((rd ah a0.ay aG).au).length dJ]) (vs:=[vI ((rd ah a0.ay aG).aC),vS ((rd ah a0.ay aG).aQ),vI ((rd ah a0.ay aG).bG.aP),vB ((rd ah a0.ay aG).bG.aN),vI ((rd ah a0.ay aG).dM),vI ((rd ah a0.ay aG).vN),vL dG ((rd ah a0.ay aG).au).length dJ]) (bs':=[(some b3, .cells #[vI ((rd ah a0.ay aG).aC),vS ((rd ah a0.ay aG).aQ),vI ((rd ah a0.ay aG).bG.aP),vB ((rd ah a0.ay aG).bG.aN),vI ((rd ah a0.ay aG).dM),vI ((rd ah a0.ay aG).vN),vL dG ((rd ah a0.ay aG).au).length dJ] 56 (0,0)),(some b2, .map sS sU),(some b1, .cells #[vL bU a0.ay.length bV] 24 (0,0))]) rfl rfl Tryz.sizeOf56 rfl rfl (by decide) rfl HS4 rfl (Nat.le_of_ble_eq_true rfl) rfl rfl ?_
     intro w5 HS5
     try simp only [sc0,sc1]
     refine aA<|ak<|wp_seq<|wp_seq<|region<|rs (Value.agg #[vI ((rd ah a0.ay aG).aC),vS ((rd ah a0.ay aG).aQ),vI ((rd ah a0.ay aG).bG.aP),vB ((rd ah a0.ay aG).bG.aN),vI ((rd ah a0.ay aG).dM),vI ((rd ah a0.ay aG).vN),vL dG ((rd ah a0.ay aG).au).length dJ]) (aZ (n:=7) (vs:=[vI ((rd ah a0.ay aG).aC),vS ((rd ah a0.ay aG).aQ),vI ((rd ah a0.ay aG).bG.aP),vB ((rd ah a0.ay aG).bG.aN),vI ((rd ah a0.ay aG).dM),vI ((rd ah a0.ay aG).vN),vL dG ((rd ah a0.ay aG).au).length dJ]) rfl Tryz.isAgg56 (HS5.look 0 rfl) Tryz.sizeOf56 rfl rfl)<|rs (vP b1 0) (aH (n:=1) (o':=0) rfl Tryz.runUnderlying24 rfl Tryz.sizeOf22 (by decide) rfl)<|rs (vL bU a0.ay.length bV) (aK rfl Tryz.isAgg22 (HS5.look 2 rfl) rfl)<|rs (vI (a0.ay.length:Int)) (jJ rfl Tryz.runUnderlying22)<|aI (by simp only [sc0,sc1];rfl) ?_
     obtain ⟨v1,H1,H⟩:=bJ H
     refine run_eq (v:=vB v1) rfl rfl (bf Tryz.call115 rfl rfl (fE.calls k (rd ah a0.ay aG) (a0.ay.length:Int) dG dJ HS5.sees iH jQ H1)) ?_
     intro w6 hE3
     have HS6:=HS5.step hE3
     refine rs (vB (!v1)) (lK rfl)<|rs (vB (!v1)) (aJ rfl)<|rgs (!v1) true (Value.agg #[vI ((rd ah a0.ay aG).aC),vS ((rd ah a0.ay aG).aQ),vI ((rd ah a0.ay aG).bG.aP),vB ((rd ah a0.ay aG).bG.aN),vI ((rd ah a0.ay aG).dM),vI ((rd ah a0.ay aG).vN),vL dG ((rd ah a0.ay aG).au).length dJ]) rfl rfl rfl rfl (fun hg=>(aZ (n:=7) (vs:=[vI ((rd ah a0.ay aG).aC),vS ((rd ah a0.ay aG).aQ),vI ((rd ah a0.ay aG).bG.aP),vB ((rd ah a0.ay aG).bG.aN),vI ((rd ah a0.ay aG).dM),vI ((rd ah a0.ay aG).vN),vL dG ((rd ah a0.ay aG).au).length dJ]) rfl Tryz.isAgg56 (HS6.look 0 rfl) Tryz.sizeOf56 rfl rfl))<|aI (by simp only [sc0,sc1];rfl) ?_
     obtain ⟨v2,H2,H⟩:=bJ H
     refine xZ (b:=(!v1)) (c:=true) (v:=vB v2) rfl rfl rfl rfl (fun hg=>(bf Tryz.call116 rfl (OI (gvt (Value.agg #[vI ((rd ah a0.ay aG).aC),vS ((rd ah a0.ay aG).aQ),vI ((rd ah a0.ay aG).bG.aP),vB ((rd ah a0.ay aG).bG.aN),vI ((rd ah a0.ay aG).dM),vI ((rd ah a0.ay aG).vN),vL dG ((rd ah a0.ay aG).au).length dJ]) hg rfl)) (jR.calls (rd ah a0.ay aG) dG dJ HS6.sees iH jQ (bM H2 hg)))) ?_
     intro w7 hE4
     have HS7:=HS6.step hE4
     refine rgs (!v1) true (vB v2) rfl rfl rfl rfl (fun hg=>(aJ (gvt (vB v2) hg rfl)))<|rgs v2 (true&&((!v1)==false)) (Value.map (some b2)) rfl rfl rfl rfl (fun hg=>(aJ rfl))<|rgs v2 (true&&((!v1)==false)) (vP b3 1) rfl rfl rfl rfl (fun hg=>(aH (n:=1) (o':=1) rfl Tryz.runUnderlying56 rfl Tryz.sizeOf9 (by decide) rfl))<|aI (by simp only [sc0,sc1];rfl) ?_
     refine rgs v2 (true&&((!v1)==false)) (vS ((rd ah a0.ay aG).aQ)) rfl rfl rfl rfl (fun hg=>(aK (gvt (vP b3 1) hg rfl) Tryz.isAgg9 (HS7.look 0 rfl) rfl))<|rgs v2 (true&&((!v1)==false)) (vB ((bn strEq dB ((rd ah a0.ay aG).aQ)).getD false)) rfl rfl rfl rfl (fun hg=>(Ku (Cc Tryz.runUnderlying9) (k:=((rd ah a0.ay aG).aQ)) (m:=dB) (ev:=vB) false (gvt (Value.map (some b2)) hg rfl) (gvt (vS ((rd ah a0.ay aG).aQ)) hg rfl) Tryz.runUnderlying210 Tryz.zeroValue4 (HS7.look 1 rfl) jD))<|rgs (!v1) true (vB (v2&&((bn strEq dB ((rd ah a0.ay aG).aQ)).getD false))) rfl rfl rfl rfl (fun hg=>(dA (gvt (vB v2) hg rfl) (fun hp=>(gvt (vB ((bn strEq dB ((rd ah a0.ay aG).aQ)).getD false)) (gu hg hp) rfl)) rfl))<|rs (vB ((!v1)||(v2&&((bn strEq dB ((rd ah a0.ay aG).aQ)).getD false)))) (dZ rfl rfl (fun hp=>(gvt (vB (v2&&((bn strEq dB ((rd ah a0.ay aG).aQ)).getD false))) (gu rfl hp) rfl))) ?_
     try simp only [sc0,sc1]
     refine aA<|ak<|wp_cond_split (t:=((!v1)||(v2&&((bn strEq dB ((rd ah a0.ay aG).aQ)).getD false)))) rfl (fun c3=>?_) (fun c3=>?_)
     ·replace H:=bM H c3
      refine wp_seq<|region<|rs (vB false) (aB rfl) ?_
      try simp only [sc0,sc1]
      refine aA<|ak<|wp_ret<|aW<|dn<|aW<|gJ<|aW ?_
      obtain rfl:=Option.some.inj H
      obtain rfl:=Option.some.inj G1
      exact bodyPost_ret (aV rfl (aX rfl)) rfl<|⟨rfl,HS7.toE⟩
     ·replace H:=bW H (nt c3)
      refine wp_skip<|ak<|region<|rs (Value.map (some b2)) (aJ rfl)<|rs (vP b3 1) (aH (n:=1) (o':=1) rfl Tryz.runUnderlying56 rfl Tryz.sizeOf9 (by decide) rfl)<|rs (vS ((rd ah a0.ay aG).aQ)) (aK rfl Tryz.isAgg9 (HS7.look 0 rfl) rfl)<|Hf (Cc Tryz.runUnderlying9) (i:=1) (k:=((rd ah a0.ay aG).aQ)) (v:=true) (ev:=vB) (m:=dB) (by first|exact .inl rfl|exact .inr rfl) rfl rfl rfl rfl rfl Tryz.runUnderlying210 HS7 rfl jD ?_
      intro w8 es1 cl1 HS8 ho1
      try simp only [sc0,sc1]
      refine aA<|dI<|ak<|region<|rs (vI (w64 (aG+1))) (bK rfl rfl rfl)<|rs (vI (w64 (aG+1))) (aJ rfl) ?_
      try simp only [sc0,sc1]
      refine aA<|gZ m (Nat.lt_succ_self m) rfl ⟨(w64 (aG+1)),(eU strEq dB ((rd ah a0.ay aG).aQ) true),es1,cl1,(fit rfl),H,ho1,HS8.tail⟩
    ·replace H:=bW H (nt c2)
     refine wp_exit<|eY ?_
     obtain rfl:=Option.some.inj H
     refine iG rfl ⟨_,rfl,sS,sU,(fit rfl),jD,HS3⟩
  ·rintro us w9 ⟨s1,rfl,xQ,xR,ni,lC,HS9⟩
   obtain ⟨uo1,rfl⟩:=unj ni
   replace H:=G1
   clear G1
   try simp only [patch,sc0,sc1]
   refine ak<|wp_seq<|region<|rs (Value.agg #[vL bU a0.ay.length bV]) (aZ (n:=1) (vs:=[vL bU a0.ay.length bV]) rfl Tryz.isAgg24 (HS9.look 1 rfl) Tryz.sizeOf24 rfl rfl) ?_
   obtain ⟨v3,H3,H⟩:=bJ H
   refine dU rfl rfl (kP Tryz.call85 rfl (nT (h:=h0) (R:=(fun hx u=>∃(gW:Option Addr) (gX:Nat),u=Value.tuple #[vL gW v3.1.length gX,vB v3.2]∧v3.1.length≤gX∧Rd (Kd.int .i64) hx gW v3.1)) (Ext.rfl' w9) ((eP.calls k a0 bU bV HS9.sees fK iw H3).mono ?_)) rfl) ?_
   ·rintro _ _ ⟨h1,gW,gX,rfl,nC,kZ,g,ss,x⟩
    exact ⟨h1,_,rfl,⟨gW,gX,rfl,nC,kZ⟩,g,ss,x⟩
   rintro w10 _ hE5 ⟨h1,⟨gW,gX,rfl,nC,kZ⟩,gr1,se1⟩
   have ru:=HS9.view hE5 gr1 se1
   refine rs (Value.tuple #[vL gW v3.1.length gX,vB v3.2]) (aJ rfl)<|rs (vL gW v3.1.length gX) (fF rfl rfl)<|aI (by simp only [sc0,sc1];rfl) ?_
   refine rs (vB v3.2) (fF rfl rfl)<|dU rfl rfl (fA (cs:=#[vL none 0 0]) Tryz.zeroValue81 rfl) ?_
   rintro w11 _ hE6 ⟨b4,rfl,ge3,hb3⟩
   have qw:=ru.new hE6 ge3 hb3
   refine fV (i:=0) (cs:=[vL none 0 0]) (cs':=[vL gW v3.1.length gX]) (vs:=[vL gW v3.1.length gX]) (bs':=[(some b4, .cells #[vL gW v3.1.length gX] 81 (0,0)),(some b2, .map xQ xR),(some b1, .cells #[vL bU a0.ay.length bV] 24 (0,0))]) rfl rfl Tryz.sizeOf81 rfl rfl (by decide) rfl qw rfl (Nat.le_of_ble_eq_true rfl) rfl rfl ?_
   intro w12 uf
   refine rs (vB v3.2) (aB rfl) ?_
   try simp only [sc0,sc1]
   refine aA<|ak<|wp_seq<|wp_seq<|region<|rs (vB v3.2) (aJ rfl)<|rs (vB (!v3.2)) (lK rfl)<|rs (vB (!v3.2)) (aJ rfl)<|rgs (!v3.2) true (Value.agg #[vL bU a0.ay.length bV]) rfl rfl rfl rfl (fun hg=>(aZ (n:=1) (vs:=[vL bU a0.ay.length bV]) rfl Tryz.isAgg24 (uf.look 2 rfl) Tryz.sizeOf24 rfl rfl))<|aI (by simp only [sc0,sc1];rfl) ?_
   obtain ⟨v4,H4,H⟩:=bJ H
   refine xZ (b:=(!v3.2)) (c:=true) (v:=vB v4) rfl rfl rfl rfl (fun hg=>(bf Tryz.call117 rfl (OI (gvt (Value.agg #[vL bU a0.ay.length bV]) hg rfl)) (nZ.calls k a0 bU bV uf.sees (fK.ext uf.sub) iw (bM H4 hg)))) ?_
   intro w13 hE7
   have yC:=uf.step hE7
   refine rgs (!v3.2) true (vB (!v4)) rfl rfl rfl rfl (fun hg=>(lK (gvt (vB v4) hg rfl)))<|rs (vB ((!v3.2)||(!v4))) (dZ rfl rfl (fun hp=>(gvt (vB (!v4)) (gu rfl hp) rfl))) ?_
   try simp only [sc0,sc1]
   refine aA<|ak<|wp_cond_split (t:=((!v3.2)||(!v4))) rfl (fun c4=>?_) (fun c4=>?_)
   ·replace H:=bM H c4
    refine wp_seq<|region<|rs (vB false) (aB rfl) ?_
    try simp only [sc0,sc1]
    refine aA<|ak<|wp_ret<|aW ?_
    obtain rfl:=Option.some.inj H
    exact bodyPost_ret (aV rfl (aX rfl)) rfl<|⟨rfl,yC.toE⟩
   ·replace H:=bW H (nt c4)
    refine wp_skip<|ak<|wp_seq<|region<|rs (vP b1 0) (aH (n:=1) (o':=0) rfl Tryz.runUnderlying24 rfl Tryz.sizeOf22 (by decide) rfl)<|rs (vL bU a0.ay.length bV) (aK rfl Tryz.isAgg22 (yC.look 2 rfl) rfl)<|rs (Value.func (.func 119) #[] #[vP b4 0]) (wG (vs:=[vP b4 0]) rfl) ?_
    obtain ⟨v5,H5,H⟩:=bJ H
    refine run_eq (v:=vB v5) rfl rfl (bf Tryz.call118 rfl rfl (bY.calls k a0.ay (fun z0=>jd.f k z0 v3.1) bU bV 119 [vP b4 0] yC.sees (fK.ext yC.sub) iw Tryz.call119 (fun z0 zD zF h w hE hs hv NG ET r H=>jd.calls k z0 v3.1 zD zF b4 gW gX hv NG ET (kZ.ext hs) nC (oZ (yC.look 0 rfl) hE) H) H5)) ?_
    intro w14 hE8
    have DN:=yC.step hE8
    refine aI (by simp only [sc0,sc1];rfl) ?_
    refine rs (vB (!v5)) (lK rfl)<|rs (vB (!v5)) (aB rfl) ?_
    try simp only [sc0,sc1]
    refine aA<|ak<|wp_ret ?_
    obtain rfl:=Option.some.inj H
    exact bodyPost_ret (aV rfl (aX rfl)) rfl<|⟨rfl,DN.toE⟩

end Go.Proofs.YtecpbadkdpbkpaaGreatDoor
namespace Go.Proofs.YtecpbadkdpbkpaaGreatDoor
open Go.RowKit Go.M
def fQ.f (k:Nat) (a0:aU) (a1:Int):Option (Int):=(cO.f k a0).bind fun v1=>(if (!v1)=true then (some 80) else (if ((decide (a1<0))||(decide (a1≥(a0.ay.length:Int))))=true then (some 3) else (some 0)))
set_option maxRecDepth 20000 in
set_option maxHeartbeats 4000000 in
theorem fQ.calls (k:Nat) (a0:aU) (a1:Int) (bU:Option Addr) (bV:Nat) {h0:View} {w0:World} (hv:jL h0 w0) (fK:Rd dV h0 bU a0.ay) (iw:a0.ay.length≤bV) {r:Int} (H:fQ.f k a0 a1=some r):Calls Tryz.prog 53 #[Value.agg #[vL bU a0.ay.length bV],vI a1] w0 (fun e w1=>e= .returned (vI r)∧Ext w0 w1):=by
 unfold fQ.f at H
 have HS:St [] h0 w0 h0 [] w0:=St.init hv
 go_enter Tryz.func53,Tryz.ntmps53
 refine wp_seq<|region<|dU rfl rfl (dY (cs:=#[vL bU a0.ay.length bV]) rfl rfl) ?_
 rintro w1 _ hE1 ⟨b1,rfl,ge1,hb1⟩
 have HS1:=HS.new hE1 ge1 hb1
 refine rs (vI 0) (aB rfl) ?_
 try simp only [sc0,sc1]
 refine aA<|ak<|wp_seq<|wp_block<|wp_seq<|region<|rs (Value.agg #[vL bU a0.ay.length bV]) (aZ (n:=1) (vs:=[vL bU a0.ay.length bV]) rfl Tryz.isAgg24 (HS1.look 0 rfl) Tryz.sizeOf24 rfl rfl) ?_
 obtain ⟨v1,H1,H⟩:=bJ H
 refine run_eq (v:=vB v1) rfl rfl (bf Tryz.call74 rfl rfl (cO.calls k a0 bU bV HS1.sees fK iw H1)) ?_
 intro w2 hE2
 have HS2:=HS1.step hE2
 refine rs (vB (!v1)) (lK rfl)<|rs (vB (!v1)) (aB rfl) ?_
 try simp only [sc0,sc1]
 refine aA<|ak<|wp_cond_split (t:=(!v1)) rfl (fun c1=>?_) (fun c1=>?_)
 ·replace H:=bM H c1
  refine wp_seq<|region<|rs (vI 80) (aB rfl) ?_
  try simp only [sc0,sc1]
  refine aA<|ak<|wp_ret<|dn<|aW ?_
  obtain rfl:=Option.some.inj H
  exact bodyPost_ret (aV rfl (aX rfl)) rfl<|⟨rfl,HS2.toE⟩
 ·replace H:=bW H (nt c1)
  refine wp_seq<|region<|rs (vI a1) (aJ rfl)<|rs (vB (decide (a1<0))) (bK rfl rfl rfl)<|rs (vB (decide (a1<0))) (aJ rfl)<|rgs (decide (a1<0)) true (vI a1) rfl rfl rfl rfl (fun hg=>(aJ rfl))<|aI (by simp only [sc0,sc1];rfl) ?_
  refine rgs (decide (a1<0)) true (vP b1 0) rfl rfl rfl rfl (fun hg=>(aH (n:=1) (o':=0) rfl Tryz.runUnderlying24 rfl Tryz.sizeOf22 (by decide) rfl))<|rgs (decide (a1<0)) true (vL bU a0.ay.length bV) rfl rfl rfl rfl (fun hg=>(aK (gvt (vP b1 0) hg rfl) Tryz.isAgg22 (HS2.look 0 rfl) rfl))<|rgs (decide (a1<0)) true (vI (a0.ay.length:Int)) rfl rfl rfl rfl (fun hg=>(jJ (gvt (vL bU a0.ay.length bV) hg rfl) Tryz.runUnderlying22))<|rgs (decide (a1<0)) true (vB (decide (a1≥(a0.ay.length:Int)))) rfl rfl rfl rfl (fun hg=>(bK (gvt (vI a1) hg rfl) (gvt (vI (a0.ay.length:Int)) hg rfl) rfl))<|aI (by simp only [sc0,sc1];rfl) ?_
  refine rs (vB ((decide (a1<0))||(decide (a1≥(a0.ay.length:Int))))) (dZ rfl rfl (fun hp=>(gvt (vB (decide (a1≥(a0.ay.length:Int)))) (gu rfl hp) rfl)))<|rs (vB ((decide (a1<0))||(decide (a1≥(a0.ay.length:Int))))) (aB rfl) ?_
  try simp only [sc0,sc1]
  refine aA<|ak<|wp_cond_split (t:=((decide (a1<0))||(decide (a1≥(a0.ay.length:Int))))) rfl (fun c2=>?_) (fun c2=>?_)
  ·replace H:=bM H c2
   refine wp_seq<|region<|rs (vI 3) (aB rfl) ?_
   try simp only [sc0,sc1]
   refine aA<|ak<|wp_ret<|dn<|aW ?_
   obtain rfl:=Option.some.inj H
   exact bodyPost_ret (aV rfl (aX rfl)) rfl<|⟨rfl,HS2.toE⟩
  ·replace H:=bW H (nt c2)
   refine wp_skip<|dI<|ak<|wp_seq<|region<|rs (vI 0) (aB rfl) ?_
   try simp only [sc0,sc1]
   refine aA<|ak<|wp_ret ?_
   obtain rfl:=Option.some.inj H
   exact bodyPost_ret (aV rfl (aX rfl)) rfl<|⟨rfl,HS2.toE⟩

end Go.Proofs.YtecpbadkdpbkpaaGreatDoor
namespace Go.Proofs.YtecpbadkdpbkpaaGreatDoor
open Go.RowKit Go.M
def dO.l0 (a0:aU):Nat→Int→Option (Int)
 |0,_=>none
 |m+1,aG=>if 0≤aG∧aG<a0.ay.length then (if ((rd ah a0.ay aG).aC==6)=true then (if 0≤aG∧aG<a0.ay.length then (dO.l0 a0 m ((rd ah a0.ay aG).dM)) else none) else (some aG)) else none
def dO.f (k:Nat) (a0:aU) (a1:Int):Option (Int):=(dO.l0 a0 k a1).bind fun xx1=>(some xx1)
set_option maxRecDepth 20000 in
set_option maxHeartbeats 4000000 in
theorem dO.calls (k:Nat) (a0:aU) (a1:Int) (bU:Option Addr) (bV:Nat) {h0:View} {w0:World} (hv:jL h0 w0) (fK:Rd dV h0 bU a0.ay) (iw:a0.ay.length≤bV) {r:Int} (H:dO.f k a0 a1=some r):Calls Tryz.prog 89 #[Value.agg #[vL bU a0.ay.length bV],vI a1] w0 (fun e w1=>e= .returned (vI r)∧Ext w0 w1):=by
 unfold dO.f at H
 have HS:St [] h0 w0 h0 [] w0:=St.init hv
 go_enter Tryz.func89,Tryz.ntmps89
 refine wp_seq<|region<|dU rfl rfl (dY (cs:=#[vL bU a0.ay.length bV]) rfl rfl) ?_
 rintro w1 _ hE1 ⟨b1,rfl,ge1,hb1⟩
 have HS1:=HS.new hE1 ge1 hb1
 refine rs (vI 0) (aB rfl) ?_
 try simp only [sc0,sc1]
 refine aA<|ak<|wp_seq ?_
 obtain ⟨xx1,H,G1⟩:=bJ H
 refine jm [1,5,6,7,8,9,10,11,12,13,14,15,16,17] (fun m us w'=>∃(aG:Int),Fit us (fun uy1=>[vI aG,(uy1 1),(uy1 2),(uy1 3),(uy1 4),(uy1 5),(uy1 6),(uy1 7),(uy1 8),(uy1 9),(uy1 10),(uy1 11),(uy1 12),(uy1 13)])∧dO.l0 a0 m aG=some xx1∧St [] h0 w0 h0 [(some b1, .cells #[vL bU a0.ay.length bV] 24 (0,0))] w') (fun us w'=>Fit us (fun uo1=>[vI xx1,(uo1 1),(uo1 2),(uo1 3),(uo1 4),(uo1 5),(uo1 6),(uo1 7),(uo1 8),(uo1 9),(uo1 10),(uo1 11),(uo1 12),(uo1 13)])∧St [] h0 w0 h0 [(some b1, .cells #[vL bU a0.ay.length bV] 24 (0,0))] w') k ⟨a1,(fit rfl),H,HS1⟩ ?_ ?_
 ·rintro m us w2 ⟨aG,ng,H,HS2⟩
  obtain ⟨uy1,rfl⟩:=unj ng
  cases m with
  |zero=>exact absurd H (by simp [dO.l0])
  |succ m=>
   rw [dO.l0] at H
   try simp only [patch,sc0,sc1]
   refine wp_seq<|wp_seq<|region<|rs (vP b1 0) (aH (n:=1) (o':=0) rfl Tryz.runUnderlying24 rfl Tryz.sizeOf22 (by decide) rfl)<|rs (vL bU a0.ay.length bV) (aK rfl Tryz.isAgg22 (HS2.look 0 rfl) rfl)<|rs (vI aG) (aJ rfl) ?_
   obtain ⟨hi1,H⟩:=eG H
   obtain ⟨ad1,dG,dJ,e1,lu,jQ,iH⟩:=gy fK hi1.1 hi1.2
   refine rs (Value.pointer (some (Addr.add ad1 (aG.toNat*7)))) (dP (sz:=7) rfl e1 rfl hi1.1 hi1.2 Tryz.runUnderlying22 Tryz.sizeOf56)<|aI (by simp only [sc0,sc1];rfl) ?_
   refine rs (Value.pointer (some (Addr.add (Addr.add ad1 (aG.toNat*7)) 0))) (jr (n:=1) (o':=0) rfl Tryz.runUnderlying56 rfl Tryz.sizeOf3 (by decide) rfl)<|rs (vI ((rd ah a0.ay aG).aC)) (jC rfl Tryz.isAgg3 (lu.cell HS2.sees 0 rfl))<|rs (vB ((rd ah a0.ay aG).aC==6)) (bK rfl rfl rfl) ?_
   try simp only [sc0,sc1]
   refine aA<|ak<|wp_cond_split (t:=((rd ah a0.ay aG).aC==6)) rfl (fun c1=>?_) (fun c1=>?_)
   ·replace H:=bM H c1
    refine wp_skip<|ak<|wp_block<|region<|rs (vP b1 0) (aH (n:=1) (o':=0) rfl Tryz.runUnderlying24 rfl Tryz.sizeOf22 (by decide) rfl)<|rs (vL bU a0.ay.length bV) (aK rfl Tryz.isAgg22 (HS2.look 0 rfl) rfl)<|rs (vI aG) (aJ rfl) ?_
    obtain ⟨hi2,H⟩:=eG H
    obtain ⟨ad2,BD,BF,e2,xw,Dv,Dw⟩:=gy fK hi2.1 hi2.2
    refine rs (Value.pointer (some (Addr.add ad2 (aG.toNat*7)))) (dP (sz:=7) rfl e2 rfl hi2.1 hi2.2 Tryz.runUnderlying22 Tryz.sizeOf56)<|aI (by simp only [sc0,sc1];rfl) ?_
    refine rs (Value.pointer (some (Addr.add (Addr.add ad2 (aG.toNat*7)) 4))) (jr (n:=1) (o':=4) rfl Tryz.runUnderlying56 rfl Tryz.sizeOf3 (by decide) rfl)<|rs (vI ((rd ah a0.ay aG).dM)) (jC rfl Tryz.isAgg3 (xw.cell HS2.sees 4 rfl))<|rs (vI ((rd ah a0.ay aG).dM)) (aB rfl) ?_
    try simp only [sc0,sc1]
    refine aA<|dI<|gZ m (Nat.lt_succ_self m) rfl ⟨(rd ah a0.ay aG).dM,(fit rfl),H,HS2⟩
   ·replace H:=bW H (nt c1)
    refine wp_exit<|eY ?_
    obtain rfl:=Option.some.inj H
    refine iG rfl ⟨(fit rfl),HS2⟩
 ·rintro us w3 ⟨ni,HS3⟩
  obtain ⟨uo1,rfl⟩:=unj ni
  replace H:=G1
  clear G1
  try simp only [patch,sc0,sc1]
  refine ak<|wp_seq<|region<|rs (vI xx1) (aJ rfl)<|rs (vI xx1) (aB rfl) ?_
  try simp only [sc0,sc1]
  refine aA<|ak<|wp_ret ?_
  obtain rfl:=Option.some.inj H
  exact bodyPost_ret (aV rfl (aX rfl)) rfl<|⟨rfl,HS3.toE⟩

end Go.Proofs.YtecpbadkdpbkpaaGreatDoor
namespace Go.Proofs.YtecpbadkdpbkpaaGreatDoor
open Go.RowKit Go.M
def fD.l0 (a0:aU) (a2:ByteArray) (v1:Int):Nat→Int→Option ((dw×Int)⊕(Unit))
 |0,_=>none
 |m+1,aG=>if (decide (aG<(((rd ah a0.ay v1).au).length:Int)))=true then (if 0≤aG∧aG<((rd ah a0.ay v1).au).length then (if (strEq ((rd aj ((rd ah a0.ay v1).au) aG).aQ) a2)=true then (some (.inl ((rd aj ((rd ah a0.ay v1).au) aG),0))) else (fD.l0 a0 a2 v1 m (IntKind.wrap .i64 (aG+1)))) else none) else (some (.inr ()))
def fD.f (k:Nat) (a0:aU) (a1:Int) (a2:ByteArray):Option (dw×Int):=(dO.f k a0 a1).bind fun v1=>(if 0≤v1∧v1<a0.ay.length then (if ((rd ah a0.ay v1).aC !=4)=true then (some ((⟨ByteArray.empty,0,0⟩:dw),5)) else ((fD.l0 a0 a2 v1 k 0).bind fun xx1=>(match xx1 with| .inl r=>some r| .inr s1=>some ((⟨ByteArray.empty,0,0⟩:dw),3)))) else none)
set_option maxRecDepth 20000 in
set_option maxHeartbeats 4000000 in
theorem fD.calls (k:Nat) (a0:aU) (a1:Int) (a2:ByteArray) (bU:Option Addr) (bV:Nat) {h0:View} {w0:World} (hv:jL h0 w0) (fK:Rd dV h0 bU a0.ay) (iw:a0.ay.length≤bV) {r:dw×Int} (H:fD.f k a0 a1 a2=some r):Calls Tryz.prog 54 #[Value.agg #[vL bU a0.ay.length bV],vI a1,vS a2] w0 (fun e w1=>e= .returned (Value.tuple #[Value.agg #[vS r.1.aQ,vI r.1.vType,vI r.1.vAt],vI r.2])∧Ext w0 w1):=by
 unfold fD.f at H
 have HS:St [] h0 w0 h0 [] w0:=St.init hv
 go_enter Tryz.func54,Tryz.ntmps54
 refine wp_seq<|region<|dU rfl rfl (dY (cs:=#[vL bU a0.ay.length bV]) rfl rfl) ?_
 rintro w1 _ hE1 ⟨b1,rfl,ge1,hb1⟩
 have HS1:=HS.new hE1 ge1 hb1
 refine dU rfl rfl (fA (cs:=#[vS ByteArray.empty,vI 0,vI 0]) Tryz.zeroValue129 rfl) ?_
 rintro w2 _ hE2 ⟨b2,rfl,ge2,hb2⟩
 have HS2:=HS1.new hE2 ge2 hb2
 refine rs (vI 0) (aB rfl) ?_
 try simp only [sc0,sc1]
 refine aA<|ak<|wp_seq ?_
 obtain ⟨v1,H1,H⟩:=bJ H
 obtain ⟨hi1,H⟩:=eG H
 obtain ⟨ad1,dG,dJ,e1,lu,jQ,iH⟩:=gy fK hi1.1 hi1.2
 refine drawn [.eq (vP b1 0), .eq (vL bU a0.ay.length bV), .eq (Value.agg #[vL bU a0.ay.length bV]), .eq (vI a1), .eq (vI v1), .eq (Value.pointer (some (Addr.add ad1 (v1.toNat*7)))), .eq (Value.agg #[vI ((rd ah a0.ay v1).aC),vS ((rd ah a0.ay v1).aQ),vI ((rd ah a0.ay v1).bG.aP),vB ((rd ah a0.ay v1).bG.aN),vI ((rd ah a0.ay v1).dM),vI ((rd ah a0.ay v1).vN),vL dG ((rd ah a0.ay v1).au).length dJ]), .ex (nD w2 #[vI 0,vS ByteArray.empty,vI 0,vB false,vI 0,vI 0,vL none 0 0] 56)] [11,12,13,14,15,16,17,8] lW (by kernel_rfl) rfl (aS (aS (aS (aS (aS (aS (aS (oC nD.stable iP)))))))) ⟨aY rfl (fun a' w' hE hk=>by have HSd:=HS2.step hE;exact bI (aH (n:=1) (o':=0) (show _=vP b1 0 from hk 3 rfl) Tryz.runUnderlying24 rfl Tryz.sizeOf22 (by decide) rfl)),aY rfl (fun a' w' hE hk=>by have HSd:=HS2.step hE;exact bI (aK (show _=vP b1 0 from hk 11 rfl) Tryz.isAgg22 (HSd.look 1 rfl) rfl)),aY rfl (fun a' w' hE hk=>by have HSd:=HS2.step hE;exact bI (aZ (n:=1) (vs:=[vL bU a0.ay.length bV]) (show _=vP b1 0 from hk 3 rfl) Tryz.isAgg24 (HSd.look 1 rfl) Tryz.sizeOf24 rfl rfl)),aY rfl (fun a' w' hE hk=>by have HSd:=HS2.step hE;exact bI (aJ (show _=vI a1 from hk 1 rfl))),aY rfl (fun a' w' hE hk=>by have HSd:=HS2.step hE;exact (bf Tryz.call89 rfl (OA (show _=Value.agg #[vL bU a0.ay.length bV] from hk 13 rfl) (show _=vI a1 from hk 14 rfl)) (dO.calls k a0 a1 bU bV HSd.sees fK iw H1))),aY rfl (fun a' w' hE hk=>by have HSd:=HS2.step hE;exact bI (dP (sz:=7) (show _=vL bU a0.ay.length bV from hk 12 rfl) e1 (show _=vI v1 from hk 15 rfl) hi1.1 hi1.2 Tryz.runUnderlying22 Tryz.sizeOf56)),aY rfl (fun a' w' hE hk=>by have HSd:=HS2.step hE;exact bI (ig (show _=Value.pointer (some (Addr.add ad1 (v1.toNat*7))) from hk 16 rfl) Tryz.isAgg56 (lu.sees HSd.sees) Tryz.sizeOf56)),aY rfl (fun a' w' hE hk=>(tC hE (cs:=#[vI 0,vS ByteArray.empty,vI 0,vB false,vI 0,vI 0,vL none 0 0]) Tryz.zeroValue56 rfl)),trivial⟩ ?_
 intro w3 hE3
 simp only [List.zip_cons_cons,List.zip_nil_left,List.zip_nil_right,yg,sc0,sc1,List.length_cons,List.length_nil,List.drop_succ_cons,List.drop_zero,Nat.zero_add,Nat.reduceAdd]
 rintro _ ⟨b3,rfl,ge3,hb3⟩
 have HS3:=HS2.new hE3 ge3 hb3
 refine fV (i:=0) (cs:=[vI 0,vS ByteArray.empty,vI 0,vB false,vI 0,vI 0,vL none 0 0]) (cs':=[vI ((rd ah a0.ay v1).aC),vS ((rd ah a0.ay v1).aQ),vI ((rd ah a0.ay v1).bG.aP),vB ((rd ah a0.ay v1).bG.aN),vI ((rd ah a0.ay v1).dM),vI ((rd ah a0.ay v1).vN),vL dG ((rd ah a0.ay v1).au).length dJ]) (vs:=[vI ((rd ah a0.ay v1).aC),vS ((rd ah a0.ay v1).aQ),vI ((rd ah a0.ay v1).bG.aP),vB ((rd ah a0.ay v1).bG.aN),vI ((rd ah a0.ay v1).dM),vI ((rd ah a0.ay v1).vN),vL dG ((rd ah a0.ay v1).au).length dJ]) (bs':=[(some b3, .cells #[vI ((rd ah a0.ay v1).aC),vS ((rd ah a0.ay v1).aQ),vI ((rd ah a0.ay v1).bG.aP),vB ((rd ah a0.ay v1).bG.aN),vI ((rd ah a0.ay v1).dM),vI ((rd ah a0.ay v1).vN),vL dG ((rd ah a0.ay v1).au).length dJ] 56 (0,0)),(some b2, .cells #[vS ByteArray.empty,vI 0,vI 0] 129 (0,0)),(some b1, .cells #[vL bU a0.ay.length bV] 24 (0,0))]) rfl rfl Tryz.sizeOf56 rfl rfl (by decide) rfl HS3 rfl (Nat.le_of_ble_eq_true rfl) rfl rfl ?_
 intro w4 HS4
 try simp only [sc0,sc1]
 refine aA<|ak<|wp_seq<|wp_seq<|region<|rs (vP b3 0) (aH (n:=1) (o':=0) rfl Tryz.runUnderlying56 rfl Tryz.sizeOf3 (by decide) rfl)<|rs (vI ((rd ah a0.ay v1).aC)) (aK rfl Tryz.isAgg3 (HS4.look 0 rfl) rfl)<|rs (vB ((rd ah a0.ay v1).aC !=4)) (bK rfl rfl rfl) ?_
 try simp only [sc0,sc1]
 refine aA<|ak<|wp_cond_split (t:=((rd ah a0.ay v1).aC !=4)) rfl (fun c1=>?_) (fun c1=>?_)
 ·replace H:=bM H c1
  refine wp_seq<|region<|rs (Value.agg #[vS ByteArray.empty,vI 0,vI 0]) (tH (cs:=[vS ByteArray.empty,vI 0,vI 0]) Tryz.zeroValue129 Tryz.runUnderlying129 (pl:=#[(0,1),(1,1),(2,1)]) (fun w=>by simp [Tryz.sizeOf3,Tryz.sizeOf9]) rfl) ?_
  refine fV (i:=1) (cs:=[vS ByteArray.empty,vI 0,vI 0]) (cs':=[vS ByteArray.empty,vI 0,vI 0]) (vs:=[vS ByteArray.empty,vI 0,vI 0]) (bs':=[(some b3, .cells #[vI ((rd ah a0.ay v1).aC),vS ((rd ah a0.ay v1).aQ),vI ((rd ah a0.ay v1).bG.aP),vB ((rd ah a0.ay v1).bG.aN),vI ((rd ah a0.ay v1).dM),vI ((rd ah a0.ay v1).vN),vL dG ((rd ah a0.ay v1).au).length dJ] 56 (0,0)),(some b2, .cells #[vS ByteArray.empty,vI 0,vI 0] 129 (0,0)),(some b1, .cells #[vL bU a0.ay.length bV] 24 (0,0))]) rfl rfl Tryz.sizeOf129 rfl rfl (by decide) rfl HS4 rfl (Nat.le_of_ble_eq_true rfl) rfl rfl ?_
  intro w5 HS5
  refine rs (vI 5) (aB rfl) ?_
  try simp only [sc0,sc1]
  refine aA<|ak<|wp_ret<|aW ?_
  obtain rfl:=Option.some.inj H
  exact bodyPost_ret (fM rfl (iU rfl Tryz.isAgg129 (HS5.look 1 rfl) Tryz.sizeOf129 rfl) (aX rfl)) rfl<|⟨rfl,HS5.toE⟩
 ·replace H:=bW H (nt c1)
  refine wp_skip<|ak<|wp_seq<|wp_seq<|region<|rs (vP b3 6) (aH (n:=1) (o':=6) rfl Tryz.runUnderlying56 rfl Tryz.sizeOf54 (by decide) rfl)<|rs (vL dG ((rd ah a0.ay v1).au).length dJ) (aK rfl Tryz.isAgg54 (HS4.look 0 rfl) rfl)<|rs (vI (((rd ah a0.ay v1).au).length:Int)) (jJ rfl Tryz.runUnderlying54)<|rs (vI 0) (aJ rfl) ?_
  try simp only [sc0,sc1]
  refine aA<|ak ?_
  obtain ⟨xx1,H,G1⟩:=bJ H
  refine jm [7,10,25,26,27,28,29,30,31,32,33,34] (fun m us w'=>∃(aG:Int),Fit us (fun uy1=>[(uy1 0),(uy1 1),vI aG,(uy1 3),(uy1 4),(uy1 5),(uy1 6),(uy1 7),(uy1 8),(uy1 9),(uy1 10),(uy1 11)])∧fD.l0 a0 a2 v1 m aG=some xx1∧St [] h0 w0 h0 [(some b3, .cells #[vI ((rd ah a0.ay v1).aC),vS ((rd ah a0.ay v1).aQ),vI ((rd ah a0.ay v1).bG.aP),vB ((rd ah a0.ay v1).bG.aN),vI ((rd ah a0.ay v1).dM),vI ((rd ah a0.ay v1).vN),vL dG ((rd ah a0.ay v1).au).length dJ] 56 (0,0)),(some b2, .cells #[vS ByteArray.empty,vI 0,vI 0] 129 (0,0)),(some b1, .cells #[vL bU a0.ay.length bV] 24 (0,0))] w') (fun us w'=>∃(s1:Unit),xx1= .inr s1∧Fit us (fun uo1=>[(uo1 0),(uo1 1),(uo1 2),(uo1 3),(uo1 4),(uo1 5),(uo1 6),(uo1 7),(uo1 8),(uo1 9),(uo1 10),(uo1 11)])∧St [] h0 w0 h0 [(some b3, .cells #[vI ((rd ah a0.ay v1).aC),vS ((rd ah a0.ay v1).aQ),vI ((rd ah a0.ay v1).bG.aP),vB ((rd ah a0.ay v1).bG.aN),vI ((rd ah a0.ay v1).dM),vI ((rd ah a0.ay v1).vN),vL dG ((rd ah a0.ay v1).au).length dJ] 56 (0,0)),(some b2, .cells #[vS ByteArray.empty,vI 0,vI 0] 129 (0,0)),(some b1, .cells #[vL bU a0.ay.length bV] 24 (0,0))] w') k ⟨0,(fit rfl),H,HS4⟩ ?_ ?_
  ·rintro m us w6 ⟨aG,ng,H,HS6⟩
   obtain ⟨uy1,rfl⟩:=unj ng
   cases m with
   |zero=>exact absurd H (by simp [fD.l0])
   |succ m=>
    rw [fD.l0] at H
    try simp only [patch,sc0,sc1]
    refine wp_seq<|region<|rs (vB (decide (aG<(((rd ah a0.ay v1).au).length:Int)))) (bK rfl rfl rfl) ?_
    try simp only [sc0,sc1]
    refine aA<|ak<|wp_seq<|wp_cond_split (t:=(decide (aG<(((rd ah a0.ay v1).au).length:Int)))) rfl (fun c2=>?_) (fun c2=>?_)
    ·replace H:=bM H c2
     refine wp_skip<|ak<|wp_seq<|wp_block<|wp_seq<|region ?_
     obtain ⟨hi2,H⟩:=eG H
     obtain ⟨ad2,e2,xw⟩:=iM iH hi2.1 hi2.2
     refine rs (Value.pointer (some (Addr.add ad2 (aG.toNat*3)))) (dP (sz:=3) rfl e2 rfl hi2.1 hi2.2 Tryz.runUnderlying54 Tryz.sizeOf129)<|rs (Value.agg #[vS ((rd aj ((rd ah a0.ay v1).au) aG).aQ),vI ((rd aj ((rd ah a0.ay v1).au) aG).vType),vI ((rd aj ((rd ah a0.ay v1).au) aG).vAt)]) (ig rfl Tryz.isAgg129 (xw.sees HS6.sees) Tryz.sizeOf129)<|dU rfl rfl (fA (cs:=#[vS ByteArray.empty,vI 0,vI 0]) Tryz.zeroValue129 rfl) ?_
     rintro w7 _ hE4 ⟨b4,rfl,ge4,hb4⟩
     have HS7:=HS6.new hE4 ge4 hb4
     refine fV (i:=0) (cs:=[vS ByteArray.empty,vI 0,vI 0]) (cs':=[vS ((rd aj ((rd ah a0.ay v1).au) aG).aQ),vI ((rd aj ((rd ah a0.ay v1).au) aG).vType),vI ((rd aj ((rd ah a0.ay v1).au) aG).vAt)]) (vs:=[vS ((rd aj ((rd ah a0.ay v1).au) aG).aQ),vI ((rd aj ((rd ah a0.ay v1).au) aG).vType),vI ((rd aj ((rd ah a0.ay v1).au) aG).vAt)]) (bs':=[(some b4, .cells #[vS ((rd aj ((rd ah a0.ay v1).au) aG).aQ),vI ((rd aj ((rd ah a0.ay v1).au) aG).vType),vI ((rd aj ((rd ah a0.ay v1).au) aG).vAt)] 129 (0,0)),(some b3, .cells #[vI ((rd ah a0.ay v1).aC),vS ((rd ah a0.ay v1).aQ),vI ((rd ah a0.ay v1).bG.aP),vB ((rd ah a0.ay v1).bG.aN),vI ((rd ah a0.ay v1).dM),vI ((rd ah a0.ay v1).vN),vL dG ((rd ah a0.ay v1).au).length dJ] 56 (0,0)),(some b2, .cells #[vS ByteArray.empty,vI 0,vI 0] 129 (0,0)),(some b1, .cells #[vL bU a0.ay.length bV] 24 (0,0))]) rfl rfl Tryz.sizeOf129 rfl rfl (by decide) rfl HS7 rfl (Nat.le_of_ble_eq_true rfl) rfl rfl ?_
     intro w8 HS8
     try simp only [sc0,sc1]
     refine aA<|ak<|wp_seq<|region<|rs (vP b4 0) (aH (n:=1) (o':=0) rfl Tryz.runUnderlying129 rfl Tryz.sizeOf9 (by decide) rfl)<|rs (vS ((rd aj ((rd ah a0.ay v1).au) aG).aQ)) (aK rfl Tryz.isAgg9 (HS8.look 0 rfl) rfl)<|rs (vS a2) (aJ rfl)<|rs (vB (strEq ((rd aj ((rd ah a0.ay v1).au) aG).aQ) a2)) (uT rfl rfl) ?_
     try simp only [sc0,sc1]
     refine aA<|ak<|wp_cond_split (t:=(strEq ((rd aj ((rd ah a0.ay v1).au) aG).aQ) a2)) rfl (fun c3=>?_) (fun c3=>?_)
     ·replace H:=bM H c3
      refine wp_seq<|region<|rs (Value.agg #[vS ((rd aj ((rd ah a0.ay v1).au) aG).aQ),vI ((rd aj ((rd ah a0.ay v1).au) aG).vType),vI ((rd aj ((rd ah a0.ay v1).au) aG).vAt)]) (aZ (n:=3) (vs:=[vS ((rd aj ((rd ah a0.ay v1).au) aG).aQ),vI ((rd aj ((rd ah a0.ay v1).au) aG).vType),vI ((rd aj ((rd ah a0.ay v1).au) aG).vAt)]) rfl Tryz.isAgg129 (HS8.look 0 rfl) Tryz.sizeOf129 rfl rfl)<|fV (i:=2) (cs:=[vS ByteArray.empty,vI 0,vI 0]) (cs':=[vS ((rd aj ((rd ah a0.ay v1).au) aG).aQ),vI ((rd aj ((rd ah a0.ay v1).au) aG).vType),vI ((rd aj ((rd ah a0.ay v1).au) aG).vAt)]) (vs:=[vS ((rd aj ((rd ah a0.ay v1).au) aG).aQ),vI ((rd aj ((rd ah a0.ay v1).au) aG).vType),vI ((rd aj ((rd ah a0.ay v1).au) aG).vAt)]) (bs':=[(some b4, .cells #[vS ((rd aj ((rd ah a0.ay v1).au) aG).aQ),vI ((rd aj ((rd ah a0.ay v1).au) aG).vType),vI ((rd aj ((rd ah a0.ay v1).au) aG).vAt)] 129 (0,0)),(some b3, .cells #[vI ((rd ah a0.ay v1).aC),vS ((rd ah a0.ay v1).aQ),vI ((rd ah a0.ay v1).bG.aP),vB ((rd ah a0.ay v1).bG.aN),vI ((rd ah a0.ay v1).dM),vI ((rd ah a0.ay v1).vN),vL dG ((rd ah a0.ay v1).au).length dJ] 56 (0,0)),(some b2, .cells #[vS ((rd aj ((rd ah a0.ay v1).au) aG).aQ),vI ((rd aj ((rd ah a0.ay v1).au) aG).vType),vI ((rd aj ((rd ah a0.ay v1).au) aG).vAt)] 129 (0,0)),(some b1, .cells #[vL bU a0.ay.length bV] 24 (0,0))]) rfl rfl Tryz.sizeOf129 rfl rfl (by decide) rfl HS8 rfl (Nat.le_of_ble_eq_true rfl) rfl rfl ?_
      intro w9 HS9
      refine rs (vI 0) (aB rfl) ?_
      try simp only [sc0,sc1]
      refine aA<|ak<|wp_ret<|dn<|aW<|gJ<|aW ?_
      obtain rfl:=Option.some.inj H
      obtain rfl:=Option.some.inj G1
      exact bodyPost_ret (fM rfl (iU rfl Tryz.isAgg129 (HS9.look 2 rfl) Tryz.sizeOf129 rfl) (aX rfl)) rfl<|⟨rfl,HS9.toE⟩
     ·replace H:=bW H (nt c3)
      refine wp_skip<|dI<|ak<|region<|rs (vI (w64 (aG+1))) (bK rfl rfl rfl)<|rs (vI (w64 (aG+1))) (aJ rfl) ?_
      try simp only [sc0,sc1]
      refine aA<|gZ m (Nat.lt_succ_self m) rfl ⟨(w64 (aG+1)),(fit rfl),H,HS8.tail⟩
    ·replace H:=bW H (nt c2)
     refine wp_exit<|eY ?_
     obtain rfl:=Option.some.inj H
     refine iG rfl ⟨_,rfl,(fit rfl),HS6⟩
  ·rintro us w10 ⟨s1,rfl,ni,ru⟩
   obtain ⟨uo1,rfl⟩:=unj ni
   replace H:=G1
   clear G1
   try simp only [patch,sc0,sc1]
   refine ak<|wp_seq<|region<|rs (Value.agg #[vS ByteArray.empty,vI 0,vI 0]) (tH (cs:=[vS ByteArray.empty,vI 0,vI 0]) Tryz.zeroValue129 Tryz.runUnderlying129 (pl:=#[(0,1),(1,1),(2,1)]) (fun w=>by simp [Tryz.sizeOf3,Tryz.sizeOf9]) rfl) ?_
   refine fV (i:=1) (cs:=[vS ByteArray.empty,vI 0,vI 0]) (cs':=[vS ByteArray.empty,vI 0,vI 0]) (vs:=[vS ByteArray.empty,vI 0,vI 0]) (bs':=[(some b3, .cells #[vI ((rd ah a0.ay v1).aC),vS ((rd ah a0.ay v1).aQ),vI ((rd ah a0.ay v1).bG.aP),vB ((rd ah a0.ay v1).bG.aN),vI ((rd ah a0.ay v1).dM),vI ((rd ah a0.ay v1).vN),vL dG ((rd ah a0.ay v1).au).length dJ] 56 (0,0)),(some b2, .cells #[vS ByteArray.empty,vI 0,vI 0] 129 (0,0)),(some b1, .cells #[vL bU a0.ay.length bV] 24 (0,0))]) rfl rfl Tryz.sizeOf129 rfl rfl (by decide) rfl ru rfl (Nat.le_of_ble_eq_true rfl) rfl rfl ?_
   intro w11 qw
   refine rs (vI 3) (aB rfl) ?_
   try simp only [sc0,sc1]
   refine aA<|ak<|wp_ret ?_
   obtain rfl:=Option.some.inj H
   exact bodyPost_ret (fM rfl (iU rfl Tryz.isAgg129 (qw.look 1 rfl) Tryz.sizeOf129 rfl) (aX rfl)) rfl<|⟨rfl,qw.toE⟩

end Go.Proofs.YtecpbadkdpbkpaaGreatDoor
