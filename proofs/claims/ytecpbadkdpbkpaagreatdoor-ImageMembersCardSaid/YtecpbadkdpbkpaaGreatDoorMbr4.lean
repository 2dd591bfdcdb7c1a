/- Parts of a proof, merged by program: Sqz G0 G1 SV F10 C0 E1 F130 F129 F85 F90 F56 F156 F157 F115 F116 F121 F118 F158 F117 F120 F119 F74 F53 F89 F54 F19. The walks (each function once) and the plain laws; no condition of their own. -/
import Derived.Test.YtecpbadkdpbkpaaGreatDoorMbr1
import Derived.Test.YtecpbadkdpbkpaaGreatDoorMbr3
import Derived.Test.YtecpbadkdpbkpaaGreatDoorProg
import Derived.KernelRfl
import Derived.Test.YtecpbadkdpbkpaaGreatDoorCards
import Derived.Test.YtecpbadkdpbkpaaGreatDoorTie
import Derived.WalkKit
import Derived.ProofKit
import Derived.OpenShut
import Derived.Deep.DeepHandedRow
import Derived.Lib.LaidTab
set_option linter.unusedVariables false
set_option linter.unusedSimpArgs false
set_option maxRecDepth 20000
set_option maxHeartbeats 4000000
namespace Go.M
open Go.RowKit
abbrev vI (x:Int):Value:=Value.int .i64 x
abbrev vB (x:Bool):Value:=Value.bool x
abbrev vS (x:ByteArray):Value:=Value.string x
abbrev vL (A:Option Addr) (n c:Nat):Value:=Value.slice A n c
abbrev vP (b o:Nat):Value:=Value.pointer (some ⟨b,o,none⟩)
abbrev w64 (x:Int):Int:=IntKind.wrap .i64 x
theorem gvt {c:Bool} {x:Value} (v:Value) (h:c=true) (e:x=gv c v):x=v:=e.trans (pK h)
section
variable {P:Program} {Q:Exit→Act→World→Prop} {l:List Value} {df:List Deferred} {w:World} {ops:Array Oper} {o:Oper} {os:List Oper}
theorem rs (v:Value) {d:Tmp} {i:Op} {ty:TypeId} {pos:String} {af:Array Edge} (h:(execOp (ev l) ⟨some d,i,ty,pos,af,none⟩).run P w= .ok (.value v) w)
  (k:run P ops Q df os (l.set d v) w):run P ops Q df (⟨some d,i,ty,pos,af,none⟩::os) l w:=eY rfl rfl h k
theorem rgs (b c:Bool) (v:Value) {d e:Tmp} {j:Nat} {want:Bool} (hg:o.guard=some (j,want)) (hj:(ops[j]?).bind (·.dst)=some e) (hv:l.getD e undef=gv c (.bool b)) (hd:o.dst=some d)
  (h:(c&&(b==want))=true→(execOp (ev l) o).run P w= .ok (.value v) w) (k:run P ops Q df os (l.set d (gv (c&&(b==want)) v)) w):run P ops Q df (o::os) l w:=fV hg hj hv hd h k
end
section
variable {M:List Nat} {h0 h:View} {w0 w:World} {a b c d e f g:Res} {r:List Res}
theorem St.f1 (H:St M h0 w0 h (a::b::r) w):St M h0 w0 h (b::a::r) w:=H.front (i:=1) rfl
theorem St.f2 (H:St M h0 w0 h (a::b::c::r) w):St M h0 w0 h (c::a::b::r) w:=H.front (i:=2) rfl
theorem St.f3 (H:St M h0 w0 h (a::b::c::d::r) w):St M h0 w0 h (d::a::b::c::r) w:=H.front (i:=3) rfl
theorem St.f4 (H:St M h0 w0 h (a::b::c::d::e::r) w):St M h0 w0 h (e::a::b::c::d::r) w:=H.front (i:=4) rfl
theorem St.f5 (H:St M h0 w0 h (a::b::c::d::e::f::r) w):St M h0 w0 h (f::a::b::c::d::e::r) w:=H.front (i:=5) rfl
theorem St.f6 (H:St M h0 w0 h (a::b::c::d::e::f::g::r) w):St M h0 w0 h (g::a::b::c::d::e::f::r) w:=H.front (i:=6) rfl
theorem St.f7 {x:Res} (H:St M h0 w0 h (a::b::c::d::e::f::g::x::r) w):St M h0 w0 h (x::a::b::c::d::e::f::g::r) w:=H.front (i:=7) rfl
theorem St.d0 (H:St M h0 w0 h (a::r) w):St M h0 w0 h r w:=H.drop 0
theorem St.d1 (H:St M h0 w0 h (a::b::r) w):St M h0 w0 h (a::r) w:=H.drop 1
theorem St.d2 (H:St M h0 w0 h (a::b::c::r) w):St M h0 w0 h (a::b::r) w:=H.drop 2
end
theorem sc0 {α:Type _} {x:α} {l:List α} {a:α}:(x::l).set 0 a=a::l:=rfl
theorem sc1 {α:Type _} {x:α} {l:List α} {n:Nat} {a:α}:(x::l).set (n+1) a=x::l.set n a:=rfl
end Go.M
namespace Go.Proofs.YtecpbadkdpbkpaaGreatDoor
open Go.RowKit Go.M
theorem nD:Tryz.prog.follows .mixedOrders=true:=by kernel_rfl
structure eP where
 aS:Int
 aO:Bool
def Nz:eP:=⟨0,false⟩
def zu:Kd eP:=Kd.iso (Kd.pair (Kd.int .i64) Kd.bool) fun x=>(x.aS,x.aO)
def jS (x:eP):Value:= .agg #[.int .i64 x.aS, .bool x.aO]
structure dP where
 aU:ByteArray
 vType:Int
 vAt:Int
def ak:dP:=⟨ByteArray.empty,0,0⟩
def fM:Kd dP:=Kd.iso (Kd.pair Kd.str (Kd.pair (Kd.int .i64) (Kd.int .i64))) fun x=>(x.aU,(x.vType,x.vAt))
theorem iR {h:View} {A:Option Addr} {xs:List dP} {i:Int} (hr:Rd fM h A xs) (h0:0≤i) (h1:i<xs.length):
  ∃ad,A=some ad∧jY h (ad.add (i.toNat*3)) [.string (rd ak xs i).aU, .int .i64 (rd ak xs i).vType, .int .i64 (rd ak xs i).vAt]:=by
 obtain ⟨ad,cs,e,hK,hc⟩:=hr.get ak h0 h1
 obtain ⟨_,_,rfl,rfl,⟨_,_,rfl,rfl,rfl⟩⟩:=hK
 exact ⟨ad,e,hc⟩
structure bV where
 aF:Int
 aU:ByteArray
 bW:eP
 dY:Int
 vN:Int
 au:List dP
def ah:bV:=⟨0,ByteArray.empty,Nz,0,0,[]⟩
def eX:Kd bV:=Kd.iso (Kd.pair (Kd.int .i64) (Kd.pair Kd.str (Kd.pair zu (Kd.pair (Kd.int .i64) (Kd.pair (Kd.int .i64) (Kd.slice fM)))))) fun x=>(x.aF,(x.aU,(x.bW,(x.dY,(x.vN,x.au)))))
theorem gU {h:View} {A:Option Addr} {xs:List bV} {i:Int} (hr:Rd eX h A xs) (h0:0≤i) (h1:i<xs.length):
  ∃ad A6 c6,A=some ad∧jY h (ad.add (i.toNat*7)) [.int .i64 (rd ah xs i).aF, .string (rd ah xs i).aU, .int .i64 (rd ah xs i).bW.aS, .bool (rd ah xs i).bW.aO, .int .i64 (rd ah xs i).dY, .int .i64 (rd ah xs i).vN, .slice A6 (rd ah xs i).au.length c6]∧(rd ah xs i).au.length≤c6∧Rd fM h A6 (rd ah xs i).au:=by
 obtain ⟨ad,cs,e,hK,hc⟩:=hr.get ah h0 h1
 obtain ⟨_,_,rfl,rfl,⟨_,_,rfl,rfl,⟨_,_,rfl,⟨_,_,rfl,rfl,rfl⟩,⟨_,_,rfl,rfl,⟨_,_,rfl,rfl,⟨A6,c6,rfl,hl6,hr6⟩⟩⟩⟩⟩⟩:=hK
 exact ⟨ad,A6,c6,e,hc,hl6,hr6⟩
structure bf where
 ay:List bV
def Gl:Kd bf:=Kd.iso (Kd.slice eX) fun x=>x.ay
structure fC where
 jX:Bool
 ql:Bool
 o9:Bool
 vn:Bool
 jw:Bool
def aJ:fC:=⟨false,false,false,false,false⟩
def ku (x:fC):Value:= .agg #[.bool x.jX, .bool x.ql, .bool x.o9, .bool x.vn, .bool x.jw]
structure XM where
 qm:List ByteArray
 vV:Int
structure iK where
 vF:dP
 vE:Int
structure iq where
 vType:Int
 vAt:Int
 vE:Int
structure kC where
 vN:Int
 vE:Int
structure Jq where
 vB:List Int
 vE:Int
structure bY where
 vAt:Int
 bF:List Int
def aA:bY:=⟨0,[]⟩
def gJ:Kd bY:=Kd.iso (Kd.pair (Kd.int .i64) (Kd.slice (Kd.int .u8))) fun x=>(x.vAt,x.bF)
theorem jT {h:View} {A:Option Addr} {xs:List bY} {i:Int} (hr:Rd gJ h A xs) (h0:0≤i) (h1:i<xs.length):
  ∃ad A1 c1,A=some ad∧jY h (ad.add (i.toNat*2)) [.int .i64 (rd aA xs i).vAt, .slice A1 (rd aA xs i).bF.length c1]∧(rd aA xs i).bF.length≤c1∧Rd (Kd.int .u8) h A1 (rd aA xs i).bF:=by
 obtain ⟨ad,cs,e,hK,hc⟩:=hr.get aA h0 h1
 obtain ⟨_,_,rfl,rfl,⟨A1,c1,rfl,hl1,hr1⟩⟩:=hK
 exact ⟨ad,A1,c1,e,hc,hl1,hr1⟩
structure dX where
 aQ:List bY
def Gm:Kd dX:=Kd.iso (Kd.slice gJ) fun x=>x.aQ
structure dZ where
 vV:Int
 vIs:Bool
 vE:Int
structure XO where
 aU:ByteArray
 vAt:Int
 aS:Int
end Go.Proofs.YtecpbadkdpbkpaaGreatDoor
namespace Go.Proofs.YtecpbadkdpbkpaaGreatDoor
open Go.V
noncomputable section
def BA : List (Nat × List Value) := [
   (0,[.int .u64 1, .int .u64 10, .int .u64 100, .int .u64 1000, .int .u64 10000, .int .u64 100000, .int .u64 1000000, .int .u64 10000000, .int .u64 100000000, .int .u64 1000000000, .int .u64 10000000000, .int .u64 100000000000, .int .u64 1000000000000, .int .u64 10000000000000, .int .u64 100000000000000, .int .u64 1000000000000000, .int .u64 10000000000000000, .int .u64 100000000000000000, .int .u64 1000000000000000000, .int .u64 10000000000000000000]),
   (1,[.int .u8 0, .int .u8 1, .int .u8 28, .int .u8 2, .int .u8 29, .int .u8 14, .int .u8 24, .int .u8 3, .int .u8 30, .int .u8 22, .int .u8 20, .int .u8 15, .int .u8 25, .int .u8 17, .int .u8 4, .int .u8 8, .int .u8 31, .int .u8 27, .int .u8 13, .int .u8 23, .int .u8 21, .int .u8 19, .int .u8 16, .int .u8 7, .int .u8 26, .int .u8 12, .int .u8 18, .int .u8 6, .int .u8 11, .int .u8 5, .int .u8 10, .int .u8 9]),
   (2, [.int .u8 0, .int .u8 1, .int .u8 56, .int .u8 2, .int .u8 57, .int .u8 49, .int .u8 28, .int .u8 3, .int .u8 61, .int .u8 58, .int .u8 42, .int .u8 50, .int .u8 38, .int .u8 29, .int .u8 17, .int .u8 4, .int .u8 62, .int .u8 47, .int .u8 59, .int .u8 36, .int .u8 45, .int .u8 43, .int .u8 51, .int .u8 22, .int .u8 53, .int .u8 39, .int .u8 33, .int .u8 30, .int .u8 24, .int .u8 18, .int .u8 12, .int .u8 5, .int .u8 63, .int .u8 55, .int .u8 48, .int .u8 27, .int .u8 60, .int .u8 41, .int .u8 37, .int .u8 16, .int .u8 46, .int .u8 35, .int .u8 44, .int .u8 21, .int .u8 52, .int .u8 32, .int .u8 23, .int .u8 11, .int .u8 54, .int .u8 26, .int .u8 40, .int .u8 15, .int .u8 34, .int .u8 20, .int .u8 31, .int .u8 10, .int .u8 25, .int .u8 14, .int .u8 19, .int .u8 9, .int .u8 13, .int .u8 8, .int .u8 7, .int .u8 6])]
def vo0:Obj:= .cells ⟨[.int .u8 0, .int .u8 1, .int .u8 56, .int .u8 2, .int .u8 57, .int .u8 49, .int .u8 28, .int .u8 3, .int .u8 61, .int .u8 58, .int .u8 42, .int .u8 50, .int .u8 38, .int .u8 29, .int .u8 17, .int .u8 4, .int .u8 62, .int .u8 47, .int .u8 59, .int .u8 36, .int .u8 45, .int .u8 43, .int .u8 51, .int .u8 22, .int .u8 53, .int .u8 39, .int .u8 33, .int .u8 30, .int .u8 24, .int .u8 18, .int .u8 12, .int .u8 5, .int .u8 63, .int .u8 55, .int .u8 48, .int .u8 27, .int .u8 60, .int .u8 41, .int .u8 37, .int .u8 16, .int .u8 46, .int .u8 35, .int .u8 44, .int .u8 21, .int .u8 52, .int .u8 32, .int .u8 23, .int .u8 11, .int .u8 54, .int .u8 26, .int .u8 40, .int .u8 15, .int .u8 34, .int .u8 20, .int .u8 31, .int .u8 10, .int .u8 25, .int .u8 14, .int .u8 19, .int .u8 9, .int .u8 13, .int .u8 8, .int .u8 7, .int .u8 6]⟩ 0 (0,1)
def vo2:Obj:= .cells ⟨[.int .i64 1, .string ⟨#[105,110,116,51,50]⟩, .int .i64 4, .bool true, .int .i64 0, .int .i64 0, .slice none 0 0, .int .i64 1, .string ⟨#[99,104,97,114]⟩, .int .i64 1, .bool true, .int .i64 0, .int .i64 0, .slice none 0 0, .int .i64 3, .string ⟨#[]⟩, .int .i64 0, .bool false, .int .i64 1, .int .i64 4, .slice none 0 0, .int .i64 4, .string ⟨#[112,114,111,99,95,116]⟩, .int .i64 0, .bool false, .int .i64 0, .int .i64 16, .slice (some ⟨77,0,none⟩) 2 5]⟩ 56 (0,0)
def vo3:Obj:= .cells ⟨[.int .u64 1, .int .u64 10, .int .u64 100, .int .u64 1000, .int .u64 10000, .int .u64 100000, .int .u64 1000000, .int .u64 10000000, .int .u64 100000000, .int .u64 1000000000, .int .u64 10000000000, .int .u64 100000000000, .int .u64 1000000000000, .int .u64 10000000000000, .int .u64 100000000000000, .int .u64 1000000000000000, .int .u64 10000000000000000, .int .u64 100000000000000000, .int .u64 1000000000000000000, .int .u64 10000000000000000000]⟩ 0 (0,1)
def vo4:Obj:= .cells ⟨[.int .u8 0, .int .u8 1, .int .u8 28, .int .u8 2, .int .u8 29, .int .u8 14, .int .u8 24, .int .u8 3, .int .u8 30, .int .u8 22, .int .u8 20, .int .u8 15, .int .u8 25, .int .u8 17, .int .u8 4, .int .u8 8, .int .u8 31, .int .u8 27, .int .u8 13, .int .u8 23, .int .u8 21, .int .u8 19, .int .u8 16, .int .u8 7, .int .u8 26, .int .u8 12, .int .u8 18, .int .u8 6, .int .u8 11, .int .u8 5, .int .u8 10, .int .u8 9]⟩ 0 (0,1)
def vo6:Obj:= .cells ⟨[.int .u8 0, .int .u8 0, .int .u8 0, .int .u8 0, .int .u8 0, .int .u8 0, .int .u8 0, .int .u8 0, .int .u8 105, .int .u8 110, .int .u8 105, .int .u8 116, .int .u8 0, .int .u8 0, .int .u8 0, .int .u8 0]⟩ 5 (0,0)
def YJ:Obj:= .cells ⟨[.string ⟨#[112,95,112,105,100]⟩, .int .i64 0, .int .i64 4, .string ⟨#[112,95,110,97,109,101]⟩, .int .i64 2, .int .i64 8]⟩ 129 (0,0)
def Zk:Obj:= .cells ⟨[.int .i64 2097152, .slice (some ⟨497,0,none⟩) 16 33]⟩ 58 (0,0)
def Zl:Obj:= .cells ⟨[.slice (some ⟨776,0,none⟩) 1 131076]⟩ 27 (0,0)
def YK:Obj:= .cells ⟨[.slice (some ⟨78,0,none⟩) 4 9]⟩ 24 (0,0)
def vt0:Tt:= .node none (.node (some (.pointer (some ⟨870,0,none⟩))) (.node (some (.int .i64 1761607680)) .leaf .leaf) .leaf) (.node (some (.int .i64 0)) (.node (some (.int .i64 0)) .leaf .leaf) .leaf)
def vt1:Tt:= .node (some (.pointer (some ⟨79,0,none⟩))) (.node (some (.bool true)) .leaf .leaf) .leaf
def vt2:Tt:= .node none (.node (some (.pointer (some ⟨79,0,none⟩))) .leaf .leaf) (.node (some (.int .i64 0)) .leaf .leaf)
def vt3:Tt:= .node (some (.pointer (some ⟨870,0,none⟩))) .leaf .leaf
def vt4:Tt:= .node (some (.int .i64 0)) .leaf .leaf
def vt5:Tt:= .node (some (.bool true)) .leaf .leaf
def vr0:Tr:= .node (some vo0) (.node none (.node none .leaf (.node none (.node none (.node none (.node none (.node none .leaf (.node (some Zk) .leaf .leaf)) .leaf) .leaf) .leaf) .leaf)) .leaf) (.node none .leaf (.node none (.node none (.node none .leaf (.node none .leaf (.node none (.node none .leaf (.node (some Zl) .leaf .leaf)) .leaf))) .leaf) (.node none (.node none (.node (some vo2) .leaf .leaf) .leaf) .leaf)))
def vr1:Tr:= .node (some vo4) (.node none (.node none (.node none .leaf (.node none (.node (some YK) .leaf .leaf) .leaf)) .leaf) .leaf) (.node none (.node none (.node none .leaf (.node none .leaf (.node none .leaf (.node none .leaf (.node (some vo6) .leaf .leaf))))) .leaf) (.node none .leaf (.node none (.node none (.node (some YJ) .leaf .leaf) .leaf) .leaf)))
def vr2:Tr:= .node none (.node (some YK) .leaf .leaf) .leaf
def vr3:Tr:= .node none (.node (some YJ) .leaf .leaf) .leaf
def vr4:Tr:= .node none (.node (some vo2) .leaf .leaf) .leaf
def zZ:Tr:=(.node (some vo3) (.node (some vo4) .leaf .leaf) (.node (some vo0) .leaf .leaf))
theorem Qd:zZ=ofList BA:=by kernel_rfl
theorem NC:Rn Tryz.prog BA=true:=by kernel_rfl
theorem XP:Tryz.prog.globals.size=3:=by kernel_rfl
theorem YL:Tryz.prog.follows .mixedOrders=true:=by kernel_rfl
theorem Ro:iM Tryz.prog:=Jp (by kernel_rfl)
abbrev vS0:VS:=⟨.leaf,zZ,3,[],[]⟩
def vS1:VS:=⟨.node none (.node none (.node (some (.pointer (some ⟨79,0,none⟩))) .leaf .leaf) .leaf) (.node (some (.pointer (some ⟨75,0,none⟩))) .leaf .leaf), .node (some vo3) (.node (some vo4) (.node none (.node none (.node none (.node none (.node (some (.cells ⟨[]⟩ 68 (0,0))) .leaf .leaf) .leaf) vr2) .leaf) (.node none (.node none (.node (some (.cells ⟨[.int .i64 0, .int .i64 0, .int .i64 1]⟩ 188 (0,0))) (.node (some (.cells ⟨[.int .i64 0, .int .i64 0, .int .i64 0, .int .i64 0, .int .i64 0, .int .i64 0, .int .i64 0, .int .i64 0, .int .i64 0, .int .i64 0, .int .i64 0, .int .i64 0, .int .i64 (-1)]⟩ 152 (0,0))) .leaf .leaf) .leaf) .leaf) (.node none (.node none (.node (some (.cells ⟨[.slice (some ⟨65,0,none⟩) 1 131084, .slice (some ⟨67,0,none⟩) 1 131098, .slice (some ⟨69,0,none⟩) 1 131076, .slice (some ⟨32,0,none⟩) 1 131078, .slice (some ⟨35,0,none⟩) 1 131078, .int .i64 1, .slice (some ⟨74,0,none⟩) 1 131074, .slice (some ⟨70,0,none⟩) 0 1, .slice none 0 0, .int .i64 0]⟩ 99 (0,0))) .leaf .leaf) .leaf) .leaf))) (.node none (.node none (.node none (.node none (.node (some (.cells ⟨[.string ⟨#[105,110,105,116]⟩, .slice (some ⟨61,0,none⟩) 1 131074, .slice (some ⟨62,0,none⟩) 64 8388610, .slice (some ⟨63,0,none⟩) 0 1, .bool false, .int .i64 0]⟩ 147 (0,0))) .leaf .leaf) .leaf) .leaf) .leaf) (.node none (.node none (.node none (.node (some (.cells ⟨[.int .i64 0, .int .i64 1]⟩ 145 (0,0))) .leaf .leaf) .leaf) .leaf) (.node none vr3 (.node (some (.cells ⟨[.int .i64 4]⟩ 3 (0,0))) .leaf .leaf))))) (.node (some vo0) (.node none (.node none (.node none (.node (some (.cells ⟨[.int .i64 (-1), .int .i64 0, .slice (some ⟨38,0,none⟩) 1 131074]⟩ 185 (0,0))) .leaf .leaf) .leaf) (.node none (.node none (.node (some (.cells ⟨[.int .u8 0, .int .u8 0, .int .u8 0, .int .u8 0, .int .u8 0, .int .u8 0, .int .u8 0, .int .u8 0, .int .u8 0, .int .u8 0, .int .u8 0, .int .u8 0, .int .u8 0, .int .u8 0, .int .u8 0, .int .u8 0]⟩ 5 (0,0))) .leaf .leaf) .leaf) .leaf)) .leaf) (.node none (.node none .leaf (.node none (.node none (.node (some (.cells ⟨[.slice (some ⟨72,0,none⟩) 16 2097154]⟩ 42 (0,0))) .leaf .leaf) .leaf) .leaf)) (.node none (.node none (.node (some (.cells ⟨[.int .i64 0]⟩ 3 (0,0))) (.node (some (.cells ⟨[]⟩ 207 (0,0))) .leaf .leaf) .leaf) .leaf) (.node none vr4 (.node (some (.cells ⟨[.int .u8 0, .int .u8 0, .int .u8 0, .int .u8 0, .int .u8 0, .int .u8 0, .int .u8 0, .int .u8 0, .int .u8 0, .int .u8 0, .int .u8 0, .int .u8 0, .int .u8 0, .int .u8 0, .int .u8 0, .int .u8 0, .int .u8 0, .int .u8 0, .int .u8 0, .int .u8 0, .int .u8 0, .int .u8 0, .int .u8 0, .int .u8 0, .int .u8 0, .int .u8 0, .int .u8 0, .int .u8 0, .int .u8 0, .int .u8 0, .int .u8 0, .int .u8 0, .int .u8 0, .int .u8 0, .int .u8 0, .int .u8 0, .int .u8 0, .int .u8 0, .int .u8 0, .int .u8 0, .int .u8 0, .int .u8 0, .int .u8 0, .int .u8 0, .int .u8 0, .int .u8 0, .int .u8 0, .int .u8 0, .int .u8 0, .int .u8 0, .int .u8 0, .int .u8 0, .int .u8 0, .int .u8 0, .int .u8 0, .int .u8 0, .int .u8 0, .int .u8 0, .int .u8 0, .int .u8 0, .int .u8 0, .int .u8 0, .int .u8 0, .int .u8 0]⟩ 5 (0,0))) .leaf .leaf))))),80,[],[]⟩
def vS2:VS:=⟨.node none vt2 (.node none vt3 .leaf), .node (some vo3) vr1 vr0,871,[],[]⟩
def vS3:VS:=⟨.node none (.node none vt1 vt4) (.node none vt3 vt4), .node (some vo3) vr1 vr0,1248,[],[]⟩
def vS4:VS:=⟨.node none (.node none vt1 (.node (some (.int .i64 0)) vt5 .leaf)) vt0, .node (some vo3) vr1 vr0,1625,[],[]⟩
def vS5:VS:=⟨.node none (.node none vt1 (.node (some (.int .i64 0)) vt5 (.node (some (.int .i64 5)) .leaf .leaf))) vt0, .node (some vo3) vr1 vr0,1988,[],[]⟩
def vS6:VS:=⟨.node none vt2 .leaf, .node (some vo3) (.node (some vo4) (.node none (.node none (.node none .leaf vr2) .leaf) .leaf) (.node none .leaf (.node none .leaf (.node none vr3 .leaf)))) (.node (some vo0) .leaf (.node none .leaf (.node none .leaf (.node none vr4 .leaf)))),2010,[],[]⟩
theorem V4:prune 3 zZ [2,3] [32,35,38,61,62,63,65,67,69,70,72,74,75,77,78,79] (vl Tryz.prog 100 161 3 ((oL Tryz.prog 10).take 4) vS0)=some vS1:=by kernel_rfl
theorem V5:prune 3 zZ [3,4,5] [77,78,79,497,776,870] (vl Tryz.prog 100 161 3 (((oL Tryz.prog 10).drop 4).take 1) vS1)=some vS2:=by kernel_rfl
theorem V6:prune 3 zZ [3,4,5,6,7] [77,78,79,497,776,870] (vl Tryz.prog 100 161 3 ((((oL Tryz.prog 10).drop 4).drop 1).take 3) vS2)=some vS3:=by kernel_rfl
theorem V7:prune 3 zZ [3,4,5,6,7,8,9,10] [77,78,79,497,776,870] (vl Tryz.prog 100 161 3 (((((oL Tryz.prog 10).drop 4).drop 1).drop 3).take 1) vS3)=some vS4:=by kernel_rfl
theorem V8:prune 3 zZ [3,4,5,6,7,8,9,10,13] [77,78,79,497,776,870] (vl Tryz.prog 100 161 3 ((((((oL Tryz.prog 10).drop 4).drop 1).drop 3).drop 1).take 1) vS4)=some vS5:=by kernel_rfl
theorem V9:prune 3 zZ [3,5] [77,78,79] (vl Tryz.prog 100 161 3 (((((((oL Tryz.prog 10).drop 4).drop 1).drop 3).drop 1).drop 1).take 3) vS5)=some vS6:=by kernel_rfl
theorem XQ:ends true (endOf Tryz.prog 100 3 10 (vl Tryz.prog 100 161 3 (((((((oL Tryz.prog 10).drop 4).drop 1).drop 3).drop 1).drop 1).drop 3) vS6))=true:=by kernel_rfl
theorem Zm (nD:Tryz.prog.follows .mixedOrders=true) (hnm:iM Tryz.prog) (R0:Ren) (w0:World) (hh:HR Tryz.prog R0 zZ.get w0):∃e s,LOk Tryz.prog R0 3 zZ w0 161 (oL Tryz.prog 10) vS0 e s∧ends true (endOf Tryz.prog 100 3 10 (some (e,s)))=true:=
 qj nD hnm hh V4 (qj nD hnm hh V5 (qj nD hnm hh V6 (qj nD hnm hh V7 (qj nD hnm hh V8 (qj nD hnm hh V9 (TQ nD hnm XQ hh))))))
theorem Qe {w:World} (h:Laid BA w):Calls Tryz.prog 10 #[] w fun e w'=>e= .returned (.bool true)∧w'.os=w.os∧w'.tape=w.tape∧w'.output=w.output∧w.heap.size≤w'.heap.size∧∀k,k<w.heap.size→w'.heap[k]?=w.heap[k]?:=by
 obtain ⟨h1,h2⟩:=TW Qd NC h
 exact TT XP YL Ro (by kernel_rfl) (by kernel_rfl) (fun R0 w0 hh=>Zm YL Ro R0 w0 hh) w h1 h2
end
end Go.Proofs.YtecpbadkdpbkpaaGreatDoor
/-taplinelaw09.sane in the form of the walks here;the variables of the package. -/
namespace Go.Proofs.YtecpbadkdpbkpaaGreatDoor
open Go.RowKit Go.M
/-- the package's variables hold what the rows list -/
def Tab (w:World):Prop:=Go.V.Laid BA w
theorem Tab.b {w w':World} (h:Tab w) (hE:E8 [] w w'):Tab w':=Go.V.Laid.later h fun k hk=>hE.block k hk (by simp)
theorem Tab.e {w w':World} (h:Tab w) (hE:Ext w w'):Tab w':=h.b (hE.toB [])
theorem Tab.s {h0 h:View} {w0 w:World} {bs:List Res} (ht:Tab w0) (HS:St [] h0 w0 h bs w):Tab w:=ht.b HS.ext
def jW.f:Option Bool:=some true
theorem jW.calls {h0:View} {w0:World} (hv:jf h0 w0) (ht:Tab w0) {r:Bool} (H:jW.f=some r):Calls Tryz.prog 10 #[] w0 (fun e w1=>e= .returned (vB r)∧Ext w0 w1):=by
 obtain rfl:=Option.some.inj H
 refine (Qe ht).mono ?_
 rintro e w1 ⟨rfl,h1,h2,h3,h4,h5⟩
 exact ⟨rfl,h1,h2,h3,h4,h5⟩
end Go.Proofs.YtecpbadkdpbkpaaGreatDoor
namespace Go.Proofs.YtecpbadkdpbkpaaGreatDoor
open Go.ChangeShapes Go.WideShapes Go.ChangeAt Go.RowKit Go.M
set_option maxRecDepth 100000
theorem own:ownKnob Tryz.prog.godebug=none:=by kernel_rfl
theorem laidOut:laidOutB Tryz.prog=true:=by kernel_rfl
abbrev Gn : List (String × DataW Unit) := [("math/bits.deBruijn32tab", Rows.laid_math_bits_deBruijn32tab), ("math/bits.deBruijn64tab", Rows.laid_math_bits_deBruijn64tab), ("internal/strconv.uint64pow10", Rows.laid_internal_strconv_uint64pow10)]
section
open Go.V
theorem Zn:V3 Tryz.prog 0 Rows.laid_internal_strconv_uint64pow10=some [.int .u64 1, .int .u64 10, .int .u64 100, .int .u64 1000, .int .u64 10000, .int .u64 100000, .int .u64 1000000, .int .u64 10000000, .int .u64 100000000, .int .u64 1000000000, .int .u64 10000000000, .int .u64 100000000000, .int .u64 1000000000000, .int .u64 10000000000000, .int .u64 100000000000000, .int .u64 1000000000000000, .int .u64 10000000000000000, .int .u64 100000000000000000, .int .u64 1000000000000000000, .int .u64 10000000000000000000]:=by kernel_rfl
theorem Zo:V3 Tryz.prog 1 Rows.laid_math_bits_deBruijn32tab=some [.int .u8 0, .int .u8 1, .int .u8 28, .int .u8 2, .int .u8 29, .int .u8 14, .int .u8 24, .int .u8 3, .int .u8 30, .int .u8 22, .int .u8 20, .int .u8 15, .int .u8 25, .int .u8 17, .int .u8 4, .int .u8 8, .int .u8 31, .int .u8 27, .int .u8 13, .int .u8 23, .int .u8 21, .int .u8 19, .int .u8 16, .int .u8 7, .int .u8 26, .int .u8 12, .int .u8 18, .int .u8 6, .int .u8 11, .int .u8 5, .int .u8 10, .int .u8 9]:=by kernel_rfl
theorem Zp:V3 Tryz.prog 2 Rows.laid_math_bits_deBruijn64tab=some [.int .u8 0, .int .u8 1, .int .u8 56, .int .u8 2, .int .u8 57, .int .u8 49, .int .u8 28, .int .u8 3, .int .u8 61, .int .u8 58, .int .u8 42, .int .u8 50, .int .u8 38, .int .u8 29, .int .u8 17, .int .u8 4, .int .u8 62, .int .u8 47, .int .u8 59, .int .u8 36, .int .u8 45, .int .u8 43, .int .u8 51, .int .u8 22, .int .u8 53, .int .u8 39, .int .u8 33, .int .u8 30, .int .u8 24, .int .u8 18, .int .u8 12, .int .u8 5, .int .u8 63, .int .u8 55, .int .u8 48, .int .u8 27, .int .u8 60, .int .u8 41, .int .u8 37, .int .u8 16, .int .u8 46, .int .u8 35, .int .u8 44, .int .u8 21, .int .u8 52, .int .u8 32, .int .u8 23, .int .u8 11, .int .u8 54, .int .u8 26, .int .u8 40, .int .u8 15, .int .u8 34, .int .u8 20, .int .u8 31, .int .u8 10, .int .u8 25, .int .u8 14, .int .u8 19, .int .u8 9, .int .u8 13, .int .u8 8, .int .u8 7, .int .u8 6]:=by kernel_rfl
theorem Wh {W:World} (h:laidMetH Tryz.prog Gn W):Tab W:=by
  obtain ⟨ps,hL,_⟩:laidMet Tryz.prog Gn W:=h
  intro p hp
  unfold BA at hp
  simp only [List.mem_cons,List.not_mem_nil,or_false] at hp
  rcases hp with rfl|rfl|rfl
  · exact Dq hL (n := "internal/strconv.uint64pow10") (D := Rows.laid_internal_strconv_uint64pow10) (by unfold Gn; simp) (by kernel_rfl) Zn
  · exact Dq hL (n := "math/bits.deBruijn32tab") (D := Rows.laid_math_bits_deBruijn32tab) (by unfold Gn; simp) (by kernel_rfl) Zo
  · exact Dq hL (n := "math/bits.deBruijn64tab") (D := Rows.laid_math_bits_deBruijn64tab) (by unfold Gn; simp) (by kernel_rfl) Zp
end
def Zq (vs:List Value):Obj→Obj
 | .cells _ t frozen=> .cells ⟨vs⟩ t frozen
 |o=>o
noncomputable def XR (os:Os):Array Obj:=(World.holding Tryz.prog os ⟨#[],#[],[]⟩).heap
noncomputable def XT (os:Os):Array Obj:=BA.foldl (fun h p=>h.modify p.1 (Zq p.2)) (XR os)
noncomputable def laidWorld (os:Os):World:={World.holding Tryz.prog os ⟨#[],#[],[]⟩ with heap:=(XT os)}
theorem laid_met (os:Os) (args:Array Value):laidMet Tryz.prog Gn ((laidWorld os).forCall (fun _ _=>0) ⟨#[],args,[]⟩).memory:=
 laidMet_of_run' 20 (by kernel_rfl) (by kernel_rfl)
section
variable {H:Type} {enc:TypeId×Value→H} {W:World}
theorem Jr {n:Nat} (h:n≤maxLen):n≤9223372036854775807:=by unfold maxLen at h;omega
theorem op2:Opn enc Tryz.prog W 2 (Kd.int .i64) (fun n=>(Lit.int .i64 n).wf=true):=KI Tryz.underlying2 (by kernel_rfl)
theorem op3:Opn enc Tryz.prog W 3 (Kd.int .i64) (fun n=>(Lit.int .i64 n).wf=true):=KI Tryz.underlying3 (by kernel_rfl)
theorem op4:Opn enc Tryz.prog W 4 Kd.bool (fun _=>True):=Sv Tryz.underlying4 (by kernel_rfl)
theorem op9:Opn enc Tryz.prog W 9 Kd.str (fun s=>s.size≤maxLen):=U6 Tryz.underlying9 (by kernel_rfl)
theorem wf64 {n:Int} (h:(Lit.int .i64 n).wf=true): -9223372036854775808≤n∧n≤9223372036854775807:=by
 simp [Lit.wf,IntKind.min,IntKind.max,IntKind.bits,IntKind.signed] at h
 omega
theorem Qg {fn:Func} {s:ChangeSpec} {args:Array Value} {ds gs:List (DataW H)} {before:List MemPlace} {W':World} (hT:∀t∈fn.params.toList,Tryz.prog.readableRec t=true∧t<Tryz.prog.types.size) (hr:fn.resultTypes=#[4]) (hvs:s.vars=[])
  (hfn:s.fn H (ds++gs)={results:=[.lit (.bool true)],args:=ds}) (hW:DataW.Whole enc Tryz.prog fn.params.toList s.vars false W args.toList ds gs before) (hE:Ext W W'):s.post enc Tryz.prog fn false true false false W args (.bool true) W':=by
 have hW':=hW
 obtain ⟨p,q,hA,hV,e,hfz,hnd⟩:=hW
 rw [hvs] at hV
 obtain ⟨rfl,rfl⟩:=trodVars_none hV
 have hlt:∀x∈p,x.block<W.heap.size:=fun x hx=>hW'.lt x (by rw [e];exact List.mem_append_left _ hx)
 refine ⟨ds,[],before,[],p,[],hW',?_,?_,?_,Below.frame hE _,fun h=>by cases h⟩
 ·rw [hfn,hr]
  exact trodAll_cons_mk (shut_bool Tryz.underlying4 _) trodAll_mk0
 ·rw [hfn]
  exact DY laidOut hE hT hA hlt (fun x hx=>by simpa using hlt x hx)
 ·rw [hfn,hvs]
  rfl
end
end Go.Proofs.YtecpbadkdpbkpaaGreatDoor
namespace Go.Proofs.YtecpbadkdpbkpaaGreatDoor
open Go.RowKit Go.M
def Ev {α:Type} (f:Nat→Option α) (v:α):Prop:=∃K,∀k,K≤k→f k=some v
def Ev2 {α:Type} (f:Nat→Nat→Option α) (v:α):Prop:=∃K,∀k m,K≤k→K≤m→f k m=some v
section
variable {α β γ:Type}
theorem Ev.pure {f:Nat→Option α} {v:α} (h:∀k,f k=some v):Ev f v:=⟨0,fun k _=>h k⟩
theorem Ev.bind {f:Nat→Option α} {g:Nat→α→Option β} {a:α} {b:β} (hf:Ev f a) (hg:Ev (fun k=>g k a) b):Ev (fun k=>(f k).bind (g k)) b:=by
 obtain ⟨K,hK⟩:=hf
 obtain ⟨L,hL⟩:=hg
 exact ⟨max K L, fun k hk => by
  show (f k).bind (g k)=some b
  rw [hK k (by omega)]
  exact hL k (by omega)⟩
theorem Ev.congr {f g:Nat→Option α} {v:α} (hf:Ev f v) (h:∀k,g k=f k):Ev g v:=by
 obtain ⟨K,hK⟩:=hf
 exact ⟨K,fun k hk=>(h k).trans (hK k hk)⟩
theorem Ev.succ {f:Nat→Option α} {v:α} (hf:Ev (fun k=>f (k+1)) v):Ev f v:=by
 obtain ⟨K,hK⟩:=hf
 refine ⟨K+1,fun k hk=>?_⟩
 obtain ⟨m,rfl⟩:∃m,k=m+1:=⟨k-1,by omega⟩
 exact hK m (by omega)
theorem Ev.uniq {f:Nat→Option α} {v u:α} (hf:Ev f v) (hg:Ev f u):v=u:=by
 obtain ⟨K,hK⟩:=hf
 obtain ⟨L,hL⟩:=hg
 have h1:=hK (max K L) (by omega)
 have h2:=hL (max K L) (by omega)
 rw [h1] at h2
 exact Option.some.inj h2
theorem Ev2.diag {f:Nat→Nat→Option α} {v:α} (h:Ev2 f v):Ev (fun k=>f k k) v:=by
 obtain ⟨K,hK⟩:=h
 exact ⟨K,fun k hk=>hK k k hk hk⟩
theorem Ev2.pure {f : Nat → Nat → Option α} {v : α} (h : ∀ k m, f k (m + 1) = some v) : Ev2 f v := ⟨1, fun k m _ hm => by
 obtain ⟨q,rfl⟩:∃q,m=q+1:=⟨m-1,by omega⟩
 exact h k q⟩
theorem Ev2.step {f:Nat→Nat→Option α} {g:Nat→Option β} {b:β} {r:Nat→Nat→β→Option α} {v:α} (hg:Ev g b) (hr:Ev2 (fun k m=>r k m b) v) (h:∀k m,f k (m+1)=(g k).bind (r k m)):Ev2 f v:=by
 obtain ⟨K,hK⟩:=hg
 obtain ⟨L,hL⟩:=hr
 refine ⟨max K L+1,fun k m hk hm=>?_⟩
 obtain ⟨q,rfl⟩:∃q,m=q+1:=⟨m-1,by omega⟩
 rw [h,hK k (by omega)]
 exact hL k q (by omega) (by omega)
theorem Ev2.next {f r:Nat→Nat→Option α} {v:α} (hr:Ev2 r v) (h:∀k m,f k (m+1)=r k m):Ev2 f v:=by
 obtain ⟨L,hL⟩:=hr
 refine ⟨L+1,fun k m hk hm=>?_⟩
 obtain ⟨q,rfl⟩:∃q,m=q+1:=⟨m-1,by omega⟩
 rw [h]
 exact hL k q (by omega) (by omega)
theorem Ev.all {f:γ→Nat→Option α} {q:γ→α}:∀(l:List γ),(∀z∈l,Ev (f z) (q z))→∃K,∀k,K≤k→∀z∈l,f z k=some (q z)
  |[],_=>⟨0,fun k _ z hz=>by cases hz⟩
  | x :: l, h => by
    obtain ⟨K,hK⟩:=h x List.mem_cons_self
    obtain ⟨L,hL⟩:=Ev.all l (fun z hz=>h z (List.mem_cons_of_mem _ hz))
    refine ⟨max K L,fun k hk z hz=>?_⟩
    rcases List.mem_cons.1 hz with rfl|hz
    · exact hK k (by omega)
    · exact hL k (by omega) z hz
end
theorem jC {x:Int} (h0: -9223372036854775808≤x) (h1:x≤9223372036854775807):IntKind.wrap .i64 x=x:=by
 simp [IntKind.wrap,IntKind.bits,IntKind.signed]
 omega
theorem fP {j n:Nat} (hj:j<n) (hn:n≤9223372036854775807):IntKind.wrap .i64 ((j:Int)+1)=((j+1:Nat):Int):=by
 rw [jC (by omega) (by omega)];rfl
section
variable {α:Type} {z:α} {xs:List α}
theorem gG (j:Nat):rd z xs (j:Int)=xs.getD j z:=by simp [rd]
theorem Rq {i:Int} (h0:0≤i) (h1:i<xs.length):rd z xs i∈xs:=by
 unfold rd
 have:i.toNat<xs.length:=by omega
 rw [List.getD_eq_getElem?_getD,List.getElem?_eq_getElem this]
 exact List.getElem_mem this
theorem getD_mem {j:Nat} (h1:j<xs.length):xs.getD j z∈xs:=by
 rw [List.getD_eq_getElem?_getD,List.getElem?_eq_getElem h1]
 exact List.getElem_mem h1
end
def fQ.l0 (a0:bV):Nat→Int→(List Int)→Option ((List Int))
 |0,_,_=>none
 |m+1,aG,bH=>if (decide (aG<(a0.au.length:Int)))=true then (if 0≤aG∧aG<a0.au.length then (if bH.length+1≤4294967296 then (fQ.l0 a0 m (IntKind.wrap .i64 (aG+1)) (bH++([(rd ak a0.au aG).vType]:List Int))) else none) else none) else (some bH)
def fQ.f (k:Nat) (a0:bV):Option ((List Int)):=((if (a0.aF==3)=true then (some (a0.aF==3)) else (some (a0.aF==6))):Option (Bool)).bind fun xx1=>(if xx1=true then (some ([a0.dY]:List Int)) else (if (a0.aF==4)=true then ((fQ.l0 a0 k 0 ([]:List Int)).bind fun xx2=>(some xx2)) else (some ([]:List Int))))
theorem fQ.calls (k:Nat) (a0:bV) (jU:Option Addr) (jV:Nat) {h0:View} {w0:World} (hv:jf h0 w0) (qM:Rd fM h0 jU a0.au) (uZ:a0.au.length≤jV) {r:(List Int)} (H:fQ.f k a0=some r):Calls Tryz.prog 130 #[Value.agg #[vI a0.aF,vS a0.aU,vI a0.bW.aS,vB a0.bW.aO,vI a0.dY,vI a0.vN,vL jU a0.au.length jV]] w0 (fun e w1=>∃(h1:View) (bQ:Option Addr) (bT:Nat),e= .returned (vL bQ r.length bT)∧r.length≤bT∧Rd (Kd.int .i64) h1 bQ r∧Gr w0.heap.size h0 h1∧jf h1 w1∧Ext w0 w1):=by
 unfold fQ.f at H
 have HS:St [] h0 w0 h0 [] w0:=St.init hv
 go_enter Tryz.func130,Tryz.ntmps130
 refine wp_seq<|region<|dK rfl rfl (dH (cs:=#[vI a0.aF,vS a0.aU,vI a0.bW.aS,vB a0.bW.aO,vI a0.dY,vI a0.vN,vL jU a0.au.length jV]) rfl rfl) ?_
 rintro w1 _ hE1 ⟨b1,rfl,ge1,hb1⟩
 have HS1:=HS.new hE1 ge1 hb1
 refine rs (vL none 0 0) (aC rfl) ?_
 try simp only [sc0,sc1]
 refine aB<|aj<|wp_seq<|wp_seq<|region<|rs (vP b1 0) (aH (n:=1) (o':=0) rfl Tryz.runUnderlying56 rfl Tryz.sizeOf3 (by decide) rfl)<|rs (vI a0.aF) (aN rfl Tryz.isAgg3 (HS1.look 0 rfl) rfl) ?_
 try simp only [sc0,sc1]
 refine aB<|aj<|wp_block<|wp_seq<|wp_seq<|region<|rs (vB (a0.aF==3)) (bK rfl rfl rfl)<|rs (vB (a0.aF==3)) (aC rfl) ?_
 try simp only [sc0,sc1]
 refine aB<|aj ?_
 obtain ⟨xx1,H,G1⟩:=bJ H
 refine lU [8,10] (fun us w'=>Fit us (fun uj1=>[vB xx1,(uj1 1)])∧St [] h0 w0 h0 [(some b1, .cells #[vI a0.aF,vS a0.aU,vI a0.bW.aS,vB a0.bW.aO,vI a0.dY,vI a0.vN,vL jU a0.au.length jV] 56 (0,0))] w') ?_ ?_
 ·refine wp_cond_split (t:=(a0.aF==3)) rfl (fun c1=>?_) (fun c1=>?_)
  ·replace H:=bU H c1
   refine wp_skip ?_
   obtain rfl:=Option.some.inj H
   refine pz rfl ⟨(fit rfl),HS1⟩
  ·replace H:=bZ H (nt c1)
   refine region<|rs (vB (a0.aF==6)) (bK rfl rfl rfl)<|rs (vB (a0.aF==6)) (aC rfl) ?_
   try simp only [sc0,sc1]
   refine aB ?_
   obtain rfl:=Option.some.inj H
   refine pz rfl ⟨(fit rfl),HS1⟩
 ·rintro us w2 ⟨ND,HS2⟩
  obtain ⟨uj1,rfl⟩:=unj ND
  replace H:=G1
  clear G1
  try simp only [patch,sc0,sc1]
  refine wp_cond_split (t:=xx1) rfl (fun c2=>?_) (fun c2=>?_)
  ·replace H:=bU H c2
   refine wp_seq<|region<|rs (vP b1 4) (aH (n:=1) (o':=4) rfl Tryz.runUnderlying56 rfl Tryz.sizeOf3 (by decide) rfl)<|rs (vI a0.dY) (aN rfl Tryz.isAgg3 (HS2.look 0 rfl) rfl)<|KA (Kd.int .i64) (xs:=([a0.dY]:List Int)) (n:=1) (cs:=[vI a0.dY]) Tryz.runUnderlying81 Tryz.typeInfo3 Tryz.zeroValue3 rfl rfl (by decide) (by decide) (by decide) [vI a0.dY] (yB.trans rfl) rfl rfl rfl rfl (wo (qs:=[vI a0.dY]) rfl (yA (cs:=[]))) HS2 ?_
   intro w3 b2 HS3 ho1
   refine rs (vL (rowA (some b2)) 1 1) (aC rfl) ?_
   try simp only [sc0,sc1]
   refine aB<|aj<|wp_ret<|dn<|aX ?_
   obtain rfl:=Option.some.inj H
   refine bodyPost_ret (aW rfl (aV rfl)) rfl ?_
   obtain ⟨h1,HS4,hs1,Qh⟩:=vZ HS3 (i:=0) rfl ho1
   exact ⟨h1,(rowA (some b2)),1,(by first|rfl|(rw [ho1.len];done)|(rw [ho1.len];rfl)),ho1.cap,Qh,HS4.gr,HS4.sees,HS4.toE⟩
  ·replace H:=bZ H (nt c2)
   refine wp_seq<|region<|rs (vB (a0.aF==4)) (bK rfl rfl rfl)<|rs (vB (a0.aF==4)) (aC rfl) ?_
   try simp only [sc0,sc1]
   refine aB<|aj<|wp_cond_split (t:=(a0.aF==4)) rfl (fun c3=>?_) (fun c3=>?_)
   ·replace H:=bU H c3
    refine wp_seq<|region<|rs (vL none 0 0) (aC rfl) ?_
    try simp only [sc0,sc1]
    refine aB<|aj<|wp_seq<|wp_seq<|region<|rs (vP b1 6) (aH (n:=1) (o':=6) rfl Tryz.runUnderlying56 rfl Tryz.sizeOf54 (by decide) rfl)<|rs (vL jU a0.au.length jV) (aN rfl Tryz.isAgg54 (HS2.look 0 rfl) rfl)<|rs (vI (a0.au.length:Int)) (iT rfl Tryz.runUnderlying54)<|rs (vI 0) (aK rfl) ?_
    try simp only [sc0,sc1]
    refine aB<|aj ?_
    have HS5:=HS2.nothing (.cells ([]:List Value).toArray 3 (0,0))
    obtain ⟨xx2,H,G2⟩:=bJ H
    refine iW [3,5,19,20,21,22,23,24,25,26,27,28] (fun m us w'=>∃aG:Int,∃bH:List Int,∃(kJ:Option Nat) (qo:Nat),∃(kK:List Value),Fit us (fun uy1=>[vL (rowA kJ) bH.length qo,(uy1 1),vI aG,(uy1 3),(uy1 4),(uy1 5),(uy1 6),(uy1 7),(uy1 8),(uy1 9),(uy1 10),(uy1 11)])∧fQ.l0 a0 m aG bH=some xx2∧iY (Kd.int .i64) h0 bH kJ bH.length qo kK∧St [] h0 w0 h0 [(kJ, .cells (kK).toArray 3 (0,0)),(some b1, .cells #[vI a0.aF,vS a0.aU,vI a0.bW.aS,vB a0.bW.aO,vI a0.dY,vI a0.vN,vL jU a0.au.length jV] 56 (0,0))] w') (fun us w'=>∃(lq:Option Nat) (qp:Nat),∃(rX:List Value),Fit us (fun uo1=>[vL (rowA lq) xx2.length qp,(uo1 1),(uo1 2),(uo1 3),(uo1 4),(uo1 5),(uo1 6),(uo1 7),(uo1 8),(uo1 9),(uo1 10),(uo1 11)])∧iY (Kd.int .i64) h0 xx2 lq xx2.length qp rX∧St [] h0 w0 h0 [(lq, .cells (rX).toArray 3 (0,0)),(some b1, .cells #[vI a0.aF,vS a0.aU,vI a0.bW.aS,vB a0.bW.aO,vI a0.dY,vI a0.vN,vL jU a0.au.length jV] 56 (0,0))] w') k ⟨0,([]:List Int),none,0,([]:List Value),(fit rfl),H,(iY.none' (Kd.int .i64) _).norm,HS5⟩ ?_ ?_
    ·rintro m us w4 ⟨aG,bH,kJ,qo,kK,lZ,H,ng,HS6⟩
     obtain ⟨uy1,rfl⟩:=unj lZ
     cases m with
     |zero=>exact absurd H (by simp [fQ.l0])
     |succ m=>
      rw [fQ.l0] at H
      try simp only [patch,sc0,sc1]
      refine wp_seq<|region<|rs (vB (decide (aG<(a0.au.length:Int)))) (bK rfl rfl rfl) ?_
      try simp only [sc0,sc1]
      refine aB<|aj<|wp_seq<|wp_cond_split (t:=(decide (aG<(a0.au.length:Int)))) rfl (fun c4=>?_) (fun c4=>?_)
      ·replace H:=bU H c4
       refine wp_skip<|aj<|wp_seq<|wp_block<|wp_seq<|region ?_
       obtain ⟨hi1,H⟩:=fE H
       obtain ⟨ad1,e1,kX⟩:=iR qM hi1.1 hi1.2
       refine rs (Value.pointer (some (Addr.add ad1 (aG.toNat*3)))) (dQ (sz:=3) rfl e1 rfl hi1.1 hi1.2 Tryz.runUnderlying54 Tryz.sizeOf129)<|rs (Value.agg #[vS ((rd ak a0.au aG).aU),vI ((rd ak a0.au aG).vType),vI ((rd ak a0.au aG).vAt)]) (gK rfl Tryz.isAgg129 (kX.sees HS6.sees) Tryz.sizeOf129)<|dK rfl rfl (fA (cs:=#[vS ByteArray.empty,vI 0,vI 0]) Tryz.zeroValue129 rfl) ?_
       rintro w5 _ hE2 ⟨b3,rfl,ge2,hb2⟩
       have HS7:=HS6.new hE2 ge2 hb2
       refine gq (i:=0) (cs:=[vS ByteArray.empty,vI 0,vI 0]) (cs':=[vS ((rd ak a0.au aG).aU),vI ((rd ak a0.au aG).vType),vI ((rd ak a0.au aG).vAt)]) (vs:=[vS ((rd ak a0.au aG).aU),vI ((rd ak a0.au aG).vType),vI ((rd ak a0.au aG).vAt)]) (bs':=[(some b3, .cells #[vS ((rd ak a0.au aG).aU),vI ((rd ak a0.au aG).vType),vI ((rd ak a0.au aG).vAt)] 129 (0,0)),(kJ, .cells (kK).toArray 3 (0,0)),(some b1, .cells #[vI a0.aF,vS a0.aU,vI a0.bW.aS,vB a0.bW.aO,vI a0.dY,vI a0.vN,vL jU a0.au.length jV] 56 (0,0))]) rfl rfl Tryz.sizeOf129 rfl rfl (by decide) rfl HS7 rfl (Nat.le_of_ble_eq_true rfl) rfl rfl ?_
       intro w6 HS8
       try simp only [sc0,sc1]
       refine aB<|aj<|region<|rs (vL (rowA kJ) bH.length qo) (aK rfl)<|rs (vP b3 1) (aH (n:=1) (o':=1) rfl Tryz.runUnderlying129 rfl Tryz.sizeOf3 (by decide) rfl)<|rs (vI ((rd ak a0.au aG).vType)) (aN rfl Tryz.isAgg3 (HS8.look 0 rfl) rfl)<|KA (Kd.int .i64) (xs:=([(rd ak a0.au aG).vType]:List Int)) (n:=1) (cs:=[vI ((rd ak a0.au aG).vType)]) Tryz.runUnderlying81 Tryz.typeInfo3 Tryz.zeroValue3 rfl rfl (by decide) (by decide) (by decide) [vI ((rd ak a0.au aG).vType)] (yB.trans rfl) rfl rfl rfl rfl (wo (qs:=[vI ((rd ak a0.au aG).vType)]) rfl (yA (cs:=[]))) HS8 ?_
       intro w7 b4 HS9 ho2
       refine aI (by simp only [sc0,sc1];rfl) ?_
       obtain ⟨hl1,H⟩:=fE H
       refine Fg (Kd.int .i64) (q:=2) (cs:=kK) rfl rfl Tryz.runUnderlying81 Tryz.typeInfo3 Tryz.zeroValue3 rfl (by decide) rfl (KC Tryz.runUnderlying81 HS9 (i:=0) rfl ho2 rfl) ho2.len (uJ ho2) hl1 HS9 rfl ng ?_
       intro w8 ob1 c5 cs1 qN ho3
       refine rs (vL (rowA ob1) (bH.length+1) c5) (aC rfl) ?_
       try simp only [sc0,sc1]
       refine aB<|dB<|aj<|region<|rs (vI (w64 (aG+1))) (bK rfl rfl rfl)<|rs (vI (w64 (aG+1))) (aK rfl) ?_
       try simp only [sc0,sc1]
       refine aB<|gX m (Nat.lt_succ_self m) rfl ⟨(w64 (aG+1)),(bH++([(rd ak a0.au aG).vType]:List Int)),ob1,c5,cs1,(fit (by first|rfl|(rw [ho3.len];done)|(rw [ho3.len];rfl))),H,ho3.norm,qN.tail.tail⟩
      ·replace H:=bZ H (nt c4)
       refine wp_exit<|fF ?_
       obtain rfl:=Option.some.inj H
       refine iw rfl ⟨kJ,qo,kK,(fit rfl),ng.norm,HS6⟩
    ·rintro us w9 ⟨lq,qp,rX,l7,tJ,wU⟩
     obtain ⟨uo1,rfl⟩:=unj l7
     replace H:=G2
     clear G2
     try simp only [patch,sc0,sc1]
     refine aj<|wp_seq<|region<|rs (vL (rowA lq) xx2.length qp) (aK rfl)<|rs (vL (rowA lq) xx2.length qp) (aC rfl) ?_
     try simp only [sc0,sc1]
     refine aB<|aj<|wp_ret<|dn<|aX ?_
     obtain rfl:=Option.some.inj H
     refine bodyPost_ret (aW rfl (aV rfl)) rfl ?_
     obtain ⟨h2,sU,hs2,Zr⟩:=vZ wU (i:=0) rfl tJ
     exact ⟨h2,(rowA lq),qp,rfl,tJ.cap,Zr,sU.gr,sU.sees,sU.toE⟩
   ·replace H:=bZ H (nt c3)
    refine wp_skip<|dB<|aj<|wp_seq<|region<|rs (vL none 0 0) (aC rfl) ?_
    try simp only [sc0,sc1]
    refine aB<|aj<|wp_ret ?_
    obtain rfl:=Option.some.inj H
    exact bodyPost_ret (aW rfl (aV rfl)) rfl<|⟨h0,none,0,rfl,(Nat.le_refl 0),(Rd.nil _ _ _),HS2.gr,HS2.sees,HS2.toE⟩
def dG.l0 (rec:Int→(List Int)→Bool→(List Bool)→(List bV)→Option (Int×(List Int)×Bool×(List Bool))) (x3:List bV) (v1:(List Int)):Nat→Int→Int→Bool→(List Int)→(List Bool)→Option (Int×Bool×(List Int)×(List Bool))
 |0,_,_,_,_,_=>none
 |m+1,aG,bH,kW,uD,BD=>if (decide (bH<(v1.length:Int)))=true then (if 0≤bH∧bH<v1.length then ((rec (rd 0 v1 bH) uD kW BD x3).bind fun v2=>(dG.l0 rec x3 v1 m v2.1 (IntKind.wrap .i64 (bH+1)) v2.2.2.1 v2.2.1 v2.2.2.2)) else none) else (some (aG,kW,uD,BD))
def dG.f:Nat→Int→(List Int)→Bool→(List Bool)→(List bV)→Option (Int×(List Int)×Bool×(List Bool))
 |0,_,_,_,_,_=>none
 |k+1,a0,x0,x1,x2,x3=>if 0≤a0∧a0<((x0.length:Nat):Int) then (if ((decide ((rd 0 x0 a0)>0))||(!x1))=true then (if 0≤a0∧a0<((x0.length:Nat):Int) then (some ((rd 0 x0 a0),x0,x1,x2)) else none) else (if 0≤a0∧a0<((x2.length:Nat):Int) then (if (rd false x2 a0)=true then (some (0,x0,false,x2)) else (if 0≤a0∧a0<((x2.length:Nat):Int) then (if 0≤a0∧a0<x3.length then ((fQ.f k (rd ah x3 a0)).bind fun v1=>((dG.l0 (dG.f k) x3 v1 k 0 0 x1 x0 (List.set x2 a0.toNat true)).bind fun xx1=>(if 0≤a0∧a0<((xx1.2.2.1.length:Nat):Int) then (some (((bM ieq (fJ ieq (fJ ieq (fJ ieq (fJ ieq (fJ ieq (fJ ieq ([]:List (Int×Int)) 1 ((rd ah x3 a0).bW.aS)) 2 8) 3 (IntKind.wrap .i64 ((rd ah x3 a0).vN*xx1.1))) 4 ((rd ah x3 a0).vN)) 5 4) 6 xx1.1) ((rd ah x3 a0).aF)).getD 0),(List.set xx1.2.2.1 a0.toNat ((bM ieq (fJ ieq (fJ ieq (fJ ieq (fJ ieq (fJ ieq (fJ ieq ([]:List (Int×Int)) 1 ((rd ah x3 a0).bW.aS)) 2 8) 3 (IntKind.wrap .i64 ((rd ah x3 a0).vN*xx1.1))) 4 ((rd ah x3 a0).vN)) 5 4) 6 xx1.1) ((rd ah x3 a0).aF)).getD 0)),(xx1.2.1&&(decide (((bM ieq (fJ ieq (fJ ieq (fJ ieq (fJ ieq (fJ ieq (fJ ieq ([]:List (Int×Int)) 1 ((rd ah x3 a0).bW.aS)) 2 8) 3 (IntKind.wrap .i64 ((rd ah x3 a0).vN*xx1.1))) 4 ((rd ah x3 a0).vN)) 5 4) 6 xx1.1) ((rd ah x3 a0).aF)).getD 0)≤512))),xx1.2.2.2)) else none))) else none) else none)) else none)) else none
theorem dG.calls:∀(k:Nat) (a0:Int) (x0:List Int) (x1:Bool) (x2:List Bool) (x3:List bV) (bx0:Nat) (Gp:Option Nat) (cx0:Nat) (NG:List Value) (bx1:Nat) (bx2:Nat) (Gq:Option Nat) (cx2:Nat) (NH:List Value) (bx3:Nat) (Ax3:Option Addr) (cx3:Nat) (bx4:Nat) {h0:View} {w0:World} {h:View} {w:World} {rest:List Res} (HS:St [] h0 w0 h ((some bx0, .cells #[vL (rowA Gp) x0.length cx0] 81 (0,0))::(Gp, .cells (NG).toArray 3 (0,0))::(some bx1, .cells #[vB x1] 4 (0,0))::(some bx2, .cells #[vL (rowA Gq) x2.length cx2] 216 (0,0))::(Gq, .cells (NH).toArray 4 (0,0))::(some bx3, .cells #[vL Ax3 x3.length cx3] 24 (0,0))::(some bx4, .cells #[Value.func (.func 129) #[] #[vP bx0 0,vP bx1 0,vP bx2 0,vP bx3 0,vP bx4 0]] 217 (0,0))::rest) w) (Rt:iY (Kd.int .i64) h x0 Gp x0.length cx0 NG) (TY:iY Kd.bool h x2 Gq x2.length cx2 NH) (J5:Rd eX h Ax3 x3) (YM:x3.length≤cx3) {r:Int×(List Int)×Bool×(List Bool)} (H:dG.f k a0 x0 x1 x2 x3=some r),Calls Tryz.prog 129 #[vI a0,vP bx0 0,vP bx1 0,vP bx2 0,vP bx3 0,vP bx4 0] w (fun e w1=>∃(h1:View),∃(NI:Option Nat) (Wi:Nat) (Ru:List Value),∃(NJ:Option Nat) (Wj:Nat) (Rw:List Value),e= .returned (vI r.1)∧iY (Kd.int .i64) h1 r.2.1 NI r.2.1.length Wi Ru∧iY Kd.bool h1 r.2.2.2 NJ r.2.2.2.length Wj Rw∧Sub h h1∧St [] h0 w0 h1 ((some bx0, .cells #[vL (rowA NI) r.2.1.length Wi] 81 (0,0))::(NI, .cells (Ru).toArray 3 (0,0))::(some bx1, .cells #[vB r.2.2.1] 4 (0,0))::(some bx2, .cells #[vL (rowA NJ) r.2.2.2.length Wj] 216 (0,0))::(NJ, .cells (Rw).toArray 4 (0,0))::(some bx3, .cells #[vL Ax3 x3.length cx3] 24 (0,0))::(some bx4, .cells #[Value.func (.func 129) #[] #[vP bx0 0,vP bx1 0,vP bx2 0,vP bx3 0,vP bx4 0]] 217 (0,0))::rest) w1):=by
 intro k
 induction k with
 |zero=>
  intros
  rename_i H
  exact absurd H (by simp [dG.f])
 |succ k ih=>
  intro a0 x0 x1 x2 x3 bx0 Gp cx0 NG bx1 bx2 Gq cx2 NH bx3 Ax3 cx3 bx4 h0 w0 h w rest HS Rt TY J5 YM r H
  rw [dG.f] at H
  have hsub:Sub h h:=Sub.rfl' h
  go_enter Tryz.func129,Tryz.ntmps129
  refine wp_seq<|region<|rs (vI 0) (aC rfl) ?_
  try simp only [sc0,sc1]
  refine aB<|aj<|wp_seq<|wp_seq<|region<|rs (vL (rowA Gp) x0.length cx0) (aN rfl Tryz.isAgg81 (HS.look 0 rfl) rfl)<|rs (vI a0) (aK rfl) ?_
  obtain ⟨hi1,H⟩:=fE H
  obtain ⟨rb1,_,Wn,rfl,hp1⟩:=Rt.at 0 hi1.1 hi1.2
  refine rs (Value.pointer (some ⟨rb1,a0.toNat*1+0,none⟩)) (nH (sz:=1) rfl Wn rfl hi1.1 hi1.2 Tryz.runUnderlying81 Tryz.sizeOf3)<|rs (vI (rd 0 x0 a0)) (aN (cs:=NG) rfl Tryz.isAgg3 (HS.O5 1 rfl Wn) (hp1 0 _ rfl))<|aI (by simp only [sc0,sc1];rfl) ?_
  refine rs (vB (decide ((rd 0 x0 a0)>0))) (bK rfl rfl rfl)<|rs (vB (decide ((rd 0 x0 a0)>0))) (aK rfl)<|rgs (decide ((rd 0 x0 a0)>0)) true (vB x1) rfl rfl rfl rfl (fun hg=>(aN rfl Tryz.isAgg4 (HS.look 2 rfl) rfl))<|rgs (decide ((rd 0 x0 a0)>0)) true (vB (!x1)) rfl rfl rfl rfl (fun hg=>(kN (gvt (vB x1) hg rfl)))<|aI (by simp only [sc0,sc1];rfl) ?_
  refine rs (vB ((decide ((rd 0 x0 a0)>0))||(!x1))) (dV rfl rfl (fun hp=>(gvt (vB (!x1)) (gu rfl hp) rfl))) ?_
  try simp only [sc0,sc1]
  refine aB<|aj<|wp_cond_split (t:=((decide ((rd 0 x0 a0)>0))||(!x1))) rfl (fun c1=>?_) (fun c1=>?_)
  ·replace H:=bU H c1
   refine wp_seq<|region<|rs (vL (rowA Gp) x0.length cx0) (aN rfl Tryz.isAgg81 (HS.look 0 rfl) rfl)<|rs (vI a0) (aK rfl) ?_
   obtain ⟨hi2,H⟩:=fE H
   obtain ⟨rb2,_,Wp,rfl,hp2⟩:=Rt.at 0 hi2.1 hi2.2
   refine rs (Value.pointer (some ⟨rb2,a0.toNat*1+0,none⟩)) (nH (sz:=1) rfl Wp rfl hi2.1 hi2.2 Tryz.runUnderlying81 Tryz.sizeOf3)<|rs (vI (rd 0 x0 a0)) (aN (cs:=NG) rfl Tryz.isAgg3 (HS.O5 1 rfl Wp) (hp2 0 _ rfl))<|aI (by simp only [sc0,sc1];rfl) ?_
   refine rs (vI (rd 0 x0 a0)) (aC rfl) ?_
   try simp only [sc0,sc1]
   refine aB<|aj<|wp_ret<|aX ?_
   obtain rfl:=Option.some.inj H
   exact bodyPost_ret (aW rfl (aV rfl)) rfl<|⟨h,Gp,cx0,NG,Gq,cx2,NH,rfl,Rt,TY,hsub,HS⟩
  ·replace H:=bZ H (nt c1)
   refine wp_skip<|aj<|wp_seq<|wp_seq<|region<|rs (vL (rowA Gq) x2.length cx2) (aN rfl Tryz.isAgg216 (HS.look 3 rfl) rfl)<|rs (vI a0) (aK rfl) ?_
   obtain ⟨hi3,H⟩:=fE H
   obtain ⟨rb3,_,YN,rfl,hp3⟩:=TY.at false hi3.1 hi3.2
   refine rs (Value.pointer (some ⟨rb3,a0.toNat*1+0,none⟩)) (nH (sz:=1) rfl YN rfl hi3.1 hi3.2 Tryz.runUnderlying216 Tryz.sizeOf4)<|rs (vB (rd false x2 a0)) (aN (cs:=NH) rfl Tryz.isAgg4 (HS.O5 4 rfl YN) (hp3 0 _ rfl)) ?_
   try simp only [sc0,sc1]
   refine aB<|aj<|wp_cond_split (t:=(rd false x2 a0)) rfl (fun c2=>?_) (fun c2=>?_)
   ·replace H:=bU H c2
    refine wp_seq<|region<|gq (i:=2) (cs:=[vB x1]) (cs':=[vB false]) (vs:=[vB false]) (bs':=((some bx0, .cells #[vL (rowA Gp) x0.length cx0] 81 (0,0))::(Gp, .cells (NG).toArray 3 (0,0))::(some bx1, .cells #[vB false] 4 (0,0))::(some bx2, .cells #[vL (rowA Gq) x2.length cx2] 216 (0,0))::(Gq, .cells (NH).toArray 4 (0,0))::(some bx3, .cells #[vL Ax3 x3.length cx3] 24 (0,0))::(some bx4, .cells #[Value.func (.func 129) #[] #[vP bx0 0,vP bx1 0,vP bx2 0,vP bx3 0,vP bx4 0]] 217 (0,0))::rest)) rfl rfl Tryz.sizeOf4 rfl rfl (by decide) rfl HS rfl (Nat.le_of_ble_eq_true rfl) rfl rfl ?_
    intro w1 HS1
    try simp only [sc0,sc1]
    refine aB<|aj<|wp_seq<|region<|rs (vI 0) (aC rfl) ?_
    try simp only [sc0,sc1]
    refine aB<|aj<|wp_ret<|aX ?_
    obtain rfl:=Option.some.inj H
    exact bodyPost_ret (aW rfl (aV rfl)) rfl<|⟨h,Gp,cx0,NG,Gq,cx2,NH,rfl,Rt,TY,hsub,HS1⟩
   ·replace H:=bZ H (nt c2)
    refine wp_skip<|aj<|wp_seq<|region<|rs (vL (rowA Gq) x2.length cx2) (aN rfl Tryz.isAgg216 (HS.look 3 rfl) rfl)<|rs (vI a0) (aK rfl) ?_
    obtain ⟨hi4,H⟩:=fE H
    obtain ⟨rb4,_,YO,rfl,hp4⟩:=TY.at false hi4.1 hi4.2
    refine rs (Value.pointer (some ⟨rb4,a0.toNat*1+0,none⟩)) (nH (sz:=1) rfl YO rfl hi4.1 hi4.2 Tryz.runUnderlying216 Tryz.sizeOf4)<|Fh (i:=4) (cs:=NH) (v:=vB true) YO rfl rfl Tryz.sizeOf4 rfl rfl HS rfl (TY.inb hi4.1 hi4.2 (m:=1) (by decide)) ?_
    intro w2 HS2
    have ho1:=TY.set (o:=0) (v:=vB true) (x':=true) hi4.1 hi4.2 hp4 rfl (Nat.le_of_ble_eq_true rfl)
    try simp only [sc0,sc1]
    refine aB<|aj<|wp_seq<|region<|rs (vP bx3 0) (aH (n:=1) (o':=0) rfl Tryz.runUnderlying24 rfl Tryz.sizeOf22 (by decide) rfl)<|rs (vL Ax3 x3.length cx3) (aN rfl Tryz.isAgg22 (HS2.look 5 rfl) rfl)<|rs (vI a0) (aK rfl) ?_
    obtain ⟨hi5,H⟩:=fE H
    obtain ⟨ad1,dO,dR,e1,kX,jO,iD⟩:=gU J5 hi5.1 hi5.2
    refine rs (Value.pointer (some (Addr.add ad1 (a0.toNat*7)))) (dQ (sz:=7) rfl e1 rfl hi5.1 hi5.2 Tryz.runUnderlying22 Tryz.sizeOf56)<|aI (by simp only [sc0,sc1];rfl) ?_
    refine rs (Value.agg #[vI ((rd ah x3 a0).aF),vS ((rd ah x3 a0).aU),vI ((rd ah x3 a0).bW.aS),vB ((rd ah x3 a0).bW.aO),vI ((rd ah x3 a0).dY),vI ((rd ah x3 a0).vN),vL dO ((rd ah x3 a0).au).length dR]) (gK rfl Tryz.isAgg56 (kX.sees HS2.sees) Tryz.sizeOf56)<|dK rfl rfl (fA (cs:=#[vI 0,vS ByteArray.empty,vI 0,vB false,vI 0,vI 0,vL none 0 0]) Tryz.zeroValue56 rfl) ?_
    rintro w3 _ hE1 ⟨b1,rfl,ge1,hb1⟩
    have HS3:=HS2.new hE1 ge1 hb1
    refine gq (i:=0) (cs:=[vI 0,vS ByteArray.empty,vI 0,vB false,vI 0,vI 0,vL none 0 0]) (cs':=[vI ((rd ah x3 a0).aF),vS ((rd ah x3 a0).aU),vI ((rd ah x3 a0).bW.aS),vB ((rd ah x3 a0).bW.aO),vI ((rd ah x3 a0).dY),vI ((rd ah x3 a0).vN),vL dO ((rd ah x3 a0).au).length dR]) (vs:=[vI ((rd ah x3 a0).aF),vS ((rd ah x3 a0).aU),vI ((rd ah x3 a0).bW.aS),vB ((rd ah x3 a0).bW.aO),vI ((rd ah x3 a0).dY),vI ((rd ah x3 a0).vN),vL dO ((rd ah x3 a0).au).length dR]) (bs':=((some b1, .cells #[vI ((rd ah x3 a0).aF),vS ((rd ah x3 a0).aU),vI ((rd ah x3 a0).bW.aS),vB ((rd ah x3 a0).bW.aO),vI ((rd ah x3 a0).dY),vI ((rd ah x3 a0).vN),vL dO ((rd ah x3 a0).au).length dR] 56 (0,0))::(some bx0, .cells #[vL (rowA Gp) x0.length cx0] 81 (0,0))::(Gp, .cells (NG).toArray 3 (0,0))::(some bx1, .cells #[vB x1] 4 (0,0))::(some bx2, .cells #[vL (rowA Gq) x2.length cx2] 216 (0,0))::(Gq, .cells ((List.set NH (a0.toNat*1+0) (vB true))).toArray 4 (0,0))::(some bx3, .cells #[vL Ax3 x3.length cx3] 24 (0,0))::(some bx4, .cells #[Value.func (.func 129) #[] #[vP bx0 0,vP bx1 0,vP bx2 0,vP bx3 0,vP bx4 0]] 217 (0,0))::rest)) rfl rfl Tryz.sizeOf56 rfl rfl (by decide) rfl HS3 rfl (Nat.le_of_ble_eq_true rfl) rfl rfl ?_
    intro w4 HS4
    try simp only [sc0,sc1]
    refine aB<|aj<|wp_seq<|region<|rs (vI 0) (aC rfl) ?_
    try simp only [sc0,sc1]
    refine aB<|aj<|wp_seq<|wp_seq<|region<|rs (Value.agg #[vI ((rd ah x3 a0).aF),vS ((rd ah x3 a0).aU),vI ((rd ah x3 a0).bW.aS),vB ((rd ah x3 a0).bW.aO),vI ((rd ah x3 a0).dY),vI ((rd ah x3 a0).vN),vL dO ((rd ah x3 a0).au).length dR]) (aY (n:=7) (vs:=[vI ((rd ah x3 a0).aF),vS ((rd ah x3 a0).aU),vI ((rd ah x3 a0).bW.aS),vB ((rd ah x3 a0).bW.aO),vI ((rd ah x3 a0).dY),vI ((rd ah x3 a0).vN),vL dO ((rd ah x3 a0).au).length dR]) rfl Tryz.isAgg56 (HS4.look 0 rfl) Tryz.sizeOf56 rfl rfl) ?_
    obtain ⟨v1,H1,H⟩:=bJ H
    refine dK rfl rfl (lT Tryz.call130 rfl (qB (h:=h) (R:=(fun hx u=>∃(iO:Option Addr) (iU:Nat),u=vL iO v1.length iU∧v1.length≤iU∧Rd (Kd.int .i64) hx iO v1)) (Ext.rfl' w4) ((fQ.calls k (rd ah x3 a0) dO dR HS4.sees iD jO H1).mono ?_)) rfl) ?_
    ·rintro _ _ ⟨h1,iO,iU,rfl,nN,jL,g,ss,x⟩
     exact ⟨h1,_,rfl,⟨iO,iU,rfl,nN,jL⟩,g,ss,x⟩
    rintro w5 _ hE2 ⟨h1,⟨iO,iU,rfl,nN,jL⟩,gr1,se1⟩
    have HS5:=HS4.view hE2 gr1 se1
    replace J5:Rd eX h1 Ax3 x3:=J5.ext gr1.1
    replace hsub:Sub h h1:=hsub.then gr1.1
    replace kX:jY h1 (Addr.add ad1 (a0.toNat*7)) [vI ((rd ah x3 a0).aF),vS ((rd ah x3 a0).aU),vI ((rd ah x3 a0).bW.aS),vB ((rd ah x3 a0).bW.aO),vI ((rd ah x3 a0).dY),vI ((rd ah x3 a0).vN),vL dO ((rd ah x3 a0).au).length dR]:=kX.sub gr1.1
    replace iD:Rd fM h1 dO ((rd ah x3 a0).au):=iD.ext gr1.1
    replace Rt:=Rt.view gr1.1
    replace ho1:=ho1.view gr1.1
    refine rs (vI (v1.length:Int)) (iT rfl Tryz.runUnderlying81)<|rs (vI 0) (aK rfl) ?_
    try simp only [sc0,sc1]
    refine aB<|aj ?_
    obtain ⟨xx1,H,G1⟩:=bJ H
    have XU:St [] h0 w0 h1 ((some b1, .cells #[vI ((rd ah x3 a0).aF),vS ((rd ah x3 a0).aU),vI ((rd ah x3 a0).bW.aS),vB ((rd ah x3 a0).bW.aO),vI ((rd ah x3 a0).dY),vI ((rd ah x3 a0).vN),vL dO ((rd ah x3 a0).au).length dR] 56 (0,0))::(some bx0, .cells #[vL (rowA Gp) x0.length cx0] 81 (0,0))::(Gp, .cells (NG).toArray 3 (0,0))::(some bx1, .cells #[vB x1] 4 (0,0))::(some bx2, .cells #[vL (rowA Gq) ((List.set x2 a0.toNat true).length) cx2] 216 (0,0))::(Gq, .cells ((List.set NH (a0.toNat*1+0) (vB true))).toArray 4 (0,0))::(some bx3, .cells #[vL Ax3 x3.length cx3] 24 (0,0))::(some bx4, .cells #[Value.func (.func 129) #[] #[vP bx0 0,vP bx1 0,vP bx2 0,vP bx3 0,vP bx4 0]] 217 (0,0))::rest) w5:=HS5.cast (by first|rfl|(rw [ho1.len];done)|(rw [ho1.len];rfl))
    have ho2:=ho1.norm
    refine iW [9,11,41,42,43,44,45,46,47,48] (fun m us w'=>∃aG bH:Int,∃kW:Bool,∃uD:List Int,∃BD:List Bool,∃h2:View,∃(qw:Option Nat) (zx:Nat),∃(rY:List Value),∃(BF:Option Nat) (NK:Nat),∃(EJ:List Value),Fit us (fun uy1=>[vI aG,(uy1 1),vI bH,(uy1 3),(uy1 4),(uy1 5),(uy1 6),(uy1 7),(uy1 8),(uy1 9)])∧dG.l0 (dG.f k) x3 v1 m aG bH kW uD BD=some xx1∧iY (Kd.int .i64) h2 uD qw uD.length zx rY∧iY Kd.bool h2 BD BF BD.length NK EJ∧Rd eX h2 Ax3 x3∧Sub h h2∧jY h2 (Addr.add ad1 (a0.toNat*7)) [vI ((rd ah x3 a0).aF),vS ((rd ah x3 a0).aU),vI ((rd ah x3 a0).bW.aS),vB ((rd ah x3 a0).bW.aO),vI ((rd ah x3 a0).dY),vI ((rd ah x3 a0).vN),vL dO ((rd ah x3 a0).au).length dR]∧Rd fM h2 dO ((rd ah x3 a0).au)∧Rd (Kd.int .i64) h2 iO v1∧St [] h0 w0 h2 ((some b1, .cells #[vI ((rd ah x3 a0).aF),vS ((rd ah x3 a0).aU),vI ((rd ah x3 a0).bW.aS),vB ((rd ah x3 a0).bW.aO),vI ((rd ah x3 a0).dY),vI ((rd ah x3 a0).vN),vL dO ((rd ah x3 a0).au).length dR] 56 (0,0))::(some bx0, .cells #[vL (rowA qw) uD.length zx] 81 (0,0))::(qw, .cells (rY).toArray 3 (0,0))::(some bx1, .cells #[vB kW] 4 (0,0))::(some bx2, .cells #[vL (rowA BF) BD.length NK] 216 (0,0))::(BF, .cells (EJ).toArray 4 (0,0))::(some bx3, .cells #[vL Ax3 x3.length cx3] 24 (0,0))::(some bx4, .cells #[Value.func (.func 129) #[] #[vP bx0 0,vP bx1 0,vP bx2 0,vP bx3 0,vP bx4 0]] 217 (0,0))::rest) w') (fun us w'=>∃(h4:View),∃(ni:Option Nat) (uj:Nat),∃(rZ:List Value),∃(vg:Option Nat) (Js:Nat),∃(BG:List Value),Fit us (fun uo1=>[vI xx1.1,(uo1 1),(uo1 2),(uo1 3),(uo1 4),(uo1 5),(uo1 6),(uo1 7),(uo1 8),(uo1 9)])∧iY (Kd.int .i64) h4 xx1.2.2.1 ni xx1.2.2.1.length uj rZ∧iY Kd.bool h4 xx1.2.2.2 vg xx1.2.2.2.length Js BG∧Rd eX h4 Ax3 x3∧Sub h h4∧jY h4 (Addr.add ad1 (a0.toNat*7)) [vI ((rd ah x3 a0).aF),vS ((rd ah x3 a0).aU),vI ((rd ah x3 a0).bW.aS),vB ((rd ah x3 a0).bW.aO),vI ((rd ah x3 a0).dY),vI ((rd ah x3 a0).vN),vL dO ((rd ah x3 a0).au).length dR]∧Rd fM h4 dO ((rd ah x3 a0).au)∧Rd (Kd.int .i64) h4 iO v1∧St [] h0 w0 h4 ((some b1, .cells #[vI ((rd ah x3 a0).aF),vS ((rd ah x3 a0).aU),vI ((rd ah x3 a0).bW.aS),vB ((rd ah x3 a0).bW.aO),vI ((rd ah x3 a0).dY),vI ((rd ah x3 a0).vN),vL dO ((rd ah x3 a0).au).length dR] 56 (0,0))::(some bx0, .cells #[vL (rowA ni) xx1.2.2.1.length uj] 81 (0,0))::(ni, .cells (rZ).toArray 3 (0,0))::(some bx1, .cells #[vB xx1.2.1] 4 (0,0))::(some bx2, .cells #[vL (rowA vg) xx1.2.2.2.length Js] 216 (0,0))::(vg, .cells (BG).toArray 4 (0,0))::(some bx3, .cells #[vL Ax3 x3.length cx3] 24 (0,0))::(some bx4, .cells #[Value.func (.func 129) #[] #[vP bx0 0,vP bx1 0,vP bx2 0,vP bx3 0,vP bx4 0]] 217 (0,0))::rest) w') k ⟨0,0,x1,x0,(List.set x2 a0.toNat true),h1,Gp,cx0,NG,Gq,cx2,(List.set NH (a0.toNat*1+0) (vB true)),(fit (by first|rfl|(rw [ho1.len];done)|(rw [ho1.len];rfl))),H,Rt.norm,ho2.norm,J5,hsub,kX,iD,jL,XU⟩ ?_ ?_
    ·rintro m us w6 ⟨aG,bH,kW,uD,BD,h2,qw,zx,rY,BF,NK,EJ,lZ,H,EK,Rx,J5,hsub,kX,iD,jL,HS6⟩
     obtain ⟨uy1,rfl⟩:=unj lZ
     cases m with
     |zero=>exact absurd H (by simp [dG.l0])
     |succ m=>
      rw [dG.l0] at H
      try simp only [patch,sc0,sc1]
      refine wp_seq<|region<|rs (vB (decide (bH<(v1.length:Int)))) (bK rfl rfl rfl) ?_
      try simp only [sc0,sc1]
      refine aB<|aj<|wp_seq<|wp_cond_split (t:=(decide (bH<(v1.length:Int)))) rfl (fun c3=>?_) (fun c3=>?_)
      ·replace H:=bU H c3
       refine wp_skip<|aj<|wp_seq<|wp_block<|wp_seq<|region ?_
       obtain ⟨hi6,H⟩:=fE H
       obtain ⟨ad2,e2,wV⟩:=oU jL hi6.1 hi6.2
       refine rs (Value.pointer (some (Addr.add ad2 (bH.toNat*1)))) (dQ (sz:=1) rfl e2 rfl hi6.1 hi6.2 Tryz.runUnderlying81 Tryz.sizeOf3)<|rs (vI (rd 0 v1 bH)) (jF rfl Tryz.isAgg3 (wV.cell0 HS6.sees rfl))<|rs (vI (rd 0 v1 bH)) (aC rfl) ?_
       try simp only [sc0,sc1]
       refine aB<|aj<|region<|rs (Value.func (.func 129) #[] #[vP bx0 0,vP bx1 0,vP bx2 0,vP bx3 0,vP bx4 0]) (aN rfl Tryz.isAgg217 (HS6.look 7 rfl) rfl)<|rs (vI (rd 0 v1 bH)) (aK rfl) ?_
       obtain ⟨v2,H2,H⟩:=bJ H
       have HS7:=HS6.f7
       have HS8:=HS7.f7
       have HS9:=HS8.f7
       have qN:=HS9.f7
       have wU:=qN.f7
       have sU:=wU.f7
       have zy:=sU.f7
       refine uN (vs:=[vI (rd 0 v1 bH)]) (caps:=[vP bx0 0,vP bx1 0,vP bx2 0,vP bx3 0,vP bx4 0]) Tryz.call129 rfl rfl (ih (rd 0 v1 bH) uD kW BD x3 bx0 qw zx rY bx1 bx2 BF NK EJ bx3 Ax3 cx3 bx4 zy EK Rx J5 YM H2) ?_
       rintro _ w7 ⟨h3,Ua,Wq,Ub,Uc,Ws,Ud,rfl,Ue,Uf,hs1,E5⟩
       refine ⟨_,rfl,?_⟩
       replace J5:Rd eX h3 Ax3 x3:=J5.ext hs1
       replace hsub:Sub h h3:=hsub.then hs1
       replace kX:jY h3 (Addr.add ad1 (a0.toNat*7)) [vI ((rd ah x3 a0).aF),vS ((rd ah x3 a0).aU),vI ((rd ah x3 a0).bW.aS),vB ((rd ah x3 a0).bW.aO),vI ((rd ah x3 a0).dY),vI ((rd ah x3 a0).vN),vL dO ((rd ah x3 a0).au).length dR]:=kX.sub hs1
       replace iD:Rd fM h3 dO ((rd ah x3 a0).au):=iD.ext hs1
       replace jL:Rd (Kd.int .i64) h3 iO v1:=jL.ext hs1
       replace wV:jY h3 (Addr.add ad2 (bH.toNat*1)) [vI (rd 0 v1 bH)]:=wV.sub hs1
       have NM:=E5.f6
       have zT:=NM.f6
       have Ry:=zT.f6
       have Ug:=Ry.f6
       have Wu:=Ug.f6
       have UO:=Wu.f6
       have XV:=UO.f6
       have XW:=XV.f7
       refine rs (vI v2.1) (aC rfl) ?_
       try simp only [sc0,sc1]
       refine aB<|dB<|aj<|region<|rs (vI (w64 (bH+1))) (bK rfl rfl rfl)<|rs (vI (w64 (bH+1))) (aK rfl) ?_
       try simp only [sc0,sc1]
       refine aB<|gX m (Nat.lt_succ_self m) rfl ⟨v2.1,(w64 (bH+1)),v2.2.2.1,v2.2.1,v2.2.2.2,h3,Ua,Wq,Ub,Uc,Ws,Ud,(fit rfl),H,Ue.norm,Uf.norm,J5,hsub,kX,iD,jL,XW⟩
      ·replace H:=bZ H (nt c3)
       refine wp_exit<|fF ?_
       obtain rfl:=Option.some.inj H
       refine iw rfl ⟨h2,qw,zx,rY,BF,NK,EJ,(fit rfl),EK.norm,Rx.norm,J5,hsub,kX,iD,jL,HS6⟩
    ·rintro us w8 ⟨h4,ni,uj,rZ,vg,Js,BG,l7,BH,Wv,J5,hsub,kX,iD,jL,XY⟩
     obtain ⟨uo1,rfl⟩:=unj l7
     replace H:=G1
     clear G1
     try simp only [patch,sc0,sc1]
     refine aj<|wp_seq<|region<|uK XY ?_
     intro w9 b2 Xg
     refine rs (vP b1 2) (aH (n:=2) (o':=2) rfl Tryz.runUnderlying56 rfl Tryz.sizeOf29 (by decide) rfl)<|rs (vP b1 2) (aH (n:=1) (o':=2) rfl Tryz.runUnderlying29 rfl Tryz.sizeOf3 (by decide) rfl)<|rs (vI ((rd ah x3 a0).bW.aS)) (aN rfl Tryz.isAgg3 (Xg.look 1 rfl) rfl)<|aI (by simp only [sc0,sc1];rfl) ?_
     refine G9 (mO Tryz.runUnderlying3) (i:=0) (k:=1) (v:=((rd ah x3 a0).bW.aS)) (ev:=(vI)) (m:=([]:List (Int×Int))) (by first|exact .inl rfl|exact .inr rfl) rfl rfl rfl rfl rfl Tryz.runUnderlying219 Xg rfl (pR.nil) ?_
     intro w10 es1 cl1 XZ ho3
     refine G9 (mO Tryz.runUnderlying3) (i:=0) (k:=2) (v:=8) (ev:=(vI)) (m:=(fJ ieq ([]:List (Int×Int)) 1 ((rd ah x3 a0).bW.aS))) (by first|exact .inl rfl|exact .inr rfl) rfl rfl rfl rfl rfl Tryz.runUnderlying219 XZ rfl ho3 ?_
     intro w11 es2 cl2 Uh ho4
     refine rs (vP b1 5) (aH (n:=1) (o':=5) rfl Tryz.runUnderlying56 rfl Tryz.sizeOf3 (by decide) rfl)<|rs (vI ((rd ah x3 a0).vN)) (aN rfl Tryz.isAgg3 (Uh.look 1 rfl) rfl)<|aI (by simp only [sc0,sc1];rfl) ?_
     refine rs (vI xx1.1) (aK rfl)<|rs (vI (w64 ((rd ah x3 a0).vN*xx1.1))) (bK rfl rfl rfl)<|G9 (mO Tryz.runUnderlying3) (i:=0) (k:=3) (v:=(w64 ((rd ah x3 a0).vN*xx1.1))) (ev:=(vI)) (m:=(fJ ieq (fJ ieq ([]:List (Int×Int)) 1 ((rd ah x3 a0).bW.aS)) 2 8)) (by first|exact .inl rfl|exact .inr rfl) rfl rfl rfl rfl rfl Tryz.runUnderlying219 Uh rfl ho4 ?_
     intro w12 es3 cl3 Xh ho5
     refine rs (vP b1 5) (aH (n:=1) (o':=5) rfl Tryz.runUnderlying56 rfl Tryz.sizeOf3 (by decide) rfl)<|aI (by simp only [sc0,sc1];rfl) ?_
     refine rs (vI ((rd ah x3 a0).vN)) (aN rfl Tryz.isAgg3 (Xh.look 1 rfl) rfl)<|G9 (mO Tryz.runUnderlying3) (i:=0) (k:=4) (v:=((rd ah x3 a0).vN)) (ev:=(vI)) (m:=(fJ ieq (fJ ieq (fJ ieq ([]:List (Int×Int)) 1 ((rd ah x3 a0).bW.aS)) 2 8) 3 (w64 ((rd ah x3 a0).vN*xx1.1)))) (by first|exact .inl rfl|exact .inr rfl) rfl rfl rfl rfl rfl Tryz.runUnderlying219 Xh rfl ho5 ?_
     intro w13 es4 cl4 X0 ho6
     refine G9 (mO Tryz.runUnderlying3) (i:=0) (k:=5) (v:=4) (ev:=(vI)) (m:=(fJ ieq (fJ ieq (fJ ieq (fJ ieq ([]:List (Int×Int)) 1 ((rd ah x3 a0).bW.aS)) 2 8) 3 (w64 ((rd ah x3 a0).vN*xx1.1))) 4 ((rd ah x3 a0).vN))) (by first|exact .inl rfl|exact .inr rfl) rfl rfl rfl rfl rfl Tryz.runUnderlying219 X0 rfl ho6 ?_
     intro w14 es5 cl5 Wx ho7
     refine rs (vI xx1.1) (aK rfl)<|aI (by simp only [sc0,sc1];rfl) ?_
     refine G9 (mO Tryz.runUnderlying3) (i:=0) (k:=6) (v:=xx1.1) (ev:=(vI)) (m:=(fJ ieq (fJ ieq (fJ ieq (fJ ieq (fJ ieq ([]:List (Int×Int)) 1 ((rd ah x3 a0).bW.aS)) 2 8) 3 (w64 ((rd ah x3 a0).vN*xx1.1))) 4 ((rd ah x3 a0).vN)) 5 4)) (by first|exact .inl rfl|exact .inr rfl) rfl rfl rfl rfl rfl Tryz.runUnderlying219 Wx rfl ho7 ?_
     intro w15 es6 cl6 Xi ho8
     refine rs (Value.map (some b2)) (aK rfl)<|rs (vP b1 0) (aH (n:=1) (o':=0) rfl Tryz.runUnderlying56 rfl Tryz.sizeOf3 (by decide) rfl)<|rs (vI ((rd ah x3 a0).aF)) (aN rfl Tryz.isAgg3 (Xi.look 1 rfl) rfl)<|aI (by simp only [sc0,sc1];rfl) ?_
     refine rs (vI ((bM ieq (fJ ieq (fJ ieq (fJ ieq (fJ ieq (fJ ieq (fJ ieq ([]:List (Int×Int)) 1 ((rd ah x3 a0).bW.aS)) 2 8) 3 (w64 ((rd ah x3 a0).vN*xx1.1))) 4 ((rd ah x3 a0).vN)) 5 4) 6 xx1.1) ((rd ah x3 a0).aF)).getD 0)) (KD (mO Tryz.runUnderlying3) (k:=((rd ah x3 a0).aF)) (m:=(fJ ieq (fJ ieq (fJ ieq (fJ ieq (fJ ieq (fJ ieq ([]:List (Int×Int)) 1 ((rd ah x3 a0).bW.aS)) 2 8) 3 (w64 ((rd ah x3 a0).vN*xx1.1))) 4 ((rd ah x3 a0).vN)) 5 4) 6 xx1.1)) (ev:=(vI)) 0 rfl rfl Tryz.runUnderlying219 Tryz.zeroValue3 (Xi.look 0 rfl) ho8)<|rs (vI ((bM ieq (fJ ieq (fJ ieq (fJ ieq (fJ ieq (fJ ieq (fJ ieq ([]:List (Int×Int)) 1 ((rd ah x3 a0).bW.aS)) 2 8) 3 (w64 ((rd ah x3 a0).vN*xx1.1))) 4 ((rd ah x3 a0).vN)) 5 4) 6 xx1.1) ((rd ah x3 a0).aF)).getD 0)) (aC rfl) ?_
     try simp only [sc0,sc1]
     refine aB<|aj<|wp_seq<|region<|rs (vB xx1.2.1) (aN rfl Tryz.isAgg4 (Xi.look 4 rfl) rfl)<|rs (vB xx1.2.1) (aK rfl)<|rgs xx1.2.1 true (vI ((bM ieq (fJ ieq (fJ ieq (fJ ieq (fJ ieq (fJ ieq (fJ ieq ([]:List (Int×Int)) 1 ((rd ah x3 a0).bW.aS)) 2 8) 3 (w64 ((rd ah x3 a0).vN*xx1.1))) 4 ((rd ah x3 a0).vN)) 5 4) 6 xx1.1) ((rd ah x3 a0).aF)).getD 0)) rfl rfl rfl rfl (fun hg=>(aK rfl))<|rgs xx1.2.1 true (vB (decide (((bM ieq (fJ ieq (fJ ieq (fJ ieq (fJ ieq (fJ ieq (fJ ieq ([]:List (Int×Int)) 1 ((rd ah x3 a0).bW.aS)) 2 8) 3 (w64 ((rd ah x3 a0).vN*xx1.1))) 4 ((rd ah x3 a0).vN)) 5 4) 6 xx1.1) ((rd ah x3 a0).aF)).getD 0)≤512))) rfl rfl rfl rfl (fun hg=>(bK (gvt (vI ((bM ieq (fJ ieq (fJ ieq (fJ ieq (fJ ieq (fJ ieq (fJ ieq ([]:List (Int×Int)) 1 ((rd ah x3 a0).bW.aS)) 2 8) 3 (w64 ((rd ah x3 a0).vN*xx1.1))) 4 ((rd ah x3 a0).vN)) 5 4) 6 xx1.1) ((rd ah x3 a0).aF)).getD 0)) hg rfl) rfl rfl))<|aI (by simp only [sc0,sc1];rfl) ?_
     refine rs (vB (xx1.2.1&&(decide (((bM ieq (fJ ieq (fJ ieq (fJ ieq (fJ ieq (fJ ieq (fJ ieq ([]:List (Int×Int)) 1 ((rd ah x3 a0).bW.aS)) 2 8) 3 (w64 ((rd ah x3 a0).vN*xx1.1))) 4 ((rd ah x3 a0).vN)) 5 4) 6 xx1.1) ((rd ah x3 a0).aF)).getD 0)≤512)))) (dw rfl (fun hp=>(gvt (vB (decide (((bM ieq (fJ ieq (fJ ieq (fJ ieq (fJ ieq (fJ ieq (fJ ieq ([]:List (Int×Int)) 1 ((rd ah x3 a0).bW.aS)) 2 8) 3 (w64 ((rd ah x3 a0).vN*xx1.1))) 4 ((rd ah x3 a0).vN)) 5 4) 6 xx1.1) ((rd ah x3 a0).aF)).getD 0)≤512))) (gu rfl hp) rfl)) rfl)<|gq (i:=4) (cs:=[vB xx1.2.1]) (cs':=[vB (xx1.2.1&&(decide (((bM ieq (fJ ieq (fJ ieq (fJ ieq (fJ ieq (fJ ieq (fJ ieq ([]:List (Int×Int)) 1 ((rd ah x3 a0).bW.aS)) 2 8) 3 (w64 ((rd ah x3 a0).vN*xx1.1))) 4 ((rd ah x3 a0).vN)) 5 4) 6 xx1.1) ((rd ah x3 a0).aF)).getD 0)≤512)))]) (vs:=[vB (xx1.2.1&&(decide (((bM ieq (fJ ieq (fJ ieq (fJ ieq (fJ ieq (fJ ieq (fJ ieq ([]:List (Int×Int)) 1 ((rd ah x3 a0).bW.aS)) 2 8) 3 (w64 ((rd ah x3 a0).vN*xx1.1))) 4 ((rd ah x3 a0).vN)) 5 4) 6 xx1.1) ((rd ah x3 a0).aF)).getD 0)≤512)))]) (bs':=((some b2, .map es6 cl6)::(some b1, .cells #[vI ((rd ah x3 a0).aF),vS ((rd ah x3 a0).aU),vI ((rd ah x3 a0).bW.aS),vB ((rd ah x3 a0).bW.aO),vI ((rd ah x3 a0).dY),vI ((rd ah x3 a0).vN),vL dO ((rd ah x3 a0).au).length dR] 56 (0,0))::(some bx0, .cells #[vL (rowA ni) xx1.2.2.1.length uj] 81 (0,0))::(ni, .cells (rZ).toArray 3 (0,0))::(some bx1, .cells #[vB (xx1.2.1&&(decide (((bM ieq (fJ ieq (fJ ieq (fJ ieq (fJ ieq (fJ ieq (fJ ieq ([]:List (Int×Int)) 1 ((rd ah x3 a0).bW.aS)) 2 8) 3 (w64 ((rd ah x3 a0).vN*xx1.1))) 4 ((rd ah x3 a0).vN)) 5 4) 6 xx1.1) ((rd ah x3 a0).aF)).getD 0)≤512)))] 4 (0,0))::(some bx2, .cells #[vL (rowA vg) xx1.2.2.2.length Js] 216 (0,0))::(vg, .cells (BG).toArray 4 (0,0))::(some bx3, .cells #[vL Ax3 x3.length cx3] 24 (0,0))::(some bx4, .cells #[Value.func (.func 129) #[] #[vP bx0 0,vP bx1 0,vP bx2 0,vP bx3 0,vP bx4 0]] 217 (0,0))::rest)) rfl rfl Tryz.sizeOf4 rfl rfl (by decide) rfl Xi rfl (Nat.le_of_ble_eq_true rfl) rfl rfl ?_
     intro w16 YP
     try simp only [sc0,sc1]
     refine aB<|aj<|wp_seq<|region<|rs (vL (rowA ni) xx1.2.2.1.length uj) (aN rfl Tryz.isAgg81 (YP.look 2 rfl) rfl)<|rs (vI a0) (aK rfl)<|rs (vI ((bM ieq (fJ ieq (fJ ieq (fJ ieq (fJ ieq (fJ ieq (fJ ieq ([]:List (Int×Int)) 1 ((rd ah x3 a0).bW.aS)) 2 8) 3 (w64 ((rd ah x3 a0).vN*xx1.1))) 4 ((rd ah x3 a0).vN)) 5 4) 6 xx1.1) ((rd ah x3 a0).aF)).getD 0)) (aK rfl) ?_
     obtain ⟨hi7,H⟩:=fE H
     obtain ⟨rb5,_,YQ,rfl,hp5⟩:=BH.at 0 hi7.1 hi7.2
     refine rs (Value.pointer (some ⟨rb5,a0.toNat*1+0,none⟩)) (nH (sz:=1) rfl YQ rfl hi7.1 hi7.2 Tryz.runUnderlying81 Tryz.sizeOf3)<|aI (by simp only [sc0,sc1];rfl) ?_
     refine Fh (i:=3) (cs:=rZ) (v:=vI ((bM ieq (fJ ieq (fJ ieq (fJ ieq (fJ ieq (fJ ieq (fJ ieq ([]:List (Int×Int)) 1 ((rd ah x3 a0).bW.aS)) 2 8) 3 (w64 ((rd ah x3 a0).vN*xx1.1))) 4 ((rd ah x3 a0).vN)) 5 4) 6 xx1.1) ((rd ah x3 a0).aF)).getD 0)) YQ rfl rfl Tryz.sizeOf3 rfl rfl YP rfl (BH.inb hi7.1 hi7.2 (m:=1) (by decide)) ?_
     intro w17 Zt
     have ho9:=BH.set (o:=0) (v:=vI ((bM ieq (fJ ieq (fJ ieq (fJ ieq (fJ ieq (fJ ieq (fJ ieq ([]:List (Int×Int)) 1 ((rd ah x3 a0).bW.aS)) 2 8) 3 (w64 ((rd ah x3 a0).vN*xx1.1))) 4 ((rd ah x3 a0).vN)) 5 4) 6 xx1.1) ((rd ah x3 a0).aF)).getD 0)) (x':=((bM ieq (fJ ieq (fJ ieq (fJ ieq (fJ ieq (fJ ieq (fJ ieq ([]:List (Int×Int)) 1 ((rd ah x3 a0).bW.aS)) 2 8) 3 (w64 ((rd ah x3 a0).vN*xx1.1))) 4 ((rd ah x3 a0).vN)) 5 4) 6 xx1.1) ((rd ah x3 a0).aF)).getD 0)) hi7.1 hi7.2 hp5 rfl (Nat.le_of_ble_eq_true rfl)
     try simp only [sc0,sc1]
     refine aB<|aj<|wp_seq<|region<|rs (vI ((bM ieq (fJ ieq (fJ ieq (fJ ieq (fJ ieq (fJ ieq (fJ ieq ([]:List (Int×Int)) 1 ((rd ah x3 a0).bW.aS)) 2 8) 3 (w64 ((rd ah x3 a0).vN*xx1.1))) 4 ((rd ah x3 a0).vN)) 5 4) 6 xx1.1) ((rd ah x3 a0).aF)).getD 0)) (aK rfl)<|rs (vI ((bM ieq (fJ ieq (fJ ieq (fJ ieq (fJ ieq (fJ ieq (fJ ieq ([]:List (Int×Int)) 1 ((rd ah x3 a0).bW.aS)) 2 8) 3 (w64 ((rd ah x3 a0).vN*xx1.1))) 4 ((rd ah x3 a0).vN)) 5 4) 6 xx1.1) ((rd ah x3 a0).aF)).getD 0)) (aC rfl) ?_
     try simp only [sc0,sc1]
     refine aB<|aj<|wp_ret ?_
     obtain rfl:=Option.some.inj H
     refine bodyPost_ret (aW rfl (aV rfl)) rfl ?_
     have Zu:St [] h0 w0 h4 ((some b2, .map es6 cl6)::(some b1, .cells #[vI ((rd ah x3 a0).aF),vS ((rd ah x3 a0).aU),vI ((rd ah x3 a0).bW.aS),vB ((rd ah x3 a0).bW.aO),vI ((rd ah x3 a0).dY),vI ((rd ah x3 a0).vN),vL dO ((rd ah x3 a0).au).length dR] 56 (0,0))::(some bx0, .cells #[vL (rowA ni) ((List.set xx1.2.2.1 a0.toNat ((bM ieq (fJ ieq (fJ ieq (fJ ieq (fJ ieq (fJ ieq (fJ ieq ([]:List (Int×Int)) 1 ((rd ah x3 a0).bW.aS)) 2 8) 3 (w64 ((rd ah x3 a0).vN*xx1.1))) 4 ((rd ah x3 a0).vN)) 5 4) 6 xx1.1) ((rd ah x3 a0).aF)).getD 0)).length) uj] 81 (0,0))::(ni, .cells ((List.set rZ (a0.toNat*1+0) (vI ((bM ieq (fJ ieq (fJ ieq (fJ ieq (fJ ieq (fJ ieq (fJ ieq ([]:List (Int×Int)) 1 ((rd ah x3 a0).bW.aS)) 2 8) 3 (w64 ((rd ah x3 a0).vN*xx1.1))) 4 ((rd ah x3 a0).vN)) 5 4) 6 xx1.1) ((rd ah x3 a0).aF)).getD 0)))).toArray 3 (0,0))::(some bx1, .cells #[vB (xx1.2.1&&(decide (((bM ieq (fJ ieq (fJ ieq (fJ ieq (fJ ieq (fJ ieq (fJ ieq ([]:List (Int×Int)) 1 ((rd ah x3 a0).bW.aS)) 2 8) 3 (w64 ((rd ah x3 a0).vN*xx1.1))) 4 ((rd ah x3 a0).vN)) 5 4) 6 xx1.1) ((rd ah x3 a0).aF)).getD 0)≤512)))] 4 (0,0))::(some bx2, .cells #[vL (rowA vg) xx1.2.2.2.length Js] 216 (0,0))::(vg, .cells (BG).toArray 4 (0,0))::(some bx3, .cells #[vL Ax3 x3.length cx3] 24 (0,0))::(some bx4, .cells #[Value.func (.func 129) #[] #[vP bx0 0,vP bx1 0,vP bx2 0,vP bx3 0,vP bx4 0]] 217 (0,0))::rest) w17:=Zt.cast (by first|rfl|(rw [ho9.len];done)|(rw [ho9.len];rfl))
     have Zv:=ho9.norm
     have Zw:=Zu.d1
     have Zx:=Zw.d0
     exact ⟨h4,ni,uj,(List.set rZ (a0.toNat*1+0) (vI ((bM ieq (fJ ieq (fJ ieq (fJ ieq (fJ ieq (fJ ieq (fJ ieq ([]:List (Int×Int)) 1 ((rd ah x3 a0).bW.aS)) 2 8) 3 (w64 ((rd ah x3 a0).vN*xx1.1))) 4 ((rd ah x3 a0).vN)) 5 4) 6 xx1.1) ((rd ah x3 a0).aF)).getD 0))),vg,Js,BG,rfl,Zv,Wv,hsub,Zx⟩
def fK.l0 (k:Nat) (a0:bf):Nat→Int→Bool→(List Bool)→(List Int)→Option (Bool×(List Bool)×(List Int))
 |0,_,_,_,_=>none
 |m+1,aG,bH,kW,uD=>if (decide (aG<(a0.ay.length:Int)))=true then ((dG.f k aG uD bH kW a0.ay).bind fun v1=>(fK.l0 k a0 m (IntKind.wrap .i64 (aG+1)) v1.2.2.1 v1.2.2.2 v1.2.1)) else (some (bH,kW,uD))
def fK.f (k:Nat) (a0:bf):Option ((List Int)×Bool):=if 0≤(a0.ay.length:Int)∧(a0.ay.length:Int)≤4294967296 then (if 0≤(a0.ay.length:Int)∧(a0.ay.length:Int)≤4294967296 then ((fK.l0 k a0 k 0 true (List.replicate (a0.ay.length:Int).toNat (false:Bool)) (List.replicate (a0.ay.length:Int).toNat (0:Int))).bind fun xx1=>(some (xx1.2.2,xx1.1))) else none) else none
theorem fK.calls (k:Nat) (a0:bf) (bQ:Option Addr) (bT:Nat) {h0:View} {w0:World} (hv:jf h0 w0) (fB:Rd eX h0 bQ a0.ay) (gI:a0.ay.length≤bT) {r:(List Int)×Bool} (H:fK.f k a0=some r):Calls Tryz.prog 85 #[Value.agg #[vL bQ a0.ay.length bT]] w0 (fun e w1=>∃(h1:View) (bQ:Option Addr) (bT:Nat),e= .returned (Value.tuple #[vL bQ r.1.length bT,vB r.2])∧r.1.length≤bT∧Rd (Kd.int .i64) h1 bQ r.1∧Gr w0.heap.size h0 h1∧jf h1 w1∧Ext w0 w1):=by
 unfold fK.f at H
 have HS:St [] h0 w0 h0 [] w0:=St.init hv
 go_enter Tryz.func85,Tryz.ntmps85
 refine wp_seq<|region<|dK rfl rfl (dH (cs:=#[vL bQ a0.ay.length bT]) rfl rfl) ?_
 rintro w1 _ hE1 ⟨b1,rfl,ge1,hb1⟩
 have HS1:=HS.new hE1 ge1 hb1
 refine rs (vL none 0 0) (aC rfl)<|rs (vB false) (aC rfl) ?_
 try simp only [sc0,sc1]
 refine aB<|aj<|wp_seq<|region<|rs (vP b1 0) (aH (n:=1) (o':=0) rfl Tryz.runUnderlying24 rfl Tryz.sizeOf22 (by decide) rfl)<|rs (vL bQ a0.ay.length bT) (aN rfl Tryz.isAgg22 (HS1.look 0 rfl) rfl)<|rs (vI (a0.ay.length:Int)) (iT rfl Tryz.runUnderlying22) ?_
 obtain ⟨hk1,H⟩:=fE H
 refine run_mk (Kd.int .i64) 0 (zs:=[vI 0]) rfl rfl hk1 Tryz.runUnderlying81 Tryz.typeInfo3 (by decide) rfl Tryz.zeroValue3 rfl rfl HS1 ?_
 intro w2 b2 cs1 HS2 ho1
 refine aI (by simp only [sc0,sc1];rfl) ?_
 refine dK rfl rfl (fA (cs:=#[vL none 0 0]) Tryz.zeroValue81 rfl) ?_
 rintro w3 _ hE2 ⟨b3,rfl,ge2,hb2⟩
 have HS3:=HS2.new hE2 ge2 hb2
 refine gq (i:=0) (cs:=[vL none 0 0]) (cs':=[vL (rowA (some b2)) ((a0.ay.length:Int).toNat) ((a0.ay.length:Int).toNat)]) (vs:=[vL (rowA (some b2)) ((a0.ay.length:Int).toNat) ((a0.ay.length:Int).toNat)]) (bs':=[(some b3, .cells #[vL (rowA (some b2)) ((a0.ay.length:Int).toNat) ((a0.ay.length:Int).toNat)] 81 (0,0)),((some b2), .cells (cs1).toArray 3 (0,0)),(some b1, .cells #[vL bQ a0.ay.length bT] 24 (0,0))]) rfl rfl Tryz.sizeOf81 rfl rfl (by decide) rfl HS3 rfl (Nat.le_of_ble_eq_true rfl) rfl rfl ?_
 intro w4 HS4
 try simp only [sc0,sc1]
 refine aB<|aj<|wp_seq<|region<|rs (vP b1 0) (aH (n:=1) (o':=0) rfl Tryz.runUnderlying24 rfl Tryz.sizeOf22 (by decide) rfl)<|rs (vL bQ a0.ay.length bT) (aN rfl Tryz.isAgg22 (HS4.look 2 rfl) rfl)<|rs (vI (a0.ay.length:Int)) (iT rfl Tryz.runUnderlying22) ?_
 obtain ⟨hk2,H⟩:=fE H
 refine run_mk Kd.bool false (zs:=[vB false]) rfl rfl hk2 Tryz.runUnderlying216 Tryz.typeInfo4 (by decide) rfl Tryz.zeroValue4 rfl rfl HS4 ?_
 intro w5 b4 cs2 HS5 ho2
 refine aI (by simp only [sc0,sc1];rfl) ?_
 refine dK rfl rfl (fA (cs:=#[vL none 0 0]) Tryz.zeroValue216 rfl) ?_
 rintro w6 _ hE3 ⟨b5,rfl,ge3,hb3⟩
 have HS6:=HS5.new hE3 ge3 hb3
 refine gq (i:=0) (cs:=[vL none 0 0]) (cs':=[vL (rowA (some b4)) ((a0.ay.length:Int).toNat) ((a0.ay.length:Int).toNat)]) (vs:=[vL (rowA (some b4)) ((a0.ay.length:Int).toNat) ((a0.ay.length:Int).toNat)]) (bs':=[(some b5, .cells #[vL (rowA (some b4)) ((a0.ay.length:Int).toNat) ((a0.ay.length:Int).toNat)] 216 (0,0)),((some b4), .cells (cs2).toArray 4 (0,0)),(some b3, .cells #[vL (rowA (some b2)) ((a0.ay.length:Int).toNat) ((a0.ay.length:Int).toNat)] 81 (0,0)),((some b2), .cells (cs1).toArray 3 (0,0)),(some b1, .cells #[vL bQ a0.ay.length bT] 24 (0,0))]) rfl rfl Tryz.sizeOf216 rfl rfl (by decide) rfl HS6 rfl (Nat.le_of_ble_eq_true rfl) rfl rfl ?_
 intro w7 HS7
 try simp only [sc0,sc1]
 refine aB<|aj<|wp_seq<|region<|dK rfl rfl (fA (cs:=#[vB false]) Tryz.zeroValue4 rfl) ?_
 rintro w8 _ hE4 ⟨b6,rfl,ge4,hb4⟩
 have HS8:=HS7.new hE4 ge4 hb4
 refine gq (i:=0) (cs:=[vB false]) (cs':=[vB true]) (vs:=[vB true]) (bs':=[(some b6, .cells #[vB true] 4 (0,0)),(some b5, .cells #[vL (rowA (some b4)) ((a0.ay.length:Int).toNat) ((a0.ay.length:Int).toNat)] 216 (0,0)),((some b4), .cells (cs2).toArray 4 (0,0)),(some b3, .cells #[vL (rowA (some b2)) ((a0.ay.length:Int).toNat) ((a0.ay.length:Int).toNat)] 81 (0,0)),((some b2), .cells (cs1).toArray 3 (0,0)),(some b1, .cells #[vL bQ a0.ay.length bT] 24 (0,0))]) rfl rfl Tryz.sizeOf4 rfl rfl (by decide) rfl HS8 rfl (Nat.le_of_ble_eq_true rfl) rfl rfl ?_
 intro w9 HS9
 try simp only [sc0,sc1]
 refine aB<|aj<|wp_seq<|region<|dK rfl rfl (fA (cs:=#[Value.nilFunc]) Tryz.zeroValue217 rfl) ?_
 rintro w10 _ hE5 ⟨b7,rfl,ge5,hb5⟩
 have qN:=HS9.new hE5 ge5 hb5
 try simp only [sc0,sc1]
 refine aB<|aj<|wp_seq<|region<|rs (Value.func (.func 129) #[] #[vP b3 0,vP b6 0,vP b5 0,vP b1 0,vP b7 0]) (oC (vs:=[vP b3 0,vP b6 0,vP b5 0,vP b1 0,vP b7 0]) rfl)<|gq (i:=0) (cs:=[Value.nilFunc]) (cs':=[Value.func (.func 129) #[] #[vP b3 0,vP b6 0,vP b5 0,vP b1 0,vP b7 0]]) (vs:=[Value.func (.func 129) #[] #[vP b3 0,vP b6 0,vP b5 0,vP b1 0,vP b7 0]]) (bs':=[(some b7, .cells #[Value.func (.func 129) #[] #[vP b3 0,vP b6 0,vP b5 0,vP b1 0,vP b7 0]] 217 (0,0)),(some b6, .cells #[vB true] 4 (0,0)),(some b5, .cells #[vL (rowA (some b4)) ((a0.ay.length:Int).toNat) ((a0.ay.length:Int).toNat)] 216 (0,0)),((some b4), .cells (cs2).toArray 4 (0,0)),(some b3, .cells #[vL (rowA (some b2)) ((a0.ay.length:Int).toNat) ((a0.ay.length:Int).toNat)] 81 (0,0)),((some b2), .cells (cs1).toArray 3 (0,0)),(some b1, .cells #[vL bQ a0.ay.length bT] 24 (0,0))]) rfl rfl Tryz.sizeOf217 rfl rfl (by decide) rfl qN rfl (Nat.le_of_ble_eq_true rfl) rfl rfl ?_
 intro w11 wU
 try simp only [sc0,sc1]
 refine aB<|aj<|wp_seq<|wp_seq<|region<|rs (vP b1 0) (aH (n:=1) (o':=0) rfl Tryz.runUnderlying24 rfl Tryz.sizeOf22 (by decide) rfl)<|rs (vL bQ a0.ay.length bT) (aN rfl Tryz.isAgg22 (wU.look 6 rfl) rfl)<|rs (vI (a0.ay.length:Int)) (iT rfl Tryz.runUnderlying22)<|rs (vI 0) (aK rfl) ?_
 try simp only [sc0,sc1]
 refine aB<|aj ?_
 obtain ⟨xx1,H,G1⟩:=bJ H
 have Xh:St [] h0 w0 h0 [(some b7, .cells #[Value.func (.func 129) #[] #[vP b3 0,vP b6 0,vP b5 0,vP b1 0,vP b7 0]] 217 (0,0)),(some b6, .cells #[vB true] 4 (0,0)),(some b5, .cells #[vL (rowA (some b4)) ((List.replicate (a0.ay.length:Int).toNat (false:Bool)).length) ((a0.ay.length:Int).toNat)] 216 (0,0)),((some b4), .cells (cs2).toArray 4 (0,0)),(some b3, .cells #[vL (rowA (some b2)) ((List.replicate (a0.ay.length:Int).toNat (0:Int)).length) ((a0.ay.length:Int).toNat)] 81 (0,0)),((some b2), .cells (cs1).toArray 3 (0,0)),(some b1, .cells #[vL bQ a0.ay.length bT] 24 (0,0))] w11:=wU.cast (by first|rfl|(rw [ho2.len,ho1.len];done)|(rw [ho2.len,ho1.len];rfl))
 have ho3:=ho2.norm
 have ho4:=ho1.norm
 refine iW [8,21,22,23,24,25,26,27] (fun m us w'=>∃aG:Int,∃bH:Bool,∃kW:List Bool,∃uD:List Int,∃h1:View,∃(BI:Option Nat) (NP:Nat),∃(EL:List Value),∃(qw:Option Nat) (zx:Nat),∃(rY:List Value),Fit us (fun uy1=>[(uy1 0),vI aG,(uy1 2),(uy1 3),(uy1 4),(uy1 5),(uy1 6),(uy1 7)])∧fK.l0 k a0 m aG bH kW uD=some xx1∧iY Kd.bool h1 kW BI kW.length NP EL∧iY (Kd.int .i64) h1 uD qw uD.length zx rY∧St [] h0 w0 h1 [(some b7, .cells #[Value.func (.func 129) #[] #[vP b3 0,vP b6 0,vP b5 0,vP b1 0,vP b7 0]] 217 (0,0)),(some b6, .cells #[vB bH] 4 (0,0)),(some b5, .cells #[vL (rowA BI) kW.length NP] 216 (0,0)),(BI, .cells (EL).toArray 4 (0,0)),(some b3, .cells #[vL (rowA qw) uD.length zx] 81 (0,0)),(qw, .cells (rY).toArray 3 (0,0)),(some b1, .cells #[vL bQ a0.ay.length bT] 24 (0,0))] w') (fun us w'=>∃(h3:View),∃(Iu:Option Nat) (Ui:Nat),∃(xG:List Value),∃(ni:Option Nat) (uj:Nat),∃(rZ:List Value),Fit us (fun uo1=>[(uo1 0),(uo1 1),(uo1 2),(uo1 3),(uo1 4),(uo1 5),(uo1 6),(uo1 7)])∧iY Kd.bool h3 xx1.2.1 Iu xx1.2.1.length Ui xG∧iY (Kd.int .i64) h3 xx1.2.2 ni xx1.2.2.length uj rZ∧St [] h0 w0 h3 [(some b7, .cells #[Value.func (.func 129) #[] #[vP b3 0,vP b6 0,vP b5 0,vP b1 0,vP b7 0]] 217 (0,0)),(some b6, .cells #[vB xx1.1] 4 (0,0)),(some b5, .cells #[vL (rowA Iu) xx1.2.1.length Ui] 216 (0,0)),(Iu, .cells (xG).toArray 4 (0,0)),(some b3, .cells #[vL (rowA ni) xx1.2.2.length uj] 81 (0,0)),(ni, .cells (rZ).toArray 3 (0,0)),(some b1, .cells #[vL bQ a0.ay.length bT] 24 (0,0))] w') k ⟨0,true,(List.replicate (a0.ay.length:Int).toNat (false:Bool)),(List.replicate (a0.ay.length:Int).toNat (0:Int)),h0,(some b4),(a0.ay.length:Int).toNat,cs2,(some b2),(a0.ay.length:Int).toNat,cs1,(fit (by first|rfl|(rw [ho2.len,ho1.len];done)|(rw [ho2.len,ho1.len];rfl))),H,ho3.norm,ho4.norm,Xh⟩ ?_ ?_
 ·rintro m us w12 ⟨aG,bH,kW,uD,h1,BI,NP,EL,qw,zx,rY,lZ,H,Rz,EK,sU⟩
  obtain ⟨uy1,rfl⟩:=unj lZ
  cases m with
  |zero=>exact absurd H (by simp [fK.l0])
  |succ m=>
   rw [fK.l0] at H
   try simp only [patch,sc0,sc1]
   refine wp_seq<|region<|rs (vB (decide (aG<(a0.ay.length:Int)))) (bK rfl rfl rfl) ?_
   try simp only [sc0,sc1]
   refine aB<|aj<|wp_seq<|wp_cond_split (t:=(decide (aG<(a0.ay.length:Int)))) rfl (fun c1=>?_) (fun c1=>?_)
   ·replace H:=bU H c1
    refine wp_skip<|aj<|wp_seq<|wp_block<|wp_seq<|region<|rs (vI aG) (aK rfl)<|rs (vI aG) (aC rfl) ?_
    try simp only [sc0,sc1]
    refine aB<|aj<|region<|rs (Value.func (.func 129) #[] #[vP b3 0,vP b6 0,vP b5 0,vP b1 0,vP b7 0]) (aN rfl Tryz.isAgg217 (sU.look 0 rfl) rfl)<|rs (vI aG) (aK rfl) ?_
    obtain ⟨v1,H1,H⟩:=bJ H
    have zy:=sU.f6
    have E5:=zy.f4
    have NM:=E5.f4
    have zT:=NM.f4
    have Ry:=zT.f6
    have Ug:=Ry.f6
    refine uN (vs:=[vI aG]) (caps:=[vP b3 0,vP b6 0,vP b5 0,vP b1 0,vP b7 0]) Tryz.call129 rfl rfl (dG.calls k aG uD bH kW a0.ay b3 qw zx rY b6 b5 BI NP EL b1 bQ bT b7 Ug EK Rz (fB.ext Ug.sub) gI H1) ?_
    rintro _ w13 ⟨h2,Uj,Wy,Uk,Ul,WA,Um,rfl,Un,Uo,hs1,Wu⟩
    refine ⟨_,rfl,?_⟩
    have UO:=Wu.f5
    have XV:=UO.f2
    have XW:=XV.f2
    have XY:=XW.f5
    have XU:=XY.f5
    have Xg:=XU.f5
    have XZ:=Xg.f6
    try simp only [sc0,sc1]
    refine aB<|dB<|aj<|region<|rs (vI (w64 (aG+1))) (bK rfl rfl rfl)<|rs (vI (w64 (aG+1))) (aK rfl) ?_
    try simp only [sc0,sc1]
    refine aB<|gX m (Nat.lt_succ_self m) rfl ⟨(w64 (aG+1)),v1.2.2.1,v1.2.2.2,v1.2.1,h2,Ul,WA,Um,Uj,Wy,Uk,(fit rfl),H,Uo.norm,Un.norm,XZ⟩
   ·replace H:=bZ H (nt c1)
    refine wp_exit<|fF ?_
    obtain rfl:=Option.some.inj H
    refine iw rfl ⟨h1,BI,NP,EL,qw,zx,rY,(fit rfl),Rz.norm,EK.norm,sU⟩
 ·rintro us w14 ⟨h3,Iu,Ui,xG,ni,uj,rZ,l7,Iw,BH,Uh⟩
  obtain ⟨uo1,rfl⟩:=unj l7
  replace H:=G1
  clear G1
  try simp only [patch,sc0,sc1]
  refine aj<|wp_seq<|drawn [.eq (vL (rowA ni) xx1.2.2.length uj), .eq (vB xx1.1), .eq (vL (rowA ni) xx1.2.2.length uj)] [28,29,2] nD (by kernel_rfl) rfl (bn (bn (bn jh))) ⟨bI rfl (fun a' w' hE hk=>by have HSd:=Uh.step hE;exact cu (aN (show _=vP b3 0 from hk 4 rfl) Tryz.isAgg81 (HSd.look 4 rfl) rfl)),bI rfl (fun a' w' hE hk=>by have HSd:=Uh.step hE;exact cu (aN (show _=vP b6 0 from hk 6 rfl) Tryz.isAgg4 (HSd.look 1 rfl) rfl)),bI rfl (fun a' w' hE hk=>by have HSd:=Uh.step hE;exact cu (aC (show _=vL (rowA ni) xx1.2.2.length uj from hk 28 rfl))),trivial⟩ ?_
  intro w15 hE6
  simp only [List.zip_cons_cons,List.zip_nil_left,List.zip_nil_right,yh,sc0,sc1,List.length_cons,List.length_nil,List.drop_succ_cons,List.drop_zero,Nat.zero_add,Nat.reduceAdd]
  have X0:=Uh.step hE6
  refine rs (vB xx1.1) (aC rfl) ?_
  try simp only [sc0,sc1]
  refine aB<|aj<|wp_ret ?_
  obtain rfl:=Option.some.inj H
  refine bodyPost_ret (fO rfl (aV rfl) (aV rfl)) rfl ?_
  obtain ⟨h4,Wx,hs2,Qh⟩:=vZ X0 (i:=5) rfl BH
  replace Iw:=Iw.view hs2
  exact ⟨h4,(rowA ni),uj,rfl,BH.cap,Qh,Wx.gr,Wx.sees,Wx.toE⟩
end Go.Proofs.YtecpbadkdpbkpaaGreatDoor
/-bits.Check holds of the types of 1,2,4 and 8 bytes:the map of conversions,its entries put in in any order. -/
namespace Go.Proofs.YtecpbadkdpbkpaaGreatDoor
open Go.RowKit Go.M
section
variable {P:Program} {Q:Exit→Act→World→Prop}
theorem zA {ops:Array Oper} {i:Nat} {o:Oper} {K:Act→World→Prop} {a:Act} {w w':World} {v:Value} (hi:ops[i]?=some o) (hg:o.guard=none) (hex:(execOp a.eval o).run P w= .ok (.value v) w') (hK:K (a.put o.dst v) w'):wpOp P ops Q i K a w:=by
 unfold wpOp
 rw [hi]
 simp only [Region.wanted,hg,if_true]
 refine .inl ?_
 unfold Oper.wp
 rw [hex]
 exact hK
theorem steps {ops:Array Oper} {i:Nat} {o:Oper} {K:Act→World→Prop} {a:Act} {w w':World} (hi:ops[i]?=some o) (hg:o.guard=none) (hd:o.dst=none) (hex:(execOp a.eval o).run P w= .ok .skip w') (hK:K a w'):wpOp P ops Q i K a w:=by
 unfold wpOp
 rw [hi]
 simp only [Region.wanted,hg,if_true]
 refine .inl ?_
 unfold Oper.wp
 rw [hex]
 simp only [Oper.upon,hd]
 exact hK
end
def eqI (a b:eP):Bool:=(a.aS==b.aS)&&((a.aO==b.aO)&&true)
theorem Dt {a b:eP}:eqI a b=true↔a=b:=by
 obtain ⟨a1,a2⟩:=a
 obtain ⟨b1,b2⟩:=b
 simp [eqI]
theorem X3 : Pj Tryz.prog 29 #[{ name := "Size", type := 3, offset := 0, embedded := false, tag := "", pkgPath := "", byteOffset := 0 }, { name := "Signed", type := 4, offset := 1, embedded := false, tag := "", pkgPath := "", byteOffset := 8 }] jS eqI where
 hu:=Tryz.runUnderlying29
 same:=fun a b w=>(Kz Tryz.stoodInHeld29 Tryz.underlying29 (xR (by decide) (nM Tryz.isAgg3 rfl) (nM Tryz.isAgg3 rfl) (Kw Tryz.underlying3) (xR (by decide) (nM Tryz.isAgg4 rfl) (nM Tryz.isAgg4 rfl) (GY Tryz.underlying4) Ky)):EqR Tryz.prog 10000 29 (jS a) (jS b) (eqI a b)) w
 check:=fun e k w=>by
  have hp1:(part 3 #[.int .i64 k.aS, .bool k.aO] 0).run Tryz.prog w= .ok (.int .i64 k.aS) w:=nM Tryz.isAgg3 rfl w
  have hp2:(part 4 #[.int .i64 k.aS, .bool k.aO] 1).run Tryz.prog w= .ok (.bool k.aO) w:=nM Tryz.isAgg4 rfl w
  have h1:∀n v,(Instr.checkKey e (n+1) 3 v).run Tryz.prog w= .ok () w:=fun n v=>by
   rw [Instr.checkKey]
   simp only [Sem.run_bind,Tryz.runUnderlying3,Result.andThen_ok]
   cases v<;>rfl
  have h2:∀n v,(Instr.checkKey e (n+1) 4 v).run Tryz.prog w= .ok () w:=fun n v=>by
   rw [Instr.checkKey]
   simp only [Sem.run_bind,Tryz.runUnderlying4,Result.andThen_ok]
   cases v<;>rfl
  show (Instr.checkKey e (9998+1+1) 29 (.agg #[.int .i64 k.aS, .bool k.aO])).run Tryz.prog w=_
  rw [Instr.checkKey]
  simp only [Sem.run_bind,Tryz.runUnderlying29,Result.andThen_ok]
  simp [hp1,hp2,h1,h2]
def keyAt (j:Nat):eP:=⟨([1,1,2,2,4,4,8,8]:List Int).getD j 0,j%2==0⟩
/-- what the map leads to -/
def thr (k:eP):Nat:=if k.aS==1 then (if k.aO then 135 else 136) else if k.aS==2 then (if k.aO then 137 else 138) else if k.aS==4 then (if k.aO then 139 else 140) else (if k.aO then 141 else 142)
def fvI (k:eP):Value:= .func (.func (thr k)) #[] #[]
structure X4 (wz w:World) (b:Nat) (es:Array MapEntry) (cl:Nat) (ks:List eP):Prop where
 ge:wz.heap.size≤b
 at_:w.heap[b]?=some (.map es cl)
 keys:KVs jS fvI ks es
 ext:Ext wz w
structure NQ (wz:World) (df:List Deferred) (L:Nat→Bool) (a:Act) (w:World):Prop where
 defers:a.defers=df
 size:a.tmps.size=11
 built:∀j:Nat,j<8→L (2*j+1)=true→a.tmps.getD (Nat.add j 2) undef=jS (keyAt j)
 none_:L 0=false→Ext wz w∧(∀j,j<8→L (2*j+2)=false)∧L 17=false∧L 18=false
 some_:L 0=true→∃b es cl ks,a.tmps.getD 1 undef= .map (some b)∧X4 wz w b es cl ks∧(∀j,j<8→(L (2*j+2)=true↔keyAt j∈ks))∧(∀k∈ks,∃j,j<8∧k=keyAt j)∧
  (L 17=true→a.tmps.getD 10 undef= .map (some b))∧(L 18=true→a.tmps.getD 0 undef= .map (some b))
theorem upd_ne {L:Nat→Bool} {i j:Nat} (h:j≠i):upd L i j=L j:=if_neg h
theorem RD {L:Nat→Bool} {i:Nat}:upd L i i=true:=if_pos rfl
theorem jI {a:Act} {d t:Tmp} {v:Value} (h:d≠t):(a.put (some d) v).tmps.getD t undef=a.tmps.getD t undef:=by
 simp [Act.put,Array.getD_eq_getD_getElem?,Array.getElem?_setIfInBounds_ne h]
theorem qO {a:Act} {d:Tmp} {v:Value} (h:d<a.tmps.size):(a.put (some d) v).tmps.getD d undef=v:=by
 simp [Act.put,Array.getD_eq_getD_getElem?,h]
theorem X5 {j:Nat} (h:j<8):Nat.add j 2<11:=by show j+2<11;omega
theorem X6 {j q:Nat} (h:¬q=j):Nat.add j 2≠Nat.add q 2:=by show j+2≠q+2;omega
theorem Zy {j:Nat}:Nat.add j 2≠1:=by show j+2≠1;omega
theorem X7 {j:Nat}:1≠Nat.add j 2:=by show 1≠j+2;omega
theorem Zz {j:Nat}:Nat.add j 2≠0:=by show j+2≠0;omega
theorem X8 {j:Nat} (h:j<8):Nat.add j 2≠10:=by show j+2≠10;omega
theorem WB {j:Nat} (h:j<8):10≠Nat.add j 2:=by show 10≠j+2;omega
theorem X9 {j:Nat}:0≠Nat.add j 2:=by show 0≠j+2;omega
/-- a slot that is built -/
theorem NQ.build {wz w:World} {df:List Deferred} {L:Nat→Bool} {a:Act} (C:NQ wz df L a w) {j:Nat} (hj:j<8):NQ wz df (upd L (2*j+1)) (a.put (some (Nat.add j 2)) (jS (keyAt j))) w:=by
 refine ⟨by simp [Act.put,C.defers],by simp [Act.put,C.size],fun q hq hL=>?_,fun h=>?_,fun h=>?_⟩
 ·by_cases hqj:q=j
  ·subst hqj;exact qO (by rw [C.size];exact X5 hq)
  ·rw [jI (X6 hqj)]
   rw [upd_ne (by omega)] at hL
   exact C.built q hq hL
 ·rw [upd_ne (by omega)] at h
  obtain ⟨h1,h2,h3,h4⟩:=C.none_ h
  exact ⟨h1,fun q hq=>by rw [upd_ne (by omega)];exact h2 q hq,by rw [upd_ne (by omega)];exact h3,by rw [upd_ne (by omega)];exact h4⟩
 ·rw [upd_ne (by omega)] at h
  obtain ⟨b,es,cl,ks,h1,h2,h3,h4,h5,h6⟩:=C.some_ h
  refine ⟨b,es,cl,ks,by rw [jI Zy];exact h1,h2,fun q hq=>by rw [upd_ne (by omega)];exact h3 q hq,h4,fun h=>?_,fun h=>?_⟩
  ·rw [upd_ne (by omega)] at h
   rw [jI (X8 hj)];exact h5 h
  ·rw [upd_ne (by omega)] at h
   rw [jI Zz];exact h6 h
theorem NR {i j:Nat} (hi:i<8) (hj:j<8) (h:keyAt i=keyAt j):i=j:=by
 have:∀i j:Fin 8,(([1,1,2,2,4,4,8,8]:List Int).getD i 0=([1,1,2,2,4,4,8,8]:List Int).getD j 0∧(i.val%2==0)=(j.val%2==0))→i=j:=by decide
 have h2:=this ⟨i,hi⟩ ⟨j,hj⟩ (by simpa [keyAt] using h)
 exact congrArg Fin.val h2
/-- an entry that is put in -/
theorem NQ.insert {wz w:World} {df:List Deferred} {L:Nat→Bool} {a:Act} (C:NQ wz df L a w) {j:Nat} (hj:j<8) (hL:L (2*j+2)=false) (h0:L 0=true) (hb:L (2*j+1)=true) {o:Oper} {y:Operand}
  (ho:o.op= .insert 178 (.tmp 1) (.tmp (Nat.add j 2)) y) (hy:a.eval y=fvI (keyAt j)):∃w',(execOp a.eval o).run Tryz.prog w= .ok .skip w'∧NQ wz df (upd L (2*j+2)) a w':=by
 obtain ⟨b,es,cl,ks,h1,h2,h3,h4,h5,h6⟩:=C.some_ h0
 have hnot:ks.any (eqI (keyAt j))=false:=by
  rw [List.any_eq_false]
  intro k hk he
  have:=Dt.1 he
  rw [←this] at hk
  have:=(h3 j hj).2 hk
  rw [hL] at this
  cases this
 obtain ⟨es',cl',hr,hk⟩:=Xu (P:=Tryz.prog) X3 (keyAt j) h2.keys Tryz.runUnderlying178 h2.at_ hnot
 have e1:a.eval (.tmp 1)= .map (some b):=h1
 have e2:a.eval (.tmp (Nat.add j 2))=jS (keyAt j):=C.built j hj hb
 have hlt:=(Array.getElem?_eq_some_iff.1 h2.at_).1
 refine ⟨sJ w b (.map es' cl'),by simp [execOp,ho,e1,e2,hy,hr],C.defers,C.size,fun q hq hLq=>?_,fun h=>?_,fun h=>?_⟩
 ·rw [upd_ne (by omega)] at hLq
  exact C.built q hq hLq
 ·rw [upd_ne (by omega),h0] at h;cases h
 ·refine ⟨b,es',cl',ks++[keyAt j],h1,⟨h2.ge,Cc hlt,hk,?_⟩,fun q hq=>?_,fun k hk=>?_,fun h=>?_,fun h=>?_⟩
  ·refine ⟨h2.ext.os,h2.ext.tape,h2.ext.output,by simpa [sJ] using h2.ext.size,fun i hi=>?_⟩
   rw [Ce (by have:=h2.ge;omega)]
   exact h2.ext.block i hi
  ·by_cases hqj:q=j
   ·subst hqj;simp [RD]
   ·rw [upd_ne (by omega),h3 q hq,List.mem_append,List.mem_singleton]
    exact ⟨.inl,fun h=>h.elim id (fun e=>absurd (NR hq hj e) hqj)⟩
  ·rcases List.mem_append.1 hk with hk|hk
   ·exact h4 k hk
   ·exact ⟨j,hj,List.mem_singleton.1 hk⟩
  ·rw [upd_ne (by omega)] at h;exact h5 h
  ·rw [upd_ne (by omega)] at h;exact h6 h
/-- the sizes of valid integer types -/
def okI (k:eP):Bool:=k.aS==1||k.aS==2||k.aS==4||k.aS==8
theorem all_keys {ks:List eP} (h3:∀j,j<8→keyAt j∈ks) (h4:∀k∈ks,∃j,j<8∧k=keyAt j) (k:eP):ks.any (eqI k)=okI k:=by
 have key:ks.any (eqI k)=true↔okI k=true:=by
  rw [List.any_eq_true]
  constructor
  ·rintro ⟨q,hq,he⟩
   obtain ⟨j,hj,rfl⟩:=h4 q hq
   obtain rfl:=Dt.1 he
   have:∀j:Fin 8,okI (keyAt j)=true:=by decide
   exact this ⟨j,hj⟩
  ·intro h
   obtain ⟨s,g⟩:=k
   have h1:∃j,j<8∧keyAt j=⟨s,g⟩:=by
    simp only [okI,Bool.or_eq_true,beq_iff_eq] at h
    rcases h with ((h|h)|h)|h<;>subst h<;>cases g
    ·exact ⟨1,by decide,rfl⟩
    ·exact ⟨0,by decide,rfl⟩
    ·exact ⟨3,by decide,rfl⟩
    ·exact ⟨2,by decide,rfl⟩
    ·exact ⟨5,by decide,rfl⟩
    ·exact ⟨4,by decide,rfl⟩
    ·exact ⟨7,by decide,rfl⟩
    ·exact ⟨6,by decide,rfl⟩
   obtain ⟨j,hj,e⟩:=h1
   exact ⟨keyAt j,h3 j hj,Dt.2 e.symm⟩
 cases h1:ks.any (eqI k) with
 |true=>exact (key.1 h1).symm
 |false=>
  cases h2:okI k with
  |false=>rfl
  |true=>rw [key.2 h2] at h1;cases h1
theorem qW.calls {w0:World}:Calls Tryz.prog 90 #[] w0 (fun e w1=>∃b es cl ks,e= .returned (.map (some b))∧w0.heap.size≤b∧w1.heap[b]?=some (.map es cl)∧KVs jS fvI ks es∧(∀k,ks.any (eqI k)=okI k)∧Ext w0 w1):=by
 go_enter Tryz.func90,Tryz.ntmps90
 refine wp_seq<|region<|rs (Value.map none) (aC rfl) ?_
 try simp only [sc0,sc1]
 refine aB<|aj<|wp_seq<|DX (NQ w0 []) nD (by kernel_rfl) ?_ ?_ ?_
 ·intro w' hE
  exact NQ.mk rfl rfl (fun j hj h=>by cases h) (fun _=>⟨hE,fun _ _=>rfl,rfl,rfl⟩) (fun h=>by cases h)
 ·intro L a w i o C ho hLi hall
  have hil:i<19:=(List.getElem?_eq_some_iff.1 ho).1
  have hops:=ho
  rw [←List.getElem?_toArray] at hops
  rcases (by omega:i=0∨i=1∨i=2∨i=3∨i=4∨i=5∨i=6∨i=7∨i=8∨i=9∨i=10∨i=11∨i=12∨i=13∨i=14∨i=15∨i=16∨i=17∨i=18) with rfl|rfl|rfl|rfl|rfl|rfl|rfl|rfl|rfl|rfl|rfl|rfl|rfl|rfl|rfl|rfl|rfl|rfl|rfl
  ·-- the map
   obtain rfl:=Option.some.inj ho
   obtain ⟨h1,h2,h3,h4⟩:=C.none_ hLi
   refine zA hops rfl (v:= .map (some w.heap.size)) (w':=w.alloc (.map #[] 0)) ?_ ?_
   ·have hn:Sem.run Tryz.prog (Sem.new (Obj.map #[] 0) Sem.pure) w= .ok w.heap.size (w.alloc (.map #[] 0)):=rfl
    simp [execOp,Instr.makeMap,newObj,hn]
   ·refine NQ.mk (by simp [Act.put,C.defers]) (by simp [Act.put,C.size]) (fun q hq hL=>?_) (fun h=>by rw [RD] at h;cases h) (fun _=>?_)
    ·rw [upd_ne (by omega)] at hL
     show (a.put (some 1) _).tmps.getD _ undef=_
     rw [jI X7];exact C.built q hq hL
    ·refine ⟨w.heap.size,#[],0,[],qO (by rw [C.size];decide),⟨h1.size,heap_alloc_new w _,rfl,h1.then (Ext.new w _)⟩,fun q hq=>?_,by simp,fun h=>?_,fun h=>?_⟩
     ·rw [upd_ne (by omega),h2 q hq];simp
     ·rw [upd_ne (by omega),h3] at h;cases h
     ·rw [upd_ne (by omega),h4] at h;cases h
  ·obtain rfl:=Option.some.inj ho
   exact zA hops rfl (iF (cs:=[.int .i64 1, .bool true]) (ps:=[(0, .int .i64 1),(1, .bool true)]) Tryz.zeroValue29 Tryz.runUnderlying29 (pl:=#[(0,1),(1,1)]) (fun w=>by simp [Tryz.sizeOf3,Tryz.sizeOf4]) (nT rfl rfl) rfl) (C.build (j:=0) (by decide))
  ·obtain rfl:=Option.some.inj ho
   simp [Region.binds] at hall
   obtain ⟨w', hex, hC⟩ := C.insert (o := ⟨none, .insert 178 (.tmp 1) (.tmp 2) (.func 135), 0, "bits.go:22", #[{ on := 0, ground := Ground.data }, { on := 1, ground := Ground.data }], none⟩) (j := 0) (by decide) hLi hall.1 hall.2 rfl rfl
   exact steps hops rfl rfl hex hC
  ·obtain rfl:=Option.some.inj ho
   exact zA hops rfl (iF (cs:=[.int .i64 1, .bool false]) (ps:=[(0, .int .i64 1)]) Tryz.zeroValue29 Tryz.runUnderlying29 (pl:=#[(0,1),(1,1)]) (fun w=>by simp [Tryz.sizeOf3,Tryz.sizeOf4]) (jZ rfl) rfl) (C.build (j:=1) (by decide))
  ·obtain rfl:=Option.some.inj ho
   simp [Region.binds] at hall
   obtain ⟨w', hex, hC⟩ := C.insert (o := ⟨none, .insert 178 (.tmp 1) (.tmp 3) (.func 136), 0, "bits.go:22", #[{ on := 0, ground := Ground.data }, { on := 3, ground := Ground.data }], none⟩) (j := 1) (by decide) hLi hall.1 hall.2 rfl rfl
   exact steps hops rfl rfl hex hC
  ·obtain rfl:=Option.some.inj ho
   exact zA hops rfl (iF (cs:=[.int .i64 2, .bool true]) (ps:=[(0, .int .i64 2),(1, .bool true)]) Tryz.zeroValue29 Tryz.runUnderlying29 (pl:=#[(0,1),(1,1)]) (fun w=>by simp [Tryz.sizeOf3,Tryz.sizeOf4]) (nT rfl rfl) rfl) (C.build (j:=2) (by decide))
  ·obtain rfl:=Option.some.inj ho
   simp [Region.binds] at hall
   obtain ⟨w', hex, hC⟩ := C.insert (o := ⟨none, .insert 178 (.tmp 1) (.tmp 4) (.func 137), 0, "bits.go:22", #[{ on := 0, ground := Ground.data }, { on := 5, ground := Ground.data }], none⟩) (j := 2) (by decide) hLi hall.1 hall.2 rfl rfl
   exact steps hops rfl rfl hex hC
  ·obtain rfl:=Option.some.inj ho
   exact zA hops rfl (iF (cs:=[.int .i64 2, .bool false]) (ps:=[(0, .int .i64 2)]) Tryz.zeroValue29 Tryz.runUnderlying29 (pl:=#[(0,1),(1,1)]) (fun w=>by simp [Tryz.sizeOf3,Tryz.sizeOf4]) (jZ rfl) rfl) (C.build (j:=3) (by decide))
  ·obtain rfl:=Option.some.inj ho
   simp [Region.binds] at hall
   obtain ⟨w', hex, hC⟩ := C.insert (o := ⟨none, .insert 178 (.tmp 1) (.tmp 5) (.func 138), 0, "bits.go:22", #[{ on := 0, ground := Ground.data }, { on := 7, ground := Ground.data }], none⟩) (j := 3) (by decide) hLi hall.1 hall.2 rfl rfl
   exact steps hops rfl rfl hex hC
  ·obtain rfl:=Option.some.inj ho
   exact zA hops rfl (iF (cs:=[.int .i64 4, .bool true]) (ps:=[(0, .int .i64 4),(1, .bool true)]) Tryz.zeroValue29 Tryz.runUnderlying29 (pl:=#[(0,1),(1,1)]) (fun w=>by simp [Tryz.sizeOf3,Tryz.sizeOf4]) (nT rfl rfl) rfl) (C.build (j:=4) (by decide))
  ·obtain rfl:=Option.some.inj ho
   simp [Region.binds] at hall
   obtain ⟨w', hex, hC⟩ := C.insert (o := ⟨none, .insert 178 (.tmp 1) (.tmp 6) (.func 139), 0, "bits.go:22", #[{ on := 0, ground := Ground.data }, { on := 9, ground := Ground.data }], none⟩) (j := 4) (by decide) hLi hall.1 hall.2 rfl rfl
   exact steps hops rfl rfl hex hC
  ·obtain rfl:=Option.some.inj ho
   exact zA hops rfl (iF (cs:=[.int .i64 4, .bool false]) (ps:=[(0, .int .i64 4)]) Tryz.zeroValue29 Tryz.runUnderlying29 (pl:=#[(0,1),(1,1)]) (fun w=>by simp [Tryz.sizeOf3,Tryz.sizeOf4]) (jZ rfl) rfl) (C.build (j:=5) (by decide))
  ·obtain rfl:=Option.some.inj ho
   simp [Region.binds] at hall
   obtain ⟨w', hex, hC⟩ := C.insert (o := ⟨none, .insert 178 (.tmp 1) (.tmp 7) (.func 140), 0, "bits.go:22", #[{ on := 0, ground := Ground.data }, { on := 11, ground := Ground.data }], none⟩) (j := 5) (by decide) hLi hall.1 hall.2 rfl rfl
   exact steps hops rfl rfl hex hC
  ·obtain rfl:=Option.some.inj ho
   exact zA hops rfl (iF (cs:=[.int .i64 8, .bool true]) (ps:=[(0, .int .i64 8),(1, .bool true)]) Tryz.zeroValue29 Tryz.runUnderlying29 (pl:=#[(0,1),(1,1)]) (fun w=>by simp [Tryz.sizeOf3,Tryz.sizeOf4]) (nT rfl rfl) rfl) (C.build (j:=6) (by decide))
  ·obtain rfl:=Option.some.inj ho
   simp [Region.binds] at hall
   obtain ⟨w', hex, hC⟩ := C.insert (o := ⟨none, .insert 178 (.tmp 1) (.tmp 8) (.func 141), 0, "bits.go:22", #[{ on := 0, ground := Ground.data }, { on := 13, ground := Ground.data }], none⟩) (j := 6) (by decide) hLi hall.1 hall.2 rfl rfl
   exact steps hops rfl rfl hex hC
  ·obtain rfl:=Option.some.inj ho
   exact zA hops rfl (iF (cs:=[.int .i64 8, .bool false]) (ps:=[(0, .int .i64 8)]) Tryz.zeroValue29 Tryz.runUnderlying29 (pl:=#[(0,1),(1,1)]) (fun w=>by simp [Tryz.sizeOf3,Tryz.sizeOf4]) (jZ rfl) rfl) (C.build (j:=7) (by decide))
  ·obtain rfl:=Option.some.inj ho
   simp [Region.binds] at hall
   obtain ⟨w', hex, hC⟩ := C.insert (o := ⟨none, .insert 178 (.tmp 1) (.tmp 9) (.func 142), 0, "bits.go:22", #[{ on := 0, ground := Ground.data }, { on := 15, ground := Ground.data }], none⟩) (j := 7) (by decide) hLi hall.1 hall.2 rfl rfl
   exact steps hops rfl rfl hex hC
  ·obtain rfl:=Option.some.inj ho
   simp [Region.binds] at hall
   obtain ⟨b,es,cl,ks,h1,h2,h3,h4,h5,h6⟩:=C.some_ hall.1
   refine zA hops rfl (v:= .map (some b)) (w':=w) (aK h1)<|NQ.mk (by simp [Act.put,C.defers]) (by simp [Act.put,C.size]) (fun q hq hL=>?_) (fun h=>by rw [upd_ne (by omega),hall.1] at h;cases h) (fun _=>⟨b,es,cl,ks,?_,h2,fun q hq=>by rw [upd_ne (by omega)];exact h3 q hq,h4,fun _=>?_,fun h=>?_⟩)
   ·rw [upd_ne (by omega)] at hL
    show (a.put (some 10) _).tmps.getD _ undef=_
    rw [jI (WB hq)];exact C.built q hq hL
   ·exact (jI (by decide)).trans h1
   ·exact qO (by rw [C.size];decide)
   ·rw [upd_ne (by omega)] at h
    exact (jI (by decide)).trans (h6 h)
  ·obtain rfl:=Option.some.inj ho
   simp [Region.binds] at hall
   obtain ⟨b,es,cl,ks,h1,h2,h3,h4,h5,h6⟩:=C.some_ hall.2.1
   refine zA hops rfl (v:= .map (some b)) (w':=w) (aC (h5 hall.1))<|NQ.mk (by simp [Act.put,C.defers]) (by simp [Act.put,C.size]) (fun q hq hL=>?_) (fun h=>by rw [upd_ne (by omega),hall.2.1] at h;cases h) (fun _=>⟨b,es,cl,ks,?_,h2,fun q hq=>by rw [upd_ne (by omega)];exact h3 q hq,h4,fun h=>?_,fun _=>?_⟩)
   ·rw [upd_ne (by omega)] at hL
    show (a.put (some 0) _).tmps.getD _ undef=_
    rw [jI X9];exact C.built q hq hL
   ·exact (jI (by decide)).trans h1
   ·rw [upd_ne (by omega)] at h
    exact (jI (by decide)).trans (h5 h)
   ·exact qO (by rw [C.size];decide)
 ·intro L a w C hall
  obtain ⟨b,es,cl,ks,h1,h2,h3,h4,h5,h6⟩:=C.some_ (hall 0 (by decide))
  exact aj<|wp_ret<|bodyPost_ret (aW rfl (aV (h6 (hall 18 (by decide))))) C.defers<|⟨b,es,cl,ks,rfl,h2.ge,h2.at_,h2.keys,all_keys (fun j hj=>(h3 j hj).1 (hall (2*j+2) (by show 2*j+2<19;omega))) h4,h2.ext⟩
end Go.Proofs.YtecpbadkdpbkpaaGreatDoor
/-bits.Check:which integer types are valid. -/
namespace Go.Proofs.YtecpbadkdpbkpaaGreatDoor
open Go.RowKit Go.M
def kL.f (a0:eP):Option Int:=some (if okI a0=true then 0 else 10)
theorem NS {P:Program} {ρ:Operand→Value} {w:World} {dst:Option Tmp} {ty:TypeId} {pos:String} {after:Array Edge} {guard:Option (Nat×Bool)} {xt:TypeId} {x y:Operand} {b:Nat} {k v:Value} (hx:ρ x= .map (some b)) (hy:ρ y=k)
  (h:(Instr.lookup xt (.map (some b)) k true).run P w= .ok v w):(execOp ρ ⟨dst, .lookup xt x y true,ty,pos,after,guard⟩).run P w= .ok (.value v) w:=by
 simp [execOp,hx,hy,h]
theorem kL.calls (a0:eP) {h0:View} {w0:World} (hv:jf h0 w0) {r:Int} (H:kL.f a0=some r):Calls Tryz.prog 56 #[Value.agg #[vI a0.aS,vB a0.aO]] w0 (fun e w1=>e= .returned (vI r)∧Ext w0 w1):=by
 unfold kL.f at H
 obtain rfl:=Option.some.inj H
 have HS:St [] h0 w0 h0 [] w0:=St.init hv
 go_enter Tryz.func56,Tryz.ntmps56
 refine wp_seq<|region<|dK rfl rfl (dH (cs:=#[vI a0.aS,vB a0.aO]) rfl rfl) ?_
 rintro w1 _ hE1 ⟨b1,rfl,ge1,hb1⟩
 have HS1:=HS.new hE1 ge1 hb1
 refine rs (vI 0) (aC rfl) ?_
 try simp only [sc0,sc1]
 refine aB<|aj<|wp_seq<|wp_seq<|yH [([7],[1]),([8,5,9,10,3,4],[1,2,3,4,5,6,7])] [0] [[],[],[0,1],[0,1,2],[0,1,2,3],[0,1,2,3],[0,1,2,3,4],[0,1,2,3,4,5,6]] nD (by kernel_rfl) ?_
 intro w2 hE2
 have HS2:=HS1.step hE2
 refine yI [jS a0] ?_ rfl rfl ?_
 ·simp only [patch,sc0,sc1]
  exact jP (jQ (v:=jS a0) rfl rfl rfl rfl (aY (n:=2) (vs:=[vI a0.aS,vB a0.aO]) rfl Tryz.isAgg29 (HS2.look 0 rfl) Tryz.sizeOf29 rfl rfl)) uO
 simp only [patch,sc0,sc1]
 refine uN (vs:=[]) (caps:=[]) Tryz.call90 rfl rfl qW.calls ?_
 rintro _ w3 ⟨b2,es,cl,ks,rfl,hge,hb,hk,hok,hE3⟩
 refine ⟨_,rfl,?_⟩
 refine KH ?_
 try simp only [sc0,sc1]
 have HS3:=HS2.step hE3
 obtain ⟨v,hlk⟩:=Pm X3 a0 hk.keys Tryz.runUnderlying178 Tryz.zeroValue176 hb
 rw [hok a0] at hlk
 refine Ap [.tuple #[v, .bool (okI a0)], .tuple #[v, .bool (okI a0)],v, .bool (okI a0),v, .bool (okI a0)] ?_ ?_
 ·simp only [patch,sc0,sc1]
  exact jP (jQ (v:=jS a0) rfl rfl rfl rfl (aY (n:=2) (vs:=[vI a0.aS,vB a0.aO]) rfl Tryz.isAgg29 (HS3.look 0 rfl) Tryz.sizeOf29 rfl rfl)) (jP (jQ (v:= .tuple #[v, .bool (okI a0)]) rfl rfl rfl rfl (NS rfl rfl hlk))
   (jP (jQ rfl rfl rfl rfl (aK rfl)) (jP (jQ rfl rfl rfl rfl (eU rfl rfl)) (jP (jQ rfl rfl rfl rfl (eU rfl rfl)) (jP (jQ rfl rfl rfl rfl (aC rfl)) (jP (jQ rfl rfl rfl rfl (aC rfl)) uO))))))
 simp only [patch,sc0,sc1]
 refine aj<|wp_seq<|region<|rs (vB (okI a0)) (aK rfl)<|rs (vB (!(okI a0))) (kN rfl) ?_
 try simp only [sc0,sc1]
 refine aB<|aj<|wp_cond_split (t:= !(okI a0)) rfl (fun c1=>?_) (fun c1=>?_)
 ·refine wp_seq<|region<|rs (vI 10) (aC rfl) ?_
  try simp only [sc0,sc1]
  refine aB<|aj<|wp_ret<|aX<|bodyPost_ret (aW rfl (aV rfl)) rfl ?_
  have:okI a0=false:=by simpa using c1
  rw [this]
  exact ⟨rfl,HS3.toE⟩
 ·refine wp_skip<|aj<|wp_seq<|region<|rs (vI 0) (aC rfl) ?_
  try simp only [sc0,sc1]
  refine aB<|aj<|wp_ret<|bodyPost_ret (aW rfl (aV rfl)) rfl ?_
  have:okI a0=true:=by simpa using c1
  rw [this]
  exact ⟨rfl,HS3.toE⟩
end Go.Proofs.YtecpbadkdpbkpaaGreatDoor
namespace Go.Proofs.YtecpbadkdpbkpaaGreatDoor
open Go.RowKit Go.M
def oD.f:Option ((List (Int×fC))):=some (fJ ieq (fJ ieq (fJ ieq (fJ ieq (fJ ieq (fJ ieq ([]:List (Int×fC)) 1 (⟨true,true,false,false,false⟩:fC)) 2 (⟨false,false,true,false,false⟩:fC)) 3 (⟨false,false,true,true,false⟩:fC)) 4 (⟨true,false,false,true,true⟩:fC)) 5 (⟨true,false,false,false,true⟩:fC)) 6 (⟨true,false,true,false,false⟩:fC))
theorem oD.calls {h0:View} {w0:World} (hv:jf h0 w0) {r:(List (Int×fC))} (H:oD.f=some r):Calls Tryz.prog 156 #[] w0 (fun e w1=>∃(b:Nat) (es:Array MapEntry) (cl:Nat),e= .returned (.map (some b))∧(w0.heap.size≤b∧w1.heap[b]?=some (.map es cl))∧pR (vI) ku r es cl∧Ext w0 w1):=by
 unfold oD.f at H
 have HS:St [] h0 w0 h0 [] w0:=St.init hv
 go_enter Tryz.func156,Tryz.ntmps156
 refine wp_seq<|region<|rs (Value.map none) (aC rfl) ?_
 try simp only [sc0,sc1]
 refine aB<|aj<|wp_seq<|region<|uK HS ?_
 intro w1 b1 HS1
 refine rs (Value.agg #[vB true,vB true,vB false,vB false,vB false]) (iF (cs:=[vB true,vB true,vB false,vB false,vB false]) (ps:=[(0,vB true),(1,vB true)]) Tryz.zeroValue243 Tryz.runUnderlying243 (pl:=#[(0,1),(1,1),(2,1),(3,1),(4,1)]) (fun w=>by simp [Tryz.sizeOf4]) (nT (show _=vB true from rfl) (show _=vB true from rfl)) rfl) ?_
 refine G9 (mO Tryz.runUnderlying3) (i:=0) (k:=1) (v:=(⟨true,true,false,false,false⟩:fC)) (ev:=ku) (m:=([]:List (Int×fC))) (by first|exact .inl rfl|exact .inr rfl) rfl rfl rfl rfl rfl Tryz.runUnderlying245 HS1 rfl (pR.nil) ?_
 intro w2 es1 cl1 HS2 ho1
 refine rs (Value.agg #[vB false,vB false,vB true,vB false,vB false]) (iF (cs:=[vB false,vB false,vB true,vB false,vB false]) (ps:=[(2,vB true)]) Tryz.zeroValue243 Tryz.runUnderlying243 (pl:=#[(0,1),(1,1),(2,1),(3,1),(4,1)]) (fun w=>by simp [Tryz.sizeOf4]) (jZ (show _=vB true from rfl)) rfl) ?_
 refine aI (by simp only [sc0,sc1];rfl) ?_
 refine G9 (mO Tryz.runUnderlying3) (i:=0) (k:=2) (v:=(⟨false,false,true,false,false⟩:fC)) (ev:=ku) (m:=(fJ ieq ([]:List (Int×fC)) 1 (⟨true,true,false,false,false⟩:fC))) (by first|exact .inl rfl|exact .inr rfl) rfl rfl rfl rfl rfl Tryz.runUnderlying245 HS2 rfl ho1 ?_
 intro w3 es2 cl2 HS3 ho2
 refine rs (Value.agg #[vB false,vB false,vB true,vB true,vB false]) (iF (cs:=[vB false,vB false,vB true,vB true,vB false]) (ps:=[(2,vB true),(3,vB true)]) Tryz.zeroValue243 Tryz.runUnderlying243 (pl:=#[(0,1),(1,1),(2,1),(3,1),(4,1)]) (fun w=>by simp [Tryz.sizeOf4]) (nT (show _=vB true from rfl) (show _=vB true from rfl)) rfl) ?_
 refine G9 (mO Tryz.runUnderlying3) (i:=0) (k:=3) (v:=(⟨false,false,true,true,false⟩:fC)) (ev:=ku) (m:=(fJ ieq (fJ ieq ([]:List (Int×fC)) 1 (⟨true,true,false,false,false⟩:fC)) 2 (⟨false,false,true,false,false⟩:fC))) (by first|exact .inl rfl|exact .inr rfl) rfl rfl rfl rfl rfl Tryz.runUnderlying245 HS3 rfl ho2 ?_
 intro w4 es3 cl3 HS4 ho3
 refine rs (Value.agg #[vB true,vB false,vB false,vB true,vB true]) (iF (cs:=[vB true,vB false,vB false,vB true,vB true]) (ps:=[(0,vB true),(3,vB true),(4,vB true)]) Tryz.zeroValue243 Tryz.runUnderlying243 (pl:=#[(0,1),(1,1),(2,1),(3,1),(4,1)]) (fun w=>by simp [Tryz.sizeOf4]) (RU (show _=vB true from rfl) (show _=vB true from rfl) (show _=vB true from rfl)) rfl) ?_
 refine aI (by simp only [sc0,sc1];rfl) ?_
 refine G9 (mO Tryz.runUnderlying3) (i:=0) (k:=4) (v:=(⟨true,false,false,true,true⟩:fC)) (ev:=ku) (m:=(fJ ieq (fJ ieq (fJ ieq ([]:List (Int×fC)) 1 (⟨true,true,false,false,false⟩:fC)) 2 (⟨false,false,true,false,false⟩:fC)) 3 (⟨false,false,true,true,false⟩:fC))) (by first|exact .inl rfl|exact .inr rfl) rfl rfl rfl rfl rfl Tryz.runUnderlying245 HS4 rfl ho3 ?_
 intro w5 es4 cl4 HS5 ho4
 refine rs (Value.agg #[vB true,vB false,vB false,vB false,vB true]) (iF (cs:=[vB true,vB false,vB false,vB false,vB true]) (ps:=[(0,vB true),(4,vB true)]) Tryz.zeroValue243 Tryz.runUnderlying243 (pl:=#[(0,1),(1,1),(2,1),(3,1),(4,1)]) (fun w=>by simp [Tryz.sizeOf4]) (nT (show _=vB true from rfl) (show _=vB true from rfl)) rfl) ?_
 refine G9 (mO Tryz.runUnderlying3) (i:=0) (k:=5) (v:=(⟨true,false,false,false,true⟩:fC)) (ev:=ku) (m:=(fJ ieq (fJ ieq (fJ ieq (fJ ieq ([]:List (Int×fC)) 1 (⟨true,true,false,false,false⟩:fC)) 2 (⟨false,false,true,false,false⟩:fC)) 3 (⟨false,false,true,true,false⟩:fC)) 4 (⟨true,false,false,true,true⟩:fC))) (by first|exact .inl rfl|exact .inr rfl) rfl rfl rfl rfl rfl Tryz.runUnderlying245 HS5 rfl ho4 ?_
 intro w6 es5 cl5 HS6 ho5
 refine rs (Value.agg #[vB true,vB false,vB true,vB false,vB false]) (iF (cs:=[vB true,vB false,vB true,vB false,vB false]) (ps:=[(0,vB true),(2,vB true)]) Tryz.zeroValue243 Tryz.runUnderlying243 (pl:=#[(0,1),(1,1),(2,1),(3,1),(4,1)]) (fun w=>by simp [Tryz.sizeOf4]) (nT (show _=vB true from rfl) (show _=vB true from rfl)) rfl) ?_
 refine aI (by simp only [sc0,sc1];rfl) ?_
 refine G9 (mO Tryz.runUnderlying3) (i:=0) (k:=6) (v:=(⟨true,false,true,false,false⟩:fC)) (ev:=ku) (m:=(fJ ieq (fJ ieq (fJ ieq (fJ ieq (fJ ieq ([]:List (Int×fC)) 1 (⟨true,true,false,false,false⟩:fC)) 2 (⟨false,false,true,false,false⟩:fC)) 3 (⟨false,false,true,true,false⟩:fC)) 4 (⟨true,false,false,true,true⟩:fC)) 5 (⟨true,false,false,false,true⟩:fC))) (by first|exact .inl rfl|exact .inr rfl) rfl rfl rfl rfl rfl Tryz.runUnderlying245 HS6 rfl ho5 ?_
 intro w7 es6 cl6 HS7 ho6
 refine rs (Value.map (some b1)) (aK rfl)<|rs (Value.map (some b1)) (aC rfl) ?_
 try simp only [sc0,sc1]
 refine aB<|aj<|wp_ret ?_
 obtain rfl:=Option.some.inj H
 exact bodyPost_ret (aW rfl (aV rfl)) rfl<|⟨b1,es6,cl6,rfl,HS7.fresh 0 rfl,ho6,HS7.toE⟩
def gV.l0 (a0:ByteArray):Nat→Int→Option ((Bool)⊕(Unit))
 |0,_=>none
 |m+1,aG=>if (decide (aG<((bytesOf a0).length:Int)))=true then (if 0≤aG∧aG<(bytesOf a0).length then (if ((!((((decide ((rd 0 (bytesOf a0) aG)≥97))&&(decide ((rd 0 (bytesOf a0) aG)≤122)))||((decide ((rd 0 (bytesOf a0) aG)≥65))&&(decide ((rd 0 (bytesOf a0) aG)≤90))))||((rd 0 (bytesOf a0) aG)==95)))&&(((aG==0)||(decide ((rd 0 (bytesOf a0) aG)<48)))||(decide ((rd 0 (bytesOf a0) aG)>57))))=true then (some (.inl false)) else (gV.l0 a0 m (IntKind.wrap .i64 (aG+1)))) else none) else (some (.inr ()))
def gV.f (k:Nat) (a0:ByteArray):Option (Bool):=if a0.size≤9223372036854775807 then ((gV.l0 a0 k 0).bind fun xx1=>(match xx1 with| .inl r=>some r| .inr s1=>some ((!(strEq a0 ByteArray.empty))&&(decide ((a0.size:Int)≤31))))) else none
theorem gV.calls (k:Nat) (a0:ByteArray) {h0:View} {w0:World} (hv:jf h0 w0) {r:Bool} (H:gV.f k a0=some r):Calls Tryz.prog 157 #[vS a0] w0 (fun e w1=>e= .returned (vB r)∧Ext w0 w1):=by
 unfold gV.f at H
 have HS:St [] h0 w0 h0 [] w0:=St.init hv
 go_enter Tryz.func157,Tryz.ntmps157
 refine wp_seq<|region<|rs (vB false) (aC rfl) ?_
 try simp only [sc0,sc1]
 refine aB<|aj<|wp_seq<|wp_seq<|region<|rs (vS a0) (aK rfl) ?_
 obtain ⟨hl1,H⟩:=fE H
 refine RZ (s:=a0) rfl Tryz.runUnderlying9 Tryz.runUnderlying42 Tryz.runUnderlying5 hl1 HS ?_
 intro w1 h1 As1 cs1 HS1 sb1 hcs1 ZA
 refine rs (vI ((bytesOf a0).length:Int)) (iT rfl Tryz.runUnderlying42)<|rs (vI 0) (aK rfl) ?_
 try simp only [sc0,sc1]
 refine aB<|aj ?_
 obtain ⟨xx1,H,G1⟩:=bJ H
 refine iW [2,3,4,5,9,10,11,12,13,14,15,16,17,18,19,20,21,22,23,24,25,26,27,28,29,30,31,32,33,34,35,36,37,38,39,40,41,42,43,44,45,46] (fun m us w'=>∃(aG:Int),Fit us (fun uy1=>[(uy1 0),(uy1 1),(uy1 2),(uy1 3),vI aG,(uy1 5),(uy1 6),(uy1 7),(uy1 8),(uy1 9),(uy1 10),(uy1 11),(uy1 12),(uy1 13),(uy1 14),(uy1 15),(uy1 16),(uy1 17),(uy1 18),(uy1 19),(uy1 20),(uy1 21),(uy1 22),(uy1 23),(uy1 24),(uy1 25),(uy1 26),(uy1 27),(uy1 28),(uy1 29),(uy1 30),(uy1 31),(uy1 32),(uy1 33),(uy1 34),(uy1 35),(uy1 36),(uy1 37),(uy1 38),(uy1 39),(uy1 40),(uy1 41)])∧gV.l0 a0 m aG=some xx1∧St [] h0 w0 h1 [] w') (fun us w'=>∃(s1:Unit),xx1= .inr s1∧Fit us (fun uo1=>[(uo1 0),(uo1 1),(uo1 2),(uo1 3),(uo1 4),(uo1 5),(uo1 6),(uo1 7),(uo1 8),(uo1 9),(uo1 10),(uo1 11),(uo1 12),(uo1 13),(uo1 14),(uo1 15),(uo1 16),(uo1 17),(uo1 18),(uo1 19),(uo1 20),(uo1 21),(uo1 22),(uo1 23),(uo1 24),(uo1 25),(uo1 26),(uo1 27),(uo1 28),(uo1 29),(uo1 30),(uo1 31),(uo1 32),(uo1 33),(uo1 34),(uo1 35),(uo1 36),(uo1 37),(uo1 38),(uo1 39),(uo1 40),(uo1 41)])∧St [] h0 w0 h1 [] w') k ⟨0,(fit rfl),H,HS1⟩ ?_ ?_
 ·rintro m us w2 ⟨aG,lZ,H,HS2⟩
  obtain ⟨uy1,rfl⟩:=unj lZ
  cases m with
  |zero=>exact absurd H (by simp [gV.l0])
  |succ m=>
   rw [gV.l0] at H
   try simp only [patch,sc0,sc1]
   refine wp_seq<|region<|rs (vB (decide (aG<((bytesOf a0).length:Int)))) (bK rfl rfl rfl) ?_
   try simp only [sc0,sc1]
   refine aB<|aj<|wp_seq<|wp_cond_split (t:=(decide (aG<((bytesOf a0).length:Int)))) rfl (fun c1=>?_) (fun c1=>?_)
   ·replace H:=bU H c1
    refine wp_skip<|aj<|wp_seq<|wp_block<|wp_seq<|region<|rs (vI aG) (aK rfl) ?_
    obtain ⟨hi1,H⟩:=fE H
    obtain ⟨ad1,e1,kX⟩:=oU ZA hi1.1 hi1.2
    refine rs (Value.pointer (some (Addr.add ad1 (aG.toNat*1)))) (dQ (sz:=1) rfl e1 rfl hi1.1 hi1.2 Tryz.runUnderlying42 Tryz.sizeOf5)<|rs (Value.int .u8 (rd 0 (bytesOf a0) aG)) (jF rfl Tryz.isAgg5 (kX.cell0 HS2.sees rfl))<|rs (vI aG) (aC rfl)<|aI (by simp only [sc0,sc1];rfl) ?_
    refine rs (Value.int .u8 (rd 0 (bytesOf a0) aG)) (aC rfl) ?_
    try simp only [sc0,sc1]
    refine aB<|aj<|wp_seq<|region<|rs (Value.int .u8 (rd 0 (bytesOf a0) aG)) (aK rfl)<|rs (vB (decide ((rd 0 (bytesOf a0) aG)≥97))) (bK rfl rfl rfl)<|rs (vB (decide ((rd 0 (bytesOf a0) aG)≥97))) (aK rfl)<|rgs (decide ((rd 0 (bytesOf a0) aG)≥97)) true (Value.int .u8 (rd 0 (bytesOf a0) aG)) rfl rfl rfl rfl (fun hg=>(aK rfl))<|aI (by simp only [sc0,sc1];rfl) ?_
    refine rgs (decide ((rd 0 (bytesOf a0) aG)≥97)) true (vB (decide ((rd 0 (bytesOf a0) aG)≤122))) rfl rfl rfl rfl (fun hg=>(bK (gvt (Value.int .u8 (rd 0 (bytesOf a0) aG)) hg rfl) rfl rfl))<|rs (vB ((decide ((rd 0 (bytesOf a0) aG)≥97))&&(decide ((rd 0 (bytesOf a0) aG)≤122)))) (dw rfl (fun hp=>(gvt (vB (decide ((rd 0 (bytesOf a0) aG)≤122))) (gu rfl hp) rfl)) rfl)<|rs (vB ((decide ((rd 0 (bytesOf a0) aG)≥97))&&(decide ((rd 0 (bytesOf a0) aG)≤122)))) (aK rfl)<|rgs ((decide ((rd 0 (bytesOf a0) aG)≥97))&&(decide ((rd 0 (bytesOf a0) aG)≤122))) true (Value.int .u8 (rd 0 (bytesOf a0) aG)) rfl rfl rfl rfl (fun hg=>(aK rfl))<|aI (by simp only [sc0,sc1];rfl) ?_
    refine rgs ((decide ((rd 0 (bytesOf a0) aG)≥97))&&(decide ((rd 0 (bytesOf a0) aG)≤122))) true (vB (decide ((rd 0 (bytesOf a0) aG)≥65))) rfl rfl rfl rfl (fun hg=>(bK (gvt (Value.int .u8 (rd 0 (bytesOf a0) aG)) hg rfl) rfl rfl))<|rgs ((decide ((rd 0 (bytesOf a0) aG)≥97))&&(decide ((rd 0 (bytesOf a0) aG)≤122))) true (vB (decide ((rd 0 (bytesOf a0) aG)≥65))) rfl rfl rfl rfl (fun hg=>(aK (gvt (vB (decide ((rd 0 (bytesOf a0) aG)≥65))) hg rfl)))<|rgs (decide ((rd 0 (bytesOf a0) aG)≥65)) (true&&(((decide ((rd 0 (bytesOf a0) aG)≥97))&&(decide ((rd 0 (bytesOf a0) aG)≤122)))==false)) (Value.int .u8 (rd 0 (bytesOf a0) aG)) rfl rfl rfl rfl (fun hg=>(aK rfl))<|rgs (decide ((rd 0 (bytesOf a0) aG)≥65)) (true&&(((decide ((rd 0 (bytesOf a0) aG)≥97))&&(decide ((rd 0 (bytesOf a0) aG)≤122)))==false)) (vB (decide ((rd 0 (bytesOf a0) aG)≤90))) rfl rfl rfl rfl (fun hg=>(bK (gvt (Value.int .u8 (rd 0 (bytesOf a0) aG)) hg rfl) rfl rfl))<|aI (by simp only [sc0,sc1];rfl) ?_
    refine rgs ((decide ((rd 0 (bytesOf a0) aG)≥97))&&(decide ((rd 0 (bytesOf a0) aG)≤122))) true (vB ((decide ((rd 0 (bytesOf a0) aG)≥65))&&(decide ((rd 0 (bytesOf a0) aG)≤90)))) rfl rfl rfl rfl (fun hg=>(dw (gvt (vB (decide ((rd 0 (bytesOf a0) aG)≥65))) hg rfl) (fun hp=>(gvt (vB (decide ((rd 0 (bytesOf a0) aG)≤90))) (gu hg hp) rfl)) rfl))<|rs (vB (((decide ((rd 0 (bytesOf a0) aG)≥97))&&(decide ((rd 0 (bytesOf a0) aG)≤122)))||((decide ((rd 0 (bytesOf a0) aG)≥65))&&(decide ((rd 0 (bytesOf a0) aG)≤90))))) (dV rfl rfl (fun hp=>(gvt (vB ((decide ((rd 0 (bytesOf a0) aG)≥65))&&(decide ((rd 0 (bytesOf a0) aG)≤90)))) (gu rfl hp) rfl)))<|rs (vB (((decide ((rd 0 (bytesOf a0) aG)≥97))&&(decide ((rd 0 (bytesOf a0) aG)≤122)))||((decide ((rd 0 (bytesOf a0) aG)≥65))&&(decide ((rd 0 (bytesOf a0) aG)≤90))))) (aK rfl)<|rgs (((decide ((rd 0 (bytesOf a0) aG)≥97))&&(decide ((rd 0 (bytesOf a0) aG)≤122)))||((decide ((rd 0 (bytesOf a0) aG)≥65))&&(decide ((rd 0 (bytesOf a0) aG)≤90)))) true (Value.int .u8 (rd 0 (bytesOf a0) aG)) rfl rfl rfl rfl (fun hg=>(aK rfl))<|aI (by simp only [sc0,sc1];rfl) ?_
    refine rgs (((decide ((rd 0 (bytesOf a0) aG)≥97))&&(decide ((rd 0 (bytesOf a0) aG)≤122)))||((decide ((rd 0 (bytesOf a0) aG)≥65))&&(decide ((rd 0 (bytesOf a0) aG)≤90)))) true (vB ((rd 0 (bytesOf a0) aG)==95)) rfl rfl rfl rfl (fun hg=>(bK (gvt (Value.int .u8 (rd 0 (bytesOf a0) aG)) hg rfl) rfl rfl))<|rs (vB ((((decide ((rd 0 (bytesOf a0) aG)≥97))&&(decide ((rd 0 (bytesOf a0) aG)≤122)))||((decide ((rd 0 (bytesOf a0) aG)≥65))&&(decide ((rd 0 (bytesOf a0) aG)≤90))))||((rd 0 (bytesOf a0) aG)==95))) (dV rfl rfl (fun hp=>(gvt (vB ((rd 0 (bytesOf a0) aG)==95)) (gu rfl hp) rfl)))<|rs (vB ((((decide ((rd 0 (bytesOf a0) aG)≥97))&&(decide ((rd 0 (bytesOf a0) aG)≤122)))||((decide ((rd 0 (bytesOf a0) aG)≥65))&&(decide ((rd 0 (bytesOf a0) aG)≤90))))||((rd 0 (bytesOf a0) aG)==95))) (aC rfl) ?_
    try simp only [sc0,sc1]
    refine aB<|aj<|wp_seq<|region<|rs (vB ((((decide ((rd 0 (bytesOf a0) aG)≥97))&&(decide ((rd 0 (bytesOf a0) aG)≤122)))||((decide ((rd 0 (bytesOf a0) aG)≥65))&&(decide ((rd 0 (bytesOf a0) aG)≤90))))||((rd 0 (bytesOf a0) aG)==95))) (aK rfl)<|rs (vB (!((((decide ((rd 0 (bytesOf a0) aG)≥97))&&(decide ((rd 0 (bytesOf a0) aG)≤122)))||((decide ((rd 0 (bytesOf a0) aG)≥65))&&(decide ((rd 0 (bytesOf a0) aG)≤90))))||((rd 0 (bytesOf a0) aG)==95)))) (kN rfl)<|rs (vB (!((((decide ((rd 0 (bytesOf a0) aG)≥97))&&(decide ((rd 0 (bytesOf a0) aG)≤122)))||((decide ((rd 0 (bytesOf a0) aG)≥65))&&(decide ((rd 0 (bytesOf a0) aG)≤90))))||((rd 0 (bytesOf a0) aG)==95)))) (aK rfl)<|rgs (!((((decide ((rd 0 (bytesOf a0) aG)≥97))&&(decide ((rd 0 (bytesOf a0) aG)≤122)))||((decide ((rd 0 (bytesOf a0) aG)≥65))&&(decide ((rd 0 (bytesOf a0) aG)≤90))))||((rd 0 (bytesOf a0) aG)==95))) true (vI aG) rfl rfl rfl rfl (fun hg=>(aK rfl))<|aI (by simp only [sc0,sc1];rfl) ?_
    refine rgs (!((((decide ((rd 0 (bytesOf a0) aG)≥97))&&(decide ((rd 0 (bytesOf a0) aG)≤122)))||((decide ((rd 0 (bytesOf a0) aG)≥65))&&(decide ((rd 0 (bytesOf a0) aG)≤90))))||((rd 0 (bytesOf a0) aG)==95))) true (vB (aG==0)) rfl rfl rfl rfl (fun hg=>(bK (gvt (vI aG) hg rfl) rfl rfl))<|rgs (!((((decide ((rd 0 (bytesOf a0) aG)≥97))&&(decide ((rd 0 (bytesOf a0) aG)≤122)))||((decide ((rd 0 (bytesOf a0) aG)≥65))&&(decide ((rd 0 (bytesOf a0) aG)≤90))))||((rd 0 (bytesOf a0) aG)==95))) true (vB (aG==0)) rfl rfl rfl rfl (fun hg=>(aK (gvt (vB (aG==0)) hg rfl)))<|rgs (aG==0) (true&&((!((((decide ((rd 0 (bytesOf a0) aG)≥97))&&(decide ((rd 0 (bytesOf a0) aG)≤122)))||((decide ((rd 0 (bytesOf a0) aG)≥65))&&(decide ((rd 0 (bytesOf a0) aG)≤90))))||((rd 0 (bytesOf a0) aG)==95)))==true)) (Value.int .u8 (rd 0 (bytesOf a0) aG)) rfl rfl rfl rfl (fun hg=>(aK rfl))<|rgs (aG==0) (true&&((!((((decide ((rd 0 (bytesOf a0) aG)≥97))&&(decide ((rd 0 (bytesOf a0) aG)≤122)))||((decide ((rd 0 (bytesOf a0) aG)≥65))&&(decide ((rd 0 (bytesOf a0) aG)≤90))))||((rd 0 (bytesOf a0) aG)==95)))==true)) (vB (decide ((rd 0 (bytesOf a0) aG)<48))) rfl rfl rfl rfl (fun hg=>(bK (gvt (Value.int .u8 (rd 0 (bytesOf a0) aG)) hg rfl) rfl rfl))<|aI (by simp only [sc0,sc1];rfl) ?_
    refine rgs (!((((decide ((rd 0 (bytesOf a0) aG)≥97))&&(decide ((rd 0 (bytesOf a0) aG)≤122)))||((decide ((rd 0 (bytesOf a0) aG)≥65))&&(decide ((rd 0 (bytesOf a0) aG)≤90))))||((rd 0 (bytesOf a0) aG)==95))) true (vB ((aG==0)||(decide ((rd 0 (bytesOf a0) aG)<48)))) rfl rfl rfl rfl (fun hg=>(dV (gvt (vB (aG==0)) hg rfl) rfl (fun hp=>(gvt (vB (decide ((rd 0 (bytesOf a0) aG)<48))) (gu hg hp) rfl))))<|rgs (!((((decide ((rd 0 (bytesOf a0) aG)≥97))&&(decide ((rd 0 (bytesOf a0) aG)≤122)))||((decide ((rd 0 (bytesOf a0) aG)≥65))&&(decide ((rd 0 (bytesOf a0) aG)≤90))))||((rd 0 (bytesOf a0) aG)==95))) true (vB ((aG==0)||(decide ((rd 0 (bytesOf a0) aG)<48)))) rfl rfl rfl rfl (fun hg=>(aK (gvt (vB ((aG==0)||(decide ((rd 0 (bytesOf a0) aG)<48)))) hg rfl)))<|rgs ((aG==0)||(decide ((rd 0 (bytesOf a0) aG)<48))) (true&&((!((((decide ((rd 0 (bytesOf a0) aG)≥97))&&(decide ((rd 0 (bytesOf a0) aG)≤122)))||((decide ((rd 0 (bytesOf a0) aG)≥65))&&(decide ((rd 0 (bytesOf a0) aG)≤90))))||((rd 0 (bytesOf a0) aG)==95)))==true)) (Value.int .u8 (rd 0 (bytesOf a0) aG)) rfl rfl rfl rfl (fun hg=>(aK rfl))<|rgs ((aG==0)||(decide ((rd 0 (bytesOf a0) aG)<48))) (true&&((!((((decide ((rd 0 (bytesOf a0) aG)≥97))&&(decide ((rd 0 (bytesOf a0) aG)≤122)))||((decide ((rd 0 (bytesOf a0) aG)≥65))&&(decide ((rd 0 (bytesOf a0) aG)≤90))))||((rd 0 (bytesOf a0) aG)==95)))==true)) (vB (decide ((rd 0 (bytesOf a0) aG)>57))) rfl rfl rfl rfl (fun hg=>(bK (gvt (Value.int .u8 (rd 0 (bytesOf a0) aG)) hg rfl) rfl rfl))<|aI (by simp only [sc0,sc1];rfl) ?_
    refine rgs (!((((decide ((rd 0 (bytesOf a0) aG)≥97))&&(decide ((rd 0 (bytesOf a0) aG)≤122)))||((decide ((rd 0 (bytesOf a0) aG)≥65))&&(decide ((rd 0 (bytesOf a0) aG)≤90))))||((rd 0 (bytesOf a0) aG)==95))) true (vB (((aG==0)||(decide ((rd 0 (bytesOf a0) aG)<48)))||(decide ((rd 0 (bytesOf a0) aG)>57)))) rfl rfl rfl rfl (fun hg=>(dV (gvt (vB ((aG==0)||(decide ((rd 0 (bytesOf a0) aG)<48)))) hg rfl) rfl (fun hp=>(gvt (vB (decide ((rd 0 (bytesOf a0) aG)>57))) (gu hg hp) rfl))))<|rs (vB ((!((((decide ((rd 0 (bytesOf a0) aG)≥97))&&(decide ((rd 0 (bytesOf a0) aG)≤122)))||((decide ((rd 0 (bytesOf a0) aG)≥65))&&(decide ((rd 0 (bytesOf a0) aG)≤90))))||((rd 0 (bytesOf a0) aG)==95)))&&(((aG==0)||(decide ((rd 0 (bytesOf a0) aG)<48)))||(decide ((rd 0 (bytesOf a0) aG)>57))))) (dw rfl (fun hp=>(gvt (vB (((aG==0)||(decide ((rd 0 (bytesOf a0) aG)<48)))||(decide ((rd 0 (bytesOf a0) aG)>57)))) (gu rfl hp) rfl)) rfl) ?_
    try simp only [sc0,sc1]
    refine aB<|aj<|wp_cond_split (t:=((!((((decide ((rd 0 (bytesOf a0) aG)≥97))&&(decide ((rd 0 (bytesOf a0) aG)≤122)))||((decide ((rd 0 (bytesOf a0) aG)≥65))&&(decide ((rd 0 (bytesOf a0) aG)≤90))))||((rd 0 (bytesOf a0) aG)==95)))&&(((aG==0)||(decide ((rd 0 (bytesOf a0) aG)<48)))||(decide ((rd 0 (bytesOf a0) aG)>57))))) rfl (fun c2=>?_) (fun c2=>?_)
    ·replace H:=bU H c2
     refine wp_seq<|region<|rs (vB false) (aC rfl) ?_
     try simp only [sc0,sc1]
     refine aB<|aj<|wp_ret<|dn<|aX<|gW<|aX ?_
     obtain rfl:=Option.some.inj H
     obtain rfl:=Option.some.inj G1
     exact bodyPost_ret (aW rfl (aV rfl)) rfl<|⟨rfl,HS2.toE⟩
    ·replace H:=bZ H (nt c2)
     refine wp_skip<|dB<|aj<|region<|rs (vI (w64 (aG+1))) (bK rfl rfl rfl)<|rs (vI (w64 (aG+1))) (aK rfl) ?_
     try simp only [sc0,sc1]
     refine aB<|gX m (Nat.lt_succ_self m) rfl ⟨(w64 (aG+1)),(fit rfl),H,HS2⟩
   ·replace H:=bZ H (nt c1)
    refine wp_exit<|fF ?_
    obtain rfl:=Option.some.inj H
    refine iw rfl ⟨_,rfl,(fit rfl),HS2⟩
 ·rintro us w3 ⟨s1,rfl,l7,HS3⟩
  obtain ⟨uo1,rfl⟩:=unj l7
  replace H:=G1
  clear G1
  try simp only [patch,sc0,sc1]
  refine aj<|wp_seq<|region<|rs (vS a0) (aK rfl)<|rs (vB (!(strEq a0 ByteArray.empty))) (Ci rfl rfl)<|rs (vB (!(strEq a0 ByteArray.empty))) (aK rfl)<|rgs (!(strEq a0 ByteArray.empty)) true (vS a0) rfl rfl rfl rfl (fun hg=>(aK rfl))<|aI (by simp only [sc0,sc1];rfl) ?_
  refine rgs (!(strEq a0 ByteArray.empty)) true (vI (a0.size:Int)) rfl rfl rfl rfl (fun hg=>(xQ (gvt (vS a0) hg rfl) Tryz.runUnderlying9))<|rgs (!(strEq a0 ByteArray.empty)) true (vB (decide ((a0.size:Int)≤31))) rfl rfl rfl rfl (fun hg=>(bK (gvt (vI (a0.size:Int)) hg rfl) rfl rfl))<|rs (vB ((!(strEq a0 ByteArray.empty))&&(decide ((a0.size:Int)≤31)))) (dw rfl (fun hp=>(gvt (vB (decide ((a0.size:Int)≤31))) (gu rfl hp) rfl)) rfl)<|rs (vB ((!(strEq a0 ByteArray.empty))&&(decide ((a0.size:Int)≤31)))) (aC rfl) ?_
  try simp only [sc0,sc1]
  refine aB<|aj<|wp_ret ?_
  obtain rfl:=Option.some.inj H
  exact bodyPost_ret (aW rfl (aV rfl)) rfl<|⟨rfl,HS3.toE⟩
def gB.l0 (k:Nat) (a0:bV) (a1:Int):Nat→Int→(List (ByteArray×Bool))→Option ((Bool)⊕((List (ByteArray×Bool))))
 |0,_,_=>none
 |m+1,aG,bH=>if (decide (aG<(a0.au.length:Int)))=true then (if 0≤aG∧aG<a0.au.length then ((gV.f k ((rd ak a0.au aG).aU)).bind fun v4=>(if ((!v4)||((bM strEq bH ((rd ak a0.au aG).aU)).getD false))=true then (some (.inl false)) else (if (((a0.aF==5)&&((((rd ak a0.au aG).vType !=0)||(decide ((rd ak a0.au aG).vAt<(-2147483648))))||(decide ((rd ak a0.au aG).vAt>2147483647))))||((a0.aF==4)&&((decide ((rd ak a0.au aG).vType<0))||(decide ((rd ak a0.au aG).vType≥a1)))))=true then (some (.inl false)) else (gB.l0 k a0 a1 m (IntKind.wrap .i64 (aG+1)) (fJ strEq bH ((rd ak a0.au aG).aU) true))))) else none) else (some (.inr bH))
def gB.f (k:Nat) (a0:bV) (a1:Int):Option (Bool):=(oD.f).bind fun v1=>(((if (!((bM ieq v1 a0.aF).isSome))=true then (some (!((bM ieq v1 a0.aF).isSome))) else ((if (true&&(((bM ieq v1 a0.aF).getD aJ).jX==true))=true then gV.f k a0.aU else some false).bind fun v2=>(if (((bM ieq v1 a0.aF).getD aJ).jX&&(!v2))=true then (some (((bM ieq v1 a0.aF).getD aJ).jX&&(!v2))) else (some ((!(((bM ieq v1 a0.aF).getD aJ).jX))&&(!(strEq a0.aU ByteArray.empty))))))):Option (Bool)).bind fun xx1=>(if xx1=true then (some false) else ((if (true&&(((bM ieq v1 a0.aF).getD aJ).ql==true))=true then kL.f a0.bW else some 0).bind fun v3=>(((if (((bM ieq v1 a0.aF).getD aJ).ql&&(v3 !=0))=true then (some (((bM ieq v1 a0.aF).getD aJ).ql&&(v3 !=0))) else (some ((!(((bM ieq v1 a0.aF).getD aJ).ql))&&(!((a0.bW.aS==0)&&((a0.bW.aO==false)&&true)))))):Option (Bool)).bind fun xx2=>(if xx2=true then (some false) else (((if (((bM ieq v1 a0.aF).getD aJ).o9&&((decide (a0.dY<0))||(decide (a0.dY≥a1))))=true then (some (((bM ieq v1 a0.aF).getD aJ).o9&&((decide (a0.dY<0))||(decide (a0.dY≥a1))))) else (some ((!(((bM ieq v1 a0.aF).getD aJ).o9))&&(a0.dY !=0)))):Option (Bool)).bind fun xx3=>(if xx3=true then (some false) else (((if (((bM ieq v1 a0.aF).getD aJ).vn&&((decide (a0.vN<1))||(decide (a0.vN>512))))=true then (some (((bM ieq v1 a0.aF).getD aJ).vn&&((decide (a0.vN<1))||(decide (a0.vN>512))))) else (some ((!(((bM ieq v1 a0.aF).getD aJ).vn))&&(a0.vN !=0)))):Option (Bool)).bind fun xx4=>(if xx4=true then (some false) else (((if (((bM ieq v1 a0.aF).getD aJ).jw !=(decide ((a0.au.length:Int)>0)))=true then (some (((bM ieq v1 a0.aF).getD aJ).jw !=(decide ((a0.au.length:Int)>0)))) else (some (decide ((a0.au.length:Int)>32)))):Option (Bool)).bind fun xx5=>(if xx5=true then (some false) else ((gB.l0 k a0 a1 k 0 ([]:List (ByteArray×Bool))).bind fun xx6=>(match xx6 with| .inl r=>some r| .inr s1=>some true)))))))))))))
theorem gB.calls (k:Nat) (a0:bV) (a1:Int) (jU:Option Addr) (jV:Nat) {h0:View} {w0:World} (hv:jf h0 w0) (qM:Rd fM h0 jU a0.au) (uZ:a0.au.length≤jV) {r:Bool} (H:gB.f k a0 a1=some r):Calls Tryz.prog 115 #[Value.agg #[vI a0.aF,vS a0.aU,vI a0.bW.aS,vB a0.bW.aO,vI a0.dY,vI a0.vN,vL jU a0.au.length jV],vI a1] w0 (fun e w1=>e= .returned (vB r)∧Ext w0 w1):=by
 unfold gB.f at H
 have HS:St [] h0 w0 h0 [] w0:=St.init hv
 go_enter Tryz.func115,Tryz.ntmps115
 refine wp_seq<|region<|dK rfl rfl (dH (cs:=#[vI a0.aF,vS a0.aU,vI a0.bW.aS,vB a0.bW.aO,vI a0.dY,vI a0.vN,vL jU a0.au.length jV]) rfl rfl) ?_
 rintro w1 _ hE1 ⟨b1,rfl,ge1,hb1⟩
 have HS1:=HS.new hE1 ge1 hb1
 refine rs (vB false) (aC rfl) ?_
 try simp only [sc0,sc1]
 refine aB<|aj<|wp_seq ?_
 obtain ⟨v1,H1,H⟩:=bJ H
 refine IX [.ex (Ak w1 (vI) ku v1), .eq (vP b1 0), .eq (vI a0.aF), .eq (Value.tuple #[Value.agg #[vB (((bM ieq v1 a0.aF).getD aJ).jX),vB (((bM ieq v1 a0.aF).getD aJ).ql),vB (((bM ieq v1 a0.aF).getD aJ).o9),vB (((bM ieq v1 a0.aF).getD aJ).vn),vB (((bM ieq v1 a0.aF).getD aJ).jw)],vB ((bM ieq v1 a0.aF).isSome)]), .eq (Value.tuple #[Value.agg #[vB (((bM ieq v1 a0.aF).getD aJ).jX),vB (((bM ieq v1 a0.aF).getD aJ).ql),vB (((bM ieq v1 a0.aF).getD aJ).o9),vB (((bM ieq v1 a0.aF).getD aJ).vn),vB (((bM ieq v1 a0.aF).getD aJ).jw)],vB ((bM ieq v1 a0.aF).isSome)]), .eq (Value.agg #[vB (((bM ieq v1 a0.aF).getD aJ).jX),vB (((bM ieq v1 a0.aF).getD aJ).ql),vB (((bM ieq v1 a0.aF).getD aJ).o9),vB (((bM ieq v1 a0.aF).getD aJ).vn),vB (((bM ieq v1 a0.aF).getD aJ).jw)]), .eq (vB ((bM ieq v1 a0.aF).isSome)), .ex (oV w1 #[vB false,vB false,vB false,vB false,vB false] 243)] [11,12,13,14,10,15,16,5] 6 16 (vB ((bM ieq v1 a0.aF).isSome)) _ _ nD (by kernel_rfl) rfl rfl rfl rfl rfl (pO Ak.stable (bn (bn (bn (bn (bn (bn (pO oV.stable jh)))))))) ⟨bI rfl (fun a' w' hE hk=>by have HSd:=HS1.step hE;exact lT Tryz.call156 rfl (U0 hE (oD.calls HSd.sees H1)) rfl),bI rfl (fun a' w' hE hk=>by have HSd:=HS1.step hE;exact cu (aH (n:=1) (o':=0) (show _=vP b1 0 from hk 2 rfl) Tryz.runUnderlying56 rfl Tryz.sizeOf3 (by decide) rfl)),bI rfl (fun a' w' hE hk=>by have HSd:=HS1.step hE;exact cu (aN (show _=vP b1 0 from hk 12 rfl) Tryz.isAgg3 (HSd.look 0 rfl) rfl)),bI rfl (fun a' w' hE hk=>by obtain ⟨_,_,_,e11,_,ZB,ZC⟩:=hk 11 rfl;have HSd:=HS1.step hE;exact cu (RY (mO Tryz.runUnderlying3) (k:=a0.aF) (m:=v1) (ev:=ku) aJ e11 (show _=vI a0.aF from hk 13 rfl) Tryz.runUnderlying245 Tryz.zeroValue243 ZB ZC)),bI rfl (fun a' w' hE hk=>by have HSd:=HS1.step hE;exact cu (aK (show _=Value.tuple #[Value.agg #[vB (((bM ieq v1 a0.aF).getD aJ).jX),vB (((bM ieq v1 a0.aF).getD aJ).ql),vB (((bM ieq v1 a0.aF).getD aJ).o9),vB (((bM ieq v1 a0.aF).getD aJ).vn),vB (((bM ieq v1 a0.aF).getD aJ).jw)],vB ((bM ieq v1 a0.aF).isSome)] from hk 14 rfl))),bI rfl (fun a' w' hE hk=>by have HSd:=HS1.step hE;exact cu (eU (show _=Value.tuple #[Value.agg #[vB (((bM ieq v1 a0.aF).getD aJ).jX),vB (((bM ieq v1 a0.aF).getD aJ).ql),vB (((bM ieq v1 a0.aF).getD aJ).o9),vB (((bM ieq v1 a0.aF).getD aJ).vn),vB (((bM ieq v1 a0.aF).getD aJ).jw)],vB ((bM ieq v1 a0.aF).isSome)] from hk 10 rfl) rfl)),bI rfl (fun a' w' hE hk=>by have HSd:=HS1.step hE;exact cu (eU (show _=Value.tuple #[Value.agg #[vB (((bM ieq v1 a0.aF).getD aJ).jX),vB (((bM ieq v1 a0.aF).getD aJ).ql),vB (((bM ieq v1 a0.aF).getD aJ).o9),vB (((bM ieq v1 a0.aF).getD aJ).vn),vB (((bM ieq v1 a0.aF).getD aJ).jw)],vB ((bM ieq v1 a0.aF).isSome)] from hk 10 rfl) rfl)),bI rfl (fun a' w' hE hk=>(uG hE (cs:=#[vB false,vB false,vB false,vB false,vB false]) Tryz.zeroValue243 rfl)),trivial⟩ ?_
 intro w2 hE2
 simp only [List.zip_cons_cons,List.zip_nil_left,List.zip_nil_right,yh,sc0,sc1,List.length_cons,List.length_nil,List.drop_succ_cons,List.drop_zero,Nat.zero_add,Nat.reduceAdd]
 rintro _ ⟨b3,es1,cl1,rfl,ge3,hb3,ho1⟩
 rintro _ ⟨b2,rfl,ge2,hb2⟩
 have HS2:=HS1.two hE2 ge3 hb3 ge2 hb2 (fun e=>by subst e;rw [hb3] at hb2;cases hb2)
 refine Sj (i:=0) (cs:=[vB false,vB false,vB false,vB false,vB false]) (cs':=[vB (((bM ieq v1 a0.aF).getD aJ).jX),vB (((bM ieq v1 a0.aF).getD aJ).ql),vB (((bM ieq v1 a0.aF).getD aJ).o9),vB (((bM ieq v1 a0.aF).getD aJ).vn),vB (((bM ieq v1 a0.aF).getD aJ).jw)]) (vs:=[vB (((bM ieq v1 a0.aF).getD aJ).jX),vB (((bM ieq v1 a0.aF).getD aJ).ql),vB (((bM ieq v1 a0.aF).getD aJ).o9),vB (((bM ieq v1 a0.aF).getD aJ).vn),vB (((bM ieq v1 a0.aF).getD aJ).jw)]) (bs':=[(some b2, .cells #[vB (((bM ieq v1 a0.aF).getD aJ).jX),vB (((bM ieq v1 a0.aF).getD aJ).ql),vB (((bM ieq v1 a0.aF).getD aJ).o9),vB (((bM ieq v1 a0.aF).getD aJ).vn),vB (((bM ieq v1 a0.aF).getD aJ).jw)] 243 (0,0)),(some b3, .map es1 cl1),(some b1, .cells #[vI a0.aF,vS a0.aU,vI a0.bW.aS,vB a0.bW.aO,vI a0.dY,vI a0.vN,vL jU a0.au.length jV] 56 (0,0))]) (fun _=>rfl) (fun _=>rfl) Tryz.sizeOf243 rfl rfl (by decide) rfl HS2 rfl (Nat.le_of_ble_eq_true rfl) rfl rfl rfl (Nat.le_of_ble_eq_true rfl) (fun w2 HSl u=>(eU rfl rfl)) rfl ?_
 intro w3 HS3
 refine rs (vB ((bM ieq v1 a0.aF).isSome)) (aC rfl) ?_
 try simp only [sc0,sc1]
 refine aB<|aj<|wp_seq<|wp_block<|wp_seq<|wp_seq<|region<|rs (vB ((bM ieq v1 a0.aF).isSome)) (aK rfl)<|rs (vB (!((bM ieq v1 a0.aF).isSome))) (kN rfl)<|rs (vB (!((bM ieq v1 a0.aF).isSome))) (aC rfl) ?_
 try simp only [sc0,sc1]
 refine aB<|aj ?_
 obtain ⟨xx1,H,G1⟩:=bJ H
 refine lU [17,20,21,22,23,24,25,26,27,28,29,30,31,32,33,34,35] (fun us w'=>Fit us (fun uj1=>[vB xx1,(uj1 1),(uj1 2),(uj1 3),(uj1 4),(uj1 5),(uj1 6),(uj1 7),(uj1 8),(uj1 9),(uj1 10),(uj1 11),(uj1 12),(uj1 13),(uj1 14),(uj1 15),(uj1 16)])∧St [] h0 w0 h0 [(some b2, .cells #[vB (((bM ieq v1 a0.aF).getD aJ).jX),vB (((bM ieq v1 a0.aF).getD aJ).ql),vB (((bM ieq v1 a0.aF).getD aJ).o9),vB (((bM ieq v1 a0.aF).getD aJ).vn),vB (((bM ieq v1 a0.aF).getD aJ).jw)] 243 (0,0)),(some b3, .map es1 cl1),(some b1, .cells #[vI a0.aF,vS a0.aU,vI a0.bW.aS,vB a0.bW.aO,vI a0.dY,vI a0.vN,vL jU a0.au.length jV] 56 (0,0))] w') ?_ ?_
 ·refine wp_cond_split (t:=(!((bM ieq v1 a0.aF).isSome))) rfl (fun c1=>?_) (fun c1=>?_)
  ·replace H:=bU H c1
   refine wp_skip ?_
   obtain rfl:=Option.some.inj H
   refine pz rfl ⟨(fit rfl),HS3⟩
  ·replace H:=bZ H (nt c1)
   refine wp_seq<|region<|rs (vP b2 0) (aH (n:=1) (o':=0) rfl Tryz.runUnderlying243 rfl Tryz.sizeOf4 (by decide) rfl)<|rs (vB (((bM ieq v1 a0.aF).getD aJ).jX)) (aN rfl Tryz.isAgg4 (HS3.look 0 rfl) rfl)<|rs (vB (((bM ieq v1 a0.aF).getD aJ).jX)) (aK rfl)<|rgs (((bM ieq v1 a0.aF).getD aJ).jX) true (vP b1 1) rfl rfl rfl rfl (fun hg=>(aH (n:=1) (o':=1) rfl Tryz.runUnderlying56 rfl Tryz.sizeOf9 (by decide) rfl))<|aI (by simp only [sc0,sc1];rfl) ?_
   refine rgs (((bM ieq v1 a0.aF).getD aJ).jX) true (vS a0.aU) rfl rfl rfl rfl (fun hg=>(aN (gvt (vP b1 1) hg rfl) Tryz.isAgg9 (HS3.look 2 rfl) rfl)) ?_
   obtain ⟨v2,H2,H⟩:=bJ H
   refine vU (b:=((bM ieq v1 a0.aF).getD aJ).jX) (c:=true) (v:=vB v2) rfl rfl rfl rfl (fun hg=>(bC Tryz.call157 rfl (OV (gvt (vS a0.aU) hg rfl)) (gV.calls k a0.aU HS3.sees (bU H2 hg)))) ?_
   intro w4 hE3
   have HS4:=HS3.step hE3
   refine rgs (((bM ieq v1 a0.aF).getD aJ).jX) true (vB (!v2)) rfl rfl rfl rfl (fun hg=>(kN (gvt (vB v2) hg rfl)))<|rs (vB (((bM ieq v1 a0.aF).getD aJ).jX&&(!v2))) (dw rfl (fun hp=>(gvt (vB (!v2)) (gu rfl hp) rfl)) rfl)<|aI (by simp only [sc0,sc1];rfl) ?_
   refine rs (vB (((bM ieq v1 a0.aF).getD aJ).jX&&(!v2))) (aC rfl) ?_
   try simp only [sc0,sc1]
   refine aB<|aj<|wp_cond_split (t:=(((bM ieq v1 a0.aF).getD aJ).jX&&(!v2))) rfl (fun c2=>?_) (fun c2=>?_)
   ·replace H:=bU H c2
    refine wp_skip ?_
    obtain rfl:=Option.some.inj H
    refine pz rfl ⟨(fit rfl),HS4⟩
   ·replace H:=bZ H (nt c2)
    refine region<|rs (vP b2 0) (aH (n:=1) (o':=0) rfl Tryz.runUnderlying243 rfl Tryz.sizeOf4 (by decide) rfl)<|rs (vB (((bM ieq v1 a0.aF).getD aJ).jX)) (aN rfl Tryz.isAgg4 (HS4.look 0 rfl) rfl)<|rs (vB (!(((bM ieq v1 a0.aF).getD aJ).jX))) (kN rfl)<|rs (vB (!(((bM ieq v1 a0.aF).getD aJ).jX))) (aK rfl)<|aI (by simp only [sc0,sc1];rfl) ?_
    refine rgs (!(((bM ieq v1 a0.aF).getD aJ).jX)) true (vP b1 1) rfl rfl rfl rfl (fun hg=>(aH (n:=1) (o':=1) rfl Tryz.runUnderlying56 rfl Tryz.sizeOf9 (by decide) rfl))<|rgs (!(((bM ieq v1 a0.aF).getD aJ).jX)) true (vS a0.aU) rfl rfl rfl rfl (fun hg=>(aN (gvt (vP b1 1) hg rfl) Tryz.isAgg9 (HS4.look 2 rfl) rfl))<|rgs (!(((bM ieq v1 a0.aF).getD aJ).jX)) true (vB (!(strEq a0.aU ByteArray.empty))) rfl rfl rfl rfl (fun hg=>(Ci (gvt (vS a0.aU) hg rfl) rfl))<|rs (vB ((!(((bM ieq v1 a0.aF).getD aJ).jX))&&(!(strEq a0.aU ByteArray.empty)))) (dw rfl (fun hp=>(gvt (vB (!(strEq a0.aU ByteArray.empty))) (gu rfl hp) rfl)) rfl)<|aI (by simp only [sc0,sc1];rfl) ?_
    refine rs (vB ((!(((bM ieq v1 a0.aF).getD aJ).jX))&&(!(strEq a0.aU ByteArray.empty)))) (aC rfl) ?_
    try simp only [sc0,sc1]
    refine aB ?_
    obtain rfl:=Option.some.inj H
    refine pz rfl ⟨(fit rfl),HS4⟩
 ·rintro us w5 ⟨ND,HS5⟩
  obtain ⟨uj1,rfl⟩:=unj ND
  replace H:=G1
  clear G1
  try simp only [patch,sc0,sc1]
  refine wp_cond_split (t:=xx1) rfl (fun c3=>?_) (fun c3=>?_)
  ·replace H:=bU H c3
   refine wp_seq<|region<|rs (vB false) (aC rfl) ?_
   try simp only [sc0,sc1]
   refine aB<|aj<|wp_ret<|dn<|aX ?_
   obtain rfl:=Option.some.inj H
   exact bodyPost_ret (aW rfl (aV rfl)) rfl<|⟨rfl,HS5.toE⟩
  ·replace H:=bZ H (nt c3)
   refine wp_seq<|wp_seq<|region<|rs (vP b2 1) (aH (n:=1) (o':=1) rfl Tryz.runUnderlying243 rfl Tryz.sizeOf4 (by decide) rfl)<|rs (vB (((bM ieq v1 a0.aF).getD aJ).ql)) (aN rfl Tryz.isAgg4 (HS5.look 0 rfl) rfl)<|rs (vB (((bM ieq v1 a0.aF).getD aJ).ql)) (aK rfl)<|rgs (((bM ieq v1 a0.aF).getD aJ).ql) true (vP b1 2) rfl rfl rfl rfl (fun hg=>(aH (n:=2) (o':=2) rfl Tryz.runUnderlying56 rfl Tryz.sizeOf29 (by decide) rfl))<|aI (by simp only [sc0,sc1];rfl) ?_
   refine rgs (((bM ieq v1 a0.aF).getD aJ).ql) true (Value.agg #[vI a0.bW.aS,vB a0.bW.aO]) rfl rfl rfl rfl (fun hg=>(aY (n:=2) (vs:=[vI a0.bW.aS,vB a0.bW.aO]) (gvt (vP b1 2) hg rfl) Tryz.isAgg29 (HS5.look 2 rfl) Tryz.sizeOf29 rfl rfl)) ?_
   obtain ⟨v3,H3,H⟩:=bJ H
   refine vU (b:=((bM ieq v1 a0.aF).getD aJ).ql) (c:=true) (v:=vI v3) rfl rfl rfl rfl (fun hg=>(bC Tryz.call56 rfl (OV (gvt (Value.agg #[vI a0.bW.aS,vB a0.bW.aO]) hg rfl)) (kL.calls a0.bW HS5.sees (bU H3 hg)))) ?_
   intro w6 hE4
   have HS6:=HS5.step hE4
   refine rgs (((bM ieq v1 a0.aF).getD aJ).ql) true (vB (v3 !=0)) rfl rfl rfl rfl (fun hg=>(bK (gvt (vI v3) hg rfl) rfl rfl))<|rs (vB (((bM ieq v1 a0.aF).getD aJ).ql&&(v3 !=0))) (dw rfl (fun hp=>(gvt (vB (v3 !=0)) (gu rfl hp) rfl)) rfl)<|aI (by simp only [sc0,sc1];rfl) ?_
   refine rs (vB (((bM ieq v1 a0.aF).getD aJ).ql&&(v3 !=0))) (aC rfl) ?_
   try simp only [sc0,sc1]
   refine aB<|aj ?_
   obtain ⟨xx2,H,G2⟩:=bJ H
   refine lU [36,45,46,47,48,49,50,51,52,53] (fun us w'=>Fit us (fun uj2=>[vB xx2,(uj2 1),(uj2 2),(uj2 3),(uj2 4),(uj2 5),(uj2 6),(uj2 7),(uj2 8),(uj2 9)])∧St [] h0 w0 h0 [(some b2, .cells #[vB (((bM ieq v1 a0.aF).getD aJ).jX),vB (((bM ieq v1 a0.aF).getD aJ).ql),vB (((bM ieq v1 a0.aF).getD aJ).o9),vB (((bM ieq v1 a0.aF).getD aJ).vn),vB (((bM ieq v1 a0.aF).getD aJ).jw)] 243 (0,0)),(some b3, .map es1 cl1),(some b1, .cells #[vI a0.aF,vS a0.aU,vI a0.bW.aS,vB a0.bW.aO,vI a0.dY,vI a0.vN,vL jU a0.au.length jV] 56 (0,0))] w') ?_ ?_
   ·refine wp_cond_split (t:=(((bM ieq v1 a0.aF).getD aJ).ql&&(v3 !=0))) rfl (fun c4=>?_) (fun c4=>?_)
    ·replace H:=bU H c4
     refine wp_skip ?_
     obtain rfl:=Option.some.inj H
     refine pz rfl ⟨(fit rfl),HS6⟩
    ·replace H:=bZ H (nt c4)
     refine region<|rs (vP b2 1) (aH (n:=1) (o':=1) rfl Tryz.runUnderlying243 rfl Tryz.sizeOf4 (by decide) rfl)<|rs (vB (((bM ieq v1 a0.aF).getD aJ).ql)) (aN rfl Tryz.isAgg4 (HS6.look 0 rfl) rfl)<|rs (vB (!(((bM ieq v1 a0.aF).getD aJ).ql))) (kN rfl)<|rs (vB (!(((bM ieq v1 a0.aF).getD aJ).ql))) (aK rfl)<|aI (by simp only [sc0,sc1];rfl) ?_
     refine rgs (!(((bM ieq v1 a0.aF).getD aJ).ql)) true (vP b1 2) rfl rfl rfl rfl (fun hg=>(aH (n:=2) (o':=2) rfl Tryz.runUnderlying56 rfl Tryz.sizeOf29 (by decide) rfl))<|rgs (!(((bM ieq v1 a0.aF).getD aJ).ql)) true (Value.agg #[vI a0.bW.aS,vB a0.bW.aO]) rfl rfl rfl rfl (fun hg=>(aY (n:=2) (vs:=[vI a0.bW.aS,vB a0.bW.aO]) (gvt (vP b1 2) hg rfl) Tryz.isAgg29 (HS6.look 2 rfl) Tryz.sizeOf29 rfl rfl))<|rgs (!(((bM ieq v1 a0.aF).getD aJ).ql)) true (Value.agg #[vI 0,vB false]) rfl rfl rfl rfl (fun hg=>(oW (cs:=[vI 0,vB false]) Tryz.zeroValue29 Tryz.runUnderlying29 (pl:=#[(0,1),(1,1)]) (fun w=>by simp [Tryz.sizeOf3,Tryz.sizeOf4]) rfl)) ?_
     refine rgs (!(((bM ieq v1 a0.aF).getD aJ).ql)) true (vB (!((a0.bW.aS==0)&&((a0.bW.aO==false)&&true)))) rfl rfl rfl rfl (fun hg=>(OY (gvt (Value.agg #[vI a0.bW.aS,vB a0.bW.aO]) hg rfl) (gvt (Value.agg #[vI 0,vB false]) hg rfl) Tryz.eqGuardType29 (Kz Tryz.stoodInHeld29 Tryz.underlying29 (xR (by decide) (nM Tryz.isAgg3 rfl) (nM Tryz.isAgg3 rfl) (Kw Tryz.underlying3) (xR (by decide) (nM Tryz.isAgg4 rfl) (nM Tryz.isAgg4 rfl) (GY Tryz.underlying4) Ky)))))<|aI (by simp only [sc0,sc1];rfl) ?_
     refine rs (vB ((!(((bM ieq v1 a0.aF).getD aJ).ql))&&(!((a0.bW.aS==0)&&((a0.bW.aO==false)&&true))))) (dw rfl (fun hp=>(gvt (vB (!((a0.bW.aS==0)&&((a0.bW.aO==false)&&true)))) (gu rfl hp) rfl)) rfl)<|rs (vB ((!(((bM ieq v1 a0.aF).getD aJ).ql))&&(!((a0.bW.aS==0)&&((a0.bW.aO==false)&&true))))) (aC rfl) ?_
     try simp only [sc0,sc1]
     refine aB ?_
     obtain rfl:=Option.some.inj H
     refine pz rfl ⟨(fit rfl),HS6⟩
   ·rintro us w7 ⟨ZE,HS7⟩
    obtain ⟨uj2,rfl⟩:=unj ZE
    replace H:=G2
    clear G2
    try simp only [patch,sc0,sc1]
    refine wp_cond_split (t:=xx2) rfl (fun c5=>?_) (fun c5=>?_)
    ·replace H:=bU H c5
     refine wp_seq<|region<|rs (vB false) (aC rfl) ?_
     try simp only [sc0,sc1]
     refine aB<|aj<|wp_ret<|dn<|aX ?_
     obtain rfl:=Option.some.inj H
     exact bodyPost_ret (aW rfl (aV rfl)) rfl<|⟨rfl,HS7.toE⟩
    ·replace H:=bZ H (nt c5)
     refine wp_seq<|wp_seq<|region<|rs (vP b2 2) (aH (n:=1) (o':=2) rfl Tryz.runUnderlying243 rfl Tryz.sizeOf4 (by decide) rfl)<|rs (vB (((bM ieq v1 a0.aF).getD aJ).o9)) (aN rfl Tryz.isAgg4 (HS7.look 0 rfl) rfl)<|rs (vB (((bM ieq v1 a0.aF).getD aJ).o9)) (aK rfl)<|rgs (((bM ieq v1 a0.aF).getD aJ).o9) true (vP b1 4) rfl rfl rfl rfl (fun hg=>(aH (n:=1) (o':=4) rfl Tryz.runUnderlying56 rfl Tryz.sizeOf3 (by decide) rfl))<|aI (by simp only [sc0,sc1];rfl) ?_
     refine rgs (((bM ieq v1 a0.aF).getD aJ).o9) true (vI a0.dY) rfl rfl rfl rfl (fun hg=>(aN (gvt (vP b1 4) hg rfl) Tryz.isAgg3 (HS7.look 2 rfl) rfl))<|rgs (((bM ieq v1 a0.aF).getD aJ).o9) true (vB (decide (a0.dY<0))) rfl rfl rfl rfl (fun hg=>(bK (gvt (vI a0.dY) hg rfl) rfl rfl))<|rgs (((bM ieq v1 a0.aF).getD aJ).o9) true (vB (decide (a0.dY<0))) rfl rfl rfl rfl (fun hg=>(aK (gvt (vB (decide (a0.dY<0))) hg rfl)))<|rgs (decide (a0.dY<0)) (true&&(((bM ieq v1 a0.aF).getD aJ).o9==true)) (vP b1 4) rfl rfl rfl rfl (fun hg=>(aH (n:=1) (o':=4) rfl Tryz.runUnderlying56 rfl Tryz.sizeOf3 (by decide) rfl))<|aI (by simp only [sc0,sc1];rfl) ?_
     refine rgs (decide (a0.dY<0)) (true&&(((bM ieq v1 a0.aF).getD aJ).o9==true)) (vI a0.dY) rfl rfl rfl rfl (fun hg=>(aN (gvt (vP b1 4) hg rfl) Tryz.isAgg3 (HS7.look 2 rfl) rfl))<|rgs (decide (a0.dY<0)) (true&&(((bM ieq v1 a0.aF).getD aJ).o9==true)) (vI a1) rfl rfl rfl rfl (fun hg=>(aK rfl))<|rgs (decide (a0.dY<0)) (true&&(((bM ieq v1 a0.aF).getD aJ).o9==true)) (vB (decide (a0.dY≥a1))) rfl rfl rfl rfl (fun hg=>(bK (gvt (vI a0.dY) hg rfl) (gvt (vI a1) hg rfl) rfl))<|rgs (((bM ieq v1 a0.aF).getD aJ).o9) true (vB ((decide (a0.dY<0))||(decide (a0.dY≥a1)))) rfl rfl rfl rfl (fun hg=>(dV (gvt (vB (decide (a0.dY<0))) hg rfl) rfl (fun hp=>(gvt (vB (decide (a0.dY≥a1))) (gu hg hp) rfl))))<|aI (by simp only [sc0,sc1];rfl) ?_
     refine rs (vB (((bM ieq v1 a0.aF).getD aJ).o9&&((decide (a0.dY<0))||(decide (a0.dY≥a1))))) (dw rfl (fun hp=>(gvt (vB ((decide (a0.dY<0))||(decide (a0.dY≥a1)))) (gu rfl hp) rfl)) rfl)<|rs (vB (((bM ieq v1 a0.aF).getD aJ).o9&&((decide (a0.dY<0))||(decide (a0.dY≥a1))))) (aC rfl) ?_
     try simp only [sc0,sc1]
     refine aB<|aj ?_
     obtain ⟨xx3,H,G3⟩:=bJ H
     refine lU [54,68,69,70,71,72,73,74,75] (fun us w'=>Fit us (fun uj3=>[vB xx3,(uj3 1),(uj3 2),(uj3 3),(uj3 4),(uj3 5),(uj3 6),(uj3 7),(uj3 8)])∧St [] h0 w0 h0 [(some b2, .cells #[vB (((bM ieq v1 a0.aF).getD aJ).jX),vB (((bM ieq v1 a0.aF).getD aJ).ql),vB (((bM ieq v1 a0.aF).getD aJ).o9),vB (((bM ieq v1 a0.aF).getD aJ).vn),vB (((bM ieq v1 a0.aF).getD aJ).jw)] 243 (0,0)),(some b3, .map es1 cl1),(some b1, .cells #[vI a0.aF,vS a0.aU,vI a0.bW.aS,vB a0.bW.aO,vI a0.dY,vI a0.vN,vL jU a0.au.length jV] 56 (0,0))] w') ?_ ?_
     ·refine wp_cond_split (t:=(((bM ieq v1 a0.aF).getD aJ).o9&&((decide (a0.dY<0))||(decide (a0.dY≥a1))))) rfl (fun c6=>?_) (fun c6=>?_)
      ·replace H:=bU H c6
       refine wp_skip ?_
       obtain rfl:=Option.some.inj H
       refine pz rfl ⟨(fit rfl),HS7⟩
      ·replace H:=bZ H (nt c6)
       refine region<|rs (vP b2 2) (aH (n:=1) (o':=2) rfl Tryz.runUnderlying243 rfl Tryz.sizeOf4 (by decide) rfl)<|rs (vB (((bM ieq v1 a0.aF).getD aJ).o9)) (aN rfl Tryz.isAgg4 (HS7.look 0 rfl) rfl)<|rs (vB (!(((bM ieq v1 a0.aF).getD aJ).o9))) (kN rfl)<|rs (vB (!(((bM ieq v1 a0.aF).getD aJ).o9))) (aK rfl)<|aI (by simp only [sc0,sc1];rfl) ?_
       refine rgs (!(((bM ieq v1 a0.aF).getD aJ).o9)) true (vP b1 4) rfl rfl rfl rfl (fun hg=>(aH (n:=1) (o':=4) rfl Tryz.runUnderlying56 rfl Tryz.sizeOf3 (by decide) rfl))<|rgs (!(((bM ieq v1 a0.aF).getD aJ).o9)) true (vI a0.dY) rfl rfl rfl rfl (fun hg=>(aN (gvt (vP b1 4) hg rfl) Tryz.isAgg3 (HS7.look 2 rfl) rfl))<|rgs (!(((bM ieq v1 a0.aF).getD aJ).o9)) true (vB (a0.dY !=0)) rfl rfl rfl rfl (fun hg=>(bK (gvt (vI a0.dY) hg rfl) rfl rfl))<|rs (vB ((!(((bM ieq v1 a0.aF).getD aJ).o9))&&(a0.dY !=0))) (dw rfl (fun hp=>(gvt (vB (a0.dY !=0)) (gu rfl hp) rfl)) rfl)<|aI (by simp only [sc0,sc1];rfl) ?_
       refine rs (vB ((!(((bM ieq v1 a0.aF).getD aJ).o9))&&(a0.dY !=0))) (aC rfl) ?_
       try simp only [sc0,sc1]
       refine aB ?_
       obtain rfl:=Option.some.inj H
       refine pz rfl ⟨(fit rfl),HS7⟩
     ·rintro us w8 ⟨ZF,HS8⟩
      obtain ⟨uj3,rfl⟩:=unj ZF
      replace H:=G3
      clear G3
      try simp only [patch,sc0,sc1]
      refine wp_cond_split (t:=xx3) rfl (fun c7=>?_) (fun c7=>?_)
      ·replace H:=bU H c7
       refine wp_seq<|region<|rs (vB false) (aC rfl) ?_
       try simp only [sc0,sc1]
       refine aB<|aj<|wp_ret<|dn<|aX ?_
       obtain rfl:=Option.some.inj H
       exact bodyPost_ret (aW rfl (aV rfl)) rfl<|⟨rfl,HS8.toE⟩
      ·replace H:=bZ H (nt c7)
       refine wp_seq<|wp_seq<|region<|rs (vP b2 3) (aH (n:=1) (o':=3) rfl Tryz.runUnderlying243 rfl Tryz.sizeOf4 (by decide) rfl)<|rs (vB (((bM ieq v1 a0.aF).getD aJ).vn)) (aN rfl Tryz.isAgg4 (HS8.look 0 rfl) rfl)<|rs (vB (((bM ieq v1 a0.aF).getD aJ).vn)) (aK rfl)<|rgs (((bM ieq v1 a0.aF).getD aJ).vn) true (vP b1 5) rfl rfl rfl rfl (fun hg=>(aH (n:=1) (o':=5) rfl Tryz.runUnderlying56 rfl Tryz.sizeOf3 (by decide) rfl))<|aI (by simp only [sc0,sc1];rfl) ?_
       refine rgs (((bM ieq v1 a0.aF).getD aJ).vn) true (vI a0.vN) rfl rfl rfl rfl (fun hg=>(aN (gvt (vP b1 5) hg rfl) Tryz.isAgg3 (HS8.look 2 rfl) rfl))<|rgs (((bM ieq v1 a0.aF).getD aJ).vn) true (vB (decide (a0.vN<1))) rfl rfl rfl rfl (fun hg=>(bK (gvt (vI a0.vN) hg rfl) rfl rfl))<|rgs (((bM ieq v1 a0.aF).getD aJ).vn) true (vB (decide (a0.vN<1))) rfl rfl rfl rfl (fun hg=>(aK (gvt (vB (decide (a0.vN<1))) hg rfl)))<|rgs (decide (a0.vN<1)) (true&&(((bM ieq v1 a0.aF).getD aJ).vn==true)) (vP b1 5) rfl rfl rfl rfl (fun hg=>(aH (n:=1) (o':=5) rfl Tryz.runUnderlying56 rfl Tryz.sizeOf3 (by decide) rfl))<|aI (by simp only [sc0,sc1];rfl) ?_
       refine rgs (decide (a0.vN<1)) (true&&(((bM ieq v1 a0.aF).getD aJ).vn==true)) (vI a0.vN) rfl rfl rfl rfl (fun hg=>(aN (gvt (vP b1 5) hg rfl) Tryz.isAgg3 (HS8.look 2 rfl) rfl))<|rgs (decide (a0.vN<1)) (true&&(((bM ieq v1 a0.aF).getD aJ).vn==true)) (vB (decide (a0.vN>512))) rfl rfl rfl rfl (fun hg=>(bK (gvt (vI a0.vN) hg rfl) rfl rfl))<|rgs (((bM ieq v1 a0.aF).getD aJ).vn) true (vB ((decide (a0.vN<1))||(decide (a0.vN>512)))) rfl rfl rfl rfl (fun hg=>(dV (gvt (vB (decide (a0.vN<1))) hg rfl) rfl (fun hp=>(gvt (vB (decide (a0.vN>512))) (gu hg hp) rfl))))<|rs (vB (((bM ieq v1 a0.aF).getD aJ).vn&&((decide (a0.vN<1))||(decide (a0.vN>512))))) (dw rfl (fun hp=>(gvt (vB ((decide (a0.vN<1))||(decide (a0.vN>512)))) (gu rfl hp) rfl)) rfl)<|aI (by simp only [sc0,sc1];rfl) ?_
       refine rs (vB (((bM ieq v1 a0.aF).getD aJ).vn&&((decide (a0.vN<1))||(decide (a0.vN>512))))) (aC rfl) ?_
       try simp only [sc0,sc1]
       refine aB<|aj ?_
       obtain ⟨xx4,H,G4⟩:=bJ H
       refine lU [76,89,90,91,92,93,94,95,96] (fun us w'=>Fit us (fun uj4=>[vB xx4,(uj4 1),(uj4 2),(uj4 3),(uj4 4),(uj4 5),(uj4 6),(uj4 7),(uj4 8)])∧St [] h0 w0 h0 [(some b2, .cells #[vB (((bM ieq v1 a0.aF).getD aJ).jX),vB (((bM ieq v1 a0.aF).getD aJ).ql),vB (((bM ieq v1 a0.aF).getD aJ).o9),vB (((bM ieq v1 a0.aF).getD aJ).vn),vB (((bM ieq v1 a0.aF).getD aJ).jw)] 243 (0,0)),(some b3, .map es1 cl1),(some b1, .cells #[vI a0.aF,vS a0.aU,vI a0.bW.aS,vB a0.bW.aO,vI a0.dY,vI a0.vN,vL jU a0.au.length jV] 56 (0,0))] w') ?_ ?_
       ·refine wp_cond_split (t:=(((bM ieq v1 a0.aF).getD aJ).vn&&((decide (a0.vN<1))||(decide (a0.vN>512))))) rfl (fun c8=>?_) (fun c8=>?_)
        ·replace H:=bU H c8
         refine wp_skip ?_
         obtain rfl:=Option.some.inj H
         refine pz rfl ⟨(fit rfl),HS8⟩
        ·replace H:=bZ H (nt c8)
         refine region<|rs (vP b2 3) (aH (n:=1) (o':=3) rfl Tryz.runUnderlying243 rfl Tryz.sizeOf4 (by decide) rfl)<|rs (vB (((bM ieq v1 a0.aF).getD aJ).vn)) (aN rfl Tryz.isAgg4 (HS8.look 0 rfl) rfl)<|rs (vB (!(((bM ieq v1 a0.aF).getD aJ).vn))) (kN rfl)<|rs (vB (!(((bM ieq v1 a0.aF).getD aJ).vn))) (aK rfl)<|aI (by simp only [sc0,sc1];rfl) ?_
         refine rgs (!(((bM ieq v1 a0.aF).getD aJ).vn)) true (vP b1 5) rfl rfl rfl rfl (fun hg=>(aH (n:=1) (o':=5) rfl Tryz.runUnderlying56 rfl Tryz.sizeOf3 (by decide) rfl))<|rgs (!(((bM ieq v1 a0.aF).getD aJ).vn)) true (vI a0.vN) rfl rfl rfl rfl (fun hg=>(aN (gvt (vP b1 5) hg rfl) Tryz.isAgg3 (HS8.look 2 rfl) rfl))<|rgs (!(((bM ieq v1 a0.aF).getD aJ).vn)) true (vB (a0.vN !=0)) rfl rfl rfl rfl (fun hg=>(bK (gvt (vI a0.vN) hg rfl) rfl rfl))<|rs (vB ((!(((bM ieq v1 a0.aF).getD aJ).vn))&&(a0.vN !=0))) (dw rfl (fun hp=>(gvt (vB (a0.vN !=0)) (gu rfl hp) rfl)) rfl)<|aI (by simp only [sc0,sc1];rfl) ?_
         refine rs (vB ((!(((bM ieq v1 a0.aF).getD aJ).vn))&&(a0.vN !=0))) (aC rfl) ?_
         try simp only [sc0,sc1]
         refine aB ?_
         obtain rfl:=Option.some.inj H
         refine pz rfl ⟨(fit rfl),HS8⟩
       ·rintro us w9 ⟨ZG,HS9⟩
        obtain ⟨uj4,rfl⟩:=unj ZG
        replace H:=G4
        clear G4
        try simp only [patch,sc0,sc1]
        refine wp_cond_split (t:=xx4) rfl (fun c9=>?_) (fun c9=>?_)
        ·replace H:=bU H c9
         refine wp_seq<|region<|rs (vB false) (aC rfl) ?_
         try simp only [sc0,sc1]
         refine aB<|aj<|wp_ret<|dn<|aX ?_
         obtain rfl:=Option.some.inj H
         exact bodyPost_ret (aW rfl (aV rfl)) rfl<|⟨rfl,HS9.toE⟩
        ·replace H:=bZ H (nt c9)
         refine wp_seq<|wp_seq<|region<|rs (vP b2 4) (aH (n:=1) (o':=4) rfl Tryz.runUnderlying243 rfl Tryz.sizeOf4 (by decide) rfl)<|rs (vB (((bM ieq v1 a0.aF).getD aJ).jw)) (aN rfl Tryz.isAgg4 (HS9.look 0 rfl) rfl)<|rs (vP b1 6) (aH (n:=1) (o':=6) rfl Tryz.runUnderlying56 rfl Tryz.sizeOf54 (by decide) rfl)<|rs (vL jU a0.au.length jV) (aN rfl Tryz.isAgg54 (HS9.look 2 rfl) rfl)<|aI (by simp only [sc0,sc1];rfl) ?_
         refine rs (vI (a0.au.length:Int)) (iT rfl Tryz.runUnderlying54)<|rs (vB (decide ((a0.au.length:Int)>0))) (bK rfl rfl rfl)<|rs (vB (((bM ieq v1 a0.aF).getD aJ).jw !=(decide ((a0.au.length:Int)>0)))) (DV rfl rfl Tryz.runUnderlying4)<|rs (vB (((bM ieq v1 a0.aF).getD aJ).jw !=(decide ((a0.au.length:Int)>0)))) (aC rfl) ?_
         try simp only [sc0,sc1]
         refine aB<|aj ?_
         obtain ⟨xx5,H,G5⟩:=bJ H
         refine lU [97,105,106,107,108] (fun us w'=>Fit us (fun uj5=>[vB xx5,(uj5 1),(uj5 2),(uj5 3),(uj5 4)])∧St [] h0 w0 h0 [(some b2, .cells #[vB (((bM ieq v1 a0.aF).getD aJ).jX),vB (((bM ieq v1 a0.aF).getD aJ).ql),vB (((bM ieq v1 a0.aF).getD aJ).o9),vB (((bM ieq v1 a0.aF).getD aJ).vn),vB (((bM ieq v1 a0.aF).getD aJ).jw)] 243 (0,0)),(some b3, .map es1 cl1),(some b1, .cells #[vI a0.aF,vS a0.aU,vI a0.bW.aS,vB a0.bW.aO,vI a0.dY,vI a0.vN,vL jU a0.au.length jV] 56 (0,0))] w') ?_ ?_
         ·refine wp_cond_split (t:=(((bM ieq v1 a0.aF).getD aJ).jw !=(decide ((a0.au.length:Int)>0)))) rfl (fun c10=>?_) (fun c10=>?_)
          ·replace H:=bU H c10
           refine wp_skip ?_
           obtain rfl:=Option.some.inj H
           refine pz rfl ⟨(fit rfl),HS9⟩
          ·replace H:=bZ H (nt c10)
           refine region<|rs (vP b1 6) (aH (n:=1) (o':=6) rfl Tryz.runUnderlying56 rfl Tryz.sizeOf54 (by decide) rfl)<|rs (vL jU a0.au.length jV) (aN rfl Tryz.isAgg54 (HS9.look 2 rfl) rfl)<|rs (vI (a0.au.length:Int)) (iT rfl Tryz.runUnderlying54)<|rs (vB (decide ((a0.au.length:Int)>32))) (bK rfl rfl rfl)<|aI (by simp only [sc0,sc1];rfl) ?_
           refine rs (vB (decide ((a0.au.length:Int)>32))) (aC rfl) ?_
           try simp only [sc0,sc1]
           refine aB ?_
           obtain rfl:=Option.some.inj H
           refine pz rfl ⟨(fit rfl),HS9⟩
         ·rintro us w10 ⟨ZH,qN⟩
          obtain ⟨uj5,rfl⟩:=unj ZH
          replace H:=G5
          clear G5
          try simp only [patch,sc0,sc1]
          refine wp_cond_split (t:=xx5) rfl (fun c11=>?_) (fun c11=>?_)
          ·replace H:=bU H c11
           refine wp_seq<|region<|rs (vB false) (aC rfl) ?_
           try simp only [sc0,sc1]
           refine aB<|aj<|wp_ret<|dn<|aX ?_
           obtain rfl:=Option.some.inj H
           exact bodyPost_ret (aW rfl (aV rfl)) rfl<|⟨rfl,qN.toE⟩
          ·replace H:=bZ H (nt c11)
           refine wp_skip<|dB<|aj<|wp_seq<|region<|uK qN ?_
           intro w11 b4 wU
           refine rs (Value.map (some b4)) (aC rfl) ?_
           try simp only [sc0,sc1]
           refine aB<|aj<|wp_seq<|wp_seq<|region<|rs (vP b1 6) (aH (n:=1) (o':=6) rfl Tryz.runUnderlying56 rfl Tryz.sizeOf54 (by decide) rfl)<|rs (vL jU a0.au.length jV) (aN rfl Tryz.isAgg54 (wU.look 3 rfl) rfl)<|rs (vI (a0.au.length:Int)) (iT rfl Tryz.runUnderlying54)<|rs (vI 0) (aK rfl) ?_
           try simp only [sc0,sc1]
           refine aB<|aj ?_
           obtain ⟨xx6,H,G6⟩:=bJ H
           refine iW [4,9,113,114,115,116,117,118,119,120,121,122,123,124,125,126,127,128,129,130,131,132,133,134,135,136,137,138,139,140,141,142,143,144,145,146,147,148,149,150,151,152,153,154,155,156,157,158,159,160,161,162,163,164] (fun m us w'=>∃(aG:Int),∃(bH:List (ByteArray×Bool)),∃(su:Array MapEntry) (sD:Nat),Fit us (fun uy1=>[(uy1 0),(uy1 1),vI aG,(uy1 3),(uy1 4),(uy1 5),(uy1 6),(uy1 7),(uy1 8),(uy1 9),(uy1 10),(uy1 11),(uy1 12),(uy1 13),(uy1 14),(uy1 15),(uy1 16),(uy1 17),(uy1 18),(uy1 19),(uy1 20),(uy1 21),(uy1 22),(uy1 23),(uy1 24),(uy1 25),(uy1 26),(uy1 27),(uy1 28),(uy1 29),(uy1 30),(uy1 31),(uy1 32),(uy1 33),(uy1 34),(uy1 35),(uy1 36),(uy1 37),(uy1 38),(uy1 39),(uy1 40),(uy1 41),(uy1 42),(uy1 43),(uy1 44),(uy1 45),(uy1 46),(uy1 47),(uy1 48),(uy1 49),(uy1 50),(uy1 51),(uy1 52),(uy1 53)])∧gB.l0 k a0 a1 m aG bH=some xx6∧pR vS vB bH su sD∧St [] h0 w0 h0 [(some b4, .map su sD),(some b2, .cells #[vB (((bM ieq v1 a0.aF).getD aJ).jX),vB (((bM ieq v1 a0.aF).getD aJ).ql),vB (((bM ieq v1 a0.aF).getD aJ).o9),vB (((bM ieq v1 a0.aF).getD aJ).vn),vB (((bM ieq v1 a0.aF).getD aJ).jw)] 243 (0,0)),(some b3, .map es1 cl1),(some b1, .cells #[vI a0.aF,vS a0.aU,vI a0.bW.aS,vB a0.bW.aO,vI a0.dY,vI a0.vN,vL jU a0.au.length jV] 56 (0,0))] w') (fun us w'=>∃(s1:(List (ByteArray×Bool))),xx6= .inr s1∧∃(xH:Array MapEntry) (xI:Nat),Fit us (fun uo1=>[(uo1 0),(uo1 1),(uo1 2),(uo1 3),(uo1 4),(uo1 5),(uo1 6),(uo1 7),(uo1 8),(uo1 9),(uo1 10),(uo1 11),(uo1 12),(uo1 13),(uo1 14),(uo1 15),(uo1 16),(uo1 17),(uo1 18),(uo1 19),(uo1 20),(uo1 21),(uo1 22),(uo1 23),(uo1 24),(uo1 25),(uo1 26),(uo1 27),(uo1 28),(uo1 29),(uo1 30),(uo1 31),(uo1 32),(uo1 33),(uo1 34),(uo1 35),(uo1 36),(uo1 37),(uo1 38),(uo1 39),(uo1 40),(uo1 41),(uo1 42),(uo1 43),(uo1 44),(uo1 45),(uo1 46),(uo1 47),(uo1 48),(uo1 49),(uo1 50),(uo1 51),(uo1 52),(uo1 53)])∧pR vS vB s1 xH xI∧St [] h0 w0 h0 [(some b4, .map xH xI),(some b2, .cells #[vB (((bM ieq v1 a0.aF).getD aJ).jX),vB (((bM ieq v1 a0.aF).getD aJ).ql),vB (((bM ieq v1 a0.aF).getD aJ).o9),vB (((bM ieq v1 a0.aF).getD aJ).vn),vB (((bM ieq v1 a0.aF).getD aJ).jw)] 243 (0,0)),(some b3, .map es1 cl1),(some b1, .cells #[vI a0.aF,vS a0.aU,vI a0.bW.aS,vB a0.bW.aO,vI a0.dY,vI a0.vN,vL jU a0.au.length jV] 56 (0,0))] w') k ⟨0,([]:List (ByteArray×Bool)),#[],0,(fit rfl),H,(pR.nil),wU⟩ ?_ ?_
           ·rintro m us w12 ⟨aG,bH,su,sD,lZ,H,ng,sU⟩
            obtain ⟨uy1,rfl⟩:=unj lZ
            cases m with
            |zero=>exact absurd H (by simp [gB.l0])
            |succ m=>
             rw [gB.l0] at H
             try simp only [patch,sc0,sc1]
             refine wp_seq<|region<|rs (vB (decide (aG<(a0.au.length:Int)))) (bK rfl rfl rfl) ?_
             try simp only [sc0,sc1]
             refine aB<|aj<|wp_seq<|wp_cond_split (t:=(decide (aG<(a0.au.length:Int)))) rfl (fun c12=>?_) (fun c12=>?_)
             ·replace H:=bU H c12
              refine wp_skip<|aj<|wp_seq<|wp_block<|wp_seq<|region ?_
              obtain ⟨hi1,H⟩:=fE H
              obtain ⟨ad1,e1,kX⟩:=iR qM hi1.1 hi1.2
              refine rs (Value.pointer (some (Addr.add ad1 (aG.toNat*3)))) (dQ (sz:=3) rfl e1 rfl hi1.1 hi1.2 Tryz.runUnderlying54 Tryz.sizeOf129)<|rs (Value.agg #[vS ((rd ak a0.au aG).aU),vI ((rd ak a0.au aG).vType),vI ((rd ak a0.au aG).vAt)]) (gK rfl Tryz.isAgg129 (kX.sees sU.sees) Tryz.sizeOf129)<|dK rfl rfl (fA (cs:=#[vS ByteArray.empty,vI 0,vI 0]) Tryz.zeroValue129 rfl) ?_
              rintro w13 _ hE5 ⟨b5,rfl,ge4,hb4⟩
              have zy:=sU.new hE5 ge4 hb4
              refine gq (i:=0) (cs:=[vS ByteArray.empty,vI 0,vI 0]) (cs':=[vS ((rd ak a0.au aG).aU),vI ((rd ak a0.au aG).vType),vI ((rd ak a0.au aG).vAt)]) (vs:=[vS ((rd ak a0.au aG).aU),vI ((rd ak a0.au aG).vType),vI ((rd ak a0.au aG).vAt)]) (bs':=[(some b5, .cells #[vS ((rd ak a0.au aG).aU),vI ((rd ak a0.au aG).vType),vI ((rd ak a0.au aG).vAt)] 129 (0,0)),(some b4, .map su sD),(some b2, .cells #[vB (((bM ieq v1 a0.aF).getD aJ).jX),vB (((bM ieq v1 a0.aF).getD aJ).ql),vB (((bM ieq v1 a0.aF).getD aJ).o9),vB (((bM ieq v1 a0.aF).getD aJ).vn),vB (((bM ieq v1 a0.aF).getD aJ).jw)] 243 (0,0)),(some b3, .map es1 cl1),(some b1, .cells #[vI a0.aF,vS a0.aU,vI a0.bW.aS,vB a0.bW.aO,vI a0.dY,vI a0.vN,vL jU a0.au.length jV] 56 (0,0))]) rfl rfl Tryz.sizeOf129 rfl rfl (by decide) rfl zy rfl (Nat.le_of_ble_eq_true rfl) rfl rfl ?_
              intro w14 E5
              try simp only [sc0,sc1]
              refine aB<|aj<|wp_seq<|wp_seq<|region<|rs (vP b5 0) (aH (n:=1) (o':=0) rfl Tryz.runUnderlying129 rfl Tryz.sizeOf9 (by decide) rfl)<|rs (vS ((rd ak a0.au aG).aU)) (aN rfl Tryz.isAgg9 (E5.look 0 rfl) rfl) ?_
              obtain ⟨v4,H4,H⟩:=bJ H
              refine run_eq (v:=vB v4) rfl rfl (bC Tryz.call157 rfl rfl (gV.calls k ((rd ak a0.au aG).aU) E5.sees H4)) ?_
              intro w15 hE6
              have NM:=E5.step hE6
              refine rs (vB (!v4)) (kN rfl)<|aI (by simp only [sc0,sc1];rfl) ?_
              refine rs (vB (!v4)) (aK rfl)<|rgs (!v4) true (Value.map (some b4)) rfl rfl rfl rfl (fun hg=>(aK rfl))<|rgs (!v4) true (vP b5 0) rfl rfl rfl rfl (fun hg=>(aH (n:=1) (o':=0) rfl Tryz.runUnderlying129 rfl Tryz.sizeOf9 (by decide) rfl))<|rgs (!v4) true (vS ((rd ak a0.au aG).aU)) rfl rfl rfl rfl (fun hg=>(aN (gvt (vP b5 0) hg rfl) Tryz.isAgg9 (NM.look 0 rfl) rfl))<|aI (by simp only [sc0,sc1];rfl) ?_
              refine rgs (!v4) true (vB ((bM strEq bH ((rd ak a0.au aG).aU)).getD false)) rfl rfl rfl rfl (fun hg=>(KD (CB Tryz.runUnderlying9) (k:=((rd ak a0.au aG).aU)) (m:=bH) (ev:=vB) false (gvt (Value.map (some b4)) hg rfl) (gvt (vS ((rd ak a0.au aG).aU)) hg rfl) Tryz.runUnderlying210 Tryz.zeroValue4 (NM.look 1 rfl) ng))<|rs (vB ((!v4)||((bM strEq bH ((rd ak a0.au aG).aU)).getD false))) (dV rfl rfl (fun hp=>(gvt (vB ((bM strEq bH ((rd ak a0.au aG).aU)).getD false)) (gu rfl hp) rfl))) ?_
              try simp only [sc0,sc1]
              refine aB<|aj<|wp_cond_split (t:=((!v4)||((bM strEq bH ((rd ak a0.au aG).aU)).getD false))) rfl (fun c13=>?_) (fun c13=>?_)
              ·replace H:=bU H c13
               refine wp_seq<|region<|rs (vB false) (aC rfl) ?_
               try simp only [sc0,sc1]
               refine aB<|aj<|wp_ret<|aX<|dn<|aX<|gW<|aX ?_
               obtain rfl:=Option.some.inj H
               obtain rfl:=Option.some.inj G6
               exact bodyPost_ret (aW rfl (aV rfl)) rfl<|⟨rfl,NM.toE⟩
              ·replace H:=bZ H (nt c13)
               refine wp_skip<|aj<|wp_seq<|region<|rs (Value.map (some b4)) (aK rfl)<|rs (vP b5 0) (aH (n:=1) (o':=0) rfl Tryz.runUnderlying129 rfl Tryz.sizeOf9 (by decide) rfl)<|rs (vS ((rd ak a0.au aG).aU)) (aN rfl Tryz.isAgg9 (NM.look 0 rfl) rfl)<|G9 (CB Tryz.runUnderlying9) (i:=1) (k:=((rd ak a0.au aG).aU)) (v:=true) (ev:=vB) (m:=bH) (by first|exact .inl rfl|exact .inr rfl) rfl rfl rfl rfl rfl Tryz.runUnderlying210 NM rfl ng ?_
               intro w16 es2 cl2 zT ho2
               try simp only [sc0,sc1]
               refine aB<|aj<|wp_seq<|region<|rs (vP b1 0) (aH (n:=1) (o':=0) rfl Tryz.runUnderlying56 rfl Tryz.sizeOf3 (by decide) rfl)<|rs (vI a0.aF) (aN rfl Tryz.isAgg3 (zT.look 4 rfl) rfl)<|rs (vB (a0.aF==5)) (bK rfl rfl rfl)<|rs (vB (a0.aF==5)) (aK rfl)<|aI (by simp only [sc0,sc1];rfl) ?_
               refine rgs (a0.aF==5) true (vP b5 1) rfl rfl rfl rfl (fun hg=>(aH (n:=1) (o':=1) rfl Tryz.runUnderlying129 rfl Tryz.sizeOf3 (by decide) rfl))<|rgs (a0.aF==5) true (vI ((rd ak a0.au aG).vType)) rfl rfl rfl rfl (fun hg=>(aN (gvt (vP b5 1) hg rfl) Tryz.isAgg3 (zT.look 0 rfl) rfl))<|rgs (a0.aF==5) true (vB ((rd ak a0.au aG).vType !=0)) rfl rfl rfl rfl (fun hg=>(bK (gvt (vI ((rd ak a0.au aG).vType)) hg rfl) rfl rfl))<|rgs (a0.aF==5) true (vB ((rd ak a0.au aG).vType !=0)) rfl rfl rfl rfl (fun hg=>(aK (gvt (vB ((rd ak a0.au aG).vType !=0)) hg rfl)))<|aI (by simp only [sc0,sc1];rfl) ?_
               refine rgs ((rd ak a0.au aG).vType !=0) (true&&((a0.aF==5)==true)) (vP b5 2) rfl rfl rfl rfl (fun hg=>(aH (n:=1) (o':=2) rfl Tryz.runUnderlying129 rfl Tryz.sizeOf3 (by decide) rfl))<|rgs ((rd ak a0.au aG).vType !=0) (true&&((a0.aF==5)==true)) (vI ((rd ak a0.au aG).vAt)) rfl rfl rfl rfl (fun hg=>(aN (gvt (vP b5 2) hg rfl) Tryz.isAgg3 (zT.look 0 rfl) rfl))<|rgs ((rd ak a0.au aG).vType !=0) (true&&((a0.aF==5)==true)) (vB (decide ((rd ak a0.au aG).vAt<(-2147483648)))) rfl rfl rfl rfl (fun hg=>(bK (gvt (vI ((rd ak a0.au aG).vAt)) hg rfl) rfl rfl))<|rgs (a0.aF==5) true (vB (((rd ak a0.au aG).vType !=0)||(decide ((rd ak a0.au aG).vAt<(-2147483648))))) rfl rfl rfl rfl (fun hg=>(dV (gvt (vB ((rd ak a0.au aG).vType !=0)) hg rfl) rfl (fun hp=>(gvt (vB (decide ((rd ak a0.au aG).vAt<(-2147483648)))) (gu hg hp) rfl))))<|aI (by simp only [sc0,sc1];rfl) ?_
               refine rgs (a0.aF==5) true (vB (((rd ak a0.au aG).vType !=0)||(decide ((rd ak a0.au aG).vAt<(-2147483648))))) rfl rfl rfl rfl (fun hg=>(aK (gvt (vB (((rd ak a0.au aG).vType !=0)||(decide ((rd ak a0.au aG).vAt<(-2147483648))))) hg rfl)))<|rgs (((rd ak a0.au aG).vType !=0)||(decide ((rd ak a0.au aG).vAt<(-2147483648)))) (true&&((a0.aF==5)==true)) (vP b5 2) rfl rfl rfl rfl (fun hg=>(aH (n:=1) (o':=2) rfl Tryz.runUnderlying129 rfl Tryz.sizeOf3 (by decide) rfl))<|rgs (((rd ak a0.au aG).vType !=0)||(decide ((rd ak a0.au aG).vAt<(-2147483648)))) (true&&((a0.aF==5)==true)) (vI ((rd ak a0.au aG).vAt)) rfl rfl rfl rfl (fun hg=>(aN (gvt (vP b5 2) hg rfl) Tryz.isAgg3 (zT.look 0 rfl) rfl))<|rgs (((rd ak a0.au aG).vType !=0)||(decide ((rd ak a0.au aG).vAt<(-2147483648)))) (true&&((a0.aF==5)==true)) (vB (decide ((rd ak a0.au aG).vAt>2147483647))) rfl rfl rfl rfl (fun hg=>(bK (gvt (vI ((rd ak a0.au aG).vAt)) hg rfl) rfl rfl))<|aI (by simp only [sc0,sc1];rfl) ?_
               refine rgs (a0.aF==5) true (vB ((((rd ak a0.au aG).vType !=0)||(decide ((rd ak a0.au aG).vAt<(-2147483648))))||(decide ((rd ak a0.au aG).vAt>2147483647)))) rfl rfl rfl rfl (fun hg=>(dV (gvt (vB (((rd ak a0.au aG).vType !=0)||(decide ((rd ak a0.au aG).vAt<(-2147483648))))) hg rfl) rfl (fun hp=>(gvt (vB (decide ((rd ak a0.au aG).vAt>2147483647))) (gu hg hp) rfl))))<|rs (vB ((a0.aF==5)&&((((rd ak a0.au aG).vType !=0)||(decide ((rd ak a0.au aG).vAt<(-2147483648))))||(decide ((rd ak a0.au aG).vAt>2147483647))))) (dw rfl (fun hp=>(gvt (vB ((((rd ak a0.au aG).vType !=0)||(decide ((rd ak a0.au aG).vAt<(-2147483648))))||(decide ((rd ak a0.au aG).vAt>2147483647)))) (gu rfl hp) rfl)) rfl)<|rs (vB ((a0.aF==5)&&((((rd ak a0.au aG).vType !=0)||(decide ((rd ak a0.au aG).vAt<(-2147483648))))||(decide ((rd ak a0.au aG).vAt>2147483647))))) (aK rfl)<|rgs ((a0.aF==5)&&((((rd ak a0.au aG).vType !=0)||(decide ((rd ak a0.au aG).vAt<(-2147483648))))||(decide ((rd ak a0.au aG).vAt>2147483647)))) true (vP b1 0) rfl rfl rfl rfl (fun hg=>(aH (n:=1) (o':=0) rfl Tryz.runUnderlying56 rfl Tryz.sizeOf3 (by decide) rfl))<|aI (by simp only [sc0,sc1];rfl) ?_
               refine rgs ((a0.aF==5)&&((((rd ak a0.au aG).vType !=0)||(decide ((rd ak a0.au aG).vAt<(-2147483648))))||(decide ((rd ak a0.au aG).vAt>2147483647)))) true (vI a0.aF) rfl rfl rfl rfl (fun hg=>(aN (gvt (vP b1 0) hg rfl) Tryz.isAgg3 (zT.look 4 rfl) rfl))<|rgs ((a0.aF==5)&&((((rd ak a0.au aG).vType !=0)||(decide ((rd ak a0.au aG).vAt<(-2147483648))))||(decide ((rd ak a0.au aG).vAt>2147483647)))) true (vB (a0.aF==4)) rfl rfl rfl rfl (fun hg=>(bK (gvt (vI a0.aF) hg rfl) rfl rfl))<|rgs ((a0.aF==5)&&((((rd ak a0.au aG).vType !=0)||(decide ((rd ak a0.au aG).vAt<(-2147483648))))||(decide ((rd ak a0.au aG).vAt>2147483647)))) true (vB (a0.aF==4)) rfl rfl rfl rfl (fun hg=>(aK (gvt (vB (a0.aF==4)) hg rfl)))<|rgs (a0.aF==4) (true&&(((a0.aF==5)&&((((rd ak a0.au aG).vType !=0)||(decide ((rd ak a0.au aG).vAt<(-2147483648))))||(decide ((rd ak a0.au aG).vAt>2147483647))))==false)) (vP b5 1) rfl rfl rfl rfl (fun hg=>(aH (n:=1) (o':=1) rfl Tryz.runUnderlying129 rfl Tryz.sizeOf3 (by decide) rfl))<|aI (by simp only [sc0,sc1];rfl) ?_
               refine rgs (a0.aF==4) (true&&(((a0.aF==5)&&((((rd ak a0.au aG).vType !=0)||(decide ((rd ak a0.au aG).vAt<(-2147483648))))||(decide ((rd ak a0.au aG).vAt>2147483647))))==false)) (vI ((rd ak a0.au aG).vType)) rfl rfl rfl rfl (fun hg=>(aN (gvt (vP b5 1) hg rfl) Tryz.isAgg3 (zT.look 0 rfl) rfl))<|rgs (a0.aF==4) (true&&(((a0.aF==5)&&((((rd ak a0.au aG).vType !=0)||(decide ((rd ak a0.au aG).vAt<(-2147483648))))||(decide ((rd ak a0.au aG).vAt>2147483647))))==false)) (vB (decide ((rd ak a0.au aG).vType<0))) rfl rfl rfl rfl (fun hg=>(bK (gvt (vI ((rd ak a0.au aG).vType)) hg rfl) rfl rfl))<|rgs (a0.aF==4) (true&&(((a0.aF==5)&&((((rd ak a0.au aG).vType !=0)||(decide ((rd ak a0.au aG).vAt<(-2147483648))))||(decide ((rd ak a0.au aG).vAt>2147483647))))==false)) (vB (decide ((rd ak a0.au aG).vType<0))) rfl rfl rfl rfl (fun hg=>(aK (gvt (vB (decide ((rd ak a0.au aG).vType<0))) hg rfl)))<|rgs (decide ((rd ak a0.au aG).vType<0)) ((true&&(((a0.aF==5)&&((((rd ak a0.au aG).vType !=0)||(decide ((rd ak a0.au aG).vAt<(-2147483648))))||(decide ((rd ak a0.au aG).vAt>2147483647))))==false))&&((a0.aF==4)==true)) (vP b5 1) rfl rfl rfl rfl (fun hg=>(aH (n:=1) (o':=1) rfl Tryz.runUnderlying129 rfl Tryz.sizeOf3 (by decide) rfl))<|aI (by simp only [sc0,sc1];rfl) ?_
               refine rgs (decide ((rd ak a0.au aG).vType<0)) ((true&&(((a0.aF==5)&&((((rd ak a0.au aG).vType !=0)||(decide ((rd ak a0.au aG).vAt<(-2147483648))))||(decide ((rd ak a0.au aG).vAt>2147483647))))==false))&&((a0.aF==4)==true)) (vI ((rd ak a0.au aG).vType)) rfl rfl rfl rfl (fun hg=>(aN (gvt (vP b5 1) hg rfl) Tryz.isAgg3 (zT.look 0 rfl) rfl))<|rgs (decide ((rd ak a0.au aG).vType<0)) ((true&&(((a0.aF==5)&&((((rd ak a0.au aG).vType !=0)||(decide ((rd ak a0.au aG).vAt<(-2147483648))))||(decide ((rd ak a0.au aG).vAt>2147483647))))==false))&&((a0.aF==4)==true)) (vI a1) rfl rfl rfl rfl (fun hg=>(aK rfl))<|rgs (decide ((rd ak a0.au aG).vType<0)) ((true&&(((a0.aF==5)&&((((rd ak a0.au aG).vType !=0)||(decide ((rd ak a0.au aG).vAt<(-2147483648))))||(decide ((rd ak a0.au aG).vAt>2147483647))))==false))&&((a0.aF==4)==true)) (vB (decide ((rd ak a0.au aG).vType≥a1))) rfl rfl rfl rfl (fun hg=>(bK (gvt (vI ((rd ak a0.au aG).vType)) hg rfl) (gvt (vI a1) hg rfl) rfl))<|rgs (a0.aF==4) (true&&(((a0.aF==5)&&((((rd ak a0.au aG).vType !=0)||(decide ((rd ak a0.au aG).vAt<(-2147483648))))||(decide ((rd ak a0.au aG).vAt>2147483647))))==false)) (vB ((decide ((rd ak a0.au aG).vType<0))||(decide ((rd ak a0.au aG).vType≥a1)))) rfl rfl rfl rfl (fun hg=>(dV (gvt (vB (decide ((rd ak a0.au aG).vType<0))) hg rfl) rfl (fun hp=>(gvt (vB (decide ((rd ak a0.au aG).vType≥a1))) (gu hg hp) rfl))))<|aI (by simp only [sc0,sc1];rfl) ?_
               refine rgs ((a0.aF==5)&&((((rd ak a0.au aG).vType !=0)||(decide ((rd ak a0.au aG).vAt<(-2147483648))))||(decide ((rd ak a0.au aG).vAt>2147483647)))) true (vB ((a0.aF==4)&&((decide ((rd ak a0.au aG).vType<0))||(decide ((rd ak a0.au aG).vType≥a1))))) rfl rfl rfl rfl (fun hg=>(dw (gvt (vB (a0.aF==4)) hg rfl) (fun hp=>(gvt (vB ((decide ((rd ak a0.au aG).vType<0))||(decide ((rd ak a0.au aG).vType≥a1)))) (gu hg hp) rfl)) rfl))<|rs (vB (((a0.aF==5)&&((((rd ak a0.au aG).vType !=0)||(decide ((rd ak a0.au aG).vAt<(-2147483648))))||(decide ((rd ak a0.au aG).vAt>2147483647))))||((a0.aF==4)&&((decide ((rd ak a0.au aG).vType<0))||(decide ((rd ak a0.au aG).vType≥a1)))))) (dV rfl rfl (fun hp=>(gvt (vB ((a0.aF==4)&&((decide ((rd ak a0.au aG).vType<0))||(decide ((rd ak a0.au aG).vType≥a1))))) (gu rfl hp) rfl))) ?_
               try simp only [sc0,sc1]
               refine aB<|aj<|wp_cond_split (t:=(((a0.aF==5)&&((((rd ak a0.au aG).vType !=0)||(decide ((rd ak a0.au aG).vAt<(-2147483648))))||(decide ((rd ak a0.au aG).vAt>2147483647))))||((a0.aF==4)&&((decide ((rd ak a0.au aG).vType<0))||(decide ((rd ak a0.au aG).vType≥a1)))))) rfl (fun c14=>?_) (fun c14=>?_)
               ·replace H:=bU H c14
                refine wp_seq<|region<|rs (vB false) (aC rfl) ?_
                try simp only [sc0,sc1]
                refine aB<|aj<|wp_ret<|dn<|aX<|gW<|aX ?_
                obtain rfl:=Option.some.inj H
                obtain rfl:=Option.some.inj G6
                exact bodyPost_ret (aW rfl (aV rfl)) rfl<|⟨rfl,zT.toE⟩
               ·replace H:=bZ H (nt c14)
                refine wp_skip<|dB<|aj<|region<|rs (vI (w64 (aG+1))) (bK rfl rfl rfl)<|rs (vI (w64 (aG+1))) (aK rfl) ?_
                try simp only [sc0,sc1]
                refine aB<|gX m (Nat.lt_succ_self m) rfl ⟨(w64 (aG+1)),(fJ strEq bH ((rd ak a0.au aG).aU) true),es2,cl2,(fit rfl),H,ho2,zT.tail⟩
             ·replace H:=bZ H (nt c12)
              refine wp_exit<|fF ?_
              obtain rfl:=Option.some.inj H
              refine iw rfl ⟨_,rfl,su,sD,(fit rfl),ng,sU⟩
           ·rintro us w17 ⟨s1,rfl,xH,xI,l7,tJ,Ry⟩
            obtain ⟨uo1,rfl⟩:=unj l7
            replace H:=G6
            clear G6
            try simp only [patch,sc0,sc1]
            refine aj<|wp_seq<|region<|rs (vB true) (aC rfl) ?_
            try simp only [sc0,sc1]
            refine aB<|aj<|wp_ret ?_
            obtain rfl:=Option.some.inj H
            exact bodyPost_ret (aW rfl (aV rfl)) rfl<|⟨rfl,Ry.toE⟩
def jJ.f (a0:bV):Option (Bool):=some ((a0.aF !=2)&&(a0.aF !=3))
theorem jJ.calls (a0:bV) (jU:Option Addr) (jV:Nat) {h0:View} {w0:World} (hv:jf h0 w0) (qM:Rd fM h0 jU a0.au) (uZ:a0.au.length≤jV) {r:Bool} (H:jJ.f a0=some r):Calls Tryz.prog 116 #[Value.agg #[vI a0.aF,vS a0.aU,vI a0.bW.aS,vB a0.bW.aO,vI a0.dY,vI a0.vN,vL jU a0.au.length jV]] w0 (fun e w1=>e= .returned (vB r)∧Ext w0 w1):=by
 unfold jJ.f at H
 have HS:St [] h0 w0 h0 [] w0:=St.init hv
 go_enter Tryz.func116,Tryz.ntmps116
 refine wp_seq<|region<|dK rfl rfl (dH (cs:=#[vI a0.aF,vS a0.aU,vI a0.bW.aS,vB a0.bW.aO,vI a0.dY,vI a0.vN,vL jU a0.au.length jV]) rfl rfl) ?_
 rintro w1 _ hE1 ⟨b1,rfl,ge1,hb1⟩
 have HS1:=HS.new hE1 ge1 hb1
 refine rs (vB false) (aC rfl) ?_
 try simp only [sc0,sc1]
 refine aB<|aj<|wp_seq<|region<|rs (vP b1 0) (aH (n:=1) (o':=0) rfl Tryz.runUnderlying56 rfl Tryz.sizeOf3 (by decide) rfl)<|rs (vI a0.aF) (aN rfl Tryz.isAgg3 (HS1.look 0 rfl) rfl)<|rs (vB (a0.aF !=2)) (bK rfl rfl rfl)<|rs (vB (a0.aF !=2)) (aK rfl)<|aI (by simp only [sc0,sc1];rfl) ?_
 refine rgs (a0.aF !=2) true (vP b1 0) rfl rfl rfl rfl (fun hg=>(aH (n:=1) (o':=0) rfl Tryz.runUnderlying56 rfl Tryz.sizeOf3 (by decide) rfl))<|rgs (a0.aF !=2) true (vI a0.aF) rfl rfl rfl rfl (fun hg=>(aN (gvt (vP b1 0) hg rfl) Tryz.isAgg3 (HS1.look 0 rfl) rfl))<|rgs (a0.aF !=2) true (vB (a0.aF !=3)) rfl rfl rfl rfl (fun hg=>(bK (gvt (vI a0.aF) hg rfl) rfl rfl))<|rs (vB ((a0.aF !=2)&&(a0.aF !=3))) (dw rfl (fun hp=>(gvt (vB (a0.aF !=3)) (gu rfl hp) rfl)) rfl)<|aI (by simp only [sc0,sc1];rfl) ?_
 refine rs (vB ((a0.aF !=2)&&(a0.aF !=3))) (aC rfl) ?_
 try simp only [sc0,sc1]
 refine aB<|aj<|wp_ret ?_
 obtain rfl:=Option.some.inj H
 exact bodyPost_ret (aW rfl (aV rfl)) rfl<|⟨rfl,HS1.toE⟩
def bG.l0 (a0:List bV) (a1:(bV→Option Bool)):Nat→Int→Option ((Int)⊕(Unit))
 |0,_=>none
 |m+1,aG=>if (decide (aG<(a0.length:Int)))=true then (if 0≤aG∧aG<a0.length then ((a1 (rd ah a0 aG)).bind fun v1=>(if v1=true then (some (.inl aG)) else (bG.l0 a0 a1 m (IntKind.wrap .i64 (aG+1))))) else none) else (some (.inr ()))
def bG.f (k:Nat) (a0:List bV) (a1:bV→Option Bool):Option (Int):=(bG.l0 a0 a1 k 0).bind fun xx1=>(match xx1 with| .inl r=>some r| .inr s1=>some (-1))
theorem bG.calls (k:Nat) (a0:List bV) (a1:bV→Option Bool) (bQ:Option Addr) (bT:Nat) (J6:Nat) (cap1:List Value) {h0:View} {w0:World} (hv:jf h0 w0) (fB:Rd eX h0 bQ a0) (gI:a0.length≤bT) (Ur:∀args w,(callFunc J6 args).run Tryz.prog w= .ok (.enter J6 args) w) (Ya:∀(z0:bV) (wW:Option Addr) (wX:Nat) (h:View) (w:World),Ext w0 w→Sub h0 h→jf h w→Rd fM h wW z0.au→z0.au.length≤wX→∀(r:Bool),a1 z0=some r→Calls Tryz.prog J6 ([Value.agg #[vI z0.aF,vS z0.aU,vI z0.bW.aS,vB z0.bW.aO,vI z0.dY,vI z0.vN,vL wW z0.au.length wX]]++cap1).toArray w (fun e w1=>e= .returned (vB r)∧Ext w w1)) {r:Int} (H:bG.f k a0 a1=some r):Calls Tryz.prog 121 #[vL bQ a0.length bT,Value.func (.func J6) #[] cap1.toArray] w0 (fun e w1=>e= .returned (vI r)∧Ext w0 w1):=by
 unfold bG.f at H
 have HS:St [] h0 w0 h0 [] w0:=St.init hv
 go_enter Tryz.func121,Tryz.ntmps121
 refine wp_seq<|region<|rs (vI 0) (aC rfl) ?_
 try simp only [sc0,sc1]
 refine aB<|aj<|wp_seq<|wp_seq<|region<|rs (vL bQ a0.length bT) (aK rfl)<|rs (vI (a0.length:Int)) (iT rfl Tryz.runUnderlying22)<|rs (vI 0) (aK rfl) ?_
 try simp only [sc0,sc1]
 refine aB<|aj ?_
 obtain ⟨xx1,H,G1⟩:=bJ H
 refine iW [4,5,8,9,10,11,12,13,14,15,16,17,18] (fun m us w'=>∃(aG:Int),Fit us (fun uy1=>[(uy1 0),(uy1 1),vI aG,(uy1 3),(uy1 4),(uy1 5),(uy1 6),(uy1 7),(uy1 8),(uy1 9),(uy1 10),(uy1 11),(uy1 12)])∧bG.l0 a0 a1 m aG=some xx1∧St [] h0 w0 h0 [] w') (fun us w'=>∃(s1:Unit),xx1= .inr s1∧Fit us (fun uo1=>[(uo1 0),(uo1 1),(uo1 2),(uo1 3),(uo1 4),(uo1 5),(uo1 6),(uo1 7),(uo1 8),(uo1 9),(uo1 10),(uo1 11),(uo1 12)])∧St [] h0 w0 h0 [] w') k ⟨0,(fit rfl),H,HS⟩ ?_ ?_
 ·rintro m us w1 ⟨aG,lZ,H,HS1⟩
  obtain ⟨uy1,rfl⟩:=unj lZ
  cases m with
  |zero=>exact absurd H (by simp [bG.l0])
  |succ m=>
   rw [bG.l0] at H
   try simp only [patch,sc0,sc1]
   refine wp_seq<|region<|rs (vB (decide (aG<(a0.length:Int)))) (bK rfl rfl rfl) ?_
   try simp only [sc0,sc1]
   refine aB<|aj<|wp_seq<|wp_cond_split (t:=(decide (aG<(a0.length:Int)))) rfl (fun c1=>?_) (fun c1=>?_)
   ·replace H:=bU H c1
    refine wp_skip<|aj<|wp_seq<|wp_block<|wp_seq<|region<|rs (vI aG) (aK rfl)<|rs (vI aG) (aC rfl) ?_
    try simp only [sc0,sc1]
    refine aB<|aj<|wp_seq<|region<|rs (Value.func (.func J6) #[] cap1.toArray) (aK rfl)<|rs (vL bQ a0.length bT) (aK rfl)<|rs (vI aG) (aK rfl) ?_
    obtain ⟨hi1,H⟩:=fE H
    obtain ⟨ad1,dO,dR,e1,kX,jO,iD⟩:=gU fB hi1.1 hi1.2
    refine rs (Value.pointer (some (Addr.add ad1 (aG.toNat*7)))) (dQ (sz:=7) rfl e1 rfl hi1.1 hi1.2 Tryz.runUnderlying22 Tryz.sizeOf56)<|aI (by simp only [sc0,sc1];rfl) ?_
    refine rs (Value.agg #[vI ((rd ah a0 aG).aF),vS ((rd ah a0 aG).aU),vI ((rd ah a0 aG).bW.aS),vB ((rd ah a0 aG).bW.aO),vI ((rd ah a0 aG).dY),vI ((rd ah a0 aG).vN),vL dO ((rd ah a0 aG).au).length dR]) (gK rfl Tryz.isAgg56 (kX.sees HS1.sees) Tryz.sizeOf56) ?_
    obtain ⟨v1,H1,H⟩:=bJ H
    refine run_eq (v:=vB v1) rfl rfl (sN (vs:=[Value.agg #[vI ((rd ah a0 aG).aF),vS ((rd ah a0 aG).aU),vI ((rd ah a0 aG).bW.aS),vB ((rd ah a0 aG).bW.aO),vI ((rd ah a0 aG).dY),vI ((rd ah a0 aG).vN),vL dO ((rd ah a0 aG).au).length dR]]) (caps:=cap1) Ur rfl rfl (Ya (rd ah a0 aG) dO dR _ _ HS1.toE HS1.sub HS1.sees iD jO _ H1)) ?_
    intro w2 hE1
    have HS2:=HS1.step hE1
    try simp only [sc0,sc1]
    refine aB<|aj<|wp_cond_split (t:=v1) rfl (fun c2=>?_) (fun c2=>?_)
    ·replace H:=bU H c2
     refine wp_seq<|region<|rs (vI aG) (aK rfl)<|rs (vI aG) (aC rfl) ?_
     try simp only [sc0,sc1]
     refine aB<|aj<|wp_ret<|dn<|aX<|gW<|aX ?_
     obtain rfl:=Option.some.inj H
     obtain rfl:=Option.some.inj G1
     exact bodyPost_ret (aW rfl (aV rfl)) rfl<|⟨rfl,HS2.toE⟩
    ·replace H:=bZ H (nt c2)
     refine wp_skip<|dB<|aj<|region<|rs (vI (w64 (aG+1))) (bK rfl rfl rfl)<|rs (vI (w64 (aG+1))) (aK rfl) ?_
     try simp only [sc0,sc1]
     refine aB<|gX m (Nat.lt_succ_self m) rfl ⟨(w64 (aG+1)),(fit rfl),H,HS2⟩
   ·replace H:=bZ H (nt c1)
    refine wp_exit<|fF ?_
    obtain rfl:=Option.some.inj H
    refine iw rfl ⟨_,rfl,(fit rfl),HS1⟩
 ·rintro us w3 ⟨s1,rfl,l7,HS3⟩
  obtain ⟨uo1,rfl⟩:=unj l7
  replace H:=G1
  clear G1
  try simp only [patch,sc0,sc1]
  refine aj<|wp_seq<|region<|rs (vI (-1)) (aC rfl) ?_
  try simp only [sc0,sc1]
  refine aB<|aj<|wp_ret ?_
  obtain rfl:=Option.some.inj H
  exact bodyPost_ret (aW rfl (aV rfl)) rfl<|⟨rfl,HS3.toE⟩
def cO.f (k:Nat) (a0:List bV) (a1:bV→Option Bool):Option (Bool):=(bG.f k a0 a1).bind fun v1=>(some (decide (v1≥0)))
theorem cO.calls (k:Nat) (a0:List bV) (a1:bV→Option Bool) (bQ:Option Addr) (bT:Nat) (J6:Nat) (cap1:List Value) {h0:View} {w0:World} (hv:jf h0 w0) (fB:Rd eX h0 bQ a0) (gI:a0.length≤bT) (Ur:∀args w,(callFunc J6 args).run Tryz.prog w= .ok (.enter J6 args) w) (Ya:∀(z0:bV) (wW:Option Addr) (wX:Nat) (h:View) (w:World),Ext w0 w→Sub h0 h→jf h w→Rd fM h wW z0.au→z0.au.length≤wX→∀(r:Bool),a1 z0=some r→Calls Tryz.prog J6 ([Value.agg #[vI z0.aF,vS z0.aU,vI z0.bW.aS,vB z0.bW.aO,vI z0.dY,vI z0.vN,vL wW z0.au.length wX]]++cap1).toArray w (fun e w1=>e= .returned (vB r)∧Ext w w1)) {r:Bool} (H:cO.f k a0 a1=some r):Calls Tryz.prog 118 #[vL bQ a0.length bT,Value.func (.func J6) #[] cap1.toArray] w0 (fun e w1=>e= .returned (vB r)∧Ext w0 w1):=by
 unfold cO.f at H
 have HS:St [] h0 w0 h0 [] w0:=St.init hv
 go_enter Tryz.func118,Tryz.ntmps118
 refine wp_seq<|region<|rs (vB false) (aC rfl) ?_
 try simp only [sc0,sc1]
 refine aB<|aj<|wp_seq<|region<|rs (vL bQ a0.length bT) (aK rfl)<|rs (Value.func (.func J6) #[] cap1.toArray) (aK rfl) ?_
 obtain ⟨v1,H1,H⟩:=bJ H
 refine run_eq (v:=vI v1) rfl rfl (bC Tryz.call121 rfl rfl (bG.calls k a0 a1 bQ bT J6 cap1 HS.sees fB gI Ur (fun z0 wW wX h w hE hs hv Gs zB r H=>Ya z0 wW wX h w (HS.toE.then hE) (HS.sub.then hs) hv Gs zB r H) H1)) ?_
 intro w1 hE1
 have HS1:=HS.step hE1
 refine rs (vB (decide (v1≥0))) (bK rfl rfl rfl)<|aI (by simp only [sc0,sc1];rfl) ?_
 refine rs (vB (decide (v1≥0))) (aC rfl) ?_
 try simp only [sc0,sc1]
 refine aB<|aj<|wp_ret ?_
 obtain rfl:=Option.some.inj H
 exact bodyPost_ret (aW rfl (aV rfl)) rfl<|⟨rfl,HS1.toE⟩
def iI.l0 (x0:bf):Nat→Int→Int→ByteArray→Int→Bool→Int→Int→(List dP)→Option ((Bool)⊕(Int×ByteArray×Int×Bool×Int×Int×(List dP)))
 |0,_,_,_,_,_,_,_,_=>none
 |m+1,aG,bH,kW,uD,BD,nG,OT,J7=>if (decide (aG<(x0.ay.length:Int)))=true then ((jJ.f (⟨bH,kW,(⟨uD,BD⟩:eP),nG,OT,J7⟩:bV)).bind fun v1=>(if v1=true then (some (.inl false)) else (if 0≤nG∧nG<x0.ay.length then (iI.l0 x0 m (IntKind.wrap .i64 (aG+1)) ((rd ah x0.ay nG).aF) ((rd ah x0.ay nG).aU) ((rd ah x0.ay nG).bW.aS) ((rd ah x0.ay nG).bW.aO) ((rd ah x0.ay nG).dY) ((rd ah x0.ay nG).vN) ((rd ah x0.ay nG).au)) else none))) else (some (.inr (bH,kW,uD,BD,nG,OT,J7)))
def iI.f (k:Nat) (a0:bV) (x0:bf):Option (Bool):=(iI.l0 x0 k 0 a0.aF a0.aU a0.bW.aS a0.bW.aO a0.dY a0.vN a0.au).bind fun xx1=>(match xx1 with| .inl r=>some r| .inr s1=>(jJ.f (⟨s1.1,s1.2.1,(⟨s1.2.2.1,s1.2.2.2.1⟩:eP),s1.2.2.2.2.1,s1.2.2.2.2.2.1,s1.2.2.2.2.2.2⟩:bV)).bind fun v2=>(some (!v2)))
theorem iI.calls (k:Nat) (a0:bV) (x0:bf) (jU:Option Addr) (jV:Nat) (bx0:Nat) (vC:Option Addr) (vG:Nat) {h0:View} {w0:World} (hv:jf h0 w0) (qM:Rd fM h0 jU a0.au) (uZ:a0.au.length≤jV) (EM:Rd eX h0 vC x0.ay) (NT:x0.ay.length≤vG) (hx0:w0.heap[bx0]?=some (.cells #[vL vC x0.ay.length vG] 24 (0,0))) {r:Bool} (H:iI.f k a0 x0=some r):Calls Tryz.prog 158 #[Value.agg #[vI a0.aF,vS a0.aU,vI a0.bW.aS,vB a0.bW.aO,vI a0.dY,vI a0.vN,vL jU a0.au.length jV],vP bx0 0] w0 (fun e w1=>e= .returned (vB r)∧Ext w0 w1):=by
 unfold iI.f at H
 have HS:St [] h0 w0 h0 [] w0:=St.init hv
 go_enter Tryz.func158,Tryz.ntmps158
 refine wp_seq<|region<|dK rfl rfl (dH (cs:=#[vI a0.aF,vS a0.aU,vI a0.bW.aS,vB a0.bW.aO,vI a0.dY,vI a0.vN,vL jU a0.au.length jV]) rfl rfl) ?_
 rintro w1 _ hE1 ⟨b1,rfl,ge1,hb1⟩
 have HS1:=HS.new hE1 ge1 hb1
 refine rs (vB false) (aC rfl) ?_
 try simp only [sc0,sc1]
 refine aB<|aj<|wp_seq<|wp_seq<|region<|rs (vP bx0 0) (aH (n:=1) (o':=0) rfl Tryz.runUnderlying24 rfl Tryz.sizeOf22 (by decide) rfl)<|rs (vL vC x0.ay.length vG) (aN rfl Tryz.isAgg22 (kR hx0 HS1.toE) rfl)<|rs (vI (x0.ay.length:Int)) (iT rfl Tryz.runUnderlying22)<|rs (vI 0) (aK rfl) ?_
 try simp only [sc0,sc1]
 refine aB<|aj ?_
 obtain ⟨xx1,H,G1⟩:=bJ H
 refine iW [3,7,8,9,10,11,12,13,14,15,16,17] (fun m us w'=>∃aG bH:Int,∃kW:ByteArray,∃uD:Int,∃BD:Bool,∃nG OT:Int,∃J7:List dP,∃(EN:Option Addr) (EO:Nat),Fit us (fun uy1=>[(uy1 0),vI aG,(uy1 2),(uy1 3),(uy1 4),(uy1 5),(uy1 6),(uy1 7),(uy1 8),(uy1 9),(uy1 10),(uy1 11)])∧iI.l0 x0 m aG bH kW uD BD nG OT J7=some xx1∧J7.length≤EO∧Rd fM h0 EN J7∧St [] h0 w0 h0 [(some b1, .cells #[vI bH,vS kW,vI uD,vB BD,vI nG,vI OT,vL EN J7.length EO] 56 (0,0))] w') (fun us w'=>∃(s1:Int×ByteArray×Int×Bool×Int×Int×(List dP)),xx1= .inr s1∧∃(Jt:Option Addr) (Ju:Nat),Fit us (fun uo1=>[(uo1 0),(uo1 1),(uo1 2),(uo1 3),(uo1 4),(uo1 5),(uo1 6),(uo1 7),(uo1 8),(uo1 9),(uo1 10),(uo1 11)])∧s1.2.2.2.2.2.2.length≤Ju∧Rd fM h0 Jt s1.2.2.2.2.2.2∧St [] h0 w0 h0 [(some b1, .cells #[vI s1.1,vS s1.2.1,vI s1.2.2.1,vB s1.2.2.2.1,vI s1.2.2.2.2.1,vI s1.2.2.2.2.2.1,vL Jt s1.2.2.2.2.2.2.length Ju] 56 (0,0))] w') k ⟨0,a0.aF,a0.aU,a0.bW.aS,a0.bW.aO,a0.dY,a0.vN,a0.au,jU,jV,(fit rfl),H,uZ,qM,HS1⟩ ?_ ?_
 ·rintro m us w2 ⟨aG,bH,kW,uD,BD,nG,OT,J7,EN,EO,lZ,H,RF,RG,HS2⟩
  obtain ⟨uy1,rfl⟩:=unj lZ
  cases m with
  |zero=>exact absurd H (by simp [iI.l0])
  |succ m=>
   rw [iI.l0] at H
   try simp only [patch,sc0,sc1]
   refine wp_seq<|region<|rs (vB (decide (aG<(x0.ay.length:Int)))) (bK rfl rfl rfl) ?_
   try simp only [sc0,sc1]
   refine aB<|aj<|wp_seq<|wp_cond_split (t:=(decide (aG<(x0.ay.length:Int)))) rfl (fun c1=>?_) (fun c1=>?_)
   ·replace H:=bU H c1
    refine wp_skip<|aj<|wp_seq<|wp_block<|wp_seq<|wp_seq<|region<|rs (Value.agg #[vI bH,vS kW,vI uD,vB BD,vI nG,vI OT,vL EN J7.length EO]) (aY (n:=7) (vs:=[vI bH,vS kW,vI uD,vB BD,vI nG,vI OT,vL EN J7.length EO]) rfl Tryz.isAgg56 (HS2.look 0 rfl) Tryz.sizeOf56 rfl rfl) ?_
    obtain ⟨v1,H1,H⟩:=bJ H
    refine run_eq (v:=vB v1) rfl rfl (bC Tryz.call116 rfl rfl (jJ.calls (⟨bH,kW,(⟨uD,BD⟩:eP),nG,OT,J7⟩:bV) EN EO HS2.sees RG RF H1)) ?_
    intro w3 hE2
    have HS3:=HS2.step hE2
    try simp only [sc0,sc1]
    refine aB<|aj<|wp_cond_split (t:=v1) rfl (fun c2=>?_) (fun c2=>?_)
    ·replace H:=bU H c2
     refine wp_seq<|region<|rs (vB false) (aC rfl) ?_
     try simp only [sc0,sc1]
     refine aB<|aj<|wp_ret<|aX<|dn<|aX<|gW<|aX ?_
     obtain rfl:=Option.some.inj H
     obtain rfl:=Option.some.inj G1
     exact bodyPost_ret (aW rfl (aV rfl)) rfl<|⟨rfl,HS3.toE⟩
    ·replace H:=bZ H (nt c2)
     refine wp_skip<|aj<|region<|rs (vP bx0 0) (aH (n:=1) (o':=0) rfl Tryz.runUnderlying24 rfl Tryz.sizeOf22 (by decide) rfl)<|rs (vL vC x0.ay.length vG) (aN rfl Tryz.isAgg22 (kR hx0 HS3.toE) rfl)<|rs (vP b1 4) (aH (n:=1) (o':=4) rfl Tryz.runUnderlying56 rfl Tryz.sizeOf3 (by decide) rfl)<|rs (vI nG) (aN rfl Tryz.isAgg3 (HS3.look 0 rfl) rfl)<|aI (by simp only [sc0,sc1];rfl) ?_
     obtain ⟨hi1,H⟩:=fE H
     obtain ⟨ad1,dO,dR,e1,kX,jO,iD⟩:=gU EM hi1.1 hi1.2
     refine rs (Value.pointer (some (Addr.add ad1 (nG.toNat*7)))) (dQ (sz:=7) rfl e1 rfl hi1.1 hi1.2 Tryz.runUnderlying22 Tryz.sizeOf56)<|rs (Value.agg #[vI ((rd ah x0.ay nG).aF),vS ((rd ah x0.ay nG).aU),vI ((rd ah x0.ay nG).bW.aS),vB ((rd ah x0.ay nG).bW.aO),vI ((rd ah x0.ay nG).dY),vI ((rd ah x0.ay nG).vN),vL dO ((rd ah x0.ay nG).au).length dR]) (gK rfl Tryz.isAgg56 (kX.sees HS3.sees) Tryz.sizeOf56)<|gq (i:=0) (cs:=[vI bH,vS kW,vI uD,vB BD,vI nG,vI OT,vL EN J7.length EO]) (cs':=[vI ((rd ah x0.ay nG).aF),vS ((rd ah x0.ay nG).aU),vI ((rd ah x0.ay nG).bW.aS),vB ((rd ah x0.ay nG).bW.aO),vI ((rd ah x0.ay nG).dY),vI ((rd ah x0.ay nG).vN),vL dO ((rd ah x0.ay nG).au).length dR]) (vs:=[vI ((rd ah x0.ay nG).aF),vS ((rd ah x0.ay nG).aU),vI ((rd ah x0.ay nG).bW.aS),vB ((rd ah x0.ay nG).bW.aO),vI ((rd ah x0.ay nG).dY),vI ((rd ah x0.ay nG).vN),vL dO ((rd ah x0.ay nG).au).length dR]) (bs':=[(some b1, .cells #[vI ((rd ah x0.ay nG).aF),vS ((rd ah x0.ay nG).aU),vI ((rd ah x0.ay nG).bW.aS),vB ((rd ah x0.ay nG).bW.aO),vI ((rd ah x0.ay nG).dY),vI ((rd ah x0.ay nG).vN),vL dO ((rd ah x0.ay nG).au).length dR] 56 (0,0))]) rfl rfl Tryz.sizeOf56 rfl rfl (by decide) rfl HS3 rfl (Nat.le_of_ble_eq_true rfl) rfl rfl ?_
     intro w4 HS4
     try simp only [sc0,sc1]
     refine aB<|dB<|aj<|region<|rs (vI (w64 (aG+1))) (bK rfl rfl rfl)<|rs (vI (w64 (aG+1))) (aK rfl) ?_
     try simp only [sc0,sc1]
     refine aB<|gX m (Nat.lt_succ_self m) rfl ⟨(w64 (aG+1)),(rd ah x0.ay nG).aF,(rd ah x0.ay nG).aU,(rd ah x0.ay nG).bW.aS,(rd ah x0.ay nG).bW.aO,(rd ah x0.ay nG).dY,(rd ah x0.ay nG).vN,(rd ah x0.ay nG).au,dO,dR,(fit rfl),H,jO,iD,HS4⟩
   ·replace H:=bZ H (nt c1)
    refine wp_exit<|fF ?_
    obtain rfl:=Option.some.inj H
    refine iw rfl ⟨_,rfl,EN,EO,(fit rfl),RF,RG,HS2⟩
 ·rintro us w5 ⟨s1,rfl,Jt,Ju,l7,WC,WE,HS5⟩
  obtain ⟨uo1,rfl⟩:=unj l7
  replace H:=G1
  clear G1
  try simp only [patch,sc0,sc1]
  refine aj<|wp_seq<|region<|rs (Value.agg #[vI s1.1,vS s1.2.1,vI s1.2.2.1,vB s1.2.2.2.1,vI s1.2.2.2.2.1,vI s1.2.2.2.2.2.1,vL Jt s1.2.2.2.2.2.2.length Ju]) (aY (n:=7) (vs:=[vI s1.1,vS s1.2.1,vI s1.2.2.1,vB s1.2.2.2.1,vI s1.2.2.2.2.1,vI s1.2.2.2.2.2.1,vL Jt s1.2.2.2.2.2.2.length Ju]) rfl Tryz.isAgg56 (HS5.look 0 rfl) Tryz.sizeOf56 rfl rfl) ?_
  obtain ⟨v2,H2,H⟩:=bJ H
  refine run_eq (v:=vB v2) rfl rfl (bC Tryz.call116 rfl rfl (jJ.calls (⟨s1.1,s1.2.1,(⟨s1.2.2.1,s1.2.2.2.1⟩:eP),s1.2.2.2.2.1,s1.2.2.2.2.2.1,s1.2.2.2.2.2.2⟩:bV) Jt Ju HS5.sees WE WC H2)) ?_
  intro w6 hE3
  have HS6:=HS5.step hE3
  refine rs (vB (!v2)) (kN rfl)<|rs (vB (!v2)) (aC rfl) ?_
  try simp only [sc0,sc1]
  refine aB<|aj<|wp_ret ?_
  obtain rfl:=Option.some.inj H
  exact bodyPost_ret (aW rfl (aV rfl)) rfl<|⟨rfl,HS6.toE⟩
def og.f (k:Nat) (a0:bf):Option (Bool):=(cO.f k a0.ay (fun z0=>iI.f k z0 a0)).bind fun v1=>(some (!v1))
theorem og.calls (k:Nat) (a0:bf) (bQ:Option Addr) (bT:Nat) {h0:View} {w0:World} (hv:jf h0 w0) (fB:Rd eX h0 bQ a0.ay) (gI:a0.ay.length≤bT) {r:Bool} (H:og.f k a0=some r):Calls Tryz.prog 117 #[Value.agg #[Value.slice bQ a0.ay.length bT]] w0 (fun e w1=>e= .returned (Value.bool r)∧Ext w0 w1):=by
 unfold og.f at H
 have HS:St [] h0 w0 h0 [] w0:=St.init hv
 go_enter Tryz.func117,Tryz.ntmps117
 refine wp_seq ?_
 refine region ?_
 refine dK rfl rfl (dH (cs:=#[Value.slice bQ a0.ay.length bT]) rfl rfl) ?_
 rintro w1 _ hE1 ⟨b1,rfl,ge1,hb1⟩
 have HS1:=HS.new hE1 ge1 hb1
 refine eY (v:=Value.bool false) rfl rfl (aC rfl) ?_
 try simp only [List.set_cons_zero,List.set_cons_succ]
 refine aB ?_
 refine aj ?_
 refine wp_seq ?_
 refine region ?_
 refine eY (v:=Value.pointer (some ⟨b1,0,none⟩)) rfl rfl (aH (n:=1) (o':=0) rfl Tryz.runUnderlying24 rfl Tryz.sizeOf22 (by decide) rfl) ?_
 refine eY (v:=Value.slice bQ a0.ay.length bT) rfl rfl (aN rfl Tryz.isAgg22 (HS1.look 0 rfl) rfl) ?_
 refine eY (v:=Value.func (.func 158) #[] #[Value.pointer (some ⟨b1,0,none⟩)]) rfl rfl (oC (vs:=[Value.pointer (some ⟨b1,0,none⟩)]) rfl) ?_
 obtain ⟨v1,H1,H⟩:=bJ H
 refine run_eq (v:=Value.bool v1) rfl rfl (bC Tryz.call118 rfl rfl (cO.calls k a0.ay (fun z0=>iI.f k z0 a0) bQ bT 158 [Value.pointer (some ⟨b1,0,none⟩)] HS1.sees fB gI Tryz.call158 (fun z0 wW wX h w hE hs hv Gs zB r H=>iI.calls k z0 a0 wW wX b1 bQ bT hv Gs zB (fB.ext hs) gI (kR (HS1.look 0 rfl) hE) H) H1)) ?_
 intro w2 hE2
 have HS2:=HS1.step hE2
 refine aI (by simp only [List.set_cons_zero,List.set_cons_succ];rfl) ?_
 refine eY (v:=Value.bool (!v1)) rfl rfl (kN rfl) ?_
 refine eY (v:=Value.bool (!v1)) rfl rfl (aC rfl) ?_
 try simp only [List.set_cons_zero,List.set_cons_succ]
 refine aB ?_
 refine aj ?_
 refine wp_ret ?_
 obtain rfl:=Option.some.inj H
 refine bodyPost_ret (aW rfl (aV rfl)) rfl ?_
 exact ⟨rfl,HS2.toE⟩
def iJ.l0 (a0:bV) (a1:List Int):Nat→Int→Int→Option ((Bool)⊕(Int))
 |0,_,_=>none
 |m+1,aG,bH=>if (decide (bH<(a0.au.length:Int)))=true then (if 0≤bH∧bH<a0.au.length then (if ((decide ((rd ak a0.au bH).vAt<aG))||(decide ((rd ak a0.au bH).vAt>512)))=true then (some (.inl false)) else (if 0≤(rd ak a0.au bH).vType∧(rd ak a0.au bH).vType<a1.length then (iJ.l0 a0 a1 m (IntKind.wrap .i64 ((rd ak a0.au bH).vAt+(rd 0 a1 ((rd ak a0.au bH).vType)))) (IntKind.wrap .i64 (bH+1))) else none)) else none) else (some (.inr aG))
def iJ.f (k:Nat) (a0:bV) (a1:List Int):Option (Bool):=(iJ.l0 a0 a1 k 0 0).bind fun xx1=>(match xx1 with| .inl r=>some r| .inr s1=>some (decide (s1≤a0.vN)))
theorem iJ.calls (k:Nat) (a0:bV) (a1:List Int) (jU:Option Addr) (jV:Nat) (lu:Option Addr) (lC:Nat) {h0:View} {w0:World} (hv:jf h0 w0) (qM:Rd fM h0 jU a0.au) (uZ:a0.au.length≤jV) (qx:Rd (Kd.int .i64) h0 lu a1) (wY:a1.length≤lC) {r:Bool} (H:iJ.f k a0 a1=some r):Calls Tryz.prog 120 #[Value.agg #[vI a0.aF,vS a0.aU,vI a0.bW.aS,vB a0.bW.aO,vI a0.dY,vI a0.vN,vL jU a0.au.length jV],vL lu a1.length lC] w0 (fun e w1=>e= .returned (vB r)∧Ext w0 w1):=by
 unfold iJ.f at H
 have HS:St [] h0 w0 h0 [] w0:=St.init hv
 go_enter Tryz.func120,Tryz.ntmps120
 refine wp_seq<|region<|dK rfl rfl (dH (cs:=#[vI a0.aF,vS a0.aU,vI a0.bW.aS,vB a0.bW.aO,vI a0.dY,vI a0.vN,vL jU a0.au.length jV]) rfl rfl) ?_
 rintro w1 _ hE1 ⟨b1,rfl,ge1,hb1⟩
 have HS1:=HS.new hE1 ge1 hb1
 refine rs (vB false) (aC rfl) ?_
 try simp only [sc0,sc1]
 refine aB<|aj<|wp_seq<|region<|rs (vI 0) (aC rfl) ?_
 try simp only [sc0,sc1]
 refine aB<|aj<|wp_seq<|wp_seq<|region<|rs (vP b1 6) (aH (n:=1) (o':=6) rfl Tryz.runUnderlying56 rfl Tryz.sizeOf54 (by decide) rfl)<|rs (vL jU a0.au.length jV) (aN rfl Tryz.isAgg54 (HS1.look 0 rfl) rfl)<|rs (vI (a0.au.length:Int)) (iT rfl Tryz.runUnderlying54)<|rs (vI 0) (aK rfl) ?_
 try simp only [sc0,sc1]
 refine aB<|aj ?_
 obtain ⟨xx1,H,G1⟩:=bJ H
 refine iW [4,5,7,11,12,13,14,15,16,17,18,19,20,21,22,23,24,25,26,27,28,29,30,31,32] (fun m us w'=>∃aG bH:Int,Fit us (fun uy1=>[(uy1 0),vI aG,(uy1 2),vI bH,(uy1 4),(uy1 5),(uy1 6),(uy1 7),(uy1 8),(uy1 9),(uy1 10),(uy1 11),(uy1 12),(uy1 13),(uy1 14),(uy1 15),(uy1 16),(uy1 17),(uy1 18),(uy1 19),(uy1 20),(uy1 21),(uy1 22),(uy1 23),(uy1 24)])∧iJ.l0 a0 a1 m aG bH=some xx1∧St [] h0 w0 h0 [(some b1, .cells #[vI a0.aF,vS a0.aU,vI a0.bW.aS,vB a0.bW.aO,vI a0.dY,vI a0.vN,vL jU a0.au.length jV] 56 (0,0))] w') (fun us w'=>∃(s1:Int),xx1= .inr s1∧Fit us (fun uo1=>[(uo1 0),vI s1,(uo1 2),(uo1 3),(uo1 4),(uo1 5),(uo1 6),(uo1 7),(uo1 8),(uo1 9),(uo1 10),(uo1 11),(uo1 12),(uo1 13),(uo1 14),(uo1 15),(uo1 16),(uo1 17),(uo1 18),(uo1 19),(uo1 20),(uo1 21),(uo1 22),(uo1 23),(uo1 24)])∧St [] h0 w0 h0 [(some b1, .cells #[vI a0.aF,vS a0.aU,vI a0.bW.aS,vB a0.bW.aO,vI a0.dY,vI a0.vN,vL jU a0.au.length jV] 56 (0,0))] w') k ⟨0,0,(fit rfl),H,HS1⟩ ?_ ?_
 ·rintro m us w2 ⟨aG,bH,lZ,H,HS2⟩
  obtain ⟨uy1,rfl⟩:=unj lZ
  cases m with
  |zero=>exact absurd H (by simp [iJ.l0])
  |succ m=>
   rw [iJ.l0] at H
   try simp only [patch,sc0,sc1]
   refine wp_seq<|region<|rs (vB (decide (bH<(a0.au.length:Int)))) (bK rfl rfl rfl) ?_
   try simp only [sc0,sc1]
   refine aB<|aj<|wp_seq<|wp_cond_split (t:=(decide (bH<(a0.au.length:Int)))) rfl (fun c1=>?_) (fun c1=>?_)
   ·replace H:=bU H c1
    refine wp_skip<|aj<|wp_seq<|wp_block<|wp_seq<|region ?_
    obtain ⟨hi1,H⟩:=fE H
    obtain ⟨ad1,e1,kX⟩:=iR qM hi1.1 hi1.2
    refine rs (Value.pointer (some (Addr.add ad1 (bH.toNat*3)))) (dQ (sz:=3) rfl e1 rfl hi1.1 hi1.2 Tryz.runUnderlying54 Tryz.sizeOf129)<|rs (Value.agg #[vS ((rd ak a0.au bH).aU),vI ((rd ak a0.au bH).vType),vI ((rd ak a0.au bH).vAt)]) (gK rfl Tryz.isAgg129 (kX.sees HS2.sees) Tryz.sizeOf129)<|dK rfl rfl (fA (cs:=#[vS ByteArray.empty,vI 0,vI 0]) Tryz.zeroValue129 rfl) ?_
    rintro w3 _ hE2 ⟨b2,rfl,ge2,hb2⟩
    have HS3:=HS2.new hE2 ge2 hb2
    refine gq (i:=0) (cs:=[vS ByteArray.empty,vI 0,vI 0]) (cs':=[vS ((rd ak a0.au bH).aU),vI ((rd ak a0.au bH).vType),vI ((rd ak a0.au bH).vAt)]) (vs:=[vS ((rd ak a0.au bH).aU),vI ((rd ak a0.au bH).vType),vI ((rd ak a0.au bH).vAt)]) (bs':=[(some b2, .cells #[vS ((rd ak a0.au bH).aU),vI ((rd ak a0.au bH).vType),vI ((rd ak a0.au bH).vAt)] 129 (0,0)),(some b1, .cells #[vI a0.aF,vS a0.aU,vI a0.bW.aS,vB a0.bW.aO,vI a0.dY,vI a0.vN,vL jU a0.au.length jV] 56 (0,0))]) rfl rfl Tryz.sizeOf129 rfl rfl (by decide) rfl HS3 rfl (Nat.le_of_ble_eq_true rfl) rfl rfl ?_
    intro w4 HS4
    try simp only [sc0,sc1]
    refine aB<|aj<|wp_seq<|wp_seq<|region<|rs (vP b2 2) (aH (n:=1) (o':=2) rfl Tryz.runUnderlying129 rfl Tryz.sizeOf3 (by decide) rfl)<|rs (vI ((rd ak a0.au bH).vAt)) (aN rfl Tryz.isAgg3 (HS4.look 0 rfl) rfl)<|rs (vI aG) (aK rfl)<|rs (vB (decide ((rd ak a0.au bH).vAt<aG))) (bK rfl rfl rfl)<|aI (by simp only [sc0,sc1];rfl) ?_
    refine rs (vB (decide ((rd ak a0.au bH).vAt<aG))) (aK rfl)<|rgs (decide ((rd ak a0.au bH).vAt<aG)) true (vP b2 2) rfl rfl rfl rfl (fun hg=>(aH (n:=1) (o':=2) rfl Tryz.runUnderlying129 rfl Tryz.sizeOf3 (by decide) rfl))<|rgs (decide ((rd ak a0.au bH).vAt<aG)) true (vI ((rd ak a0.au bH).vAt)) rfl rfl rfl rfl (fun hg=>(aN (gvt (vP b2 2) hg rfl) Tryz.isAgg3 (HS4.look 0 rfl) rfl))<|rgs (decide ((rd ak a0.au bH).vAt<aG)) true (vB (decide ((rd ak a0.au bH).vAt>512))) rfl rfl rfl rfl (fun hg=>(bK (gvt (vI ((rd ak a0.au bH).vAt)) hg rfl) rfl rfl))<|aI (by simp only [sc0,sc1];rfl) ?_
    refine rs (vB ((decide ((rd ak a0.au bH).vAt<aG))||(decide ((rd ak a0.au bH).vAt>512)))) (dV rfl rfl (fun hp=>(gvt (vB (decide ((rd ak a0.au bH).vAt>512))) (gu rfl hp) rfl))) ?_
    try simp only [sc0,sc1]
    refine aB<|aj<|wp_cond_split (t:=((decide ((rd ak a0.au bH).vAt<aG))||(decide ((rd ak a0.au bH).vAt>512)))) rfl (fun c2=>?_) (fun c2=>?_)
    ·replace H:=bU H c2
     refine wp_seq<|region<|rs (vB false) (aC rfl) ?_
     try simp only [sc0,sc1]
     refine aB<|aj<|wp_ret<|aX<|dn<|aX<|gW<|aX ?_
     obtain rfl:=Option.some.inj H
     obtain rfl:=Option.some.inj G1
     exact bodyPost_ret (aW rfl (aV rfl)) rfl<|⟨rfl,HS4.toE⟩
    ·replace H:=bZ H (nt c2)
     refine wp_skip<|aj ?_
     obtain ⟨hi2,H⟩:=fE H
     obtain ⟨ad2,e2,wV⟩:=oU qx hi2.1 hi2.2
     refine drawn [.eq (vP b2 2), .eq (vI ((rd ak a0.au bH).vAt)), .eq (vL lu a1.length lC), .eq (vP b2 1), .eq (vI ((rd ak a0.au bH).vType)), .eq (Value.pointer (some (Addr.add ad2 (((rd ak a0.au bH).vType).toNat*1)))), .eq (vI (rd 0 a1 ((rd ak a0.au bH).vType))), .eq (vI (w64 ((rd ak a0.au bH).vAt+(rd 0 a1 ((rd ak a0.au bH).vType)))))] [24,25,26,27,28,29,30,31] nD (by kernel_rfl) rfl (bn (bn (bn (bn (bn (bn (bn (bn jh)))))))) ⟨bI rfl (fun a' w' hE hk=>by have HSd:=HS4.step hE;exact cu (aH (n:=1) (o':=2) (show _=vP b2 0 from hk 7 rfl) Tryz.runUnderlying129 rfl Tryz.sizeOf3 (by decide) rfl)),bI rfl (fun a' w' hE hk=>by have HSd:=HS4.step hE;exact cu (aN (show _=vP b2 2 from hk 24 rfl) Tryz.isAgg3 (HSd.look 0 rfl) rfl)),bI rfl (fun a' w' hE hk=>by have HSd:=HS4.step hE;exact cu (aK (show _=vL lu a1.length lC from hk 1 rfl))),bI rfl (fun a' w' hE hk=>by have HSd:=HS4.step hE;exact cu (aH (n:=1) (o':=1) (show _=vP b2 0 from hk 7 rfl) Tryz.runUnderlying129 rfl Tryz.sizeOf3 (by decide) rfl)),bI rfl (fun a' w' hE hk=>by have HSd:=HS4.step hE;exact cu (aN (show _=vP b2 1 from hk 27 rfl) Tryz.isAgg3 (HSd.look 0 rfl) rfl)),bI rfl (fun a' w' hE hk=>by have HSd:=HS4.step hE;exact cu (dQ (sz:=1) (show _=vL lu a1.length lC from hk 26 rfl) e2 (show _=vI ((rd ak a0.au bH).vType) from hk 28 rfl) hi2.1 hi2.2 Tryz.runUnderlying81 Tryz.sizeOf3)),bI rfl (fun a' w' hE hk=>by have HSd:=HS4.step hE;exact cu (jF (show _=Value.pointer (some (Addr.add ad2 (((rd ak a0.au bH).vType).toNat*1))) from hk 29 rfl) Tryz.isAgg3 (wV.cell0 HSd.sees rfl))),bI rfl (fun a' w' hE hk=>by have HSd:=HS4.step hE;exact cu (bK (show _=vI ((rd ak a0.au bH).vAt) from hk 25 rfl) (show _=vI (rd 0 a1 ((rd ak a0.au bH).vType)) from hk 30 rfl) rfl)),trivial⟩ ?_
     intro w5 hE3
     simp only [List.zip_cons_cons,List.zip_nil_left,List.zip_nil_right,yh,sc0,sc1,List.length_cons,List.length_nil,List.drop_succ_cons,List.drop_zero,Nat.zero_add,Nat.reduceAdd]
     have HS5:=HS4.step hE3
     refine rs (vI (w64 ((rd ak a0.au bH).vAt+(rd 0 a1 ((rd ak a0.au bH).vType))))) (aC rfl) ?_
     try simp only [sc0,sc1]
     refine aB<|dB<|aj<|region<|rs (vI (w64 (bH+1))) (bK rfl rfl rfl)<|rs (vI (w64 (bH+1))) (aK rfl) ?_
     try simp only [sc0,sc1]
     refine aB<|gX m (Nat.lt_succ_self m) rfl ⟨(w64 ((rd ak a0.au bH).vAt+(rd 0 a1 ((rd ak a0.au bH).vType)))),(w64 (bH+1)),(fit rfl),H,HS5.tail⟩
   ·replace H:=bZ H (nt c1)
    refine wp_exit<|fF ?_
    obtain rfl:=Option.some.inj H
    refine iw rfl ⟨_,rfl,(fit rfl),HS2⟩
 ·rintro us w6 ⟨s1,rfl,l7,HS6⟩
  obtain ⟨uo1,rfl⟩:=unj l7
  replace H:=G1
  clear G1
  try simp only [patch,sc0,sc1]
  refine aj<|wp_seq<|region<|rs (vI s1) (aK rfl)<|rs (vP b1 5) (aH (n:=1) (o':=5) rfl Tryz.runUnderlying56 rfl Tryz.sizeOf3 (by decide) rfl)<|rs (vI a0.vN) (aN rfl Tryz.isAgg3 (HS6.look 0 rfl) rfl)<|rs (vB (decide (s1≤a0.vN))) (bK rfl rfl rfl)<|aI (by simp only [sc0,sc1];rfl) ?_
  refine rs (vB (decide (s1≤a0.vN))) (aC rfl) ?_
  try simp only [sc0,sc1]
  refine aB<|aj<|wp_ret ?_
  obtain rfl:=Option.some.inj H
  exact bodyPost_ret (aW rfl (aV rfl)) rfl<|⟨rfl,HS6.toE⟩
def jy.f (k:Nat) (a0:bV) (x0:List Int):Option (Bool):=(if (true&&((a0.aF==4)==true))=true then iJ.f k a0 x0 else some false).bind fun v1=>(some ((a0.aF==4)&&(!v1)))
theorem jy.calls (k:Nat) (a0:bV) (x0:List Int) (jU:Option Addr) (jV:Nat) (bx0:Nat) (vC:Option Addr) (vG:Nat) {h0:View} {w0:World} (hv:jf h0 w0) (qM:Rd fM h0 jU a0.au) (uZ:a0.au.length≤jV) (EM:Rd (Kd.int .i64) h0 vC x0) (NT:x0.length≤vG) (hx0:w0.heap[bx0]?=some (.cells #[Value.slice vC x0.length vG] 81 (0,0))) {r:Bool} (H:jy.f k a0 x0=some r):Calls Tryz.prog 119 #[Value.agg #[Value.int .i64 a0.aF,Value.string a0.aU,Value.int .i64 a0.bW.aS,Value.bool a0.bW.aO,Value.int .i64 a0.dY,Value.int .i64 a0.vN,Value.slice jU a0.au.length jV],Value.pointer (some ⟨bx0,0,none⟩)] w0 (fun e w1=>e= .returned (Value.bool r)∧Ext w0 w1):=by
 unfold jy.f at H
 have HS:St [] h0 w0 h0 [] w0:=St.init hv
 go_enter Tryz.func119,Tryz.ntmps119
 refine wp_seq ?_
 refine region ?_
 refine dK rfl rfl (dH (cs:=#[Value.int .i64 a0.aF,Value.string a0.aU,Value.int .i64 a0.bW.aS,Value.bool a0.bW.aO,Value.int .i64 a0.dY,Value.int .i64 a0.vN,Value.slice jU a0.au.length jV]) rfl rfl) ?_
 rintro w1 _ hE1 ⟨b1,rfl,ge1,hb1⟩
 have HS1:=HS.new hE1 ge1 hb1
 refine eY (v:=Value.bool false) rfl rfl (aC rfl) ?_
 try simp only [List.set_cons_zero,List.set_cons_succ]
 refine aB ?_
 refine aj ?_
 refine wp_seq ?_
 refine region ?_
 refine eY (v:=Value.pointer (some ⟨b1,0,none⟩)) rfl rfl (aH (n:=1) (o':=0) rfl Tryz.runUnderlying56 rfl Tryz.sizeOf3 (by decide) rfl) ?_
 refine eY (v:=Value.int .i64 a0.aF) rfl rfl (aN rfl Tryz.isAgg3 (HS1.look 0 rfl) rfl) ?_
 refine eY (v:=Value.bool (a0.aF==4)) rfl rfl (bK rfl rfl rfl) ?_
 refine eY (v:=Value.bool (a0.aF==4)) rfl rfl (aK rfl) ?_
 refine aI (by simp only [List.set_cons_zero,List.set_cons_succ];rfl) ?_
 refine fV (b:=(a0.aF==4)) (c:=true) (v:=Value.agg #[Value.int .i64 a0.aF,Value.string a0.aU,Value.int .i64 a0.bW.aS,Value.bool a0.bW.aO,Value.int .i64 a0.dY,Value.int .i64 a0.vN,Value.slice jU a0.au.length jV]) rfl rfl rfl rfl (fun hg=>(aY (n:=7) (vs:=[Value.int .i64 a0.aF,Value.string a0.aU,Value.int .i64 a0.bW.aS,Value.bool a0.bW.aO,Value.int .i64 a0.dY,Value.int .i64 a0.vN,Value.slice jU a0.au.length jV]) rfl Tryz.isAgg56 (HS1.look 0 rfl) Tryz.sizeOf56 rfl rfl)) ?_
 refine fV (b:=(a0.aF==4)) (c:=true) (v:=Value.slice vC x0.length vG) rfl rfl rfl rfl (fun hg=>(aN rfl Tryz.isAgg81 (kR hx0 HS1.toE) rfl)) ?_
 obtain ⟨v1,H1,H⟩:=bJ H
 refine vU (b:=(a0.aF==4)) (c:=true) (v:=Value.bool v1) rfl rfl rfl rfl (fun hg=>(bC Tryz.call120 rfl (Kt ((show _=gv (true&&((a0.aF==4)==true)) (Value.agg #[Value.int .i64 a0.aF,Value.string a0.aU,Value.int .i64 a0.bW.aS,Value.bool a0.bW.aO,Value.int .i64 a0.dY,Value.int .i64 a0.vN,Value.slice jU a0.au.length jV]) from rfl).trans (pK hg)) ((show _=gv (true&&((a0.aF==4)==true)) (Value.slice vC x0.length vG) from rfl).trans (pK hg))) (iJ.calls k a0 x0 jU jV vC vG HS1.sees qM uZ EM NT (bU H1 hg)))) ?_
 intro w2 hE2
 have HS2:=HS1.step hE2
 refine fV (b:=(a0.aF==4)) (c:=true) (v:=Value.bool (!v1)) rfl rfl rfl rfl (fun hg=>(kN ((show _=gv (true&&((a0.aF==4)==true)) (Value.bool v1) from rfl).trans (pK hg)))) ?_
 refine aI (by simp only [List.set_cons_zero,List.set_cons_succ];rfl) ?_
 refine eY (v:=Value.bool ((a0.aF==4)&&(!v1))) rfl rfl (dw rfl (fun hp=>((show _=gv (true&&((a0.aF==4)==true)) (Value.bool (!v1)) from rfl).trans (pK (gu rfl hp)))) rfl) ?_
 refine eY (v:=Value.bool ((a0.aF==4)&&(!v1))) rfl rfl (aC rfl) ?_
 try simp only [List.set_cons_zero,List.set_cons_succ]
 refine aB ?_
 refine aj ?_
 refine wp_ret ?_
 obtain rfl:=Option.some.inj H
 refine bodyPost_ret (aW rfl (aV rfl)) rfl ?_
 exact ⟨rfl,HS2.toE⟩
def dF.l0 (k:Nat) (a0:bf):Nat→Int→(List (ByteArray×Bool))→Option ((Bool)⊕((List (ByteArray×Bool))))
 |0,_,_=>none
 |m+1,aG,bH=>if (decide (aG<(a0.ay.length:Int)))=true then (if 0≤aG∧aG<a0.ay.length then ((gB.f k (rd ah a0.ay aG) (a0.ay.length:Int)).bind fun v1=>((if (true&&((!v1)==false))=true then jJ.f (rd ah a0.ay aG) else some false).bind fun v2=>(if ((!v1)||(v2&&((bM strEq bH ((rd ah a0.ay aG).aU)).getD false)))=true then (some (.inl false)) else (dF.l0 k a0 m (IntKind.wrap .i64 (aG+1)) (fJ strEq bH ((rd ah a0.ay aG).aU) true))))) else none) else (some (.inr bH))
def dF.f (k:Nat) (a0:bf):Option (Bool):=if (decide ((a0.ay.length:Int)>200))=true then (some false) else ((dF.l0 k a0 k 0 ([]:List (ByteArray×Bool))).bind fun xx1=>(match xx1 with| .inl r=>some r| .inr s1=>(fK.f k a0).bind fun v3=>((if (true&&((!v3.2)==false))=true then og.f k a0 else some false).bind fun v4=>(if ((!v3.2)||(!v4))=true then (some false) else ((cO.f k a0.ay (fun z0=>jy.f k z0 v3.1)).bind fun v5=>(some (!v5)))))))
theorem dF.calls (k:Nat) (a0:bf) (bQ:Option Addr) (bT:Nat) {h0:View} {w0:World} (hv:jf h0 w0) (fB:Rd eX h0 bQ a0.ay) (gI:a0.ay.length≤bT) {r:Bool} (H:dF.f k a0=some r):Calls Tryz.prog 74 #[Value.agg #[vL bQ a0.ay.length bT]] w0 (fun e w1=>e= .returned (vB r)∧Ext w0 w1):=by
 unfold dF.f at H
 have HS:St [] h0 w0 h0 [] w0:=St.init hv
 go_enter Tryz.func74,Tryz.ntmps74
 refine wp_seq<|region<|dK rfl rfl (dH (cs:=#[vL bQ a0.ay.length bT]) rfl rfl) ?_
 rintro w1 _ hE1 ⟨b1,rfl,ge1,hb1⟩
 have HS1:=HS.new hE1 ge1 hb1
 refine rs (vB false) (aC rfl) ?_
 try simp only [sc0,sc1]
 refine aB<|aj<|wp_seq<|wp_seq<|region<|rs (vP b1 0) (aH (n:=1) (o':=0) rfl Tryz.runUnderlying24 rfl Tryz.sizeOf22 (by decide) rfl)<|rs (vL bQ a0.ay.length bT) (aN rfl Tryz.isAgg22 (HS1.look 0 rfl) rfl)<|rs (vI (a0.ay.length:Int)) (iT rfl Tryz.runUnderlying22)<|rs (vB (decide ((a0.ay.length:Int)>200))) (bK rfl rfl rfl) ?_
 try simp only [sc0,sc1]
 refine aB<|aj<|wp_cond_split (t:=(decide ((a0.ay.length:Int)>200))) rfl (fun c1=>?_) (fun c1=>?_)
 ·replace H:=bU H c1
  refine wp_seq<|region<|rs (vB false) (aC rfl) ?_
  try simp only [sc0,sc1]
  refine aB<|aj<|wp_ret<|aX ?_
  obtain rfl:=Option.some.inj H
  exact bodyPost_ret (aW rfl (aV rfl)) rfl<|⟨rfl,HS1.toE⟩
 ·replace H:=bZ H (nt c1)
  refine wp_skip<|aj<|wp_seq<|region<|uK HS1 ?_
  intro w2 b2 HS2
  refine rs (Value.map (some b2)) (aC rfl) ?_
  try simp only [sc0,sc1]
  refine aB<|aj<|wp_seq<|wp_seq<|region<|rs (vP b1 0) (aH (n:=1) (o':=0) rfl Tryz.runUnderlying24 rfl Tryz.sizeOf22 (by decide) rfl)<|rs (vL bQ a0.ay.length bT) (aN rfl Tryz.isAgg22 (HS2.look 1 rfl) rfl)<|rs (vI (a0.ay.length:Int)) (iT rfl Tryz.runUnderlying22)<|rs (vI 0) (aK rfl) ?_
  try simp only [sc0,sc1]
  refine aB<|aj ?_
  obtain ⟨xx1,H,G1⟩:=bJ H
  refine iW [2,5,16,17,18,19,20,21,22,23,24,25,26,27,28,29,30,31,32,33,34,35,36,37,38,39] (fun m us w'=>∃(aG:Int),∃(bH:List (ByteArray×Bool)),∃(su:Array MapEntry) (sD:Nat),Fit us (fun uy1=>[(uy1 0),(uy1 1),vI aG,(uy1 3),(uy1 4),(uy1 5),(uy1 6),(uy1 7),(uy1 8),(uy1 9),(uy1 10),(uy1 11),(uy1 12),(uy1 13),(uy1 14),(uy1 15),(uy1 16),(uy1 17),(uy1 18),(uy1 19),(uy1 20),(uy1 21),(uy1 22),(uy1 23),(uy1 24),(uy1 25)])∧dF.l0 k a0 m aG bH=some xx1∧pR vS vB bH su sD∧St [] h0 w0 h0 [(some b2, .map su sD),(some b1, .cells #[vL bQ a0.ay.length bT] 24 (0,0))] w') (fun us w'=>∃(s1:(List (ByteArray×Bool))),xx1= .inr s1∧∃(xH:Array MapEntry) (xI:Nat),Fit us (fun uo1=>[(uo1 0),(uo1 1),(uo1 2),(uo1 3),(uo1 4),(uo1 5),(uo1 6),(uo1 7),(uo1 8),(uo1 9),(uo1 10),(uo1 11),(uo1 12),(uo1 13),(uo1 14),(uo1 15),(uo1 16),(uo1 17),(uo1 18),(uo1 19),(uo1 20),(uo1 21),(uo1 22),(uo1 23),(uo1 24),(uo1 25)])∧pR vS vB s1 xH xI∧St [] h0 w0 h0 [(some b2, .map xH xI),(some b1, .cells #[vL bQ a0.ay.length bT] 24 (0,0))] w') k ⟨0,([]:List (ByteArray×Bool)),#[],0,(fit rfl),H,(pR.nil),HS2⟩ ?_ ?_
  ·rintro m us w3 ⟨aG,bH,su,sD,lZ,H,ng,HS3⟩
   obtain ⟨uy1,rfl⟩:=unj lZ
   cases m with
   |zero=>exact absurd H (by simp [dF.l0])
   |succ m=>
    rw [dF.l0] at H
    try simp only [patch,sc0,sc1]
    refine wp_seq<|region<|rs (vB (decide (aG<(a0.ay.length:Int)))) (bK rfl rfl rfl) ?_
    try simp only [sc0,sc1]
    refine aB<|aj<|wp_seq<|wp_cond_split (t:=(decide (aG<(a0.ay.length:Int)))) rfl (fun c2=>?_) (fun c2=>?_)
    ·replace H:=bU H c2
     refine wp_skip<|aj<|wp_seq<|wp_block<|wp_seq<|region ?_
     obtain ⟨hi1,H⟩:=fE H
     obtain ⟨ad1,dO,dR,e1,kX,jO,iD⟩:=gU fB hi1.1 hi1.2
     refine rs (Value.pointer (some (Addr.add ad1 (aG.toNat*7)))) (dQ (sz:=7) rfl e1 rfl hi1.1 hi1.2 Tryz.runUnderlying22 Tryz.sizeOf56)<|rs (Value.agg #[vI ((rd ah a0.ay aG).aF),vS ((rd ah a0.ay aG).aU),vI ((rd ah a0.ay aG).bW.aS),vB ((rd ah a0.ay aG).bW.aO),vI ((rd ah a0.ay aG).dY),vI ((rd ah a0.ay aG).vN),vL dO ((rd ah a0.ay aG).au).length dR]) (gK rfl Tryz.isAgg56 (kX.sees HS3.sees) Tryz.sizeOf56)<|dK rfl rfl (fA (cs:=#[vI 0,vS ByteArray.empty,vI 0,vB false,vI 0,vI 0,vL none 0 0]) Tryz.zeroValue56 rfl) ?_
     rintro w4 _ hE2 ⟨b3,rfl,ge2,hb2⟩
     have HS4:=HS3.new hE2 ge2 hb2
     refine gq (i:=0) (cs:=[vI 0,vS ByteArray.empty,vI 0,vB false,vI 0,vI 0,vL none 0 0]) (cs':=[vI ((rd ah a0.ay aG).aF),vS ((rd ah a0.ay aG).aU),vI ((rd ah a0.ay aG).bW.aS),vB ((rd ah a0.ay aG).bW.aO),vI ((rd ah a0.ay aG).dY),vI ((rd ah a0.ay aG).vN),vL dO ((rd ah a0.ay aG).au).length dR]) (vs:=[vI ((rd ah a0.ay aG).aF),vS ((rd ah a0.ay aG).aU),vI ((rd ah a0.ay aG).bW.aS),vB ((rd ah a0.ay aG).bW.aO),vI ((rd ah a0.ay aG).dY),vI ((rd ah a0.ay aG).vN),vL dO ((rd ah a0.ay aG).au).length dR]) (bs':=[(some b3, .cells #[vI ((rd ah a0.ay aG).aF),vS ((rd ah a0.ay aG).aU),vI ((rd ah a0.ay aG).bW.aS),vB ((rd ah a0.ay aG).bW.aO),vI ((rd ah a0.ay aG).dY),vI ((rd ah a0.ay aG).vN),vL dO ((rd ah a0.ay aG).au).length dR] 56 (0,0)),(some b2, .map su sD),(some b1, .cells #[vL bQ a0.ay.length bT] 24 (0,0))]) rfl rfl Tryz.sizeOf56 rfl rfl (by decide) rfl HS4 rfl (Nat.le_of_ble_eq_true rfl) rfl rfl ?_
     intro w5 HS5
     try simp only [sc0,sc1]
     refine aB<|aj<|wp_seq<|wp_seq<|region<|rs (Value.agg #[vI ((rd ah a0.ay aG).aF),vS ((rd ah a0.ay aG).aU),vI ((rd ah a0.ay aG).bW.aS),vB ((rd ah a0.ay aG).bW.aO),vI ((rd ah a0.ay aG).dY),vI ((rd ah a0.ay aG).vN),vL dO ((rd ah a0.ay aG).au).length dR]) (aY (n:=7) (vs:=[vI ((rd ah a0.ay aG).aF),vS ((rd ah a0.ay aG).aU),vI ((rd ah a0.ay aG).bW.aS),vB ((rd ah a0.ay aG).bW.aO),vI ((rd ah a0.ay aG).dY),vI ((rd ah a0.ay aG).vN),vL dO ((rd ah a0.ay aG).au).length dR]) rfl Tryz.isAgg56 (HS5.look 0 rfl) Tryz.sizeOf56 rfl rfl)<|rs (vP b1 0) (aH (n:=1) (o':=0) rfl Tryz.runUnderlying24 rfl Tryz.sizeOf22 (by decide) rfl)<|rs (vL bQ a0.ay.length bT) (aN rfl Tryz.isAgg22 (HS5.look 2 rfl) rfl)<|rs (vI (a0.ay.length:Int)) (iT rfl Tryz.runUnderlying22)<|aI (by simp only [sc0,sc1];rfl) ?_
     obtain ⟨v1,H1,H⟩:=bJ H
     refine run_eq (v:=vB v1) rfl rfl (bC Tryz.call115 rfl rfl (gB.calls k (rd ah a0.ay aG) (a0.ay.length:Int) dO dR HS5.sees iD jO H1)) ?_
     intro w6 hE3
     have HS6:=HS5.step hE3
     refine rs (vB (!v1)) (kN rfl)<|rs (vB (!v1)) (aK rfl)<|rgs (!v1) true (Value.agg #[vI ((rd ah a0.ay aG).aF),vS ((rd ah a0.ay aG).aU),vI ((rd ah a0.ay aG).bW.aS),vB ((rd ah a0.ay aG).bW.aO),vI ((rd ah a0.ay aG).dY),vI ((rd ah a0.ay aG).vN),vL dO ((rd ah a0.ay aG).au).length dR]) rfl rfl rfl rfl (fun hg=>(aY (n:=7) (vs:=[vI ((rd ah a0.ay aG).aF),vS ((rd ah a0.ay aG).aU),vI ((rd ah a0.ay aG).bW.aS),vB ((rd ah a0.ay aG).bW.aO),vI ((rd ah a0.ay aG).dY),vI ((rd ah a0.ay aG).vN),vL dO ((rd ah a0.ay aG).au).length dR]) rfl Tryz.isAgg56 (HS6.look 0 rfl) Tryz.sizeOf56 rfl rfl))<|aI (by simp only [sc0,sc1];rfl) ?_
     obtain ⟨v2,H2,H⟩:=bJ H
     refine vU (b:=(!v1)) (c:=true) (v:=vB v2) rfl rfl rfl rfl (fun hg=>(bC Tryz.call116 rfl (OV (gvt (Value.agg #[vI ((rd ah a0.ay aG).aF),vS ((rd ah a0.ay aG).aU),vI ((rd ah a0.ay aG).bW.aS),vB ((rd ah a0.ay aG).bW.aO),vI ((rd ah a0.ay aG).dY),vI ((rd ah a0.ay aG).vN),vL dO ((rd ah a0.ay aG).au).length dR]) hg rfl)) (jJ.calls (rd ah a0.ay aG) dO dR HS6.sees iD jO (bU H2 hg)))) ?_
     intro w7 hE4
     have HS7:=HS6.step hE4
     refine rgs (!v1) true (vB v2) rfl rfl rfl rfl (fun hg=>(aK (gvt (vB v2) hg rfl)))<|rgs v2 (true&&((!v1)==false)) (Value.map (some b2)) rfl rfl rfl rfl (fun hg=>(aK rfl))<|rgs v2 (true&&((!v1)==false)) (vP b3 1) rfl rfl rfl rfl (fun hg=>(aH (n:=1) (o':=1) rfl Tryz.runUnderlying56 rfl Tryz.sizeOf9 (by decide) rfl))<|aI (by simp only [sc0,sc1];rfl) ?_
     refine rgs v2 (true&&((!v1)==false)) (vS ((rd ah a0.ay aG).aU)) rfl rfl rfl rfl (fun hg=>(aN (gvt (vP b3 1) hg rfl) Tryz.isAgg9 (HS7.look 0 rfl) rfl))<|rgs v2 (true&&((!v1)==false)) (vB ((bM strEq bH ((rd ah a0.ay aG).aU)).getD false)) rfl rfl rfl rfl (fun hg=>(KD (CB Tryz.runUnderlying9) (k:=((rd ah a0.ay aG).aU)) (m:=bH) (ev:=vB) false (gvt (Value.map (some b2)) hg rfl) (gvt (vS ((rd ah a0.ay aG).aU)) hg rfl) Tryz.runUnderlying210 Tryz.zeroValue4 (HS7.look 1 rfl) ng))<|rgs (!v1) true (vB (v2&&((bM strEq bH ((rd ah a0.ay aG).aU)).getD false))) rfl rfl rfl rfl (fun hg=>(dw (gvt (vB v2) hg rfl) (fun hp=>(gvt (vB ((bM strEq bH ((rd ah a0.ay aG).aU)).getD false)) (gu hg hp) rfl)) rfl))<|rs (vB ((!v1)||(v2&&((bM strEq bH ((rd ah a0.ay aG).aU)).getD false)))) (dV rfl rfl (fun hp=>(gvt (vB (v2&&((bM strEq bH ((rd ah a0.ay aG).aU)).getD false))) (gu rfl hp) rfl))) ?_
     try simp only [sc0,sc1]
     refine aB<|aj<|wp_cond_split (t:=((!v1)||(v2&&((bM strEq bH ((rd ah a0.ay aG).aU)).getD false)))) rfl (fun c3=>?_) (fun c3=>?_)
     ·replace H:=bU H c3
      refine wp_seq<|region<|rs (vB false) (aC rfl) ?_
      try simp only [sc0,sc1]
      refine aB<|aj<|wp_ret<|aX<|dn<|aX<|gW<|aX ?_
      obtain rfl:=Option.some.inj H
      obtain rfl:=Option.some.inj G1
      exact bodyPost_ret (aW rfl (aV rfl)) rfl<|⟨rfl,HS7.toE⟩
     ·replace H:=bZ H (nt c3)
      refine wp_skip<|aj<|region<|rs (Value.map (some b2)) (aK rfl)<|rs (vP b3 1) (aH (n:=1) (o':=1) rfl Tryz.runUnderlying56 rfl Tryz.sizeOf9 (by decide) rfl)<|rs (vS ((rd ah a0.ay aG).aU)) (aN rfl Tryz.isAgg9 (HS7.look 0 rfl) rfl)<|G9 (CB Tryz.runUnderlying9) (i:=1) (k:=((rd ah a0.ay aG).aU)) (v:=true) (ev:=vB) (m:=bH) (by first|exact .inl rfl|exact .inr rfl) rfl rfl rfl rfl rfl Tryz.runUnderlying210 HS7 rfl ng ?_
      intro w8 es1 cl1 HS8 ho1
      try simp only [sc0,sc1]
      refine aB<|dB<|aj<|region<|rs (vI (w64 (aG+1))) (bK rfl rfl rfl)<|rs (vI (w64 (aG+1))) (aK rfl) ?_
      try simp only [sc0,sc1]
      refine aB<|gX m (Nat.lt_succ_self m) rfl ⟨(w64 (aG+1)),(fJ strEq bH ((rd ah a0.ay aG).aU) true),es1,cl1,(fit rfl),H,ho1,HS8.tail⟩
    ·replace H:=bZ H (nt c2)
     refine wp_exit<|fF ?_
     obtain rfl:=Option.some.inj H
     refine iw rfl ⟨_,rfl,su,sD,(fit rfl),ng,HS3⟩
  ·rintro us w9 ⟨s1,rfl,xH,xI,l7,tJ,HS9⟩
   obtain ⟨uo1,rfl⟩:=unj l7
   replace H:=G1
   clear G1
   try simp only [patch,sc0,sc1]
   refine aj<|wp_seq<|region<|rs (Value.agg #[vL bQ a0.ay.length bT]) (aY (n:=1) (vs:=[vL bQ a0.ay.length bT]) rfl Tryz.isAgg24 (HS9.look 1 rfl) Tryz.sizeOf24 rfl rfl) ?_
   obtain ⟨v3,H3,H⟩:=bJ H
   refine dK rfl rfl (lT Tryz.call85 rfl (qB (h:=h0) (R:=(fun hx u=>∃(jD:Option Addr) (jE:Nat),u=Value.tuple #[vL jD v3.1.length jE,vB v3.2]∧v3.1.length≤jE∧Rd (Kd.int .i64) hx jD v3.1)) (Ext.rfl' w9) ((fK.calls k a0 bQ bT HS9.sees fB gI H3).mono ?_)) rfl) ?_
   ·rintro _ _ ⟨h1,jD,jE,rfl,qP,oh,g,ss,x⟩
    exact ⟨h1,_,rfl,⟨jD,jE,rfl,qP,oh⟩,g,ss,x⟩
   rintro w10 _ hE5 ⟨h1,⟨jD,jE,rfl,qP,oh⟩,gr1,se1⟩
   have qN:=HS9.view hE5 gr1 se1
   refine rs (Value.tuple #[vL jD v3.1.length jE,vB v3.2]) (aK rfl)<|rs (vL jD v3.1.length jE) (eU rfl rfl)<|aI (by simp only [sc0,sc1];rfl) ?_
   refine rs (vB v3.2) (eU rfl rfl)<|dK rfl rfl (fA (cs:=#[vL none 0 0]) Tryz.zeroValue81 rfl) ?_
   rintro w11 _ hE6 ⟨b4,rfl,ge3,hb3⟩
   have wU:=qN.new hE6 ge3 hb3
   refine gq (i:=0) (cs:=[vL none 0 0]) (cs':=[vL jD v3.1.length jE]) (vs:=[vL jD v3.1.length jE]) (bs':=[(some b4, .cells #[vL jD v3.1.length jE] 81 (0,0)),(some b2, .map xH xI),(some b1, .cells #[vL bQ a0.ay.length bT] 24 (0,0))]) rfl rfl Tryz.sizeOf81 rfl rfl (by decide) rfl wU rfl (Nat.le_of_ble_eq_true rfl) rfl rfl ?_
   intro w12 sU
   refine rs (vB v3.2) (aC rfl) ?_
   try simp only [sc0,sc1]
   refine aB<|aj<|wp_seq<|wp_seq<|region<|rs (vB v3.2) (aK rfl)<|rs (vB (!v3.2)) (kN rfl)<|rs (vB (!v3.2)) (aK rfl)<|rgs (!v3.2) true (Value.agg #[vL bQ a0.ay.length bT]) rfl rfl rfl rfl (fun hg=>(aY (n:=1) (vs:=[vL bQ a0.ay.length bT]) rfl Tryz.isAgg24 (sU.look 2 rfl) Tryz.sizeOf24 rfl rfl))<|aI (by simp only [sc0,sc1];rfl) ?_
   obtain ⟨v4,H4,H⟩:=bJ H
   refine vU (b:=(!v3.2)) (c:=true) (v:=vB v4) rfl rfl rfl rfl (fun hg=>(bC Tryz.call117 rfl (OV (gvt (Value.agg #[vL bQ a0.ay.length bT]) hg rfl)) (og.calls k a0 bQ bT sU.sees (fB.ext sU.sub) gI (bU H4 hg)))) ?_
   intro w13 hE7
   have zy:=sU.step hE7
   refine rgs (!v3.2) true (vB (!v4)) rfl rfl rfl rfl (fun hg=>(kN (gvt (vB v4) hg rfl)))<|rs (vB ((!v3.2)||(!v4))) (dV rfl rfl (fun hp=>(gvt (vB (!v4)) (gu rfl hp) rfl))) ?_
   try simp only [sc0,sc1]
   refine aB<|aj<|wp_cond_split (t:=((!v3.2)||(!v4))) rfl (fun c4=>?_) (fun c4=>?_)
   ·replace H:=bU H c4
    refine wp_seq<|region<|rs (vB false) (aC rfl) ?_
    try simp only [sc0,sc1]
    refine aB<|aj<|wp_ret<|aX ?_
    obtain rfl:=Option.some.inj H
    exact bodyPost_ret (aW rfl (aV rfl)) rfl<|⟨rfl,zy.toE⟩
   ·replace H:=bZ H (nt c4)
    refine wp_skip<|aj<|wp_seq<|region<|rs (vP b1 0) (aH (n:=1) (o':=0) rfl Tryz.runUnderlying24 rfl Tryz.sizeOf22 (by decide) rfl)<|rs (vL bQ a0.ay.length bT) (aN rfl Tryz.isAgg22 (zy.look 2 rfl) rfl)<|rs (Value.func (.func 119) #[] #[vP b4 0]) (oC (vs:=[vP b4 0]) rfl) ?_
    obtain ⟨v5,H5,H⟩:=bJ H
    refine run_eq (v:=vB v5) rfl rfl (bC Tryz.call118 rfl rfl (cO.calls k a0.ay (fun z0=>jy.f k z0 v3.1) bQ bT 119 [vP b4 0] zy.sees (fB.ext zy.sub) gI Tryz.call119 (fun z0 wW wX h w hE hs hv Gs zB r H=>jy.calls k z0 v3.1 wW wX b4 jD jE hv Gs zB (oh.ext hs) qP (kR (zy.look 0 rfl) hE) H) H5)) ?_
    intro w14 hE8
    have E5:=zy.step hE8
    refine aI (by simp only [sc0,sc1];rfl) ?_
    refine rs (vB (!v5)) (kN rfl)<|rs (vB (!v5)) (aC rfl) ?_
    try simp only [sc0,sc1]
    refine aB<|aj<|wp_ret ?_
    obtain rfl:=Option.some.inj H
    exact bodyPost_ret (aW rfl (aV rfl)) rfl<|⟨rfl,E5.toE⟩
def iC.f (k:Nat) (a0:bf) (a1:Int):Option (Int):=(dF.f k a0).bind fun v1=>(if (!v1)=true then (some 80) else (if ((decide (a1<0))||(decide (a1≥(a0.ay.length:Int))))=true then (some 3) else (some 0)))
theorem iC.calls (k:Nat) (a0:bf) (a1:Int) (bQ:Option Addr) (bT:Nat) {h0:View} {w0:World} (hv:jf h0 w0) (fB:Rd eX h0 bQ a0.ay) (gI:a0.ay.length≤bT) {r:Int} (H:iC.f k a0 a1=some r):Calls Tryz.prog 53 #[Value.agg #[vL bQ a0.ay.length bT],vI a1] w0 (fun e w1=>e= .returned (vI r)∧Ext w0 w1):=by
 unfold iC.f at H
 have HS:St [] h0 w0 h0 [] w0:=St.init hv
 go_enter Tryz.func53,Tryz.ntmps53
 refine wp_seq<|region<|dK rfl rfl (dH (cs:=#[vL bQ a0.ay.length bT]) rfl rfl) ?_
 rintro w1 _ hE1 ⟨b1,rfl,ge1,hb1⟩
 have HS1:=HS.new hE1 ge1 hb1
 refine rs (vI 0) (aC rfl) ?_
 try simp only [sc0,sc1]
 refine aB<|aj<|wp_seq<|wp_block<|wp_seq<|region<|rs (Value.agg #[vL bQ a0.ay.length bT]) (aY (n:=1) (vs:=[vL bQ a0.ay.length bT]) rfl Tryz.isAgg24 (HS1.look 0 rfl) Tryz.sizeOf24 rfl rfl) ?_
 obtain ⟨v1,H1,H⟩:=bJ H
 refine run_eq (v:=vB v1) rfl rfl (bC Tryz.call74 rfl rfl (dF.calls k a0 bQ bT HS1.sees fB gI H1)) ?_
 intro w2 hE2
 have HS2:=HS1.step hE2
 refine rs (vB (!v1)) (kN rfl)<|rs (vB (!v1)) (aC rfl) ?_
 try simp only [sc0,sc1]
 refine aB<|aj<|wp_cond_split (t:=(!v1)) rfl (fun c1=>?_) (fun c1=>?_)
 ·replace H:=bU H c1
  refine wp_seq<|region<|rs (vI 80) (aC rfl) ?_
  try simp only [sc0,sc1]
  refine aB<|aj<|wp_ret<|dn<|aX ?_
  obtain rfl:=Option.some.inj H
  exact bodyPost_ret (aW rfl (aV rfl)) rfl<|⟨rfl,HS2.toE⟩
 ·replace H:=bZ H (nt c1)
  refine wp_seq<|region<|rs (vI a1) (aK rfl)<|rs (vB (decide (a1<0))) (bK rfl rfl rfl)<|rs (vB (decide (a1<0))) (aK rfl)<|rgs (decide (a1<0)) true (vI a1) rfl rfl rfl rfl (fun hg=>(aK rfl))<|aI (by simp only [sc0,sc1];rfl) ?_
  refine rgs (decide (a1<0)) true (vP b1 0) rfl rfl rfl rfl (fun hg=>(aH (n:=1) (o':=0) rfl Tryz.runUnderlying24 rfl Tryz.sizeOf22 (by decide) rfl))<|rgs (decide (a1<0)) true (vL bQ a0.ay.length bT) rfl rfl rfl rfl (fun hg=>(aN (gvt (vP b1 0) hg rfl) Tryz.isAgg22 (HS2.look 0 rfl) rfl))<|rgs (decide (a1<0)) true (vI (a0.ay.length:Int)) rfl rfl rfl rfl (fun hg=>(iT (gvt (vL bQ a0.ay.length bT) hg rfl) Tryz.runUnderlying22))<|rgs (decide (a1<0)) true (vB (decide (a1≥(a0.ay.length:Int)))) rfl rfl rfl rfl (fun hg=>(bK (gvt (vI a1) hg rfl) (gvt (vI (a0.ay.length:Int)) hg rfl) rfl))<|aI (by simp only [sc0,sc1];rfl) ?_
  refine rs (vB ((decide (a1<0))||(decide (a1≥(a0.ay.length:Int))))) (dV rfl rfl (fun hp=>(gvt (vB (decide (a1≥(a0.ay.length:Int)))) (gu rfl hp) rfl)))<|rs (vB ((decide (a1<0))||(decide (a1≥(a0.ay.length:Int))))) (aC rfl) ?_
  try simp only [sc0,sc1]
  refine aB<|aj<|wp_cond_split (t:=((decide (a1<0))||(decide (a1≥(a0.ay.length:Int))))) rfl (fun c2=>?_) (fun c2=>?_)
  ·replace H:=bU H c2
   refine wp_seq<|region<|rs (vI 3) (aC rfl) ?_
   try simp only [sc0,sc1]
   refine aB<|aj<|wp_ret<|dn<|aX ?_
   obtain rfl:=Option.some.inj H
   exact bodyPost_ret (aW rfl (aV rfl)) rfl<|⟨rfl,HS2.toE⟩
  ·replace H:=bZ H (nt c2)
   refine wp_skip<|dB<|aj<|wp_seq<|region<|rs (vI 0) (aC rfl) ?_
   try simp only [sc0,sc1]
   refine aB<|aj<|wp_ret ?_
   obtain rfl:=Option.some.inj H
   exact bodyPost_ret (aW rfl (aV rfl)) rfl<|⟨rfl,HS2.toE⟩
def eF.l0 (a0:bf):Nat→Int→Option (Int)
 |0,_=>none
 |m+1,aG=>if 0≤aG∧aG<a0.ay.length then (if ((rd ah a0.ay aG).aF==6)=true then (if 0≤aG∧aG<a0.ay.length then (eF.l0 a0 m ((rd ah a0.ay aG).dY)) else none) else (some aG)) else none
def eF.f (k:Nat) (a0:bf) (a1:Int):Option (Int):=(eF.l0 a0 k a1).bind fun xx1=>(some xx1)
theorem eF.calls (k:Nat) (a0:bf) (a1:Int) (bQ:Option Addr) (bT:Nat) {h0:View} {w0:World} (hv:jf h0 w0) (fB:Rd eX h0 bQ a0.ay) (gI:a0.ay.length≤bT) {r:Int} (H:eF.f k a0 a1=some r):Calls Tryz.prog 89 #[Value.agg #[vL bQ a0.ay.length bT],vI a1] w0 (fun e w1=>e= .returned (vI r)∧Ext w0 w1):=by
 unfold eF.f at H
 have HS:St [] h0 w0 h0 [] w0:=St.init hv
 go_enter Tryz.func89,Tryz.ntmps89
 refine wp_seq<|region<|dK rfl rfl (dH (cs:=#[vL bQ a0.ay.length bT]) rfl rfl) ?_
 rintro w1 _ hE1 ⟨b1,rfl,ge1,hb1⟩
 have HS1:=HS.new hE1 ge1 hb1
 refine rs (vI 0) (aC rfl) ?_
 try simp only [sc0,sc1]
 refine aB<|aj<|wp_seq ?_
 obtain ⟨xx1,H,G1⟩:=bJ H
 refine iW [1,5,6,7,8,9,10,11,12,13,14,15,16,17] (fun m us w'=>∃(aG:Int),Fit us (fun uy1=>[vI aG,(uy1 1),(uy1 2),(uy1 3),(uy1 4),(uy1 5),(uy1 6),(uy1 7),(uy1 8),(uy1 9),(uy1 10),(uy1 11),(uy1 12),(uy1 13)])∧eF.l0 a0 m aG=some xx1∧St [] h0 w0 h0 [(some b1, .cells #[vL bQ a0.ay.length bT] 24 (0,0))] w') (fun us w'=>Fit us (fun uo1=>[vI xx1,(uo1 1),(uo1 2),(uo1 3),(uo1 4),(uo1 5),(uo1 6),(uo1 7),(uo1 8),(uo1 9),(uo1 10),(uo1 11),(uo1 12),(uo1 13)])∧St [] h0 w0 h0 [(some b1, .cells #[vL bQ a0.ay.length bT] 24 (0,0))] w') k ⟨a1,(fit rfl),H,HS1⟩ ?_ ?_
 ·rintro m us w2 ⟨aG,lZ,H,HS2⟩
  obtain ⟨uy1,rfl⟩:=unj lZ
  cases m with
  |zero=>exact absurd H (by simp [eF.l0])
  |succ m=>
   rw [eF.l0] at H
   try simp only [patch,sc0,sc1]
   refine wp_seq<|wp_seq<|region<|rs (vP b1 0) (aH (n:=1) (o':=0) rfl Tryz.runUnderlying24 rfl Tryz.sizeOf22 (by decide) rfl)<|rs (vL bQ a0.ay.length bT) (aN rfl Tryz.isAgg22 (HS2.look 0 rfl) rfl)<|rs (vI aG) (aK rfl) ?_
   obtain ⟨hi1,H⟩:=fE H
   obtain ⟨ad1,dO,dR,e1,kX,jO,iD⟩:=gU fB hi1.1 hi1.2
   refine rs (Value.pointer (some (Addr.add ad1 (aG.toNat*7)))) (dQ (sz:=7) rfl e1 rfl hi1.1 hi1.2 Tryz.runUnderlying22 Tryz.sizeOf56)<|aI (by simp only [sc0,sc1];rfl) ?_
   refine rs (Value.pointer (some (Addr.add (Addr.add ad1 (aG.toNat*7)) 0))) (jG (n:=1) (o':=0) rfl Tryz.runUnderlying56 rfl Tryz.sizeOf3 (by decide) rfl)<|rs (vI ((rd ah a0.ay aG).aF)) (jF rfl Tryz.isAgg3 (kX.cell HS2.sees 0 rfl))<|rs (vB ((rd ah a0.ay aG).aF==6)) (bK rfl rfl rfl) ?_
   try simp only [sc0,sc1]
   refine aB<|aj<|wp_cond_split (t:=((rd ah a0.ay aG).aF==6)) rfl (fun c1=>?_) (fun c1=>?_)
   ·replace H:=bU H c1
    refine wp_skip<|aj<|wp_block<|region<|rs (vP b1 0) (aH (n:=1) (o':=0) rfl Tryz.runUnderlying24 rfl Tryz.sizeOf22 (by decide) rfl)<|rs (vL bQ a0.ay.length bT) (aN rfl Tryz.isAgg22 (HS2.look 0 rfl) rfl)<|rs (vI aG) (aK rfl) ?_
    obtain ⟨hi2,H⟩:=fE H
    obtain ⟨ad2,zC,zD,e2,wV,Du,Dv⟩:=gU fB hi2.1 hi2.2
    refine rs (Value.pointer (some (Addr.add ad2 (aG.toNat*7)))) (dQ (sz:=7) rfl e2 rfl hi2.1 hi2.2 Tryz.runUnderlying22 Tryz.sizeOf56)<|aI (by simp only [sc0,sc1];rfl) ?_
    refine rs (Value.pointer (some (Addr.add (Addr.add ad2 (aG.toNat*7)) 4))) (jG (n:=1) (o':=4) rfl Tryz.runUnderlying56 rfl Tryz.sizeOf3 (by decide) rfl)<|rs (vI ((rd ah a0.ay aG).dY)) (jF rfl Tryz.isAgg3 (wV.cell HS2.sees 4 rfl))<|rs (vI ((rd ah a0.ay aG).dY)) (aC rfl) ?_
    try simp only [sc0,sc1]
    refine aB<|dB<|gX m (Nat.lt_succ_self m) rfl ⟨(rd ah a0.ay aG).dY,(fit rfl),H,HS2⟩
   ·replace H:=bZ H (nt c1)
    refine wp_exit<|fF ?_
    obtain rfl:=Option.some.inj H
    refine iw rfl ⟨(fit rfl),HS2⟩
 ·rintro us w3 ⟨l7,HS3⟩
  obtain ⟨uo1,rfl⟩:=unj l7
  replace H:=G1
  clear G1
  try simp only [patch,sc0,sc1]
  refine aj<|wp_seq<|region<|rs (vI xx1) (aK rfl)<|rs (vI xx1) (aC rfl) ?_
  try simp only [sc0,sc1]
  refine aB<|aj<|wp_ret ?_
  obtain rfl:=Option.some.inj H
  exact bodyPost_ret (aW rfl (aV rfl)) rfl<|⟨rfl,HS3.toE⟩
def fZ.l0 (a0:bf) (a2:ByteArray) (v1:Int):Nat→Int→Option ((dP×Int)⊕(Unit))
 |0,_=>none
 |m+1,aG=>if (decide (aG<(((rd ah a0.ay v1).au).length:Int)))=true then (if 0≤aG∧aG<((rd ah a0.ay v1).au).length then (if (strEq ((rd ak ((rd ah a0.ay v1).au) aG).aU) a2)=true then (some (.inl ((rd ak ((rd ah a0.ay v1).au) aG),0))) else (fZ.l0 a0 a2 v1 m (IntKind.wrap .i64 (aG+1)))) else none) else (some (.inr ()))
def fZ.f (k:Nat) (a0:bf) (a1:Int) (a2:ByteArray):Option (dP×Int):=(eF.f k a0 a1).bind fun v1=>(if 0≤v1∧v1<a0.ay.length then (if ((rd ah a0.ay v1).aF !=4)=true then (some ((⟨ByteArray.empty,0,0⟩:dP),5)) else ((fZ.l0 a0 a2 v1 k 0).bind fun xx1=>(match xx1 with| .inl r=>some r| .inr s1=>some ((⟨ByteArray.empty,0,0⟩:dP),3)))) else none)
theorem fZ.calls (k:Nat) (a0:bf) (a1:Int) (a2:ByteArray) (bQ:Option Addr) (bT:Nat) {h0:View} {w0:World} (hv:jf h0 w0) (fB:Rd eX h0 bQ a0.ay) (gI:a0.ay.length≤bT) {r:dP×Int} (H:fZ.f k a0 a1 a2=some r):Calls Tryz.prog 54 #[Value.agg #[vL bQ a0.ay.length bT],vI a1,vS a2] w0 (fun e w1=>e= .returned (Value.tuple #[Value.agg #[vS r.1.aU,vI r.1.vType,vI r.1.vAt],vI r.2])∧Ext w0 w1):=by
 unfold fZ.f at H
 have HS:St [] h0 w0 h0 [] w0:=St.init hv
 go_enter Tryz.func54,Tryz.ntmps54
 refine wp_seq<|region<|dK rfl rfl (dH (cs:=#[vL bQ a0.ay.length bT]) rfl rfl) ?_
 rintro w1 _ hE1 ⟨b1,rfl,ge1,hb1⟩
 have HS1:=HS.new hE1 ge1 hb1
 refine dK rfl rfl (fA (cs:=#[vS ByteArray.empty,vI 0,vI 0]) Tryz.zeroValue129 rfl) ?_
 rintro w2 _ hE2 ⟨b2,rfl,ge2,hb2⟩
 have HS2:=HS1.new hE2 ge2 hb2
 refine rs (vI 0) (aC rfl) ?_
 try simp only [sc0,sc1]
 refine aB<|aj<|wp_seq ?_
 obtain ⟨v1,H1,H⟩:=bJ H
 obtain ⟨hi1,H⟩:=fE H
 obtain ⟨ad1,dO,dR,e1,kX,jO,iD⟩:=gU fB hi1.1 hi1.2
 refine drawn [.eq (vP b1 0), .eq (vL bQ a0.ay.length bT), .eq (Value.agg #[vL bQ a0.ay.length bT]), .eq (vI a1), .eq (vI v1), .eq (Value.pointer (some (Addr.add ad1 (v1.toNat*7)))), .eq (Value.agg #[vI ((rd ah a0.ay v1).aF),vS ((rd ah a0.ay v1).aU),vI ((rd ah a0.ay v1).bW.aS),vB ((rd ah a0.ay v1).bW.aO),vI ((rd ah a0.ay v1).dY),vI ((rd ah a0.ay v1).vN),vL dO ((rd ah a0.ay v1).au).length dR]), .ex (oV w2 #[vI 0,vS ByteArray.empty,vI 0,vB false,vI 0,vI 0,vL none 0 0] 56)] [11,12,13,14,15,16,17,8] nD (by kernel_rfl) rfl (bn (bn (bn (bn (bn (bn (bn (pO oV.stable jh)))))))) ⟨bI rfl (fun a' w' hE hk=>by have HSd:=HS2.step hE;exact cu (aH (n:=1) (o':=0) (show _=vP b1 0 from hk 3 rfl) Tryz.runUnderlying24 rfl Tryz.sizeOf22 (by decide) rfl)),bI rfl (fun a' w' hE hk=>by have HSd:=HS2.step hE;exact cu (aN (show _=vP b1 0 from hk 11 rfl) Tryz.isAgg22 (HSd.look 1 rfl) rfl)),bI rfl (fun a' w' hE hk=>by have HSd:=HS2.step hE;exact cu (aY (n:=1) (vs:=[vL bQ a0.ay.length bT]) (show _=vP b1 0 from hk 3 rfl) Tryz.isAgg24 (HSd.look 1 rfl) Tryz.sizeOf24 rfl rfl)),bI rfl (fun a' w' hE hk=>by have HSd:=HS2.step hE;exact cu (aK (show _=vI a1 from hk 1 rfl))),bI rfl (fun a' w' hE hk=>by have HSd:=HS2.step hE;exact (bC Tryz.call89 rfl (Kt (show _=Value.agg #[vL bQ a0.ay.length bT] from hk 13 rfl) (show _=vI a1 from hk 14 rfl)) (eF.calls k a0 a1 bQ bT HSd.sees fB gI H1))),bI rfl (fun a' w' hE hk=>by have HSd:=HS2.step hE;exact cu (dQ (sz:=7) (show _=vL bQ a0.ay.length bT from hk 12 rfl) e1 (show _=vI v1 from hk 15 rfl) hi1.1 hi1.2 Tryz.runUnderlying22 Tryz.sizeOf56)),bI rfl (fun a' w' hE hk=>by have HSd:=HS2.step hE;exact cu (gK (show _=Value.pointer (some (Addr.add ad1 (v1.toNat*7))) from hk 16 rfl) Tryz.isAgg56 (kX.sees HSd.sees) Tryz.sizeOf56)),bI rfl (fun a' w' hE hk=>(uG hE (cs:=#[vI 0,vS ByteArray.empty,vI 0,vB false,vI 0,vI 0,vL none 0 0]) Tryz.zeroValue56 rfl)),trivial⟩ ?_
 intro w3 hE3
 simp only [List.zip_cons_cons,List.zip_nil_left,List.zip_nil_right,yh,sc0,sc1,List.length_cons,List.length_nil,List.drop_succ_cons,List.drop_zero,Nat.zero_add,Nat.reduceAdd]
 rintro _ ⟨b3,rfl,ge3,hb3⟩
 have HS3:=HS2.new hE3 ge3 hb3
 refine gq (i:=0) (cs:=[vI 0,vS ByteArray.empty,vI 0,vB false,vI 0,vI 0,vL none 0 0]) (cs':=[vI ((rd ah a0.ay v1).aF),vS ((rd ah a0.ay v1).aU),vI ((rd ah a0.ay v1).bW.aS),vB ((rd ah a0.ay v1).bW.aO),vI ((rd ah a0.ay v1).dY),vI ((rd ah a0.ay v1).vN),vL dO ((rd ah a0.ay v1).au).length dR]) (vs:=[vI ((rd ah a0.ay v1).aF),vS ((rd ah a0.ay v1).aU),vI ((rd ah a0.ay v1).bW.aS),vB ((rd ah a0.ay v1).bW.aO),vI ((rd ah a0.ay v1).dY),vI ((rd ah a0.ay v1).vN),vL dO ((rd ah a0.ay v1).au).length dR]) (bs':=[(some b3, .cells #[vI ((rd ah a0.ay v1).aF),vS ((rd ah a0.ay v1).aU),vI ((rd ah a0.ay v1).bW.aS),vB ((rd ah a0.ay v1).bW.aO),vI ((rd ah a0.ay v1).dY),vI ((rd ah a0.ay v1).vN),vL dO ((rd ah a0.ay v1).au).length dR] 56 (0,0)),(some b2, .cells #[vS ByteArray.empty,vI 0,vI 0] 129 (0,0)),(some b1, .cells #[vL bQ a0.ay.length bT] 24 (0,0))]) rfl rfl Tryz.sizeOf56 rfl rfl (by decide) rfl HS3 rfl (Nat.le_of_ble_eq_true rfl) rfl rfl ?_
 intro w4 HS4
 try simp only [sc0,sc1]
 refine aB<|aj<|wp_seq<|wp_seq<|region<|rs (vP b3 0) (aH (n:=1) (o':=0) rfl Tryz.runUnderlying56 rfl Tryz.sizeOf3 (by decide) rfl)<|rs (vI ((rd ah a0.ay v1).aF)) (aN rfl Tryz.isAgg3 (HS4.look 0 rfl) rfl)<|rs (vB ((rd ah a0.ay v1).aF !=4)) (bK rfl rfl rfl) ?_
 try simp only [sc0,sc1]
 refine aB<|aj<|wp_cond_split (t:=((rd ah a0.ay v1).aF !=4)) rfl (fun c1=>?_) (fun c1=>?_)
 ·replace H:=bU H c1
  refine wp_seq<|region<|rs (Value.agg #[vS ByteArray.empty,vI 0,vI 0]) (oW (cs:=[vS ByteArray.empty,vI 0,vI 0]) Tryz.zeroValue129 Tryz.runUnderlying129 (pl:=#[(0,1),(1,1),(2,1)]) (fun w=>by simp [Tryz.sizeOf3,Tryz.sizeOf9]) rfl) ?_
  refine gq (i:=1) (cs:=[vS ByteArray.empty,vI 0,vI 0]) (cs':=[vS ByteArray.empty,vI 0,vI 0]) (vs:=[vS ByteArray.empty,vI 0,vI 0]) (bs':=[(some b3, .cells #[vI ((rd ah a0.ay v1).aF),vS ((rd ah a0.ay v1).aU),vI ((rd ah a0.ay v1).bW.aS),vB ((rd ah a0.ay v1).bW.aO),vI ((rd ah a0.ay v1).dY),vI ((rd ah a0.ay v1).vN),vL dO ((rd ah a0.ay v1).au).length dR] 56 (0,0)),(some b2, .cells #[vS ByteArray.empty,vI 0,vI 0] 129 (0,0)),(some b1, .cells #[vL bQ a0.ay.length bT] 24 (0,0))]) rfl rfl Tryz.sizeOf129 rfl rfl (by decide) rfl HS4 rfl (Nat.le_of_ble_eq_true rfl) rfl rfl ?_
  intro w5 HS5
  refine rs (vI 5) (aC rfl) ?_
  try simp only [sc0,sc1]
  refine aB<|aj<|wp_ret<|aX ?_
  obtain rfl:=Option.some.inj H
  exact bodyPost_ret (fO rfl (iP rfl Tryz.isAgg129 (HS5.look 1 rfl) Tryz.sizeOf129 rfl) (aV rfl)) rfl<|⟨rfl,HS5.toE⟩
 ·replace H:=bZ H (nt c1)
  refine wp_skip<|aj<|wp_seq<|wp_seq<|region<|rs (vP b3 6) (aH (n:=1) (o':=6) rfl Tryz.runUnderlying56 rfl Tryz.sizeOf54 (by decide) rfl)<|rs (vL dO ((rd ah a0.ay v1).au).length dR) (aN rfl Tryz.isAgg54 (HS4.look 0 rfl) rfl)<|rs (vI (((rd ah a0.ay v1).au).length:Int)) (iT rfl Tryz.runUnderlying54)<|rs (vI 0) (aK rfl) ?_
  try simp only [sc0,sc1]
  refine aB<|aj ?_
  obtain ⟨xx1,H,G1⟩:=bJ H
  refine iW [7,10,25,26,27,28,29,30,31,32,33,34] (fun m us w'=>∃(aG:Int),Fit us (fun uy1=>[(uy1 0),(uy1 1),vI aG,(uy1 3),(uy1 4),(uy1 5),(uy1 6),(uy1 7),(uy1 8),(uy1 9),(uy1 10),(uy1 11)])∧fZ.l0 a0 a2 v1 m aG=some xx1∧St [] h0 w0 h0 [(some b3, .cells #[vI ((rd ah a0.ay v1).aF),vS ((rd ah a0.ay v1).aU),vI ((rd ah a0.ay v1).bW.aS),vB ((rd ah a0.ay v1).bW.aO),vI ((rd ah a0.ay v1).dY),vI ((rd ah a0.ay v1).vN),vL dO ((rd ah a0.ay v1).au).length dR] 56 (0,0)),(some b2, .cells #[vS ByteArray.empty,vI 0,vI 0] 129 (0,0)),(some b1, .cells #[vL bQ a0.ay.length bT] 24 (0,0))] w') (fun us w'=>∃(s1:Unit),xx1= .inr s1∧Fit us (fun uo1=>[(uo1 0),(uo1 1),(uo1 2),(uo1 3),(uo1 4),(uo1 5),(uo1 6),(uo1 7),(uo1 8),(uo1 9),(uo1 10),(uo1 11)])∧St [] h0 w0 h0 [(some b3, .cells #[vI ((rd ah a0.ay v1).aF),vS ((rd ah a0.ay v1).aU),vI ((rd ah a0.ay v1).bW.aS),vB ((rd ah a0.ay v1).bW.aO),vI ((rd ah a0.ay v1).dY),vI ((rd ah a0.ay v1).vN),vL dO ((rd ah a0.ay v1).au).length dR] 56 (0,0)),(some b2, .cells #[vS ByteArray.empty,vI 0,vI 0] 129 (0,0)),(some b1, .cells #[vL bQ a0.ay.length bT] 24 (0,0))] w') k ⟨0,(fit rfl),H,HS4⟩ ?_ ?_
  ·rintro m us w6 ⟨aG,lZ,H,HS6⟩
   obtain ⟨uy1,rfl⟩:=unj lZ
   cases m with
   |zero=>exact absurd H (by simp [fZ.l0])
   |succ m=>
    rw [fZ.l0] at H
    try simp only [patch,sc0,sc1]
    refine wp_seq<|region<|rs (vB (decide (aG<(((rd ah a0.ay v1).au).length:Int)))) (bK rfl rfl rfl) ?_
    try simp only [sc0,sc1]
    refine aB<|aj<|wp_seq<|wp_cond_split (t:=(decide (aG<(((rd ah a0.ay v1).au).length:Int)))) rfl (fun c2=>?_) (fun c2=>?_)
    ·replace H:=bU H c2
     refine wp_skip<|aj<|wp_seq<|wp_block<|wp_seq<|region ?_
     obtain ⟨hi2,H⟩:=fE H
     obtain ⟨ad2,e2,wV⟩:=iR iD hi2.1 hi2.2
     refine rs (Value.pointer (some (Addr.add ad2 (aG.toNat*3)))) (dQ (sz:=3) rfl e2 rfl hi2.1 hi2.2 Tryz.runUnderlying54 Tryz.sizeOf129)<|rs (Value.agg #[vS ((rd ak ((rd ah a0.ay v1).au) aG).aU),vI ((rd ak ((rd ah a0.ay v1).au) aG).vType),vI ((rd ak ((rd ah a0.ay v1).au) aG).vAt)]) (gK rfl Tryz.isAgg129 (wV.sees HS6.sees) Tryz.sizeOf129)<|dK rfl rfl (fA (cs:=#[vS ByteArray.empty,vI 0,vI 0]) Tryz.zeroValue129 rfl) ?_
     rintro w7 _ hE4 ⟨b4,rfl,ge4,hb4⟩
     have HS7:=HS6.new hE4 ge4 hb4
     refine gq (i:=0) (cs:=[vS ByteArray.empty,vI 0,vI 0]) (cs':=[vS ((rd ak ((rd ah a0.ay v1).au) aG).aU),vI ((rd ak ((rd ah a0.ay v1).au) aG).vType),vI ((rd ak ((rd ah a0.ay v1).au) aG).vAt)]) (vs:=[vS ((rd ak ((rd ah a0.ay v1).au) aG).aU),vI ((rd ak ((rd ah a0.ay v1).au) aG).vType),vI ((rd ak ((rd ah a0.ay v1).au) aG).vAt)]) (bs':=[(some b4, .cells #[vS ((rd ak ((rd ah a0.ay v1).au) aG).aU),vI ((rd ak ((rd ah a0.ay v1).au) aG).vType),vI ((rd ak ((rd ah a0.ay v1).au) aG).vAt)] 129 (0,0)),(some b3, .cells #[vI ((rd ah a0.ay v1).aF),vS ((rd ah a0.ay v1).aU),vI ((rd ah a0.ay v1).bW.aS),vB ((rd ah a0.ay v1).bW.aO),vI ((rd ah a0.ay v1).dY),vI ((rd ah a0.ay v1).vN),vL dO ((rd ah a0.ay v1).au).length dR] 56 (0,0)),(some b2, .cells #[vS ByteArray.empty,vI 0,vI 0] 129 (0,0)),(some b1, .cells #[vL bQ a0.ay.length bT] 24 (0,0))]) rfl rfl Tryz.sizeOf129 rfl rfl (by decide) rfl HS7 rfl (Nat.le_of_ble_eq_true rfl) rfl rfl ?_
     intro w8 HS8
     try simp only [sc0,sc1]
     refine aB<|aj<|wp_seq<|region<|rs (vP b4 0) (aH (n:=1) (o':=0) rfl Tryz.runUnderlying129 rfl Tryz.sizeOf9 (by decide) rfl)<|rs (vS ((rd ak ((rd ah a0.ay v1).au) aG).aU)) (aN rfl Tryz.isAgg9 (HS8.look 0 rfl) rfl)<|rs (vS a2) (aK rfl)<|rs (vB (strEq ((rd ak ((rd ah a0.ay v1).au) aG).aU) a2)) (sK rfl rfl) ?_
     try simp only [sc0,sc1]
     refine aB<|aj<|wp_cond_split (t:=(strEq ((rd ak ((rd ah a0.ay v1).au) aG).aU) a2)) rfl (fun c3=>?_) (fun c3=>?_)
     ·replace H:=bU H c3
      refine wp_seq<|region<|rs (Value.agg #[vS ((rd ak ((rd ah a0.ay v1).au) aG).aU),vI ((rd ak ((rd ah a0.ay v1).au) aG).vType),vI ((rd ak ((rd ah a0.ay v1).au) aG).vAt)]) (aY (n:=3) (vs:=[vS ((rd ak ((rd ah a0.ay v1).au) aG).aU),vI ((rd ak ((rd ah a0.ay v1).au) aG).vType),vI ((rd ak ((rd ah a0.ay v1).au) aG).vAt)]) rfl Tryz.isAgg129 (HS8.look 0 rfl) Tryz.sizeOf129 rfl rfl)<|gq (i:=2) (cs:=[vS ByteArray.empty,vI 0,vI 0]) (cs':=[vS ((rd ak ((rd ah a0.ay v1).au) aG).aU),vI ((rd ak ((rd ah a0.ay v1).au) aG).vType),vI ((rd ak ((rd ah a0.ay v1).au) aG).vAt)]) (vs:=[vS ((rd ak ((rd ah a0.ay v1).au) aG).aU),vI ((rd ak ((rd ah a0.ay v1).au) aG).vType),vI ((rd ak ((rd ah a0.ay v1).au) aG).vAt)]) (bs':=[(some b4, .cells #[vS ((rd ak ((rd ah a0.ay v1).au) aG).aU),vI ((rd ak ((rd ah a0.ay v1).au) aG).vType),vI ((rd ak ((rd ah a0.ay v1).au) aG).vAt)] 129 (0,0)),(some b3, .cells #[vI ((rd ah a0.ay v1).aF),vS ((rd ah a0.ay v1).aU),vI ((rd ah a0.ay v1).bW.aS),vB ((rd ah a0.ay v1).bW.aO),vI ((rd ah a0.ay v1).dY),vI ((rd ah a0.ay v1).vN),vL dO ((rd ah a0.ay v1).au).length dR] 56 (0,0)),(some b2, .cells #[vS ((rd ak ((rd ah a0.ay v1).au) aG).aU),vI ((rd ak ((rd ah a0.ay v1).au) aG).vType),vI ((rd ak ((rd ah a0.ay v1).au) aG).vAt)] 129 (0,0)),(some b1, .cells #[vL bQ a0.ay.length bT] 24 (0,0))]) rfl rfl Tryz.sizeOf129 rfl rfl (by decide) rfl HS8 rfl (Nat.le_of_ble_eq_true rfl) rfl rfl ?_
      intro w9 HS9
      refine rs (vI 0) (aC rfl) ?_
      try simp only [sc0,sc1]
      refine aB<|aj<|wp_ret<|dn<|aX<|gW<|aX ?_
      obtain rfl:=Option.some.inj H
      obtain rfl:=Option.some.inj G1
      exact bodyPost_ret (fO rfl (iP rfl Tryz.isAgg129 (HS9.look 2 rfl) Tryz.sizeOf129 rfl) (aV rfl)) rfl<|⟨rfl,HS9.toE⟩
     ·replace H:=bZ H (nt c3)
      refine wp_skip<|dB<|aj<|region<|rs (vI (w64 (aG+1))) (bK rfl rfl rfl)<|rs (vI (w64 (aG+1))) (aK rfl) ?_
      try simp only [sc0,sc1]
      refine aB<|gX m (Nat.lt_succ_self m) rfl ⟨(w64 (aG+1)),(fit rfl),H,HS8.tail⟩
    ·replace H:=bZ H (nt c2)
     refine wp_exit<|fF ?_
     obtain rfl:=Option.some.inj H
     refine iw rfl ⟨_,rfl,(fit rfl),HS6⟩
  ·rintro us w10 ⟨s1,rfl,l7,qN⟩
   obtain ⟨uo1,rfl⟩:=unj l7
   replace H:=G1
   clear G1
   try simp only [patch,sc0,sc1]
   refine aj<|wp_seq<|region<|rs (Value.agg #[vS ByteArray.empty,vI 0,vI 0]) (oW (cs:=[vS ByteArray.empty,vI 0,vI 0]) Tryz.zeroValue129 Tryz.runUnderlying129 (pl:=#[(0,1),(1,1),(2,1)]) (fun w=>by simp [Tryz.sizeOf3,Tryz.sizeOf9]) rfl) ?_
   refine gq (i:=1) (cs:=[vS ByteArray.empty,vI 0,vI 0]) (cs':=[vS ByteArray.empty,vI 0,vI 0]) (vs:=[vS ByteArray.empty,vI 0,vI 0]) (bs':=[(some b3, .cells #[vI ((rd ah a0.ay v1).aF),vS ((rd ah a0.ay v1).aU),vI ((rd ah a0.ay v1).bW.aS),vB ((rd ah a0.ay v1).bW.aO),vI ((rd ah a0.ay v1).dY),vI ((rd ah a0.ay v1).vN),vL dO ((rd ah a0.ay v1).au).length dR] 56 (0,0)),(some b2, .cells #[vS ByteArray.empty,vI 0,vI 0] 129 (0,0)),(some b1, .cells #[vL bQ a0.ay.length bT] 24 (0,0))]) rfl rfl Tryz.sizeOf129 rfl rfl (by decide) rfl qN rfl (Nat.le_of_ble_eq_true rfl) rfl rfl ?_
   intro w11 wU
   refine rs (vI 3) (aC rfl) ?_
   try simp only [sc0,sc1]
   refine aB<|aj<|wp_ret ?_
   obtain rfl:=Option.some.inj H
   exact bodyPost_ret (fO rfl (iP rfl Tryz.isAgg129 (wU.look 1 rfl) Tryz.sizeOf129 rfl) (aV rfl)) rfl<|⟨rfl,wU.toE⟩
def gY.l0 (k:Nat) (a0:bf) (a2:List ByteArray):Nat→Int→Int→Int→Option ((Int×Int×Int)⊕(Int×Int))
 |0,_,_,_=>none
 |m+1,aG,bH,kW=>if (decide (kW<(a2.length:Int)))=true then (if 0≤kW∧kW<a2.length then ((fZ.f k a0 aG (rd ByteArray.empty a2 kW)).bind fun v2=>(if (v2.2 !=0)=true then (some (.inl (0,0,v2.2))) else (gY.l0 k a0 a2 m v2.1.vType (IntKind.wrap .i64 (bH+v2.1.vAt)) (IntKind.wrap .i64 (kW+1))))) else none) else (some (.inr (aG,bH)))
def gY.f (k:Nat) (a0:bf) (a1:Int) (a2:List ByteArray):Option (Int×Int×Int):=(iC.f k a0 a1).bind fun v1=>(if (v1 !=0)=true then (some (0,0,v1)) else (if (decide ((a2.length:Int)>16))=true then (some (0,0,2)) else ((gY.l0 k a0 a2 k a1 0 0).bind fun xx1=>(match xx1 with| .inl r=>some r| .inr s1=>some (s1.1,s1.2,0)))))
theorem gY.calls (k:Nat) (a0:bf) (a1:Int) (a2:List ByteArray) (bQ:Option Addr) (bT:Nat) (Jv:Option Addr) (Jw:Nat) {h0:View} {w0:World} (hv:jf h0 w0) (fB:Rd eX h0 bQ a0.ay) (gI:a0.ay.length≤bT) (Us:Rd Kd.str h0 Jv a2) (Yb:a2.length≤Jw) {r:Int×Int×Int} (H:gY.f k a0 a1 a2=some r):Calls Tryz.prog 19 #[Value.agg #[vL bQ a0.ay.length bT],vI a1,vL Jv a2.length Jw] w0 (fun e w1=>e= .returned (Value.tuple #[vI r.1,vI r.2.1,vI r.2.2])∧Ext w0 w1):=by
 unfold gY.f at H
 have HS:St [] h0 w0 h0 [] w0:=St.init hv
 go_enter Tryz.func19,Tryz.ntmps19
 refine wp_seq<|region<|dK rfl rfl (dH (cs:=#[vL bQ a0.ay.length bT]) rfl rfl) ?_
 rintro w1 _ hE1 ⟨b1,rfl,ge1,hb1⟩
 have HS1:=HS.new hE1 ge1 hb1
 refine rs (vI 0) (aC rfl)<|rs (vI 0) (aC rfl)<|rs (vI 0) (aC rfl) ?_
 try simp only [sc0,sc1]
 refine aB<|aj<|wp_seq<|wp_seq<|region<|rs (Value.agg #[vL bQ a0.ay.length bT]) (aY (n:=1) (vs:=[vL bQ a0.ay.length bT]) rfl Tryz.isAgg24 (HS1.look 0 rfl) Tryz.sizeOf24 rfl rfl)<|rs (vI a1) (aK rfl) ?_
 obtain ⟨v1,H1,H⟩:=bJ H
 refine run_eq (v:=vI v1) rfl rfl (bC Tryz.call53 rfl rfl (iC.calls k a0 a1 bQ bT HS1.sees fB gI H1)) ?_
 intro w2 hE2
 have HS2:=HS1.step hE2
 refine rs (vI v1) (aC rfl) ?_
 try simp only [sc0,sc1]
 refine aB<|aj<|wp_seq<|region<|rs (vI v1) (aK rfl)<|rs (vB (v1 !=0)) (bK rfl rfl rfl) ?_
 try simp only [sc0,sc1]
 refine aB<|aj<|wp_cond_split (t:=(v1 !=0)) rfl (fun c1=>?_) (fun c1=>?_)
 ·replace H:=bU H c1
  refine wp_seq<|region<|rs (vI v1) (aK rfl)<|rs (vI 0) (aC rfl)<|rs (vI 0) (aC rfl)<|rs (vI v1) (aC rfl) ?_
  try simp only [sc0,sc1]
  refine aB<|aj<|wp_ret<|aX ?_
  obtain rfl:=Option.some.inj H
  exact bodyPost_ret (kH rfl (aV rfl) (aV rfl) (aV rfl)) rfl<|⟨rfl,HS2.toE⟩
 ·replace H:=bZ H (nt c1)
  refine wp_skip<|aj<|wp_seq<|wp_seq<|region<|rs (vL Jv a2.length Jw) (aK rfl)<|rs (vI (a2.length:Int)) (iT rfl Tryz.runUnderlying30)<|rs (vB (decide ((a2.length:Int)>16))) (bK rfl rfl rfl) ?_
  try simp only [sc0,sc1]
  refine aB<|aj<|wp_cond_split (t:=(decide ((a2.length:Int)>16))) rfl (fun c2=>?_) (fun c2=>?_)
  ·replace H:=bU H c2
   refine wp_seq<|region<|rs (vI 0) (aC rfl)<|rs (vI 0) (aC rfl)<|rs (vI 2) (aC rfl) ?_
   try simp only [sc0,sc1]
   refine aB<|aj<|wp_ret<|aX ?_
   obtain rfl:=Option.some.inj H
   exact bodyPost_ret (kH rfl (aV rfl) (aV rfl) (aV rfl)) rfl<|⟨rfl,HS2.toE⟩
  ·replace H:=bZ H (nt c2)
   refine wp_skip<|aj<|wp_seq<|region<|rs (vI 0) (aC rfl) ?_
   try simp only [sc0,sc1]
   refine aB<|aj<|wp_seq<|wp_seq<|region<|rs (vL Jv a2.length Jw) (aK rfl)<|rs (vI (a2.length:Int)) (iT rfl Tryz.runUnderlying30)<|rs (vI 0) (aK rfl) ?_
   try simp only [sc0,sc1]
   refine aB<|aj ?_
   obtain ⟨xx1,H,G1⟩:=bJ H
   refine iW [1,6,7,8,10,12,13,14,26,27,28,29,30,31,32,33,34,35,36,37,38,39,40,41,42,43,44,45,46] (fun m us w'=>∃aG bH kW:Int,Fit us (fun uy1=>[vI aG,(uy1 1),(uy1 2),(uy1 3),vI bH,(uy1 5),(uy1 6),(uy1 7),vI kW,(uy1 9),(uy1 10),(uy1 11),(uy1 12),(uy1 13),(uy1 14),(uy1 15),(uy1 16),(uy1 17),(uy1 18),(uy1 19),(uy1 20),(uy1 21),(uy1 22),(uy1 23),(uy1 24),(uy1 25),(uy1 26),(uy1 27),(uy1 28)])∧gY.l0 k a0 a2 m aG bH kW=some xx1∧St [] h0 w0 h0 [(some b1, .cells #[vL bQ a0.ay.length bT] 24 (0,0))] w') (fun us w'=>∃(s1:Int×Int),xx1= .inr s1∧Fit us (fun uo1=>[vI s1.1,(uo1 1),(uo1 2),(uo1 3),vI s1.2,(uo1 5),(uo1 6),(uo1 7),(uo1 8),(uo1 9),(uo1 10),(uo1 11),(uo1 12),(uo1 13),(uo1 14),(uo1 15),(uo1 16),(uo1 17),(uo1 18),(uo1 19),(uo1 20),(uo1 21),(uo1 22),(uo1 23),(uo1 24),(uo1 25),(uo1 26),(uo1 27),(uo1 28)])∧St [] h0 w0 h0 [(some b1, .cells #[vL bQ a0.ay.length bT] 24 (0,0))] w') k ⟨a1,0,0,(fit rfl),H,HS2⟩ ?_ ?_
   ·rintro m us w3 ⟨aG,bH,kW,lZ,H,HS3⟩
    obtain ⟨uy1,rfl⟩:=unj lZ
    cases m with
    |zero=>exact absurd H (by simp [gY.l0])
    |succ m=>
     rw [gY.l0] at H
     try simp only [patch,sc0,sc1]
     refine wp_seq<|region<|rs (vB (decide (kW<(a2.length:Int)))) (bK rfl rfl rfl) ?_
     try simp only [sc0,sc1]
     refine aB<|aj<|wp_seq<|wp_cond_split (t:=(decide (kW<(a2.length:Int)))) rfl (fun c3=>?_) (fun c3=>?_)
     ·replace H:=bU H c3
      refine wp_skip<|aj<|wp_seq<|wp_block<|wp_seq<|region ?_
      obtain ⟨hi1,H⟩:=fE H
      obtain ⟨ad1,e1,kX⟩:=QG Us hi1.1 hi1.2
      refine rs (Value.pointer (some (Addr.add ad1 (kW.toNat*1)))) (dQ (sz:=1) rfl e1 rfl hi1.1 hi1.2 Tryz.runUnderlying30 Tryz.sizeOf9)<|rs (vS (rd ByteArray.empty a2 kW)) (jF rfl Tryz.isAgg9 (kX.cell0 HS3.sees rfl))<|rs (vS (rd ByteArray.empty a2 kW)) (aC rfl) ?_
      try simp only [sc0,sc1]
      refine aB<|aj<|wp_seq<|region<|rs (Value.agg #[vL bQ a0.ay.length bT]) (aY (n:=1) (vs:=[vL bQ a0.ay.length bT]) rfl Tryz.isAgg24 (HS3.look 0 rfl) Tryz.sizeOf24 rfl rfl)<|rs (vI aG) (aK rfl)<|rs (vS (rd ByteArray.empty a2 kW)) (aK rfl) ?_
      obtain ⟨v2,H2,H⟩:=bJ H
      refine run_eq (v:=Value.tuple #[Value.agg #[vS v2.1.aU,vI v2.1.vType,vI v2.1.vAt],vI v2.2]) rfl rfl (bC Tryz.call54 rfl rfl (fZ.calls k a0 aG (rd ByteArray.empty a2 kW) bQ bT HS3.sees fB gI H2)) ?_
      intro w4 hE3
      have HS4:=HS3.step hE3
      refine aI (by simp only [sc0,sc1];rfl) ?_
      refine rs (Value.tuple #[Value.agg #[vS v2.1.aU,vI v2.1.vType,vI v2.1.vAt],vI v2.2]) (aK rfl)<|rs (Value.agg #[vS v2.1.aU,vI v2.1.vType,vI v2.1.vAt]) (eU rfl rfl)<|rs (vI v2.2) (eU rfl rfl)<|dK rfl rfl (fA (cs:=#[vS ByteArray.empty,vI 0,vI 0]) Tryz.zeroValue129 rfl) ?_
      rintro w5 _ hE4 ⟨b2,rfl,ge2,hb2⟩
      have HS5:=HS4.new hE4 ge2 hb2
      refine aI (by simp only [sc0,sc1];rfl) ?_
      refine gq (i:=0) (cs:=[vS ByteArray.empty,vI 0,vI 0]) (cs':=[vS v2.1.aU,vI v2.1.vType,vI v2.1.vAt]) (vs:=[vS v2.1.aU,vI v2.1.vType,vI v2.1.vAt]) (bs':=[(some b2, .cells #[vS v2.1.aU,vI v2.1.vType,vI v2.1.vAt] 129 (0,0)),(some b1, .cells #[vL bQ a0.ay.length bT] 24 (0,0))]) rfl rfl Tryz.sizeOf129 rfl rfl (by decide) rfl HS5 rfl (Nat.le_of_ble_eq_true rfl) rfl rfl ?_
      intro w6 HS6
      refine rs (vI v2.2) (aC rfl) ?_
      try simp only [sc0,sc1]
      refine aB<|aj<|wp_seq<|wp_seq<|region<|rs (vI v2.2) (aK rfl)<|rs (vB (v2.2 !=0)) (bK rfl rfl rfl) ?_
      try simp only [sc0,sc1]
      refine aB<|aj<|wp_cond_split (t:=(v2.2 !=0)) rfl (fun c4=>?_) (fun c4=>?_)
      ·replace H:=bU H c4
       refine wp_seq<|region<|rs (vI v2.2) (aK rfl)<|rs (vI 0) (aC rfl)<|rs (vI 0) (aC rfl)<|rs (vI v2.2) (aC rfl) ?_
       try simp only [sc0,sc1]
       refine aB<|aj<|wp_ret<|aX<|dn<|aX<|gW<|aX ?_
       obtain rfl:=Option.some.inj H
       obtain rfl:=Option.some.inj G1
       exact bodyPost_ret (kH rfl (aV rfl) (aV rfl) (aV rfl)) rfl<|⟨rfl,HS6.toE⟩
      ·replace H:=bZ H (nt c4)
       refine wp_skip<|aj<|drawn [.eq (vP b2 1), .eq (vI v2.1.vType), .eq (vI bH), .eq (vP b2 2), .eq (vI v2.1.vAt), .eq (vI (w64 (bH+v2.1.vAt))), .eq (vI v2.1.vType)] [40,41,42,43,44,45,1] nD (by kernel_rfl) rfl (bn (bn (bn (bn (bn (bn (bn jh))))))) ⟨bI rfl (fun a' w' hE hk=>by have HSd:=HS6.step hE;exact cu (aH (n:=1) (o':=1) (show _=vP b2 0 from hk 13 rfl) Tryz.runUnderlying129 rfl Tryz.sizeOf3 (by decide) rfl)),bI rfl (fun a' w' hE hk=>by have HSd:=HS6.step hE;exact cu (aN (show _=vP b2 1 from hk 40 rfl) Tryz.isAgg3 (HSd.look 0 rfl) rfl)),bI rfl (fun a' w' hE hk=>by have HSd:=HS6.step hE;exact cu (aK (show _=vI bH from hk 10 rfl))),bI rfl (fun a' w' hE hk=>by have HSd:=HS6.step hE;exact cu (aH (n:=1) (o':=2) (show _=vP b2 0 from hk 13 rfl) Tryz.runUnderlying129 rfl Tryz.sizeOf3 (by decide) rfl)),bI rfl (fun a' w' hE hk=>by have HSd:=HS6.step hE;exact cu (aN (show _=vP b2 2 from hk 43 rfl) Tryz.isAgg3 (HSd.look 0 rfl) rfl)),bI rfl (fun a' w' hE hk=>by have HSd:=HS6.step hE;exact cu (bK (show _=vI bH from hk 42 rfl) (show _=vI v2.1.vAt from hk 44 rfl) rfl)),bI rfl (fun a' w' hE hk=>by have HSd:=HS6.step hE;exact cu (aC (show _=vI v2.1.vType from hk 41 rfl))),trivial⟩ ?_
       intro w7 hE5
       simp only [List.zip_cons_cons,List.zip_nil_left,List.zip_nil_right,yh,sc0,sc1,List.length_cons,List.length_nil,List.drop_succ_cons,List.drop_zero,Nat.zero_add,Nat.reduceAdd]
       have HS7:=HS6.step hE5
       refine rs (vI (w64 (bH+v2.1.vAt))) (aC rfl) ?_
       try simp only [sc0,sc1]
       refine aB<|dB<|aj<|region<|rs (vI (w64 (kW+1))) (bK rfl rfl rfl)<|rs (vI (w64 (kW+1))) (aK rfl) ?_
       try simp only [sc0,sc1]
       refine aB<|gX m (Nat.lt_succ_self m) rfl ⟨v2.1.vType,(w64 (bH+v2.1.vAt)),(w64 (kW+1)),(fit rfl),H,HS7.tail⟩
     ·replace H:=bZ H (nt c3)
      refine wp_exit<|fF ?_
      obtain rfl:=Option.some.inj H
      refine iw rfl ⟨_,rfl,(fit rfl),HS3⟩
   ·rintro us w8 ⟨s1,rfl,l7,HS8⟩
    obtain ⟨uo1,rfl⟩:=unj l7
    replace H:=G1
    clear G1
    try simp only [patch,sc0,sc1]
    refine aj<|wp_seq<|region<|rs (vI s1.1) (aK rfl)<|rs (vI s1.2) (aK rfl)<|rs (vI s1.1) (aC rfl)<|rs (vI s1.2) (aC rfl)<|aI (by simp only [sc0,sc1];rfl) ?_
    refine rs (vI 0) (aC rfl) ?_
    try simp only [sc0,sc1]
    refine aB<|aj<|wp_ret ?_
    obtain rfl:=Option.some.inj H
    exact bodyPost_ret (kH rfl (aV rfl) (aV rfl) (aV rfl)) rfl<|⟨rfl,HS8.toE⟩
end Go.Proofs.YtecpbadkdpbkpaaGreatDoor
