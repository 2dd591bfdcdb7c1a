/- Parts of a proof, merged by program: V1 V2 V3 V4 V5 V6 V6b V7 V8 V9 VF V10 V11 V12 V12b. The walks (each function once) and the plain laws; no condition of their own. -/
import Derived.Orders
import Derived.Below
import Derived.Tactics
import Derived.OrdersIn
import Derived.RecoverIn
import Derived.RangeFuncRecord
import Derived.Laws.BytesString
set_option linter.unusedVariables false
set_option linter.unusedSimpArgs false
namespace Go.V
noncomputable section
abbrev Ren:=Nat→Option (Nat×(Nat×Nat))
abbrev Mem:=Nat→Option Obj
def wu (cv:Nat):Nat:=if cv%2=1 then cv/2 else cv/2/65536
def W9 (cv:Nat):Nat:=cv/2%65536
def pV (c k:Nat):Nat:=2*(c*65536+k)
def rF (cv cr q r:Nat):Prop:=if cv%2=1 then cr=cv/2 else cv/2/65536≤cr∧q+cr*W9 cv≤r
theorem xZ {cv cr q r:Nat} (h:rF cv cr q r):wu cv≤cr:=by unfold rF at h;unfold wu;split at h<;>simp_all
theorem nO {c k cr q r:Nat} (hk:k<65536) (h:c≤cr) (h2:q+cr*k≤r):rF (pV c k) cr q r:=by
 unfold rF pV W9
 have h1:2*(c*65536+k)/2=c*65536+k:=by omega
 have h3:(c*65536+k)%65536=k:=by omega
 have h4:(c*65536+k)/65536=c:=by omega
 rw [if_neg (by omega),h1,h3,h4]
 exact ⟨h,h2⟩
inductive FnR (R:Ren):Fn→Fn→Prop
 |func (f):FnR R (.func f) (.func f)
 |method (n):FnR R (.method n) (.method n)
 |methodOf (t n):FnR R (.methodOf t n) (.methodOf t n)
 |via (t p f b):FnR R (.via t p f b) (.via t p f b)
 |yield {l b}:R l=some (b,0,0)→FnR R (.yield l) (.yield b)
mutual
inductive VR (R:Ren):Value→Value→Prop
 |bool (b):VR R (.bool b) (.bool b)
 |int (k n):VR R (.int k n) (.int k n)
 |float (k n):VR R (.float k n) (.float k n)
 |complex (k x y):VR R (.complex k x y) (.complex k x y)
 |string (s):VR R (.string s) (.string s)
 |Aq:VR R (.pointer none) (.pointer none)
 |ptr {n o b d}:R n=some (b,d)→VR R (.pointer (some ⟨n,o,none⟩)) (.pointer (some ⟨b,d.1+o,none⟩))
 |qF:VR R (.slice none 0 0) (.slice none 0 0)
 |slice {n o b d l cv cr q}:R n=some (b,d)→rF cv cr q d.2→(l≠0∨wu cv≠0→q=d.1+o)→VR R (.slice (some ⟨n,o,none⟩) l cv) (.slice (some ⟨b,q,none⟩) l cr)
 |Ar:VR R (.map none) (.map none)
 |map {n b}:R n=some (b,0,0)→VR R (.map (some n)) (.map (some b))
 |func {f g fs gs cs ds}:FnR R f g→VRs R fs.toList gs.toList→VRs R cs.toList ds.toList→VR R (.func f fs cs) (.func g gs ds)
 |nilFunc:VR R .nilFunc .nilFunc
 |iface {t v u}:VR R v u→VR R (.iface t v) (.iface t u)
 |nilIface:VR R .nilIface .nilIface
 |agg {cs ds}:VRs R cs.toList ds.toList→VR R (.agg cs) (.agg ds)
 |tuple {cs ds}:VRs R cs.toList ds.toList→VR R (.tuple cs) (.tuple ds)
inductive VRs (R:Ren):List Value→List Value→Prop
 |nil:VRs R [] []
 |cons {v u vs us}:VR R v u→VRs R vs us→VRs R (v::vs) (u::us)
end
def Ren.le (R R':Ren):Prop:=∀n x,R n=some x→R' n=some x
theorem Ren.le_refl (R:Ren):R.le R:=fun _ _ h=>h
theorem Ren.le_trans {R S T:Ren} (h:R.le S) (g:S.le T):R.le T:=fun n x e=>g n x (h n x e)
theorem FnR.mono {R R':Ren} (h:R.le R') {f g:Fn} (k:FnR R f g):FnR R' f g:=by
 cases k with
 |func f=>exact .func f
 |method n=>exact .method n
 |methodOf t n=>exact .methodOf t n
 |via t p f b=>exact .via t p f b
 |yield e=>exact .yield (h _ _ e)
mutual
theorem VR.mono {R R':Ren} (h:R.le R'):∀{v u:Value},VR R v u→VR R' v u
 |_,_, .bool b=> .bool b
 |_,_, .int k n=> .int k n
 |_,_, .float k n=> .float k n
 |_,_, .complex k x y=> .complex k x y
 |_,_, .string s=> .string s
 |_,_, .Aq=> .Aq
 |_,_, .ptr e=> .ptr (h _ _ e)
 |_,_, .qF=> .qF
 |_,_, .slice e c q=> .slice (h _ _ e) c q
 |_,_, .Ar=> .Ar
 |_,_, .map e=> .map (h _ _ e)
 |_,_, .func f a b=> .func (f.mono h) (VRs.mono h a) (VRs.mono h b)
 |_,_, .nilFunc=> .nilFunc
 |_,_, .iface a=> .iface (VR.mono h a)
 |_,_, .nilIface=> .nilIface
 |_,_, .agg a=> .agg (VRs.mono h a)
 |_,_, .tuple a=> .tuple (VRs.mono h a)
theorem VRs.mono {R R':Ren} (h:R.le R'):∀{vs us:List Value},VRs R vs us→VRs R' vs us
 |_,_, .nil=> .nil
 |_,_, .cons a b=> .cons (VR.mono h a) (VRs.mono h b)
end
section
variable {R:Ren}
theorem VRs.len:∀{vs us:List Value},VRs R vs us→vs.length=us.length
 |_,_, .nil=>rfl
 |_,_, .cons _ b=>by rw [List.length_cons,List.length_cons,VRs.len b]
theorem VRs.get:∀{vs us:List Value},VRs R vs us→∀(i:Nat) (v:Value),vs[i]?=some v→∃u,us[i]?=some u∧VR R v u
  |_,_, .nil,i,v,e=>by simp at e
  | _, _, .cons (v := v) (u := u) a b, i, x, e => by
    cases i with
    |zero=>simp at e;subst e;exact ⟨u,by simp,a⟩
    |succ i=>simp at e;obtain ⟨y,h1,h2⟩:=VRs.get b i x e;exact ⟨y,by simpa using h1,h2⟩
theorem VRs.QH:∀{vs us:List Value},vs.length=us.length→(∀(i:Nat) (v:Value),vs[i]?=some v→∃u,us[i]?=some u∧VR R v u)→VRs R vs us
  |[],[],_,_=> .nil
  |[],_::_,h,_=>by simp at h
  |_::_,[],h,_=>by simp at h
  | v :: vs, u :: us, h, g => by
    obtain ⟨x,h1,h2⟩:=g 0 v (by simp)
    simp at h1;subst h1
    exact .cons h2 (VRs.QH (by simpa using h) fun i w e=>by obtain ⟨y,a,b⟩:=g (i+1) w (by simpa using e);exact ⟨y,by simpa using a,b⟩)
theorem VRs.append:∀{vs us ws xs:List Value},VRs R vs us→VRs R ws xs→VRs R (vs++ws) (us++xs)
 |_,_,_,_, .nil,h=>h
 |_,_,_,_, .cons a b,h=> .cons a (VRs.append b h)
theorem VRs.take:∀{vs us:List Value} (n:Nat),VRs R vs us→VRs R (vs.take n) (us.take n)
 |_,_,0,_=>by simp;exact .nil
 |_,_,n+1, .nil=> .nil
 |_,_,n+1, .cons a b=> .cons a (VRs.take n b)
theorem VRs.drop:∀{vs us:List Value} (n:Nat),VRs R vs us→VRs R (vs.drop n) (us.drop n)
 |_,_,0,h=>by simpa using h
 |_,_,n+1, .nil=> .nil
 |_,_,n+1, .cons a b=>VRs.drop n b
end
mutual
def ig:Value→Bool
 | .bool _| .int _ _| .float _ _| .complex _ _ _| .string _| .pointer none| .map none| .nilFunc| .nilIface=>true
 | .slice none 0 0=>true
 | .func (.func _) ⟨fs⟩ ⟨cs⟩=>kP fs&&kP cs
 | .iface _ v=>ig v
 | .agg ⟨cs⟩=>kP cs
 | .tuple ⟨cs⟩=>kP cs
 |_=>false
def kP:List Value→Bool
 |[]=>true
 |v::vs=>ig v&&kP vs
end
section
variable {R:Ren}
mutual
theorem ji:∀(v:Value),ig v=true→VR R v v
  | .bool b,_=> .bool b
  | .int k n,_=> .int k n
  | .float k n,_=> .float k n
  | .complex k x y,_=> .complex k x y
  | .string s,_=> .string s
  | .pointer none,_=> .Aq
  | .pointer (some _),h=>by simp [ig] at h
  | .slice none 0 0,_=> .qF
  | .slice none 0 (_+1),h=>by simp [ig] at h
  | .slice none (_+1) _,h=>by simp [ig] at h
  | .slice (some _) _ _,h=>by simp [ig] at h
  | .map none,_=> .Ar
  | .map (some _),h=>by simp [ig] at h
  | .chan _,h=>by simp [ig] at h
  | .func (.func f) ⟨fs⟩ ⟨cs⟩, h => by
    simp only [ig,Bool.and_eq_true] at h
    exact .func (.func f) (jv fs h.1) (jv cs h.2)
  | .func (.method _) _ _,h=>by simp [ig] at h
  | .func (.methodOf _ _) _ _,h=>by simp [ig] at h
  | .func (.via _ _ _ _) _ _,h=>by simp [ig] at h
  | .func (.yield _) _ _,h=>by simp [ig] at h
  | .nilFunc,_=> .nilFunc
  | .iface t v,h=> .iface (ji v (by simpa only [ig] using h))
  | .nilIface,_=> .nilIface
  | .agg ⟨cs⟩,h=> .agg (jv cs (by simpa only [ig] using h))
  | .tuple ⟨cs⟩,h=> .tuple (jv cs (by simpa only [ig] using h))
theorem jv:∀(vs:List Value),kP vs=true→VRs R vs vs
  |[],_=> .nil
  | v :: vs, h => by
    simp only [kP,Bool.and_eq_true] at h
    exact .cons (ji v h.1) (jv vs h.2)
end
mutual
theorem iL:∀{v u:Value},VR R v u→ig v=true→u=v
  |_,_, .bool b,_=>rfl
  |_,_, .int k n,_=>rfl
  |_,_, .float k n,_=>rfl
  |_,_, .complex k x y,_=>rfl
  |_,_, .string s,_=>rfl
  |_,_, .Aq,_=>rfl
  |_,_, .ptr e,h=>by simp [ig] at h
  |_,_, .qF,_=>rfl
  |_,_, .slice e c q,h=>by simp [ig] at h
  |_,_, .Ar,_=>rfl
  |_,_, .map e,h=>by simp [ig] at h
  | _, _, .func (fs := ⟨fs⟩) (gs := ⟨gs⟩) (cs := ⟨cs⟩) (ds := ⟨ds⟩) f a b, h => by
    cases f with
    | func f =>
      simp only [ig,Bool.and_eq_true] at h
      have h1:=pW a h.1
      have h2:=pW b h.2
      simp only at h1 h2
      subst h1 h2
      rfl
    |method n=>simp [ig] at h
    |methodOf t n=>simp [ig] at h
    |via t p f b=>simp [ig] at h
    |yield e=>simp [ig] at h
  |_,_, .nilFunc,_=>rfl
  |_,_, .iface a,h=>by rw [iL a (by simpa only [ig] using h)]
  |_,_, .nilIface,_=>rfl
  | _, _, .agg (cs := ⟨cs⟩) (ds := ⟨ds⟩) a, h => by
    have:=pW a (by simpa only [ig] using h)
    simp only at this
    subst this;rfl
  | _, _, .tuple (cs := ⟨cs⟩) (ds := ⟨ds⟩) a, h => by
    have:=pW a (by simpa only [ig] using h)
    simp only at this
    subst this;rfl
theorem pW:∀{vs us:List Value},VRs R vs us→kP vs=true→us=vs
  |_,_, .nil,_=>rfl
  | _, _, .cons a b, h => by
    simp only [kP,Bool.and_eq_true] at h
    rw [iL a h.1,pW b h.2]
end
end
inductive Tr where
 |leaf
 |node (v:Option Obj) (l r:Tr)
noncomputable def Tr.get (t:Tr):Nat→Option Obj:=Tr.rec (motive:=fun _=>Nat→Option Obj) (fun _=>none) (fun v _ _ gl gr n=>Nat.rec v (fun k _=>Bool.rec (gr (Nat.div k 2)) (gl (Nat.div k 2)) (Nat.beq (Nat.mod k 2) 0)) n) t
def Tr.val:Tr→Option Obj
 | .leaf=>none
 | .node v _ _=>v
def Tr.left:Tr→Tr
 | .leaf=> .leaf
 | .node _ l _=>l
def Tr.right:Tr→Tr
 | .leaf=> .leaf
 | .node _ _ r=>r
noncomputable def Tr.put (f:Nat):Tr→Nat→Option Obj→Tr:=Nat.rec (motive:=fun _=>Tr→Nat→Option Obj→Tr) (fun t _ _=>t)
 (fun _ put t n o => Tr.rec (motive := fun _ => Tr)
  (Nat.rec (.node o .leaf .leaf) (fun k _=>Bool.rec (.node none .leaf (put .leaf (Nat.div k 2) o)) (.node none (put .leaf (Nat.div k 2) o) .leaf) (Nat.beq (Nat.mod k 2) 0)) n)
  (fun v l r _ _ => Nat.rec (.node o l r) (fun k _ => Bool.rec (.node v l (put r (Nat.div k 2) o)) (.node v (put l (Nat.div k 2) o) r) (Nat.beq (Nat.mod k 2) 0)) n) t) f
noncomputable def Tr.set (t:Tr) (n:Nat) (o:Option Obj):Tr:=t.put (n+1) n o
theorem Tr.FB (v:Option Obj) (l r:Tr):(Tr.node v l r).get 0=v:=rfl
theorem Tr.CJ (v:Option Obj) (l r:Tr) (n:Nat):(Tr.node v l r).get (n+1)=if n%2=0 then l.get (n/2) else r.get (n/2):=by
 change (Bool.rec (r.get (n/2)) (l.get (n/2)) (Nat.beq (n%2) 0):Option Obj)=_
 cases h:Nat.beq (n%2) 0 with
 |true=>rw [if_pos (Nat.eq_of_beq_eq_true h)]
 |false=>rw [if_neg (Nat.ne_of_beq_eq_false h)]
theorem Tr.SA (f:Nat) (t:Tr) (o:Option Obj):t.put (f+1) 0 o= .node o t.left t.right:=by cases t<;>rfl
theorem Tr.Pn (f:Nat) (t:Tr) (n:Nat) (o:Option Obj):t.put (f+1) (n+1) o=if n%2=0 then .node t.val (t.left.put f (n/2) o) t.right else .node t.val t.left (t.right.put f (n/2) o):=by
 have:t.put (f+1) (n+1) o=Bool.rec (.node t.val t.left (t.right.put f (n/2) o)) (.node t.val (t.left.put f (n/2) o) t.right) (Nat.beq (n%2) 0):=by cases t<;>rfl
 rw [this]
 cases h:Nat.beq (n%2) 0 with
 |true=>rw [if_pos (Nat.eq_of_beq_eq_true h)]
 |false=>rw [if_neg (Nat.ne_of_beq_eq_false h)]
theorem Tr.lg (t:Tr) (n:Nat):t.get n=match n with|0=>t.val|n+1=>if n%2=0 then t.left.get (n/2) else t.right.get (n/2):=by
  cases t with
  | leaf => cases n with
    |zero=>rfl
    | succ n =>
      change none=if n%2=0 then none else none
      split<;>rfl
  | node v l r => cases n with
    |zero=>rfl
    |succ n=>rw [Tr.CJ];rfl
theorem Tr.get_put : ∀ (f : Nat) (t : Tr) (n m : Nat) (o : Option Obj), n < f → (t.put f n o).get m = if m = n then o else t.get m := by
  intro f
  induction f with
  |zero=>intro t n m o h;omega
  | succ f ih =>
    intro t n m o h
    cases n with
    | zero =>
      rw [Tr.SA]
      cases m with
      |zero=>simp [Tr.FB]
      |succ m=>rw [if_neg (by omega),Tr.CJ,Tr.lg t]
    | succ n =>
      rw [Tr.Pn]
      by_cases hn:n%2=0
      · rw [if_pos hn]
        cases m with
        |zero=>rw [if_neg (by omega),Tr.FB,Tr.lg t]
        | succ m =>
          rw [Tr.CJ,Tr.lg t]
          simp only
          by_cases hm:m%2=0
          · rw [if_pos hm,if_pos hm,ih _ _ _ _ (by omega)]
            by_cases e:m=n
            · subst e;simp
            · rw [if_neg (by omega),if_neg (by omega)]
          · have hne:¬m+1=n+1:=fun e=>hm ((show n=m by omega)▸hn)
            rw [if_neg hm,if_neg hm,if_neg hne]
      · rw [if_neg hn]
        cases m with
        |zero=>rw [if_neg (by omega),Tr.FB,Tr.lg t]
        | succ m =>
          rw [Tr.CJ,Tr.lg t]
          simp only
          by_cases hm:m%2=0
          · have hne:¬m+1=n+1:=fun e=>hn ((show m=n by omega)▸hm)
            rw [if_pos hm,if_pos hm,if_neg hne]
          · rw [if_neg hm,if_neg hm,ih _ _ _ _ (by omega)]
            by_cases e:m=n
            · subst e;simp
            · rw [if_neg (by omega),if_neg (by omega)]
theorem Tr.lS (t:Tr) (n m:Nat) (o:Option Obj):(t.set n o).get m=if m=n then o else t.get m:=Tr.get_put _ _ _ _ _ (by omega)
abbrev Delta:=List (Nat×Option Obj)
def lk:Delta→Nat→Option (Option Obj)
 |[],_=>none
 |p::r,m=>match lk r m with|some x=>some x|none=>if m=p.1 then some p.2 else none
def ov (S:Mem) (δ:Delta):Mem:=fun m=>(lk δ m).getD (S m)
noncomputable def Tr.ap (t:Tr):Delta→Tr
 |[]=>t
 |p::r=>(t.set p.1 p.2).ap r
theorem Tr.yN:∀(δ:Delta) (t:Tr) (m:Nat),(t.ap δ).get m=ov t.get δ m
  |[],t,m=>rfl
  | p :: r, t, m => by
    rw [Tr.ap,Tr.yN r]
    unfold ov
    rw [lk,Tr.lS]
    cases lk r m with
    |some x=>rfl
    |none=>by_cases h:m=p.1<;>simp [h]
theorem iy:∀(a b:Delta) (m:Nat),lk (a++b) m=match lk b m with|some x=>some x|none=>lk a m
  |[],b,m=>by simp only [List.nil_append,lk];cases lk b m<;>rfl
  | p :: a, b, m => by
    rw [List.cons_append,lk,iy a b,lk]
    cases lk b m<;>rfl
theorem rG (S:Mem) (a b:Delta):ov S (a++b)=ov (ov S a) b:=by
 funext m
 unfold ov
 rw [iy]
 cases lk b m<;>rfl
def Au (R:Ren) (d:Nat) (cs cs':Array Value):Prop:=∀(i:Nat) (v:Value),cs[i]?=some v→∃u,cs'[d+i]?=some u∧VR R v u
inductive EsR (R:Ren):List MapEntry→List MapEntry→Prop
 |nil:EsR R [] []
 |cons {k v u b b' es es'}:ig k=true→VR R v u→EsR R es es'→EsR R (⟨k,v,b⟩::es) (⟨k,u,b'⟩::es')
def zS (R:Ren) (es es':List MapEntry):Prop:=∃es2:List MapEntry,es2.Perm es'∧EsR R es es2
def isU:Value→Bool
 | .tuple ⟨[]⟩=>true
 |_=>false
def FC (R:Ren) (ts us:Array Value):Prop:=ts.size=us.size∧∀(i:Nat) (v:Value),ts[i]?=some v→isU v=false→∃u,us[i]?=some u∧VR R v u
inductive OR (R:Ren):Nat×Nat→Obj→Obj→Prop
 |cells {d cs e cs' e' fz}:Au R d.1 cs cs'→d.2≤cs'.size→(fz.1=fz.2∨∀j,(j<d.1+cs.size∨j<d.2)→j<fz.1)→OR R d (.cells cs e (0,0)) (.cells cs' e' fz)
 |ro {d cs e cs' e' fz}:Au R d.1 cs cs'→OR R d (.cells cs e (0,1)) (.cells cs' e' fz)
 |map {es es' clock clock'}:zS R es.toList es'.toList→OR R (0,0) (.map es clock) (.map es' clock')
 |KN {s p}:OR R (0,0) (.stringIter s p) (.stringIter s p)
 |Aw {a b c}:OR R (0,0) (.mapIter none a b c) (.mapIter none a b c)
 |mapIter {n m a b c}:R n=some (m,0,0)→OR R (0,0) (.mapIter (some n) a b c) (.mapIter (some m) a b c)
 |FD:OR R (0,0) (.deferred none) (.deferred none)
 |calls:OR R (0,0) (.deferred (some [])) (.deferred (some []))
 |loop {st pe f g ts us ps x y n b}:g<f→FC R ts us→R n=some (b,0,0)→OR R (0,0) (.loop ⟨st,pe,f,ts,ps,x,y,n⟩) (.loop ⟨st,pe,g,us,ps,x,y,b⟩)
theorem QI {A:Nat→Prop} {fz:Nat×Nat} (h:fz.1=fz.2∨∀j,A j→j<fz.1) (j:Nat) (hj:A j):¬(fz.1≤j∧j<fz.2):=by
 rcases h with h|h
 ·omega
 ·have:=h j hj;omega
theorem EsR.mono {R R':Ren} (h:R.le R'):∀{a b},EsR R a b→EsR R' a b
 |_,_, .nil=> .nil
 |_,_, .cons p v r=> .cons p (v.mono h) (EsR.mono h r)
theorem zS.mono {R R':Ren} (h:R.le R') {a b:List MapEntry} (k:zS R a b):zS R' a b:=by
 obtain ⟨c,p,e⟩:=k
 exact ⟨c,p,e.mono h⟩
theorem OR.mono {R R':Ren} (h:R.le R') {d:Nat×Nat} {o o':Obj} (k:OR R d o o'):OR R' d o o':=by
 cases k with
 |cells c r f=>exact .cells (fun i v e=>by obtain ⟨u,a,b⟩:=c i v e;exact ⟨u,a,b.mono h⟩) r f
 |ro c=>exact .ro (fun i v e=>by obtain ⟨u,a,b⟩:=c i v e;exact ⟨u,a,b.mono h⟩)
 |map m=>exact .map (m.mono h)
 |KN=>exact .KN
 |Aw=>exact .Aw
 |mapIter e=>exact .mapIter (h _ _ e)
 |FD=>exact .FD
 |calls=>exact .calls
 |loop g t e=>exact .loop g ⟨t.1,fun i v a b=>by obtain ⟨u,c,d⟩:=t.2 i v a b;exact ⟨u,c,d.mono h⟩⟩ (h _ _ e)
structure HR (P:Program) (R:Ren) (S:Mem) (w:World):Prop where
 glob:∀g,g<P.globals.size→∃r,R g=some (g,0,r)
 obj:∀n o,S n=some o→∃b d o',R n=some (b,d)∧w.heap[b]?=some o'∧OR R d o o'
 inj:∀n m b d e,(S n).isSome→(S m).isSome→R n=some (b,d)→R m=some (b,e)→n=m
theorem HR.sub {P:Program} {R:Ren} {S T:Mem} {w:World} (h:HR P R S w) (k:∀m o,T m=some o→S m=some o):HR P R T w:=
 ⟨h.glob, fun n o e => h.obj n o (k n o e), fun n m b d e hn hm => h.inj n m b d e (by
  obtain ⟨o,ho⟩:=Option.isSome_iff_exists.1 hn;rw [k n o ho];rfl) (by
  obtain ⟨o, ho⟩ := Option.isSome_iff_exists.1 hm; rw [k m o ho]; rfl)⟩
theorem HR.world {P:Program} {R:Ren} {S:Mem} {w w':World} (h:HR P R S w) (e:w'.heap=w.heap):HR P R S w':=
 ⟨h.glob,fun n o k=>by rw [e];exact h.obj n o k,h.inj⟩
def Fr (P:Program) (R:Ren) (S:Mem) (n n':Nat):Prop:=P.globals.size≤n∧∀m,n≤m→m<n'→R m=none∧S m=none
theorem Fr.part {P:Program} {R:Ren} {S:Mem} {n n' a b:Nat} (h:Fr P R S n n') (h1:n≤a) (h2:b≤n'):Fr P R S a b:=
 ⟨Nat.le_trans h.1 h1,fun m x y=>h.2 m (by omega) (by omega)⟩
structure Post (R R':Ren) (n n':Nat) (S:Mem) (δ:Delta) (w w':World):Prop where
 le:n≤n'
 ext:∀m,(m<n∨n'≤m)→R' m=R m
 obj:∀m o,lk δ m=some (some o)→∃b d o',R' m=some (b,d)∧w'.heap[b]?=some o'∧OR R' d o o'
 inj:∀m k b d e,(∃o,lk δ m=some (some o))→(∃o,lk δ k=some (some o))→R' m=some (b,d)→R' k=some (b,e)→m=k
 rng:∀m,(lk δ m).isSome→(n≤m∧m<n')∨(S m).isSome
 new:∀m b d,n≤m→m<n'→(∃o,lk δ m=some (some o))→R' m=some (b,d)→w.heap.size≤b∨∃y d',(lk δ y).isSome∧(S y).isSome∧R y=some (b,d')
 os:w'.os=w.os
 tape:w'.tape=w.tape
 output:w'.output=w.output
 size:w.heap.size≤w'.heap.size
 frame:∀b,b<w.heap.size→(∀y d,(lk δ y).isSome→(S y).isSome→R y≠some (b,d))→w'.heap[b]?=w.heap[b]?
section
variable {P:Program} {R R' R2:Ren} {S E:Mem} {n n' n2:Nat} {δ δ2:Delta} {w w' w2:World}
theorem Post.rle (p:Post R R' n n' E δ w w') (fr:Fr P R S n n'):R.le R':=fun m x e=>by
 by_cases h:n≤m∧m<n'
 ·rw [(fr.2 m h.1 h.2).1] at e;cases e
 ·rw [p.ext m (by omega)];exact e
theorem mP {w:World} {b:Nat} {o:Obj} (h:w.heap[b]?=some o):b<w.heap.size:=(Array.getElem?_eq_some_iff.1 h).1
theorem Post.up (h : HR P R S w) (hs : ∀ m o, E m = some o → S m = some o) (fr : Fr P R S n n') (p : Post R R' n n' E δ w w') : HR P R' (ov S δ) w' := by
  have hE:∀m,(E m).isSome→(S m).isSome:=fun m hm=>by
    obtain ⟨o,ho⟩:=Option.isSome_iff_exists.1 hm
    rw [hs m o ho];rfl
  have live:∀m o,ov S δ m=some o→lk δ m=some (some o)∨(lk δ m=none∧S m=some o):=fun m o e=>by
    unfold ov at e
    cases hl:lk δ m with
    |none=>rw [hl] at e;exact .inr ⟨rfl,e⟩
    |some x=>rw [hl] at e;simp at e;rw [e];exact .inl rfl
  have old : ∀ m o, S m = some o → R' m = R m := fun m o e => p.ext m (by
    rcases Nat.lt_or_ge m n with h1|h1
    · exact .inl h1
    · rcases Nat.lt_or_ge m n' with h2|h2
      · rw [(fr.2 m h1 h2).2] at e;cases e
      · exact .inr h2)
  refine ⟨fun g hg=>by rw [p.ext g (.inl (Nat.lt_of_lt_of_le hg fr.1))];exact h.glob g hg,fun m o e=>?_,fun m k b d e hm hk rm rk=>?_⟩
  · rcases live m o e with e1|⟨e1,e2⟩
    · exact p.obj m o e1
    · obtain ⟨b,d,o',h1,h2,h3⟩:=h.obj m o e2
      refine ⟨b,d,o',by rw [old m o e2];exact h1,?_,h3.mono (p.rle fr)⟩
      rw [p.frame b (mP h2) (fun y d' hy he hr=>?_)]
      · exact h2
      · have:=h.inj m y b d d' (by rw [e2];rfl) (hE y he) h1 hr
        subst this
        rw [e1] at hy;cases hy
  · obtain ⟨om,hom⟩:=Option.isSome_iff_exists.1 hm
    obtain ⟨ok,hok⟩:=Option.isSome_iff_exists.1 hk
    have mixed:∀(m k b:Nat) (d e:Nat×Nat) (om ok:Obj),lk δ m=some (some om)→lk δ k=none→S k=some ok→R' m=some (b,d)→R' k=some (b,e)→m=k:=by
      intro m k b d e om ok h1 h2 h3 r1 r2
      rw [old k ok h3] at r2
      by_cases hin:n≤m∧m<n'
      · rcases p.new m b d hin.1 hin.2 ⟨om,h1⟩ r1 with hb|⟨y,d',hy,hS,hr⟩
        · obtain ⟨b',d'',o',h4,h5,_⟩:=h.obj k ok h3
          rw [r2] at h4
          injection h4 with h4
          injection h4 with h4 _
          subst h4
          have:=mP h5
          omega
        · have:=h.inj y k b d' e (hE y hS) (by rw [h3];rfl) hr r2
          subst this
          rw [h2] at hy;cases hy
      · rcases p.rng m (by rw [h1];rfl) with hx|hx
        · exact absurd hx hin
        · rw [p.ext m (by omega)] at r1
          exact h.inj m k b d e (hE m hx) (by rw [h3];rfl) r1 r2
    rcases live m om hom with e1|⟨e1,e2⟩
    · rcases live k ok hok with f1|⟨f1,f2⟩
      · exact p.inj m k b d e ⟨om,e1⟩ ⟨ok,f1⟩ rm rk
      · exact mixed m k b d e om ok e1 f1 f2 rm rk
    · rcases live k ok hok with f1|⟨f1,f2⟩
      · exact (mixed k m b e d ok om f1 e1 e2 rk rm).symm
      · rw [old m om e2] at rm
        rw [old k ok f2] at rk
        exact h.inj m k b d e (by rw [e2];rfl) (by rw [f2];rfl) rm rk
theorem Post.skip (R:Ren) (n:Nat) (S:Mem) (w:World):Post R R n n S [] w w:=
 ⟨Nat.le_refl _,fun _ _=>rfl,fun m o e=>by simp [lk] at e,fun m k b d e h=>by obtain ⟨o,h⟩:=h;simp [lk] at h,fun m h=>by simp [lk] at h,fun m b d h1 h2=>by omega,rfl,rfl,rfl,Nat.le_refl _,fun _ _ _=>rfl⟩
theorem Post.draw (p:Post R R' n n' S δ w w') (h:w'.heap=w2.heap) (a:w2.os=w'.os) (b:w2.tape=w'.tape) (c:w2.output=w'.output):Post R R' n n' S δ w w2:=
 ⟨p.le,p.ext,fun m o e=>by rw [←h];exact p.obj m o e,p.inj,p.rng,p.new,a.trans p.os,b.trans p.tape,c.trans p.output,by rw [←h];exact p.size,fun b h1 h2=>by rw [←h];exact p.frame b h1 h2⟩
theorem Post.from (p:Post R R' n n' S δ w2 w') (h:w2.heap=w.heap) (a:w2.os=w.os) (b:w2.tape=w.tape) (c:w2.output=w.output):Post R R' n n' S δ w w':=
 ⟨p.le,p.ext,p.obj,p.inj,p.rng,by rw [←h];exact p.new,p.os.trans a,p.tape.trans b,p.output.trans c,by rw [←h];exact p.size,by rw [←h];exact p.frame⟩
theorem Post.trans (h : HR P R S w) (fr : Fr P R S n n2) (hle : n' ≤ n2) (p : Post R R' n n' S δ w w') (q : Post R' R2 n' n2 (ov S δ) δ2 w' w2) : Post R R2 n n2 S (δ ++ δ2) w w2 := by
  have h':HR P R' (ov S δ) w':=p.up h (fun _ _ e=>e) (fr.part (Nat.le_refl _) hle)
  have rle:=p.rle (fr.part (Nat.le_refl _) hle)
  have old : ∀ m, (S m).isSome → R' m = R m := fun m e => p.ext m (by
    rcases Nat.lt_or_ge m n with h1|h1
    · exact .inl h1
    · rcases Nat.lt_or_ge m n' with h2|h2
      · rw [(fr.2 m h1 (by omega)).2] at e;cases e
      · exact .inr h2)
  have lkc:∀m,(lk (δ++δ2) m)=match lk δ2 m with|some x=>some x|none=>lk δ m:=iy δ δ2
  have fr2 : Fr P R' (ov S δ) n' n2 := ⟨Nat.le_trans fr.1 p.le, fun m a b => by
    have h1:=fr.2 m (by have:=p.le;omega) b
    refine ⟨by rw [p.ext m (.inr a)];exact h1.1,?_⟩
    unfold ov
    cases hl:lk δ m with
    |none=>exact h1.2
    | some x =>
      rcases p.rng m (by rw [hl];rfl) with hx|hx
      · omega
      · rw [h1.2] at hx; cases hx⟩
  have h2:HR P R2 (ov (ov S δ) δ2) w2:=q.up h' (fun _ _ e=>e) fr2
  have hov:∀m o,lk (δ++δ2) m=some (some o)→ov (ov S δ) δ2 m=some o:=fun m o e=>by
    rw [←rG];unfold ov;rw [e];rfl
  refine ⟨Nat.le_trans p.le q.le,fun m hm=>by rw [q.ext m (by have:=p.le;have:=q.le;omega),p.ext m (by have:=p.le;omega)],fun m o e=>h2.obj m o (hov m o e),fun m k b d e ⟨o,ho⟩ ⟨o2,ho2⟩=>h2.inj m k b d e (by rw [hov m o ho];rfl) (by rw [hov k o2 ho2];rfl),fun m hm=>?_,fun m b d hn1 hn2 ⟨o,ho⟩ r=>?_,q.os.trans p.os,q.tape.trans p.tape,q.output.trans p.output,Nat.le_trans p.size q.size,fun b hb hf=>?_⟩
  · rw [lkc] at hm
    cases hl:lk δ2 m with
    | some x =>
      rcases q.rng m (by rw [hl];rfl) with hx|hx
      · exact .inl ⟨by have:=p.le;omega,hx.2⟩
      · unfold ov at hx
        cases hl1:lk δ m with
        |none=>rw [hl1] at hx;exact .inr hx
        | some y =>
          rcases p.rng m (by rw [hl1];rfl) with hy|hy
          · exact .inl ⟨hy.1,by have:=q.le;omega⟩
          · exact .inr hy
    | none =>
      rw [hl] at hm
      rcases p.rng m hm with hy|hy
      · exact .inl ⟨hy.1,by have:=q.le;omega⟩
      · exact .inr hy
  · -- a new one
    have SB:∀y,(lk δ2 y).isSome→(ov S δ y).isSome→∀d',R' y=some (b,d')→w.heap.size≤b∨∃y d',(lk (δ++δ2) y).isSome∧(S y).isSome∧R y=some (b,d'):=by
      intro y hy hS d' hr
      by_cases hin:n≤y∧y<n'
      · have hl:∃o,lk δ y=some (some o):=by
          unfold ov at hS
          cases hl1:lk δ y with
          |none=>rw [hl1] at hS;have:=fr.2 y hin.1 (by omega);rw [show (none:Option (Option Obj)).getD (S y)=S y from rfl,this.2] at hS;cases hS
          | some z => cases z with
            |none=>rw [hl1] at hS;cases hS
            |some o=>exact ⟨o,rfl⟩
        rcases p.new y b d' hin.1 hin.2 hl hr with hb|⟨z,e,hz,hSz,hrz⟩
        · exact .inl hb
        · refine .inr ⟨z,e,?_,hSz,hrz⟩
          rw [lkc];cases lk δ2 z with
          |none=>exact hz
          |some _=>rfl
      · have hSy:(S y).isSome:=by
          unfold ov at hS
          cases hl1:lk δ y with
          |none=>rw [hl1] at hS;exact hS
          | some z =>
            rcases p.rng y (by rw [hl1];rfl) with hx|hx
            · exact absurd hx hin
            · exact hx
        rw [old y hSy] at hr
        exact .inr ⟨y, d', by rw [lkc]; cases hh : lk δ2 y with
          |none=>rw [hh] at hy;cases hy
          | some _ => rfl, hSy, hr⟩
    rw [lkc] at ho
    cases hl:lk δ2 m with
    | some x =>
      rw [hl] at ho
      simp only at ho
      by_cases hin:n'≤m
      · rcases q.new m b d hin hn2 ⟨o,by rw [hl,ho]⟩ r with hb|⟨y,d',hy,hS,hr⟩
        · exact .inl (Nat.le_trans p.size hb)
        · exact SB y hy hS d' hr
      · have hR:R' m=some (b,d):=by rw [←q.ext m (.inl (by omega))];exact r
        have hlm:∃o,lk δ m=some (some o):=by
          rcases q.rng m (by rw [hl];rfl) with hx|hx
          · omega
          · unfold ov at hx
            cases hl1:lk δ m with
            |none=>rw [hl1] at hx;have:=fr.2 m hn1 hn2;rw [show (none:Option (Option Obj)).getD (S m)=S m from rfl,this.2] at hx;cases hx
            | some z => cases z with
              |none=>rw [hl1] at hx;cases hx
              |some o=>exact ⟨o,rfl⟩
        rcases p.new m b d hn1 (by omega) hlm hR with hb|⟨z,e,hz,hSz,hrz⟩
        · exact .inl hb
        · refine .inr ⟨z,e,?_,hSz,hrz⟩
          rw [lkc];cases lk δ2 z with
          |none=>exact hz
          |some _=>rfl
    | none =>
      rw [hl] at ho
      simp only at ho
      have hlt:m<n':=by
        rcases p.rng m (by rw [ho];rfl) with hx|hx
        · exact hx.2
        · rw [(fr.2 m hn1 hn2).2] at hx;cases hx
      have hR:R' m=some (b,d):=by rw [←q.ext m (.inl hlt)];exact r
      rcases p.new m b d hn1 hlt ⟨o,ho⟩ hR with hb|⟨z,e,hz,hSz,hrz⟩
      · exact .inl hb
      · refine .inr ⟨z,e,?_,hSz,hrz⟩
        rw [lkc];cases lk δ2 z with
        |none=>exact hz
        |some _=>rfl
  · have h1 : w'.heap[b]? = w.heap[b]? := p.frame b hb fun y d hy hS hr => hf y d (by
      rw [lkc];cases lk δ2 y with
      |none=>exact hy
      | some _ => rfl) hS hr
    rw [←h1]
    refine q.frame b (Nat.lt_of_lt_of_le hb p.size) fun y d hy hS hr=>?_
    by_cases hin:n≤y∧y<n'
    · have hl:∃o,lk δ y=some (some o):=by
        unfold ov at hS
        cases hl1:lk δ y with
        |none=>rw [hl1] at hS;have:=fr.2 y hin.1 (by omega);rw [show (none:Option (Option Obj)).getD (S y)=S y from rfl,this.2] at hS;cases hS
        | some z => cases z with
          |none=>rw [hl1] at hS;cases hS
          |some o=>exact ⟨o,rfl⟩
      rcases p.new y b d hin.1 hin.2 hl hr with hx|⟨z,e,hz,hSz,hrz⟩
      · omega
      · refine hf z e ?_ hSz hrz
        rw [lkc];cases lk δ2 z with
        |none=>exact hz
        |some _=>rfl
    · have hSy:(S y).isSome:=by
        unfold ov at hS
        cases hl1:lk δ y with
        |none=>rw [hl1] at hS;exact hS
        | some z =>
          rcases p.rng y (by rw [hl1];rfl) with hx|hx
          · exact absurd hx hin
          · exact hx
      rw [old y hSy] at hr
      exact hf y d (by
        rw [lkc];cases hh:lk δ2 y with
        |none=>rw [hh] at hy;cases hy
        | some _ => rfl) hSy hr
theorem Post.less {δ':Delta} (p:Post R R' n n' S δ w w') (h1:∀m x,lk δ' m=some x→lk δ m=some x) (h2:∀m,(lk δ m).isSome→¬(n≤m∧m<n')→(lk δ' m).isSome) (fr:Fr P R S n n'):Post R R' n n' S δ' w w':=by
 have keep:∀m,(lk δ m).isSome→(S m).isSome→(lk δ' m).isSome:=fun m hm hS=>h2 m hm fun ⟨a,b⟩=>by
  rw [(fr.2 m a b).2] at hS;cases hS
 refine ⟨p.le, p.ext, fun m o e => p.obj m o (h1 m _ e), fun m k b d e ⟨o, ho⟩ ⟨o2, ho2⟩ => p.inj m k b d e ⟨o, h1 _ _ ho⟩ ⟨o2, h1 _ _ ho2⟩, fun m hm => p.rng m (by
  obtain ⟨x,hx⟩:=Option.isSome_iff_exists.1 hm
  rw [h1 m x hx]; rfl), fun m b d a c ⟨o, ho⟩ r => ?_, p.os, p.tape, p.output, p.size, fun b hb hf => p.frame b hb fun y d hy hS => hf y d (keep y hy hS) hS⟩
 rcases p.new m b d a c ⟨o,h1 _ _ ho⟩ r with hx|⟨y,d',hy,hS,hr⟩
 ·exact .inl hx
 ·exact .inr ⟨y,d',keep y hy hS,hS,hr⟩
theorem Post.ne (p:Post R R' n n' S δ w w') (hd:∀m,(lk δ m).isSome→n≤m∧m<n') (fr:Fr P R S n n'):∀b,b<w.heap.size→w'.heap[b]?=w.heap[b]?:=
 fun b hb=>p.frame b hb fun y d hy hS=>by
  have:=hd y hy
  rw [(fr.2 y this.1 this.2).2] at hS;cases hS
end
end
end Go.V
namespace Go.V
noncomputable section
def prun (P:Program) {α:Type}:Sem α→Option α
 | .pure a=>some a
 | .program k=>prun P (k P)
 | .mark _ k=>prun P k
 |_=>none
theorem mQ {P:Program} {α:Type}:∀(s:Sem α) (a:α),prun P s=some a→∀w,s.run P w= .ok a w
 | .pure a,b,h,w=>by simp [prun] at h;subst h;rfl
 | .program k,b,h,w=>by rw [Sem.run];exact mQ (k P) b h w
 | .mark m k,b,h,w=>by rw [Sem.run];exact mQ k b h w
 | .load ..,b,h,w=>by simp [prun] at h
 | .store ..,b,h,w=>by simp [prun] at h
 | .new ..,b,h,w=>by simp [prun] at h
 | .shape ..,b,h,w=>by simp [prun] at h
 | .freeze ..,b,h,w=>by simp [prun] at h
 | .frozen ..,b,h,w=>by simp [prun] at h
 | .getObj ..,b,h,w=>by simp [prun] at h
 | .setObj ..,b,h,w=>by simp [prun] at h
 | .choose ..,b,h,w=>by simp [prun] at h
 | .sys ..,b,h,w=>by simp [prun] at h
 | .halt ..,b,h,w=>by simp [prun] at h
section
variable {P:Program}
theorem run_underlying {t:TypeId} {d:TypeDesc} (h:P.underlying t=some d) (w:World):(underlying t).run P w= .ok d w:=by
 unfold underlying
 simp [program,Sem.run,h]
theorem run_typeInfo {t:TypeId} {i:TypeInfo} (h:P.info? t=some i) (w:World):(typeInfo t).run P w= .ok i w:=by
 unfold typeInfo
 simp [program,Sem.run,h]
theorem run_sizeOf {t:TypeId} {i:TypeInfo} (h:P.info? t=some i) (w:World):(sizeOf t).run P w= .ok i.size w:=by
 unfold sizeOf
 simp [run_typeInfo h]
theorem qG {t:TypeId} {i:TypeInfo} {v:Value} (h:P.info? t=some i) (hz:i.zero=some v) (w:World):(zeroValue t).run P w= .ok v w:=by
 unfold zeroValue
 simp [run_typeInfo h,hz]
def U8:TypeDesc→Bool
 | .struct _| .array _ _=>true
 |_=>false
theorem uQ {t:TypeId} {d:TypeDesc} (h:P.underlying t=some d) (w:World):(isAgg t).run P w= .ok (U8 d) w:=by
 unfold isAgg
 simp [run_underlying h]
 cases d<;>rfl
def sizeT (P:Program) (t:TypeId):Option Nat:=(P.info? t).map (·.size)
theorem jA {t:TypeId} {k:Nat} (h:sizeT P t=some k) (w:World):(sizeOf t).run P w= .ok k w:=by
 unfold sizeT at h
 cases hi:P.info? t with
 |none=>rw [hi] at h;cases h
 |some i=>rw [hi] at h;injection h with h;subst h;exact run_sizeOf hi w
def CO (P:Program) (t:TypeId):Option Value:=((P.info? t).bind (·.zero)).filter ig
theorem pX {t:TypeId} {v:Value} (h:CO P t=some v):ig v=true∧∀w,(zeroValue t).run P w= .ok v w:=by
 unfold CO at h
 rw [Option.filter_eq_some_iff] at h
 obtain ⟨h1,h2⟩:=h
 obtain ⟨i,h3,h4⟩:=Option.bind_eq_some_iff.1 h1
 exact ⟨h2,fun w=>qG h3 h4 w⟩
end
def FW (P:Program) (r:Option Nat):Fence:={fn:=fun f=>f<P.funcs.size,depth:=none,alive:=false,round:=r}
def okV (R:Ren) (x:Option Value) (v:Value):Prop:=∀u,x=some u→VR R u v
def Res (P:Program) (R:Ren) (H:Tr) (n:Nat) (x:Option Value) (δ:Delta) (n':Nat) (w:World):Result Next→Prop
 | .ok (.value v) w'=>∃R',okV R' x v∧Post R R' n n' H.get δ w w'
 | .ok .skip w'=>x=none∧∃R',Post R R' n n' H.get δ w w'
 | .ok (.enter f args) w1=>CallsIn (FW P none) 0 P f args w1 fun e w'=>∃v R',e= .returned v∧okV R' x v∧Post R R' n n' H.get δ w w'
 | .ok (.round l f tmps a b) w1=>RoundIn (FW P none) 0 P l f tmps a b w1 fun e w'=>∃v R',e= .returned v∧okV R' x v∧Post R R' n n' H.get δ w w'
 |_=>False
def jB (P:Program) (o:Oper) (ev:Operand→Option Value) (H:Tr) (n:Nat) (x:Option Value) (δ:Delta) (n':Nat):Prop:=
 ∀(R:Ren) (w:World) (ρ:Operand→Value),HR P R H.get w→Fr P R H.get n n'→(∀y u,ev y=some u→VR R u (ρ y))→Res P R H n x δ n' w ((execOp ρ o).run P w)
abbrev oZ:=Option Value×Delta×Nat
section
variable {P:Program} {o:Oper} {ev:Operand→Option Value} {H:Tr} {n:Nat}
theorem jB.val {v:Value} (h:∀(R:Ren) (w:World) (ρ:Operand→Value),HR P R H.get w→(∀y u,ev y=some u→VR R u (ρ y))→∃u,VR R v u∧(execOp ρ o).run P w= .ok (.value u) w):jB P o ev H n (some v) [] n:=by
 intro R w ρ hh fr he
 obtain ⟨u,h1,h2⟩:=h R w ρ hh he
 rw [h2]
 exact ⟨R,fun x e=>by injection e with e;subst e;exact h1,Post.skip R n _ w⟩
def Pq (ev:Operand→Option Value) (o:Oper):Bool:=o.op.operands.toList.all fun x=>(ev x).any ig
def QJ:Op→Bool
 | .select .. =>false
 |_=>true
def mG (P : Program) (ev : Operand → Option Value) (o : Oper) (n : Nat) : Option oZ :=
  if Pq ev o&&QJ o.op then
    match prun P (execOp (fun x=>(ev x).getD undef) o) with
    |some (.value v)=>if ig v then some (some v,[],n) else none
    |_=>none
  else none
theorem nP {x : Option Value} {δ : Delta} {n' : Nat} (h : mG P ev o n = some (x, δ, n')) : jB P o ev H n x δ n' := by
  unfold mG at h
  split at h
  · next hc =>
    simp only [Bool.and_eq_true] at hc
    cases hv:prun P (execOp (fun x=>(ev x).getD undef) o) with
    |none=>rw [hv] at h;cases h
    | some y =>
      rw [hv] at h
      cases y with
      | value v =>
        simp only at h
        split at h
        · next hp=>
          simp only [Option.some.injEq,Prod.mk.injEq] at h
          obtain ⟨rfl,rfl,rfl⟩:=h
          refine jB.val fun R w ρ hh he=>⟨v,ji v hp,?_⟩
          have hr:=mQ _ _ hv w
          rw [execOp_congr (ρ:=ρ) (ρ':=fun x=>(ev x).getD undef) o (fun cs b e=>by rw [e] at hc;simp [QJ] at hc) (fun x hx=>?_)]
          · exact hr
          · have:=List.all_eq_true.1 hc.1 x (Array.mem_toList_iff.2 hx)
            cases hx:ev x with
            |none=>rw [hx] at this;cases this
            | some u =>
              rw [hx] at this
              exact iL (he x u hx) (by simpa using this)
        · cases h
      |_=>cases h
  · cases h
end
section
variable {P:Program} {ev:Operand→Option Value} {H:Tr} {n:Nat} {dst:Option Tmp} {ty:TypeId} {pos:String} {after:Array Edge} {guard:Option (Nat×Bool)}
theorem SC {x:Operand} {v:Value} (h:ev x=some v):jB P ⟨dst, .move x,ty,pos,after,guard⟩ ev H n (some v) [] n:=
 jB.val fun R w ρ hh he=>⟨ρ x,he x v h,rfl⟩
theorem KO {x:Operand} {v:Value} (h:ev x=some v):jB P ⟨dst, .assign x,ty,pos,after,guard⟩ ev H n (some v) [] n:=
 jB.val fun R w ρ hh he=>⟨ρ x,he x v h,rfl⟩
theorem SE {R:Ren} {b:Bool} {u:Value} (h:VR R (.bool b) u):u= .bool b:=iL h rfl
theorem yO {R:Ren} {k:IntKind} {i:Int} {u:Value} (h:VR R (.int k i) u):u= .int k i:=iL h rfl
theorem SG {c a b:Operand} {t:Bool} {v:Value} (hc:ev c=some (.bool t)) (h:(if t then ev a else ev b)=some v):jB P ⟨dst, .pick c a b,ty,pos,after,guard⟩ ev H n (some v) [] n:=
 jB.val fun R w ρ hh he=>by
  have h1:=SE (he c _ hc)
  cases t with
  |true=>exact ⟨ρ a,he a v (by simpa using h),by simp [execOp,h1,asBool]⟩
  |false=>exact ⟨ρ b,he b v (by simpa using h),by simp [execOp,h1,asBool]⟩
theorem uS {R:Ren} {m o:Nat} {u:Value} (h:VR R (.pointer (some ⟨m,o,none⟩)) u):∃b d,R m=some (b,d)∧u= .pointer (some ⟨b,d.1+o,none⟩):=by
 cases h with
 |ptr e=>exact ⟨_,_,e,rfl⟩
theorem lK {R:Ren} {m o l c:Nat} {u:Value} (h:VR R (.slice (some ⟨m,o,none⟩) l c) u):∃b d q cr,R m=some (b,d)∧rF c cr q d.2∧(l≠0∨wu c≠0→q=d.1+o)∧u= .slice (some ⟨b,q,none⟩) l cr:=by
 cases h with
 |slice e k q=>exact ⟨_,_,_,_,e,k,q,rfl⟩
theorem KP {R:Ren} {m:Nat} {u:Value} (h:VR R (.map (some m)) u):∃b,R m=some (b,0,0)∧u= .map (some b):=by
 cases h with
 |map e=>exact ⟨_,e,rfl⟩
theorem QK {R:Ren} {cs:Array Value} {u:Value} (h:VR R (.agg cs) u):∃ds,u= .agg ds∧VRs R cs.toList ds.toList:=by
 cases h with
 |agg e=>exact ⟨_,rfl,e⟩
theorem Pv {R:Ren} {cs:Array Value} {u:Value} (h:VR R (.tuple cs) u):∃ds,u= .tuple ds∧VRs R cs.toList ds.toList:=by
 cases h with
 |tuple e=>exact ⟨_,rfl,e⟩
theorem CP {R:Ren} {t:TypeId} {v u:Value} (h:VR R (.iface t v) u):∃x,u= .iface t x∧VR R v x:=by
 cases h with
 |iface e=>exact ⟨_,rfl,e⟩
theorem nY (b o k:Nat):Addr.add ⟨b,o,none⟩ k=⟨b,o+k,none⟩:=by
 unfold Addr.add
 split
 ·next h=>subst h;rfl
 ·rfl
theorem FH {x:Operand} {m o:Nat} (h:ev x=some (.pointer (some ⟨m,o,none⟩))):jB P ⟨dst, .nilCheck x,ty,pos,after,guard⟩ ev H n (some (.pointer (some ⟨m,o,none⟩))) [] n:=
 jB.val fun R w ρ hh he=>by
  have h1:=he x _ h
  obtain ⟨b,d,hr,hu⟩:=uS h1
  exact ⟨ρ x,h1,by simp [execOp,hu]⟩
theorem D6 {x : Operand} {f : FuncId} {fs cs : Array Value} (h : ev x = some (.func (.func f) fs cs)) : jB P ⟨dst, .nilCheck x, ty, pos, after, guard⟩ ev H n (some (.func (.func f) fs cs)) [] n :=
  jB.val fun R w ρ hh he=>by
    have h1:=he x _ h
    refine ⟨ρ x,h1,?_⟩
    have hu:∃a b,ρ x= .func (.func f) a b:=by
      generalize ρ x=u at h1
      cases h1 with
      | func e a b =>
        cases e with
        |func f=>exact ⟨_,_,rfl⟩
    obtain ⟨a,b,hu⟩:=hu
    simp [execOp,hu]
theorem D7 {x : Operand} {l : Nat} {fs cs : Array Value} (h : ev x = some (.func (.yield l) fs cs)) : jB P ⟨dst, .nilCheck x, ty, pos, after, guard⟩ ev H n (some (.func (.yield l) fs cs)) [] n :=
  jB.val fun R w ρ hh he=>by
    have h1:=he x _ h
    refine ⟨ρ x,h1,?_⟩
    have hu:∃c a b,ρ x= .func (.yield c) a b:=by
      generalize ρ x=u at h1
      cases h1 with
      | func e a b =>
        cases e with
        |yield hr=>exact ⟨_,_,_,rfl⟩
    obtain ⟨c,a,b,hu⟩:=hu
    simp [execOp,hu]
theorem D8 {x:Operand} {t:TypeId} {v:Value} (h:ev x=some (.iface t v)):jB P ⟨dst, .nilCheck x,ty,pos,after,guard⟩ ev H n (some (.iface t v)) [] n:=
 jB.val fun R w ρ hh he=>by
  have h1:=he x _ h
  obtain ⟨y,hu,_⟩:=CP h1
  exact ⟨ρ x,h1,by simp [execOp,hu]⟩
theorem D9 {s:TypeId} {x:Operand} {f m o k:Nat} {fs:Array Field} {F:Field} (h:ev x=some (.pointer (some ⟨m,o,none⟩))) (hs:P.underlying s=some (.struct fs)) (hf:fs[f]?=some F)
  (hk:sizeT P F.type=some k) (h0:k≠0):jB P ⟨dst, .fieldAddr s x f,ty,pos,after,guard⟩ ev H n (some (.pointer (some ⟨m,o+F.offset,none⟩))) [] n:=
 jB.val fun R w ρ hh he=>by
  obtain ⟨b,d,hr,hu⟩:=uS (he x _ h)
  refine ⟨.pointer (some ⟨b,d.1+(o+F.offset),none⟩), .ptr hr,?_⟩
  simp [execOp,Instr.fieldAt,hu,run_underlying hs,hf,Instr.sureAddr,fieldPlace,jA hk,h0,nY,Nat.add_assoc]
def uT:TypeDesc→Bool
 | .interface _=>false
 |_=>true
theorem xP {t:TypeId} {x:Operand} {v:Value} {d:TypeDesc} (h:ev x=some v) (hu:P.underlying t=some d) (hd:uT d=true):jB P ⟨dst, .makeInterface t x,ty,pos,after,guard⟩ ev H n (some (.iface t v)) [] n:=
 jB.val fun R w ρ hh he=>by
  refine ⟨.iface t (ρ x), .iface (he x v h),?_⟩
  simp only [execOp,Instr.makeInterface,Sem.run_bind,run_underlying hu,Result.andThen_ok]
  cases d<;>first|(cases hd;done)|simp
def evs (ev : Operand → Option Value) : List Operand → Option (List Value)
  |[]=>some []
  | x :: xs => match ev x, evs ev xs with
    |some v,some vs=>some (v::vs)
    |_,_=>none
theorem Az {R:Ren} {ρ:Operand→Value} (he:∀y u,ev y=some u→VR R u (ρ y)):∀{xs:List Operand} {vs:List Value},evs ev xs=some vs→VRs R vs (xs.map ρ)
  |[],vs,h=>by simp [evs] at h;subst h;exact .nil
  | x :: xs, vs, h => by
    rw [evs] at h
    split at h
    · next v ws h1 h2=>
      injection h with h
      subst h
      exact .cons (he x v h1) (Az he h2)
    · cases h
def Xv:Fn→Bool
 | .yield _=>false
 |_=>true
theorem U9 {R:Ren} {f:Fn} (h:Xv f=true):FnR R f f:=by
 cases f with
 |func f=>exact .func f
 |method n=>exact .method n
 |methodOf t n=>exact .methodOf t n
 |via t p f b=>exact .via t p f b
 |yield l=>cases h
theorem FI {fn:Fn} {first captured:Array Operand} {fs cs:List Value} (hf:Xv fn=true) (h1:evs ev first.toList=some fs) (h2:evs ev captured.toList=some cs):jB P ⟨dst, .makeFunc fn first captured,ty,pos,after,guard⟩ ev H n (some (.func fn ⟨fs⟩ ⟨cs⟩)) [] n:=
 jB.val fun R w ρ hh he=>by
  refine ⟨.func fn (first.map ρ) (captured.map ρ), .func (U9 hf) ?_ ?_,rfl⟩
  ·rw [Array.toList_map];exact Az he h1
  ·rw [Array.toList_map];exact Az he h2
theorem IY {x:Operand} {i:Nat} {vs:Array Value} {v:Value} (h:ev x=some (.tuple vs)) (hi:vs.toList[i]?=some v):jB P ⟨dst, .extract x i,ty,pos,after,guard⟩ ev H n (some v) [] n:=
 jB.val fun R w ρ hh he=>by
  obtain ⟨ds,hu,hr⟩:=Pv (he x _ h)
  obtain ⟨u,h1,h2⟩:=hr.get i v hi
  exact ⟨u,h2,by simp [execOp,Instr.extract,hu,show ds[i]?=some u from by simpa using h1]⟩
def IZ (P:Program) (t:TypeId) (cs:List Value) (off:Nat):Option Value:=
 match P.underlying t,sizeT P t with
 |some d,some k=>if U8 d then some (.agg ⟨(cs.drop off).take k⟩) else cs[off]?
 |_,_=>none
theorem Hl {R : Ren} {t : TypeId} {cs : List Value} {ds : Array Value} {off : Nat} {v : Value} (h : IZ P t cs off = some v) (hr : VRs R cs ds.toList) (w : World) : ∃ u, VR R v u ∧ (part t ds off).run P w = .ok u w := by
  unfold IZ at h
  split at h
  · next d k hd hk=>
    split at h
    · next ha=>
      injection h with h
      subst h
      refine ⟨.agg (ds.extract off (off+k)), .agg ?_,?_⟩
      · rw [Array.toList_extract,List.extract_eq_take_drop]
        simpa using (hr.drop off).take k
      · simp [part,uQ hd,ha,jA hk]
    · next ha=>
      obtain ⟨u,h1,h2⟩:=hr.get off v h
      refine ⟨u,h2,?_⟩
      have:ds[off]?=some u:=by simpa using h1
      simp [part,uQ hd,ha,this]
  · cases h
theorem Px {t:TypeId} {x:Operand} {f:Nat} {fs:Array Field} {F:Field} {cs:Array Value} {v:Value} (h:ev x=some (.agg cs)) (hs:P.underlying t=some (.struct fs)) (hf:fs[f]?=some F) (hv:IZ P F.type cs.toList F.offset=some v):
  jB P ⟨dst, .field t x f,ty,pos,after,guard⟩ ev H n (some v) [] n:=
 jB.val fun R w ρ hh he=>by
  obtain ⟨ds,hu,hr⟩:=QK (he x _ h)
  obtain ⟨u,h1,h2⟩:=Hl hv hr w
  exact ⟨u,h1,by simp [execOp,Instr.field,hu,run_underlying hs,hf,asAgg,h2]⟩
theorem Py {t e:TypeId} {x ix:Operand} {len k:Nat} {kd:IntKind} {i:Int} {cs:Array Value} {v:Value} (h:ev x=some (.agg cs)) (hi:ev ix=some (.int kd i)) (hs:P.underlying t=some (.array len e)) (hk:sizeT P e=some k)
  (h0:0≤i∧i<len) (hv:IZ P e cs.toList (i.toNat*k)=some v):jB P ⟨dst, .index t x ix,ty,pos,after,guard⟩ ev H n (some v) [] n:=
 jB.val fun R w ρ hh he=>by
  obtain ⟨ds,hu,hr⟩:=QK (he x _ h)
  obtain ⟨u,h1,h2⟩:=Hl hv hr w
  have hix:=yO (he ix _ hi)
  exact ⟨u,h1,by simp [execOp,Instr.index,hu,hix,asIntOf,run_underlying hs,h0,jA hk,h2]⟩
theorem Ea {t e:TypeId} {x ix:Operand} {m o l c k:Nat} {kd:IntKind} {i:Int} (h:ev x=some (.slice (some ⟨m,o,none⟩) l c)) (hi:ev ix=some (.int kd i)) (hs:P.underlying t=some (.slice e)) (hk:sizeT P e=some k) (h0:0≤i∧i<l):
  jB P ⟨dst, .indexAddr t x ix,ty,pos,after,guard⟩ ev H n (some (.pointer (some ⟨m,o+i.toNat*k,none⟩))) [] n:=
 jB.val fun R w ρ hh he=>by
  obtain ⟨b,d,q,cr,hr,_,hq,hu⟩:=lK (he x _ h)
  have hq:=hq (.inl (by omega))
  subst hq
  have hix:=yO (he ix _ hi)
  refine ⟨.pointer (some ⟨b,d.1+(o+i.toNat*k),none⟩), .ptr hr,?_⟩
  simp [execOp,Instr.indexAt,hu,hix,asIntOf,run_underlying hs,jA hk,h0,nY,Nat.add_assoc]
theorem CQ {t e:TypeId} {x ix:Operand} {m o l k:Nat} {kd:IntKind} {i:Int} (h:ev x=some (.pointer (some ⟨m,o,none⟩))) (hi:ev ix=some (.int kd i)) (hs:P.underlying t=some (.array l e)) (hk:sizeT P e=some k) (h0:0≤i∧i<l):
  jB P ⟨dst, .indexAddr t x ix,ty,pos,after,guard⟩ ev H n (some (.pointer (some ⟨m,o+i.toNat*k,none⟩))) [] n:=
 jB.val fun R w ρ hh he=>by
  obtain ⟨b,d,hr,hu⟩:=uS (he x _ h)
  have hix:=yO (he ix _ hi)
  refine ⟨.pointer (some ⟨b,d.1+(o+i.toNat*k),none⟩), .ptr hr,?_⟩
  simp [execOp,Instr.indexAt,hu,hix,asIntOf,run_underlying hs,jA hk,h0,nY,Nat.add_assoc,Instr.sureAddr]
theorem CS {x:Operand} {xt t:TypeId} {d:TypeDesc} {v:Value} {ok:Bool} (h:ev x=some (.iface t v)) (hu:P.underlying t=some d) (hd:uT d=true):
  jB P ⟨dst, .typeAssert x xt t ok,ty,pos,after,guard⟩ ev H n (some (if ok then .tuple #[v, .bool true] else v)) [] n:=
 jB.val fun R w ρ hh he=>by
  obtain ⟨u,hx,hr⟩:=CP (he x _ h)
  refine ⟨if ok then .tuple #[u, .bool true] else u,?_,?_⟩
  ·cases ok with
   |true=>exact .tuple (.cons hr (.cons (.bool true) .nil))
   |false=>exact hr
  ·simp only [execOp,Instr.typeAssert,Sem.run_bind,run_underlying hu,Result.andThen_ok,hx]
   cases d<;>first|(cases hd;done)|simp
theorem yP {x:Operand} {xt t s:TypeId} {d:TypeDesc} {v z:Value} (h:ev x=some (.iface s v)) (hst:¬s=t) (hu:P.underlying t=some d) (hd:uT d=true) (hz:CO P t=some z):
  jB P ⟨dst, .typeAssert x xt t true,ty,pos,after,guard⟩ ev H n (some (.tuple #[z, .bool false])) [] n:=
 jB.val fun R w ρ hh he=>by
  obtain ⟨u,hx,hr⟩:=CP (he x _ h)
  obtain ⟨hp,hz⟩:=pX hz
  refine ⟨.tuple #[z, .bool false], .tuple (.cons (ji z hp) (.cons (.bool false) .nil)),?_⟩
  simp only [execOp,Instr.typeAssert,Sem.run_bind,run_underlying hu,Result.andThen_ok,hx]
  cases d<;>first|(cases hd;done)|simp [hst,hz]
theorem FK {t e:TypeId} {x:Operand} {m o l c:Nat} (h:ev x=some (.slice (some ⟨m,o,none⟩) l c)) (hs:P.underlying t=some (.slice e)):jB P ⟨dst, .call {callee:= .builtin .len,args:=#[x],argTypes:=#[t]},ty,pos,after,guard⟩ ev H n (some (.int .i64 l)) [] n:=
 jB.val fun R w ρ hh he=>by
  obtain ⟨b,d,q,cr,hr,_,_,hu⟩:=lK (he x _ h)
  exact ⟨.int .i64 l, .int _ _,by simp [execOp,resolve,invoke,builtin,Builtin.len_,hu,run_underlying hs,goInt]⟩
def zX:Value→Value→Option Bool
 | .pointer none, .pointer (some _)| .pointer (some _), .pointer none=>some false
 | .slice none _ _, .slice (some _) _ _| .slice (some _) _ _, .slice none _ _=>some false
 | .map none, .map (some _)| .map (some _), .map none=>some false
 | .nilFunc, .func _ _ _| .func _ _ _, .nilFunc=>some false
 | .nilIface, .iface _ _| .iface _ _, .nilIface=>some false
 |_,_=>none
def tC:TypeDesc→Value→Bool
 | .pointer _, .pointer _| .slice _, .slice _ _ _| .map _ _, .map _| .func _ _ _, .func _ _ _| .func _ _ _, .nilFunc| .interface _, .iface _ _| .interface _, .nilIface=>true
 |_,_=>false
theorem KQ {t:TypeId} {d:TypeDesc} {x y:Value} {b:Bool} (hu:P.underlying t=some d) (hx:tC d x=true) (hy:tC d y=true) (h:zX x y=some b) (w:World):(Op.equal t x y).run P w= .ok b w:=by
 unfold Op.equal Op.maxDepth
 rw [show (10000:Nat)=9999+1 from rfl,Op.equalIn]
 simp only [Sem.run_bind,run_underlying hu,Result.andThen_ok]
 unfold zX at h
 split at h<;>first|cases h|skip
 all_goals (cases d<;>simp [tC] at hx hy<;>simp)
theorem SH {R:Ren} {x y u v:Value} {b:Bool} (hx:VR R x u) (hy:VR R y v) (h:zX x y=some b):zX u v=some b:=by
 unfold zX at h
 split at h<;>first|cases h|skip
 all_goals (cases hx<;>cases hy<;>rfl)
theorem Ho {R:Ren} {d:TypeDesc} {x u:Value} (hx:VR R x u) (h:tC d x=true):tC d u=true:=by
 cases hx<;>cases d<;>first|rfl|(simp [tC] at h)
theorem KR {op:BinOp} {t:TypeId} {a b:Operand} {x y:Value} {q:Bool} (h:zX x y=some q) (w:World):(eqGuard op t a b x y).run P w= .ok () w:=by
 unfold eqGuard
 unfold zX at h
 split at h<;>first|cases h|skip
 all_goals (cases op<;>simp)
theorem KT {op:BinOp} {t t2:TypeId} {a b:Operand} {d:TypeDesc} {x y:Value} {q:Bool} (ha:ev a=some x) (hb:ev b=some y) (hu:P.underlying t=some d) (hx:tC d x=true) (hy:tC d y=true) (h:zX x y=some q) (hop:op= .eql∨op= .neq):
  jB P ⟨dst, .binOp op t a b t2,ty,pos,after,guard⟩ ev H n (some (.bool (if op= .eql then q else !q))) [] n:=
 jB.val fun R w ρ hh he=>by
  have hq:=SH (he a _ ha) (he b _ hb) h
  have h1:=Ho (he a _ ha) hx
  have h2:=Ho (he b _ hb) hy
  refine ⟨_, .bool _,?_⟩
  have hg:=KR (P:=P) (op:=op) (t:=t) (a:=a) (b:=b) hq w
  have hE:=KQ hu h1 h2 hq w
  have Zb:(binOp op t (ρ a) (ρ b)).run P w= .ok (.bool (if op= .eql then q else !q)) w:=by
   generalize ρ a=u at*
   generalize ρ b=v at*
   unfold zX at hq
   rcases hop with rfl|rfl
   all_goals (split at hq<;>first|cases hq|skip)
   all_goals (simp only [binOp,Sem.run_bind,hE,Result.andThen_ok];rfl)
  simp only [execOp,Sem.run_bind,hg,Result.andThen_ok,Zb,Sem.run_pure]
theorem I4 {op : BinOp} {t t2 e : TypeId} {a b : Operand} {m o p k : Nat} (ha : ev a = some (.pointer (some ⟨m, o, none⟩))) (hb : ev b = some (.pointer (some ⟨m, p, none⟩))) (hu : P.underlying t = some (.pointer e)) (hk : sizeT P e = some k) (h0 : k ≠ 0) (hop : op = .eql ∨ op = .neq) :
    jB P ⟨dst, .binOp op t a b t2,ty,pos,after,guard⟩ ev H n (some (.bool (if op= .eql then o==p else !(o==p)))) [] n:=
  jB.val fun R w ρ hh he=>by
    obtain ⟨b1,d1,hr1,hu1⟩:=uS (he a _ ha)
    obtain ⟨b2,d2,hr2,hu2⟩:=uS (he b _ hb)
    rw [hr1] at hr2
    injection hr2 with hr2
    injection hr2 with e1 e2
    subst e1 e2
    refine ⟨_, .bool _,?_⟩
    have hE:(Op.equal t (.pointer (some ⟨b1,d1.1+o,none⟩)) (.pointer (some ⟨b1,d1.1+p,none⟩))).run P w= .ok (o==p) w:=by
      unfold Op.equal Op.maxDepth
      rw [show (10000:Nat)=9999+1 from rfl,Op.equalIn]
      simp only [Sem.run_bind,run_underlying hu,Result.andThen_ok,jA hk]
      rw [if_pos h0]
      unfold sameAddr
      simp only [beq_self_eq_true,if_true]
      have:((⟨b1,d1.1+o,none⟩:Addr)==⟨b1,d1.1+p,none⟩)=(o==p):=by
        by_cases h:o=p
        · subst h;simp
        · have h2:¬(⟨b1,d1.1+o,none⟩:Addr)=⟨b1,d1.1+p,none⟩:=fun hh=>by injection hh with _ hh;omega
          rw [beq_eq_false_iff_ne.2 h2,beq_eq_false_iff_ne.2 h]
      rw [this]
      rfl
    rcases hop with rfl|rfl
    · simp [execOp,eqGuard,binOp,hu1,hu2,hE]
    · simp [execOp,eqGuard,binOp,hu1,hu2,hE]
end
end
end Go.V
namespace Go.V
noncomputable section
def Ren.add (R:Ren) (n:Nat) (x:Nat×(Nat×Nat)):Ren:=fun m=>if m=n then some x else R m
section
variable {P:Program} {R:Ren} {S:Mem} {n:Nat} {w:World} {H:Tr}
theorem Ren.AA (h:R n=none) (x:Nat×(Nat×Nat)):R.le (R.add n x):=fun m y e=>by
 unfold Ren.add
 split
 ·next e2=>subst e2;rw [h] at e;cases e
 ·exact e
theorem lX (R:Ren) (n:Nat) (x:Nat×(Nat×Nat)):R.add n x n=some x:=by unfold Ren.add;rw [if_pos rfl]
theorem KU (m k:Nat) (x:Option Obj):lk [(k,x)] m=if m=k then some x else none:=rfl
theorem Post.mk1 {o o':Obj} {dd:Nat×Nat} (fr:Fr P R S n (n+1)) (ho:OR (R.add n (w.heap.size,dd)) dd o o'):Post R (R.add n (w.heap.size,dd)) n (n+1) S [(n,some o)] w {w with heap:=w.heap.push o'}:=by
 have hlk:∀m x,lk [(n,some o)] m=some x→m=n∧x=some o:=fun m x e=>by
  rw [KU] at e
  split at e
  ·next h=>injection e with e;exact ⟨h,e.symm⟩
  ·cases e
 refine ⟨by omega,fun m hm=>?_,fun m x e=>?_,fun m k b d e ⟨x,hx⟩ ⟨y,hy⟩ _ _=>by rw [(hlk _ _ hx).1,(hlk _ _ hy).1],fun m hm=>?_,fun m b d h1 h2 hx hr=>?_,rfl,rfl,rfl,by simp,fun b hb _=>?_⟩
 ·unfold Ren.add;rw [if_neg (by omega)]
 ·obtain ⟨rfl,e2⟩:=hlk _ _ e
  injection e2 with e2
  subst e2
  exact ⟨_,dd,o',lX _ _ _,by simp,ho⟩
 ·obtain ⟨x,hx⟩:=Option.isSome_iff_exists.1 hm
  rw [(hlk _ _ hx).1];exact .inl ⟨Nat.le_refl _,by omega⟩
 ·have:m=n:=by omega
  subst this
  rw [lX] at hr
  injection hr with hr
  injection hr with hr _
  exact .inl (by omega)
 ·simp [Array.getElem?_push,show¬b=w.heap.size by omega]
theorem Post.set1 {m b:Nat} {d:Nat×Nat} {o1 o o':Obj} (hh:HR P R S w) (hS:S m=some o1) (hR:R m=some (b,d)) (hb:b<w.heap.size) (ho:OR R d o o'):Post R R n n S [(m,some o)] w {w with heap:=w.heap.setIfInBounds b o'}:=by
 have hlk:∀k x,lk [(m,some o)] k=some x→k=m∧x=some o:=fun k x e=>by
  rw [KU] at e
  split at e
  ·next h=>injection e with e;exact ⟨h,e.symm⟩
  ·cases e
 refine ⟨Nat.le_refl _,fun _ _=>rfl,fun k x e=>?_,fun k j b' d' e' ⟨x,hx⟩ ⟨y,hy⟩ _ _=>by rw [(hlk _ _ hx).1,(hlk _ _ hy).1],fun k hk=>?_,fun k _ _ h1 h2=>by omega,rfl,rfl,rfl,by simp,fun c hc hf=>?_⟩
 ·obtain ⟨rfl,e2⟩:=hlk _ _ e
  injection e2 with e2
  subst e2
  exact ⟨b,d,o',hR,by simp [hb],ho⟩
 ·obtain ⟨x,hx⟩:=Option.isSome_iff_exists.1 hk
  rw [(hlk _ _ hx).1,hS];exact .inr rfl
 ·have hne:c≠b:=fun e=>by
   subst e
   exact hf m d (by rw [KU,if_pos rfl];rfl) (by rw [hS];rfl) hR
  simp [Array.getElem?_setIfInBounds_ne (Ne.symm hne)]
theorem VR.cells {v u:Value} (h:VR R v u):VRs R v.cells.toList u.cells.toList:=by
 cases h with
 |agg h=>exact h
 |bool b=>exact .cons (.bool b) .nil
 |int k n=>exact .cons (.int k n) .nil
 |float k n=>exact .cons (.float k n) .nil
 |complex k x y=>exact .cons (.complex k x y) .nil
 |string s=>exact .cons (.string s) .nil
 |Aq=>exact .cons .Aq .nil
 |ptr e=>exact .cons (.ptr e) .nil
 |qF=>exact .cons .qF .nil
 |slice e c q=>exact .cons (.slice e c q) .nil
 |Ar=>exact .cons .Ar .nil
 |map e=>exact .cons (.map e) .nil
 |func a b c=>exact .cons (.func a b c) .nil
 |nilFunc=>exact .cons .nilFunc .nil
 |iface a=>exact .cons (.iface a) .nil
 |nilIface=>exact .cons .nilIface .nil
 |tuple a=>exact .cons (.tuple a) .nil
theorem Au.of {cs ds:Array Value} (h:VRs R cs.toList ds.toList):Au R 0 cs ds:=fun i v e=>by
 obtain ⟨u,a,b⟩:=h.get i v (by simpa using e)
 exact ⟨u,by simpa using a,b⟩
theorem OR.new {cs ds:Array Value} {e e':TypeId} {r:Nat} (h:VRs R cs.toList ds.toList) (hr:r≤ds.size):OR R (0,r) (.cells cs e (0,0)) (.cells ds e' (0,0)):=
 .cells (Au.of h) hr (.inl rfl)
theorem lM (e:TypeId) (cs:Array Value) (w:World):(newRow e cs).run P w= .ok ⟨w.heap.size,0,none⟩ {w with heap:=w.heap.push (.cells cs e)}:=by
 have hn:Sem.run P (Sem.new (Obj.cells cs e) Sem.pure) w= .ok w.heap.size {w with heap:=w.heap.push (.cells cs e)}:=rfl
 simp [newRow,newObj,hn]
theorem KW {m b i r:Nat} {d:Nat×Nat} {cs:Array Value} {e:TypeId} {v:Value} (hh:HR P R S w) (hS:S m=some (.cells cs e (0,r))) (hR:R m=some (b,d)) (hv:cs[i]?=some v):∃u,w.cell? ⟨b,d.1+i,none⟩=some u∧VR R v u:=by
  obtain ⟨b',d',o',h1,h2,h3⟩:=hh.obj m _ hS
  rw [hR] at h1
  injection h1 with h1
  injection h1 with h1 h4
  subst h1 h4
  cases h3 with
  | cells hc _ hf =>
    obtain ⟨u,h5,h6⟩:=hc i v hv
    exact ⟨u,by simp only [World.cell?,h2];simpa using h5,h6⟩
  | ro hc =>
    obtain ⟨u,h5,h6⟩:=hc i v hv
    exact ⟨u,by simp only [World.cell?,h2];simpa using h5,h6⟩
theorem loadCellsFrom_ok {b q:Nat}:∀(us:List Value) (i:Nat) (acc:Array Value),(∀j v,us[j]?=some v→w.cell? ⟨b,q+(i+j),none⟩=some v)→
    (loadCellsFrom ⟨b,q,none⟩ i us.length acc).run P w= .ok (acc++us.toArray) w:=by
  intro us
  induction us with
  |nil=>intro i acc _;simp [loadCellsFrom]
  | cons c cs ih =>
    intro i acc h
    have h0:=h 0 c rfl
    have:=ih (i+1) (acc.push c) (fun j v hj=>by have:=h (j+1) v (by simpa using hj);rwa [show i+1+j=i+(j+1) by omega])
    simp only [Nat.add_zero] at h0
    rw [List.length_cons,loadCellsFrom]
    simp only [nY,Sem.run_bind,run_load,h0,Result.andThen_ok,this]
    simp
theorem rH {m b o k r : Nat} {d : Nat × Nat} {cs : Array Value} {e : TypeId} (hh : HR P R S w) (hS : S m = some (.cells cs e (0, r))) (hR : R m = some (b, d)) (hk : ((cs.toList.drop o).take k).length = k) :
    ∃us:List Value,VRs R ((cs.toList.drop o).take k) us∧∀w',w'.heap=w.heap→(loadCells ⟨b,d.1+o,none⟩ k).run P w'= .ok us.toArray w':=by
  have hex:∀j,∃u,∀v,((cs.toList.drop o).take k)[j]?=some v→w.cell? ⟨b,d.1+o+j,none⟩=some u∧VR R v u:=fun j=>by
    cases hv:((cs.toList.drop o).take k)[j]? with
    |none=>exact ⟨undef,fun v h=>by cases h⟩
    | some v =>
      have hj:cs[o+j]?=some v:=by
        rw [List.getElem?_take] at hv
        split at hv
        · rw [List.getElem?_drop] at hv;simpa using hv
        · cases hv
      obtain ⟨u,h1,h2⟩:=KW hh hS hR hj
      refine ⟨u,fun v' h=>?_⟩
      injection h with h
      subst h
      exact ⟨by rw [Nat.add_assoc];exact h1,h2⟩
  obtain ⟨f,hf⟩:=Classical.axiomOfChoice hex
  have hlen:((List.range k).map f).length=k:=by simp
  have hget:∀j,j<k→((List.range k).map f)[j]?=some (f j):=fun j hj=>by rw [List.getElem?_map,List.getElem?_range hj];rfl
  refine ⟨(List.range k).map f,VRs.QH (by rw [hk,hlen]) (fun j v hv=>?_),fun w' hw'=>?_⟩
  · have hj:j<k:=by rw [←hk];exact (List.getElem?_eq_some_iff.1 hv).1
    exact ⟨f j,hget j hj,(hf j v hv).2⟩
  · have := loadCellsFrom_ok (P := P) (w := w') (b := b) (q := d.1 + o) ((List.range k).map f) 0 #[] (fun j v hj => by
      have hjk:j<k:=by rw [←hlen];exact (List.getElem?_eq_some_iff.1 hj).1
      rw [hget j hjk] at hj
      injection hj with hj
      subst hj
      obtain ⟨v,hv⟩:∃v,((cs.toList.drop o).take k)[j]?=some v:=⟨_,List.getElem?_eq_getElem (by rw [hk];exact hjk)⟩
      rw [Nat.zero_add]
      have hcell:=(hf j v hv).1
      simp only [World.cell?] at hcell⊢
      rw [hw']
      exact hcell)
    rw [hlen] at this
    simpa [loadCells] using this
def I5 (P : Program) (H : Tr) (t : TypeId) (m o : Nat) : Option Value :=
  match H.get m with
  | some (.cells cs _ (0, _)) =>
    match P.underlying t,sizeT P t with
    | some d, some k =>
      if U8 d then (let l:=(cs.toList.drop o).take k;if l.length=k then some (.agg ⟨l⟩) else none)
      else cs.toList[o]?
    |_,_=>none
  |_=>none
theorem FM {t : TypeId} {m o : Nat} {v : Value} (h : I5 P H t m o = some v) : ∃ cs e r d k, H.get m = some (.cells cs e (0, r)) ∧ P.underlying t = some d ∧ sizeT P t = some k ∧ ((U8 d = true ∧ ((cs.toList.drop o).take k).length = k ∧ v = .agg ⟨(cs.toList.drop o).take k⟩) ∨ (U8 d = false ∧ cs[o]? = some v)) := by
  unfold I5 at h
  split at h
  · next cs e r hm=>
    split at h
    · next d k hd hk=>
      refine ⟨cs,e,r,d,k,hm,hd,hk,?_⟩
      split at h
      · next ha=>
        simp only at h
        split at h
        · next hl=>injection h with h;exact .inl ⟨ha,hl,h.symm⟩
        · cases h
      · next ha=>exact .inr ⟨by simpa using ha,by simpa using h⟩
    · cases h
  · cases h
theorem AB {t:TypeId} {m o b:Nat} {d:Nat×Nat} {v:Value} (hh:HR P R H.get w) (hR:R m=some (b,d)) (h:I5 P H t m o=some v):∃u,VR R v u∧(loadVar t ⟨b,d.1+o,none⟩).run P w= .ok u w:=by
 obtain ⟨cs,e,rr,dd,k,hm,hd,hk,hc⟩:=FM h
 rcases hc with ⟨ha,hl,rfl⟩|⟨ha,hv⟩
 ·obtain ⟨us,h1,h2⟩:=rH hh hm hR hl
  exact ⟨.agg us.toArray, .agg h1,by simp [loadVar,uQ hd,ha,jA hk,h2 w rfl]⟩
 ·obtain ⟨u,h1,h2⟩:=KW hh hm hR hv
  exact ⟨u,h2,by simp [loadVar,uQ hd,ha,h1]⟩
end
def xu:Value→Bool
 | .agg _| .tuple _=>false
 |_=>true
theorem Hq {R:Ren} {v u:Value} (h:VR R v u) (k:xu v=true):xu u=true:=by
 cases h<;>first|rfl|cases k
def xw (cs:Array Value):Nat→List Value→Array Value
 |_,[]=>cs
 |o,v::vs=>xw (cs.setIfInBounds o v) (o+1) vs
theorem tZ:∀(vs:List Value) (cs:Array Value) (o:Nat),(xw cs o vs).size=cs.size
 |[],_,_=>rfl
 |v::vs,cs,o=>by rw [xw,tZ vs];simp
theorem wB : ∀ (vs : List Value) (cs : Array Value) (o i : Nat), i < cs.size → (xw cs o vs)[i]? = if o ≤ i ∧ i < o + vs.length then vs[i - o]? else cs[i]?
  |[],cs,o,i,hi=>by rw [if_neg (fun h=>by simp at h;omega)];rfl
  | v :: vs, cs, o, i, hi => by
    rw [xw,wB vs _ _ _ (by simpa using hi)]
    by_cases h:o+1≤i∧i<o+1+vs.length
    · rw [if_pos h,if_pos (by simp;omega),show i-o=(i-(o+1))+1 by omega,List.getElem?_cons_succ]
    · rw [if_neg h]
      by_cases e:o=i
      · subst e
        rw [if_pos (by simp),Nat.sub_self]
        simp [hi]
      · rw [if_neg (by simp;omega),Array.getElem?_setIfInBounds_ne e]
section
variable {P:Program} {R:Ren} {S:Mem} {n:Nat} {w:World} {H:Tr}
theorem modify_eq {α:Type} (xs:Array α) (b:Nat) (f:α→α) (x:α) (h:xs[b]?=some x):xs.modify b f=xs.setIfInBounds b (f x):=by
 apply Array.ext_getElem?
 intro i
 rw [Array.getElem?_modify]
 by_cases e:b=i
 ·subst e
  have hb:=(Array.getElem?_eq_some_iff.1 h).1
  have hx:xs[b]=x:=by
   have:=Array.getElem?_eq_getElem hb
   rw [h] at this
   exact (Option.some.inj this).symm
  simp [hb,hx]
 ·rw [if_neg e,Array.getElem?_setIfInBounds_ne e]
theorem set_set {α:Type} (xs:Array α) (b:Nat) (x y:α):(xs.setIfInBounds b x).setIfInBounds b y=xs.setIfInBounds b y:=by
 apply Array.ext_getElem?
 intro i
 by_cases e:b=i
 ·subst e
  by_cases hb:b<xs.size
  ·simp [hb]
  ·simp [hb]
 ·rw [Array.getElem?_setIfInBounds_ne e,Array.getElem?_setIfInBounds_ne e,Array.getElem?_setIfInBounds_ne e]
theorem I7 {b q:Nat} {cs:Array Value} {e:TypeId} {fz:Nat×Nat} {v:Value} (hb:w.heap[b]?=some (.cells cs e fz)) (hq:q<cs.size) (hf:¬(fz.1≤q∧q<fz.2)) (hv:xu v=true):
  (store ⟨b,q,none⟩ v).run P w= .ok () {w with heap:=w.heap.setIfInBounds b (.cells (cs.setIfInBounds q v) e fz)}:=by
 have hc:w.cell? ⟨b,q,none⟩=some cs[q]:=by simp [World.cell?,hb,hq]
 have hz:w.frozen? ⟨b,q,none⟩=false:=by
  obtain ⟨lo,hi⟩:=fz
  simp only [World.frozen?,hb]
  simp only at hf
  simp only [Bool.and_eq_false_iff,decide_eq_false_iff_not]
  omega
 have hset:w.setCell ⟨b,q,none⟩ v={w with heap:=w.heap.setIfInBounds b (.cells (cs.setIfInBounds q v) e fz)}:=by
  unfold World.setCell
  rw [modify_eq _ _ _ _ hb]
  rfl
 rw [run_store P w _ v .plain (by cases v<;>first|rfl|cases hv)]
 simp only [hc,hz,hset,Bool.false_eq_true,if_false]
theorem pF {b q : Nat} {e : TypeId} {fz : Nat × Nat} : ∀ (vs : List Value) (i : Nat) (cs : Array Value) (w : World), w.heap[b]? = some (.cells cs e fz) → (0 < vs.length → q + i + vs.length ≤ cs.size) → (∀ j, j < vs.length → ¬ (fz.1 ≤ q + i + j ∧ q + i + j < fz.2)) → (∀ v ∈ vs, xu v = true) →
    (storeCells ⟨b,q,none⟩ vs i).run P w= .ok () {w with heap:=w.heap.setIfInBounds b (.cells (xw cs (q+i) vs) e fz)}
  | [], i, cs, w, hb, _, _, _ => by
    rw [storeCells,xw]
    simp only [Sem.run_pure]
    congr 1
    have:w.heap.setIfInBounds b (.cells cs e fz)=w.heap:=by
      apply Array.ext_getElem?
      intro j
      by_cases h:b=j
      · subst h
        have hlt:=(Array.getElem?_eq_some_iff.1 hb).1
        rw [hb]
        simp [hlt]
      · rw [Array.getElem?_setIfInBounds_ne h]
    rw [this]
  | v :: vs, i, cs, w, hb, hl, hf, hv => by
    have hlt:=(Array.getElem?_eq_some_iff.1 hb).1
    rw [storeCells]
    simp only [nY,Sem.run_bind]
    have hl:=hl (by simp)
    rw [I7 hb (by simp at hl;omega) (by have:=hf 0 (by simp);simpa using this) (hv v List.mem_cons_self)]
    simp only [Result.andThen_ok]
    rw [pF (e:=e) (fz:=fz) vs (i+1) (cs.setIfInBounds (q+i) v) _ (by simp [hlt]) (fun _=>by simp at hl⊢;omega) (fun j hj=>by have:=hf (j+1) (by simpa using hj);rw [show q+(i+1)+j=q+i+(j+1) by omega];exact this) (fun x hx=>hv x (List.mem_cons_of_mem _ hx))]
    simp only [set_set,xw]
    rfl
def zQ (cs:List Value) (o:Nat) (vs:List Value):List Value:=cs.take o++vs++cs.drop (o+vs.length)
theorem Hr {cs:List Value} {o:Nat} {vs:List Value} (h:o+vs.length≤cs.length):(zQ cs o vs).length=cs.length:=by unfold zQ;simp;omega
theorem uH {cs:List Value} {o:Nat} {vs:List Value} (h:o+vs.length≤cs.length) (i:Nat):(zQ cs o vs)[i]?=if o≤i∧i<o+vs.length then vs[i-o]? else cs[i]?:=by
 unfold zQ
 have h1:(cs.take o).length=o:=by simp;omega
 by_cases hi:i<o
 ·rw [if_neg (by omega),List.append_assoc,List.getElem?_append_left (by omega),List.getElem?_take,if_pos hi]
 ·by_cases hj:i<o+vs.length
  ·rw [if_pos ⟨by omega,hj⟩,List.getElem?_append_left (by simp;omega),List.getElem?_append_right (by omega),h1]
  ·rw [if_neg (by omega),List.getElem?_append_right (by simp;omega),List.getElem?_drop]
   congr 1
   simp;omega
def SI (H:Tr) (m o:Nat) (vs:List Value):Option Obj:=
 match H.get m with
 |some (.cells cs e (0,0))=>if o+vs.length≤cs.size&&vs.all xu then some (.cells ⟨zQ cs.toList o vs⟩ e (0,0)) else none
 |_=>none
theorem I8 {m o:Nat} {vs:List Value} {x:Obj} (h:SI H m o vs=some x):∃cs e,H.get m=some (.cells cs e (0,0))∧o+vs.length≤cs.size∧(∀v∈vs,xu v=true)∧x= .cells ⟨zQ cs.toList o vs⟩ e (0,0):=by
 unfold SI at h
 split at h
 ·next cs e hm=>
  split at h
  ·next hc=>
   simp only [Bool.and_eq_true,decide_eq_true_eq,List.all_eq_true] at hc
   injection h with h
   exact ⟨cs,e,hm,hc.1,hc.2,h.symm⟩
  ·cases h
 ·cases h
theorem nZ {m b o : Nat} {d : Nat × Nat} {vs us : List Value} {x : Obj} (hh : HR P R H.get w) (hR : R m = some (b, d)) (h : SI H m o vs = some x) (hr : VRs R vs us) : ∃ w', (storeCells ⟨b, d.1 + o, none⟩ us 0).run P w = .ok () w' ∧ Post R R n n H.get [(m, some x)] w w' := by
  obtain ⟨cs,e,hm,hl,hok,rfl⟩:=I8 h
  obtain ⟨b',d',o',h1,h2,h3⟩:=hh.obj m _ hm
  rw [hR] at h1
  injection h1 with h1
  injection h1 with h1 h4
  subst h1 h4
  cases h3 with
  | @cells _ _ _ cs' e' fz hc Va hf =>
    have hlen:=hr.len
    have hroom:∀i,i<cs.size→d.1+i<cs'.size:=fun i hi=>by
      obtain ⟨u,h5,_⟩:=hc i cs[i] (by simp [hi])
      exact (Array.getElem?_eq_some_iff.1 h5).1
    have hfit:0<us.length→d.1+o+0+us.length≤cs'.size:=fun h0=>by
      have:=hroom (o+us.length-1) (by rw [hlen] at hl;omega)
      omega
    refine ⟨_,pF us 0 cs' w h2 hfit (fun j hj=>?_) (fun u hu=>?_),Post.set1 hh hm hR (mP h2) (.cells (fun i v hv=>?_) (by rw [tZ];exact Va) (hf.imp id fun h i hi=>h i ?_))⟩
    · exact QI hf _ (.inl (by rw [←hlen] at hj;omega))
    · obtain ⟨j,hj,e⟩:=List.mem_iff_getElem.1 hu
      obtain ⟨u',h5,h6⟩:=hr.get j (vs[j]'(by rw [hlen];exact hj)) (List.getElem?_eq_getElem _)
      rw [List.getElem?_eq_getElem hj] at h5
      injection h5 with h5
      rw [←e,h5]
      exact Hq h6 (hok _ (List.getElem_mem _))
    · have hi:i<cs.size:=by
        have:=(Array.getElem?_eq_some_iff.1 hv).1
        have hp:=Hr (cs:=cs.toList) (o:=o) (vs:=vs) (by simpa using hl)
        simp only [List.size_toArray] at this
        rw [hp] at this
        simpa using this
      have hv:(zQ cs.toList o vs)[i]?=some v:=by simpa using hv
      rw [uH (by simpa using hl)] at hv
      rw [wB _ _ _ _ (hroom i hi)]
      by_cases hin:o≤i∧i<o+vs.length
      · rw [if_pos hin] at hv
        obtain ⟨u,h5,h6⟩:=hr.get _ v hv
        exact ⟨u,by rw [if_pos (by omega),show d.1+i-(d.1+o+0)=i-o by omega];exact h5,h6⟩
      · rw [if_neg hin] at hv
        obtain ⟨u,h5,h6⟩:=hc i v (by simpa using hv)
        exact ⟨u,by rw [if_neg (by omega)];exact h5,h6⟩
    · have hp:=Hr (cs:=cs.toList) (o:=o) (vs:=vs) (by simpa using hl)
      simp only [List.size_toArray] at hi
      rw [hp] at hi
      simpa using hi
end
end
end Go.V
namespace Go.V
noncomputable section
section
variable {P:Program} {o:Oper} {ev:Operand→Option Value} {H:Tr} {n:Nat}
theorem jB.new1 {v : Value} {ob : Obj} (h : ∀ (R : Ren) (w : World) (ρ : Operand → Value), HR P R H.get w → (∀ y u, ev y = some u → VR R u (ρ y)) → ∃ (u : Value) (o' : Obj) (w0 : World) (r : Nat × Nat), (execOp ρ o).run P w = .ok (.value u) { w0 with heap := w.heap.push o' } ∧ w0.os = w.os ∧ w0.tape = w.tape ∧ w0.output = w.output ∧
  (∀ R' : Ren, R.le R' → R' n = some (w.heap.size, r) → VR R' v u ∧ OR R' r ob o')) : jB P o ev H n (some v) [(n, some ob)] (n + 1) := by
 intro R w ρ hh fr he
 obtain ⟨u,o',w0,r,h1,e1,e2,e3,h2⟩:=h R w ρ hh he
 rw [h1]
 obtain ⟨h3,h4⟩:=h2 (R.add n (w.heap.size,r)) (Ren.AA (fr.2 n (Nat.le_refl _) (by omega)).1 _) (lX _ _ _)
 exact ⟨_,fun x e=>by injection e with e;subst e;exact h3,(Post.mk1 (w:=w) fr h4).draw rfl e1 e2 e3⟩
end
section
variable {P:Program} {ev:Operand→Option Value} {H:Tr} {n:Nat} {dst:Option Tmp} {ty:TypeId} {pos:String} {after:Array Edge} {guard:Option (Nat×Bool)}
theorem Pz {t:TypeId} {z:Value} (hz:CO P t=some z):jB P ⟨dst, .alloc t,ty,pos,after,guard⟩ ev H n (some (.pointer (some ⟨n,0,none⟩))) [(n,some (.cells z.cells t (0,0)))] (n+1):=
 jB.new1 fun R w ρ hh he=>by
  obtain ⟨hp,hz⟩:=pX hz
  refine ⟨_, .cells z.cells t,w,(0,0),?_,rfl,rfl,rfl,fun R' hle hn=>⟨.ptr (d:=(0,0)) hn,OR.new (ji z hp).cells (Nat.zero_le _)⟩⟩
  simp [execOp,Instr.alloc,hz,newVar,lM]
theorem Vb {t:TypeId} {x:Operand} {v:Value} (h:ev x=some v):jB P ⟨dst, .box t x,ty,pos,after,guard⟩ ev H n (some (.pointer (some ⟨n,0,none⟩))) [(n,some (.cells v.cells t (0,0)))] (n+1):=
 jB.new1 fun R w ρ hh he=>by
  refine ⟨_, .cells (ρ x).cells t,w,(0,0),?_,rfl,rfl,rfl,fun R' hle hn=>⟨.ptr (d:=(0,0)) hn,OR.new ((he x v h).mono hle).cells (Nat.zero_le _)⟩⟩
  simp [execOp,Instr.box,newVar,lM]
theorem SK {t:TypeId} {x:Operand} {m q:Nat} {v:Value} (h:ev x=some (.pointer (some ⟨m,q,none⟩))) (hv:I5 P H t m q=some v):jB P ⟨dst, .load t x,ty,pos,after,guard⟩ ev H n (some v) [] n:=
 jB.val fun R w ρ hh he=>by
  obtain ⟨b,d,hr,hu⟩:=uS (he x _ h)
  obtain ⟨u,h1,h2⟩:=AB hh hr hv
  exact ⟨u,h1,by simp [execOp,Instr.loadAt,hu,Instr.sureAddr,h2]⟩
theorem PD {t:TypeId} {a x:Operand} {m q k:Nat} {v:Value} {ob:Obj} (ha:ev a=some (.pointer (some ⟨m,q,none⟩))) (hx:ev x=some v) (hk:sizeT P t=some k) (hs:v.cells.toList.length=k) (hv:SI H m q v.cells.toList=some ob):
  jB P ⟨dst, .store t a x,ty,pos,after,guard⟩ ev H n none [(m,some ob)] n:=by
 intro R w ρ hh fr he
 obtain ⟨b,d,hr,hu⟩:=uS (he a _ ha)
 have hc:=(he x _ hx).cells
 obtain ⟨w',h1,h2⟩:=nZ (n:=n) hh hr hv hc
 have hsz:(ρ x).cells.size=k:=by
  have:=hc.len
  rw [hs] at this
  simpa using this.symm
 have:(execOp ρ ⟨dst, .store t a x,ty,pos,after,guard⟩).run P w= .ok .skip w':=by
  simp [execOp,Instr.storeAt,hu,Instr.sureAddr,storeVar,jA hk,hsz,h1]
 rw [this]
 exact ⟨rfl,R,h2⟩
theorem VRs.set {R:Ren}:∀{vs us:List Value} (i:Nat) {v u:Value},VRs R vs us→VR R v u→VRs R (vs.set i v) (us.set i u)
 |_,_,_,_,_, .nil,_=> .nil
 |_,_,0,_,_, .cons _ b,h=> .cons h b
 |_,_,i+1,_,_, .cons a b,h=> .cons a (VRs.set i b h)
theorem QL {R:Ren} (off:Nat):∀{vs us:List Value} (k:Nat) {cs ds:Array Value},VRs R vs us→VRs R cs.toList ds.toList→
    VRs R ((vs.zipIdx k).foldl (fun cs (p:Value×Nat)=>cs.setIfInBounds (off+p.2) p.1) cs).toList ((us.zipIdx k).foldl (fun cs (p:Value×Nat)=>cs.setIfInBounds (off+p.2) p.1) ds).toList
  |_,_,k,cs,ds, .nil,h=>h
  | _, _, k, cs, ds, .cons a b, h => by
    rw [List.zipIdx_cons,List.zipIdx_cons,List.foldl_cons,List.foldl_cons]
    exact QL off (k+1) b (by simpa using h.set (off+k) a)
inductive PsR (R:Ren):List (Nat×Value)→List (Nat×Value)→Prop
 |nil:PsR R [] []
 |cons {i v u ps qs}:VR R v u→PsR R ps qs→PsR R ((i,v)::ps) ((i,u)::qs)
theorem Ht {R : Ren} {place : Nat → Option (Nat × Nat)} : ∀ {ps qs : List (Nat × Value)} {cs ds xs : Array Value}, PsR R ps qs → VRs R cs.toList ds.toList → Instr.fill place cs ps = some xs → ∃ ys, Instr.fill place ds qs = some ys ∧ VRs R xs.toList ys.toList
  | _, _, cs, ds, xs, .nil, h, e => by
    rw [Instr.fill] at e
    injection e with e
    subst e
    exact ⟨ds,rfl,h⟩
  | _, _, cs, ds, xs, .cons (i := i) (v := v) (u := u) a b, h, e => by
    rw [Instr.fill] at e⊢
    cases hp:place i with
    |none=>rw [hp] at e;cases e
    | some x =>
      obtain ⟨off,size⟩:=x
      rw [hp] at e
      simp only at e⊢
      have hl:=a.cells.len
      have hl2:=h.len
      simp only [Array.length_toList] at hl hl2
      rw [←hl,←hl2]
      split at e
      · cases e
      · next hc=>
        rw [if_neg hc]
        refine Ht b ?_ e
        have e1:∀(a:Array Value) (cs:Array Value),a.zipIdx.foldl (fun cs (p:Value×Nat)=>cs.setIfInBounds (off+p.2) p.1) cs=(a.toList.zipIdx 0).foldl (fun cs (p:Value×Nat)=>cs.setIfInBounds (off+p.2) p.1) cs:=fun a cs=>by
          rw [←Array.foldl_toList,Array.toList_zipIdx]
        rw [e1,e1]
        exact QL off 0 a.cells h
def xA (ev : Operand → Option Value) : List (Nat × Operand) → Option (List (Nat × Value))
  |[]=>some []
  | (i, x) :: r => match ev x, xA ev r with
    |some v,some ps=>some ((i,v)::ps)
    |_,_=>none
theorem yQ {R:Ren} {ρ:Operand→Value} (he:∀y u,ev y=some u→VR R u (ρ y)):∀{xs:List (Nat×Operand)} {ps:List (Nat×Value)},xA ev xs=some ps→PsR R ps (xs.map fun (i,x)=>(i,ρ x))
  |[],ps,h=>by simp [xA] at h;subst h;exact .nil
  | (i, x) :: xs, ps, h => by
    rw [xA] at h
    split at h
    · next v qs h1 h2=>
      injection h with h
      subst h
      exact .cons (he x v h1) (yQ he h2)
    · cases h
def KX (P : Program) (t : TypeId) (ps : List (Nat × Value)) : Option Value :=
  match CO P t,P.underlying t with
  | some z, some (.struct fields) =>
    match prun P (fields.mapM fun f=>do pure (f.offset,←sizeOf f.type)) with
    |some places=>(Instr.fill (places[·]?) z.cells ps).map Value.agg
    |none=>none
  | some z, some (.array _ e) =>
    match sizeT P e with
    |some k=>(Instr.fill (fun i=>some (i*k,k)) z.cells ps).map Value.agg
    |none=>none
  |_,_=>none
theorem PE {t : TypeId} {parts : Array (Nat × Operand)} {ps : List (Nat × Value)} {v : Value} (hp : xA ev parts.toList = some ps) (h : KX P t ps = some v) : jB P ⟨dst, .build t parts, ty, pos, after, guard⟩ ev H n (some v) [] n :=
  jB.val fun R w ρ hh he=>by
    have hps:=yQ he hp
    have hmap:(parts.map fun (i,x)=>(i,ρ x)).toList=parts.toList.map fun (i,x)=>(i,ρ x):=Array.toList_map ..
    unfold KX at h
    split at h
    · next z fields hz hu=>
      obtain ⟨hpl,hz⟩:=pX hz
      split at h
      · next places hpr=>
        obtain ⟨cs,hf,rfl⟩:=Option.map_eq_some_iff.1 h
        obtain ⟨ds,h1,h2⟩:=Ht hps (ji z hpl).cells hf
        refine ⟨.agg ds, .agg h2,?_⟩
        rw [←hmap] at h1
        have hpr:=mQ _ _ hpr
        simp only [execOp,Instr.build,Sem.run_bind,hz,Result.andThen_ok,run_underlying hu,hpr,h1,Sem.run_pure]
      · cases h
    · next z k e hz hu=>
      obtain ⟨hpl,hz⟩:=pX hz
      split at h
      · next sz hk=>
        obtain ⟨cs,hf,rfl⟩:=Option.map_eq_some_iff.1 h
        obtain ⟨ds,h1,h2⟩:=Ht hps (ji z hpl).cells hf
        refine ⟨.agg ds, .agg h2,?_⟩
        rw [←hmap] at h1
        simp only [execOp,Instr.build,Sem.run_bind,hz,Result.andThen_ok,run_underlying hu,jA hk,h1,Sem.run_pure]
      · cases h
    · cases h
def wC (P : Program) (e : TypeId) (n : Nat) : Option (Array Value) :=
  if n=0 then some #[] else match CO P e with
    |some z=>let l:=(Array.range n).map (z.cells[· %z.cells.size]!);if kP l.toList then some l else none
    |none=>none
theorem AL {e : TypeId} {n : Nat} {l : Array Value} (h : wC P e n = some l) : kP l.toList = true ∧ ((n = 0 ∧ l = #[]) ∨ (¬ n = 0 ∧ ∃ z, (∀ w, (zeroValue e).run P w = .ok z w) ∧ l = (Array.range n).map (z.cells[· % z.cells.size]!))) := by
  unfold wC at h
  split at h
  · next h0=>
    injection h with h
    subst h
    exact ⟨rfl, .inl ⟨h0,rfl⟩⟩
  · next h0=>
    split at h
    · next z hz=>
      simp only at h
      split at h
      · next hp=>
        injection h with h
        subst h
        obtain ⟨_,hz⟩:=pX hz
        exact ⟨hp, .inr ⟨h0,z,hz,rfl⟩⟩
      · cases h
    · cases h
theorem CU {t e:TypeId} {len k:Nat} {parts:Array (Nat×Operand)} {ps:List (Nat×Value)} {zs cs:Array Value} (hp:xA ev parts.toList=some ps) (hu:P.underlying t=some (.slice e)) (hk:sizeT P e=some k)
  (hb:len*k≤2^24) (hz:wC P e (len*k)=some zs) (hf:Instr.fill (fun i=>some (i*k,k)) zs ps=some cs):
  jB P ⟨dst, .buildSlice t len parts,ty,pos,after,guard⟩ ev H n (some (.slice (some ⟨n,0,none⟩) len (2*len+1))) [(n,some (.cells cs e (0,0)))] (n+1):=
 jB.new1 fun R w ρ hh he=>by
  have hps:=yQ he hp
  have hmap:(parts.map fun (i,x)=>(i,ρ x)).toList=parts.toList.map fun (i,x)=>(i,ρ x):=Array.toList_map ..
  obtain ⟨hpl,hz⟩:=AL hz
  obtain ⟨ds,h1,h2⟩:=Ht hps (jv zs.toList hpl) hf
  refine ⟨.slice (some ⟨w.heap.size,0,none⟩) len len, .cells ds e,w,(0,0),?_,rfl,rfl,rfl,fun R' hle hn=>⟨.slice (d:=(0,0)) hn (by unfold rF;rw [if_pos (by omega)];omega) (fun _=>rfl),OR.new (h2.mono hle) (Nat.zero_le _)⟩⟩
  rw [←hmap] at h1
  simp only [execOp,Instr.buildSlice,Sem.run_bind,run_underlying hu,Result.andThen_ok,jA hk]
  rw [if_neg (by omega)]
  rcases hz with ⟨h0,rfl⟩|⟨h0,z,hz0,rfl⟩
  ·rw [if_pos h0]
   simp only [Sem.run_bind,Sem.run_pure,Result.andThen_ok]
   rw [h0,show (Array.map (fun x=>(#[]:Array Value)[x%(#[]:Array Value).size]!) (Array.range 0))=#[] from by simp,h1]
   simp [lM]
  ·rw [if_neg h0]
   simp only [Sem.run_bind,Sem.run_pure,Result.andThen_ok,hz0]
   rw [h1]
   simp [lM]
theorem I9 {t:TypeId}:jB P ⟨dst, .makeMap t none,ty,pos,after,guard⟩ ev H n (some (.map (some n))) [(n,some (.map #[] 0))] (n+1):=
 jB.new1 fun R w ρ hh he=>by
  refine ⟨.map (some w.heap.size), .map #[] 0,w,(0,0),?_,rfl,rfl,rfl,fun R' hle hn=>⟨.map hn, .map ⟨[], .nil, .nil⟩⟩⟩
  have hn:Sem.run P (Sem.new (Obj.map #[] 0) Sem.pure) w= .ok w.heap.size {w with heap:=w.heap.push (.map #[] 0)}:=rfl
  simp [execOp,Instr.makeMap,newObj,hn]
theorem FN {t:TypeId} {x:Operand} {k:IntKind} {i:Int} {a b:TypeId} (hx:ev x=some (.int k i)) (hu:P.underlying t=some (.map a b)):jB P ⟨dst, .makeMap t (some x),ty,pos,after,guard⟩ ev H n (some (.map (some n))) [(n,some (.map #[] 0))] (n+1):=
 jB.new1 fun R w ρ hh he=>by
  have hi:=yO (he x _ hx)
  refine ⟨.map (some w.heap.size), .map #[] 0,w,(0,0),?_,rfl,rfl,rfl,fun R' hle hn=>⟨.map hn, .map ⟨[], .nil, .nil⟩⟩⟩
  have hn:Sem.run P (Sem.new (Obj.map #[] 0) Sem.pure) w= .ok w.heap.size {w with heap:=w.heap.push (.map #[] 0)}:=rfl
  simp [execOp,Instr.makeMap,newObj,hn,run_underlying hu,hi,asInt,asIntOf]
theorem run_askRoom (k:Nat) (w:World):(askRoom k).run P w= .ok () w:=by
 unfold askRoom
 split<;>rfl
theorem Eb {t e:TypeId} {a b:Operand} {ka kb:IntKind} {l c:Nat} {k:Nat} {i:TypeInfo} {zs:Array Value} (ha:ev a=some (.int ka l)) (hb:ev b=some (.int kb c)) (hu:P.underlying t=some (.slice e)) (hi:P.info? e=some i) (hk:i.size=k)
  (hl:l≤c) (hc:(c:Int)<2^63) (hs:i.bytes*c≤2^48) (hz:wC P e (c*k)=some zs):
  jB P ⟨dst, .makeSlice t a b,ty,pos,after,guard⟩ ev H n (some (.slice (some ⟨n,0,none⟩) l (2*c+1))) [(n,some (.cells zs e (0,0)))] (n+1):=
 jB.new1 fun R w ρ hh he=>by
  have h1:=yO (he a _ ha)
  have h2:=yO (he b _ hb)
  obtain ⟨hpl,hz⟩:=AL hz
  refine ⟨.slice (some ⟨w.heap.size,0,none⟩) l c, .cells zs e,w,(0,0),?_,rfl,rfl,rfl,fun R' hle hn=>⟨.slice (d:=(0,0)) hn (by unfold rF;rw [if_pos (by omega)];omega) (fun _=>rfl),OR.new (jv _ hpl) (Nat.zero_le _)⟩⟩
  have wr:∀x:Nat,(x:Int)<2^63→IntKind.i64.wrap (x:Int)=x:=fun x hx=>by
   simp [IntKind.wrap,IntKind.bits,IntKind.signed]
   omega
  have hlc:(l:Int)<2^63:=by omega
  have hbig:(i.bytes:Int)*(c:Int)≤2^48:=by exact_mod_cast hs
  simp only [execOp,Instr.makeSlice,Sem.run_bind,run_underlying hu,Result.andThen_ok,h1,h2,asInt,asIntOf,Sem.run_pure,run_typeInfo hi,wr l hlc,wr c hc]
  rw [if_neg (by simp only [Bool.or_eq_true,decide_eq_true_eq];omega)]
  simp only [Sem.run_bind,Sem.run_pure,Result.andThen_ok,run_askRoom,Int.toNat_natCast,run_sizeOf hi,hk]
  rcases hz with ⟨h0,rfl⟩|⟨h0,z,hz0,rfl⟩
  ·rw [if_pos h0]
   simp only [Sem.run_bind,Sem.run_pure,Result.andThen_ok]
   rw [h0,show (Array.map (fun x=>(#[]:Array Value)[x%(#[]:Array Value).size]!) (Array.range 0))=#[] from by simp]
   simp [lM]
  ·rw [if_neg h0]
   simp only [Sem.run_bind,Sem.run_pure,Result.andThen_ok,hz0]
   simp [lM]
end
end
end Go.V
namespace Go.V
noncomputable section
section
variable {P:Program} {ev:Operand→Option Value} {H:Tr} {n:Nat} {dst:Option Tmp} {ty:TypeId} {pos:String} {after:Array Edge} {guard:Option (Nat×Bool)}
theorem mV {k:IntKind} {i:Int} {y:Nat} {c:BoundsCode} (h0:0≤i) (h1:i≤y) (w:World):(Instr.sliceBound (.int k i) y c).run P w= .ok i.toNat w:=by
 simp [Instr.sliceBound,asIntOf,h0,h1]
def lV (ev : Operand → Option Value) : Option Operand → Nat → Option Nat
  |none,d=>some d
  | some x, _ => match ev x with
    |some (.int _ i)=>if 0≤i then some i.toNat else none
    |_=>none
theorem pY {R : Ren} {ρ : Operand → Value} (he : ∀ y u, ev y = some u → VR R u (ρ y)) {x : Option Operand} {d v : Nat} (h : lV ev x d = some v) : (x = none ∧ v = d) ∨ (∃ y k i, x = some y ∧ ρ y = .int k i ∧ 0 ≤ i ∧ i.toNat = v) := by
  cases x with
  |none=>simp [lV] at h;exact .inl ⟨rfl,h.symm⟩
  | some y =>
    simp only [lV] at h
    split at h
    · next k i hy=>
      split at h
      · next h0=>
        injection h with h
        exact .inr ⟨y,k,i,rfl,yO (he y _ hy),h0,h⟩
      · cases h
    · cases h
theorem AO {R:Ren} {ρ:Operand→Value} (he:∀y u,ev y=some u→VR R u (ρ y)) {lo hi:Option Operand} {sl:Bool} {len cap l h:Nat} (hl:lV ev lo 0=some l) (hh:lV ev hi len=some h) (h1:l≤h) (h2:h≤cap) (w:World):
  (Instr.sliceBounds sl len cap (lo.map ρ) (hi.map ρ) none).run P w= .ok (l,h,cap) w:=by
 rcases pY he hl with ⟨rfl,rfl⟩|⟨y,k,i,rfl,hy,hi0,rfl⟩
 ·rcases pY he hh with ⟨rfl,rfl⟩|⟨z,k2,j,rfl,hz,hj0,rfl⟩
  ·simp [Instr.sliceBounds]
  ·simp [Instr.sliceBounds,hz,mV hj0 (show j≤cap by omega)]
 ·rcases pY he hh with ⟨rfl,rfl⟩|⟨z,k2,j,rfl,hz,hj0,rfl⟩
  ·simp [Instr.sliceBounds,hy,mV hi0 (show i≤(h:Int) by omega)]
  ·simp [Instr.sliceBounds,hz,hy,mV hj0 (show j≤cap by omega),mV hi0 (show i≤(j.toNat:Nat) by omega)]
theorem FP {R:Ren} {ρ:Operand→Value} (he:∀y u,ev y=some u→VR R u (ρ y)) {lo hi mx:Option Operand} {sl:Bool} {len cap l h m:Nat} (hl:lV ev lo 0=some l) (hh:lV ev hi 0=some h) (hm:lV ev mx 0=some m) (n1:hi≠none) (n2:mx≠none) (h1:l≤h) (h2:h≤m) (h3:m≤cap) (w:World):
  (Instr.sliceBounds sl len cap (lo.map ρ) (hi.map ρ) (mx.map ρ)).run P w= .ok (l,h,m) w:=by
 rcases pY he hm with ⟨rfl,_⟩|⟨y3,k3,i3,rfl,hy3,hi3,rfl⟩
 ·exact absurd rfl n2
 rcases pY he hh with ⟨rfl,_⟩|⟨z,k2,j,rfl,hz,hj0,rfl⟩
 ·exact absurd rfl n1
 rcases pY he hl with ⟨rfl,rfl⟩|⟨y,k,i,rfl,hy,hi0,rfl⟩
 ·simp [Instr.sliceBounds,hy3,hz,mV hi3 (show i3≤cap by omega),mV hj0 (show j≤(i3.toNat:Nat) by omega)]
 ·simp [Instr.sliceBounds,hy3,hz,hy,mV hi3 (show i3≤cap by omega),mV hj0 (show j≤(i3.toNat:Nat) by omega),mV hi0 (show i≤(j.toNat:Nat) by omega)]
def Ec (c l k:Nat):Option Nat:=if c%2=1 then some (2*(c/2-l)+1) else if W9 c=k then some (pV (wu c-l) k) else none
theorem KY {c l k c' cr q r : Nat} (h : Ec c l k = some c') (hc : rF c cr q r) (hl : l ≤ wu c) (hk : k < 65536) : rF c' (cr - l) (if cr = l then q else q + l * k) r ∧ (wu c' ≠ 0 → cr ≠ l) := by
  unfold Ec at h
  split at h
  · next ho=>
    injection h with h
    subst h
    have hcr:cr=c/2:=by unfold rF at hc;rw [if_pos ho] at hc;exact hc
    refine ⟨?_,?_⟩
    · unfold rF
      rw [if_pos (by omega)];omega
    · unfold wu
      rw [if_pos (by omega)];omega
  · next ho=>
    split at h
    · next hkk=>
      injection h with h
      subst h
      have hle:=xZ hc
      unfold rF at hc
      rw [if_neg ho,hkk] at hc
      refine ⟨?_,fun h0 e=>h0 ?_⟩
      · split
        · next e=>
          subst e
          exact nO hk (by omega) (by rw [Nat.sub_self];omega)
        · refine nO hk (by omega) ?_
          have:(cr-l)*k+l*k=cr*k:=by rw [←Nat.add_mul];congr 1;omega
          omega
      · have h4:wu (pV (wu c-l) k)=wu c-l:=by unfold wu pV;rw [if_neg (by omega)];omega
        rw [h4];omega
    · cases h
theorem PG {t e : TypeId} {x : Operand} {lo hi : Option Operand} {m o len c k l h c' : Nat} (hx : ev x = some (.slice (some ⟨m, o, none⟩) len c)) (hu : P.underlying t = some (.slice e)) (hk : sizeT P e = some k) (hk2 : k < 65536)
    (hl:lV ev lo 0=some l) (hh:lV ev hi len=some h) (h1:l≤h) (h2:h≤wu c) (hc:Ec c l k=some c'):
    jB P ⟨dst, .slice t x lo hi none,ty,pos,after,guard⟩ ev H n (some (.slice (some ⟨m,o+l*k,none⟩) (h-l) c')) [] n:=
  jB.val fun R w ρ hR he=>by
    obtain ⟨b,d,q,cr,hr,hcap,hq,hu2⟩:=lK (he x _ hx)
    have hle:=xZ hcap
    obtain ⟨g1,g2⟩:=KY hc hcap (by omega) hk2
    refine ⟨.slice (some ⟨b,if cr=l then q else q+l*k,none⟩) (h-l) (cr-l), .slice hr g1 (fun h0=>?_),?_⟩
    · have hne:cr≠l:=by
        rcases h0 with h0|h0
        · omega
        · exact g2 h0
      rw [if_neg hne, hq (by
        by_cases z:len=0
        · right
          intro z2
          have:cr≠l:=hne
          rcases h0 with h0|h0
          · omega
          · unfold Ec at hc
            split at hc
            · injection hc with hc
              subst hc
              unfold wu at h0 z2
              rw [if_pos (by omega)] at h0
              rw [if_pos (by assumption)] at z2
              omega
            · split at hc
              · injection hc with hc
                subst hc
                rw [show wu (pV (wu c-l) k)=wu c-l by unfold wu pV;rw [if_neg (by omega)];omega] at h0
                omega
              · cases hc
        · exact .inl z)]
      omega
    · have hb:=AO (P:=P) he (sl:=true) (cap:=cr) hl hh h1 (by omega) w
      simp only [execOp,Instr.sliceAt,Sem.run_bind,run_underlying hu,Result.andThen_ok,Instr.slice,hu2,Option.map_none,hb,jA hk,Sem.run_pure,Option.map_some,nY]
      by_cases e:cr=l
      · simp [e]
      · simp [e]
theorem KZ {t e : TypeId} {x : Operand} {lo hi mx : Option Operand} {m o len c k l h mm : Nat} (hx : ev x = some (.slice (some ⟨m, o, none⟩) len c)) (hu : P.underlying t = some (.slice e)) (hk : sizeT P e = some k)
    (hl:lV ev lo 0=some l) (hh:lV ev hi 0=some h) (hm:lV ev mx 0=some mm) (n1:hi≠none) (n2:mx≠none) (h1:l≤h) (h2:h≤mm) (h3:mm≤wu c):
    jB P ⟨dst, .slice t x lo hi mx,ty,pos,after,guard⟩ ev H n (some (.slice (some ⟨m,o+l*k,none⟩) (h-l) (2*(mm-l)+1))) [] n:=
  jB.val fun R w ρ hR he=>by
    obtain ⟨b,d,q,cr,hr,hcap,hq,hu2⟩:=lK (he x _ hx)
    have hle:=xZ hcap
    refine ⟨.slice (some ⟨b,if mm=l then q else q+l*k,none⟩) (h-l) (mm-l), .slice hr (by unfold rF;rw [if_pos (by omega)];omega) (fun h0=>?_),?_⟩
    · have hne:mm≠l:=by
        rcases h0 with h0|h0
        · omega
        · unfold wu at h0;rw [if_pos (by omega)] at h0;omega
      rw [if_neg hne,hq (.inr (by omega))]
      omega
    · have hb:=FP (P:=P) he (sl:=true) (len:=len) (cap:=cr) hl hh hm n1 n2 h1 h2 (by omega) w
      simp only [execOp,Instr.sliceAt,Sem.run_bind,run_underlying hu,Result.andThen_ok,Instr.slice,hu2,hb,jA hk,Sem.run_pure,Option.map_some,nY]
      by_cases e:mm=l
      · simp [e]
      · simp [e]
theorem La {t e : TypeId} {x : Operand} {lo hi : Option Operand} {m o len k l h : Nat} (hx : ev x = some (.pointer (some ⟨m, o, none⟩))) (hu : P.underlying t = some (.array len e)) (hk : sizeT P e = some k)
    (hl:lV ev lo 0=some l) (hh:lV ev hi len=some h) (h1:l≤h) (h2:h≤len):
    jB P ⟨dst, .slice t x lo hi none,ty,pos,after,guard⟩ ev H n (some (.slice (some ⟨m,o+l*k,none⟩) (h-l) (2*(len-l)+1))) [] n:=
  jB.val fun R w ρ hR he=>by
    obtain ⟨b,d,hr,hu2⟩:=uS (he x _ hx)
    refine ⟨.slice (some ⟨b,if len=l then d.1+o else d.1+o+l*k,none⟩) (h-l) (len-l), .slice hr (by unfold rF;rw [if_pos (by omega)];omega) (fun h0=>?_),?_⟩
    · have hne:len≠l:=by
        rcases h0 with h0|h0
        · omega
        · unfold wu at h0;rw [if_pos (by omega)] at h0;omega
      rw [if_neg hne]
      omega
    · have hb:=AO (P:=P) he (sl:=false) (cap:=len) hl hh h1 (by omega) w
      simp only [execOp,Instr.sliceAt,Sem.run_bind,run_underlying hu,Result.andThen_ok,Instr.sureAddr,hu2,Option.map_none,hb,jA hk,Sem.run_pure,nY]
      by_cases e:len=l
      · simp [e]
      · simp [e]
def uU (H : Tr) (k : Nat) : Value → Option (List Value × Nat)
  | .slice none 0 0=>some ([],0)
  | .slice (some ⟨m, o, none⟩) l _ => match H.get m with
    |some (.cells cs _ (0,0))=>let v:=(cs.toList.drop o).take (l*k);if v.length=l*k then some (v,l) else none
    |_=>none
  | .string s=>some (s.data.toList.map fun b=> .int .u8 b.toNat,s.size)
  |_=>none
theorem rJ {k m o l c l':Nat} {v:List Value} (h:uU H k (.slice (some ⟨m,o,none⟩) l c)=some (v,l')):∃cs e,H.get m=some (.cells cs e (0,0))∧l'=l∧v=(cs.toList.drop o).take (l*k)∧v.length=l*k:=by
 simp only [uU] at h
 split at h
 ·next cs e hm=>
  split at h
  ·next hl=>
   injection h with h
   injection h with h1 h2
   exact ⟨cs,e,hm,h2.symm,h1.symm,by rw [←h1];exact hl⟩
  ·cases h
 ·cases h
theorem qH:∀(l:List UInt8),kP (l.map fun b=>Value.int .u8 b.toNat)=true
 |[]=>rfl
 |b::l=>by rw [List.map_cons,kP,qH l];rfl
theorem nR {R : Ren} {w : World} {k c : Nat} {x u : Value} {vs : List Value} (hh : HR P R H.get w) (hx : VR R x u) (h : uU H k x = some (vs, c)) :
    (∀w',(Builtin.lenOf u).run P w'= .ok c w')∧∃us:List Value,VRs R vs us∧∀w',w'.heap=w.heap→(Builtin.firstCells k c u).run P w'= .ok us.toArray w':=by
  unfold uU at h
  split at h
  · injection h with h
    injection h with h1 h2
    subst h1 h2
    cases hx
    exact ⟨fun _=>rfl,[], .nil,fun _ _=>rfl⟩
  · next m o l c'=>
    split at h
    · next cs e hm=>
      simp only at h
      split at h
      · next hl=>
        injection h with h
        injection h with h1 h2
        subst h1 h2
        obtain ⟨b,d,q,cr,hr,_,hq,rfl⟩:=lK hx
        refine ⟨fun _=>rfl,?_⟩
        by_cases h0:l=0
        · subst h0
          exact ⟨[],by simp;exact .nil,fun w' _=>by simp [Builtin.firstCells,loadCells,loadCellsFrom]⟩
        · have hq:=hq (.inl h0)
          subst hq
          obtain ⟨us,h3,h4⟩:=rH hh hm hr hl
          exact ⟨us,h3,fun w' hw'=>by simpa [Builtin.firstCells] using h4 w' hw'⟩
      · cases h
    · cases h
  · next s=>
    injection h with h
    injection h with h1 h2
    subst h1 h2
    cases hx
    refine ⟨fun _=>rfl,_,jv _ (qH _),fun w' _=>?_⟩
    have:(s.extract 0 s.size).data.map (fun b=>Value.int .u8 (b.toNat:Int))=(s.data.toList.map fun b=>Value.int .u8 (b.toNat:Int)).toArray:=by
      rw [ByteArray.extract_zero_size]
      apply Array.ext'
      simp
    simp only [Builtin.firstCells,Sem.run_pure]
    rw [this]
  · cases h
theorem Post.move {R R':Ren} {S:Mem} {m b:Nat} {d d':Nat×Nat} {o1 ob o':Obj} {w w':World} (hh:HR P R S w) (fr:Fr P R S n (n+1)) (hS:S m=some o1) (hR:R m=some (b,d)) (hle:R'=R.add n (b,d'))
  (hw:w'.heap=w.heap.setIfInBounds b o') (hb:b<w.heap.size) (e1:w'.os=w.os) (e2:w'.tape=w.tape) (e3:w'.output=w.output) (ho:OR R' d' ob o'):Post R R' n (n+1) S [(m,none),(n,some ob)] w w':=by
 have hmn:m≠n:=fun e=>by rw [e,(fr.2 n (Nat.le_refl _) (by omega)).2] at hS;cases hS
 have hlk:∀k x,lk [(m,none),(n,some ob)] k=some x→(k=n∧x=some ob)∨(k=m∧x=none):=fun k x e=>by
  simp only [lk] at e
  by_cases h:k=n
  ·rw [if_pos h] at e;simp at e;exact .inl ⟨h,e.symm⟩
  ·rw [if_neg h] at e
   by_cases h2:k=m
   ·rw [if_pos h2] at e;simp at e;exact .inr ⟨h2,e.symm⟩
   ·rw [if_neg h2] at e;cases e
 have hln:lk [(m,none),(n,some ob)] n=some (some ob):=by simp [lk]
 have hlm:(lk [(m,none),(n,some ob)] m).isSome=true:=by simp [lk,hmn]
 subst hle
 refine ⟨by omega,fun k hk=>?_,fun k x e=>?_,fun k j b' d1 e' ⟨x,hx⟩ ⟨y,hy⟩ _ _=>?_,fun k hk=>?_,fun k b' d1 h1 h2 hx hr=>?_,e1,e2,e3,by rw [hw];simp,fun c hc hf=>?_⟩
 ·unfold Ren.add;rw [if_neg (by omega)]
 ·rcases hlk _ _ e with ⟨rfl,h⟩|⟨_,h⟩
  ·injection h with h
   subst h
   exact ⟨b,d',o',lX _ _ _,by rw [hw];simp [hb],ho⟩
  ·cases h
 ·rcases hlk _ _ hx with ⟨rfl,_⟩|⟨_,h⟩
  ·rcases hlk _ _ hy with ⟨rfl,_⟩|⟨_,h⟩
   ·rfl
   ·cases h
  ·cases h
 ·obtain ⟨x,hx⟩:=Option.isSome_iff_exists.1 hk
  rcases hlk _ _ hx with ⟨rfl,_⟩|⟨rfl,_⟩
  ·exact .inl ⟨Nat.le_refl _,by omega⟩
  ·rw [hS];exact .inr rfl
 ·have:k=n:=by omega
  subst this
  rw [lX] at hr
  injection hr with hr
  injection hr with hr _
  subst hr
  exact .inr ⟨m,d,hlm,by rw [hS];rfl,hR⟩
 ·have hne:c≠b:=fun e=>by
   subst e
   exact hf m d hlm (by rw [hS];rfl) hR
  rw [hw,Array.getElem?_setIfInBounds_ne (Ne.symm hne)]
theorem Post.fresh {R R':Ren} {S:Mem} {m:Nat} {d':Nat×Nat} {o1 ob o':Obj} {w w':World} (hh:HR P R S w) (fr:Fr P R S n (n+1)) (hS:S m=some o1) (hle:R'=R.add n (w.heap.size,d'))
  (hw:w'.heap=w.heap.push o') (e1:w'.os=w.os) (e2:w'.tape=w.tape) (e3:w'.output=w.output) (ho:OR R' d' ob o'):Post R R' n (n+1) S [(m,none),(n,some ob)] w w':=by
 have hmn:m≠n:=fun e=>by rw [e,(fr.2 n (Nat.le_refl _) (by omega)).2] at hS;cases hS
 have hlk:∀k x,lk [(m,none),(n,some ob)] k=some x→(k=n∧x=some ob)∨(k=m∧x=none):=fun k x e=>by
  simp only [lk] at e
  by_cases h:k=n
  ·rw [if_pos h] at e;simp at e;exact .inl ⟨h,e.symm⟩
  ·rw [if_neg h] at e
   by_cases h2:k=m
   ·rw [if_pos h2] at e;simp at e;exact .inr ⟨h2,e.symm⟩
   ·rw [if_neg h2] at e;cases e
 subst hle
 refine ⟨by omega,fun k hk=>?_,fun k x e=>?_,fun k j b' d1 e' ⟨x,hx⟩ ⟨y,hy⟩ _ _=>?_,fun k hk=>?_,fun k b' d1 h1 h2 hx hr=>?_,e1,e2,e3,by rw [hw];simp,fun c hc hf=>?_⟩
 ·unfold Ren.add;rw [if_neg (by omega)]
 ·rcases hlk _ _ e with ⟨rfl,h⟩|⟨_,h⟩
  ·injection h with h
   subst h
   exact ⟨_,d',o',lX _ _ _,by rw [hw];simp,ho⟩
  ·cases h
 ·rcases hlk _ _ hx with ⟨rfl,_⟩|⟨_,h⟩
  ·rcases hlk _ _ hy with ⟨rfl,_⟩|⟨_,h⟩
   ·rfl
   ·cases h
  ·cases h
 ·obtain ⟨x,hx⟩:=Option.isSome_iff_exists.1 hk
  rcases hlk _ _ hx with ⟨rfl,_⟩|⟨rfl,_⟩
  ·exact .inl ⟨Nat.le_refl _,by omega⟩
  ·rw [hS];exact .inr rfl
 ·have:k=n:=by omega
  subst this
  rw [lX] at hr
  injection hr with hr
  injection hr with hr _
  exact .inl (by omega)
 ·rw [hw];simp [Array.getElem?_push,show¬c=w.heap.size by omega]
end
end
end Go.V
namespace Go.V
noncomputable section
def Hu:TypeDesc→Bool
 | .int _=>true
 |_=>false
section
variable {P:Program} {ev:Operand→Option Value} {H:Tr} {n:Nat} {dst:Option Tmp} {ty:TypeId} {pos:String} {after:Array Edge} {guard:Option (Nat×Bool)}
theorem Lc (N:Nat):∀(r c:Nat),c≤N+(N+768)/4→Builtin.growBy N r c≤N+(N+768)/4
  |0,c,h=>h
  | r + 1, c, h => by
    rw [Builtin.growBy]
    split
    · exact h
    · exact Lc N r _ (by omega)
theorem AP {N c:Nat} (h:c<N):Builtin.nextslicecap N c≤2*N+1000:=by
 unfold Builtin.nextslicecap
 split
 ·omega
 ·split
  ·omega
  ·have:=Lc N 4 c (by omega);omega
theorem Ld {need old:Nat} {e:TypeId} (t:Nat) (h:need<2^63):need≤(Question.appendCap need old e).cut t:=by
 simp only [Question.cut];omega
theorem pG {w:World} {e sT xT:TypeId} {s x:Value} {base:Option Addr} {sLen sCap k cnt:Nat} {i:TypeInfo} {z:Value} {dx:TypeDesc} {olds news:List Value} {tyr:TypeId} (hu:P.underlying sT=some (.slice e)) (hi:P.info? e=some i) (hk:i.size=k) (hz:i.zero=some z)
  (hx:P.underlying xT=some dx) (hdx:Hu dx=false) (hs:s= .slice base sLen sCap) (hlen:∀w',(Builtin.lenOf x).run P w'= .ok cnt w')
  (hnew:∀w',w'.heap=w.heap→(Builtin.firstCells k cnt x).run P w'= .ok news.toArray w') (hold:∀w',w'.heap=w.heap→(Builtin.firstCells k sLen s).run P w'= .ok olds.toArray w')
  (hn:¬sLen+cnt≤sCap) (hb:(2*(sLen+cnt)+1000)*i.bytes≤2^48) (Zc:sLen+cnt<2^62):
  ∃(newCap:Nat) (rest:List Value) (w1:World),(Builtin.append_ #[sT,xT] tyr #[s,x]).run P w= .ok (.slice (some ⟨w.heap.size,0,none⟩) (sLen+cnt) newCap) {w1 with heap:=w.heap.push (.cells (olds++news++rest).toArray e)}∧w1.os=w.os∧w1.tape=w.tape∧w1.output=w.output∧sLen+cnt≤newCap∧rest.length=(newCap-(sLen+cnt))*z.cells.size:=by
 subst hs
 have hcap:=Ld (need:=sLen+cnt) (old:=sCap) (e:=e) (w.tape w.drawn (.appendCap (sLen+cnt) sCap e)) (by omega)
 generalize hnc:(Question.appendCap (sLen+cnt) sCap e).cut (w.tape w.drawn (.appendCap (sLen+cnt) sCap e))=newCap at hcap
 refine ⟨newCap,(Builtin.zeroCells z.cells (newCap-(sLen+cnt))).toList,{w with drawn:=w.drawn+1},?_,rfl,rfl,rfl,hcap,by simp [Builtin.zeroCells]⟩
 have hch:(choose (.appendCap (sLen+cnt) sCap e)).run P w= .ok newCap {w with drawn:=w.drawn+1}:=by
  simp only [choose,Sem.run,Question.forced,Bool.false_eq_true,if_false,hnc]
 have hnext:=AP (N:=sLen+cnt) (c:=sCap) (by omega)
 have hbb:¬Builtin.nextslicecap (sLen+cnt) sCap*i.bytes>2^48:=by
  have:=Nat.mul_le_mul_right i.bytes hnext
  omega
 have hmax:¬((sLen+cnt:Nat):Int)>IntKind.i64.max:=by
  simp only [IntKind.max,IntKind.signed,IntKind.bits]
  omega
 have h1:=hnew {w with drawn:=w.drawn+1} rfl
 have h2:=hold {w with drawn:=w.drawn+1} rfl
 have hzv:∀w,(zeroValue e).run P w= .ok z w:=fun w=>qG hi hz w
 have hfin:olds.toArray++news.toArray++Builtin.zeroCells z.cells (newCap-(sLen+cnt))=(olds++news++(Builtin.zeroCells z.cells (newCap-(sLen+cnt))).toList).toArray:=by
  apply Array.ext'
  simp
 subst hk
 cases dx <;> first | (cases hdx; done) | (
  simp only [Builtin.append_,List.getElem?_toArray,List.getElem?_cons_zero,List.getElem?_cons_succ,Sem.run_bind,run_underlying hu,Result.andThen_ok,run_sizeOf hi,run_underlying hx,Sem.run_pure,Bool.false_eq_true,if_false,hlen,hn]
  rw [show (Sem.run P (typeInfo e) w)= .ok i w from run_typeInfo hi w]
  simp only [Result.andThen_ok]
  rw [if_neg (fun h=>hmax h.1)]
  simp only [Sem.run_bind,run_typeInfo hi,Result.andThen_ok,Sem.run_pure]
  rw [if_neg hbb]
  simp only [Sem.run_bind,hch,Result.andThen_ok,run_typeInfo hi,run_askRoom,h2,Bool.not_false,if_true,h1,hzv,lM,Sem.run_pure]
  rw [hfin])
theorem qI {w w':World} {e sT xT:TypeId} {x:Value} {b q sLen sCap k cnt:Nat} {i:TypeInfo} {dx:TypeDesc} {news:List Value} {tyr:TypeId} (hu:P.underlying sT=some (.slice e)) (hi:P.info? e=some i) (hk:i.size=k)
  (hx:P.underlying xT=some dx) (hdx:Hu dx=false) (hlen:∀w',(Builtin.lenOf x).run P w'= .ok cnt w') (hnew:(Builtin.firstCells k cnt x).run P w= .ok news.toArray w)
  (hn:sLen+cnt≤sCap) (hst:(storeCells ⟨b,q+sLen*k,none⟩ news 0).run P w= .ok () w'):
  (Builtin.append_ #[sT,xT] tyr #[.slice (some ⟨b,q,none⟩) sLen sCap,x]).run P w= .ok (.slice (some ⟨b,q,none⟩) (sLen+cnt) sCap) w':=by
 subst hk
 cases dx <;> first | (cases hdx; done) | (
  simp only [Builtin.append_,List.getElem?_toArray,List.getElem?_cons_zero,List.getElem?_cons_succ,Sem.run_bind,run_underlying hu,Result.andThen_ok,run_sizeOf hi,run_underlying hx,Sem.run_pure,Bool.false_eq_true,if_false,hlen,hn,if_true,Bool.not_false,hnew,nY]
  simp [hst])
theorem run_append_nil {w:World} {e sT xT:TypeId} {x:Value} {i:TypeInfo} {dx:TypeDesc} {news:List Value} {tyr:TypeId} (hu:P.underlying sT=some (.slice e)) (hi:P.info? e=some i)
  (hx:P.underlying xT=some dx) (hdx:Hu dx=false) (hlen:∀w',(Builtin.lenOf x).run P w'= .ok 0 w') (hnew:(Builtin.firstCells i.size 0 x).run P w= .ok news.toArray w):
  (Builtin.append_ #[sT,xT] tyr #[.slice none 0 0,x]).run P w= .ok (.slice none 0 0) w:=by
 cases dx <;> first | (cases hdx; done) | (
  simp only [Builtin.append_, List.getElem?_toArray, List.getElem?_cons_zero, List.getElem?_cons_succ, Sem.run_bind, run_underlying hu, Result.andThen_ok, run_sizeOf hi, run_underlying hx, Sem.run_pure, Bool.false_eq_true, if_false, hlen, if_true, Bool.not_false, hnew, Nat.le_refl])
def FQ (P : Program) (H : Tr) (n : Nat) (sT xT : TypeId) (s x : Value) : Option oZ :=
  match P.underlying sT,P.underlying xT with
  | some (.slice e), some dx =>
    match P.info? e with
    | some i =>
      match i.zero,uU H i.size x with
      | some z, some (news, cnt) =>
        if Hu dx=false∧i.size<65536∧z.cells.size=i.size∧news.length=cnt*i.size∧(2*cnt+1000)*i.bytes≤2^48∧cnt<2^62 then
          match s with
          | .slice none 0 0 =>
            if cnt=0 then some (some (.slice none 0 0),[],n)
            else some (some (.slice (some ⟨n,0,none⟩) cnt (pV cnt i.size)),[(n,some (.cells ⟨news⟩ e (0,0)))],n+1)
          | .slice (some ⟨m, o, none⟩) l c =>
            if l+cnt≤wu c then
              match SI H m (o+l*i.size) news with
              |some ob=>some (some (.slice (some ⟨m,o,none⟩) (l+cnt) c),[(m,some ob)],n)
              |none=>none
            else match uU H i.size s with
            | some (olds, l') =>
              if l'=l∧olds.length=l*i.size∧(2*(l+cnt)+1000)*i.bytes≤2^48∧l+cnt<2^62∧(∀v∈news,xu v=true) then
                if c%2=1 then some (some (.slice (some ⟨n,0,none⟩) (l+cnt) (pV (l+cnt) i.size)),[(n,some (.cells ⟨olds++news⟩ e (0,0)))],n+1)
                else if W9 c=i.size then some (some (.slice (some ⟨n,0,none⟩) (l+cnt) (pV (l+cnt) i.size)),[(m,none),(n,some (.cells ⟨olds++news⟩ e (0,0)))],n+1)
                else none
              else none
            |none=>none
          |_=>none
        else none
      |_,_=>none
    |none=>none
  |_,_=>none
theorem sO {R R':Ren} {olds news us vs rest:List Value} (h1:VRs R olds us) (h2:VRs R news vs) (hle:R.le R'):Au R' 0 ⟨olds++news⟩ (us++vs++rest).toArray:=by
 intro i v e
 obtain ⟨u,h3,h4⟩:=(h1.append h2).get i v (by simpa using e)
 refine ⟨u,?_,h4.mono hle⟩
 have hlt:=(List.getElem?_eq_some_iff.1 h3).1
 rw [Nat.zero_add]
 simp only [List.getElem?_toArray]
 rw [List.getElem?_append_left hlt];exact h3
theorem CV {a b c k:Nat} (h:a+b≤c):a*k+b*k+(c-(a+b))*k=c*k:=by
 rw [←Nat.add_mul,←Nat.add_mul];congr 1;omega
theorem Le {sT xT : TypeId} {a x : Operand} {vs vx : Value} {y : Option Value} {δ : Delta} {n' : Nat} (ha : ev a = some vs) (hx : ev x = some vx) (h : FQ P H n sT xT vs vx = some (y, δ, n')) :
    jB P ⟨dst, .call {callee:= .builtin .append,args:=#[a,x],argTypes:=#[sT,xT]},ty,pos,after,guard⟩ ev H n y δ n':=by
  have exec:∀(ρ:Operand→Value) (w:World),(execOp ρ ⟨dst, .call {callee:= .builtin .append,args:=#[a,x],argTypes:=#[sT,xT]},ty,pos,after,guard⟩).run P w=((Builtin.append_ #[sT,xT] ty #[ρ a,ρ x]).run P w).andThen fun v w'=> .ok (.value v) w':=fun ρ w=>by
    simp [execOp,resolve,invoke,builtin]
  unfold FQ at h
  split at h
  case h_2=>cases h
  next e dx hu hdx=>
  split at h
  case h_2=>cases h
  next i hi=>
  split at h
  case h_2=>cases h
  next z news cnt hz hf=>
  split at h
  case isFalse=>cases h
  next hc=>
  obtain ⟨hd,hk,hzs,hnl,hb0,hc0⟩:=hc
  split at h
  · -- a nil slice
    split at h
    · next h0=>
      simp only [Option.some.injEq,Prod.mk.injEq] at h
      obtain ⟨rfl,rfl,rfl⟩:=h
      subst h0
      refine jB.val fun R w ρ hh he=>⟨.slice none 0 0, .qF,?_⟩
      obtain ⟨hl,us,hus,hfc⟩:=nR hh (he x _ hx) hf
      have hs:ρ a= .slice none 0 0:=iL (he a _ ha) rfl
      rw [exec,hs,run_append_nil hu hi hdx hd hl (hfc w rfl)]
      rfl
    · next h0=>
      simp only [Option.some.injEq,Prod.mk.injEq] at h
      obtain ⟨rfl,rfl,rfl⟩:=h
      refine jB.new1 fun R w ρ hh he=>?_
      obtain ⟨hl,us,hus,hfc⟩:=nR hh (he x _ hx) hf
      have hs:ρ a= .slice none 0 0:=iL (he a _ ha) rfl
      obtain ⟨nc,rest,w1,hr,e1,e2,e3,hnc,hrl⟩:=pG (P:=P) (w:=w) (tyr:=ty) (s:=ρ a) (x:=ρ x) (olds:=[]) (news:=us) hu hi rfl hz hdx hd hs hl hfc (fun w' hw'=>by rw [hs];rfl) (by omega) (by simpa using hb0) (by simpa using hc0)
      have hul:us.length=cnt*i.size:=by rw [←hus.len];exact hnl
      refine ⟨_,_,w1,(0,nc*i.size),by rw [exec,hr];rfl,e1,e2,e3,fun R' hle hn=>⟨?_,?_⟩⟩
      · rw [Nat.zero_add]
        exact .slice (d:=(0,nc*i.size)) hn (nO hk (by omega) (by simp)) (fun _=>rfl)
      · refine .cells (sO .nil hus hle) ?_ (.inl rfl)
        simp only [List.size_toArray,List.length_append,List.length_nil,hul,hrl,hzs]
        have:=CV (a:=0) (b:=cnt) (c:=nc) (k:=i.size) (by omega)
        omega
  · next m o l c=>
    split at h
    · next hin=>
      split at h
      · next ob hob=>
        simp only [Option.some.injEq,Prod.mk.injEq] at h
        obtain ⟨rfl,rfl,rfl⟩:=h
        intro R w ρ hh fr he
        obtain ⟨b,d,q,cr,hr,hcap,hq,hs⟩:=lK (he a _ ha)
        have hle:=xZ hcap
        obtain ⟨hl,us,hus,hfc⟩:=nR hh (he x _ hx) hf
        by_cases hq0:l=0∧wu c=0
        · -- nothing is there, nothing comes
          obtain ⟨rfl,Z9⟩:=hq0
          have hcnt:cnt=0:=by omega
          subst hcnt
          have hnn:news=[]:=List.eq_nil_of_length_eq_zero (by simpa using hnl)
          subst hnn
          have hun:us=[]:=by cases hus;rfl
          subst hun
          have Zd:(storeCells ⟨b,q+0*i.size,none⟩ [] 0).run P w= .ok () w:=rfl
          obtain ⟨w',hst,hpost⟩:=nZ (n:=n) hh hr hob (R:=R) (us:=[]) .nil
          have hw':w'=w:=by
            have:(storeCells ⟨b,d.1+(o+0*i.size),none⟩ [] 0).run P w= .ok () w:=rfl
            rw [this] at hst
            injection hst with _ hst
            exact hst.symm
          subst hw'
          have:=qI (tyr:=ty) (sLen:=0) (sCap:=cr) (cnt:=0) (x:=ρ x) hu hi rfl hdx hd hl (hfc w' rfl) (by omega) Zd
          rw [exec,hs,this]
          exact ⟨R,fun y e=>by injection e with e;subst e;exact .slice hr hcap (fun h=>by omega),hpost⟩
        · have hq:=hq (by omega)
          subst hq
          obtain ⟨w',hst,hpost⟩:=nZ (n:=n) hh hr hob hus
          have hst':(storeCells ⟨b,d.1+o+l*i.size,none⟩ us 0).run P w= .ok () w':=by rw [Nat.add_assoc];exact hst
          have:=qI (tyr:=ty) (sLen:=l) (sCap:=cr) (x:=ρ x) hu hi rfl hdx hd hl (hfc w rfl) (by omega) hst'
          rw [exec,hs,this]
          exact ⟨R,fun y e=>by injection e with e;subst e;exact .slice hr hcap (fun _=>rfl),hpost⟩
      · cases h
    · next hin=>
      split at h
      case h_2=>cases h
      next olds l' hfo=>
      split at h
      case isFalse=>cases h
      next hc=>
      obtain ⟨rfl,Vd,hb,Yz,Ze⟩:=hc
      obtain ⟨cs,e',hm,_,holds,_⟩:=rJ hfo
      split at h
      · next hodd=>
        simp only [Option.some.injEq,Prod.mk.injEq] at h
        obtain ⟨rfl,rfl,rfl⟩:=h
        refine jB.new1 fun R w ρ hh he=>?_
        obtain ⟨b,d,q,cr,hr,hcap,hq,hs⟩:=lK (he a _ ha)
        have hcr:cr=c/2:=by unfold rF at hcap;rw [if_pos hodd] at hcap;exact hcap
        have hcl:wu c=c/2:=by unfold wu;rw [if_pos hodd]
        obtain ⟨hl,us,hus,hfc⟩:=nR hh (he x _ hx) hf
        obtain ⟨hl2,vs',hvs,Xw⟩:=nR hh (he a _ ha) hfo
        obtain ⟨nc,rest,w1,hrun,e1,e2,e3,hnc,hrl⟩:=pG (P:=P) (w:=w) (tyr:=ty) (s:=ρ a) (x:=ρ x) (olds:=vs') (news:=us) hu hi rfl hz hdx hd hs hl hfc Xw (by omega) hb Yz
        refine ⟨_,_,w1,(0,nc*i.size),by rw [exec,hrun];rfl,e1,e2,e3,fun R' hle hn=>⟨?_,?_⟩⟩
        · exact .slice (d:=(0,nc*i.size)) hn (nO hk (by omega) (by simp)) (fun _=>rfl)
        · refine .cells (sO hvs hus hle) ?_ (.inl rfl)
          have h1:=hvs.len
          have h2:=hus.len
          simp only [List.size_toArray,List.length_append,hrl,hzs,←h1,←h2,Vd,hnl]
          have:=CV (k:=i.size) hnc
          omega
      · next Xx=>
        split at h
        · next hck=>
          simp only [Option.some.injEq,Prod.mk.injEq] at h
          obtain ⟨rfl,rfl,rfl⟩:=h
          intro R w ρ hh fr he
          obtain ⟨b,d,q,cr,hr,hcap,hq,hs⟩:=lK (he a _ ha)
          obtain ⟨hl,us,hus,hfc⟩:=nR hh (he x _ hx) hf
          obtain ⟨hl2,vs',hvs,Xw⟩:=nR hh (he a _ ha) hfo
          have hcap2:=hcap
          unfold rF at hcap2
          rw [if_neg Xx,hck] at hcap2
          obtain ⟨b',d',o',g1,g2,g3⟩:=hh.obj m _ hm
          rw [hr] at g1
          injection g1 with g1
          injection g1 with g1 g4
          subst g1 g4
          have hfresh:=(fr.2 n (Nat.le_refl _) (by omega)).1
          by_cases hroom:l'+cnt≤cr
          · -- in place
            cases g3 with
            | @cells _ _ _ ds e2 fz hcs hsz hfz =>
              have hmul:(l'+cnt)*i.size≤cr*i.size:=Nat.mul_le_mul_right _ hroom
              rw [Nat.add_mul] at hmul
              have h1:=hvs.len
              have h2:=hus.len
              have Xy:∀u∈us,xu u=true:=fun u hu=>by
                obtain ⟨j,hj,e⟩:=List.mem_iff_getElem.1 hu
                obtain ⟨u',h5,h6⟩:=hus.get j (news[j]'(by rw [h2];exact hj)) (List.getElem?_eq_getElem _)
                rw [List.getElem?_eq_getElem hj] at h5
                injection h5 with h5
                rw [←e,h5]
                exact Hq h6 (Ze _ (List.getElem_mem _))
              have Zf:0<us.length→q+l'*i.size+0+us.length≤ds.size:=fun _=>by rw [←h2,hnl];omega
              have hst:=pF (P:=P) us 0 ds w g2 (q:=q+l'*i.size) Zf (fun j hj=>QI hfz _ (.inr (by rw [←h2,hnl] at hj;omega))) Xy
              have hrun:=qI (tyr:=ty) (sLen:=l') (sCap:=cr) (x:=ρ x) hu hi rfl hdx hd hl (hfc w rfl) hroom hst
              rw [exec,hs,hrun]
              refine ⟨R.add n (b,(q,d.2)),fun y e=>?_,?_⟩
              · injection e with e
                subst e
                exact .slice (d:=(q,d.2)) (lX _ _ _) (nO hk hroom hcap2.2) (fun _=>rfl)
              · refine Post.move (d':=(q,d.2)) hh fr hm hr rfl rfl (mP g2) rfl rfl rfl (.cells (fun j v hv=>?_) (by rw [tZ];exact hsz) (hfz.imp id fun hfz j hj=>?_))
                · have hv:(olds++news)[j]?=some v:=by simpa using hv
                  have hjl:=(List.getElem?_eq_some_iff.1 hv).1
                  rw [List.length_append,Vd,hnl] at hjl
                  rw [wB _ _ _ _ (by simp only [];omega)]
                  simp only []
                  by_cases hjo:j<l'*i.size
                  · rw [if_neg (by omega)]
                    have hq:=hq (.inl (fun e=>by rw [e] at hjo;omega))
                    rw [List.getElem?_append_left (by omega)] at hv
                    have hold:cs[o+j]?=some v:=by
                      rw [holds,List.getElem?_take,if_pos hjo,List.getElem?_drop] at hv
                      simpa using hv
                    obtain ⟨u,h5,h6⟩:=hcs _ _ hold
                    exact ⟨u,by rw [hq,Nat.add_assoc];exact h5,h6.mono (Ren.AA hfresh _)⟩
                  · rw [if_pos (by rw [←h2,hnl];omega)]
                    rw [List.getElem?_append_right (by omega),Vd] at hv
                    obtain ⟨u,h5,h6⟩:=hus.get _ v hv
                    exact ⟨u,by rw [show q+j-(q+l'*i.size+0)=j-l'*i.size by omega];exact h5,h6.mono (Ren.AA hfresh _)⟩
                · refine hfz j ?_
                  rcases hj with hj|hj
                  · simp only [List.size_toArray,List.length_append,Vd,hnl] at hj
                    exact .inr (by omega)
                  · exact .inr hj
          · obtain ⟨nc,rest,w1,hrun,e1,e2,e3,hnc,hrl⟩:=pG (P:=P) (w:=w) (tyr:=ty) (s:=ρ a) (x:=ρ x) (olds:=vs') (news:=us) hu hi rfl hz hdx hd hs hl hfc Xw hroom hb Yz
            rw [exec,hrun]
            refine ⟨R.add n (w.heap.size,(0,nc*i.size)),fun y e=>?_,?_⟩
            · injection e with e
              subst e
              exact .slice (d:=(0,nc*i.size)) (lX _ _ _) (nO hk (by omega) (by simp)) (fun _=>rfl)
            · refine Post.fresh (d':=(0,nc*i.size)) hh fr hm rfl rfl e1 e2 e3 (.cells (sO hvs hus (Ren.AA hfresh _)) ?_ (.inl rfl))
              have h1:=hvs.len
              have h2:=hus.len
              simp only [List.size_toArray,List.length_append,hrl,hzs,←h1,←h2,Vd,hnl]
              have:=CV (k:=i.size) hnc
              omega
        · cases h
  · cases h
end
end
end Go.V
namespace Go.V
noncomputable section
section
variable {P:Program} {ev:Operand→Option Value} {H:Tr} {n:Nat} {dst:Option Tmp} {ty:TypeId} {pos:String} {after:Array Edge} {guard:Option (Nat×Bool)}
def CW (P : Program) (n : Nat) (sT xT : TypeId) : Value → Value → Option oZ
  | .slice none 0 0, .int _ (.ofNat l) => match P.underlying sT, P.underlying xT with
    | some (.slice e), some (.int _) => match P.info? e with
      | some i => match i.zero with
        | some z => if l ≠ 0 ∧ l < 2 ^ 20 ∧ i.size ≠ 0 ∧ i.size < 65536 ∧ z.cells.size = i.size ∧ (2 * l + 1000) * i.bytes ≤ 2 ^ 48 ∧ kP (Builtin.zeroCells z.cells l).toList = true then
            some (some (.slice (some ⟨n,0,none⟩) l (pV l i.size)),[(n,some (.cells ⟨(Builtin.zeroCells z.cells l).toList⟩ e (0,0)))],n+1)
          else none
        |none=>none
      |none=>none
    |_,_=>none
  |_,_=>none
theorem wrap_small (l:Nat) (h:l<2^20):IntKind.wrap .i64 (Int.ofNat l)=Int.ofNat l:=by
 have h1:((Int.ofNat l)%(2^64:Int))=Int.ofNat l:=Int.emod_eq_of_lt (Int.natCast_nonneg l) (by have:(Int.ofNat l)=(l:Int):=rfl;rw [this];omega)
 have h2:¬((Int.ofNat l)≥(2^63:Int)):=by
  have:(Int.ofNat l)=(l:Int):=rfl
  rw [this]
  omega
 unfold IntKind.wrap
 change (if (true&&decide ((Int.ofNat l%(2^64:Int))≥(2^63:Int)))=true then (Int.ofNat l%(2^64:Int))-2^64 else (Int.ofNat l%(2^64:Int)))=_
 rw [h1,if_neg (by simpa using h2)]
theorem yR {w:World} {e sT xT:TypeId} {ik ik2:IntKind} {l:Nat} {i:TypeInfo} {z:Value} {tyr:TypeId} (hu:P.underlying sT=some (.slice e)) (hi:P.info? e=some i) (hz:i.zero=some z)
  (hx:P.underlying xT=some (.int ik)) (hl0:l≠0) (hl:l<2^20) (hs0:i.size≠0) (hb:(2*l+1000)*i.bytes≤2^48):
  ∃(newCap:Nat) (w1:World),(Builtin.append_ #[sT,xT] tyr #[.slice none 0 0, .int ik2 (.ofNat l)]).run P w= .ok (.slice (some ⟨w.heap.size,0,none⟩) l newCap) {w1 with heap:=w.heap.push (.cells ((Builtin.zeroCells z.cells l).toList++(Builtin.zeroCells z.cells (newCap-l)).toList).toArray e)}∧w1.os=w.os∧w1.tape=w.tape∧w1.output=w.output∧l≤newCap:=by
 have hcap:=Ld (need:=0+l) (old:=0) (e:=e) (w.tape w.drawn (.appendCap (0+l) 0 e)) (by omega)
 generalize hnc:(Question.appendCap (0+l) 0 e).cut (w.tape w.drawn (.appendCap (0+l) 0 e))=newCap at hcap
 refine ⟨newCap,{w with drawn:=w.drawn+1},?_,rfl,rfl,rfl,by omega⟩
 have hch:(choose (.appendCap (0+l) 0 e)).run P w= .ok newCap {w with drawn:=w.drawn+1}:=by
  simp only [choose,Sem.run,Question.forced,Bool.false_eq_true,if_false,hnc]
 have hnext:=AP (N:=0+l) (c:=0) (by omega)
 have hbb:¬Builtin.nextslicecap (0+l) 0*i.bytes>2^48:=by
  have:=Nat.mul_le_mul_right i.bytes hnext
  have h2:(2*(0+l)+1000)*i.bytes=(2*l+1000)*i.bytes:=by rw [Nat.zero_add]
  omega
 have hmax:¬((0+l:Nat):Int)>IntKind.i64.max:=by
  simp only [IntKind.max,IntKind.signed,IntKind.bits]
  omega
 have hneg:¬(Int.ofNat l<0):=by have:(Int.ofNat l)=(l:Int):=rfl;rw [this];omega
 have hbig:¬(Int.ofNat l*i.bytes>(2^48:Int)):=by
  have h3:l*i.bytes≤(2*l+1000)*i.bytes:=Nat.mul_le_mul_right _ (by omega)
  have h4:l*i.bytes≤2^48:=by omega
  have h5:(Int.ofNat l*(i.bytes:Int))=((l*i.bytes:Nat):Int):=by simp
  rw [h5]
  omega
 have hzv:∀w,(zeroValue e).run P w= .ok z w:=fun w=>qG hi hz w
 have hnz:¬(l*i.size=0):=fun h=>by rcases Nat.mul_eq_zero.1 h with h|h<;>contradiction
 have hfin:#[]++Builtin.zeroCells z.cells l++Builtin.zeroCells z.cells (newCap-(0+l))=((Builtin.zeroCells z.cells l).toList++(Builtin.zeroCells z.cells (newCap-l)).toList).toArray:=by
  apply Array.ext'
  simp
 have hn:¬0+l≤0:=by omega
 have hint:(asInt (.int ik2 (.ofNat l))).run P w= .ok (.ofNat l) w:=rfl
 have htn:(Int.ofNat l).toNat=l:=rfl
 have hold:∀w',(Builtin.firstCells i.size 0 (.slice none 0 0)).run P w'= .ok #[] w':=fun w'=>rfl
 simp only [Builtin.append_,List.getElem?_toArray,List.getElem?_cons_zero,List.getElem?_cons_succ,Sem.run_bind,run_underlying hu,Result.andThen_ok,run_sizeOf hi,run_underlying hx,Sem.run_pure,if_true,hint,wrap_small l hl]
 rw [if_neg hneg]
 simp only [Sem.run_bind,run_typeInfo hi,Result.andThen_ok]
 rw [if_neg hbig]
 simp only [Sem.run_bind,Sem.run_pure,Result.andThen_ok,htn]
 rw [if_neg hn]
 simp only [Sem.run_bind,run_typeInfo hi,Result.andThen_ok]
 rw [if_neg (fun h=>hmax h.1)]
 simp only [Sem.run_bind,run_typeInfo hi,Result.andThen_ok,Sem.run_pure]
 rw [if_neg hbb]
 simp only [Sem.run_bind,hch,Result.andThen_ok,run_typeInfo hi,run_askRoom,hold,Bool.not_true,Bool.false_eq_true,if_false]
 rw [if_neg hnz]
 simp only [Sem.run_bind,hzv,Result.andThen_ok,Sem.run_pure,lM]
 rw [hfin,Nat.zero_add]
theorem Ja {sT xT:TypeId} {a x:Operand} {vs vx:Value} {y:Option Value} {δ:Delta} {n':Nat} (ha:ev a=some vs) (hx:ev x=some vx) (h:CW P n sT xT vs vx=some (y,δ,n')):
  jB P ⟨dst, .call {callee:= .builtin .append,args:=#[a,x],argTypes:=#[sT,xT]},ty,pos,after,guard⟩ ev H n y δ n':=by
 have exec:∀(ρ:Operand→Value) (w:World),(execOp ρ ⟨dst, .call {callee:= .builtin .append,args:=#[a,x],argTypes:=#[sT,xT]},ty,pos,after,guard⟩).run P w=((Builtin.append_ #[sT,xT] ty #[ρ a,ρ x]).run P w).andThen fun v w'=> .ok (.value v) w':=fun ρ w=>by
  simp [execOp,resolve,invoke,builtin]
 unfold CW at h
 split at h
 case h_2=>cases h
 next ik l=>
 split at h
 case h_2=>cases h
 next e ik2 hu hdx=>
 split at h
 case h_2=>cases h
 next i hi=>
 split at h
 case h_2=>cases h
 next z hz=>
 split at h
 case isFalse=>cases h
 next hc=>
 obtain ⟨hl0,hl,hs0,hk,hzs,hb,hp⟩:=hc
 simp only [Option.some.injEq,Prod.mk.injEq] at h
 obtain ⟨rfl,rfl,rfl⟩:=h
 refine jB.new1 fun R w ρ hh he=>?_
 have hs:ρ a= .slice none 0 0:=iL (he a _ ha) rfl
 have hxx:ρ x= .int ik (.ofNat l):=iL (he x _ hx) rfl
 obtain ⟨nc,w1,hr,e1,e2,e3,hnc⟩:=yR (P:=P) (w:=w) (tyr:=ty) (ik2:=ik) hu hi hz hdx hl0 hl hs0 hb
 refine ⟨_,_,w1,(0,nc*i.size),by rw [exec,hs,hxx,hr];rfl,e1,e2,e3,fun R' hle hn=>⟨?_,?_⟩⟩
 ·exact .slice (d:=(0,nc*i.size)) hn (nO hk (by omega) (by simp)) (fun _=>rfl)
 ·have hzl:(Builtin.zeroCells z.cells l).toList.length=l*i.size:=by simp [Builtin.zeroCells,hzs]
  have hzr:(Builtin.zeroCells z.cells (nc-l)).toList.length=(nc-l)*i.size:=by simp [Builtin.zeroCells,hzs]
  have:=sO (R:=R') (R':=R') (olds:=[]) (rest:=(Builtin.zeroCells z.cells (nc-l)).toList) .nil (jv (R:=R') _ hp) (Ren.le_refl _)
  refine .cells this ?_ (.inl rfl)
  simp only [List.size_toArray,List.length_append,hzl,hzr]
  have:=CV (a:=0) (b:=l) (c:=nc) (k:=i.size) (by omega)
  simp only [Nat.zero_mul,Nat.zero_add] at this
  omega
end
end
end Go.V
namespace Go.V
noncomputable section
section
variable {P:Program} {ev:Operand→Option Value} {H:Tr} {n:Nat} {dst:Option Tmp} {ty:TypeId} {pos:String} {after:Array Edge} {guard:Option (Nat×Bool)}
theorem PI {α:Type} (xs:Array α) (a b:α):(xs.push a).setIfInBounds xs.size b=xs.push b:=by
 apply Array.ext_getElem?
 intro i
 by_cases e:xs.size=i
 ·subst e;simp
 ·rw [Array.getElem?_setIfInBounds_ne e,Array.getElem?_push,Array.getElem?_push,if_neg (fun h=>e h.symm),if_neg (fun h=>e h.symm)]
def QM:Value→Option Nat
 | .slice none 0 0=>some 0
 | .slice (some ⟨_,_,none⟩) l _=>some l
 | .string s=>some s.size
 |_=>none
def Lh (H:Tr) (k c:Nat):Value→Option (List Value)
 | .slice none 0 0=>some []
 | .slice (some ⟨m,o,none⟩) l q=>(uU H k (.slice (some ⟨m,o,none⟩) c q)).map (·.1)
 | .string s=>some ((s.extract 0 c).data.toList.map fun b=> .int .u8 b.toNat)
 |_=>none
theorem CX {R:Ren} {w:World} {k c l:Nat} {x u:Value} {vs:List Value} (hh:HR P R H.get w) (hx:VR R x u) (hl:QM x=some l) (hc:c≤l) (h:Lh H k c x=some vs):
  (∀w',(Builtin.lenOf u).run P w'= .ok l w')∧∃us:List Value,VRs R vs us∧(Builtin.firstCells k c u).run P w= .ok us.toArray w:=by
 unfold Lh at h
 split at h
 ·injection h with h
  subst h
  cases hx
  injection hl with hl
  subst hl
  exact ⟨fun _=>rfl,[], .nil,rfl⟩
 ·next m o l' q=>
  obtain ⟨p,hp,rfl⟩:=Option.map_eq_some_iff.1 h
  obtain ⟨v,c'⟩:=p
  injection hl with hl
  subst hl
  obtain ⟨cs,e,hm,rfl,hv,hvl⟩:=rJ hp
  obtain ⟨b,d,qq,cr,hr,_,hq,rfl⟩:=lK hx
  refine ⟨fun _=>rfl,?_⟩
  by_cases h0:c'=0
  ·subst h0
   have:v=[]:=List.eq_nil_of_length_eq_zero (by simpa using hvl)
   subst this
   exact ⟨[], .nil,by simp [Builtin.firstCells,loadCells,loadCellsFrom]⟩
  ·have hq:=hq (.inl (by omega))
   subst hq
   have hvl:v.length=c'*k:=hvl
   rw [hv] at hvl
   obtain ⟨us,h3,h4⟩:=rH hh hm hr hvl
   rw [←hv] at h3
   exact ⟨us,h3,by simpa [Builtin.firstCells] using h4 w rfl⟩
 ·next s=>
  injection h with h
  subst h
  cases hx
  injection hl with hl
  subst hl
  refine ⟨fun _=>rfl,_,jv _ (qH _),?_⟩
  have:(s.extract 0 c).data.map (fun b=>Value.int .u8 (b.toNat:Int))=((s.extract 0 c).data.toList.map fun b=>Value.int .u8 (b.toNat:Int)).toArray:=by
   apply Array.ext'
   simp
  simp only [Builtin.firstCells,Sem.run_pure]
  rw [this]
 ·cases h
def SL (P : Program) (H : Tr) (n : Nat) (dT : TypeId) (a x : Value) : Option oZ :=
  match P.underlying dT,QM x with
  | some (.slice e), some l =>
    match sizeT P e,a with
    | some k, .slice none 0 0 => match Lh H k 0 x with
      |some _=>some (some (.int .i64 0),[],n)
      |none=>none
    | some k, .slice (some ⟨m, o, none⟩) dl _ =>
      match Lh H k (Nat.min l dl) x with
      | some vs => if dl = 0 then some (some (.int .i64 0), [], n) else match SI H m o vs with
        |some ob=>some (some (.int .i64 (Nat.min l dl)),[(m,some ob)],n)
        |none=>none
      |none=>none
    |_,_=>none
  |_,_=>none
theorem SN {dT xT : TypeId} {a x : Operand} {va vx : Value} {y : Option Value} {δ : Delta} {n' : Nat} (ha : ev a = some va) (hx : ev x = some vx) (h : SL P H n dT va vx = some (y, δ, n')) :
    jB P ⟨dst, .call {callee:= .builtin .copy,args:=#[a,x],argTypes:=#[dT,xT]},ty,pos,after,guard⟩ ev H n y δ n':=by
  have exec:∀(ρ:Operand→Value) (w:World),(execOp ρ ⟨dst, .call {callee:= .builtin .copy,args:=#[a,x],argTypes:=#[dT,xT]},ty,pos,after,guard⟩).run P w=((Builtin.copy_ #[dT,xT] ty #[ρ a,ρ x]).run P w).andThen fun v w'=> .ok (.value v) w':=fun ρ w=>by
    simp [execOp,resolve,invoke,builtin]
  unfold SL at h
  split at h
  case h_2=>cases h
  next e l hu hl=>
  split at h
  · next k hk=>
    split at h
    case h_2=>cases h
    next vs hv=>
    simp only [Option.some.injEq,Prod.mk.injEq] at h
    obtain ⟨rfl,rfl,rfl⟩:=h
    refine jB.val fun R w ρ hh he=>⟨.int .i64 0, .int _ _,?_⟩
    obtain ⟨h1,us,h2,h3⟩:=CX hh (he x _ hx) hl (Nat.zero_le _) hv
    have hs:ρ a= .slice none 0 0:=iL (he a _ ha) rfl
    rw [exec,hs]
    simp only [Builtin.copy_,List.getElem?_toArray,List.getElem?_cons_zero,List.getElem?_cons_succ,Sem.run_bind,run_underlying hu,Result.andThen_ok,h1,jA hk,show Nat.min l 0=0 from Nat.min_zero l,h3,Sem.run_pure]
    rfl
  · next k m o dl c hk=>
    split at h
    case h_2=>cases h
    next vs hv=>
    split at h
    · next h0=>
      subst h0
      simp only [Option.some.injEq,Prod.mk.injEq] at h
      obtain ⟨rfl,rfl,rfl⟩:=h
      rw [show Nat.min l 0=0 from Nat.min_zero l] at hv
      refine jB.val fun R w ρ hh he=>⟨.int .i64 0, .int _ _,?_⟩
      obtain ⟨h1,us,h2,h3⟩:=CX hh (he x _ hx) hl (Nat.zero_le _) hv
      obtain ⟨b,d,q,cr,hr,hcap,hq,hs⟩:=lK (he a _ ha)
      have hvs:vs=[]:=by
        unfold Lh at hv
        split at hv
        · injection hv with hv;exact hv.symm
        · obtain ⟨p,hp,rfl⟩:=Option.map_eq_some_iff.1 hv
          obtain ⟨v,c'⟩:=p
          obtain ⟨_,_,_,_,_,hvl⟩:=rJ hp
          exact List.eq_nil_of_length_eq_zero (by simpa using hvl)
        · injection hv with hv
          rw [←hv]
          simp
        · cases hv
      subst hvs
      have hus:us=[]:=by cases h2;rfl
      subst hus
      rw [exec,hs]
      simp only [Builtin.copy_,List.getElem?_toArray,List.getElem?_cons_zero,List.getElem?_cons_succ,Sem.run_bind,run_underlying hu,Result.andThen_ok,h1,jA hk,show Nat.min l 0=0 from Nat.min_zero l,h3,Sem.run_pure]
      rfl
    · next h0=>
      split at h
      case h_2=>cases h
      next ob hob=>
      simp only [Option.some.injEq,Prod.mk.injEq] at h
      obtain ⟨rfl,rfl,rfl⟩:=h
      intro R w ρ hh fr he
      obtain ⟨h1,us,h2,h3⟩:=CX hh (he x _ hx) hl (Nat.min_le_left _ _) hv
      obtain ⟨b,d,q,cr,hr,hcap,hq,hs⟩:=lK (he a _ ha)
      have hq:=hq (.inl h0)
      subst hq
      obtain ⟨w',hst,hpost⟩:=nZ (n:=n) hh hr hob h2
      rw [exec,hs]
      simp only [Builtin.copy_,List.getElem?_toArray,List.getElem?_cons_zero,List.getElem?_cons_succ,Sem.run_bind,run_underlying hu,Result.andThen_ok,h1,jA hk,h3,Sem.run_pure,hst]
      exact ⟨R,fun y e=>by injection e with e;subst e;exact .int _ _,hpost⟩
  · cases h
theorem Ve {src t e : TypeId} {x : Operand} {s : ByteArray} {k : IntKind} (hx : ev x = some (.string s)) (hsrc : P.underlying src = some .string) (hu : P.underlying t = some (.slice e)) (he8 : P.underlying e = some (.int .u8)) (hn : s.size < 2 ^ 62) :
    jB P ⟨dst, .convert src t x,ty,pos,after,guard⟩ ev H n (some (.slice (some ⟨n,0,none⟩) s.size (pV s.size 1))) [(n,some (.cells ⟨s.data.toList.map fun b=> .int .u8 b.toNat⟩ e (0,0)))] (n+1):=
  jB.new1 fun R w ρ hh he=>by
    have hs:ρ x= .string s:=iL (he x _ hx) rfl
    have hcap:=Ld (need:=s.size) (old:=0) (e:=e) (w.tape w.drawn (.appendCap s.size 0 e)) (by omega)
    generalize hnc:(Question.appendCap s.size 0 e).cut (w.tape w.drawn (.appendCap s.size 0 e))=c at hcap
    have hch:(choose (.appendCap s.size 0 e)).run P w= .ok c {w with drawn:=w.drawn+1}:=by
      simp only [choose,Sem.run,Question.forced,Bool.false_eq_true,if_false,hnc]
    generalize hcells:s.data.map (fun b=>Value.int .u8 (b.toNat:Int))++Array.replicate (c-s.size) (.int .u8 0)=cells
    have hcsz:cells.size=c:=by
      rw [←hcells]
      have:s.data.size=s.size:=rfl
      simp [this];omega
    refine ⟨.slice (some ⟨w.heap.size,0,none⟩) s.size c, .cells cells e (cells.size,cells.size+1),{w with drawn:=w.drawn+1},(0,c),?_,rfl,rfl,rfl,fun R' hle hR=>⟨.slice (d:=(0,c)) hR (nO (by omega) hcap (by omega)) (fun _=>rfl), .cells (fun i v hv=>?_) (by rw [hcsz];exact Nat.le_refl _) (.inr fun j hj=>?_)⟩⟩
    · have hms:(markStringish ⟨w.heap.size,0,none⟩).run P {w with drawn:=w.drawn+1,heap:=w.heap.push (.cells cells e)}= .ok () {w with drawn:=w.drawn+1,heap:=w.heap.push (.cells cells e (cells.size,cells.size+1))}:=by
        have hsh:(shape w.heap.size).run P {w with drawn:=w.drawn+1,heap:=w.heap.push (.cells cells e)}= .ok (some (e,cells.size)) {w with drawn:=w.drawn+1,heap:=w.heap.push (.cells cells e)}:=by
          simp [shape,Sem.run,World.shape?]
        simp only [markStringish,Sem.run_bind,hsh,Result.andThen_ok]
        simp only [freeze,Sem.run,World.freeze]
        rw [if_neg (by omega),modify_eq _ _ _ (.cells cells e) (by simp)]
        simp only [beq_self_eq_true,if_true]
        rw [PI]
      simp only [execOp,convert,Sem.run_bind,run_underlying hsrc,run_underlying hu,Result.andThen_ok,hs,run_underlying he8,Conv.stringToBytes,hch,hcells,lM,hms,Sem.run_pure]
    · refine ⟨v,?_,?_⟩
      · rw [←hcells]
        have hv:(s.data.map (fun b=>Value.int .u8 (b.toNat:Int)))[i]?=some v:=by simpa using hv
        have hlt:=(Array.getElem?_eq_some_iff.1 hv).1
        rw [Nat.zero_add,Array.getElem?_append_left hlt];exact hv
      · have hv:(s.data.toList.map fun b=>Value.int .u8 (b.toNat:Int))[i]?=some v:=by simpa using hv
        obtain ⟨u,h1,h2⟩:=(jv (R:=R') _ (qH s.data.toList)).get i v hv
        rw [hv] at h1
        injection h1 with h1
        rw [←h1] at h2
        exact h2
    · have hsz:s.size≤c:=hcap
      have hl:(s.data.toList.map fun b=>Value.int .u8 (b.toNat:Int)).length=s.size:=by
        have:s.data.size=s.size:=rfl
        simp [this]
      simp only [List.size_toArray,hl] at hj
      rw [hcsz]
      simp only
      omega
theorem Vf {t e e' : TypeId} {x : Operand} {m o l c : Nat} {cs : Array Value} (hx : ev x = some (.slice (some ⟨m, o, none⟩) l c)) (hu : P.underlying t = some (.slice e)) (he8 : P.underlying e = some (.int .u8)) (hm : H.get m = some (.cells cs e' (0, 0))) (h0 : cs.size ≠ 0) :
    jB P ⟨dst, .convert t t x,ty,pos,after,guard⟩ ev H n (some (.slice (some ⟨m,o,none⟩) l c)) [(m,some (.cells cs e' (0,0)))] n:=by
  intro R w ρ hh fr he
  obtain ⟨b,d,q,cr,hr,hcap,hq,hs⟩:=lK (he x _ hx)
  obtain ⟨b',d',o',h1,h2,h3⟩:=hh.obj m _ hm
  rw [hr] at h1
  injection h1 with h1
  injection h1 with h1 h4
  subst h1 h4
  cases h3 with
  | @cells _ _ _ cs' e2 fz hc hroom hf =>
    obtain ⟨lo,hi⟩:=fz
    have hcs:d.1+cs.size≤cs'.size:=by
      obtain ⟨u,h5,_⟩:=hc (cs.size-1) (cs[cs.size-1]'(by omega)) (Array.getElem?_eq_getElem _)
      have:=(Array.getElem?_eq_some_iff.1 h5).1
      omega
    have hsh:(shape b).run P w= .ok (some (e2,cs'.size)) w:=by
      simp [shape,Sem.run,World.shape?,h2]
    have hms:(markStringish ⟨b,q,none⟩).run P w= .ok () {w with heap:=w.heap.setIfInBounds b (.cells cs' e2 (if lo==hi then (cs'.size,cs'.size+1) else (min lo cs'.size,max hi (cs'.size+1))))}:=by
      simp only [markStringish,Sem.run_bind,hsh,Result.andThen_ok]
      simp only [freeze,Sem.run,World.freeze]
      rw [if_neg (by omega),modify_eq _ _ _ _ h2]
    have hrun:(execOp ρ ⟨dst, .convert t t x,ty,pos,after,guard⟩).run P w= .ok (.value (ρ x)) {w with heap:=w.heap.setIfInBounds b (.cells cs' e2 (if lo==hi then (cs'.size,cs'.size+1) else (min lo cs'.size,max hi (cs'.size+1))))}:=by
      simp only [execOp,convert,Sem.run_bind,run_underlying hu,Result.andThen_ok,hs,run_underlying he8,beq_self_eq_true,hms,Sem.run_pure]
    rw [hrun]
    refine ⟨R,fun y hy=>by injection hy with hy;subst hy;exact he x _ hx,Post.set1 hh hm hr (mP h2) (.cells hc hroom (.inr fun j hj=>?_))⟩
    have hj':j<cs'.size:=by omega
    by_cases hlh:lo=hi
    · rw [if_pos (by simpa using hlh)]
      exact hj'
    · rw [if_neg (by simpa using hlh)]
      rcases hf with h|h
      · exact absurd h hlh
      · have:=h j hj
        simp only at this⊢
        omega
def Lj:Value→Option (List Int)→Option (List Int)
 | .int .u8 x,some ns=>some (x::ns)
 |_,_=>none
def PK:List Value→Option (List Int)
 |[]=>some []
 |v::r=>Lj v (PK r)
theorem Ll {v:Value} {q:Option (List Int)} {ns:List Int} (h:Lj v q=some ns):∃x ms,v= .int .u8 x∧q=some ms∧ns=x::ms:=by
 unfold Lj at h
 split at h
 ·injection h with h;exact ⟨_,_,rfl,rfl,h.symm⟩
 ·cases h
theorem Ed:∀{vs:List Value} {ns:List Int},PK vs=some ns→vs=ns.map (Value.int .u8)
  |[],ns,h=>by injection h with h;rw [←h];rfl
  | v :: r, ns, h => by
    obtain ⟨x,ms,rfl,hr,rfl⟩:=Ll h
    rw [List.map_cons,Ed hr]
theorem AQ:∀(ns:List Int),kP (ns.map (Value.int .u8))=true
 |[]=>rfl
 |b::l=>by rw [List.map_cons,kP,AQ l];rfl
def Xz (ns:List Int):ByteArray:=ns.foldl (fun r n=>r.push (UInt8.ofNat n.toNat)) ByteArray.empty
theorem Vg {src t e:TypeId} {x:Operand} {m o l c:Nat} {vs:List Value} {ns:List Int} (hx:ev x=some (.slice (some ⟨m,o,none⟩) l c)) (hsrc:P.underlying src=some (.slice e)) (he8:P.underlying e=some (.int .u8)) (hd:P.underlying t=some .string)
  (hv:uU H 1 (.slice (some ⟨m,o,none⟩) l c)=some (vs,l)) (hn:PK vs=some ns):jB P ⟨dst, .convert src t x,ty,pos,after,guard⟩ ev H n (some (.string (Xz ns))) [] n:=
 jB.val fun R w ρ hh he=>by
  refine ⟨.string (Xz ns), .string _,?_⟩
  obtain ⟨_,us,h2,h3⟩:=nR hh (he x _ hx) hv
  obtain ⟨b,d,q,cr,hr,hcap,hq,hs⟩:=lK (he x _ hx)
  have hvm:=Ed hn
  rw [hvm] at h2
  have hus:=pW h2 (AQ ns)
  subst hus
  have h4:=h3 w rfl
  rw [hs] at h4
  simp only [Builtin.firstCells,Nat.mul_one] at h4
  have h5:=run_bytesToString w _ l cr ns h4
  simp only [execOp,Sem.run_bind,hs,run_convert_bytes_string w src t e _ l cr hsrc he8 hd,h5,Result.andThen_ok,Sem.run_pure]
  rfl
theorem Lm {src t e:TypeId} {x:Operand} (hx:ev x=some (.slice none 0 0)) (hsrc:P.underlying src=some (.slice e)) (he8:P.underlying e=some (.int .u8)) (hd:P.underlying t=some .string):jB P ⟨dst, .convert src t x,ty,pos,after,guard⟩ ev H n (some (.string .empty)) [] n:=
 jB.val fun R w ρ hh he=>by
  refine ⟨.string .empty, .string _,?_⟩
  have hs:ρ x= .slice none 0 0:=iL (he x _ hx) rfl
  simp only [execOp,Sem.run_bind,hs,run_convert_bytes_string w src t e _ 0 0 hsrc he8 hd]
  simp [Conv.bytesToString]
end
end
end Go.V
namespace Go.V
noncomputable section
section
variable {P:Program}
theorem wE {α β:Type}:∀(x:Sem α) (f:α→Sem β),prun P (x.bind f)=(prun P x).bind fun a=>prun P (f a)
 | .pure a,f=>rfl
 | .program k,f=>wE (k P) f
 | .mark _ k,f=>wE k f
 | .load ..,f=>rfl
 | .store ..,f=>rfl
 | .new ..,f=>rfl
 | .shape ..,f=>rfl
 | .freeze ..,f=>rfl
 | .frozen ..,f=>rfl
 | .getObj ..,f=>rfl
 | .setObj ..,f=>rfl
 | .choose ..,f=>rfl
 | .sys ..,f=>rfl
 | .halt ..,f=>rfl
theorem prun_bind {α β:Type} (x:Sem α) (f:α→Sem β):prun P (x>>=f)=(prun P x).bind fun a=>prun P (f a):=wE x f
theorem prun_pure {α:Type} (a:α):prun P (pure a:Sem α)=some a:=rfl
theorem EsR.len {R:Ren}:∀{a b:List MapEntry},EsR R a b→a.length=b.length
 |_,_, .nil=>rfl
 |_,_, .cons _ _ h=>by rw [List.length_cons,List.length_cons,EsR.len h]
theorem zS.len {R:Ren} {a b:List MapEntry} (h:zS R a b):a.length=b.length:=by
 obtain ⟨c,p,e⟩:=h
 rw [e.len,p.length_eq]
theorem EsR.Ee {R:Ren}:∀{a b:List MapEntry},EsR R a b→∀e∈b,∃e'∈a,e'.key=e.key
  |_,_, .nil,e,h=>by cases h
  | _, _, .cons _ _ h, e, he => by
    rcases List.mem_cons.1 he with rfl|he
    · exact ⟨_,List.mem_cons_self,rfl⟩
    · obtain ⟨e',h1,h2⟩:=EsR.Ee h e he
      exact ⟨e',List.mem_cons_of_mem _ h1,h2⟩
theorem zS.Ee {R:Ren} {a b:List MapEntry} (h:zS R a b):∀e∈b,∃e'∈a,e'.key=e.key:=by
 obtain ⟨c,p,h⟩:=h
 exact fun e he=>h.Ee e (p.mem_iff.2 he)
theorem EsR.filter {R:Ren} (p:Value→Bool):∀{a b:List MapEntry},EsR R a b→EsR R (a.filter fun e=>p e.key) (b.filter fun e=>p e.key)
  |_,_, .nil=> .nil
  | _, _, .cons (k := k) hp hv h => by
    rw [List.filter_cons,List.filter_cons]
    simp only
    split
    · exact .cons hp hv (h.filter p)
    · exact h.filter p
theorem zS.filter {R:Ren} (p:Value→Bool) {a b:List MapEntry} (h:zS R a b):zS R (a.filter fun e=>p e.key) (b.filter fun e=>p e.key):=by
 obtain ⟨c,q,h⟩:=h
 exact ⟨_,q.filter _,h.filter p⟩
theorem zS.nil_eq {R:Ren} {b:List MapEntry} (h:zS R [] b):b=[]:=List.eq_nil_of_length_eq_zero (by rw [←h.len];rfl)
theorem zS.Vh {R:Ren} {e:MapEntry} {b:List MapEntry} (h:zS R [e] b):∃u c,VR R e.val u∧ig e.key=true∧b=[⟨e.key,u,c⟩]:=by
  obtain ⟨c,p,h⟩:=h
  cases h with
  | cons hp hv h =>
    cases h
    exact ⟨_,_,hv,hp,(List.singleton_perm.1 p).symm⟩
def mW (P:Program) (kt:TypeId) (kind:TypeDesc) (k:Value) (es:List MapEntry):Option (Value→Bool):=
 if es.all (fun e=>(Instr.sameNow kind k e.key).isSome) then some (fun q=>Instr.sameNow kind k q==some true)
 else if es.all (fun e=>(Instr.sameNow kind k e.key).isNone&&(prun P (Op.equal kt k e.key)).isSome) then some (fun q=>prun P (Op.equal kt k q)==some true) else none
def zY (P : Program) (kt : TypeId) (kind : TypeDesc) (k : Value) (es : List MapEntry) : Option (Option MapEntry) := match mW P kt kind k es with
  |none=>none
  | some p => match es.filter fun e => p e.key with
    |[]=>some none
    |[e]=>some (some e)
    |_=>none
theorem xB {kind:TypeDesc} {k:Value}:∀(es:List MapEntry) (i:Nat),(∀e∈es,(Instr.sameNow kind k e.key).isSome)→(es.filter fun e=>Instr.sameNow kind k e.key==some true)=[]→Instr.findNow kind k es i=some none
  |[],i,_,_=>rfl
  | e :: es, i, h, hf => by
    have h0:=h e List.mem_cons_self
    rw [List.filter_cons] at hf
    rw [Instr.findNow]
    cases hs:Instr.sameNow kind k e.key with
    |none=>rw [hs] at h0;cases h0
    | some t =>
      rw [hs] at hf
      cases t with
      |true=>simp at hf
      |false=>exact xB es _ (fun e he=>h e (List.mem_cons_of_mem _ he)) (by simpa using hf)
theorem yS {kind : TypeDesc} {k : Value} : ∀ (es : List MapEntry) (i : Nat) (x : MapEntry), (∀ e ∈ es, (Instr.sameNow kind k e.key).isSome) → (es.filter fun e => Instr.sameNow kind k e.key == some true) = [x] → ∃ j, Instr.findNow kind k es i = some (some (i + j, x.val)) ∧ es[j]? = some x
  |[],i,x,_,h=>by simp at h
  | e :: es, i, x, h, hf => by
    have h0:=h e List.mem_cons_self
    rw [List.filter_cons] at hf
    rw [Instr.findNow]
    cases hs:Instr.sameNow kind k e.key with
    |none=>rw [hs] at h0;cases h0
    | some t =>
      rw [hs] at hf
      cases t with
      | true =>
        simp only [beq_self_eq_true,if_true,List.cons.injEq] at hf
        obtain ⟨rfl,_⟩:=hf
        exact ⟨0,rfl,rfl⟩
      | false =>
        obtain ⟨j,h1,h2⟩:=yS es (i+1) x (fun e he=>h e (List.mem_cons_of_mem _ he)) (by simpa using hf)
        exact ⟨j+1,by simp only;rw [h1,show i+1+j=i+(j+1) by omega],by simpa using h2⟩
theorem yT {kind:TypeDesc} {k:Value} {e:MapEntry} {es:List MapEntry} {i:Nat} (h:(Instr.sameNow kind k e.key).isNone):Instr.findNow kind k (e::es) i=none:=by
 rw [Instr.findNow]
 cases hs:Instr.sameNow kind k e.key with
 |none=>rfl
 |some t=>rw [hs] at h;cases h
theorem rM {kt : TypeId} {k : Value} : ∀ (es : List MapEntry) (i : Nat), (∀ e ∈ es, (prun P (Op.equal kt k e.key)).isSome) → (es.filter fun e => prun P (Op.equal kt k e.key) == some true) = [] → prun P (Instr.findAsking kt k es i) = some none
  |[],i,_,_=>by rw [Instr.findAsking,prun_pure]
  | e :: es, i, h, hf => by
    have h0:=h e List.mem_cons_self
    rw [List.filter_cons] at hf
    rw [Instr.findAsking,prun_bind]
    cases hs:prun P (Op.equal kt k e.key) with
    |none=>rw [hs] at h0;cases h0
    | some t =>
      rw [hs] at hf
      cases t with
      |true=>simp at hf
      | false =>
        simp only [Option.bind_some,Bool.false_eq_true,if_false]
        exact rM es _ (fun e he=>h e (List.mem_cons_of_mem _ he)) (by simpa using hf)
theorem tH {kt : TypeId} {k : Value} : ∀ (es : List MapEntry) (i : Nat) (x : MapEntry), (∀ e ∈ es, (prun P (Op.equal kt k e.key)).isSome) → (es.filter fun e => prun P (Op.equal kt k e.key) == some true) = [x] → ∃ j, prun P (Instr.findAsking kt k es i) = some (some (i + j, x.val)) ∧ es[j]? = some x
  |[],i,x,_,h=>by simp at h
  | e :: es, i, x, h, hf => by
    have h0:=h e List.mem_cons_self
    rw [List.filter_cons] at hf
    rw [Instr.findAsking,prun_bind]
    cases hs:prun P (Op.equal kt k e.key) with
    |none=>rw [hs] at h0;cases h0
    | some t =>
      rw [hs] at hf
      cases t with
      | true =>
        simp only [beq_self_eq_true,if_true,List.cons.injEq] at hf
        obtain ⟨rfl,_⟩:=hf
        exact ⟨0,by simp only [Option.bind_some,if_true,prun_pure];rfl,rfl⟩
      | false =>
        obtain ⟨j,h1,h2⟩:=tH es (i+1) x (fun e he=>h e (List.mem_cons_of_mem _ he)) (by simpa using hf)
        exact ⟨j+1,by simp only [Option.bind_some,Bool.false_eq_true,if_false];rw [h1,show i+1+j=i+(j+1) by omega],by simpa using h2⟩
theorem rO {t:TypeId} {d:TypeDesc} (h:P.underlying t=some d):prun P (underlying t)=some d:=by
 unfold underlying
 rw [prun_bind]
 simp only [program,prun,Option.bind_some,h]
 rfl
theorem wF {kt:TypeId} {kind:TypeDesc} {k:Value} {es es':List MapEntry} {p:Value→Bool} (h:mW P kt kind k es=some p) (hk:∀e∈es',∃e'∈es,e'.key=e.key):
  ((∀e∈es',(Instr.sameNow kind k e.key).isSome)∧p=fun q=>Instr.sameNow kind k q==some true)∨((∀e∈es',(Instr.sameNow kind k e.key).isNone∧(prun P (Op.equal kt k e.key)).isSome)∧p=fun q=>prun P (Op.equal kt k q)==some true):=by
 unfold mW at h
 split at h
 ·next ha=>
  injection h with h
  refine .inl ⟨fun e he=>?_,h.symm⟩
  obtain ⟨e',h1,h2⟩:=hk e he
  rw [←h2]
  exact List.all_eq_true.1 ha e' h1
 ·split at h
  ·next ha=>
   injection h with h
   refine .inr ⟨fun e he=>?_,h.symm⟩
   obtain ⟨e',h1,h2⟩:=hk e he
   rw [←h2]
   have:=List.all_eq_true.1 ha e' h1
   simpa using this
  ·cases h
theorem rD {kt:TypeId} {kind:TypeDesc} {k:Value} {es es':List MapEntry} {p:Value→Bool} (hd:P.underlying kt=some kind) (h:mW P kt kind k es=some p) (hk:∀e∈es',∃e'∈es,e'.key=e.key) (hf:(es'.filter fun e=>p e.key)=[]):
    prun P (Instr.findKey kt k es')=some none:=by
  unfold Instr.findKey
  rw [prun_bind,rO hd]
  simp only [Option.bind_some]
  rcases wF h hk with ⟨h1,rfl⟩|⟨h1,rfl⟩
  · rw [xB es' 0 h1 hf]
    rfl
  · cases es' with
    |nil=>rfl
    | cons e es' =>
      rw [yT (h1 e List.mem_cons_self).1]
      exact rM _ 0 (fun e he=>(h1 e he).2) hf
theorem PL {kt:TypeId} {kind:TypeDesc} {k:Value} {es es':List MapEntry} {p:Value→Bool} {x:MapEntry} (hd:P.underlying kt=some kind) (h:mW P kt kind k es=some p) (hk:∀e∈es',∃e'∈es,e'.key=e.key) (hf:(es'.filter fun e=>p e.key)=[x]):
    ∃j,prun P (Instr.findKey kt k es')=some (some (j,x.val))∧es'[j]?=some x:=by
  unfold Instr.findKey
  rw [prun_bind,rO hd]
  simp only [Option.bind_some]
  rcases wF h hk with ⟨h1,rfl⟩|⟨h1,rfl⟩
  · obtain ⟨j,h2,h3⟩:=yS es' 0 x h1 hf
    rw [h2,Nat.zero_add]
    exact ⟨j,rfl,h3⟩
  · cases es' with
    |nil=>simp at hf
    | cons e es' =>
      rw [yT (h1 e List.mem_cons_self).1]
      obtain ⟨j,h2,h3⟩:=tH _ 0 x (fun e he=>(h1 e he).2) hf
      rw [Nat.zero_add] at h2
      exact ⟨j,h2,h3⟩
theorem AU {R:Ren} {kt:TypeId} {kind:TypeDesc} {k:Value} {es es':List MapEntry} (hd:P.underlying kt=some kind) (hm:zS R es es') (h:zY P kt kind k es=some none):prun P (Instr.findKey kt k es')=some none:=by
 unfold zY at h
 split at h
 ·cases h
 next p hp=>
 split at h
 ·next hf=>exact rD hd hp hm.Ee (by have:=hm.filter p;rw [hf] at this;exact this.nil_eq)
 ·cases h
 ·cases h
theorem Ef {R:Ren} {kt:TypeId} {kind:TypeDesc} {k:Value} {es es':List MapEntry} {x:MapEntry} (hd:P.underlying kt=some kind) (hm:zS R es es') (h:zY P kt kind k es=some (some x)):
  ∃j u c,prun P (Instr.findKey kt k es')=some (some (j,u))∧es'[j]?=some ⟨x.key,u,c⟩∧VR R x.val u∧∃p:Value→Bool,(es.filter fun e=>p e.key)=[x]∧(es'.filter fun e=>p e.key)=[⟨x.key,u,c⟩]∧mW P kt kind k es=some p:=by
 unfold zY at h
 split at h
 ·cases h
 next p hp=>
 split at h
 ·cases h
 ·next e hf=>
  injection h with h
  injection h with h
  subst h
  have:=hm.filter p
  rw [hf] at this
  obtain ⟨u,c,h1,_,h2⟩:=this.Vh
  obtain ⟨j,h3,h4⟩:=PL hd hp hm.Ee h2
  exact ⟨j,u,c,h3,h4,h1,p,hf,h2,hp⟩
 ·cases h
end
section
variable {P:Program} {ev:Operand→Option Value} {H:Tr} {n:Nat} {dst:Option Tmp} {ty:TypeId} {pos:String} {after:Array Edge} {guard:Option (Nat×Bool)}
theorem Eh {R:Ren} {w:World} {m b:Nat} {es:Array MapEntry} {clock:Nat} (hh:HR P R H.get w) (hm:H.get m=some (.map es clock)) (hr:R m=some (b,0,0)):∃(es':Array MapEntry) (clock':Nat),w.heap[b]?=some (.map es' clock')∧zS R es.toList es'.toList:=by
 obtain ⟨b',d,o',h1,h2,h3⟩:=hh.obj m _ hm
 rw [hr] at h1
 injection h1 with h1
 injection h1 with h1 _
 subst h1
 cases h3 with
 |map h=>exact ⟨_,_,h2,h⟩
theorem qc {w:World} {b:Nat} {es:Array MapEntry} {c:Nat} (h:w.heap[b]?=some (.map es c)):(getObj b).run P w= .ok (.map es c) w:=by
 simp [getObj,Sem.run,h]
def FT (P : Program) (H : Tr) (t : TypeId) (x k : Value) (ok : Bool) : Option Value :=
  match P.underlying t with
  | some (.map kt et) =>
    if ig k then
      match (match x with
        | .map none=>some #[]
        | .map (some m) => match H.get m with
          |some (.map es _)=>some es
          |_=>none
        | _ => none : Option (Array MapEntry)) with
      | some es =>
        match P.underlying kt,prun P (Instr.checkKey es.isEmpty 10000 kt k) with
        | some d, some _ => match zY P kt d k es.toList with
          |some (some e)=>some (if ok then .tuple #[e.val, .bool true] else e.val)
          |some none=>(CO P et).map fun z=>if ok then .tuple #[z, .bool false] else z
          |none=>none
        |_,_=>none
      |none=>none
    else none
  |_=>none
theorem Lp {t : TypeId} {x ix : Operand} {ok : Bool} {vx vk v : Value} (hx : ev x = some vx) (hk : ev ix = some vk) (h : FT P H t vx vk ok = some v) : jB P ⟨dst, .lookup t x ix ok, ty, pos, after, guard⟩ ev H n (some v) [] n :=
  jB.val fun R w ρ hh he=>by
    unfold FT at h
    split at h
    case h_2=>cases h
    next kt et hu=>
    split at h
    case isFalse=>cases h
    next hp=>
    split at h
    case h_2=>cases h
    next es hes=>
    have hkk:ρ ix=vk:=iL (he ix _ hk) hp
    have XA:∃es':Array MapEntry,zS R es.toList es'.toList∧((ρ x= .map none∧es'=#[])∨∃b c,ρ x= .map (some b)∧w.heap[b]?=some (.map es' c)):=by
      split at hes
      · injection hes with hes
        subst hes
        exact ⟨#[],⟨[], .nil, .nil⟩, .inl ⟨iL (he x _ hx) rfl,rfl⟩⟩
      · next m=>
        split at hes
        · next es0 c hm=>
          injection hes with hes
          subst hes
          obtain ⟨b,hr,hb⟩:=KP (he x _ hx)
          obtain ⟨es',c',h1,h2⟩:=Eh hh hm hr
          exact ⟨es',h2, .inr ⟨b,c',hb,h1⟩⟩
        · cases hes
      · cases hes
    obtain ⟨es',hE,hrun⟩:=XA
    have hemp:es'.isEmpty=es.isEmpty:=by
      have:=hE.len
      simp only [Array.length_toList] at this
      simp [Array.isEmpty,this]
    split at h
    case h_2=>cases h
    next d u hd hck=>
    split at h
    · next e hf=>
      injection h with h
      subst h
      obtain ⟨j,u,c,h1,_,hv,_⟩:=Ef hd hE hf
      refine ⟨if ok then .tuple #[u, .bool true] else u,?_,?_⟩
      · cases ok with
        |true=>exact .tuple (.cons hv (.cons (.bool true) .nil))
        |false=>exact hv
      · have hck:=mQ _ _ hck w
        have h1:=mQ _ _ h1 w
        rw [←hemp] at hck
        rcases hrun with ⟨hb,rfl⟩|⟨b,c,hb,hg⟩
        · simp only [execOp,Instr.lookup,Sem.run_bind,run_underlying hu,Result.andThen_ok,hb,hkk,hck,h1,Sem.run_pure]
        · simp only [execOp,Instr.lookup,Sem.run_bind,run_underlying hu,Result.andThen_ok,hb,qc hg,hkk,hck,h1,Sem.run_pure]
    · next hf=>
      obtain ⟨z,hz,rfl⟩:=Option.map_eq_some_iff.1 h
      obtain ⟨hpl,hz⟩:=pX hz
      have h1:=AU hd hE hf
      refine ⟨if ok then .tuple #[z, .bool false] else z,?_,?_⟩
      · cases ok with
        |true=>exact .tuple (.cons (ji z hpl) (.cons (.bool false) .nil))
        |false=>exact ji z hpl
      · have hck:=mQ _ _ hck w
        have h1:=mQ _ _ h1 w
        rw [←hemp] at hck
        rcases hrun with ⟨hb,rfl⟩|⟨b,c,hb,hg⟩
        · simp only [execOp,Instr.lookup,Sem.run_bind,run_underlying hu,Result.andThen_ok,hb,hkk,hck,h1,hz,Sem.run_pure]
        · simp only [execOp,Instr.lookup,Sem.run_bind,run_underlying hu,Result.andThen_ok,hb,qc hg,hkk,hck,h1,hz,Sem.run_pure]
    · cases h
theorem Lr {t a b:TypeId} {x:Operand} {m:Nat} {es:Array MapEntry} {c:Nat} (h:ev x=some (.map (some m))) (hs:P.underlying t=some (.map a b)) (hm:H.get m=some (.map es c)):jB P ⟨dst, .call {callee:= .builtin .len,args:=#[x],argTypes:=#[t]},ty,pos,after,guard⟩ ev H n (some (.int .i64 es.size)) [] n:=
 jB.val fun R w ρ hh he=>by
  obtain ⟨b',hr,hb⟩:=KP (he x _ h)
  obtain ⟨es',c',h1,h2⟩:=Eh hh hm hr
  have:=h2.len
  simp only [Array.length_toList] at this
  exact ⟨.int .i64 es.size, .int _ _,by simp [execOp,resolve,invoke,builtin,Builtin.len_,hb,run_underlying hs,qc h1,goInt,this]⟩
theorem AV (p : MapEntry → Bool) (f : MapEntry → MapEntry) : ∀ (es : List MapEntry) (j : Nat) (x : MapEntry), es[j]? = some x → es.filter p = [x] → es.modify j f = es.map fun e => if p e then f e else e
  |[],j,x,h,_=>by simp at h
  | e :: es, 0, x, h, hf => by
    simp only [List.getElem?_cons_zero,Option.some.injEq] at h
    subst h
    rw [List.filter_cons] at hf
    by_cases hp:p e=true
    · rw [if_pos hp] at hf
      simp only [List.cons.injEq,true_and] at hf
      rw [List.modify_zero_cons,List.map_cons,if_pos hp]
      congr 1
      have:∀y∈es,(if p y=true then f y else y)=y:=fun y hy=>by
        rw [if_neg]
        intro h
        have:y∈es.filter p:=List.mem_filter.2 ⟨hy,h⟩
        rw [hf] at this
        cases this
      rw [List.map_congr_left this,List.map_id']
    · rw [if_neg hp] at hf
      have:e∈es.filter p:=by rw [hf];exact List.mem_cons_self
      exact (hp (List.mem_filter.1 this).2).elim
  | e :: es, j + 1, x, h, hf => by
    rw [List.getElem?_cons_succ] at h
    rw [List.filter_cons] at hf
    by_cases hp:p e=true
    · rw [if_pos hp] at hf
      simp only [List.cons.injEq] at hf
      obtain ⟨rfl,hf⟩:=hf
      have:e∈es.filter p:=List.mem_filter.2 ⟨List.mem_of_getElem? h,hp⟩
      rw [hf] at this
      cases this
    · rw [if_neg hp] at hf
      rw [List.modify_succ_cons,List.map_cons,if_neg hp,AV p f es j x h hf]
theorem EsR.put {R:Ren} {k v u:Value} (hp:ig k=true) (hv:VR R v u) (p:Value→Bool):∀{a b:List MapEntry},EsR R a b→EsR R (a.map fun e=>if p e.key then {e with key:=k,val:=v} else e) (b.map fun e=>if p e.key then {e with key:=k,val:=u} else e)
  |_,_, .nil=> .nil
  | _, _, .cons (k := q) h1 h2 h => by
    rw [List.map_cons,List.map_cons]
    simp only
    split
    · exact .cons hp hv (h.put hp hv p)
    · exact .cons h1 h2 (h.put hp hv p)
theorem EsR.push {R:Ren} {k v u:Value} {c c':Nat} (hp:ig k=true) (hv:VR R v u):∀{a b:List MapEntry},EsR R a b→EsR R (a++[⟨k,v,c⟩]) (b++[⟨k,u,c'⟩])
 |_,_, .nil=> .cons hp hv .nil
 |_,_, .cons p w h=> .cons p w (EsR.push hp hv h)
theorem zS.push {R:Ren} {k v u:Value} {c c':Nat} (hp:ig k=true) (hv:VR R v u) {a b:List MapEntry} (h:zS R a b):zS R (a++[⟨k,v,c⟩]) (b++[⟨k,u,c'⟩]):=by
 obtain ⟨q,h1,h2⟩:=h
 exact ⟨q++[⟨k,u,c'⟩],h1.append_right _,h2.push hp hv⟩
def uf (P : Program) (H : Tr) (t : TypeId) (x k v : Value) : Option Delta :=
  match P.underlying t,x with
  | some (.map kt _), .map (some m) =>
    if ig k then
      match H.get m with
      | some (.map es clock) =>
        match P.underlying kt,prun P (Instr.checkKey false 10000 kt k) with
        | some d, some _ => match mW P kt d k es.toList, zY P kt d k es.toList with
          |some p,some (some e)=>if Instr.sameBits 10000 e.key k then some [(m,some (.map ⟨es.toList.map fun e=>if p e.key then {e with key:=k,val:=v} else e⟩ clock))] else none
          |_,some none=>some [(m,some (.map (es.push {key:=k,val:=v,born:=clock}) (clock+1)))]
          |_,_=>none
        |_,_=>none
      |_=>none
    else none
  |_,_=>none
theorem AX {w:World} {b:Nat} {es:Array MapEntry} {c:Nat} (o:Obj) (h:w.heap[b]?=some (.map es c)):(setObj b o).run P w= .ok () {w with heap:=w.heap.setIfInBounds b o}:=by
 simp [setObj,Sem.run,h]
theorem nX {t:TypeId} {x k v:Operand} {vx vk vv:Value} {δ:Delta} (hx:ev x=some vx) (hk:ev k=some vk) (hv:ev v=some vv) (h:uf P H t vx vk vv=some δ) {R:Ren} {w:World} {ρ:Operand→Value} (hh:HR P R H.get w) (he:∀y u,ev y=some u→VR R u (ρ y)):
  ∃w',(Instr.mapUpdate t (ρ x) (ρ k) (ρ v)).run P w= .ok () w'∧Post R R n n H.get δ w w':=by
 unfold uf at h
 split at h
 case h_2=>cases h
 next kt et m hu=>
 split at h
 case isFalse=>cases h
 next hp=>
 split at h
 case h_2=>cases h
 next es clock hm=>
 have hkk:ρ k=vk:=iL (he k _ hk) hp
 obtain ⟨b,hr,hb⟩:=KP (he x _ hx)
 obtain ⟨es',c',h1,h2⟩:=Eh hh hm hr
 split at h
 case h_2=>cases h
 next d u hd hck=>
 have hck:=mQ _ _ hck w
 split at h
 ·next p e hkt hf=>
  split at h
  case isFalse=>cases h
  next hsb=>
  injection h with h
  subst h
  obtain ⟨j,u',c,h3,h4,h5,p',h6,h7,h8⟩:=Ef hd h2 hf
  rw [hkt] at h8
  injection h8 with h8
  subst h8
  have h3:=mQ _ _ h3 w
  have hkey:((es'[j]?).map (·.key)).getD vk=e.key:=by
   rw [Array.getElem?_toList] at h4
   rw [h4]
   rfl
  refine ⟨_,?_,Post.set1 (o':= .map (es'.modify j fun e=>{e with key:=vk,val:=ρ v}) c') hh hm hr (mP h1) (.map ?_)⟩
  ·simp only [Instr.mapUpdate,Sem.run_bind,run_underlying hu,Result.andThen_ok,hb,qc h1,hkk,hck,h3,hkey,Instr.keyThatStays]
   rw [if_pos hsb]
   simp only [Sem.run_pure,Result.andThen_ok,AX _ h1]
  ·rw [Array.toList_modify,AV (fun e=>p e.key) _ _ _ _ h4 h7]
   obtain ⟨q,h9,h10⟩:=h2
   exact ⟨_,h9.map _,h10.put hp (he v _ hv) p⟩
 ·next hf=>
  injection h with h
  subst h
  have h3:=AU hd h2 hf
  have h3:=mQ _ _ h3 w
  refine ⟨_,?_,Post.set1 (o':= .map (es'.push {key:=vk,val:=ρ v,born:=c'}) (c'+1)) hh hm hr (mP h1) (.map ?_)⟩
  ·simp only [Instr.mapUpdate,Sem.run_bind,run_underlying hu,Result.andThen_ok,hb,qc h1,hkk,hck,h3,AX _ h1]
  ·rw [Array.toList_push,Array.toList_push]
   exact h2.push hp (he v _ hv)
 ·cases h
theorem Ei {t:TypeId} {x k v:Operand} {vx vk vv:Value} {δ:Delta} (hx:ev x=some vx) (hk:ev k=some vk) (hv:ev v=some vv) (h:uf P H t vx vk vv=some δ):jB P ⟨dst, .insert t x k v,ty,pos,after,guard⟩ ev H n none δ n:=by
 intro R w ρ hh fr he
 obtain ⟨w',h1,h2⟩:=nX (n:=n) hx hk hv h hh he
 have:(execOp ρ ⟨dst, .insert t x k v,ty,pos,after,guard⟩).run P w= .ok .skip w':=by
  simp [execOp,h1]
 rw [this]
 exact ⟨rfl,R,h2⟩
theorem Ej {t:TypeId} {x k v:Operand} {vx vk vv:Value} {δ:Delta} (hx:ev x=some vx) (hk:ev k=some vk) (hv:ev v=some vv) (h:uf P H t vx vk vv=some δ):jB P ⟨dst, .mapUpdate t x k v,ty,pos,after,guard⟩ ev H n none δ n:=by
 intro R w ρ hh fr he
 obtain ⟨w',h1,h2⟩:=nX (n:=n) hx hk hv h hh he
 have:(execOp ρ ⟨dst, .mapUpdate t x k v,ty,pos,after,guard⟩).run P w= .ok .skip w':=by
  simp [execOp,h1]
 rw [this]
 exact ⟨rfl,R,h2⟩
end
end
end Go.V
namespace Go.V
noncomputable section
def orElse (a b:Option oZ):Option oZ:=match a with
 |some x=>some x
 |none=>b
abbrev kQ:=FuncId→List Value→Tr→Nat→Option (Value×Delta×Nat)
def wG:Value→Option Value
 | .tuple ⟨[.chan none,v]⟩=>some v
 |_=>none
def pI (R:Ren) (H:Tr) (n:Nat) (v:Value) (δ:Delta) (n':Nat) (w:World) (e:Ending) (w':World):Prop:=match wG v with
 |none=>∃u R',e= .returned u∧VR R' v u∧Post R R' n n' H.get δ w w'
 |some p=>∃u R',e= .panicked [{v:=u,recovered:=false}]∧VR R' p u∧Post R R' n n' H.get δ w w'
def lW (P : Program) (f : FuncId) (args : List Value) (H : Tr) (n : Nat) (v : Value) (δ : Delta) (n' : Nat) : Prop :=
  ∀ (R : Ren) (w : World) (avs : Array Value), HR P R H.get w → Fr P R H.get n n' → VRs R args avs.toList →
    (f<P.funcs.size→CallsIn (FW P none) 0 P f avs w (pI R H n v δ n' w))∧
    (P.funcs.size≤f→∀b,R (f-P.funcs.size)=some (b,0,0)→∃g ts x y,(Instr.yield b avs).run P w= .ok (.round b g ts x y) w∧RoundIn (FW P none) 0 P b g ts x y w (pI R H n v δ n' w))
def iM (P : Program) : Prop := ∀ (f : Nat) (fn : Func), P.funcs[f]? = some fn → (fn.name == "runtime.NumGoroutine") = false
section
variable (P:Program) (call:kQ) (ev:Operand→Option Value) (H:Tr) (n:Nat)
def Jb (v:Option Value):Option oZ:=match v with
 |some v=>some (some v,[],n)
 |none=>none
def SQ (c a b:Operand):Option oZ:=match ev c with
 |some (.bool t)=>Jb n (if t then ev a else ev b)
 |_=>none
def Ls (t:TypeId):Option oZ:=match CO P t with
 |some z=>some (some (.pointer (some ⟨n,0,none⟩)),[(n,some (.cells z.cells t (0,0)))],n+1)
 |none=>none
def XB (t:TypeId) (x:Operand):Option oZ:=match ev x with
 |some v=>some (some (.pointer (some ⟨n,0,none⟩)),[(n,some (.cells v.cells t (0,0)))],n+1)
 |none=>none
def Lu (t:TypeId) (parts:Array (Nat×Operand)):Option oZ:=match xA ev parts.toList with
 |some ps=>Jb n (KX P t ps)
 |none=>none
def ug (t : TypeId) (len : Nat) (parts : Array (Nat × Operand)) : Option oZ := match xA ev parts.toList, P.underlying t with
  | some ps, some (.slice e) => match sizeT P e with
    | some k => if len * k ≤ 2 ^ 24 then match wC P e (len * k) with
        | some zs => match Instr.fill (fun i => some (i * k, k)) zs ps with
          |some cs=>some (some (.slice (some ⟨n,0,none⟩) len (2*len+1)),[(n,some (.cells cs e (0,0)))],n+1)
          |none=>none
        |none=>none
      else none
    |none=>none
  |_,_=>none
def SV (t:TypeId) (x:Operand):Option oZ:=match ev x with
 |some (.pointer (some ⟨m,q,none⟩))=>Jb n (I5 P H t m q)
 |_=>none
def LC (t : TypeId) (a x : Operand) : Option oZ := match ev a, ev x, sizeT P t with
  | some (.pointer (some ⟨m, q, none⟩)), some v, some k => if v.cells.toList.length = k then match SI H m q v.cells.toList with
      |some ob=>some (none,[(m,some ob)],n)
      |none=>none
    else none
  |_,_,_=>none
def yU (x:Operand):Option oZ:=match ev x with
 |some (.pointer (some ⟨m,q,none⟩))=>some (some (.pointer (some ⟨m,q,none⟩)),[],n)
 |some (.func (.func f) fs cs)=>some (some (.func (.func f) fs cs),[],n)
 |some (.func (.yield l) fs cs)=>some (some (.func (.yield l) fs cs),[],n)
 |some (.iface t v)=>some (some (.iface t v),[],n)
 |_=>none
def wH (s : TypeId) (x : Operand) (f : Nat) : Option oZ := match ev x, P.underlying s with
  | some (.pointer (some ⟨m, q, none⟩)), some (.struct fs) => match fs[f]? with
    | some F => match sizeT P F.type with
      |some k=>if k≠0 then some (some (.pointer (some ⟨m,q+F.offset,none⟩)),[],n) else none
      |none=>none
    |none=>none
  |_,_=>none
def LD (t : TypeId) (x : Operand) (f : Nat) : Option oZ := match ev x, P.underlying t with
  | some (.agg cs), some (.struct fs) => match fs[f]? with
    |some F=>Jb n (IZ P F.type cs.toList F.offset)
    |none=>none
  |_,_=>none
def wI (t : TypeId) (x ix : Operand) : Option oZ := match ev x, ev ix, P.underlying t with
  | some (.slice (some ⟨m, q, none⟩) l _), some (.int _ i), some (.slice e) => match sizeT P e with
    |some k=>if 0≤i∧i<l then some (some (.pointer (some ⟨m,q+i.toNat*k,none⟩)),[],n) else none
    |none=>none
  | some (.pointer (some ⟨m, q, none⟩)), some (.int _ i), some (.array l e) => match sizeT P e with
    |some k=>if 0≤i∧i<l then some (some (.pointer (some ⟨m,q+i.toNat*k,none⟩)),[],n) else none
    |none=>none
  |_,_,_=>none
def LG (t : TypeId) (x ix : Operand) : Option oZ := match ev x, ev ix, P.underlying t with
  | some (.agg cs), some (.int _ i), some (.array l e) => match sizeT P e with
    |some k=>if 0≤i∧i<l then Jb n (IZ P e cs.toList (i.toNat*k)) else none
    |none=>none
  |_,_,_=>none
def XC (op : BinOp) (t : TypeId) (a b : Operand) : Option oZ := match ev a, ev b, P.underlying t with
  | some x, some y, some d =>
    if op = .eql ∨ op = .neq then
      match zX x y with
      |some q=>if tC d x&&tC d y then some (some (.bool (if op= .eql then q else !q)),[],n) else none
      | none => match x, y, d with
        | .pointer (some ⟨m, o, none⟩), .pointer (some ⟨m', p, none⟩), .pointer e => match sizeT P e with
          |some k=>if m=m'∧k≠0 then some (some (.bool (if op= .eql then o==p else !(o==p))),[],n) else none
          |none=>none
        |_,_,_=>none
    else none
  |_,_,_=>none
def CY (s t : TypeId) (x : Operand) : Option oZ := match ev x, P.underlying s, P.underlying t with
  | some (.string b), some .string, some (.slice e) => match P.underlying e with
    |some (.int .u8)=>if b.size<2^62 then some (some (.slice (some ⟨n,0,none⟩) b.size (pV b.size 1)),[(n,some (.cells ⟨b.data.toList.map fun b=> .int .u8 b.toNat⟩ e (0,0)))],n+1) else none
    |_=>none
  | some (.slice (some ⟨m, o, none⟩) l c), some (.slice e), some .string => match P.underlying e with
    | some (.int .u8) => match uU H 1 (.slice (some ⟨m, o, none⟩) l c) with
      | some (vs, l') => if l' = l then match PK vs with
          |some ns=>some (some (.string (Xz ns)),[],n)
          |none=>none
        else none
      |none=>none
    |_=>none
  | some (.slice (some ⟨m, o, none⟩) l c), some (.slice _), some (.slice e) => if s = t then match P.underlying e, H.get m with
      |some (.int .u8),some (.cells cs e' (0,0))=>if cs.size≠0 then some (some (.slice (some ⟨m,o,none⟩) l c),[(m,some (.cells cs e' (0,0)))],n) else none
      |_,_=>none
    else none
  | some (.slice none 0 0), some (.slice e), some .string => match P.underlying e with
    |some (.int .u8)=>some (some (.string .empty),[],n)
    |_=>none
  |_,_,_=>none
def LH (t:TypeId) (x:Operand):Option oZ:=match ev x,P.underlying t with
 |some v,some d=>if uT d then some (some (.iface t v),[],n) else none
 |_,_=>none
def SX (fn:Fn) (first captured:Array Operand):Option oZ:=match evs ev first.toList,evs ev captured.toList with
 |some fs,some cs=>if Xv fn then some (some (.func fn ⟨fs⟩ ⟨cs⟩),[],n) else none
 |_,_=>none
def CZ (t : TypeId) (r : Option Operand) : Option oZ := match r with
  |none=>some (some (.map (some n)),[(n,some (.map #[] 0))],n+1)
  | some x => match ev x, P.underlying t with
    |some (.int _ _),some (.map _ _)=>some (some (.map (some n)),[(n,some (.map #[] 0))],n+1)
    |_,_=>none
def wJ (t : TypeId) (a b : Operand) : Option oZ := match ev a, ev b, P.underlying t with
  | some (.int _ l), some (.int _ c), some (.slice e) => match P.info? e with
    | some i => if 0 ≤ l ∧ l ≤ c ∧ c < 2 ^ 63 ∧ i.bytes * c.toNat ≤ 2 ^ 48 then match wC P e (c.toNat * i.size) with
        |some zs=>some (some (.slice (some ⟨n,0,none⟩) l.toNat (2*c.toNat+1)),[(n,some (.cells zs e (0,0)))],n+1)
        |none=>none
      else none
    |none=>none
  |_,_,_=>none
def LJ (t : TypeId) (x : Operand) (lo hi mx : Option Operand) : Option oZ := match ev x, P.underlying t with
  | some (.slice (some ⟨m, o, none⟩) len c), some (.slice e) => match sizeT P e, lV ev lo 0 with
    | some k, some l => match mx with
      | none => match lV ev hi len with
        | some h => if k < 65536 ∧ l ≤ h ∧ h ≤ wu c then match Ec c l k with
            |some c'=>some (some (.slice (some ⟨m,o+l*k,none⟩) (h-l) c'),[],n)
            |none=>none
          else none
        |none=>none
      | some y => match hi with
        |none=>none
        | some z => match lV ev (some z) 0, lV ev (some y) 0 with
          |some h,some mm=>if l≤h∧h≤mm∧mm≤wu c then some (some (.slice (some ⟨m,o+l*k,none⟩) (h-l) (2*(mm-l)+1)),[],n) else none
          |_,_=>none
    |_,_=>none
  | some (.pointer (some ⟨m, o, none⟩)), some (.array len e) => match mx, sizeT P e, lV ev lo 0, lV ev hi len with
    |none,some k,some l,some h=>if l≤h∧h≤len then some (some (.slice (some ⟨m,o+l*k,none⟩) (h-l) (2*(len-l)+1)),[],n) else none
    |_,_,_,_=>none
  |_,_=>none
def FU (t:TypeId) (x ix:Operand) (ok:Bool):Option oZ:=match ev x,ev ix with
 |some vx,some vk=>Jb n (FT P H t vx vk ok)
 |_,_=>none
def yV (t : TypeId) (x k v : Operand) : Option oZ := match ev x, ev k, ev v with
  | some vx, some vk, some vv => match uf P H t vx vk vv with
    |some δ=>some (none,δ,n)
    |none=>none
  |_,_,_=>none
def FV (x : Operand) (t : TypeId) (ok : Bool) : Option oZ := match ev x, P.underlying t with
  | some (.iface s v), some d => if uT d then
      if s=t then some (some (if ok then .tuple #[v, .bool true] else v),[],n)
      else if ok then match CO P t with
        |some z=>some (some (.tuple #[z, .bool false]),[],n)
        |none=>none
      else none
    else none
  |_,_=>none
def C9 (x:Operand) (i:Nat):Option oZ:=match ev x with
 |some (.tuple vs)=>Jb n (vs.toList[i]?)
 |_=>none
def XD (x : Operand) (t : TypeId) : Option oZ := match ev x, P.underlying t with
  |some (.slice (some ⟨_,_,none⟩) l _),some (.slice _)=>some (some (.int .i64 l),[],n)
  | some (.map (some m)), some (.map _ _) => match H.get m with
    |some (.map es _)=>some (some (.int .i64 es.size),[],n)
    |_=>none
  |_,_=>none
def FX (a x:Operand) (sT xT:TypeId):Option oZ:=match ev a,ev x with
 |some va,some vx=>orElse (FQ P H n sT xT va vx) (CW P n sT xT va vx)
 |_,_=>none
def SY (a x:Operand) (dT:TypeId):Option oZ:=match ev a,ev x with
 |some va,some vx=>SL P H n dT va vx
 |_,_=>none
def Em (f : Operand) (args : Array Operand) : Option (Value × Delta × Nat) := match ev f, evs ev args.toList with
  | some (.func (.func g) fs cs), some avs => match P.funcs[g]? with
    |some fn=>if fn.body.isSome then call g (fs.toList++avs++cs.toList) H n else none
    |none=>none
  |some (.func (.yield l) ⟨[]⟩ _),some avs=>call (P.funcs.size+l) avs H n
  |_,_=>none
def Hw : Option (Value × Delta × Nat) → Option oZ
  | some (v, δ, n') => match wG v with
    |none=>some (some v,δ,n')
    |some _=>none
  |none=>none
def En (f:Operand) (args:Array Operand):Option oZ:=Hw (Em P call ev H n f args)
def rP : Op → Bool
  | .call ⟨.value f, _, _⟩ => match ev f with
    |some (.func (.func g) _ _)=>Nat.ble (g+1) P.funcs.size
    |some (.func (.yield _) _ _)=>true
    |some (.tuple _)=>true
    |some .nilFunc=>true
    |_=>false
  | .call ⟨.invoke _ _,_,_⟩=>false
  |_=>true
def UK (o:Oper):Option oZ:=match rP P ev o.op with
 |true=>mG P ev o n
 |false=>none
def vop (o:Oper):Option oZ:=
 match o.op with
 | .move x=>Jb n (ev x)
 | .assign x=>Jb n (ev x)
 | .pick c a b=>SQ ev n c a b
 | .alloc t=>Ls P n t
 | .box t x=>XB ev n t x
 | .build t ps=>Lu P ev n t ps
 | .buildSlice t l ps=>ug P ev n t l ps
 | .load t x=>SV P ev H n t x
 | .store t a x=>LC P ev H n t a x
 | .nilCheck x=>yU ev n x
 | .fieldAddr s x f=>wH P ev n s x f
 | .field t x f=>LD P ev n t x f
 | .indexAddr t x i=>wI P ev n t x i
 | .index t x i=>orElse (LG P ev n t x i) (mG P ev o n)
 | .binOp op t a b _=>orElse (XC P ev n op t a b) (mG P ev o n)
 | .convert s t x=>orElse (CY P ev H n s t x) (mG P ev o n)
 | .makeInterface t x=>LH P ev n t x
 | .makeFunc fn a b=>SX ev n fn a b
 | .makeMap t r=>CZ P ev n t r
 | .makeSlice t a b=>wJ P ev n t a b
 | .slice t x lo hi mx=>orElse (LJ P ev n t x lo hi mx) (mG P ev o n)
 | .lookup t x i ok=>FU P ev H n t x i ok
 | .insert t x k v=>yV P ev H n t x k v
 | .mapUpdate t x k v=>yV P ev H n t x k v
 | .typeAssert x _ t ok=>orElse (FV P ev n x t ok) (mG P ev o n)
 | .extract x i=>C9 ev n x i
 | .call ⟨.value f,args,_⟩=>orElse (En P call ev H n f args) (UK P ev n o)
 | .call ⟨.invoke _ _,_,_⟩=>none
 | .call ⟨.builtin .len,⟨[x]⟩,⟨[t]⟩⟩=>orElse (XD P ev H n x t) (mG P ev o n)
 | .call ⟨.builtin .append,⟨[a,x]⟩,⟨[sT,xT]⟩⟩=>FX P ev H n a x sT xT
 | .call ⟨.builtin .copy,⟨[a,x]⟩,⟨[dT,_]⟩⟩=>SY P ev H n a x dT
 |_=>mG P ev o n
end
section
variable {P:Program} {call:kQ} {ev:Operand→Option Value} {H:Tr} {n:Nat}
theorem qJ {v:Option Value} {x:Option Value} {δ:Delta} {n':Nat} (h:Jb n v=some (x,δ,n')):∃u,v=some u∧x=some u∧δ=[]∧n'=n:=by
 unfold Jb at h
 split at h
 ·simp only [Option.some.injEq,Prod.mk.injEq] at h
  exact ⟨_,rfl,h.1.symm,h.2.1.symm,h.2.2.symm⟩
 ·cases h
theorem mX {a b:Option oZ} {r:oZ} (h:orElse a b=some r):a=some r∨b=some r:=by
 unfold orElse at h
 split at h
 ·exact .inl h
 ·exact .inr h
variable {dst:Option Tmp} {ty:TypeId} {pos:String} {after:Array Edge} {guard:Option (Nat×Bool)}
def Xa (P:Program) (K:Ending→World→Prop):Result Next→Prop
 | .ok (.enter f args) w1=>CallsIn (FW P none) 0 P f args w1 K
 | .ok (.round l f ts x y) w1=>RoundIn (FW P none) 0 P l f ts x y w1 K
 |_=>False
theorem Hy (hnm : iM P) (hcall : ∀ f args H n v δ n', call f args H n = some (v, δ, n') → lW P f args H n v δ n')
    {f:Operand} {args:Array Operand} {ats:Array TypeId} {v:Value} {δ:Delta} {n':Nat} (h:Em P call ev H n f args=some (v,δ,n')) {R:Ren} {w:World} {ρ:Operand→Value} (hh:HR P R H.get w) (fr:Fr P R H.get n n') (he:∀y u,ev y=some u→VR R u (ρ y)):
    Xa P (pI R H n v δ n' w) ((execOp ρ ⟨dst, .call ⟨.value f,args,ats⟩,ty,pos,after,guard⟩).run P w):=by
  unfold Em at h
  split at h
  · next g fs cs avs hf ha=>
    split at h
    case h_2=>cases h
    next fn hfn=>
    split at h
    case isFalse=>cases h
    next hbody=>
    have h1:=he f _ hf
    have hu:∃gs ds,ρ f= .func (.func g) gs ds∧VRs R fs.toList gs.toList∧VRs R cs.toList ds.toList:=by
      generalize ρ f=u at h1
      cases h1 with
      | func e a b =>
        cases e with
        |func f=>exact ⟨_,_,rfl,a,b⟩
    obtain ⟨gs,ds,hu,hgs,hds⟩:=hu
    have has:=Az he ha
    have hnb:fn.body.isNone=false:=by
      cases hb:fn.body with
      |none=>rw [hb] at hbody;cases hbody
      |some _=>rfl
    have hrun:(execOp ρ ⟨dst, .call ⟨.value f,args,ats⟩,ty,pos,after,guard⟩).run P w= .ok (.enter g (gs++args.map ρ++ds)) w:=by
      simp only [execOp,resolve,hu,Deferred.ofValue,Sem.run_bind,Sem.run_pure,Result.andThen_ok,invoke,callFunc]
      simp only [program,Sem.run,Result.andThen_ok,hfn,hnm g fn hfn,hnb]
      rfl
    rw [hrun]
    have hg:g<P.funcs.size:=(Array.getElem?_eq_some_iff.1 hfn).1
    refine (hcall _ _ _ _ _ _ _ h R w (gs++args.map ρ++ds) hh fr ?_).1 hg
    rw [Array.toList_append,Array.toList_append,Array.toList_map]
    exact (hgs.append has).append hds
  · next l cs avs hf ha=>
    have h1:=he f _ hf
    have hu:∃b ds,ρ f= .func (.yield b) #[] ds∧R l=some (b,0,0):=by
      generalize ρ f=u at h1
      cases h1 with
      | func e a c =>
        cases e with
        | yield hr =>
          next gs ds b=>
          obtain ⟨gl⟩:=gs
          cases a
          exact ⟨_,_,rfl,hr⟩
    obtain ⟨b,ds,hu,hr⟩:=hu
    have has:=Az he ha
    obtain ⟨g,ts,x,y,h2,h3⟩:=(hcall _ _ _ _ _ _ _ h R w (args.map ρ) hh fr (by rw [Array.toList_map];exact has)).2 (Nat.le_add_right _ _) b (by rw [Nat.add_sub_cancel_left];exact hr)
    have hrun:(execOp ρ ⟨dst, .call ⟨.value f,args,ats⟩,ty,pos,after,guard⟩).run P w= .ok (.round b g ts x y) w:=by
      simp only [execOp,resolve,hu,Deferred.ofValue,Sem.run_bind,Sem.run_pure,Result.andThen_ok,invoke,Array.empty_append]
      exact h2
    rw [hrun]
    exact h3
  · cases h
theorem Hz {f:Operand} {args:Array Operand} {x:Option Value} {δ:Delta} {n':Nat} (h:En P call ev H n f args=some (x,δ,n')):∃v,Em P call ev H n f args=some (v,δ,n')∧wG v=none∧x=some v:=by
 unfold En Hw at h
 split at h
 ·next v δ' n'' hr=>
  split at h
  ·next hp=>
   simp only [Option.some.injEq,Prod.mk.injEq] at h
   obtain ⟨rfl,rfl,rfl⟩:=h
   exact ⟨v,hr,hp,rfl⟩
  ·cases h
 ·cases h
theorem S9 (hnm:iM P) (hcall:∀f args H n v δ n',call f args H n=some (v,δ,n')→lW P f args H n v δ n')
  {f:Operand} {args:Array Operand} {ats:Array TypeId} {x:Option Value} {δ:Delta} {n':Nat} (h:En P call ev H n f args=some (x,δ,n')):jB P ⟨dst, .call ⟨.value f,args,ats⟩,ty,pos,after,guard⟩ ev H n x δ n':=by
 obtain ⟨v,hr,hp,rfl⟩:=Hz h
 intro R w ρ hh fr he
 have:=Hy (dst:=dst) (ty:=ty) (pos:=pos) (after:=after) (guard:=guard) (ats:=ats) hnm hcall hr hh fr he
 have hK:∀e w',pI R H n v δ n' w e w'→∃u R',e= .returned u∧okV R' (some v) u∧Post R R' n n' H.get δ w w':=fun e w' hc=>by
  unfold pI at hc
  rw [hp] at hc
  obtain ⟨u,R',e1,e2,e3⟩:=hc
  exact ⟨u,R',e1,fun y hy=>by injection hy with hy;subst hy;exact e2,e3⟩
 generalize (execOp ρ ⟨dst, .call ⟨.value f,args,ats⟩,ty,pos,after,guard⟩).run P w=res at this
 unfold Xa at this
 split at this
 ·exact CallsIn.mono this hK
 ·exact RoundIn.mono this hK
 ·exact this.elim
theorem LK (hnm : iM P) (hcall : ∀ f args H n v δ n', call f args H n = some (v, δ, n') → lW P f args H n v δ n') {o : Oper} {x : Option Value} {δ : Delta} {n' : Nat} (h : vop P call ev H n o = some (x, δ, n')) : jB P o ev H n x δ n' := by
  obtain ⟨dst,op,ty,pos,after,guard⟩:=o
  unfold vop at h
  split at h
  · next e=>
    first|(simp only at e;subst e)|subst e
    obtain ⟨u,hu,rfl,rfl,rfl⟩:=qJ h
    exact SC hu
  · next e=>
    first|(simp only at e;subst e)|subst e
    obtain ⟨u,hu,rfl,rfl,rfl⟩:=qJ h
    exact KO hu
  · next e=>
    first|(simp only at e;subst e)|subst e
    unfold SQ at h
    split at h
    · next t hc=>
      obtain ⟨u,hu,rfl,rfl,rfl⟩:=qJ h
      exact SG hc hu
    · cases h
  · next e=>
    first|(simp only at e;subst e)|subst e
    unfold Ls at h
    split at h
    · next z hz=>
      simp only [Option.some.injEq,Prod.mk.injEq] at h
      obtain ⟨rfl,rfl,rfl⟩:=h
      exact Pz hz
    · cases h
  · next e=>
    first|(simp only at e;subst e)|subst e
    unfold XB at h
    split at h
    · next v hv=>
      simp only [Option.some.injEq,Prod.mk.injEq] at h
      obtain ⟨rfl,rfl,rfl⟩:=h
      exact Vb hv
    · cases h
  · next e=>
    first|(simp only at e;subst e)|subst e
    unfold Lu at h
    split at h
    · next ps hp=>
      obtain ⟨u,hu,rfl,rfl,rfl⟩:=qJ h
      exact PE hp hu
    · cases h
  · next e=>
    first|(simp only at e;subst e)|subst e
    unfold ug at h
    split at h
    case h_2=>cases h
    next ps e hp hu=>
    split at h
    case h_2=>cases h
    next k hk=>
    split at h
    case isFalse=>cases h
    next hb=>
    split at h
    case h_2=>cases h
    next zs hz=>
    split at h
    case h_2=>cases h
    next cs hf=>
    simp only [Option.some.injEq,Prod.mk.injEq] at h
    obtain ⟨rfl,rfl,rfl⟩:=h
    exact CU hp hu hk hb hz hf
  · next e=>
    first|(simp only at e;subst e)|subst e
    unfold SV at h
    split at h
    · next m q hx=>
      obtain ⟨u,hu,rfl,rfl,rfl⟩:=qJ h
      exact SK hx hu
    · cases h
  · next e=>
    first|(simp only at e;subst e)|subst e
    unfold LC at h
    split at h
    case h_2=>cases h
    next m q v k ha hx hk=>
    split at h
    case isFalse=>cases h
    next hl=>
    split at h
    case h_2=>cases h
    next ob hob=>
    simp only [Option.some.injEq,Prod.mk.injEq] at h
    obtain ⟨rfl,rfl,rfl⟩:=h
    exact PD ha hx hk hl hob
  · next e=>
    first|(simp only at e;subst e)|subst e
    unfold yU at h
    split at h
    · next hx=>
      simp only [Option.some.injEq,Prod.mk.injEq] at h
      obtain ⟨rfl,rfl,rfl⟩:=h
      exact FH hx
    · next hx=>
      simp only [Option.some.injEq,Prod.mk.injEq] at h
      obtain ⟨rfl,rfl,rfl⟩:=h
      exact D6 hx
    · next hx=>
      simp only [Option.some.injEq,Prod.mk.injEq] at h
      obtain ⟨rfl,rfl,rfl⟩:=h
      exact D7 hx
    · next hx=>
      simp only [Option.some.injEq,Prod.mk.injEq] at h
      obtain ⟨rfl,rfl,rfl⟩:=h
      exact D8 hx
    · cases h
  · next e=>
    first|(simp only at e;subst e)|subst e
    unfold wH at h
    split at h
    case h_2=>cases h
    next m q fs hx hs=>
    split at h
    case h_2=>cases h
    next F hf=>
    split at h
    case h_2=>cases h
    next k hk=>
    split at h
    case isFalse=>cases h
    next h0=>
    simp only [Option.some.injEq,Prod.mk.injEq] at h
    obtain ⟨rfl,rfl,rfl⟩:=h
    exact D9 hx hs hf hk h0
  · next e=>
    first|(simp only at e;subst e)|subst e
    unfold LD at h
    split at h
    case h_2=>cases h
    next cs fs hx hs=>
    split at h
    case h_2=>cases h
    next F hf=>
    obtain ⟨u,hu,rfl,rfl,rfl⟩:=qJ h
    exact Px hx hs hf hu
  · next e=>
    first|(simp only at e;subst e)|subst e
    unfold wI at h
    split at h
    · next hx hi hs=>
      split at h
      case h_2=>cases h
      next k hk=>
      split at h
      case isFalse=>cases h
      next h0=>
      simp only [Option.some.injEq,Prod.mk.injEq] at h
      obtain ⟨rfl,rfl,rfl⟩:=h
      exact Ea hx hi hs hk h0
    · next hx hi hs=>
      split at h
      case h_2=>cases h
      next k hk=>
      split at h
      case isFalse=>cases h
      next h0=>
      simp only [Option.some.injEq,Prod.mk.injEq] at h
      obtain ⟨rfl,rfl,rfl⟩:=h
      exact CQ hx hi hs hk h0
    · cases h
  · next e=>
    first|(simp only at e;subst e)|subst e
    rcases mX h with h|h
    · unfold LG at h
      split at h
      case h_2=>cases h
      next hx hi hs=>
      split at h
      case h_2=>cases h
      next k hk=>
      split at h
      case isFalse=>cases h
      next h0=>
      obtain ⟨u,hu,rfl,rfl,rfl⟩:=qJ h
      exact Py hx hi hs hk h0 hu
    · exact nP h
  · next op t a b t2 e=>
    first|(simp only at e;subst e)|subst e
    rcases mX h with h|h
    · unfold XC at h
      split at h
      case h_2=>cases h
      next vx vy d hx hy hu=>
      split at h
      case isFalse=>cases h
      next hop=>
      split at h
      · next q hq=>
        split at h
        case isFalse=>cases h
        next hT=>
        simp only [Bool.and_eq_true] at hT
        simp only [Option.some.injEq,Prod.mk.injEq] at h
        obtain ⟨rfl,rfl,rfl⟩:=h
        exact KT hx hy hu hT.1 hT.2 hq hop
      · split at h
        case h_2=>cases h
        next m o m' p e2 _=>
        split at h
        case h_2=>cases h
        next k hk=>
        split at h
        case isFalse=>cases h
        next hc=>
        obtain ⟨rfl,h0⟩:=hc
        simp only [Option.some.injEq,Prod.mk.injEq] at h
        obtain ⟨rfl,rfl,rfl⟩:=h
        exact I4 hx hy hu hk h0 hop
    · exact nP h
  · next e=>
    first|(simp only at e;subst e)|subst e
    rcases mX h with h|h
    · unfold CY at h
      split at h
      · next hx hs ht=>
        split at h
        · next he=>
          split at h
          case isFalse=>cases h
          next hb=>
          simp only [Option.some.injEq,Prod.mk.injEq] at h
          obtain ⟨rfl,rfl,rfl⟩:=h
          exact Ve (k:= .u8) hx hs ht he hb
        · cases h
      · next hx hs ht=>
        split at h
        · next he=>
          split at h
          case h_2=>cases h
          next vs l' hv=>
          split at h
          case isFalse=>cases h
          next hl=>
          subst hl
          split at h
          case h_2=>cases h
          next ns hn=>
          simp only [Option.some.injEq,Prod.mk.injEq] at h
          obtain ⟨rfl,rfl,rfl⟩:=h
          exact Vg hx hs he ht hv hn
        · cases h
      · next hx hs ht=>
        split at h
        case isFalse=>cases h
        next hst=>
        split at h
        · next he hm=>
          split at h
          case isFalse=>cases h
          next h0=>
          simp only [Option.some.injEq,Prod.mk.injEq] at h
          obtain ⟨rfl,rfl,rfl⟩:=h
          rw [hst]
          exact Vf hx ht he hm h0
        · cases h
      · next hx hs ht=>
        split at h
        · next he=>
          simp only [Option.some.injEq,Prod.mk.injEq] at h
          obtain ⟨rfl,rfl,rfl⟩:=h
          exact Lm hx hs he ht
        · cases h
      · cases h
    · exact nP h
  · next e=>
    first|(simp only at e;subst e)|subst e
    unfold LH at h
    split at h
    case h_2=>cases h
    next v d hx hu=>
    split at h
    case isFalse=>cases h
    next hd=>
    simp only [Option.some.injEq,Prod.mk.injEq] at h
    obtain ⟨rfl,rfl,rfl⟩:=h
    exact xP hx hu hd
  · next e=>
    first|(simp only at e;subst e)|subst e
    unfold SX at h
    split at h
    case h_2=>cases h
    next fs cs h1 h2=>
    split at h
    case isFalse=>cases h
    next hf=>
    simp only [Option.some.injEq,Prod.mk.injEq] at h
    obtain ⟨rfl,rfl,rfl⟩:=h
    exact FI hf h1 h2
  · next e=>
    first|(simp only at e;subst e)|subst e
    unfold CZ at h
    split at h
    · simp only [Option.some.injEq,Prod.mk.injEq] at h
      obtain ⟨rfl,rfl,rfl⟩:=h
      exact I9
    · split at h
      case h_2=>cases h
      next hx hu=>
      simp only [Option.some.injEq,Prod.mk.injEq] at h
      obtain ⟨rfl,rfl,rfl⟩:=h
      exact FN hx hu
  · next e=>
    first|(simp only at e;subst e)|subst e
    unfold wJ at h
    split at h
    case h_2=>cases h
    next ka l kb c e ha hb hu=>
    split at h
    case h_2=>cases h
    next i hi=>
    split at h
    case isFalse=>cases h
    next hc=>
    split at h
    case h_2=>cases h
    next zs hz=>
    simp only [Option.some.injEq,Prod.mk.injEq] at h
    obtain ⟨rfl,rfl,rfl⟩:=h
    obtain ⟨h0,h1,h2,h3⟩:=hc
    obtain ⟨l',rfl⟩:∃l':Nat,l=(l':Int):=⟨l.toNat,by omega⟩
    obtain ⟨c',rfl⟩:∃c':Nat,c=(c':Int):=⟨c.toNat,by omega⟩
    exact Eb ha hb hu hi rfl (by omega) h2 h3 hz
  · next e=>
    first|(simp only at e;subst e)|subst e
    rcases mX h with h|h
    · unfold LJ at h
      split at h
      · next hx hu=>
        split at h
        case h_2=>cases h
        next k l hk hl=>
        split at h
        · split at h
          case h_2=>cases h
          next hh hhi=>
          split at h
          case isFalse=>cases h
          next hc=>
          split at h
          case h_2=>cases h
          next c' hcc=>
          simp only [Option.some.injEq,Prod.mk.injEq] at h
          obtain ⟨rfl,rfl,rfl⟩:=h
          exact PG hx hu hk hc.1 hl hhi hc.2.1 hc.2.2 hcc
        · split at h
          case h_1=>cases h
          split at h
          case h_2=>cases h
          next hh mm hhi hmm=>
          split at h
          case isFalse=>cases h
          next hc=>
          simp only [Option.some.injEq,Prod.mk.injEq] at h
          obtain ⟨rfl,rfl,rfl⟩:=h
          exact KZ hx hu hk hl hhi hmm (by simp) (by simp) hc.1 hc.2.1 hc.2.2
      · next hx hu=>
        split at h
        case h_2=>cases h
        next k l hh hk hl hhi _=>
        split at h
        case isFalse=>cases h
        next hc=>
        simp only [Option.some.injEq,Prod.mk.injEq] at h
        obtain ⟨rfl,rfl,rfl⟩:=h
        exact La hx hu hk hl hhi hc.1 hc.2
      · cases h
    · exact nP h
  · next e=>
    first|(simp only at e;subst e)|subst e
    unfold FU at h
    split at h
    case h_2=>cases h
    next vx vk hx hk=>
    obtain ⟨u,hu,rfl,rfl,rfl⟩:=qJ h
    exact Lp hx hk hu
  · next e=>
    first|(simp only at e;subst e)|subst e
    unfold yV at h
    split at h
    case h_2=>cases h
    next vx vk vv hx hk hv=>
    split at h
    case h_2=>cases h
    next δ' hd=>
    simp only [Option.some.injEq,Prod.mk.injEq] at h
    obtain ⟨rfl,rfl,rfl⟩:=h
    exact Ei hx hk hv hd
  · next e=>
    first|(simp only at e;subst e)|subst e
    unfold yV at h
    split at h
    case h_2=>cases h
    next vx vk vv hx hk hv=>
    split at h
    case h_2=>cases h
    next δ' hd=>
    simp only [Option.some.injEq,Prod.mk.injEq] at h
    obtain ⟨rfl,rfl,rfl⟩:=h
    exact Ej hx hk hv hd
  · next e=>
    first|(simp only at e;subst e)|subst e
    rcases mX h with h|h
    · unfold FV at h
      split at h
      case h_2=>cases h
      next s v d hx hu=>
      split at h
      case isFalse=>cases h
      next hd=>
      split at h
      · next hst=>
        subst hst
        rename_i hh
        simp only [Option.some.injEq,Prod.mk.injEq] at hh
        obtain ⟨rfl,rfl,rfl⟩:=hh
        exact CS hx hu hd
      · next hst=>
        split at h
        case isFalse=>cases h
        next hok=>
        split at h
        case h_2=>cases h
        next z hz=>
        simp only [Option.some.injEq,Prod.mk.injEq] at h
        obtain ⟨rfl,rfl,rfl⟩:=h
        rw [show _=true from hok]
        exact yP hx hst hu hd hz
    · exact nP h
  · next e=>
    first|(simp only at e;subst e)|subst e
    unfold C9 at h
    split at h
    case h_2=>cases h
    next vs hx=>
    obtain ⟨u,hu,rfl,rfl,rfl⟩:=qJ h
    exact IY hx hu
  · next e=>
    first|(simp only at e;subst e)|subst e
    rcases mX h with h|h
    · exact S9 hnm hcall h
    · unfold UK at h
      split at h
      · exact nP h
      · cases h
  · next e=>cases h
  · next e=>
    first|(simp only at e;subst e)|subst e
    rcases mX h with h|h
    · unfold XD at h
      split at h
      · next hx hu=>
        simp only [Option.some.injEq,Prod.mk.injEq] at h
        obtain ⟨rfl,rfl,rfl⟩:=h
        exact FK hx hu
      · next hx hu=>
        split at h
        · next hm=>
          simp only [Option.some.injEq,Prod.mk.injEq] at h
          obtain ⟨rfl,rfl,rfl⟩:=h
          exact Lr hx hu hm
        · cases h
      · cases h
    · exact nP h
  · next e=>
    first|(simp only at e;subst e)|subst e
    unfold FX at h
    split at h
    case h_2=>cases h
    next va vx ha hx=>
    rcases mX h with h|h
    · exact Le ha hx h
    · exact Ja ha hx h
  · next e=>
    first|(simp only at e;subst e)|subst e
    unfold SY at h
    split at h
    case h_2=>cases h
    next va vx ha hx=>
    exact SN ha hx h
  · exact nP h
end
end
end Go.V
namespace Go.V
noncomputable section
abbrev vO:=Program→kQ→(Operand→Option Value)→Tr→Nat→Oper→Option oZ
def LM (op : BinOp) (a b : Nat) : Option Value := match op with
  | .add => match Nat.ble (a + b) 9223372036854775807 with
    |true=>some (.int .i64 (.ofNat (Nat.add a b)))
    |false=>none
  | .sub => match Nat.ble b a, Nat.ble a 9223372036854775807 with
    |true,true=>some (.int .i64 (.ofNat (Nat.sub a b)))
    |_,_=>none
  | .eql=>some (.bool (Nat.beq a b))
  | .neq=>some (.bool (!Nat.beq a b))
  | .lss=>some (.bool (Nat.ble (Nat.succ a) b))
  | .leq=>some (.bool (Nat.ble a b))
  | .gtr=>some (.bool (Nat.ble (Nat.succ b) a))
  | .geq=>some (.bool (Nat.ble b a))
  |_=>none
def HY (op:BinOp) (a:Nat):Option Value→Option Value
 |some (.int .i64 (.ofNat b))=>LM op a b
 |_=>none
def yX (op:BinOp) (y:Option Value):Option Value→Option Value
 |some (.int .i64 (.ofNat a))=>HY op a y
 |_=>none
theorem fP (a:Nat) (h:a≤9223372036854775807):IntKind.wrap .i64 (Int.ofNat a)=Int.ofNat a:=by
 have h1:((Int.ofNat a)%(2^64:Int))=Int.ofNat a:=Int.emod_eq_of_lt (Int.natCast_nonneg a) (by have:(Int.ofNat a)=(a:Int):=rfl;rw [this];omega)
 have h2:¬((Int.ofNat a)≥(2^63:Int)):=by
  have:(Int.ofNat a)=(a:Int):=rfl
  rw [this]
  omega
 unfold IntKind.wrap
 change (if (true&&decide ((Int.ofNat a%(2^64:Int))≥(2^63:Int)))=true then (Int.ofNat a%(2^64:Int))-2^64 else (Int.ofNat a%(2^64:Int)))=_
 rw [h1,if_neg (by simpa using h2)]
theorem XE (a b:Nat):(Nat.beq a b=false)↔¬a=b:=by rw [←Bool.not_eq_true,Nat.beq_eq]
theorem FY {op : BinOp} {x y : Option Value} {v : Value} (h : yX op y x = some v) : ig v = true ∧ ∃ a b, x = some (.int .i64 a) ∧ y = some (.int .i64 b) ∧ ∀ (P : Program) (t : TypeId) (p q : Operand) (w : World), ((do eqGuard op t p q (.int .i64 a) (.int .i64 b); binOp op t (.int .i64 a) (.int .i64 b)) : Sem Value).run P w = .ok v w := by
  unfold yX at h
  split at h
  case h_2=>cases h
  next a=>
  unfold HY at h
  split at h
  case h_2=>cases h
  next b=>
  have hg:∀(P:Program) (t:TypeId) (p q:Operand) (w:World),(eqGuard op t p q (.int .i64 (.ofNat a)) (.int .i64 (.ofNat b))).run P w= .ok () w:=by
    intro P t p q w
    unfold eqGuard
    cases op<;>rfl
  have key:ig v=true∧∀(P:Program) (t:TypeId) (w:World),(binOp op t (.int .i64 (.ofNat a)) (.int .i64 (.ofNat b))).run P w= .ok v w:=by
    unfold LM at h
    split at h
    · split at h
      · next hle=>
        injection h with h
        subst h
        refine ⟨rfl,fun P t w=>?_⟩
        have:=fP (a+b) (Nat.le_of_ble_eq_true hle)
        simp only [binOp,Op.intArith,ne_eq,not_true_eq_false,if_false,Sem.run_pure]
        exact congrArg (fun z=>Result.ok (Value.int .i64 z) w) this
      · cases h
    · split at h
      · next hle hlt=>
        injection h with h
        subst h
        refine ⟨rfl,fun P t w=>?_⟩
        have hle:=Nat.le_of_ble_eq_true hle
        have hlt:=Nat.le_of_ble_eq_true hlt
        have:=fP (a-b) (by omega)
        simp only [binOp,Op.intArith,ne_eq,not_true_eq_false,if_false,Sem.run_pure]
        have hs:(Int.ofNat a-Int.ofNat b)=Int.ofNat (a-b):=by simp only [Int.ofNat_eq_natCast];omega
        rw [hs,this]
        rfl
      · cases h
    all_goals first
      |(cases h;done)
      | (injection h with h
         subst h
         refine ⟨rfl,fun P t w=>?_⟩
         simp only [binOp,Op.intCmp,ne_eq,not_true_eq_false,if_false,Sem.run_pure]
         congr 2
         rw [Bool.eq_iff_iff]
         simp only [beq_iff_eq,bne_iff_ne,ne_eq,decide_eq_true_eq,Nat.beq_eq,Nat.ble_eq,Int.ofNat_eq_natCast,Bool.not_eq_true',XE,ge_iff_le,gt_iff_lt,Nat.succ_le_iff]
         omega)
  exact ⟨key.1,_,_,rfl,rfl,fun P t p q w=>by rw [Sem.run_bind,hg,Result.andThen_ok,key.2]⟩
def Vj (x:Operand):vO:=fun P call ev H n o=>Jb n (ev x)
def XF (c a b:Operand):vO:=fun P call ev H n o=>SQ ev n c a b
def Vk (t:TypeId):vO:=fun P call ev H n o=>Ls P n t
def Zg (t:TypeId) (x:Operand):vO:=fun P call ev H n o=>XB ev n t x
def Vl (t:TypeId) (ps:Array (Nat×Operand)):vO:=fun P call ev H n o=>Lu P ev n t ps
def FZ (t:TypeId) (l:Nat) (ps:Array (Nat×Operand)):vO:=fun P call ev H n o=>ug P ev n t l ps
def XG (t:TypeId) (x:Operand):vO:=fun P call ev H n o=>SV P ev H n t x
def Vm (t:TypeId) (a x:Operand):vO:=fun P call ev H n o=>LC P ev H n t a x
def LP (x:Operand):vO:=fun P call ev H n o=>yU ev n x
def Jc (s:TypeId) (x:Operand) (f:Nat):vO:=fun P call ev H n o=>wH P ev n s x f
def Vo (t:TypeId) (x:Operand) (f:Nat):vO:=fun P call ev H n o=>LD P ev n t x f
def Jd (t:TypeId) (x i:Operand):vO:=fun P call ev H n o=>wI P ev n t x i
def Vp (t:TypeId) (x i:Operand):vO:=fun P call ev H n o=>orElse (LG P ev n t x i) (mG P ev o n)
def Tc (op:BinOp) (t:TypeId) (a b:Operand) (P:Program) (ev:Operand→Option Value) (n:Nat) (o:Oper):Option Value→Option oZ
 |some v=>some (some v,[],n)
 |none=>orElse (XC P ev n op t a b) (mG P ev o n)
def Zh (op:BinOp) (t:TypeId) (a b:Operand) (_:TypeId):vO:=fun P call ev H n o=>Tc op t a b P ev n o (yX op (ev b) (ev a))
def Td (P:Program) (ev:Operand→Option Value) (n:Nat) (o:Oper):Option Value→Option oZ
 |some (.bool b)=>some (some (.bool (!b)),[],n)
 |_=>mG P ev o n
def eUn (op:UnOp) (_:TypeId) (x:Operand):vO:=fun P call ev H n o=>match op with
 | .not=>Td P ev n o (ev x)
 |_=>mG P ev o n
def PN (s t:TypeId) (x:Operand):vO:=fun P call ev H n o=>orElse (CY P ev H n s t x) (mG P ev o n)
def Vq (t:TypeId) (x:Operand):vO:=fun P call ev H n o=>LH P ev n t x
def XH (fn:Fn) (a b:Array Operand):vO:=fun P call ev H n o=>SX ev n fn a b
def PO (t:TypeId) (r:Option Operand):vO:=fun P call ev H n o=>CZ P ev n t r
def Je (t:TypeId) (a b:Operand):vO:=fun P call ev H n o=>wJ P ev n t a b
def Vr (t:TypeId) (x:Operand) (lo hi mx:Option Operand):vO:=fun P call ev H n o=>orElse (LJ P ev n t x lo hi mx) (mG P ev o n)
def Tf (t:TypeId) (x i:Operand) (ok:Bool):vO:=fun P call ev H n o=>FU P ev H n t x i ok
def LQ (t:TypeId) (x k v:Operand):vO:=fun P call ev H n o=>yV P ev H n t x k v
def Ti (x:Operand) (_ t:TypeId) (ok:Bool):vO:=fun P call ev H n o=>orElse (FV P ev n x t ok) (mG P ev o n)
def PS (x:Operand) (i:Nat):vO:=fun P call ev H n o=>C9 ev n x i
def Vs (c:Call):vO:=fun P call ev H n o=>match c with
 |⟨.value f,args,_⟩=>orElse (En P call ev H n f args) (UK P ev n o)
 |⟨.invoke _ _,_,_⟩=>none
 |⟨.builtin .len,⟨[x]⟩,⟨[t]⟩⟩=>orElse (XD P ev H n x t) (mG P ev o n)
 |⟨.builtin .append,⟨[a,x]⟩,⟨[sT,xT]⟩⟩=>FX P ev H n a x sT xT
 |⟨.builtin .copy,⟨[a,x]⟩,⟨[dT,_]⟩⟩=>SY P ev H n a x dT
 |_=>mG P ev o n
def Vt:vO:=fun P call ev H n o=>mG P ev o n
def Tj:Op→vO
 | .move x=>Vj x
 | .assign x=>Vj x
 | .pick c a b=>XF c a b
 | .alloc t=>Vk t
 | .box t x=>Zg t x
 | .build t ps=>Vl t ps
 | .buildSlice t l ps=>FZ t l ps
 | .load t x=>XG t x
 | .store t a x=>Vm t a x
 | .nilCheck x=>LP x
 | .fieldAddr s x f=>Jc s x f
 | .field t x f=>Vo t x f
 | .indexAddr t x i=>Jd t x i
 | .index t x i=>Vp t x i
 | .binOp op t a b y=>Zh op t a b y
 | .unOp op t x=>eUn op t x
 | .convert s t x=>PN s t x
 | .makeInterface t x=>Vq t x
 | .makeFunc fn a b=>XH fn a b
 | .makeMap t r=>PO t r
 | .makeSlice t a b=>Je t a b
 | .slice t x lo hi mx=>Vr t x lo hi mx
 | .lookup t x i ok=>Tf t x i ok
 | .insert t x k v=>LQ t x k v
 | .mapUpdate t x k v=>LQ t x k v
 | .typeAssert x s t ok=>Ti x s t ok
 | .extract x i=>PS x i
 | .call c=>Vs c
 |_=>Vt
section
variable {P:Program} {call:kQ} {ev:Operand→Option Value} {H:Tr} {n:Nat}
theorem F5 (hnm : iM P) (hcall : ∀ f args H n v δ n', call f args H n = some (v, δ, n') → lW P f args H n v δ n') {o : Oper} {x : Option Value} {δ : Delta} {n' : Nat} (h : Tj o.op P call ev H n o = some (x, δ, n')) : jB P o ev H n x δ n' := by
  obtain ⟨dst,op,ty,pos,after,guard⟩:=o
  have slow:vop P call ev H n ⟨dst,op,ty,pos,after,guard⟩=some (x,δ,n')→jB P ⟨dst,op,ty,pos,after,guard⟩ ev H n x δ n':=LK hnm hcall
  cases op with
  | binOp op t a b y =>
    change Tc op t a b P ev n _ (yX op (ev b) (ev a))=_ at h
    cases hf:yX op (ev b) (ev a) with
    |none=>rw [hf] at h;exact slow h
    | some v =>
      rw [hf] at h
      simp only [Tc,Option.some.injEq,Prod.mk.injEq] at h
      obtain ⟨rfl,rfl,rfl⟩:=h
      obtain ⟨hp,i,j,ha,hb,hr⟩:=FY hf
      refine jB.val fun R w ρ hh he=>⟨v,ji v hp,?_⟩
      have h1:ρ a= .int .i64 i:=iL (he a _ ha) rfl
      have h2:ρ b= .int .i64 j:=iL (he b _ hb) rfl
      simp only [execOp,h1,h2,Sem.run_bind,hr,Result.andThen_ok,Sem.run_pure]
  | unOp op t y =>
    cases op with
    | not =>
      change Td P ev n _ (ev y)=_ at h
      unfold Td at h
      split at h
      · next b hb=>
        simp only [Option.some.injEq,Prod.mk.injEq] at h
        obtain ⟨rfl,rfl,rfl⟩:=h
        refine jB.val fun R w ρ hh he=>⟨.bool (!b), .bool _,?_⟩
        have h1:ρ y= .bool b:=iL (he y _ hb) rfl
        simp [execOp,h1,Op.unary]
      · exact slow h
    |_=>exact slow h
  | call c =>
    obtain ⟨callee,args,ats⟩:=c
    refine slow ?_
    rw [←h]
    change _=Vs _ P call ev H n _
    obtain ⟨l⟩:=args
    obtain ⟨k⟩:=ats
    cases callee with
    |builtin b=>cases b<;>(rcases l with _|⟨l1,_|⟨l2,_|⟨l3,l⟩⟩⟩<;>rcases k with _|⟨k1,_|⟨k2,_|⟨k3,k⟩⟩⟩<;>rfl)
    |_=>rfl
  |_=>exact slow h
theorem oJ {o:Oper} {w:World} {ρ:Operand→Value} (h:∀c,o.op≠ .call c):o.about P w ρ=none:=by
 obtain ⟨dst,op,ty,pos,after,guard⟩:=o
 unfold Oper.about
 cases op<;>first|rfl|exact (h _ rfl).elim
theorem uV {dst:Option Tmp} {b:Builtin} {args:Array Operand} {ats:Array TypeId} {ty:TypeId} {pos:String} {after:Array Edge} {guard:Option (Nat×Bool)} {w:World} {ρ:Operand→Value}:Oper.about P w ρ ⟨dst, .call ⟨.builtin b,args,ats⟩,ty,pos,after,guard⟩=none:=by
 simp only [Oper.about,resolve,Sem.run_pure,Target.leads]
theorem yY {R:Ren} {dst:Option Tmp} {f:Operand} {args:Array Operand} {ats:Array TypeId} {ty:TypeId} {pos:String} {after:Array Edge} {guard:Option (Nat×Bool)} {w:World} {ρ:Operand→Value} (he:∀y u,ev y=some u→VR R u (ρ y))
    (h:(∃g fs cs,ev f=some (.func (.func g) fs cs)∧g<P.funcs.size)∨(∃l fs cs,ev f=some (.func (.yield l) fs cs))∨(∃vs,ev f=some (.tuple vs))∨ev f=some .nilFunc):∀g,Oper.about P w ρ ⟨dst, .call ⟨.value f,args,ats⟩,ty,pos,after,guard⟩=some g→g<P.funcs.size:=by
  intro g hg
  rcases h with ⟨k,fs,cs,hf,hk⟩|⟨l,fs,cs,hf⟩|⟨vs,hf⟩|hf
  · have h1:=he f _ hf
    generalize hu:ρ f=u at h1
    cases h1 with
    | func e a b =>
      cases e
      simp only [Oper.about,resolve,hu,Deferred.ofValue,Sem.run_pure,Target.leads,Option.some.injEq] at hg
      exact hg▸hk
  · have h1:=he f _ hf
    generalize hu:ρ f=u at h1
    cases h1 with
    | func e a b =>
      cases e
      simp [Oper.about,resolve,hu,Deferred.ofValue,Sem.run_pure,Target.leads] at hg
  · have h1:=he f _ hf
    generalize hu:ρ f=u at h1
    cases h1
    simp [Oper.about,resolve,hu,Deferred.ofValue,stuck,Sem.run] at hg
  · have h1:=he f _ hf
    generalize hu:ρ f=u at h1
    cases h1
    simp [Oper.about,resolve,hu,Deferred.ofValue,Sem.run_pure,Target.leads] at hg
theorem uX {R:Ren} {o:Oper} {w:World} {ρ:Operand→Value} (he:∀y u,ev y=some u→VR R u (ρ y)) (h:rP P ev o.op=true):∀g,o.about P w ρ=some g→g<P.funcs.size:=by
  obtain ⟨dst,op,ty,pos,after,guard⟩:=o
  intro g hg
  by_cases hc:∃c,op= .call c
  · obtain ⟨⟨callee,args,ats⟩,rfl⟩:=hc
    cases callee with
    |builtin b=>rw [uV] at hg;cases hg
    |invoke r m=>cases h
    | value f =>
      refine yY he ?_ g hg
      simp only [rP] at h
      split at h
      · next k fs cs hk=>exact .inl ⟨k,fs,cs,hk,Nat.le_of_ble_eq_true h⟩
      · next l fs cs hk=>exact .inr (.inl ⟨l,fs,cs,hk⟩)
      · next vs hk=>exact .inr (.inr (.inl ⟨vs,hk⟩))
      · next hk=>exact .inr (.inr (.inr hk))
      · cases h
  · rw [oJ fun c e=>hc ⟨c,e⟩] at hg;cases hg
theorem yZ {R:Ren} {dst:Option Tmp} {f:Operand} {args:Array Operand} {ats:Array TypeId} {ty:TypeId} {pos:String} {after:Array Edge} {guard:Option (Nat×Bool)} {w:World} {ρ:Operand→Value} (he:∀y u,ev y=some u→VR R u (ρ y)) {r:Value×Delta×Nat} (h:Em P call ev H n f args=some r):
  ∀g,Oper.about P w ρ ⟨dst, .call ⟨.value f,args,ats⟩,ty,pos,after,guard⟩=some g→g<P.funcs.size:=by
 refine yY he ?_
 unfold Em at h
 split at h
 ·next g fs cs avs hf ha=>
  split at h
  case h_2=>cases h
  next fn hfn=>exact .inl ⟨g,fs,cs,hf,(Array.getElem?_eq_some_iff.1 hfn).1⟩
 ·next l cs avs hf ha=>exact .inr (.inl ⟨l,_,_,hf⟩)
 ·cases h
theorem Dc {R : Ren} {o : Oper} {w : World} {ρ : Operand → Value} (he : ∀ y u, ev y = some u → VR R u (ρ y)) {r : oZ} (h : vop P call ev H n o = some r ∨ Tj o.op P call ev H n o = some r) : ∀ g, o.about P w ρ = some g → g < P.funcs.size := by
  obtain ⟨dst,op,ty,pos,after,guard⟩:=o
  intro g hg
  by_cases hc:∃c,op= .call c
  · obtain ⟨⟨callee,args,ats⟩,rfl⟩:=hc
    cases callee with
    |builtin b=>rw [uV] at hg;cases hg
    | invoke r m =>
      rcases h with h|h
      · cases h
      · cases h
    | value f =>
      have h2:orElse (En P call ev H n f args) (UK P ev n ⟨dst, .call ⟨.value f,args,ats⟩,ty,pos,after,guard⟩)=some r:=by rcases h with h|h<;>exact h
      rcases mX h2 with h2|h2
      · obtain ⟨x,δ,n'⟩:=r
        obtain ⟨v,hv,_⟩:=Hz h2
        exact yZ he hv g hg
      · unfold UK at h2
        split at h2
        · next hab=>exact uX he hab g hg
        · cases h2
  · rw [oJ fun c e=>hc ⟨c,e⟩] at hg;cases hg
end
end
end Go.V
namespace Go.V
noncomputable section
inductive Tt where
 |leaf
 |node (v:Option Value) (l r:Tt)
noncomputable def Tt.get (t:Tt):Nat→Option Value:=Tt.rec (motive:=fun _=>Nat→Option Value) (fun _=>none) (fun v _ _ gl gr n=>Nat.rec v (fun k _=>Bool.rec (gr (Nat.div k 2)) (gl (Nat.div k 2)) (Nat.beq (Nat.mod k 2) 0)) n) t
def Tt.val:Tt→Option Value
 | .leaf=>none
 | .node v _ _=>v
def Tt.left:Tt→Tt
 | .leaf=> .leaf
 | .node _ l _=>l
def Tt.right:Tt→Tt
 | .leaf=> .leaf
 | .node _ _ r=>r
noncomputable def Tt.put (f:Nat):Tt→Nat→Option Value→Tt:=Nat.rec (motive:=fun _=>Tt→Nat→Option Value→Tt) (fun t _ _=>t)
 (fun _ put t n o => Tt.rec (motive := fun _ => Tt)
  (Nat.rec (.node o .leaf .leaf) (fun k _=>Bool.rec (.node none .leaf (put .leaf (Nat.div k 2) o)) (.node none (put .leaf (Nat.div k 2) o) .leaf) (Nat.beq (Nat.mod k 2) 0)) n)
  (fun v l r _ _ => Nat.rec (.node o l r) (fun k _ => Bool.rec (.node v l (put r (Nat.div k 2) o)) (.node v (put l (Nat.div k 2) o) r) (Nat.beq (Nat.mod k 2) 0)) n) t) f
noncomputable def Tt.set (t:Tt) (n:Nat) (o:Option Value):Tt:=t.put (n+1) n o
theorem Tt.FB (v:Option Value) (l r:Tt):(Tt.node v l r).get 0=v:=rfl
theorem Tt.CJ (v:Option Value) (l r:Tt) (n:Nat):(Tt.node v l r).get (n+1)=if n%2=0 then l.get (n/2) else r.get (n/2):=by
 change (Bool.rec (r.get (n/2)) (l.get (n/2)) (Nat.beq (n%2) 0):Option Value)=_
 cases h:Nat.beq (n%2) 0 with
 |true=>rw [if_pos (Nat.eq_of_beq_eq_true h)]
 |false=>rw [if_neg (Nat.ne_of_beq_eq_false h)]
theorem Tt.SA (f:Nat) (t:Tt) (o:Option Value):t.put (f+1) 0 o= .node o t.left t.right:=by cases t<;>rfl
theorem Tt.Pn (f:Nat) (t:Tt) (n:Nat) (o:Option Value):t.put (f+1) (n+1) o=if n%2=0 then .node t.val (t.left.put f (n/2) o) t.right else .node t.val t.left (t.right.put f (n/2) o):=by
 have:t.put (f+1) (n+1) o=Bool.rec (.node t.val t.left (t.right.put f (n/2) o)) (.node t.val (t.left.put f (n/2) o) t.right) (Nat.beq (n%2) 0):=by cases t<;>rfl
 rw [this]
 cases h:Nat.beq (n%2) 0 with
 |true=>rw [if_pos (Nat.eq_of_beq_eq_true h)]
 |false=>rw [if_neg (Nat.ne_of_beq_eq_false h)]
theorem Tt.lg (t:Tt) (n:Nat):t.get n=match n with|0=>t.val|n+1=>if n%2=0 then t.left.get (n/2) else t.right.get (n/2):=by
  cases t with
  | leaf => cases n with
    |zero=>rfl
    | succ n =>
      change none=if n%2=0 then none else none
      split<;>rfl
  | node v l r => cases n with
    |zero=>rfl
    |succ n=>rw [Tt.CJ];rfl
theorem Tt.get_put : ∀ (f : Nat) (t : Tt) (n m : Nat) (o : Option Value), n < f → (t.put f n o).get m = if m = n then o else t.get m := by
  intro f
  induction f with
  |zero=>intro t n m o h;omega
  | succ f ih =>
    intro t n m o h
    cases n with
    | zero =>
      rw [Tt.SA]
      cases m with
      |zero=>simp [Tt.FB]
      |succ m=>rw [if_neg (by omega),Tt.CJ,Tt.lg t]
    | succ n =>
      rw [Tt.Pn]
      by_cases hn:n%2=0
      · rw [if_pos hn]
        cases m with
        |zero=>rw [if_neg (by omega),Tt.FB,Tt.lg t]
        | succ m =>
          rw [Tt.CJ,Tt.lg t]
          simp only
          by_cases hm:m%2=0
          · rw [if_pos hm,if_pos hm,ih _ _ _ _ (by omega)]
            by_cases e:m=n
            · subst e;simp
            · rw [if_neg (by omega),if_neg (by omega)]
          · have hne:¬m+1=n+1:=fun e=>hm ((show n=m by omega)▸hn)
            rw [if_neg hm,if_neg hm,if_neg hne]
      · rw [if_neg hn]
        cases m with
        |zero=>rw [if_neg (by omega),Tt.FB,Tt.lg t]
        | succ m =>
          rw [Tt.CJ,Tt.lg t]
          simp only
          by_cases hm:m%2=0
          · have hne:¬m+1=n+1:=fun e=>hn ((show m=n by omega)▸hm)
            rw [if_pos hm,if_pos hm,if_neg hne]
          · rw [if_neg hm,if_neg hm,ih _ _ _ _ (by omega)]
            by_cases e:m=n
            · subst e;simp
            · rw [if_neg (by omega),if_neg (by omega)]
theorem Tt.lS (t:Tt) (n m:Nat) (o:Option Value):(t.set n o).get m=if m=n then o else t.get m:=Tt.get_put _ _ _ _ _ (by omega)
inductive VD where
 |col (m:Nat)
 |fn (g:FuncId) (args:List Value) (caps:List Value)
structure VS where
 T:Tt
 H:Tr
 n:Nat
 d:List Nat
 ds:List VD
inductive VE where
 |normal
 |exit (id:Nat)
 |ret
 |panic (v:Value)
inductive VO where
 |bad
 |ok (s:VS)
 |pan (v:Value) (s:VS)
def qh {α:Type} (n:Nat) (f:Nat→α):α:=match n with
 |0=>f 0
 |k+1=>f (Nat.succ k)
theorem y5 {α:Type} (n:Nat) (f:Nat→α):qh n f=f n:=by cases n<;>rfl
def LU {α:Type} (v:Option Value) (f:Option Value→α):α:=match v with
 |some (.int k (.ofNat n))=>qh n fun n=>f (some (.int k (.ofNat n)))
 |some (.int k (.negSucc n))=>qh n fun n=>f (some (.int k (.negSucc n)))
 |some (.bool true)=>f (some (.bool true))
 |some (.bool false)=>f (some (.bool false))
 |some (.slice (some ⟨m,q,none⟩) l c)=>qh m fun m=>qh q fun q=>qh l fun l=>qh c fun c=>f (some (.slice (some ⟨m,q,none⟩) l c))
 |some (.pointer (some ⟨m,q,none⟩))=>qh m fun m=>qh q fun q=>f (some (.pointer (some ⟨m,q,none⟩)))
 |v=>f v
theorem LV {α:Type} (v:Option Value) (f:Option Value→α):LU v f=f v:=by
 unfold LU
 split<;>simp only [y5]
def F6:Value→Bool
 | .bool _| .int _ _| .string _| .nilIface| .nilFunc=>true
 |v=>ig v
theorem Jf (v:Value):F6 v=ig v:=by
 unfold F6
 split<;>first|rfl|(unfold ig;rfl)
def evT (P : Program) (T : Tt) : Operand → Option Value
  | .tmp t=>T.get t
  | .const v => match F6 v with
    |true=>some v
    |false=>none
  | .global g => match Nat.ble (g + 1) P.globals.size with
    |true=>some (.pointer (some ⟨g,0,none⟩))
    |false=>none
  | .func f=>some (.func (.func f) #[] #[])
def wK (ops : Array Oper) (T : Tt) (o : Oper) : Option Bool := match o.guard with
  |none=>some true
  | some (j, want) => match (ops[j]?).bind (·.dst) with
    |none=>none
    | some d => match T.get d with
      |some (.bool b)=>some (b==want)
      |some (.tuple ⟨[]⟩)=>some false
      |_=>none
def AY (sz : Nat) (T : Tt) (dst : Option Tmp) (x : Option Value) : Option Tt := match dst with
  |none=>some T
  | some t => match Nat.ble (t + 1) sz with
    |true=>some (T.set t x)
    |false=>none
def dirty (n0 n1 : Nat) : Delta → List Nat → Option (List Nat)
  |[],d=>some d
  | (m, _) :: δ, d => match Nat.ble (m + 1) n0 with
    |true=>dirty n0 n1 δ (if d.elem m then d else m::d)
    | false => match Nat.ble (m + 1) n1 with
      |true=>dirty n0 n1 δ d
      |false=>none
section
variable (P:Program) (call:kQ) (sz n0:Nat)
inductive OpK where
 |mv (x:Operand)
 |call (f:Operand) (args:Array Operand)
 |panic (x:Operand)
 |defer (f:Operand) (args:Array Operand)
 |other
def kindOf:Op→OpK
 | .move x=> .mv x
 | .assign x=> .mv x
 | .call ⟨.value f,args,_⟩=> .call f args
 | .panic x=> .panic x
 | .defer ⟨.value f,args,_⟩=> .defer f args
 |_=> .other
def Vu (T:Option Tt) (H:Tr) (n:Nat) (d:List Nat) (ds:List VD):VO:=match T with
 |none=> .bad
 |some T=> .ok ⟨T,H,n,d,ds⟩
def YA (dst:Option Tmp) (T:Tt) (H:Tr) (n:Nat) (d:List Nat) (ds:List VD):Option Value→VO
 |none=> .bad
 |some v=>Vu (AY sz T dst (some v)) H n d ds
def LW (T:Tt) (H:Tr) (n1:Nat) (ds:List VD) (δ:Delta):Option (List Nat)→VO
 |none=> .bad
 |some d=> .ok ⟨T,H.ap δ,n1,d,ds⟩
def LX (T:Tt) (H:Tr) (n1:Nat) (d:List Nat) (ds:List VD):Delta→VO
 |[]=> .ok ⟨T,H,n1,d,ds⟩
 |p::δ=>LW T H n1 ds (p::δ) (dirty n0 n1 (p::δ) d)
def LY (H:Tr) (n1:Nat) (d:List Nat) (ds:List VD) (δ:Delta):Option Tt→VO
 |none=> .bad
 |some T=>LX n0 T H n1 d ds δ
def Df (dst:Option Tmp) (T:Tt) (H:Tr) (n1:Nat) (d:List Nat) (ds:List VD) (x:Option Value) (δ:Delta):Bool→VO
 |false=> .bad
 |true=>LU x fun x=>LY n0 H n1 d ds δ (AY sz T dst x)
def H8 (dst:Option Tmp) (T:Tt) (H:Tr) (n:Nat) (d:List Nat) (ds:List VD):Option oZ→VO
 |none=> .bad
 |some (x,δ,n1)=>qh n1 fun n1=>Df sz n0 dst T H n1 d ds x δ (Nat.ble n n1)
def Vw (p:Value) (T:Tt) (H:Tr) (n1:Nat) (ds:List VD) (δ:Delta):Option (List Nat)→VO
 |none=> .bad
 |some d=> .pan p ⟨T,H.ap δ,n1,d,ds⟩
def Vx (p:Value) (T:Tt) (H:Tr) (n1:Nat) (d:List Nat) (ds:List VD) (δ:Delta):Bool→VO
 |false=> .bad
 |true=>Vw p T H n1 ds δ (dirty n0 n1 δ d)
def QO (dst:Option Tmp) (T:Tt) (H:Tr) (n:Nat) (d:List Nat) (ds:List VD) (v:Value) (δ:Delta) (n1:Nat):Option Value→VO
 |none=>qh n1 fun n1=>Df sz n0 dst T H n1 d ds (some v) δ (Nat.ble n n1)
 |some p=>qh n1 fun n1=>Vx n0 p T H n1 d ds δ (Nat.ble n n1)
def LZ (dst:Option Tmp) (T:Tt) (H:Tr) (n:Nat) (d:List Nat) (ds:List VD):Option (Value×Delta×Nat)→VO
 |none=> .bad
 |some (v,δ,n1)=>QO sz n0 dst T H n d ds v δ n1 (wG v)
def QS (o:Oper) (T:Tt) (H:Tr) (n:Nat) (d:List Nat) (ds:List VD):Option (Value×Delta×Nat)→VO
 |none=>H8 sz n0 o.dst T H n d ds (UK P (evT P T) n o)
 |some r=>LZ sz n0 o.dst T H n d ds (some r)
def QT (T:Tt) (H:Tr) (n:Nat) (d:List Nat) (ds:List VD):Option Value→VO
 |some (.iface t v)=> .pan (.iface t v) ⟨T,H,n,d,ds⟩
 |_=> .bad
def L6 (dst:Option Tmp) (T:Tt) (H:Tr) (n:Nat) (d:List Nat) (ds:List VD) (avs:List Value):Option Value→VO
 |some (.func (.func g) fs cs)=>Vu (AY sz T dst (some undef)) H n d (.fn g (fs.toList++avs) cs.toList::ds)
 |_=> .bad
def QU (dst:Option Tmp) (T:Tt) (H:Tr) (n:Nat) (d:List Nat) (ds:List VD) (f:Option Value):Option (List Value)→VO
 |some avs=>L6 sz dst T H n d ds avs f
 |none=> .bad
def L8 (ro:Option Nat) (dst:Option Tmp) (T:Tt) (H:Tr) (n:Nat) (d:List Nat) (ds:List VD) (f:Operand) (args:Array Operand):VO:=match ro with
 |none=>QU sz dst T H n d ds (evT P T f) (evs (evT P T) args.toList)
 |some _=> .bad
def YB (ro:Option Nat) (o:Oper) (T:Tt) (H:Tr) (n:Nat) (d:List Nat) (ds:List VD):OpK→VO
 | .mv x=>YA sz o.dst T H n d ds (evT P T x)
 | .call f args=>QS P sz n0 o T H n d ds (Em P call (evT P T) H n f args)
 | .panic x=>QT T H n d ds (evT P T x)
 | .defer f args=>L8 P sz ro o.dst T H n d ds f args
 | .other=>H8 sz n0 o.dst T H n d ds (Tj o.op P call (evT P T) H n o)
def YC (ro : Option Nat) (o : Oper) (T : Tt) (H : Tr) (n : Nat) (d : List Nat) (ds : List VD) : Option Bool → VO
  |none=> .bad
  | some false => match rP P (evT P T) o.op with
    |true=>Vu (AY sz T o.dst (some undef)) H n d ds
    |false=> .bad
  |some true=>YB P call sz n0 ro o T H n d ds (kindOf o.op)
def UL (ro:Option Nat) (ops:Array Oper) (o:Oper):VS→VO
 |⟨T,H,n,d,ds⟩=>YC P call sz n0 ro o T H n d ds (wK ops T o)
def Tm (ro : Option Nat) (ops : Array Oper) : List Oper → VS → VO
  |[],s=> .ok s
  | o :: rest, s => match UL P call sz n0 ro ops o s with
    | .ok s=>Tm ro ops rest s
    |r=>r
def toN:Option VS→Option (VE×VS)
 |some s=>some (.normal,s)
 |none=>none
def toE:VO→Option (VE×VS)
 | .ok s=>some (.normal,s)
 | .pan v s=>some (.panic v,s)
 | .bad=>none
def L9 (ro:Option Nat) (ops:Array Oper) (drawn:Array Oper→VS→Option VS) (s:VS):Bool→Option (VE×VS)
 |true=>toN (drawn ops s)
 |false=>toE (Tm P call sz n0 ro ops ops.toList s)
def y7 (T:Tt):Nat→Nat→List Value
 |0,_=>[]
 |k+1,i=>(match T.get i with|some v=>v|none=>undef)::y7 T k (i+1)
def Tn (m : Nat) (o : Obj) : VS → Option VS
  | ⟨T, H, n, d, ds⟩ => match dirty n0 n [(m, some o)] d with
    |some d=>some ⟨T,H.set m (some o),n,d,ds⟩
    |none=>none
def newS (o:Obj):VS→VS
 |⟨T,H,n,d,ds⟩=>⟨T,H.set n (some o),Nat.succ n,d,ds⟩
def Vy:Option Code→Option VE
 |none=>some .normal
 |some .ret=>some .ret
 |some (.exit i)=>some (.exit i)
 |_=>none
def Vz (s:Option VS) (pe:Option Code):Option (VE×VS):=match s,Vy pe with
 |some s,some e=>some (e,s)
 |_,_=>none
def Tq:LoopState→Bool
 | .busy=>false
 |_=>true
def YD (L : Nat) (s : VS) : Option Obj → Option (VE × VS)
  | some (.loop ⟨st, pe, f, ts, ps, x, y, b⟩) => match Tq st with
    |true=>Vz (Tn n0 L (.loop ⟨.exhausted,pe,f,ts,ps,x,y,b⟩) s) pe
    |false=>none
  |_=>none
def F7 (L:Nat):VO→Option (VE×VS)
 | .ok s=>YD n0 L s (s.H.get L)
 | .pan v s=>some (.panic v,s)
 | .bad=>none
def rFn (L : Nat) (T : Tt) (H : Tr) (n : Nat) (d : List Nat) (ds : List VD) : Option Value → Option (VE × VS)
  | some (.func (.func g) fs cs) => match Nat.ble (g + 1) P.funcs.size with
    | true => match P.funcs[g]? with
      | some fn => match fn.body.isSome with
        |true=>F7 n0 L (LZ sz n0 none T H n d ds (call g (fs.toList++ .func (.yield L) ⟨[]⟩ ⟨[]⟩::cs.toList) H n))
        |false=>none
      |none=>none
    |false=>none
  |_=>none
def rGo (L:Nat) (f:Operand):VS→Option (VE×VS)
 |⟨T,H,n,d,ds⟩=>rFn P call sz n0 L T H n d ds (evT P T f)
def rIn (D:Nat) (f:Operand) (ps:Array Tmp) (x y:Code):VS→Option (VE×VS)
 |⟨T,H,n,d,ds⟩=>rGo P call sz n0 n f (newS (.loop ⟨.ready,none,P.funcs.size,⟨y7 T sz 0⟩,ps,x,y,D⟩) ⟨T,H,n,d,ds⟩)
def QV (f:Operand) (ps:Array Tmp) (x y:Code) (s:VS):Option Obj→Option (VE×VS)
 |some (.loop r)=>rIn P call sz n0 r.defers f ps x y s
 |_=>none
def QW (f:Operand) (ps:Array Tmp) (x y:Code):VS→Option (VE×VS)
 |⟨T,H,n,d,ds⟩=>rIn P call sz n0 n f ps x y ⟨T,H.set n (some (.deferred (some []))),Nat.succ n,d, .col n::ds⟩
def Mc (f:Operand) (ps:Array Tmp) (x y:Code) (s:VS):Option Nat→Option (VE×VS)
 |none=>QW P call sz n0 f ps x y s
 |some l=>QV P call sz n0 f ps x y s (s.H.get l)
def Xb (b:Code) (rec:Code→VS→Option (VE×VS)):Option (VE×VS)→Option (VE×VS)
 |some (.normal,s)=>rec b s
 |r=>r
def Md (a b:Code) (rec:Code→VS→Option (VE×VS)) (s:VS):Option Value→Option (VE×VS)
 |some (.bool true)=>rec a s
 |some (.bool false)=>rec b s
 |_=>none
def XI (c:Operand) (a b:Code) (rec:Code→VS→Option (VE×VS)):VS→Option (VE×VS)
 |⟨T,H,n,d,ds⟩=>Md a b rec ⟨T,H,n,d,ds⟩ (evT P T c)
def Me (i:Nat) (s:VS):Bool→Option (VE×VS)
 |true=>some (.normal,s)
 |false=>some (.exit i,s)
def QX (id:Nat):Option (VE×VS)→Option (VE×VS)
 |some (.exit i,s)=>Me i s (Nat.beq i id)
 |r=>r
def Tv (ro:Option Nat) (drawn:Array Oper→VS→Option VS) (rec:Code→VS→Option (VE×VS)):Code→VS→Option (VE×VS)
 | .skip,s=>some (.normal,s)
 | .label _,s=>some (.normal,s)
 | .region _ ops d,s=>L9 P call sz n0 ro ops drawn s d
 | .seq a b,s=>Xb b rec (rec a s)
 | .cond c a b,s=>XI P c a b rec s
 | .block id c,s=>QX id (rec c s)
 | .loop c,s=>Xb (.loop c) rec (rec c s)
 | .exit id,s=>some (.exit id,s)
 | .ret,s=>some (.ret,s)
 | .rangeFunc f ps x y,s=>Mc P call sz n0 f ps x y s ro
 |_,_=>none
def y8 (ro:Option Nat) (drawn:Array Oper→VS→Option VS):Nat→Code→VS→Option (VE×VS)
 |0=>fun _ _=>none
 |f+1=>Tv P call sz n0 ro drawn (y8 ro drawn f)
end
mutual
def names:Value→List Nat→List Nat
 | .pointer (some ⟨m,_,_⟩),l=>m::l
 | .slice (some ⟨m,_,_⟩) _ _,l=>m::l
 | .map (some m),l=>m::l
 | .func (.yield m) _ _,l=>m::l
 | .func _ ⟨fs⟩ ⟨cs⟩,l=>AZ fs (AZ cs l)
 | .iface _ v,l=>names v l
 | .agg ⟨cs⟩,l=>AZ cs l
 | .tuple ⟨cs⟩,l=>AZ cs l
 |_,l=>l
def AZ:List Value→List Nat→List Nat
 |[],l=>l
 |v::vs,l=>names v (AZ vs l)
end
def QY:List MapEntry→List Nat→List Nat
 |[],l=>l
 |e::es,l=>names e.val (QY es l)
def QZ:Obj→List Nat→List Nat
 | .cells cs _ _,l=>AZ cs.toList l
 | .map es _,l=>QY es.toList l
 | .mapIter (some m) _ _ _,l=>m::l
 |_,l=>l
def keep (H : Tr) (n0 n1 : Nat) : Nat → List Nat → Nat → Delta → Option Delta
  |0,_,_,_=>none
  | f + 1, work, seen, acc => match work with
    |[]=>some acc
    | m :: work => if m < n0 then keep H n0 n1 f work seen acc else if seen.testBit (m - n0) then keep H n0 n1 f work seen acc else
      match H.get m with
      |some o=>if m<n1 then keep H n0 n1 f (QZ o work) (seen|||(1<<<(m-n0))) ((m,some o)::acc) else none
      |none=>keep H n0 n1 f work seen acc
def Jg (H:Tr):List Nat→Delta
 |[]=>[]
 |m::l=>(m,H.get m)::Jg H l
def MB:Delta→List Nat→List Nat
 |[],l=>l
 |(_,some o)::δ,l=>QZ o (MB δ l)
 |_::δ,l=>MB δ l
def y9 (P : Program) (T : Tt) (H : Tr) : ResultVar → Option Value
  | .tmp t=>T.get t
  | .cell a t => match T.get a with
    |some (.pointer (some ⟨m,q,none⟩))=>I5 P H t m q
    |_=>none
def sQ (P : Program) (T : Tt) (H : Tr) : List ResultVar → Option (List Value)
  |[]=>some []
  | r :: rs => match y9 P T H r, sQ P T H rs with
    |some v,some vs=>some (v::vs)
    |_,_=>none
def tmpsOf:Nat→List Value→Tt→Tt
 |_,[],T=>T
 |i,v::vs,T=>tmpsOf (i+1) vs (T.set i (some v))
def VA (v:Value) (n:Nat) (old:Delta):Option Delta→Option (Value×Delta×Nat)
 |some new=>some (v,old++new,n)
 |none=>none
def Jh (n0:Nat) (H:Tr) (n:Nat) (v:Value) (old:Delta):Option (Value×Delta×Nat):=VA v n old (keep H n0 n 1000000 (names v (MB old [])) 0 [])
def Tz (n0:Nat) (H:Tr) (n:Nat) (d:List Nat):Option (List Value)→Option (Value×Delta×Nat)
 |none=>none
 |some [v]=>Jh n0 H n v (Jg H d)
 |some vs=>Jh n0 H n (.tuple ⟨vs⟩) (Jg H d)
def UM (P:Program) (fn:Func) (n0:Nat):VS→Option (Value×Delta×Nat)
 |⟨T,H,n,d,_⟩=>Tz n0 H n d (sQ P T H fn.results.toList)
def Xc (n0:Nat) (p:Value):VS→Option (Value×Delta×Nat)
 |⟨_,H,n,d,_⟩=>Jh n0 H n (.tuple ⟨[.chan none,p]⟩) (Jg H d)
structure SS where
 u:Option Value
 rv:Bool
 s:VS
section
variable (P:Program) (call:kQ) (sz n0:Nat)
def isRec:Op→Bool
 | .call ⟨.builtin .recover,⟨[]⟩,_⟩=>true
 |_=>false
def VB (dst : Option Tmp) (u : Option Value) (rec : Bool) : VS → Option SS
  | ⟨T, H, n, d, ds⟩ => match u, rec with
    | some v, false => match AY sz T dst (some v) with
      |some T=>some ⟨some v,true,⟨T,H,n,d,ds⟩⟩
      |none=>none
    | _, _ => match AY sz T dst (some .nilIface) with
      |some T=>some ⟨u,rec,⟨T,H,n,d,ds⟩⟩
      |none=>none
def toS (u:Option Value) (rec:Bool):VO→Option SS
 | .ok s=>some ⟨u,rec,s⟩
 |_=>none
def calm:Op→Bool
 | .move _| .assign _| .alloc _| .box .. | .load .. | .store .. | .fieldAddr .. | .field .. | .typeAssert .. | .extract .. | .binOp .. | .unOp .. | .makeInterface .. =>true
 |_=>false
def PU (ops : Array Oper) (o : Oper) : SS → Option SS
  | ⟨u, rec, s⟩ => match isRec o.op with
    | true => match wK ops s.T o with
      |some true=>VB sz o.dst u rec s
      |_=>none
    | false => match calm o.op with
      |true=>toS u rec (UL P (fun _ _ _ _=>none) sz n0 none ops o s)
      |false=>none
def Ji (ops : Array Oper) : List Oper → SS → Option SS
  |[],s=>some s
  | o :: rest, s => match PU P sz n0 ops o s with
    |some s=>Ji ops rest s
    |none=>none
def YE:Option SS→Option (VE×SS)
 |some s=>some (.normal,s)
 |none=>none
def YF (u:Option Value) (rec:Bool):Option (VE×VS)→Option (VE×SS)
 |some (e,s)=>some (e,⟨u,rec,s⟩)
 |none=>none
def VF (b:Code) (go:Code→SS→Option (VE×SS)):Option (VE×SS)→Option (VE×SS)
 |some (.normal,s)=>go b s
 |r=>r
def Q5 (a b:Code) (go:Code→SS→Option (VE×SS)) (s:SS):Option Value→Option (VE×SS)
 |some (.bool true)=>go a s
 |some (.bool false)=>go b s
 |_=>none
def MC (code:Code→VS→Option (VE×VS)) (go:Code→SS→Option (VE×SS)):Code→SS→Option (VE×SS)
 | .seq a b,s=>VF b go (go a s)
 | .cond c a b,s=>Q5 a b go s (evT P s.s.T c)
 | .region id ops false,s=>YE (Ji P sz n0 ops ops.toList s)
 |c,⟨u,rec,s⟩=>YF u rec (code c s)
def A8 (code:Code→VS→Option (VE×VS)):Nat→Code→SS→Option (VE×SS)
 |0=>fun _ _=>none
 |f+1=>MC P sz n0 code (A8 code f)
end
abbrev UN:=FuncId→List Value→Option Value→Tr→Nat→Option (Bool×Delta×Nat)
def rQ (n0 : Nat) (dc : UN) : List VD → Option Value → VS → Option (Option Value × VS)
  |[],u,s=>some (u,s)
  | .col m :: ds, u, s => match s.H.get m with
    | some (.deferred (some [])) => match Tn n0 m (.deferred none) s with
      |some s=>rQ n0 dc ds u s
      |none=>none
    |_=>none
  | .fn g avs cs :: ds, u, ⟨T, H, n, d, ds'⟩ => match dc g (avs ++ cs) u H n with
    | some (b, δ, n1) => match Nat.ble n n1, dirty n0 n1 δ d with
      |true,some d=>rQ n0 dc ds (match b with|true=>none|false=>u) ⟨T,H.ap δ,n1,d,ds'⟩
      |_,_=>none
    |none=>none
def Q7 (P:Program) (fn:Func) (n0:Nat):Option (Option Value×VS)→Option (Value×Delta×Nat)
 |some (none,s)=>UM P fn n0 s
 |some (some p,s)=>Xc n0 p s
 |none=>none
def Xd (P:Program) (fn:Func) (n0:Nat) (dc:UN):Option (VE×VS)→Option (Value×Delta×Nat)
 |some (.normal,s)=>Q7 P fn n0 (rQ n0 dc s.ds none s)
 |some (.ret,s)=>Q7 P fn n0 (rQ n0 dc s.ds none s)
 |some (.panic p,s)=>Q7 P fn n0 (rQ n0 dc s.ds (some p) s)
 |_=>none
def H9 (P : Program) (fn : Func) (n0 : Nat) (rec : Bool) : VS → Option (Bool × Delta × Nat)
  | ⟨T, H, n, d, []⟩ => match UM P fn n0 ⟨T, H, n, d, []⟩ with
    |some (_,δ,n')=>some (rec,δ,n')
    |none=>none
  |_=>none
def VG (P:Program) (fn:Func) (n0:Nat):Option (VE×SS)→Option (Bool×Delta×Nat)
 |some (.normal,⟨_,rec,s⟩)=>H9 P fn n0 rec s
 |some (.ret,⟨_,rec,s⟩)=>H9 P fn n0 rec s
 |_=>none
def Eo:Nat→List Value→Tt→Tt
 |_,[],T=>T
 |i,v::vs,T=>Eo (i+1) vs (match isU v with|true=>T|false=>T.set i (some v))
def Xe (sz : Nat) : List Tmp → List Value → Tt → Option Tt
  |[],[],T=>some T
  | p :: ps, v :: vs, T => match Nat.ble (p + 1) sz with
    |true=>Xe sz ps vs (T.set p (some v))
    |false=>none
  |_,_,_=>none
def MF:LoopState→Bool
 | .ready=>true
 |_=>false
def MG (n0 l : Nat) (s : VS) : Option Obj → Option VS
  | some (.loop ⟨st, pe, f, ts, ps, x, y, b⟩) => match MF st with
    |true=>Tn n0 l (.loop ⟨.busy,pe,f,ts,ps,x,y,b⟩) s
    |false=>none
  |_=>none
def Q8 (n0 l:Nat):Option (VE×VS)→Option VS
 |some (.normal,s)=>MG n0 l s (s.H.get l)
 |_=>none
def VH (n0:Nat) (j:Bool):Option VS→Option (Value×Delta×Nat)
 |some ⟨_,H,n,d,_⟩=>Jh n0 H n (.bool j) (Jg H d)
 |none=>none
def MH:Option Code→LoopState
 |none=> .ready
 |some _=> .done
def MI (n0 l:Nat) (jump:Option Code) (s:VS):Option Obj→Option (Value×Delta×Nat)
 |some (.loop ⟨_,_,f,ts,ps,x,y,b⟩)=>VH n0 jump.isNone (Tn n0 l (.loop ⟨MH jump,jump,f,ts,ps,x,y,b⟩) s)
 |_=>none
def XJ (n0 l:Nat):Option (VE×VS)→Option (Value×Delta×Nat)
 |some (.normal,s)=>MI n0 l none s (s.H.get l)
 |some (.ret,s)=>MI n0 l (some .ret) s (s.H.get l)
 |some (.exit i,s)=>MI n0 l (some (.exit i)) s (s.H.get l)
 |some (.panic p,⟨T,H,n,d,[]⟩)=>Xc n0 p ⟨T,H,n,d,[]⟩
 |_=>none
def MJ (code:Code→VS→Option (VE×VS)) (n0 l:Nat) (y:Code):Option VS→Option (Value×Delta×Nat)
 |some s=>XJ n0 l (code y s)
 |none=>none
def MK (code:Code→VS→Option (VE×VS)) (l:Nat) (H:Tr) (n:Nat) (x y:Code):Option Tt→Option (Value×Delta×Nat)
 |some T=>MJ code n l y (Q8 n l (code x ⟨T,H,n,[],[]⟩))
 |none=>none
def Ba (P : Program) (call : kQ) (drawn : kQ → Nat → Nat → Array Oper → VS → Option VS) : UN := fun g args u H n => match P.funcs[g]? with
  | some fn => match fn.body with
    |some c=>VG P fn n (A8 P (max args.length fn.ntmps) n (y8 P call (max args.length fn.ntmps) n none (drawn call (max args.length fn.ntmps) n) 100000) 100000 c ⟨u,false,⟨tmpsOf 0 args .leaf,H,n,[],[]⟩⟩)
    |none=>none
  |none=>none
def qK (P : Program) (drawn : kQ → Nat → Nat → Array Oper → VS → Option VS) : Nat → kQ
  |0=>fun _ _ _ _=>none
  | f + 1 => fun g args H n => match P.funcs[g]? with
    | none => match H.get (g - P.funcs.size) with
      | some (.loop ⟨_, _, k, ts, ps, x, y, _⟩) => match Nat.ble k P.funcs.size with
        |false=>none
        |true=>MK (y8 P (qK P drawn f) ts.size n (some (g-P.funcs.size)) (drawn (qK P drawn f) ts.size n) 100000) (g-P.funcs.size) H n x y (Xe ts.size ps.toList args (Eo 0 ts.toList .leaf))
      |_=>none
    | some fn => match fn.body with
      |none=>none
      |some c=>Xd P fn n (Ba P (qK P drawn f) drawn) (y8 P (qK P drawn f) (max args.length fn.ntmps) n none (drawn (qK P drawn f) (max args.length fn.ntmps) n) 100000 c ⟨tmpsOf 0 args .leaf,H,n,[],[]⟩)
end
end Go.V
namespace Go.V
noncomputable section
def TR (R:Ren) (sz:Nat) (T:Tt) (tmps:Array Value):Prop:=tmps.size=sz∧∀t v,T.get t=some v→∃u,tmps[t]?=some u∧VR R v u
section
variable {P:Program} {R R':Ren} {sz:Nat} {T T':Tt} {tmps:Array Value}
theorem TR.mono (h:R.le R') (k:TR R sz T tmps):TR R' sz T tmps:=⟨k.1,fun t v e=>by obtain ⟨u,a,b⟩:=k.2 t v e;exact ⟨u,a,b.mono h⟩⟩
theorem TR.put {a:Act} {dst:Option Tmp} {x:Option Value} {v:Value} (k:TR R sz T a.tmps) (h:AY sz T dst x=some T') (hx:okV R x v):TR R sz T' (a.put dst v).tmps:=by
  unfold AY at h
  cases dst with
  |none=>injection h with h;subst h;exact k
  | some t =>
    simp only at h
    split at h
    case h_2=>cases h
    next ht=>
    have ht:t<sz:=Nat.le_of_ble_eq_true ht
    injection h with h
    subst h
    refine ⟨by simpa [Act.put] using k.1,fun s y e=>?_⟩
    rw [Tt.lS] at e
    by_cases hs:s=t
    · subst hs
      rw [if_pos rfl] at e
      exact ⟨v,by simp [Act.put,k.1,ht],hx y e⟩
    · rw [if_neg hs] at e
      obtain ⟨u,a1,b1⟩:=k.2 s y e
      refine ⟨u,?_,b1⟩
      simp only [Act.put]
      rw [Array.getElem?_setIfInBounds_ne (fun e=>hs e.symm)]
      exact a1
theorem mY {S:Mem} {w:World} {a:Act} (hh:HR P R S w) (k:TR R sz T a.tmps):∀y u,evT P T y=some u→VR R u (a.eval y):=by
  intro y u e
  cases y with
  | tmp t =>
    obtain ⟨v,h1,h2⟩:=k.2 t u e
    simp only [Act.eval,Array.getD_eq_getD_getElem?,h1,Option.getD_some]
    exact h2
  | const v =>
    simp only [evT] at e
    split at e
    · next hp=>injection e with e;subst e;exact ji _ (by rw [←Jf];exact hp)
    · cases e
  | global g =>
    simp only [evT] at e
    split at e
    · next hg=>
      injection e with e
      subst e
      obtain ⟨r,hr⟩:=hh.glob g (Nat.le_of_ble_eq_true hg)
      exact .ptr (d:=(0,r)) hr
    · cases e
  | func f =>
    injection e with e
    subst e
    exact .func (.func f) .nil .nil
theorem o7 {ops : Array Oper} {o : Oper} {b : Bool} (h : wK ops T o = some b) (k : TR R sz T tmps) : Region.wanted o (yielded ops tmps) = b := by
  unfold wK at h
  unfold Region.wanted
  cases hg:o.guard with
  |none=>rw [hg] at h;injection h
  | some p =>
    obtain ⟨j,want⟩:=p
    rw [hg] at h
    simp only at h⊢
    cases hd:(ops[j]?).bind (·.dst) with
    |none=>rw [hd] at h;cases h
    | some d =>
      rw [hd] at h
      simp only at h
      have hy:yielded ops tmps j=match tmps[d]? with|some (.bool b)=>some b|_=>none:=by
        unfold yielded
        rw [hd]
        rfl
      rw [hy]
      split at h
      · next c hc=>
        obtain ⟨u,h1,h2⟩:=k.2 d _ hc
        cases h2
        rw [h1]
        injection h
      · next hc=>
        obtain ⟨u,h1,h2⟩:=k.2 d _ hc
        cases h2
        rw [h1]
        injection h
      · cases h
end
inductive DR (R:Ren):VD→Deferred→Prop
 |col {m b}:R m=some (b,0,0)→DR R (.col m) ⟨.collected b,#[]⟩
 |fn {g avs cs us vs}:VRs R avs us.toList→VRs R cs vs.toList→DR R (.fn g avs cs) ⟨.fn (.func g) vs,us⟩
inductive DsR (R:Ren):List VD→List Deferred→Prop
 |nil:DsR R [] []
 |cons {d e ds es}:DR R d e→DsR R ds es→DsR R (d::ds) (e::es)
theorem DR.mono {R R':Ren} (h:R.le R') {d:VD} {e:Deferred} (k:DR R d e):DR R' d e:=by
 cases k with
 |col e=>exact .col (h _ _ e)
 |fn a b=>exact .fn (a.mono h) (b.mono h)
theorem DsR.mono {R R':Ren} (h:R.le R'):∀{ds:List VD} {es:List Deferred},DsR R ds es→DsR R' ds es
 |_,_, .nil=> .nil
 |_,_, .cons a b=> .cons (a.mono h) (DsR.mono h b)
structure AtR (P:Program) (R0:Ren) (n0:Nat) (H0:Tr) (w0:World) (sz:Nat) (s:VS) (a:Act) (w:World) (R:Ren) (δ:Delta):Prop where
 post:Post R0 R n0 s.n H0.get δ w0 w
 heap:∀m,s.H.get m=ov H0.get δ m
 tmps:TR R sz s.T a.tmps
 defers:DsR R s.ds a.defers
 old:∀m∈s.d,(lk δ m).isSome
 all:∀m,(lk δ m).isSome→m∈s.d∨(n0≤m∧m<s.n)
def At (P:Program) (R0:Ren) (n0:Nat) (H0:Tr) (w0:World) (sz:Nat) (s:VS) (a:Act) (w:World):Prop:=∃R δ,AtR P R0 n0 H0 w0 sz s a w R δ
def AtV (P:Program) (R0:Ren) (n0:Nat) (H0:Tr) (w0:World) (sz:Nat) (s:VS) (v:Value) (u:Value) (a:Act) (w:World):Prop:=∃R δ,AtR P R0 n0 H0 w0 sz s a w R δ∧VR R v u
section
variable {P:Program} {R0 R R':Ren} {n0 N:Nat} {H0:Tr} {w0 w w':World} {sz:Nat} {s s':VS} {a:Act} {δ δ1:Delta}
theorem AtR.hr (hh:HR P R0 H0.get w0) (fr:Fr P R0 H0.get n0 N) (h:AtR P R0 n0 H0 w0 sz s a w R δ) (hN:s.n≤N):HR P R s.H.get w:=by
 have:s.H.get=ov H0.get δ:=funext h.heap
 rw [this]
 exact Post.up hh (fun _ _ e=>e) (fr.part (Nat.le_refl _) hN) h.post
theorem AtR.fresh (fr:Fr P R0 H0.get n0 N) (h:AtR P R0 n0 H0 w0 sz s a w R δ):Fr P R s.H.get s.n N:=by
  have hle:=h.post.le
  refine ⟨Nat.le_trans fr.1 hle,fun m h1 h2=>?_⟩
  have hf:=fr.2 m (by omega) h2
  refine ⟨by rw [h.post.ext m (.inr h1)];exact hf.1,?_⟩
  rw [h.heap]
  unfold ov
  cases hl:lk δ m with
  |none=>exact hf.2
  | some x =>
    rcases h.post.rng m (by rw [hl];rfl) with h3|h3
    · omega
    · rw [hf.2] at h3;cases h3
theorem o8 {n1 : Nat} : ∀ {δ : Delta} {d d' : List Nat}, dirty n0 n1 δ d = some d' → (∀ m ∈ d, m ∈ d') ∧ (∀ m ∈ d', m ∈ d ∨ (lk δ m).isSome) ∧ (∀ m, (lk δ m).isSome → m ∈ d' ∨ (n0 ≤ m ∧ m < n1))
  | [], d, d', h => by
    injection h with h
    subst h
    exact ⟨fun m h=>h,fun m h=> .inl h,fun m h=>by cases h⟩
  | (q, x) :: δ, d, d', h => by
    have hlk:∀m,(lk ((q,x)::δ) m).isSome↔(lk δ m).isSome∨m=q:=fun m=>by
      rw [lk]
      cases lk δ m with
      |some y=>simp
      |none=>by_cases e:m=q<;>simp [e]
    rw [dirty] at h
    split at h
    · next hq=>
      have hq:q<n0:=Nat.le_of_ble_eq_true hq
      obtain ⟨h1,h2,h3⟩:=o8 h
      refine ⟨fun m hm=>h1 m ?_,fun m hm=>?_,fun m hm=>?_⟩
      · split
        · exact hm
        · exact List.mem_cons_of_mem _ hm
      · rcases h2 m hm with h|h
        · split at h
          · exact .inl h
          · rcases List.mem_cons.1 h with h|h
            · exact .inr ((hlk m).2 (.inr h))
            · exact .inl h
        · exact .inr ((hlk m).2 (.inl h))
      · rcases (hlk m).1 hm with h|h
        · exact h3 m h
        · subst h
          refine .inl (h1 _ ?_)
          split
          · next he=>exact List.elem_iff.1 he
          · exact List.mem_cons_self
    · next hq=>
      have hq:¬q<n0:=fun h=>by have h2:Nat.ble (q+1) n0=true:=Nat.ble_eq_true_of_le h;rw [h2] at hq;cases hq
      split at h
      case h_2=>cases h
      next hq1=>
      have hq1:q<n1:=Nat.le_of_ble_eq_true hq1
      obtain ⟨h1,h2,h3⟩:=o8 h
      refine ⟨h1,fun m hm=>(h2 m hm).imp id fun h=>(hlk m).2 (.inl h),fun m hm=>?_⟩
      rcases (hlk m).1 hm with h|h
      · exact h3 m h
      · exact .inr (by omega)
theorem AtR.step' (hh:HR P R0 H0.get w0) (fr:Fr P R0 H0.get n0 N) (h:AtR P R0 n0 H0 w0 sz s a w R δ) {n1:Nat} {T:Tt} {d:List Nat} {a':Act} {ds:List VD}
    (hN:n1≤N) (p:Post R R' s.n n1 s.H.get δ1 w w') (hT:TR R' sz T a'.tmps) (hd:dirty n0 n1 δ1 s.d=some d) (hds:DsR R' ds a'.defers):AtR P R0 n0 H0 w0 sz ⟨T,s.H.ap δ1,n1,d,ds⟩ a' w' R' (δ++δ1):=by
  have hle:=p.le
  have hS:s.H.get=ov H0.get δ:=funext h.heap
  rw [hS] at p
  refine ⟨Post.trans hh (fr.part (Nat.le_refl _) hN) hle h.post p,fun m=>?_,hT,hds,fun m hm=>?_,fun m hm=>?_⟩
  · rw [Tr.yN,hS,rG]
  · rw [iy]
    cases hl:lk δ1 m with
    |some _=>rfl
    | none =>
      rcases (o8 hd).2.1 m hm with h1|h1
      · exact h.old m h1
      · rw [hl] at h1;cases h1
  · rw [iy] at hm
    cases hl:lk δ1 m with
    |some _=>exact (o8 hd).2.2 m (by rw [hl];rfl)
    | none =>
      rw [hl] at hm
      rcases h.all m hm with h1|h1
      · exact .inl ((o8 hd).1 m h1)
      · exact .inr ⟨h1.1,by simp only;omega⟩
theorem AtR.rle (fr:Fr P R0 H0.get n0 N) (h:AtR P R0 n0 H0 w0 sz s a w R δ) {n1:Nat} (hN:n1≤N) (p:Post R R' s.n n1 s.H.get δ1 w w'):R.le R':=p.rle ((h.fresh fr).part (Nat.le_refl _) hN)
theorem zf (a:Act) (dst:Option Tmp) (v:Value):(a.put dst v).defers=a.defers:=by cases dst<;>rfl
theorem AtR.step (hh:HR P R0 H0.get w0) (fr:Fr P R0 H0.get n0 N) (h:AtR P R0 n0 H0 w0 sz s a w R δ) {n1:Nat} {T:Tt} {d:List Nat} {x:Option Value} {v:Value} {dst:Option Tmp}
  (hN:n1≤N) (p:Post R R' s.n n1 s.H.get δ1 w w') (hT:AY sz s.T dst x=some T) (hd:dirty n0 n1 δ1 s.d=some d) (hx:okV R' x v):At P R0 n0 H0 w0 sz ⟨T,s.H.ap δ1,n1,d,s.ds⟩ (a.put dst v) w':=by
 have hle:=h.rle fr hN p
 exact ⟨R',_,h.step' hh fr hN p (TR.put (h.tmps.mono hle) hT hx) hd (by rw [zf];exact h.defers.mono hle)⟩
theorem AtR.TA (hh:HR P R0 H0.get w0) (fr:Fr P R0 H0.get n0 N) (h:AtR P R0 n0 H0 w0 sz s a w R δ) {n1:Nat} {d:List Nat}
  (hN:n1≤N) (p:Post R R' s.n n1 s.H.get δ1 w w') (hd:dirty n0 n1 δ1 s.d=some d):AtR P R0 n0 H0 w0 sz ⟨s.T,s.H.ap δ1,n1,d,s.ds⟩ a w' R' (δ++δ1):=
 h.step' hh fr hN p (h.tmps.mono (h.rle fr hN p)) hd (h.defers.mono (h.rle fr hN p))
theorem AtR.skip (h:AtR P R0 n0 H0 w0 sz s a w R δ) {T:Tt} {dst:Option Tmp} (hT:AY sz s.T dst (some undef)=some T):At P R0 n0 H0 w0 sz {s with T:=T} (a.put dst undef) w:=
 ⟨R,δ,h.post,h.heap,TR.put h.tmps hT (fun u e=>by injection e with e;subst e;exact ji _ rfl),by rw [zf];exact h.defers,h.old,h.all⟩
variable {call:kQ} {ops:Array Oper} {o:Oper} {Q:Exit→Act→World→Prop} {ro:Option Nat}
theorem F8 {T:Option Tt} {H:Tr} {n:Nat} {d:List Nat} {ds:List VD} {r:VO} (h:Vu T H n d ds=r) (hb:r≠ .bad):∃T',T=some T'∧r= .ok ⟨T',H,n,d,ds⟩:=by
 unfold Vu at h
 split at h
 ·exact (hb h.symm).elim
 ·exact ⟨_,rfl,h.symm⟩
theorem wL {dst : Option Tmp} {T : Tt} {H : Tr} {n n1 : Nat} {d : List Nat} {ds : List VD} {x : Option Value} {δ : Delta} {r : VO} (h : (qh n1 fun n1 => Df sz n0 dst T H n1 d ds x δ (Nat.ble n n1)) = r) (hb : r ≠ .bad) :
    ∃T' d',n≤n1∧AY sz T dst x=some T'∧dirty n0 n1 δ d=some d'∧r= .ok ⟨T',H.ap δ,n1,d',ds⟩:=by
  rw [y5] at h
  unfold Df at h
  split at h
  · exact (hb h.symm).elim
  · next hle=>
    rw [LV] at h
    unfold LY at h
    split at h
    · exact (hb h.symm).elim
    · next T' hT=>
      unfold LX at h
      split at h
      · exact ⟨T',d,Nat.le_of_ble_eq_true hle,hT,rfl,h.symm⟩
      · unfold LW at h
        split at h
        · exact (hb h.symm).elim
        · next d' hd=>exact ⟨T',d',Nat.le_of_ble_eq_true hle,hT,hd,h.symm⟩
theorem Ia {dst : Option Tmp} {T : Tt} {H : Tr} {n : Nat} {d : List Nat} {ds : List VD} {c : Option (Value × Delta × Nat)} {r : VO} (h : LZ sz n0 dst T H n d ds c = r) (hb : r ≠ .bad) :
    ∃v δ n1 d',c=some (v,δ,n1)∧n≤n1∧dirty n0 n1 δ d=some d'∧((wG v=none∧∃T',AY sz T dst (some v)=some T'∧r= .ok ⟨T',H.ap δ,n1,d',ds⟩)∨∃p,wG v=some p∧r= .pan p ⟨T,H.ap δ,n1,d',ds⟩):=by
  unfold LZ at h
  split at h
  · exact (hb h.symm).elim
  · next v δ n1=>
    unfold QO at h
    split at h
    · next hp=>
      obtain ⟨T',d',h1,h2,h3,h4⟩:=wL h hb
      exact ⟨v,δ,n1,d',rfl,h1,h3, .inl ⟨hp,T',h2,h4⟩⟩
    · next p hp=>
      rw [y5] at h
      unfold Vx at h
      split at h
      · exact (hb h.symm).elim
      · next hle=>
        unfold Vw at h
        split at h
        · exact (hb h.symm).elim
        · next d' hd=>exact ⟨v,δ,n1,d',rfl,Nat.le_of_ble_eq_true hle,hd, .inr ⟨p,hp,h.symm⟩⟩
theorem wM {r : VO} (h : UL P call sz n0 ro ops o s = r) (hb : r ≠ .bad) : (∃ T, wK ops s.T o = some false ∧ rP P (evT P s.T) o.op = true ∧ AY sz s.T o.dst (some undef) = some T ∧ r = .ok ⟨T, s.H, s.n, s.d, s.ds⟩) ∨ (wK ops s.T o = some true ∧ (
    (∃x δ n1 T d,(vop P call (evT P s.T) s.H s.n o=some (x,δ,n1)∨Tj o.op P call (evT P s.T) s.H s.n o=some (x,δ,n1))∧s.n≤n1∧AY sz s.T o.dst x=some T∧dirty n0 n1 δ s.d=some d∧r= .ok ⟨T,s.H.ap δ,n1,d,s.ds⟩)∨
    (∃f args ats v p δ n1 d,o.op= .call ⟨.value f,args,ats⟩∧Em P call (evT P s.T) s.H s.n f args=some (v,δ,n1)∧wG v=some p∧s.n≤n1∧dirty n0 n1 δ s.d=some d∧r= .pan p ⟨s.T,s.H.ap δ,n1,d,s.ds⟩)∨
    (∃x t v,o.op= .panic x∧evT P s.T x=some (.iface t v)∧r= .pan (.iface t v) s)∨
    (∃ f args ats g fs cs avs T, ro = none ∧ o.op = .defer ⟨.value f, args, ats⟩ ∧ evT P s.T f = some (.func (.func g) fs cs) ∧ evs (evT P s.T) args.toList = some avs ∧ AY sz s.T o.dst (some undef) = some T ∧ r = .ok ⟨T, s.H, s.n, s.d, .fn g (fs.toList ++ avs) cs.toList :: s.ds⟩))) := by
  obtain ⟨T0,H,n,d0,ds⟩:=s
  simp only [UL] at h
  unfold YC at h
  split at h
  · exact (hb h.symm).elim
  · next hw=>
    split at h
    · next hab=>
      obtain ⟨T,hT,hr⟩:=F8 h hb
      exact .inl ⟨T,hw,hab,hT,hr⟩
    · exact (hb h.symm).elim
  · next hw =>
    refine .inr ⟨hw,?_⟩
    unfold YB at h
    split at h
    · next x hk=>
      unfold YA at h
      split at h
      · exact (hb h.symm).elim
      · next v hv=>
        obtain ⟨T,hT,hr⟩:=F8 h hb
        refine .inl ⟨some v,[],n,T,d0, .inl ?_,Nat.le_refl _,hT,rfl,hr⟩
        obtain ⟨dst,op,ty,pos,after,guard⟩:=o
        simp only at hk hv⊢
        unfold kindOf at hk
        split at hk
        all_goals first
          |(injection hk with hk;subst hk;unfold vop;simp only [Jb,hv];done)
          |cases hk
    · next f args hk=>
      have hop:∃ats,o.op= .call ⟨.value f,args,ats⟩:=by
        unfold kindOf at hk
        split at hk
        all_goals first
          |(next e=>injection hk with h1 h2;subst h1 h2;exact ⟨_,e⟩)
          |cases hk
      obtain ⟨ats,hop⟩:=hop
      unfold QS at h
      split at h
      · next hnone=>
        unfold H8 at h
        split at h
        · exact (hb h.symm).elim
        · next x δ n1 hv=>
          obtain ⟨T',d',h1,h2,h3,h4⟩:=wL h hb
          refine .inl ⟨x,δ,n1,T',d', .inl ?_,h1,h2,h3,h4⟩
          obtain ⟨dst,op,ty,pos,after,guard⟩:=o
          simp only at hop
          subst hop
          unfold vop
          simp only [En,hnone,Hw,orElse]
          exact hv
      next rr hrr=>
      rw [←hrr] at h
      obtain ⟨v,δ,n1,d',h1,h2,h3,h4⟩:=Ia h hb
      rcases h4 with ⟨hp,T',hT,hr⟩|⟨p,hp,hr⟩
      · refine .inl ⟨some v,δ,n1,T',d', .inl ?_,h2,hT,h3,hr⟩
        obtain ⟨dst,op,ty,pos,after,guard⟩:=o
        simp only at hop
        subst hop
        unfold vop
        simp only [En,h1,Hw,hp,orElse]
      · exact .inr (.inl ⟨f,args,ats,v,p,δ,n1,d',hop,h1,hp,h2,h3,hr⟩)
    · next x hk=>
      have hop:o.op= .panic x:=by
        unfold kindOf at hk
        split at hk
        all_goals first
          |(next e=>injection hk with h1;subst h1;exact e)
          |cases hk
      unfold QT at h
      split at h
      · next t v hv=>exact .inr (.inr (.inl ⟨x,t,v,hop,hv,h.symm⟩))
      · exact (hb h.symm).elim
    · next f args hk=>
      have hop:∃ats,o.op= .defer ⟨.value f,args,ats⟩:=by
        unfold kindOf at hk
        split at hk
        all_goals first
          |(next e=>injection hk with h1 h2;subst h1 h2;exact ⟨_,e⟩)
          |cases hk
      obtain ⟨ats,hop⟩:=hop
      unfold L8 at h
      split at h
      · unfold QU at h
        split at h
        · next avs has=>
          unfold L6 at h
          split at h
          · next g fs cs hf=>
            obtain ⟨T,hT,hr⟩:=F8 h hb
            exact .inr (.inr (.inr ⟨f,args,ats,g,fs,cs,avs,T,rfl,hop,hf,has,hT,hr⟩))
          · exact (hb h.symm).elim
        · exact (hb h.symm).elim
      · exact (hb h.symm).elim
    · unfold H8 at h
      split at h
      · exact (hb h.symm).elim
      · next x δ n1 hv=>
        obtain ⟨T',d',h1,h2,h3,h4⟩:=wL h hb
        exact .inl ⟨x,δ,n1,T',d', .inr hv,h1,h2,h3,h4⟩
def VO.st:VO→Option VS
 | .ok s=>some s
 | .pan _ s=>some s
 | .bad=>none
theorem F9 {r:VO} (h:UL P call sz n0 ro ops o s=r) (hs:r.st=some s'):s.n≤s'.n:=by
 have hb:r≠ .bad:=fun e=>by rw [e] at hs;cases hs
 rcases wM h hb with ⟨T,_,_,_,rfl⟩|⟨_,⟨x,δ,n1,T,d,_,hle,_,_,rfl⟩|⟨f,args,ats,v,p,δ,n1,d,_,_,_,hle,_,rfl⟩|⟨x,t,v,_,_,rfl⟩|⟨f,args,ats,g,fs,cs,avs,T,_,_,_,_,_,rfl⟩⟩<;>(injection hs with hs;subst hs)
 ·exact Nat.le_refl _
 ·exact hle
 ·exact hle
 ·exact Nat.le_refl _
 ·exact Nat.le_refl _
theorem ML {r:Option Nat} {f:FuncId} {args:Array Value} {K:Ending→World→Prop} (h:CallsIn (FW P none) 0 P f args w K):CallsIn (FW P r) 0 P f args w K:=h
theorem MN {R:Ren} {H:Tr} {n n':Nat} {x:Option Value} {ρ:Operand→Value} (h:Res P R H n x δ n' w ((execOp ρ o).run P w)):∀c,o.op≠ .defer c:=by
 intro c hc
 simp only [execOp,hc,Sem.run_bind] at h
 cases hr:(resolve ρ c o.type).run P w with
 |ok d w'=>rw [hr] at h;exact h
 |halt y w'=>rw [hr] at h;exact h
theorem Q9 {R:Ren} {H:Tr} {n n':Nat} {x:Option Value} {rb:Option Nat} {K:Act→World→Prop} (ha:∀f,o.about P w a.eval=some f→f<P.funcs.size) (h:Res P R H n x δ n' w ((execOp a.eval o).run P w)) (hK:∀v w' R',okV R' x v→Post R R' n n' H.get δ w w'→K (a.put o.dst v) w'):o.wpIn (FW P rb) 0 P a w K Q:=by
 refine ⟨ha,?_⟩
 rw [Oper.semAt_eq _ _ _ (MN h)]
 generalize (execOp a.eval o).run P w=res at h
 unfold Res at h
 split at h
 ·next v w'=>
  obtain ⟨R',hx,hp⟩:=h
  exact hK _ _ R' hx hp
 ·next w'=>
  obtain ⟨rfl,R',hp⟩:=h
  exact hK _ _ R' (fun u e=>by cases e) hp
 ·next f args w1=>
  refine ⟨(fun h=>by cases h),ML (CallsIn.mono h fun e w' ⟨v,R',he,hx,hp⟩=>?_)⟩
  subst he
  exact hK _ _ R' hx hp
 ·next l f tmps x y w1=>
  refine ⟨(fun h=>by cases h),RoundIn.mono (F:=FW P rb) h fun e w' ⟨v,R',he,hx,hp⟩=>?_⟩
  subst he
  exact hK _ _ R' hx hp
 ·exact h.elim
theorem TB {rb:Option Nat} {K:Act→World→Prop} {C:Ending→World→Prop} (ha:∀f,o.about P w a.eval=some f→f<P.funcs.size) (h:Xa P C ((execOp a.eval o).run P w)) (hd:∀c,o.op≠ .defer c) (hK:∀e w',C e w'→(∃v,e= .returned v∧K (a.put o.dst v) w')∨∃ch,e= .panicked ch∧Q (.panic ch) a w'):o.wpIn (FW P rb) 0 P a w K Q:=by
 refine ⟨ha,?_⟩
 rw [Oper.semAt_eq _ _ _ hd]
 generalize (execOp a.eval o).run P w=res at h
 unfold Xa at h
 split at h
 ·next f args w1=>
  refine ⟨(fun h=>by cases h),ML (CallsIn.mono h fun e w' hc=>?_)⟩
  rcases hK e w' hc with ⟨v,rfl,hk⟩|⟨ch,rfl,hq⟩
  ·exact hk
  ·exact hq
 ·next l f tmps x y w1=>
  refine ⟨(fun h=>by cases h),RoundIn.mono (F:=FW P rb) h fun e w' hc=>?_⟩
  rcases hK e w' hc with ⟨v,rfl,hk⟩|⟨ch,rfl,hq⟩
  ·exact hk
  ·exact hq
 ·exact h.elim
def VOk (P:Program) (R0:Ren) (n0:Nat) (H0:Tr) (w0:World) (sz:Nat) (K:VS→Act→World→Prop) (Q:Exit→Act→World→Prop):VO→Prop
 | .bad=>False
 | .ok s=>∀a w,At P R0 n0 H0 w0 sz s a w→K s a w
 | .pan v s=>∀u a w,AtV P R0 n0 H0 w0 sz s v u a w→Q (.panic [{v:=u,recovered:=false}]) a w
theorem MO {rb : Option Nat} (hro : ro = none → rb = none) (hnm : iM P) (hcall : ∀ f args H n v δ n', call f args H n = some (v, δ, n') → lW P f args H n v δ n') (hh : HR P R0 H0.get w0) {r : VO} (h : UL P call sz n0 ro ops o s = r)
    (fr:Fr P R0 H0.get n0 N) (hN:s'.n≤N) (hs:r.st=some s') (hA:At P R0 n0 H0 w0 sz s a w) {K:Act→World→Prop} (hV:VOk P R0 n0 H0 w0 sz (fun _=>K) Q r):
    if Region.wanted o (yielded ops a.tmps) then o.wpIn (FW P rb) 0 P a w K Q else (∀f,o.about P w a.eval=some f→(FW P rb).fn f)∧K (a.put o.dst undef) w:=by
  have hb:r≠ .bad:=fun e=>by rw [e] at hs;cases hs
  obtain ⟨R,δ,hA⟩:=hA
  rcases wM h hb with ⟨T,hw,hab,hT,rfl⟩|⟨hw,hc⟩
  · rw [o7 hw hA.tmps]
    simp only [Bool.false_eq_true,if_false]
    injection hs with hs
    subst hs
    exact ⟨uX (mY (hA.hr hh fr hN) hA.tmps) hab,hV _ _ (hA.skip hT)⟩
  rw [o7 hw hA.tmps]
  simp only [if_true]
  rcases hc with ⟨x,δ1,n1,T,d,hv,hle,hT,hd,rfl⟩|⟨f,args,ats,v,p,δ1,n1,d,hop,hc,hp,hle,hd,rfl⟩|⟨x,t,v,hop,hv,rfl⟩|⟨f,args,ats,g,fs,cs,avs,T,VI,hop,hf,has,hT,rfl⟩<;>(injection hs with hs;subst hs)
  · simp only at hN
    have hr:=hA.hr hh fr (Nat.le_trans hle hN)
    have hok:jB P o (evT P s.T) s.H s.n x δ1 n1:=by
      rcases hv with hv|hv
      · exact LK hnm hcall hv
      · exact F5 hnm hcall hv
    have hab:∀f,o.about P w a.eval=some f→f<P.funcs.size:=Dc (mY hr hA.tmps) hv
    exact Q9 hab (hok R w a.eval hr ((hA.fresh fr).part (Nat.le_refl _) hN) (mY hr hA.tmps)) fun u w' R' hx hp=>hV _ _ (hA.step hh fr hN hp hT hd hx)
  · simp only at hN
    have hr:=hA.hr hh fr (Nat.le_trans hle hN)
    obtain ⟨dst,op,ty,pos,after,guard⟩:=o
    simp only at hop
    subst hop
    refine TB (yZ (mY hr hA.tmps) hc) (Hy hnm hcall hc hr ((hA.fresh fr).part (Nat.le_refl _) hN) (mY hr hA.tmps)) (fun c e=>by cases e) fun e w' hcp=>?_
    unfold pI at hcp
    rw [hp] at hcp
    obtain ⟨u,R',rfl,hu,hpo⟩:=hcp
    exact .inr ⟨_,rfl,hV _ _ _ ⟨R',_,hA.TA hh fr hN hpo hd,hu⟩⟩
  · have hr:=hA.hr hh fr hN
    have h1:=mY hr hA.tmps x _ hv
    have hu:∃u,a.eval x= .iface t u∧VR R v u:=by
      generalize a.eval x=y at h1
      cases h1 with
      |iface e=>exact ⟨_,rfl,e⟩
    obtain ⟨u,hu,hvu⟩:=hu
    refine ⟨fun f hf=>(by rw [oJ (fun c e=>by rw [hop] at e;cases e)] at hf;cases hf),?_⟩
    rw [Oper.semAt_eq _ _ _ (fun c e=>by rw [hop] at e;cases e)]
    have hrun:(execOp a.eval o).run P w= .halt (.panic (.iface t u)) w:=by
      obtain ⟨dst,op,ty,pos,after,guard⟩:=o
      simp only at hop
      subst hop
      simp only [execOp,hu,Instr.panic,Sem.run_bind]
      rfl
    rw [hrun]
    exact hV _ _ _ ⟨R,δ,hA, .iface hvu⟩
  · have hr:=hA.hr hh fr hN
    obtain rfl:=hro VI
    have h1:=mY hr hA.tmps f _ hf
    have hu:∃gs ds,a.eval f= .func (.func g) gs ds∧VRs R fs.toList gs.toList∧VRs R cs.toList ds.toList:=by
      generalize a.eval f=u at h1
      cases h1 with
      | func e a b =>
        cases e with
        |func f=>exact ⟨_,_,rfl,a,b⟩
    obtain ⟨gs,es,hu,hgs,hes⟩:=hu
    have has:=Az (mY hr hA.tmps) has
    refine ⟨fun f hf=>(by rw [oJ (fun c e=>by rw [hop] at e;cases e)] at hf;cases hf),?_⟩
    have hrun:(o.semAt (FW P none).round a.eval).run P w= .ok (.defer ⟨.fn (.func g) es,gs++args.map a.eval⟩) w:=by
      obtain ⟨dst,op,ty,pos,after,guard⟩:=o
      simp only at hop
      subst hop
      rw [show (FW P none).round=none from rfl,Oper.semAt_none]
      simp only [execOp,resolve,hu,Deferred.ofValue,Sem.run_bind,Sem.run_pure,Result.andThen_ok]
    rw [hrun]
    refine hV _ _ ⟨R,δ,hA.post,hA.heap,?_,?_,hA.old,hA.all⟩
    · exact TR.put (a:={a with defers:=_::a.defers}) hA.tmps hT (fun u e=>by injection e with e;subst e;exact ji _ rfl)
    · rw [zf]
      refine .cons (.fn ?_ hes) hA.defers
      rw [Array.toList_append,Array.toList_map]
      exact hgs.append has
theorem Dh:∀{l:List Oper} {s:VS} {r:VO},Tm P call sz n0 ro ops l s=r→r.st=some s'→s.n≤s'.n
  |[],s,r,h,hs=>by subst h;injection hs with hs;subst hs;exact Nat.le_refl _
  | o :: l, s, r, h, hs => by
    rw [Tm] at h
    split at h
    · next s1 h1=>exact Nat.le_trans (F9 h1 rfl) (Dh h hs)
    · next h1=>exact F9 h hs
theorem Gf {rb:Option Nat} (hro:ro=none→rb=none) (hnm:iM P) (hcall:∀f args H n v δ n',call f args H n=some (v,δ,n')→lW P f args H n v δ n') (hh:HR P R0 H0.get w0) (fr:Fr P R0 H0.get n0 N) {r:VO} (hs:r.st=some s') (hN:s'.n≤N)
    (hV:VOk P R0 n0 H0 w0 sz (fun _=>Q .normal) Q r):∀{l:List Oper} {s:VS} {a:Act} {w:World},Tm P call sz n0 ro ops l s=r→At P R0 n0 H0 w0 sz s a w→∀k:List Nat,k.map (fun i=>ops[i]?)=l.map some→wpOpsIn (FW P rb) 0 P ops Q k a w
  | [], s, a, w, h, hA, k, hk => by
    subst h
    have:k=[]:=by simpa using hk
    subst this
    exact hV _ _ hA
  |o::l,s,a,w,h,hA,[],hk=>by simp at hk
  | o :: l, s, a, w, h, hA, i :: k, hk => by
    simp only [List.map_cons,List.cons.injEq] at hk
    rw [Tm] at h
    have hgoal:∀K,(if Region.wanted o (yielded ops a.tmps) then o.wpIn (FW P rb) 0 P a w K Q else (∀f,o.about P w a.eval=some f→(FW P rb).fn f)∧K (a.put o.dst undef) w)→K=wpOpsIn (FW P rb) 0 P ops Q k→wpOpsIn (FW P rb) 0 P ops Q (i::k) a w:=by
      intro K hKK e
      subst e
      simp only [wpOpsIn,hk.1]
      exact hKK
    split at h
    · next s1 h1=>
      exact hgoal _ (MO hro hnm hcall hh h1 fr (Nat.le_trans (Dh h hs) hN) rfl hA fun a w hA=>Gf hro hnm hcall hh fr hs hN hV h hA k hk.2) rfl
    · next hne=>
      refine hgoal _ (MO hro hnm hcall hh h fr hN hs hA ?_) rfl
      cases r with
      |bad=>cases hs
      |ok s2=>exact (hne s2 h).elim
      |pan v s2=>exact hV
end
end
end Go.V
namespace Go.V
noncomputable section
def COk (P:Program) (R0:Ren) (n0:Nat) (H0:Tr) (w0:World) (sz:Nat) (e:VE) (s':VS):Exit→Act→World→Prop:=match e with
 | .normal=>fun e' a w=>e'= .normal∧At P R0 n0 H0 w0 sz s' a w
 | .exit i=>fun e' a w=>e'= .exit i∧At P R0 n0 H0 w0 sz s' a w
 | .ret=>fun e' a w=>e'= .ret∧At P R0 n0 H0 w0 sz s' a w
 | .panic v=>fun e' a w=>∃u,e'= .panic [{v:=u,recovered:=false}]∧AtV P R0 n0 H0 w0 sz s' v u a w
section
variable {P:Program} {R0 R R':Ren} {n0 N:Nat} {H0:Tr} {w0 w w':World} {sz:Nat} {s s':VS} {a:Act} {δ δ1:Delta}
theorem MP {n0 n1 m:Nat} {o:Option Obj} {d:List Nat} (h1:n0≤m) (h2:m<n1):dirty n0 n1 [(m,o)] d=some d:=by
 have e1:Nat.ble (m+1) n0=false:=by
  cases h:Nat.ble (m+1) n0 with
  |false=>rfl
  |true=>have:=Nat.le_of_ble_eq_true h;omega
 have e2:Nat.ble (m+1) n1=true:=Nat.ble_eq_true_of_le h2
 simp only [dirty,e1,e2]
theorem AtR.new (hh:HR P R0 H0.get w0) (fr:Fr P R0 H0.get n0 N) (h:AtR P R0 n0 H0 w0 sz s a w R δ) {o o':Obj} {ds:List VD} {a':Act} (hN:s.n+1≤N) (ho:OR (R.add s.n (w.heap.size,(0,0))) (0,0) o o') (ht:a'.tmps=a.tmps)
  (hds:DsR (R.add s.n (w.heap.size,(0,0))) ds a'.defers):AtR P R0 n0 H0 w0 sz ⟨s.T,s.H.set s.n (some o),Nat.succ s.n,s.d,ds⟩ a' (w.alloc o') (R.add s.n (w.heap.size,(0,0))) (δ++[(s.n,some o)]):=by
 have fr1:=(h.fresh fr).part (Nat.le_refl _) hN
 have p:=Post.mk1 (w:=w) fr1 ho
 exact h.step' hh fr hN p (by rw [ht];exact h.tmps.mono (p.rle fr1)) (MP h.post.le (by omega)) hds
theorem zh {m:Nat} {o:Obj} (h:Tn n0 m o s=some s'):∃d,dirty n0 s.n [(m,some o)] s.d=some d∧s'=⟨s.T,s.H.set m (some o),s.n,d,s.ds⟩:=by
 obtain ⟨T,H,n,d,ds⟩:=s
 simp only [Tn] at h
 split at h
 ·next d' hd=>injection h with h;exact ⟨d',hd,h.symm⟩
 ·cases h
theorem AtR.set (hh:HR P R0 H0.get w0) (fr:Fr P R0 H0.get n0 N) (h:AtR P R0 n0 H0 w0 sz s a w R δ) {m b:Nat} {dd:Nat×Nat} {o1 o o':Obj} (hN:s.n≤N) (hS:s.H.get m=some o1) (hR:R m=some (b,dd)) (hb:b<w.heap.size) (ho:OR R dd o o')
  (hs:Tn n0 m o s=some s'):AtR P R0 n0 H0 w0 sz s' a (w.putObj b o') R (δ++[(m,some o)]):=by
 obtain ⟨d,hd,rfl⟩:=zh hs
 have hr:=h.hr hh fr hN
 exact h.step' hh fr hN (Post.set1 hr hS hR hb ho) h.tmps hd h.defers
theorem AtR.loop (hh:HR P R0 H0.get w0) (fr:Fr P R0 H0.get n0 N) (h:AtR P R0 n0 H0 w0 sz s a w R δ) (hN:s.n≤N) {l b:Nat} {st:LoopState} {pe:Option Code} {f:FuncId} {ts:Array Value} {ps:Array Tmp} {x y:Code} {D:Nat}
  (hS:s.H.get l=some (.loop ⟨st,pe,f,ts,ps,x,y,D⟩)) (hR:R l=some (b,0,0)):∃g us c,w.heap[b]?=some (.loop ⟨st,pe,g,us,ps,x,y,c⟩)∧g<f∧FC R ts us∧R D=some (c,0,0):=by
 obtain ⟨b',d,o',h1,h2,h3⟩:=(h.hr hh fr hN).obj l _ hS
 rw [hR] at h1
 injection h1 with h1
 injection h1 with h1 h4
 subst h1
 cases h3 with
 |loop hg ht hd=>exact ⟨_,_,_,h2,hg,ht,hd⟩
theorem Ep (T:Tt):∀(k i:Nat),(y7 T k i).length=k
 |0,i=>rfl
 |k+1,i=>by rw [y7,List.length_cons,Ep T k]
theorem Es (T:Tt):∀(k i j:Nat) (v:Value),(y7 T k i)[j]?=some v→isU v=false→T.get (i+j)=some v
  |0,i,j,v,h,hv=>by simp [y7] at h
  | k + 1, i, j, v, h, hv => by
    rw [y7] at h
    cases j with
    | zero =>
      simp only [List.getElem?_cons_zero,Option.some.injEq] at h
      split at h
      · next u hu=>subst h;exact hu
      · subst h;cases hv
    | succ j =>
      have:=Es T k (i+1) j v (by simpa using h) hv
      rw [show i+(j+1)=i+1+j by omega];exact this
theorem PV {T:Tt} {tmps:Array Value} (h:TR R sz T tmps):FC R ⟨y7 T sz 0⟩ tmps:=by
 refine ⟨by simp [Ep,h.1],fun i v hv hu=>?_⟩
 have:=Es T sz 0 i v (by simpa using hv) hu
 rw [Nat.zero_add] at this
 exact h.2 i v this
theorem FC.mono (h:R.le R') {ts us:Array Value} (k:FC R ts us):FC R' ts us:=⟨k.1,fun i v a b=>by obtain ⟨u,c,d⟩:=k.2 i v a b;exact ⟨u,c,d.mono h⟩⟩
variable {call:kQ} {Q:Exit→Act→World→Prop} {rb:Option Nat}
theorem Rf (hnm:iM P) (hcall:∀f args H n v δ n',call f args H n=some (v,δ,n')→lW P f args H n v δ n') (hh:HR P R0 H0.get w0) {L l:Nat} {T:Tt} {H:Tr} {n:Nat} {d:List Nat} {ds:List VD} {fv:Option Value} {e:VE}
    (h:rFn P call sz n0 L T H n d ds fv=some (e,s')):n≤s'.n∧∀N,Fr P R0 H0.get n0 N→s'.n≤N→∀(a:Act) (w:World) (R:Ren) (δ:Delta),AtR P R0 n0 H0 w0 sz ⟨T,H,n,d,ds⟩ a w R δ→R L=some (l,0,0)→∀fu,(∀v,fv=some v→VR R v fu)→
      ∃g gs es,fu= .func (.func g) gs es∧(∃fn,P.funcs[g]?=some fn∧fn.body.isSome)∧CallsIn (FW P none) 0 P g (gs++#[.func (.yield l) #[] #[]]++es) w (rangePost (FW P rb) 0 P l (COk P R0 n0 H0 w0 sz e s') a):=by
  unfold rFn at h
  split at h
  case h_2=>cases h
  next g fs cs=>
  split at h
  case h_2=>cases h
  next hg=>
  split at h
  case h_2=>cases h
  next fn hfn=>
  split at h
  case h_2=>cases h
  next hbody=>
  have hg:=Nat.le_of_ble_eq_true hg
  generalize hgc:LZ sz n0 none T H n d ds (call g (fs.toList++ .func (.yield L) ⟨[]⟩ ⟨[]⟩::cs.toList) H n)=r at h
  have hb:r≠ .bad:=fun e=>by rw [e] at h;cases h
  obtain ⟨v,δ1,n1,d',h1,h2,h3,h4⟩:=Ia hgc hb
  have fuse:∀(a:Act) (w:World) (R:Ren) (δ:Delta),AtR P R0 n0 H0 w0 sz ⟨T,H,n,d,ds⟩ a w R δ→∀N,Fr P R0 H0.get n0 N→n1≤N→R L=some (l,0,0)→∀fu,VR R (.func (.func g) fs cs) fu→
      ∃gs es,fu= .func (.func g) gs es∧CallsIn (FW P none) 0 P g (gs++#[.func (.yield l) #[] #[]]++es) w (pI R H n v δ1 n1 w):=by
    intro a w R δ hA N fr hN hR fu hfu
    cases hfu with
    | func e2 a2 b2 =>
      cases e2
      next gs es=>
      refine ⟨gs,es,rfl,((hcall _ _ _ _ _ _ _ h1) R w _ (hA.hr hh fr (Nat.le_trans h2 hN)) ((hA.fresh fr).part (Nat.le_refl _) hN) ?_).1 hg⟩
      rw [Array.toList_append,Array.toList_append,List.append_assoc]
      exact a2.append (.cons (.func (.yield hR) .nil .nil) b2)
  rcases h4 with ⟨hp,T',hT,hr⟩|⟨p,hp,hr⟩
  · subst hr
    have hTT:T'=T:=by
      unfold AY at hT
      injection hT with hT
      exact hT.symm
    subst hTT
    unfold F7 at h
    simp only at h
    unfold YD at h
    split at h
    case h_2=>cases h
    next st pe f ts ps x y bD hL=>
    split at h
    case h_2=>cases h
    next hnb=>
    unfold Vz at h
    split at h
    case h_2=>cases h
    next s2 e2 hset hj=>
    injection h with h
    injection h with h5 h6
    subst h5 h6
    have hsn:s2.n=n1:=by obtain ⟨_,_,rfl⟩:=zh hset;rfl
    refine ⟨by rw [hsn];exact h2,fun N fr hN a w R δ hA hR fu hfu=>?_⟩
    rw [hsn] at hN
    obtain ⟨gs,es,rfl,hc⟩:=fuse a w R δ hA N fr hN hR fu (hfu _ rfl)
    refine ⟨g,gs,es,rfl,⟨fn,hfn,hbody⟩,CallsIn.mono hc fun e' w' hcp=>?_⟩
    unfold pI at hcp
    rw [hp] at hcp
    obtain ⟨u,R',rfl,hu,hpo⟩:=hcp
    have hA':=hA.TA (d:=d') hh fr hN hpo h3
    have hRL:R' L=some (l,0,0):=(hA.rle fr hN hpo) _ _ hR
    obtain ⟨g',us,c,k1,kg,k2,k3⟩:=hA'.loop hh fr hN hL hRL
    have hlt:l<w'.heap.size:=(Array.getElem?_eq_some_iff.1 k1).1
    have hA2:=hA'.set (o':= .loop ⟨.exhausted,pe,g',us,ps,x,y,c⟩) hh fr hN hL hRL hlt (.loop kg k2 k3) hset
    refine ⟨pe,_,run_endLoop k1 (by intro hst;simp only at hst;subst hst;cases hnb),?_⟩
    unfold Vy at hj
    split at hj
    · injection hj with hj;subst hj
      exact ⟨rfl,_,_,hA2⟩
    · injection hj with hj;subst hj
      exact wpIn_ret ⟨rfl,_,_,hA2⟩
    · injection hj with hj;subst hj
      exact wpIn_exit ⟨rfl,_,_,hA2⟩
    · cases hj
  · subst hr
    unfold F7 at h
    simp only at h
    injection h with h
    injection h with h5 h6
    subst h5 h6
    refine ⟨h2,fun N fr hN a w R δ hA hR fu hfu=>?_⟩
    simp only at hN
    obtain ⟨gs,es,rfl,hc⟩:=fuse a w R δ hA N fr hN hR fu (hfu _ rfl)
    refine ⟨g,gs,es,rfl,⟨fn,hfn,hbody⟩,CallsIn.mono hc fun e' w' hcp=>?_⟩
    unfold pI at hcp
    rw [hp] at hcp
    obtain ⟨u,R',rfl,hu,hpo⟩:=hcp
    exact ⟨u,rfl,R',_,hA.TA (d:=d') hh fr hN hpo h3,hu⟩
theorem Ib (hnm:iM P) (hcall:∀f args H n v δ n',call f args H n=some (v,δ,n')→lW P f args H n v δ n') (hh:HR P R0 H0.get w0) {D D':Nat} {f:Operand} {ps:Array Tmp} {x y:Code} {e:VE} {mark:List Deferred}
  (h:rIn P call sz n0 D f ps x y s=some (e,s')):s.n≤s'.n∧∀N,Fr P R0 H0.get n0 N→s'.n≤N→∀(a:Act) (w w1:World) (R:Ren) (δ:Delta),AtR P R0 n0 H0 w0 sz s {a with defers:=mark++a.defers} w1 R δ→R D=some (D',0,0)→
   (∀fn,(Instr.enterLoop fn a.tmps ps x y (FW P rb).round).run P w= .ok (w1.heap.size,mark) (w1.alloc (.loop ⟨.ready,none,fn,a.tmps,ps,x,y,D'⟩)))→(Code.rangeFunc f ps x y).wpIn (FW P rb) 0 P (COk P R0 n0 H0 w0 sz e s') a w:=by
 obtain ⟨T,H,n,d,ds⟩:=s
 unfold rIn newS rGo at h
 simp only at h
 obtain ⟨h1,h2⟩:=Rf (l:=0) (rb:=rb) hnm hcall hh h
 refine ⟨by simp only;exact Nat.le_trans (Nat.le_succ _) h1,fun N fr hN a w w1 R δ hA hD henter=>?_⟩
 refine wpIn_rangeFunc ?_
 intro fn Zi
 have hlt:n<N:=Nat.lt_of_lt_of_le (Nat.lt_succ_self _) (Nat.le_trans h1 hN)
 have hle:R.le (R.add n (w1.heap.size,(0,0))):=Ren.AA ((hA.fresh fr).2 n (Nat.le_refl _) hlt).1 _
 have ht:FC (R.add n (w1.heap.size,(0,0))) ⟨y7 T sz 0⟩ a.tmps:=(PV hA.tmps).mono hle
 have hA1:AtR P R0 n0 H0 w0 sz ⟨T,H.set n (some (.loop ⟨.ready,none,P.funcs.size,⟨y7 T sz 0⟩,ps,x,y,D⟩)),Nat.succ n,d,ds⟩ {a with defers:=mark++a.defers} (w1.alloc (.loop ⟨.ready,none,fn,a.tmps,ps,x,y,D'⟩)) (R.add n (w1.heap.size,(0,0))) (δ++[(n,some (.loop ⟨.ready,none,P.funcs.size,⟨y7 T sz 0⟩,ps,x,y,D⟩))]):=
  hA.new hh fr (Nat.le_trans h1 hN) (.loop Zi ht (hle _ _ hD)) rfl (hA.defers.mono hle)
 obtain ⟨h1',h2'⟩:=Rf (l:=w1.heap.size) (rb:=rb) hnm hcall hh h
 have hr1:=hA1.hr hh fr (Nat.le_trans h1 hN)
 have hev:∀v,evT P T f=some v→VR (R.add n (w1.heap.size,(0,0))) v (a.eval f):=fun v hv=>mY (a:={a with defers:=mark++a.defers}) hr1 hA1.tmps f v hv
 obtain ⟨g,gs,es,hfu,⟨fn',hfn',hb'⟩,hc⟩:=h2' N fr hN {a with defers:=mark++a.defers} _ _ _ hA1 (lX _ _ _) (a.eval f) hev
 have hnb:fn'.body.isNone=false:=by
  cases hb:fn'.body with
  |none=>rw [hb] at hb';cases hb'
  |some _=>rfl
 have hg:g<P.funcs.size:=(Array.getElem?_eq_some_iff.1 hfn').1
 have hres:∀w,(resolve a.eval (rangeCall f w1.heap.size) 0).run P w= .ok ⟨.fn (.func g) es,gs++#[.func (.yield w1.heap.size) #[] #[]]⟩ w:=fun w=>by
  simp only [resolve,rangeCall,hfu,Deferred.ofValue,Sem.run_pure]
  simp [Act.eval]
 have hinv:∀w,(invoke (.fn (.func g) es) (gs++#[.func (.yield w1.heap.size) #[] #[]])).run P w= .ok (.enter g (gs++#[.func (.yield w1.heap.size) #[] #[]]++es)) w:=fun w=>by
  simp only [invoke,callFunc]
  simp only [program,Sem.run_bind,Sem.run,Result.andThen_ok,hfn',hnm g fn' hfn',hnb]
  rfl
 refine ⟨_,mark,_,_,_,g,_,_,henter fn,hres _,fun f' hf'=>?_,hinv _,(fun h=>by cases h),ML hc⟩
 simp only [Target.leads,Option.some.injEq] at hf'
 subst hf'
 exact hg
theorem MQ (hnm:iM P) (hcall:∀f args H n v δ n',call f args H n=some (v,δ,n')→lW P f args H n v δ n') (hh:HR P R0 H0.get w0) {ro:Option Nat} (hro:(ro=none∧rb=none)∨∃l b,ro=some l∧rb=some b∧R0 l=some (b,0,0)) {f:Operand} {ps:Array Tmp} {x y:Code} {e:VE}
  (h:Mc P call sz n0 f ps x y s ro=some (e,s')):s.n≤s'.n∧∀N,Fr P R0 H0.get n0 N→s'.n≤N→∀a w,At P R0 n0 H0 w0 sz s a w→(Code.rangeFunc f ps x y).wpIn (FW P rb) 0 P (COk P R0 n0 H0 w0 sz e s') a w:=by
 obtain ⟨T,H,n,d,ds⟩:=s
 unfold Mc at h
 rcases hro with ⟨rfl,rfl⟩|⟨l,b,rfl,rfl,hb⟩
 ·simp only at h
  unfold QW at h
  simp only at h
  obtain ⟨h1,_⟩:=Ib (mark:=[]) (rb:=none) (D':=0) hnm hcall hh h
  refine ⟨Nat.le_trans (Nat.le_succ _) h1,fun N fr hN a w ⟨R,δ,hA⟩=>?_⟩
  obtain ⟨_,h2⟩:=Ib (mark:=[⟨.collected w.heap.size,#[]⟩]) (rb:=none) (D':=w.heap.size) hnm hcall hh h
  have hA1:=hA.new (o:= .deferred (some [])) (o':= .deferred (some [])) (ds:= .col n::ds) (a':={a with defers:=[⟨.collected w.heap.size,#[]⟩]++a.defers}) hh fr (Nat.le_trans h1 hN) .calls rfl
   (.cons (.col (lX _ _ _)) (hA.defers.mono (Ren.AA ((hA.fresh fr).2 _ (Nat.le_refl _) (Nat.lt_of_lt_of_le (Nat.lt_succ_self _) (Nat.le_trans h1 hN))).1 _)))
  exact h2 N fr hN a w _ _ _ hA1 (lX _ _ _) fun fn=>by
   have:=run_enterLoop_outer (P:=P) (w:=w) fn a.tmps ps x y
   rw [World.size_alloc]
   exact this
 ·simp only at h
  unfold QV at h
  split at h
  case h_2=>cases h
  next r hl=>
  obtain ⟨st,pe,f0,ts,ps0,x0,y0,D⟩:=r
  simp only at h
  obtain ⟨h1,_⟩:=Ib (mark:=[]) (rb:=some b) (D':=0) hnm hcall hh h
  refine ⟨h1,fun N fr hN a w ⟨R,δ,hA⟩=>?_⟩
  have hR:R l=some (b,0,0):=hA.post.rle (fr.part (Nat.le_refl _) (Nat.le_trans h1 hN)) _ _ hb
  obtain ⟨g,us,c,k1,kg,k2,k3⟩:=hA.loop hh fr (Nat.le_trans h1 hN) hl hR
  obtain ⟨_,h2⟩:=Ib (mark:=[]) (rb:=some b) (D':=c) hnm hcall hh h
  refine h2 N fr hN a w w _ _ hA k3 fun fn=>?_
  change (Instr.enterLoop fn a.tmps ps x y (some b)).run P w=_
  unfold Instr.enterLoop
  simp only [Sem.run_bind,run_getLoop k1,run_newObj_alloc,Result.andThen,Sem.run_pure]
end
end
end Go.V
namespace Go.V
noncomputable section
def Looping (F:Fence) (P:Program) (c:Code) (Q:Exit→Act→World→Prop) (a:Act) (w:World):Prop:=
 ∀(b:Frame) (k:List Item) (cs:List Frame),b.roundOf=F.round→F.fn b.fn→F.room (cs.length+1+0)→∃e a' w',Q e a' w'∧ArrivesIn (Machine.fenced P F) P (lone (b.atR a (.code c:: .inLoop c::k)) cs w) b k cs e a' w'
section
variable {F:Fence} {P:Program} {Q:Exit→Act→World→Prop} {a:Act} {w:World} {c:Code}
theorem MR (h:Looping F P c Q a w):(Code.loop c).wpIn F 0 P Q a w:=fun b k cs hro hb hr=>by
 obtain ⟨e,a',w',q,r⟩:=h b k cs hro hb hr
 exact ⟨e,a',w',q, .of_steps (.one (fenced_calm hb hr rfl) stepR_loop) r⟩
theorem Bc (h:c.wpIn F 0 P (Exit.then (fun a w=>Looping F P c Q a w) Q) a w):Looping F P c Q a w:=fun b k cs hro hb hr=>by
  obtain ⟨e,a₁,w₁,hq,harr⟩:=h b (.inLoop c::k) cs hro hb hr
  cases e with
  | normal =>
    obtain ⟨e₂,a₂,w₂,hq₂,harr₂⟩:=hq b k cs hro hb hr
    exact ⟨e₂,a₂,w₂,hq₂, .of_steps (StepsIn.trans harr (.one (fenced_calm hb hr rfl) stepR_inLoop)) harr₂⟩
  |exit id=>exact ⟨_,a₁,w₁,hq, .pass (x:= .inLoop c) rfl (fun _ _=> .inl (by simp)) harr⟩
  |goto l=>exact ⟨_,a₁,w₁,hq, .pass (x:= .inLoop c) rfl (fun _ _=> .inl (by simp)) harr⟩
  |ret=>exact ⟨_,a₁,w₁,hq, .pass (x:= .inLoop c) rfl (fun _ _=> .inl (by simp)) harr⟩
  |panic ch=>exact ⟨_,a₁,w₁,hq, .pass (x:= .inLoop c) rfl (fun _ _=> .inl (by simp)) harr⟩
  |outgrown=>exact ⟨_,a₁,w₁,hq, .pass (x:= .inLoop c) rfl (fun _ _=> .inl (by simp)) harr⟩
end
def Di (P : Program) (sz n0 : Nat) (drawn : Array Oper → VS → Option VS) : Prop :=
  ∀ ops s s', drawn ops s = some s' → s.n ≤ s'.n ∧ ∀ (R0 : Ren) (H0 : Tr) (w0 : World) (N : Nat), HR P R0 H0.get w0 → Fr P R0 H0.get n0 N → s'.n ≤ N → ∀ (rb : Option Nat) (id : Nat) (a : Act) (w : World) (Q : Exit → Act → World → Prop), At P R0 n0 H0 w0 sz s a w →
    (∀a' w',At P R0 n0 H0 w0 sz s' a' w'→Q .normal a' w')→(Code.region id ops true).wpIn (FW P rb) 0 P Q a w
theorem zi (ops:Array Oper):(List.range ops.size).map (fun i=>ops[i]?)=ops.toList.map some:=by
 refine List.ext_getElem? fun i=>?_
 by_cases h:i<ops.size
 ·simp [h]
 ·simp [h,show ops.size≤i by omega]
section
variable {P:Program} {R0:Ren} {n0:Nat} {H0:Tr} {w0:World} {sz:Nat} {call:kQ} {drawn:Array Oper→VS→Option VS} {ro rb:Option Nat}
theorem COk.MS {e:VE} {s':VS} (hne:e≠ .normal) {e':Exit} {a:Act} {w:World} {K:Act→World→Prop} (h:COk P R0 n0 H0 w0 sz e s' e' a w):Exit.then K (COk P R0 n0 H0 w0 sz e s') e' a w:=by
 cases e with
 |normal=>exact (hne rfl).elim
 |exit i=>obtain ⟨rfl,hA⟩:=h;exact ⟨rfl,hA⟩
 |ret=>obtain ⟨rfl,hA⟩:=h;exact ⟨rfl,hA⟩
 |panic v=>obtain ⟨u,rfl,hA⟩:=h;exact ⟨u,rfl,hA⟩
theorem COk.VJ {e:VE} {s':VS} {id:Nat} (hne:∀i,e≠ .exit i) {e':Exit} {a:Act} {w:World} (h:COk P R0 n0 H0 w0 sz e s' e' a w):Exit.inBlock id (COk P R0 n0 H0 w0 sz e s') e' a w:=by
 cases e with
 |normal=>obtain ⟨rfl,hA⟩:=h;exact ⟨rfl,hA⟩
 |exit i=>exact (hne i rfl).elim
 |ret=>obtain ⟨rfl,hA⟩:=h;exact ⟨rfl,hA⟩
 |panic v=>obtain ⟨u,rfl,hA⟩:=h;exact ⟨u,rfl,hA⟩
theorem x9 (hnm : iM P) (hcall : ∀ f args H n v δ n', call f args H n = some (v, δ, n') → lW P f args H n v δ n') (hdr : Di P sz n0 drawn) (hh : HR P R0 H0.get w0) (hro : (ro = none ∧ rb = none) ∨ ∃ l b, ro = some l ∧ rb = some b ∧ R0 l = some (b, 0, 0)) :
    ∀ (f : Nat) (c : Code) (s : VS) (e : VE) (s' : VS), y8 P call sz n0 ro drawn f c s = some (e, s') → s.n ≤ s'.n ∧ ∀ N, Fr P R0 H0.get n0 N → s'.n ≤ N → ∀ a w, At P R0 n0 H0 w0 sz s a w →
      c.wpIn (FW P rb) 0 P (COk P R0 n0 H0 w0 sz e s') a w∧∀c',c= .loop c'→Looping (FW P rb) P c' (COk P R0 n0 H0 w0 sz e s') a w:=by
  have VI:ro=none→rb=none:=fun h=>by
    rcases hro with ⟨_,h2⟩|⟨l,b,h2,_⟩
    · exact h2
    · rw [h] at h2;cases h2
  intro f
  induction f with
  |zero=>intro c s e s' h;cases h
  | succ f ih =>
    intro c s e s' h
    change Tv P call sz n0 ro drawn (y8 P call sz n0 ro drawn f) c s=some (e,s') at h
    generalize y8 P call sz n0 ro drawn f=rec at ih h
    unfold Tv at h
    split at h
    · -- skip
      injection h with h;injection h with h1 h2;subst h1 h2
      exact ⟨Nat.le_refl _,fun N fr hN a w hA=>⟨wpIn_skip ⟨rfl,hA⟩,fun c' e=>by cases e⟩⟩
    · injection h with h;injection h with h1 h2;subst h1 h2
      exact ⟨Nat.le_refl _,fun N fr hN a w hA=>⟨wpIn_label ⟨rfl,hA⟩,fun c' e=>by cases e⟩⟩
    · -- region
      next id ops d=>
      unfold L9 at h
      cases d with
      | true =>
        have ht:drawn ops s=some s'∧e= .normal:=by
          change toN (drawn ops s)=_ at h
          unfold toN at h
          split at h
          · next s1 hs=>injection h with h;injection h with h1 h2;subst h1 h2;exact ⟨hs,rfl⟩
          · cases h
        obtain ⟨hs,rfl⟩:=ht
        obtain ⟨hle,hw⟩:=hdr _ _ _ hs
        exact ⟨hle,fun N fr hN a w hA=>⟨hw R0 H0 w0 N hh fr hN rb id a w _ hA fun a' w' h=>⟨rfl,h⟩,fun c' e=>by cases e⟩⟩
      | false =>
        generalize hv:Tm P call sz n0 ro ops ops.toList s=r at h
        change toE r=_ at h
        unfold toE at h
        split at h
        · next s1=>
          injection h with h;injection h with h1 h2;subst h1 h2
          exact ⟨Dh hv rfl,fun N fr hN a w hA=>⟨wpIn_region (Gf VI hnm hcall hh fr (r:= .ok s1) rfl hN (fun a w hA=>⟨rfl,hA⟩) hv hA _ (zi ops)),fun c' e=>by cases e⟩⟩
        · next v s1=>
          injection h with h;injection h with h1 h2;subst h1 h2
          exact ⟨Dh hv rfl,fun N fr hN a w hA=>⟨wpIn_region (Gf VI hnm hcall hh fr (r:= .pan v s1) rfl hN (fun u a w hA=>⟨u,rfl,hA⟩) hv hA _ (zi ops)),fun c' e=>by cases e⟩⟩
        · cases h
    · -- seq
      next x y=>
      unfold Xb at h
      split at h
      · next s1 hs=>
        obtain ⟨h1,h2⟩:=ih _ _ _ _ hs
        obtain ⟨h3,h4⟩:=ih _ _ _ _ h
        refine ⟨Nat.le_trans h1 h3,fun N fr hN a w hA=>⟨wpIn_seq (wpIn_mono (h2 N fr (Nat.le_trans h3 hN) a w hA).1 ?_),fun c' e=>by cases e⟩⟩
        rintro e' a' w' ⟨he,hA'⟩
        subst he
        exact (h4 N fr hN a' w' hA').1
      · next hne=>
        obtain ⟨h1,h2⟩:=ih _ _ _ _ h
        refine ⟨h1,fun N fr hN a w hA=>⟨wpIn_seq (wpIn_mono (h2 N fr hN a w hA).1 ?_),fun c' e=>by cases e⟩⟩
        intro e' a' w' hc
        exact hc.MS (fun e2=>by subst e2;exact hne _ h)
    · -- cond
      next x y z=>
      obtain ⟨T1,H1,n1,d1,ds1⟩:=s
      change Md y z rec ⟨T1,H1,n1,d1,ds1⟩ (evT P T1 x)=some (e,s') at h
      unfold Md at h
      split at h
      · next hc=>
        obtain ⟨h1,h2⟩:=ih _ _ _ _ h
        refine ⟨h1,fun N fr hN a w hA=>⟨?_,fun c' e=>by cases e⟩⟩
        have hA2:=hA
        obtain ⟨R,δ,hA2⟩:=hA2
        have:=mY (hA2.hr hh fr (Nat.le_trans h1 hN)) hA2.tmps _ _ hc
        exact wpIn_cond_true (iL this rfl) (h2 N fr hN a w hA).1
      · next hc=>
        obtain ⟨h1,h2⟩:=ih _ _ _ _ h
        refine ⟨h1,fun N fr hN a w hA=>⟨?_,fun c' e=>by cases e⟩⟩
        have hA2:=hA
        obtain ⟨R,δ,hA2⟩:=hA2
        have:=mY (hA2.hr hh fr (Nat.le_trans h1 hN)) hA2.tmps _ _ hc
        exact wpIn_cond_false (iL this rfl) (h2 N fr hN a w hA).1
      · cases h
    · -- block
      next id x=>
      unfold QX at h
      split at h
      · next i s1 hs=>
        obtain ⟨h1,h2⟩:=ih _ _ _ _ hs
        unfold Me at h
        split at h
        · next hid=>
          have hid:=Nat.eq_of_beq_eq_true hid
          injection h with h;injection h with h3 h4;subst h3 h4
          refine ⟨h1,fun N fr hN a w hA=>⟨wpIn_block (wpIn_mono (h2 N fr hN a w hA).1 ?_),fun c' e=>by cases e⟩⟩
          rintro e' a' w' ⟨he,hA'⟩
          subst he
          simp only [Exit.inBlock,hid,if_true]
          exact ⟨rfl,hA'⟩
        · next hid=>
          have hid:=Nat.ne_of_beq_eq_false hid
          injection h with h;injection h with h3 h4;subst h3 h4
          refine ⟨h1,fun N fr hN a w hA=>⟨wpIn_block (wpIn_mono (h2 N fr hN a w hA).1 ?_),fun c' e=>by cases e⟩⟩
          rintro e' a' w' ⟨he,hA'⟩
          subst he
          simp only [Exit.inBlock,hid,if_false]
          exact ⟨rfl,hA'⟩
      · next hne=>
        obtain ⟨h1,h2⟩:=ih _ _ _ _ h
        refine ⟨h1,fun N fr hN a w hA=>⟨wpIn_block (wpIn_mono (h2 N fr hN a w hA).1 ?_),fun c' e=>by cases e⟩⟩
        intro e' a' w' hc
        exact hc.VJ (fun i e2=>by subst e2;exact hne _ _ h)
    · -- loop
      next x=>
      unfold Xb at h
      split at h
      · next s1 hs=>
        obtain ⟨h1,h2⟩:=ih _ _ _ _ hs
        obtain ⟨h3,h4⟩:=ih _ _ _ _ h
        have key:∀N,Fr P R0 H0.get n0 N→s'.n≤N→∀a w,At P R0 n0 H0 w0 sz s a w→Looping (FW P rb) P x (COk P R0 n0 H0 w0 sz e s') a w:=fun N fr hN a w hA=>by
          refine Bc (wpIn_mono (h2 N fr (Nat.le_trans h3 hN) a w hA).1 ?_)
          rintro e' a' w' ⟨he,hA'⟩
          subst he
          exact (h4 N fr hN a' w' hA').2 _ rfl
        exact ⟨Nat.le_trans h1 h3,fun N fr hN a w hA=>⟨MR (key N fr hN a w hA),fun c' e=>by injection e with e;subst e;exact key N fr hN a w hA⟩⟩
      · next hne=>
        obtain ⟨h1,h2⟩:=ih _ _ _ _ h
        have key:∀N,Fr P R0 H0.get n0 N→s'.n≤N→∀a w,At P R0 n0 H0 w0 sz s a w→Looping (FW P rb) P x (COk P R0 n0 H0 w0 sz e s') a w:=fun N fr hN a w hA=>by
          refine Bc (wpIn_mono (h2 N fr hN a w hA).1 ?_)
          intro e' a' w' hc
          exact hc.MS (fun e2=>by subst e2;exact hne _ h)
        exact ⟨h1,fun N fr hN a w hA=>⟨MR (key N fr hN a w hA),fun c' e=>by injection e with e;subst e;exact key N fr hN a w hA⟩⟩
    · injection h with h;injection h with h1 h2;subst h1 h2
      exact ⟨Nat.le_refl _,fun N fr hN a w hA=>⟨wpIn_exit ⟨rfl,hA⟩,fun c' e=>by cases e⟩⟩
    · injection h with h;injection h with h1 h2;subst h1 h2
      exact ⟨Nat.le_refl _,fun N fr hN a w hA=>⟨wpIn_ret ⟨rfl,hA⟩,fun c' e=>by cases e⟩⟩
    · -- a loop over a function
      next g ps x y=>
      obtain ⟨h1,h2⟩:=MQ hnm hcall hh hro h
      exact ⟨h1,fun N fr hN a w hA=>⟨h2 N fr hN a w hA,fun c' e=>by cases e⟩⟩
    · cases h
end
end
end Go.V
