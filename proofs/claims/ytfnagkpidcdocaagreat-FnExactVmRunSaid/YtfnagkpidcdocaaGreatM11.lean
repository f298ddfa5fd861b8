import Derived.Test.YtfnagkpidcdocaaGreatM10
import Derived.ChangeArms
import Derived.DataReads
import Derived.ProofKit
set_option linter.all false
namespace Go.Vi
open Go Go.RowKit
section
variable {call call':FuncId->List AV->List (Option Obj)->Option bk} {loop loop':Nat->St->Option (Out×St)}
theorem mL (s:bF) (x:AV):content (real call loop) s x=content (real call' loop') s x:=by
 cases x<;>rfl
theorem vS:(real call loop).fk=(real call' loop').fk:=rfl
theorem mM:∀X:List (Option Obj),jd (real call loop) X=jd (real call' loop') X
 | []=>rfl
 | none::_=>rfl
 | some (.box _)::_=>rfl
 | some (.hrows _ _ _ _ _ _)::_=>rfl
 | some (.gone _ _)::_=>rfl
 | some (.rows _ xs)::l=>by
  simp only [jd];rw [show (real call loop).closed xs=(real call' loop').closed xs from rfl,mM l]
 | some (.orows _ xs)::l=>by
  simp only [jd];rw [show (real call loop).closed xs=(real call' loop').closed xs from rfl,mM l]
mutual
theorem Dn:∀(x:AV) (s:St),fz (real call loop) s x=fz (real call' loop') s x
 | .emp,s=>rfl
 | .arr r sz g u,s=>by simp only [fz,mL (call:=call) (call':=call') (loop:=loop) (loop':=loop'),vS (call:=call) (call':=call') (loop:=loop) (loop':=loop')]
 | .agg cs,s=>by simp only [fz,lR cs s]
 | .tup cs,s=>by simp only [fz,lR cs s]
 | .undef,s=>rfl
 | .bare,s=>rfl
 | .d _,s=>rfl
 | .nilp,s=>rfl
 | .ptr _ _,s=>rfl
 | .prow _ _ _ _,s=>rfl
 | .sp _ _,s=>rfl
 | .fn _ _,s=>rfl
theorem lR:∀(xs:List AV) (s:St),yK (real call loop) s xs=yK (real call' loop') s xs
 | [],s=>rfl
 | x::xs,s=>by
  simp only [yK,Dn x s];split
  ·rename_i y s2 h;rw [lR xs s2]
  ·rfl
end
mutual
theorem En:∀(x:AV) (s:bF),snap (real call loop) s x=snap (real call' loop') s x
 | .emp,s=>rfl
 | .arr r sz g u,s=>by simp only [snap,mL (call:=call) (call':=call') (loop:=loop) (loop':=loop'),vS (call:=call) (call':=call') (loop:=loop) (loop':=loop')]
 | .agg cs,s=>by simp only [snap,ku cs s]
 | .tup cs,s=>rfl
 | .undef,s=>rfl
 | .bare,s=>rfl
 | .d _,s=>rfl
 | .nilp,s=>rfl
 | .ptr _ _,s=>rfl
 | .prow _ _ _ _,s=>rfl
 | .sp _ _,s=>rfl
 | .fn _ _,s=>rfl
theorem ku:∀(xs:List AV) (s:bF),iS (real call loop) s xs=iS (real call' loop') s xs
 | [],s=>rfl
 | x::xs,s=>by
  simp only [iS,En x s];split
  ·rw [ku xs s]
  ·rfl
end
theorem A8 (m:kH) (as:List AV) (s:St):handed (real call loop) m as s=handed (real call' loop') m as s:=by
 cases m with
 | ref=>rfl
 | frz=>exact lR as s
 | pure=>simp only [handed,ku (call:=call) (call':=call') (loop:=loop) (loop':=loop') as s.sto]
 | bor=>simp only [handed,ku (call:=call) (call':=call') (loop:=loop) (loop':=loop') as s.sto]
theorem rU (s:St):∀x:AV,jH (real call loop) s x=jH (real call' loop') s x:=by
 intro x;cases x<;>rfl
theorem rV:∀(xs:List AV) (s:St),yL (real call loop) s xs=yL (real call' loop') s xs
 | [],s=>rfl
 | x::xs,s=>by
  simp only [yL,rU (call:=call) (call':=call') (loop:=loop) (loop':=loop') s x];split
  ·rename_i y s2 h;rw [rV xs s2]
  ·rfl
theorem xI (s:St) (sz:gq) (x:AV):pG (real call loop) s sz x=pG (real call' loop') s sz x:=by
 cases x<;>rfl
theorem mN:∀(ps:List (Nat×Option Nat×Nat×gq×Bool)) (s:St),dr (real call loop) ps s=dr (real call' loop') ps s
 | [],s=>rfl
 | (t,none,slot,sz,own)::ps,s=>by
  simp only [dr,mN ps];rfl
 | (t,some c,slot,sz,own)::ps,s=>by
  simp only [dr,mN ps];rfl
theorem iX:∀(ps:List (Nat×Option Nat×Nat)) (s:St),homes (real call loop) ps s=homes (real call' loop') ps s
 | [],s=>rfl
 | (t,none,0)::ps,s=>by
  simp only [homes,iX ps,Au,fz];rfl
 | (t,none,slot+1)::ps,s=>by
  simp only [homes,iX ps];rfl
 | (t,some c,slot)::ps,s=>by
  simp only [homes,iX ps];rfl
theorem zk (r:Id) (s:St):gR (real call loop) r s=gR (real call' loop') r s:=rfl
theorem xJ (s:St) (dst:Option Nat) (sz:gq) (bytes:Nat) (x y:VX):rJ (real call loop) s dst sz bytes x y=rJ (real call' loop') s dst sz bytes x y:=by
 unfold rJ;simp only [xI (call:=call) (call':=call') (loop:=loop) (loop':=loop'),rU (call:=call) (call':=call') (loop:=loop) (loop':=loop')];rfl
theorem og (x:VX) (s:St):jv (real call loop) x s=jv (real call' loop') x s:=rfl
theorem zl (s:St) (n:Nat) (p x:AV):storeAt (real call loop) s n p x=storeAt (real call' loop') s n p x:=by
 unfold storeAt;simp only [lR (call:=call) (call':=call') (loop:=loop) (loop':=loop'),rV (call:=call) (call':=call') (loop:=loop) (loop':=loop')];rfl
theorem sY (env:List AV) (s:bF) (op:lp):evalOp (real call loop) env s op=evalOp (real call' loop') env s op:=by
 cases op<;>rfl
variable (hc:∀f as cs c,call f as cs=some c->call' f as cs=some c) (hl:∀k s r,loop k s=some r->loop' k s=some r)
include hc in
theorem sZ {f:FuncId} {m:kH} {raw:Bool} {as:List AV} {dst:Option Nat} {s:St} {r:AV×St} (e:eJ (real call loop) f m raw as dst s=some r):eJ (real call' loop') f m raw as dst s=some r:=by
 unfold eJ at e |-;rw [ku (call':=call') (loop':=loop')]at e;cases m with
 | bor=>
  simp only at e |-;split at e
  ·cases e
  rename_i as' h1;split at e
  ·cases e
  rename_i h2;split at e
  ·cases e
  rename_i c h3;have h4:(real call' loop').call f as' []=some c:=hc f as' [] c h3;simp only [h1,h2,h4];rw [mM (call':=call') (loop':=loop')]at e;exact e
 | _=>
  simp only at e |-;rw [A8 (call':=call') (loop':=loop')]at e;split at e
  ·cases e
  rename_i hp;split at e
  ·cases e
  rename_i as' s2 h1;split at e
  ·cases e
  rename_i ids h2;split at e
  ·cases e
  rename_i c h3;have h4:=hc _ _ _ _ h3;have h5:(real call' loop').call f (AV.mC (fun r=>(1,idx ids r)) as') (ids.map fun r=>(s2.sto.get r).map (·.map fun r=>(1,idx ids r)))=some c:=h4;simp only [hp,h1,h2,h5];exact e
include hc in
theorem Eo {s:St} {dst:Option Nat} {op:lp} {r:AV×St} (e:aJ (real call loop) s dst op=some r):aJ (real call' loop') s dst op=some r:=by
 by_cases hq:gB op=true
 ·rw [gY hq]at e |-;rw [sY (call':=call') (loop':=loop')]at e;exact e
 ·cases op<;>first
   | (exact (hq rfl).elim)
   | (simp only [aJ]at e |-;rw [sY (call':=call') (loop':=loop')]at e;exact e)
   | (simp only [aJ,zl (call:=call) (call':=call') (loop:=loop) (loop':=loop')]at e |-;exact e)
   | (simp only [aJ]at e |-;exact e)
   | (simp only [aJ]at e |-;rw [xJ (call':=call') (loop':=loop')]at e;exact e)
   | (simp only [aJ,zk (call:=call) (call':=call') (loop:=loop) (loop':=loop'),xJ (call:=call) (call':=call') (loop:=loop) (loop':=loop')]at e |-;exact e)
   | (simp only [aJ]at e;cases e)
   | (simp only [aJ,rV (call:=call) (call':=call') (loop:=loop) (loop':=loop')]at e |-;exact e)
   | (simp only [aJ,xI (call:=call) (call':=call') (loop:=loop) (loop':=loop'),rU (call:=call) (call':=call') (loop:=loop) (loop':=loop')]at e |-;exact e)
   | (simp only [aJ,lR (call:=call) (call':=call') (loop:=loop) (loop':=loop')]at e |-;exact e)
   | (
    simp only [aJ]at e |-;rw [og (call':=call') (loop':=loop')]at e;split at e
    case h_2=>cases e
    case h_1 s1 h1=>
     split at e
     case h_2=>cases e
     case h_1 as h2=>exact sZ hc e)
   | (
    simp only [aJ]at e |-;split at e; · exact sZ hc e
    ·cases e)
   | (simp only [aJ,mL (call:=call) (call':=call') (loop:=loop) (loop':=loop')]at e |-;exact e)
include hc in
theorem iM:∀{l:List br} {s s':St},bf (real call loop) l s=some s'->bf (real call' loop') l s=some s'
 | [],s,s',e=>e
 | v::l,
      s,s',e=>by
  rw [bT]at e |-;split at e
  case h_2=>cases e
  case h_1 s1 hs1=>
   have:dB (real call' loop') v s=some s1:=by
    unfold dB at hs1 |-;split at hs1
    ·split at hs1
     case h_2=>cases hs1
     case h_1 u s2 hd=>
      rw [Eo hc hd];exact hs1
    ·exact hs1
    ·cases hs1
   rw [this];exact iM e
include hc hl in
theorem rW:∀{c:VC} {s:St} {r:Out×St},exec (real call loop) c s=some r->exec (real call' loop') c s=some r:=by
 intro c;induction c with
 | skip=>intro s r e;exact e
 | reg ops=>
  intro s r e;simp only [exec]at e |-;split at e
  case h_2=>cases e
  case h_1 s1 hs1=>rw [iM hc hs1];exact e
 | regL ops x=>
  intro s r e;simp only [exec]at e |-;split at e
  case h_2=>cases e
  case h_1 s1 hs1=>
   rw [iM hc hs1];simp only;rw [og (call':=call') (loop':=loop')]at e;exact e
 | regP ops ps=>
  intro s r e;simp only [exec]at e |-;split at e
  case h_2=>cases e
  case h_1 s1 hs1=>
   rw [iM hc hs1];simp only;rw [iX (call':=call') (loop':=loop')]at e;exact e
 | regD π ops x ps=>
  intro s r e;simp only [exec]at e |-;split at e
  case h_2=>cases e
  case h_1 s1 hs1=>
   rw [iM hc hs1];simp only;cases x with
   | none=>
    change (match homes (real call loop) ps s1 with | some s=>some (Out.norm,s) | none=>none)=some r at e;rw [iX (call':=call') (loop':=loop')]at e;exact e
   | some x=>
    change (match jv (real call loop) x s1 with | some s=>(match homes (real call loop) ps s with | some s=>some (Out.norm,s) | none=>none) | none=>none)=some r at e;rw [og (call':=call') (loop':=loop')]at e;change (match jv (real call' loop') x s1 with | some s=>(match homes (real call' loop') ps s with | some s=>some (Out.norm,s) | none=>none) | none=>none)=some r;split at e
    ·rw [iX (call':=call') (loop':=loop')]at e;exact e
    ·cases e
 | clone x y c b m t dst sz bytes agg zero=>intro s r e;exact e
 | seq a b iha ihb=>
  intro s r e;simp only [exec]at e |-;split at e
  ·rename_i s1 hs1;rw [iha hs1];exact ihb e
  ·rename_i x hx;rw [iha e];obtain ⟨out,s'⟩:=r;cases out with
   | norm=>exact (hx s' e).elim
   | ret=>rfl
   | exit id=>rfl
 | cond c a b iha ihb=>
  intro s r e;simp only [exec]at e |-;split at e
  case h_2=>cases e
  case h_1 t ht=>
   cases t with
   | true=>exact iha e
   | false=>exact ihb e
 | block id c ih=>
  intro s r e;simp only [exec]at e |-;split at e
  ·rename_i k s1 hs1;rw [ih hs1];exact e
  ·rename_i x hx;rw [ih e];obtain ⟨out,s'⟩:=r;cases out with
   | norm=>rfl
   | ret=>rfl
   | exit id'=>exact (hx id' s' e).elim
 | loop prom le ls key=>
  intro s r e;simp only [exec]at e |-;split at e
  case h_2=>cases e
  case h_1 s1 hs1=>
   rw [mN (call':=call') (loop':=loop')]at hs1;rw [hs1];exact hl key _ r e
 | exit id=>intro s r e;exact e
 | ret=>intro s r e;exact e
include hc hl in
theorem vT {T:Nat->Option VL} {k:Nat} {s:St} {r:Out×St} (e:sL (real call loop) T k s=some r):sL (real call' loop') T k s=some r:=by
 unfold sL at e |-;split at e
 ·cases e
 rename_i l ht;split at e
 ·rename_i s1 hs1;rw [rW hc hl hs1];exact hl k _ r e
 ·rename_i out1 s1 hne hs1;rw [rW hc hl hs1];cases out1 with
  | norm=>exact (hne rfl).elim
  | ret=>exact e
  | exit id'=>exact e
 ·cases e
theorem oh {s:St}:∀{r:List (Sum Nat (Nat×Bool×Nat))},j_ (real call loop) s r=j_ (real call' loop') s r
 | []=>rfl
 | .inl t::l=>by simp only [j_,oh (r:=l)]
 | .inr (t,agg,n)::l=>by
  simp only [j_,oh (r:=l)];rfl
include hc hl in
theorem vU {F:FuncId->Option (VF×Bool)} {f:FuncId} {as:List AV} {cs:List (Option Obj)} {c:bk} (e:sM (real call loop) F f as cs=some c):sM (real call' loop') F f as cs=some c:=by
 unfold sM at e |-;split at e
 ·cases e
 rename_i vf raw hf;simp only at e |-;split at e
 ·cases e
 rename_i hlen;rw [if_neg hlen];split at e
 ·cases e
 ·cases e
 rename_i out s1 hne hex;rw [rW hc hl hex];rw [oh (call':=call') (loop':=loop')]at e;have hb:∀v s,nR (real call loop) raw v s=nR (real call' loop') raw v s:=fun v s=>by
  cases raw with
  | true=>rfl
  | false=>exact Dn v s
 simp only [hb]at e;cases out with
 | norm=>exact e
 | ret=>exact e
 | exit id=>exact (hne id rfl).elim
end
mutual
inductive jo (F:FuncId->Option (VF×Bool)) (T:Nat->Option VL):FuncId->List AV->List (Option Obj)->bk->Prop
 | mk (call:FuncId->List AV->List (Option Obj)->Option bk) (loop:Nat->St->Option (Out×St)) (hc:∀f as cs c,call f as cs=some c->jo F T f as cs c) (hl:∀k s r,loop k s=some r->jB F T k s r)
  (f:FuncId) (as:List AV) (cs:List (Option Obj)) (c:bk) (e:sM (real call loop) F f as cs=some c):jo F T f as cs c
inductive jB (F:FuncId->Option (VF×Bool)) (T:Nat->Option VL):Nat->St->Out×St->Prop
 | mk (call:FuncId->List AV->List (Option Obj)->Option bk) (loop:Nat->St->Option (Out×St)) (hc:∀f as cs c,call f as cs=some c->jo F T f as cs c) (hl:∀k s r,loop k s=some r->jB F T k s r)
  (k:Nat) (s:St) (r:Out×St) (e:sL (real call loop) T k s=some r):jB F T k s r
end
def GV (P:Program) (f:FuncId) (as:List AV) (cs:List (Option Obj)) (c:bk):Prop:=
 iI P f=true/\∀(vs:Array Value) (w:World) (L:Loc) (Z:Nat->Prop),RS ⟨as,[[],cs]⟩ ⟨vs,[]⟩ w L Z->
  ∀Q:Ending->World->Prop,(∀v w' L' Z',RS ⟨[c.ret],[c.extra,c.pars]⟩ ⟨#[v],[]⟩ w' L' Z'->Tr 1 [[],cs] [c.extra,c.pars] w w' L L' Z Z'->Q (.returned v) w')->Calls P f vs w Q
def LL (P:Program) (T:Nat->Option VL) (key:Nat) (s:St) (r:Out×St):Prop:=
 ∀l,T key=some l->∀(np:Nat) (c:Code),xG P T np c l.body=true->∀a w L Z,RS s a w L Z->∀Q:Exit->Act->World->Prop,
  (∀a' w' L' Z',RS r.2 a' w' L' Z'->Tr np s.sto r.2.sto w w' L L' Z Z'->Q (vQ r.1) a' w')->c.wp P (Exit.then (xH P c Q) Q) a w
section
variable {P:Program} {F:FuncId->Option (VF×Bool)} {T:Nat->Option VL}
mutual
theorem jo.ok (hmix:P.follows .mixedOrders=true) (hF:∀f vf raw,F f=some (vf,raw)->okF P T f vf=true):∀{f as cs c},jo F T f as cs c->GV P f as cs c
 | _,_,_,_,.mk call loop hc hl f as cs c e=>
  GU hmix (fun f as cs c h=>jo.ok hmix hF (hc f as cs c h)) (fun k s out s' h=>jB.ok hmix hF (hl k s (out,s') h)) hF f as cs c e
theorem jB.ok (hmix:P.follows .mixedOrders=true) (hF:∀f vf raw,F f=some (vf,raw)->okF P T f vf=true):∀{k s r},jB F T k s r->LL P T k s r
 | _,_,_,.mk call loop hc hl k s (out,s') e=>
  GQ hmix (fun f as cs c h=>jo.ok hmix hF (hc f as cs c h)) (fun k s out s' h=>jB.ok hmix hF (hl k s (out,s') h)) k s out s' e
end
def Kn (c1 c2:FuncId->List AV->List (Option Obj)->Option bk):FuncId->List AV->List (Option Obj)->Option bk:=fun f as cs=>match c1 f as cs with
 | some c=>some c
 | none=>c2 f as cs
def Ko (l1 l2:Nat->St->Option (Out×St)):Nat->St->Option (Out×St):=fun k s=>match l1 k s with
 | some r=>some r
 | none=>l2 k s
mutual
theorem jo.LM:∀{f as cs c},jo F T f as cs c->∀c',jo F T f as cs c'->c=c'
 | _,_,_,_,.mk call loop hc hl f as cs c e,c',.mk call' loop' hc' hl' _ _ _ _ e'=>by
  have m1:∀f as cs c,call f as cs=some c->Kn call call' f as cs=some c:=fun f as cs c h=>by simp only [Kn,h]
  have m2:∀k s r,loop k s=some r->Ko loop loop' k s=some r:=fun k s r h=>by simp only [Ko,h]
  have n1:∀f as cs c,call' f as cs=some c->Kn call call' f as cs=some c:=fun f as cs c h=>by
   unfold Kn;split
   ·rename_i c2 h2;rw [jo.LM (hc f as cs c2 h2) c (hc' f as cs c h)]
   ·exact h
  have n2:∀k s r,loop' k s=some r->Ko loop loop' k s=some r:=fun k s r h=>by
   unfold Ko;split
   ·rename_i r2 h2;rw [jB.LM (hl k s r2 h2) r (hl' k s r h)]
   ·exact h
  have a1:=vU m1 m2 e;have a2:=vU n1 n2 e';rw [a1]at a2;injection a2
theorem jB.LM:∀{k s r},jB F T k s r->∀r',jB F T k s r'->r=r'
 | _,_,_,.mk call loop hc hl k s r e,r',.mk call' loop' hc' hl' _ _ _ e'=>by
  have m1:∀f as cs c,call f as cs=some c->Kn call call' f as cs=some c:=fun f as cs c h=>by simp only [Kn,h]
  have m2:∀k s r,loop k s=some r->Ko loop loop' k s=some r:=fun k s r h=>by simp only [Ko,h]
  have n1:∀f as cs c,call' f as cs=some c->Kn call call' f as cs=some c:=fun f as cs c h=>by
   unfold Kn;split
   ·rename_i c2 h2;rw [jo.LM (hc f as cs c2 h2) c (hc' f as cs c h)]
   ·exact h
  have n2:∀k s r,loop' k s=some r->Ko loop loop' k s=some r:=fun k s r h=>by
   unfold Ko;split
   ·rename_i r2 h2;rw [jB.LM (hl k s r2 h2) r (hl' k s r h)]
   ·exact h
  have a1:=vT m1 m2 e;have a2:=vT n1 n2 e';rw [a1]at a2;injection a2
end
open Classical in
noncomputable def Dp (F:FuncId->Option (VF×Bool)) (T:Nat->Option VL) (f:FuncId) (as:List AV) (cs:List (Option Obj)):Option bk:=if h:∃c,jo F T f as cs c then some h.choose else none
open Classical in
noncomputable def Dq (F:FuncId->Option (VF×Bool)) (T:Nat->Option VL) (k:Nat) (s:St):Option (Out×St):=if h:∃r,jB F T k s r then some h.choose else none
theorem oK {f as cs c}:Dp F T f as cs=some c↔jo F T f as cs c:=by
 unfold Dp;constructor
 ·intro h;split at h
  ·rename_i hh;injection h with h;rw [<-h];exact hh.choose_spec
  ·cases h
 ·intro h;have hh:∃c,jo F T f as cs c:=⟨c,h⟩
  rw [dif_pos hh,jo.LM hh.choose_spec c h]
theorem rX {k s r}:Dq F T k s=some r↔jB F T k s r:=by
 unfold Dq;constructor
 ·intro h;split at h
  ·rename_i hh;injection h with h;rw [<-h];exact hh.choose_spec
  ·cases h
 ·intro h;have hh:∃r,jB F T k s r:=⟨r,h⟩
  rw [dif_pos hh,jB.LM hh.choose_spec r h]
def aU (F:FuncId->Option (VF×Bool)) (T:Nat->Option VL) (o:aK):Prop:=o=real (Dp F T) (Dq F T)
variable {o:aK} (ho:aU F T o)
include ho
theorem aU.aq {f as cs c} (e:sM o F f as cs=some c):o.call f as cs=some c:=by
 rw [ho]at e |-;exact oK.2 (.mk _ _ (fun _ _ _ _ h=>oK.1 h) (fun _ _ _ h=>rX.1 h) f as cs c e)
theorem aU.ay {k s r} (e:sL o T k s=some r):o.loop k s=some r:=by
 rw [ho]at e |-;exact rX.2 (.mk _ _ (fun _ _ _ _ h=>oK.1 h) (fun _ _ _ h=>rX.1 h) k s r e)
theorem aU.ok (hmix:P.follows .mixedOrders=true) (hF:∀f vf raw,F f=some (vf,raw)->okF P T f vf=true) {f as cs c} (e:o.call f as cs=some c):GV P f as cs c:=by
 rw [ho]at e;exact jo.ok hmix hF (oK.1 e)
theorem aU.ar:o.ar=Ev:=by rw [ho];rfl
theorem aU.wrap:o.wrap=fun k n=>k.wrap n:=by rw [ho];rfl
theorem aU.plus (a b:Int):o.plus a b=a+b:=by rw [ho];rfl
theorem aU.minus (a b:Int):o.minus a b=a-b:=by rw [ho];rfl
theorem aU.cmp (op:BinOp) (a b:Int):o.cmp op a b=eV op a b:=by rw [ho];rfl
theorem aU.isZero (a:Int):o.isZero a=decide (a=0):=by rw [ho];rfl
theorem aU.gW (op:BinOp) (a b:ByteArray):o.gW op a b=s8 op a b:=by rw [ho];rfl
theorem aU.yI (a b:ByteArray):o.yI a b=a++b:=by rw [ho];rfl
theorem aU.sLen (a:ByteArray):o.sLen a=a.size:=by rw [ho];rfl
theorem aU.len (xs:List D):o.len xs=xs.length:=by rw [ho];rfl
theorem aU.dm (xs:List D) (i:Int):o.dm xs i=wX xs i:=by rw [ho];rfl
theorem aU.sub (xs:List D) (a n:Int):o.sub xs a n=zp xs a n:=by rw [ho];rfl
theorem aU.app (xs ys:List D):o.app xs ys=xs++ys:=by rw [ho];rfl
theorem aU.lW (n:Int) (x:D):o.lW n x=List.replicate n.toNat x:=by rw [ho];rfl
theorem aU.eP (b:Nat) (n:Int):o.eP b n=decide (0<=n/\n*b<=140737488355328/\n<=9223372036854775807):=by rw [ho];rfl
theorem aU.set (xs:List D) (i:Int) (x:D):o.set xs i x=xs.set i.toNat x:=by rw [ho];rfl
end
section
section
variable {P:Program} {H:Type} {enc:TypeId×Value->H} {w:World} {spare:Nat->Bool} {held:Bool}
def cE (P:Program) (t:TypeId):Bool:=match P.underlying t with
 | some (.struct _)=>true
 | _=>false
def Fits (P:Program):Nat->TypeId->List D->Prop
 | 0,_,_=>False
 | n+1,t,ds=>match P.underlying t with
  | some .bool=>∃b,ds=[.bool b]
  | some (.int k)=>∃i,ds=[.int k i]/\(Lit.int k i).wf=true
  | some .string=>∃s:ByteArray,ds=[.str s]/\s.size<=maxLen
  | some (.slice e)=>∃xs,ds=[.lst xs]/\xs.length<=maxLen/\∀x∈xs,Fits P n e x.cells/\x.many=cE P e
  | some (.struct fs)=>ds.length=P.cellsOf t/\∀f∈fs.toList,Fits P n f.type ((ds.drop f.offset).take (P.cellsOf f.type))
  | _=>False
def kz (P:Program):List Field->Nat->Nat->Bool
 | [],off,total=>off==total
 | f::fs,off,total=>f.offset==off&&kz P fs (off+P.cellsOf f.type) total
def rY (P:Program) (S:List TypeId):Bool:=S.all fun t=>match P.underlying t with
 | some .bool=>true
 | some (.int _)=>true
 | some .string=>true
 | some (.slice e)=>S.contains e&&decide (0<P.cellsOf e)
 | some (.struct fs)=>kz P fs.toList 0 (P.cellsOf t)&&fs.toList.all fun f=>S.contains f.type
 | _=>false
theorem s6 {α:Type} {Q:Nat->α->Prop}:∀n,(∀i,i<n->∃x,Q i x)->∃xs:List α,xs.length=n/\∀i x,xs[i]? =some x->Q i x
 | 0,_=>⟨[],rfl,by simp⟩
 | n+1,h=>by
  obtain ⟨xs,h1,h2⟩:=s6 n fun i hi=>h i (by omega)
  obtain ⟨x,hx⟩:=h n (by omega);refine ⟨xs++[x],by simp [h1],fun i y hy=> ?_⟩;rw [List.getElem?_append]at hy;split at hy
  ·exact h2 i y hy
  ·rename_i hlt;have:i=n:=by
    have:=(ai.1 hy).1;simp at this;omega
   subst this;simp [h1]at hy;subst hy;exact hx
theorem A9:∀{fs:List Field} {off total:Nat},kz P fs off total=true->off<=total
 | [],off,total,h=>by simp [kz]at h;omega
 | f::fs,off,total,h=>by
  simp only [kz,ah,beq_iff_eq]at h;have:=A9 h.2;omega
theorem vV {Z:Nat->Prop}:∀{ds es:List D} {cs vs:List Value},eR w Z ds cs->eR w Z es vs->eR w Z (ds++es) (cs++vs)
 | [],es,cs,vs,h,k=>by simp only [eR]at h;subst h;exact k
 | d::ds,es,cs,vs,h,k=>by
  simp only [eR]at h;obtain ⟨v,cs',rfl,h1,h2⟩:=h;simp only [List.cons_append,eR];exact ⟨v,cs'++vs,rfl,h1,vV h2 k⟩
theorem Nv {Z:Nat->Prop} {n:Nat} {cs:List Value}:∀{fs:List Field} {off:Nat},kz P fs off cs.length=true->(∀f∈fs,∃ds,eR w Z ds ((cs.drop f.offset).take (P.cellsOf f.type))/\Fits P n f.type ds)->
  ∃ds,eR w Z ds (cs.drop off)/\∀f∈fs,off<=f.offset/\Fits P n f.type ((ds.drop (f.offset-off)).take (P.cellsOf f.type))
 | [],off,h,_=>by
  simp [kz]at h;refine ⟨[],?_,by simp⟩;rw [h];simp [eR]
 | f::fs,off,h,hf=>by
  simp only [kz,ah,beq_iff_eq]at h;obtain ⟨h1,h2⟩:=h;obtain ⟨d1,k1,k2⟩:=hf f (by simp);obtain ⟨ds,m1,m2⟩:=Nv h2 fun g hg=>hf g (by simp [hg])
  have hle:=A9 h2;rw [h1]at k1;have hl:d1.length=P.cellsOf f.type:=by
   rw [(dV.1 k1).1,List.length_take,List.length_drop];omega
  refine ⟨d1++ds,?_,fun g hg=> ?_⟩
  ·have e:cs.drop off=(cs.drop off).take (P.cellsOf f.type)++cs.drop (off+P.cellsOf f.type):=by
    rw [<-List.drop_drop,List.take_append_drop]
   rw [e];exact vV k1 m1
  ·rcases List.mem_cons.1 hg with rfl | hg
   ·refine ⟨by omega,?_⟩;rw [h1,Nat.sub_self,List.drop_zero,<-hl,List.take_left];exact k2
   ·obtain ⟨p1,p2⟩:=m2 g hg;refine ⟨by omega,?_⟩;have:g.offset-off=d1.length+(g.offset-(off+P.cellsOf f.type)):=by omega
    rw [this,List.drop_length_add_append];exact p2
theorem xK {S:List TypeId} (hS:rY P S=true):∀(fuel:Nat) (t:TypeId) (cs:List Value) (x:DataW H×List MemPlace),t∈S->DataW.trod enc P w 0 spare held fuel t cs=some x->
  ∃ds,eR w (fun b=>b<w.heap.size) ds cs/\Fits P fuel t ds:=by
 intro fuel;induction fuel with
 | zero=>intro t cs x _ h;simp [DataW.trod]at h
 | succ n ih=>
  intro t cs x ht h;have hp:=List.all_eq_true.1 hS t ht;cases hu:P.underlying t with
  | none=>simp [hu]at hp
  | some d=>
   simp only [hu]at hp;cases d with
   | bool=>
    obtain ⟨b,rfl,_⟩:=DataW.trod_bool hu h;exact ⟨[.bool b],by simp [eR,RD],by simp [Fits,hu]⟩
   | int k=>
    obtain ⟨i,rfl,_,hw⟩:=DataW.trod_int hu h;exact ⟨[.int k i],by simp [eR,RD],by simp only [Fits,hu];exact ⟨i,rfl,hw⟩⟩
   | string=>
    obtain ⟨s,rfl,_,hs⟩:=DataW.trod_string hu h;exact ⟨[.str s],by simp [eR,RD],by simp only [Fits,hu];exact ⟨s,rfl,hs⟩⟩
   | slice e=>
    simp only [ah,decide_eq_true_eq]at hp;obtain ⟨he,hpos⟩:=hp;have he':e∈S:=by simpa using he
    rcases DataW.trod_slice hu h with ⟨rfl,_⟩ | ⟨a,len,cap,elems,rest,m,hm,rfl,_,_,hl,hmx,hlen,hel,_⟩
    ·refine ⟨[.lst []],?_,by simp only [Fits,hu];exact ⟨[],rfl,by simp [maxLen],by simp⟩⟩;simp only [eR,RD];exact ⟨_,[],rfl,⟨none,0,rfl,Nat.le_refl _,.inl trivial⟩,rfl⟩
    ·have hmn:m=n:=by omega
     subst hmn;have key:∀i,i<len->∃y:D,(∃vs,vs.length=P.cellsOf e/\RD w (fun b=>b<w.heap.size) y vs/\∀j v,vs[j]? =some v->w.cell? ⟨a.block,a.off+i*P.cellsOf e+j,none⟩=some v)/\Fits P m e y.cells/\y.many=cE P e:=by
      intro i hi;have h1:=hel i hi;obtain ⟨z,hz⟩:∃z,elems[i]? =some z:=⟨_,aN (by omega)⟩
      rw [hz,Option.bind_eq_some_iff]at h1;obtain ⟨vs,hvs,hz'⟩:=h1;obtain ⟨ds,d1,d2⟩:=ih e vs z he' hz';obtain ⟨_,hvl,hvc⟩:=World.cells?_some hvs;have hcell:∀j v,vs[j]? =some v->w.cell? ⟨a.block,a.off+i*P.cellsOf e+j,none⟩=some v:=by
       intro j v hj;have hjl:j<P.cellsOf e:=by rw [<-hvl];exact (ai.1 hj).1
       have:=hvc j hjl;rw [hj]at this;have ha:(a.add (i*P.cellsOf e)).add j=⟨a.block,a.off+i*P.cellsOf e+j,none⟩\/((a.add (i*P.cellsOf e)).add j).spot.isSome=true:=by
        unfold Addr.add;by_cases h1:i*P.cellsOf e=0
        ·by_cases h2:j=0
         ·cases hsp:a.spot with
          | none=>left;simp [h1,h2];cases a;simp at hsp |-;exact hsp
          | some sp=>right;simp [h1,h2,hsp]
         ·left;simp [h1,h2]
        ·by_cases h2:j=0
         ·left;simp [h1,h2]
         ·left;simp [h1,h2]
       rcases ha with ha | ha
       ·rw [<-ha];exact this
       ·exfalso;unfold World.cell? at this;rw [ha]at this;split at this<;>simp at this
      have hrl:=(dV.1 d1).1;cases hag:cE P e with
      | true=>exact ⟨.agg ds,⟨vs,hvl,by simpa only [RD]using d1,hcell⟩,d2,by simp [D.many]⟩
      | false=>
       have hone:∃y:D,ds=[y]/\y.many=false:=by
        cases m with
        | zero=>simp [Fits]at d2
        | succ m'=>
         simp only [Fits]at d2;unfold cE at hag;split at d2
         ·obtain ⟨b,rfl⟩:=d2;exact ⟨_,rfl,rfl⟩
         ·obtain ⟨b,rfl,_⟩:=d2;exact ⟨_,rfl,rfl⟩
         ·obtain ⟨b,rfl,_⟩:=d2;exact ⟨_,rfl,rfl⟩
         ·obtain ⟨b,rfl,_⟩:=d2;exact ⟨_,rfl,rfl⟩
         ·rename_i hst;rw [hst]at hag;cases hag
         ·exact d2.elim
       obtain ⟨y,rfl,hy⟩:=hone;have hyc:y.cells=[y]:=by cases y<;>first | rfl | simp [D.many]at hy
       refine ⟨y,⟨vs,hvl,?_,hcell⟩,by rw [hyc];exact d2,hy⟩;simp only [eR]at d1;obtain ⟨v,vs',rfl,q1,rfl⟩:=d1;exact q1
     obtain ⟨xs,x1,x2⟩:=s6 len key;refine ⟨[.lst xs],?_,?_⟩
     ·simp only [eR,RD];refine ⟨_,[],rfl,⟨some a,cap,by rw [x1],by omega,?_⟩,rfl⟩;by_cases hx0:xs=[]
      ·exact .inl hx0
      ·right;have hpos':=List.length_pos_iff.2 hx0;obtain ⟨y0,hy0⟩:∃y0,xs[0]? =some y0:=⟨_,aN hpos'⟩
       have hspot:a.spot=none:=by
        have h1:=hel 0 (by omega);obtain ⟨z,hz⟩:∃z,elems[0]? =some z:=⟨_,aN (by omega)⟩
        rw [hz,Option.bind_eq_some_iff]at h1;obtain ⟨vs,hvs,_⟩:=h1;obtain ⟨_,hvl,hvc⟩:=World.cells?_some hvs;have:=hvc 0 hpos;cases hsp:a.spot with
        | none=>rfl
        | some sp=>
         exfalso;have e1:(a.add (0*P.cellsOf e)).add 0=a:=by simp [Addr.add]
         rw [e1]at this;have hv0:(vs[0]?).isSome:=by simp;omega
         rw [<-this]at hv0;unfold World.cell? at hv0;rw [hsp]at hv0;split at hv0<;>simp at hv0
       refine ⟨a.block,a.off,P.cellsOf e,by cases a;simp at hspot |-;exact hspot,?_,eK.2 fun i y hy=>(x2 i y hy).1⟩;obtain ⟨⟨vs,v1,_,v3⟩,_⟩:=x2 0 y0 hy0;have:(vs[0]?).isSome:=by simp;omega
       obtain ⟨v,hv⟩:=Option.isSome_iff_exists.1 this;have hc:=v3 0 v hv;unfold World.cell? at hc;split at hc
       ·rename_i hb;exact (Array.getElem?_eq_some_iff.1 hb).1
       ·cases hc
     ·simp only [Fits,hu];refine ⟨xs,rfl,by omega,fun y hy=> ?_⟩;obtain ⟨i,hi⟩:=List.getElem?_of_mem hy;exact (x2 i y hi).2
   | struct fs=>
    simp only [ah]at hp;obtain ⟨hp1,hp2⟩:=hp;obtain ⟨xs,m,hm,_,hlen,hxl,hf⟩:=DataW.trod_struct hu h;have hmn:m=n:=by omega
    subst hmn;rw [<-hlen]at hp1;obtain ⟨ds,d1,d2⟩:=Nv (P:=P) (n:=m) (cs:=cs) (w:=w) (Z:=fun b=>b<w.heap.size) hp1 fun f hfm=>by
     obtain ⟨i,hi⟩:=List.getElem?_of_mem hfm;have hi':fs[i]? =some f:=by simpa using hi
     have h1:=hf i f hi';obtain ⟨z,hz⟩:∃z,xs[i]? =some z:=⟨_,aN (by rw [hxl];exact (Array.getElem?_eq_some_iff.1 hi').1)⟩
     rw [hz]at h1;exact ih f.type _ z (by simpa using List.all_eq_true.1 hp2 f hfm) h1
    rw [List.drop_zero]at d1;refine ⟨ds,d1,?_⟩;simp only [Fits,hu];refine ⟨by rw [(dV.1 d1).1,hlen],fun f hfm=> ?_⟩;have:=(d2 f hfm).2;simpa using this
   | _=>simp at hp
end
end
section
section
variable {P:Program} {F:FuncId->Option (VF×Bool)} {T:Nat->Option VL} {o:aK}
abbrev Oh (W:World) (b:Nat):Prop:=b<W.heap.size
def Arg (W:World) (x:AV) (v:Value):Prop:=RV ⟨W,Oh W,Loc.none,bF.get [[],[]]⟩ x v
def Args (W:World) (xs:List AV) (vs:List Value):Prop:=dg ⟨W,Oh W,Loc.none,bF.get [[],[]]⟩ xs vs
theorem Ep (ho:aU F T o) (hmix:P.follows .mixedOrders=true) (hF:∀f vf raw,F f=some (vf,raw)->okF P T f vf=true) {f:FuncId} {as:List AV} {args:Array Value} {W:World} (hv:Args W as args.toList)
  (e:o.call f as []=some ⟨.d (.bool true),[],[]⟩):Calls P f args W fun e w'=>e= .returned (.bool true)/\Below W.heap.size W w':=by
 have no_obj:∀r ob,bF.get [[],[]] r=some ob->False:=by
  intro r ob hr;rcases jJ hr with ⟨_,h2⟩ | ⟨_,h2⟩<;>simp [jg]at h2
 have no_lives:∀b,¬aW [[],[]] Loc.none b:=fun b ⟨r,ob,h1,_⟩=>no_obj r ob h1
 refine (ho.ok hmix hF e).2 args W Loc.none (Oh W) ⟨rfl,hv,fun r ob hr=>(no_obj r ob hr).elim,fun r r' b ob ob' hr=>(no_obj r ob hr).elim,fun b hb=>⟨hb,no_lives b⟩⟩ _ fun v w' L' Z' k t=>⟨?_,t.os,t.tape,t.output,t.size,fun b hb=>t.keep b hb (no_lives b)⟩
 ·have h1:=k.env;simp only [dg]at h1;obtain ⟨v',vs',e1,h2,e2⟩:=h1;subst e2;have:v=v':=by have:[v]=[v']:=e1;injection this
  subst this;simp only [RV,RD]at h2;injection h2 with h2;rw [h2]
theorem A_ {c:Cx}:∀{ds:List D} {vs:List Value},eR c.w c.Z ds vs->dg c (ds.map .d) vs
 | [],vs,h=>by simp only [eR]at h;subst h;simp only [List.map_nil,dg]
 | d::ds,vs,h=>by
  simp only [eR]at h;obtain ⟨v,vs',rfl,h1,h2⟩:=h;simp only [List.map_cons,dg];exact ⟨v,vs',rfl,by simpa only [RV]using h1,A_ h2⟩
variable {H:Type} {enc:TypeId×Value->H} {W:World} {spare:Nat->Bool} {held:Bool} {base:Nat} {r:Reach}
theorem Cn {S:List TypeId} (hS:rY P S=true) {t:TypeId} (ht:t∈S) {fs:Array Field} (hu:P.underlying t=some (.struct fs)) {v:Value} {d:DataW H} {ps:List MemPlace} (hval:Value.okWide P W r base t v) (h:DataW.Trod enc P W 0 spare held t v d ps):
  ∃n ds,Arg W (.agg (ds.map .d)) v/\Fits P n t ds:=by
 obtain ⟨fuel,h⟩:=h;obtain ⟨ds,d1,d2⟩:=xK hS fuel t _ _ ht h;unfold Value.okWide at hval;rw [hu]at hval;obtain ⟨cs,rfl,_⟩:=hval;refine ⟨fuel,ds,?_,d2⟩;unfold Arg;simp only [RV];exact ⟨cs.toList,by simp,A_ d1⟩
theorem Er {S:List TypeId} (hS:rY P S=true) {t e:TypeId} (ht:t∈S) (hu:P.underlying t=some (.slice e)) {a:Option Addr} {len cap:Nat} {d:DataW H} {ps:List MemPlace} (h:DataW.Trod enc P W 0 spare held t (.slice a len cap) d ps):
  ∃n xs,Arg W (.d (.lst xs)) (.slice a len cap)/\Fits P n t [.lst xs]:=by
 obtain ⟨fuel,h⟩:=h;obtain ⟨ds,d1,d2⟩:=xK hS fuel t _ _ ht h;have d2':=d2;cases fuel with
 | zero=>simp [Fits]at d2
 | succ n=>
  simp only [Fits,hu]at d2;obtain ⟨xs,rfl,_⟩:=d2;refine ⟨n+1,xs,?_,d2'⟩;unfold Arg;simp only [RV];simp only [eR]at d1;obtain ⟨u,us,e1,h2,e2⟩:=d1;subst e2;have:[Value.slice a len cap]=[u]:=e1;injection this with this;subst this;exact h2
end
end
def rZ (P:Program) (S:List (TypeId×TypeId)):List Field->List Field->Bool
 | [],[]=>true
 | f::fs,g::gs=>f.offset==g.offset&&P.cellsOf f.type==P.cellsOf g.type&&S.contains (f.type,g.type)&&rZ P S fs gs
 | _,_=>false
def Ks (P:Program) (S:List (TypeId×TypeId)):Bool:=S.all fun p=>match P.underlying p.1,P.underlying p.2 with
 | some .bool,some .bool=>true
 | some (.int k),some (.int k')=>k==k'
 | some .string,some .string=>true
 | some (.slice e),some (.slice e')=>S.contains (e,e')&&cE P e==cE P e'
 | some (.struct fs),some (.struct gs)=>P.cellsOf p.1==P.cellsOf p.2&&rZ P S fs.toList gs.toList
 | _,_=>false
theorem vY {P:Program} {S:List (TypeId×TypeId)}:∀{fs gs:List Field},rZ P S fs gs=true->∀g∈gs,∃f∈fs,f.offset=g.offset/\P.cellsOf f.type=P.cellsOf g.type/\(f.type,g.type)∈S
 | [],[],_,g,hg=>by simp at hg
 | f::fs,g::gs,h,x,hx=>by
  simp only [rZ,ah,beq_iff_eq]at h;obtain ⟨⟨⟨h1,h2⟩,h3⟩,h4⟩:=h;rcases List.mem_cons.1 hx with rfl | hx
  ·exact ⟨f,by simp,h1,h2,by simpa using h3⟩
  ·obtain ⟨f',k1,k2⟩:=vY h4 x hx;exact ⟨f',by simp [k1],k2⟩
 | [],_::_,h,_,_=>by simp [rZ]at h
 | _::_,[],h,_,_=>by simp [rZ]at h
theorem xL {P:Program} {S:List (TypeId×TypeId)} (hS:Ks P S=true):∀(n:Nat) (t t':TypeId) (ds:List D),(t,t')∈S->Fits P n t ds->Fits P n t' ds:=by
 intro n;induction n with
 | zero=>intro t t' ds _ h;simp [Fits]at h
 | succ n ih=>
  intro t t' ds hm h;have hp:=List.all_eq_true.1 hS _ hm;simp only [Fits]at h |-;cases hu:P.underlying t with
  | none=>simp [hu]at h
  | some d=>
   cases hu':P.underlying t' with
   | none=>simp [hu,hu']at hp
   | some d'=>
    simp only [hu,hu']at hp h |-;cases d<;>cases d'<;>simp only at hp h |- <;>first
     | (cases hp;done)
     | exact h
     | (exact h.elim)
     | (have hk:_=_:=(by simpa using hp);subst hk;exact h)
     | (
      simp only [ah,beq_iff_eq]at hp;obtain ⟨xs,h1,h2,h3⟩:=h;exact ⟨xs,h1,h2,fun x hx=>⟨ih _ _ _ (by simpa using hp.1) (h3 x hx).1,by rw [<-hp.2];exact (h3 x hx).2⟩⟩)
     | (
      simp only [ah,beq_iff_eq]at hp;obtain ⟨h1,h2⟩:=h;refine ⟨by rw [<-hp.1];exact h1,fun g hg=> ?_⟩;obtain ⟨f,k1,k2,k3,k4⟩:=vY hp.2 g hg;rw [<-k2,<-k3];exact ih _ _ _ k4 (h2 f k1))
theorem aM {ds:List D} {n:Nat} (h:ds.length=n+1):∃c es,ds=c::es/\es.length=n:=by
 cases ds with
 | nil=>simp at h
 | cons c es=>exact ⟨c,es,rfl,by simpa using h⟩
mutual
def Sm (B:Nat):D->Prop
 | .str s=>s.size<=B
 | .lst xs=>xs.length<=B/\kO B xs
 | .agg cs=>kO B cs
 | _=>True
def kO (B:Nat):List D->Prop
 | []=>True
 | x::xs=>Sm B x/\kO B xs
end
theorem gj {B:Nat}:∀{xs:List D},kO B xs↔∀x∈xs,Sm B x
 | []=>by simp [kO]
 | x::xs=>by simp only [kO,gj (xs:=xs),List.mem_cons,forall_eq_or_imp]
theorem gH {B:Nat} {x:D} (h:Sm B x):kO B x.cells:=by
 cases x<;>simp only [D.cells,kO,and_true]<;>first | exact h | (simpa only [Sm]using h)
end Go.Vi
namespace Go.Vi
open Go
section
variable {P:Program} {n:Nat} {t:TypeId} {ds:List D}
theorem fits_int {k:IntKind} (hu:P.underlying t=some (.int k)) (h:Fits P n t ds):∃i,ds=[.int k i]/\(Lit.int k i).wf=true:=by
 cases n with
 | zero=>simp [Fits]at h
 | succ n=>simpa only [Fits,hu]using h
theorem fu (hu:P.underlying t=some .string) (h:Fits P n t ds):∃s:ByteArray,ds=[.str s]/\s.size<=maxLen:=by
 cases n with
 | zero=>simp [Fits]at h
 | succ n=>simpa only [Fits,hu]using h
theorem bn {e:TypeId} (hu:P.underlying t=some (.slice e)) (h:Fits P n t ds):∃xs m,n=m+1/\ds=[.lst xs]/\xs.length<=maxLen/\∀x∈xs,Fits P m e x.cells/\x.many=cE P e:=by
 cases n with
 | zero=>simp [Fits]at h
 | succ n=>
  simp only [Fits,hu]at h;obtain ⟨xs,h1,h2,h3⟩:=h;exact ⟨xs,n,rfl,h1,h2,h3⟩
theorem bZ {x:D} (h:x.many=true):x= .agg x.cells:=by cases x<;>first | rfl | simp [D.many]at h
end
end Go.Vi
namespace Go.Vi
open Go
section
variable {o:aK}
end
end Go.Vi
namespace Go.Vi
open Go
end Go.Vi
namespace Go.Vi
open Go
def Own (P:Program):Nat->TypeId->List D->Prop
 | 0,_,_=>False
 | n+1,t,ds=>match P.underlying t with
  | some .bool=>∃b,ds=[.bool b]
  | some (.int k)=>∃i,ds=[.int k i]/\(Lit.int k i).wf=true
  | some .string=>∃s:ByteArray,ds=[.str s]/\s.size<=maxLen
  | some (.slice e)=>∃xs,ds=[.own (e,P.cellsOf e) xs]/\xs.length<=maxLen/\∀x∈xs,Own P n e x.cells/\x.many=cE P e
  | some (.struct fs)=>ds.length=P.cellsOf t/\∀f∈fs.toList,Own P n f.type ((ds.drop f.offset).take (P.cellsOf f.type))
  | _=>False
theorem f9:∀xs:List D,aV xs=xs.map bD
 | []=>rfl
 | x::xs=>by simp [aV,f9 xs]
theorem Bb:∀x:D,(bD x).cells=aV x.cells
 | .agg cs=>by simp [bD,D.cells]
 | .own sz xs=>by simp [bD,D.cells,aV]
 | .int _ _=>by simp [bD,D.cells,aV]
 | .bool _=>by simp [bD,D.cells,aV]
 | .str _=>by simp [bD,D.cells,aV]
 | .lst _=>by simp [bD,D.cells,aV]
theorem Co:∀x:D,(bD x).many=x.many:=by intro x;cases x<;>simp [bD,D.many]
theorem kP:∀{xs:List D},cP xs=true↔∀x∈xs,gk x=true
 | []=>by simp [cP]
 | x::xs=>by simp [cP,kP (xs:=xs)]
section
variable {P:Program}
theorem GX:∀(n:Nat) (t:TypeId) (ds:List D),Own P n t ds->Fits P n t (aV ds):=by
 intro n;induction n with
 | zero=>intro t ds h;simp [Own]at h
 | succ n ih=>
  intro t ds h;simp only [Own]at h;simp only [Fits];cases hu:P.underlying t with
  | none=>simp [hu]at h
  | some d=>
   simp only [hu]at h;cases d<;>simp only at h |- <;>first
    | (exact h.elim)
    | (obtain ⟨b,rfl⟩:=h;exact ⟨b,by simp [aV,bD]⟩)
    | (obtain ⟨i,rfl,h2⟩:=h;exact ⟨i,by simp [aV,bD],h2⟩)
    | (
     obtain ⟨xs,rfl,h2,h3⟩:=h;refine ⟨aV xs,by simp [aV,bD],by rw [cj];exact h2,fun x hx=> ?_⟩;rw [f9]at hx;obtain ⟨y,hy,rfl⟩:=List.mem_map.1 hx;rw [Bb,Co];exact ⟨ih _ _ (h3 y hy).1,(h3 y hy).2⟩)
    | (
     obtain ⟨h1,h2⟩:=h;refine ⟨by rw [cj];exact h1,fun f hf=> ?_⟩;have:=ih _ _ (h2 f hf);rw [f9,List.map_take,List.map_drop,<-f9]at this;exact this)
theorem xM {Q:D->Prop} {ds:List D}:∀{fs:List Field} {off total:Nat},kz P fs off total=true->total=ds.length->(∀f∈fs,∀x∈(ds.drop f.offset).take (P.cellsOf f.type),Q x)->∀x∈ds.drop off,Q x
 | [],off,total,h,ht,_,x,hx=>by
  simp [kz]at h;rw [List.drop_eq_nil_of_le (by omega)]at hx;cases hx
 | f::fs,off,total,h,ht,hq,x,hx=>by
  simp only [kz,ah,beq_iff_eq]at h;obtain ⟨h1,h2⟩:=h;have:ds.drop off=(ds.drop off).take (P.cellsOf f.type)++ds.drop (off+P.cellsOf f.type):=by
   rw [<-List.drop_drop,List.take_append_drop]
  rw [this]at hx;rcases List.mem_append.1 hx with hx | hx
  ·exact hq f (by simp) x (by rw [h1];exact hx)
  ·exact xM h2 ht (fun g hg=>hq g (by simp [hg])) x hx
theorem Cp {S:List TypeId} (hS:rY P S=true):∀(n:Nat) (t:TypeId) (ds:List D),t∈S->Own P n t ds->cP ds=true:=by
 intro n;induction n with
 | zero=>intro t ds _ h;simp [Own]at h
 | succ n ih=>
  intro t ds ht h;have hp:=List.all_eq_true.1 hS _ ht;simp only [Own]at h;cases hu:P.underlying t with
  | none=>simp [hu]at h
  | some d=>
   simp only [hu]at h hp;cases d<;>simp only at h hp<;>first
    | (exact h.elim)
    | (obtain ⟨b,rfl⟩:=h;rfl)
    | (obtain ⟨i,rfl,h2⟩:=h;rfl)
    | (
     obtain ⟨xs,rfl,h2,h3⟩:=h;simp only [ah]at hp;simp only [cP,gk,Bool.and_true];rw [kP];intro x hx;have:=ih _ _ (by simpa using hp.1) (h3 x hx).1;cases x<;>simpa [D.cells,cP,gk]using this)
    | (
     obtain ⟨h1,h2⟩:=h;simp only [ah]at hp;rw [kP];intro x hx;refine xM (Q:=fun x=>gk x=true) (off:=0) hp.1 h1.symm (fun f hf y hy=> ?_) x (by simpa using hx);exact kP.1 (ih _ _ (by simpa using List.all_eq_true.1 hp.2 f hf) (h2 f hf)) y hy)
variable {n:Nat} {t:TypeId} {ds:List D}
theorem jL {k:IntKind} (hu:P.underlying t=some (.int k)) (h:Own P n t ds):∃i,ds=[.int k i]/\(Lit.int k i).wf=true:=by
 cases n with
 | zero=>simp [Own]at h
 | succ n=>simpa only [Own,hu]using h
theorem t9 (hu:P.underlying t=some .string) (h:Own P n t ds):∃s:ByteArray,ds=[.str s]/\s.size<=maxLen:=by
 cases n with
 | zero=>simp [Own]at h
 | succ n=>simpa only [Own,hu]using h
theorem mP {e:TypeId} {w:Nat} (hu:P.underlying t=some (.slice e)) (hw:P.cellsOf e=w) (h:Own P n t ds):∃xs m,n=m+1/\ds=[.own (e,w) xs]/\xs.length<=maxLen/\∀x∈xs,Own P m e x.cells/\x.many=cE P e:=by
 cases n with
 | zero=>simp [Own]at h
 | succ n=>
  simp only [Own,hu]at h;obtain ⟨xs,h1,h2,h3⟩:=h;exact ⟨xs,n,rfl,by rw [<-hw];exact h1,h2,h3⟩
theorem kA {e:TypeId} {w:Nat} {xs:List D} (hu:P.underlying t=some (.slice e)) (hw:P.cellsOf e=w) (h2:xs.length<=maxLen) (h3:∀x∈xs,Own P n e x.cells/\x.many=cE P e):Own P (n+1) t [.own (e,w) xs]:=by
 simp only [Own,hu];exact ⟨xs,by rw [hw],h2,h3⟩
theorem vZ {k:IntKind} {i:Int} (hu:P.underlying t=some (.int k)) (h:(Lit.int k i).wf=true):Own P (n+1) t [.int k i]:=by simp only [Own,hu];exact ⟨i,rfl,h⟩
theorem Cq {s:ByteArray} (hu:P.underlying t=some .string) (h:s.size<=maxLen):Own P (n+1) t [.str s]:=by simp only [Own,hu];exact ⟨s,rfl,h⟩
theorem gJ {fs:Array Field} (hu:P.underlying t=some (.struct fs)) (h1:ds.length=P.cellsOf t) (h2:∀f∈fs.toList,Own P n f.type ((ds.drop f.offset).take (P.cellsOf f.type))):Own P (n+1) t ds:=by simp only [Own,hu];exact ⟨h1,h2⟩
theorem v5 {fs:Array Field} (hu:P.underlying t=some (.struct fs)) (h1:ds.length=P.cellsOf t) (h2:∀f∈fs.toList,Fits P n f.type ((ds.drop f.offset).take (P.cellsOf f.type))):Fits P (n+1) t ds:=by simp only [Fits,hu];exact ⟨h1,h2⟩
theorem Bc {e:TypeId} {xs:List D} (hu:P.underlying t=some (.slice e)) (h2:xs.length<=maxLen) (h3:∀x∈xs,Fits P n e x.cells/\x.many=cE P e):Fits P (n+1) t [.lst xs]:=by
 simp only [Fits,hu];exact ⟨xs,rfl,h2,h3⟩
theorem v7:∀(n:Nat) (t:TypeId) (ds:List D),Own P n t ds->Own P (n+1) t ds:=by
 intro n;induction n with
 | zero=>intro t ds h;simp [Own]at h
 | succ n ih=>
  intro t ds h;unfold Own at h |-;split at h<;>first
   | exact h
   | (obtain ⟨xs,h1,h2,h3⟩:=h;exact ⟨xs,h1,h2,fun x hx=>⟨ih _ _ (h3 x hx).1,(h3 x hx).2⟩⟩)
   | (obtain ⟨h1,h2⟩:=h;exact ⟨h1,fun f hf=>ih _ _ (h2 f hf)⟩)
end
mutual
def cnt:D->Int
 | .lst xs=>xs.length+cL xs
 | .own _ xs=>xs.length+cL xs
 | .agg cs=>cL cs
 | _=>0
def cL:List D->Int
 | []=>0
 | x::xs=>cnt x+cL xs
end
mutual
theorem r9:∀x:D,0<=cnt x
 | .lst xs=>by have:=bV xs;simp only [cnt];omega
 | .own _ xs=>by have:=bV xs;simp only [cnt];omega
 | .agg cs=>by have:=bV cs;simp only [cnt];omega
 | .int _ _=>by simp [cnt]
 | .bool _=>by simp [cnt]
 | .str _=>by simp [cnt]
theorem bV:∀xs:List D,0<=cL xs
 | []=>by simp [cL]
 | x::xs=>by have:=r9 x;have:=bV xs;simp only [cL];omega
end
mutual
theorem Eu:∀x:D,cnt (bD x)=cnt x
 | .lst xs=>by simp only [bD]
 | .own _ xs=>by simp only [bD,cnt,cj,iZ xs]
 | .agg cs=>by simp only [bD,cnt,iZ cs]
 | .int _ _=>by simp only [bD]
 | .bool _=>by simp only [bD]
 | .str _=>by simp only [bD]
theorem iZ:∀xs:List D,cL (aV xs)=cL xs
 | []=>rfl
 | x::xs=>by simp only [aV,cL,Eu x,iZ xs]
end
theorem ig {xs:List D} {k:Nat} {x:D} (h:xs[k]? =some x):cL (xs.drop k)=cnt x+cL (xs.drop (k+1)):=by
 obtain ⟨h1,h2⟩:=ai.1 h;rw [List.drop_eq_getElem_cons h1,h2];rfl
theorem qZ {xs:List D} {k:Nat} (h:xs.length<=k):cL (xs.drop k)=0:=by rw [List.drop_eq_nil_of_le h];rfl
section
variable {F:FuncId->Option (VF×Bool)} {T:Nat->Option VL} {o:aK} (ho:aU F T o)
include ho
theorem aU.fk (xs:List D):o.fk xs=aV xs:=by rw [ho];rfl
theorem aU.closed (xs:List D):o.closed xs=cP xs:=by rw [ho];rfl
theorem aU.flat (xs:List D):o.flat xs=xs.all fun x=>match x with | .agg cs=>cs.all dD | x=>dD x:=by rw [ho];rfl
theorem aU.fits (z b:Nat) (xs:List D):o.fits z b xs=(decide (xs.length*b<=140737488355328/\xs.length<=maxLen)&&xs.all fun x=>x.cells.length==z):=by rw [ho];rfl
theorem aU.ofBytes (xs:List D):o.ofBytes xs=(lT xs).map fun bs=>⟨bs.toArray⟩:=by rw [ho];rfl
theorem aU.qB (a b:ByteArray):o.qB a b=decide (((a.size+b.size:Nat):Int)<=IntKind.i64.max):=by rw [ho];rfl
theorem zo {xs:List D} {k:Int} {x y:D} (h0:0<=k) (h:xs[k.toNat]? =some x):o.dm (o.set xs k y) k=some y:=by
 rw [ho.dm,ho.set];simp only [wX];rw [if_pos h0,List.getElem?_set_self (ai.1 h).1]
end
end Go.Vi
namespace Go.Vi
end Go.Vi
namespace Go.Vi
def E.go:Nat->Nat->List (Nat×AV)->List AV
 | 0,_,_=>[]
 | n+1,i,[]=> .undef::E.go n (i+1) []
 | n+1,i,(j,a)::l=>match Nat.beq i j with
  | true=>a::E.go n (i+1) l
  | false=> .undef::E.go n (i+1) ((j,a)::l)
def E (n:Nat) (l:List (Nat×AV)):List AV:=E.go n 0 l
def O.go:Nat->Nat->List (Nat×List (Option Obj))->bF
 | 0,_,_=>[]
 | n+1,i,[]=>[]::O.go n (i+1) []
 | n+1,i,(j,a)::l=>match Nat.beq i j with
  | true=>a::O.go n (i+1) l
  | false=>[]::O.go n (i+1) ((j,a)::l)
def O (n:Nat) (l:List (Nat×List (Option Obj))):bF:=O.go n 0 l
end Go.Vi
namespace Go.Vi
open Go
section
variable {F:FuncId->Option (VF×Bool)} {T:Nat->Option VL} {o:aK} (ho:aU F T o)
include ho
theorem Dr (a b:Int):o.cmp .lss a b=decide (a<b):=by rw [ho.cmp];rfl
theorem Kt (a b:Int):o.cmp .leq a b=decide (a<=b):=by rw [ho.cmp];rfl
theorem GY (a b:Int):o.cmp .gtr a b=decide (a>b):=by rw [ho.cmp];rfl
theorem Ku (a b:Int):o.cmp .geq a b=decide (a>=b):=by rw [ho.cmp];rfl
theorem Dt (a b:Int):o.cmp .eql a b=(a==b):=by rw [ho.cmp];rfl
theorem Du (a b:Int):o.cmp .neq a b=(a !=b):=by rw [ho.cmp];rfl
theorem GZ {a b:Int} (h:a<b):o.cmp .lss a b=true:=by rw [Dr ho];exact decide_eq_true h
theorem LN {a b:Int} (h:b<=a):o.cmp .lss a b=false:=by rw [Dr ho];exact decide_eq_false (by omega)
theorem Ny {a b:Int} (h:b<a):o.cmp .gtr a b=true:=by rw [GY ho];exact decide_eq_true h
theorem cw {a b:Int} (h:a=b):o.cmp .eql a b=true:=by rw [Dt ho];simp [h]
theorem bG {a b:Int} (h:a≠b):o.cmp .eql a b=false:=by rw [Dt ho];simp [h]
theorem Oi {a b:Int} (h:a≠b):o.cmp .neq a b=true:=by rw [Du ho];simp [h]
theorem Oj {a b:Int} (h:a=b):o.cmp .neq a b=false:=by rw [Du ho];simp [h]
theorem cM {a b:Int} (h1: -9223372036854775808<=a+b) (h2:a+b<=9223372036854775807):o.ar .add .i64 a b=a+b:=by
 rw [ho.ar];simp only [Ev];rw [IntKind.wrap_i64];omega
theorem fP {a b:Int} (h1: -9223372036854775808<=a-b) (h2:a-b<=9223372036854775807):o.ar .sub .i64 a b=a-b:=by
 rw [ho.ar];simp only [Ev];rw [IntKind.wrap_i64];omega
theorem Kv {a b:Int} (h1: -9223372036854775808<=a*b) (h2:a*b<=9223372036854775807):o.ar .mul .i64 a b=a*b:=by
 rw [ho.ar];simp only [Ev];rw [IntKind.wrap_i64];omega
theorem lS (xs:List D):o.len xs=xs.length:=ho.len xs
theorem av {xs:List D} {i:Int} {x:D} (h0:0<=i) (h:xs[i.toNat]? =some x):o.dm xs i=some x:=by rw [ho.dm];simp [wX,h,h0]
theorem gZ {xs:List D} {a n:Int} (h0:0<=a) (h1:0<=n) (h2:a+n<=xs.length):o.sub xs a n=some ((xs.drop a.toNat).take n.toNat):=by rw [ho.sub];unfold zp;rw [if_pos ⟨h0,h1,h2⟩]
theorem cX {z b:Nat} {xs:List D} (h:(xs.length:Int)<=4194304) (hb:b<=200) (hc:∀x∈xs,x.cells.length=z):o.fits z b xs=true:=by
 rw [ho.fits];simp only [ah,decide_eq_true_eq,List.all_eq_true,beq_iff_eq];refine ⟨⟨?_,by unfold maxLen;omega⟩,hc⟩;have:xs.length*b<=xs.length*200:=Nat.mul_le_mul_left _ hb;omega
theorem LO (s:ByteArray):o.sLen s=s.size:=ho.sLen s
theorem G0 {s:ByteArray} {i:Int} (h0:0<=i) (h:i<s.size):o.yJ s i=some ((s[i.toNat]'(by omega)).toNat:Int):=by
 rw [ho];show (if 0<=i then (s[i.toNat]?).map fun b=>(b.toNat:Int)else none)=_;rw [if_pos h0,getElem?_pos s i.toNat (by omega)];rfl
theorem Ol {a b:Int} (h:o.cmp .lss a b=true):a<b:=by rw [Dr ho]at h;exact of_decide_eq_true h
theorem LP {a b:Int} (h:o.cmp .lss a b=false):b<=a:=by rw [Dr ho]at h;have:=of_decide_eq_false h;omega
theorem Om {a b:Int} (h:o.cmp .leq a b=true):a<=b:=by rw [Kt ho]at h;exact of_decide_eq_true h
theorem Ou {a b:Int} (h:o.cmp .leq a b=false):b<a:=by rw [Kt ho]at h;have:=of_decide_eq_false h;omega
theorem Ov {a b:Int} (h:o.cmp .gtr a b=true):b<a:=by rw [GY ho]at h;exact of_decide_eq_true h
theorem Ow {a b:Int} (h:o.cmp .gtr a b=false):a<=b:=by rw [GY ho]at h;have:=of_decide_eq_false h;omega
theorem Ox {a b:Int} (h:o.cmp .geq a b=true):b<=a:=by rw [Ku ho]at h;exact of_decide_eq_true h
theorem Oy {a b:Int} (h:o.cmp .geq a b=false):a<b:=by rw [Ku ho]at h;have:=of_decide_eq_false h;omega
theorem LQ {a b:Int} (h:o.cmp .eql a b=true):a=b:=by rw [Dt ho]at h;simpa using h
theorem kB {a b:Int} (h:o.cmp .eql a b=false):a≠b:=by rw [Dt ho]at h;simpa using h
theorem Oz {a b:Int} (h:o.cmp .neq a b=true):a≠b:=by rw [Du ho]at h;simpa using h
theorem OA {a b:Int} (h:o.cmp .neq a b=false):a=b:=by rw [Du ho]at h;simpa using h
omit ho in
theorem Cr {a b:ByteArray} (h:a.toList=b.toList):a=b:=by
 rw [ByteArray.toList_eq,ByteArray.toList_eq]at h;exact ByteArray.ext (Array.toList_inj.mp h)
theorem OB {a b:ByteArray} (h:o.gW .eql a b=true):a=b:=by rw [ho.gW]at h;exact Cr (by simpa [s8]using h)
theorem OD {a b:ByteArray} (h:o.gW .eql a b=false):a≠b:=by rw [ho.gW]at h;intro e;simp [s8]at h;exact h (by rw [e])
theorem OG {a b:ByteArray} (h:o.gW .neq a b=true):a≠b:=by rw [ho.gW]at h;intro e;simp [s8]at h;exact h (by rw [e])
theorem OH {a b:ByteArray} (h:o.gW .neq a b=false):a=b:=by rw [ho.gW]at h;exact Cr (by simpa [s8]using h)
omit ho in
theorem down {P:Int->Prop} (n:Int) (he:P n) (hs:∀i,0<=i->i<n->P (i+1)->P i):∀i,0<=i->i<=n->P i:=by
 have key':∀(k:Nat) (i:Int),i=n-k->0<=i->P i:=by
  intro k;induction k with
  | zero=>
    intro i hi _;have:i=n:=by omega
    subst this;exact he
  | succ k ih=>
   intro i hi h0;exact hs i h0 (by omega) (ih (i+1) (by omega) (by omega))
 intro i h0 h1;exact key' (n-i).toNat i (by omega) h0
theorem LR {s:ByteArray} {i n:Int} (h:o.yJ s i=some n):0<=n/\n<256:=by
 rw [ho]at h
 replace h:(if 0<=i then (s[i.toNat]?).map fun b=>(b.toNat:Int)else none)=some n:=h
 split at h
 ·cases e:s[i.toNat]? with
  | none=>rw [e]at h;cases h
  | some b=>rw [e]at h;injection h with h;subst h;have:=b.toNat_lt;dsimp only;omega
 ·cases h
theorem LS {n:Int} (h1: -9223372036854775808<=n) (h2:n<=9223372036854775807):o.wrap .i64 n=n:=by
 have:o.wrap .i64 n=IntKind.wrap .i64 n:=by rw [ho];rfl
 rw [this,IntKind.wrap_i64];omega
theorem Jd {n:Int} (h:0<=n/\n<256):o.wrap .i64 n=n:=LS ho (by omega) (by omega)
end
theorem aD {xs:List D} {i n:Int} (hn:(xs.length:Int)=n) (h0:0<=i) (h:i<n):∃x,xs[i.toNat]? =some x/\xs.drop i.toNat=x::xs.drop (i+1).toNat/\x∈xs:=by
 have hlt:i.toNat<xs.length:=by omega
 refine ⟨xs[i.toNat],aN hlt,?_,List.getElem_mem hlt⟩;rw [List.drop_eq_getElem_cons hlt,show (i+1).toNat=i.toNat+1 by omega]
end Go.Vi
