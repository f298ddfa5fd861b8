import Derived.Test.YtfnagkpidcdocaaGreatM10
import Derived.ChangeArms
import Derived.DataReads
import Derived.ProofKit
set_option linter.all false
namespace Go.Vi
open Go Go.RowKit
def zj (P:Program) (T:Nat->Option VL) (np:Nat):Code->VC->Bool
 | .skip,.skip=>true
 | .region _ ops draw,.reg vs=>match draw with
  | true=>J9 P np ops vs
  | false=>rO P np ops (List.range ops.size) vs
 | .region _ ops draw,.regL vs _=>match draw with
  | true=>false
  | false=>rO P np ops (List.range ops.size) vs
 | .region _ ops draw,.regP vs ps=>match draw with
  | true=>false
  | false=>rO P np ops (List.range ops.size) vs&&ps.all λp=>decide (p.2.2<np)
 | .region _ ops draw,.regD π vs _ ps=>(match draw with
  | true=>tO P np ops π vs
  | false=>rO P np ops (List.range ops.size) vs)&&ps.all λp=>decide (p.2.2<np)
 | .seq a b,.seq a' b'=>zj P T np a a'&&zj P T np b b'
 | .seq a b,.seqP a' ps b'=>zj P T np a a'&&zj P T np b b'&&ps.all λp=>decide (p.2.2<np)
 | .seq a b,.clone x y c b' m t dst sz bytes agg zero=>Cp P np x y c dst t zero sz agg a&&decide ([x,y,c,b',m,t,dst].Nodup)&&zj P T np b (.seq (.reg [⟨some b',none,.buildSlice sz agg zero 0 []⟩,⟨some m,none,.move (.tmp x)⟩,⟨some t,none,.append sz bytes (.tmp b') (.tmp m)⟩,⟨some dst,none,.move (.tmp t)⟩]) .ret)
 | .cond c a b,.cond c' a' b'=>dr c c'&&zj P T np a a'&&zj P T np b b'
 | .block id c,.block id' c'=>id==id'&&zj P T np c c'
 | .loop c,.loop prom _ _ key=>(match T key with | some l=>zj P T np c l.body | none=>false)&&prom.all λp=>decide (p.2.2.1<np)
 | .exit id,.exit id'=>id==id'
 | .ret,.ret=>true
 | _,_=>false
def AW (P:Program) (c:Code) (Q:Exit->Act->World->Prop) (a:Act) (w:World):Prop:=
 ∀(b:Frame) (k:List Item) (cs:List Frame),∃e a' w',Q e a' w'/\Arrives P (lone (b.at a (.inLoop c::k)) cs w) b k cs e a' w'
section
variable {P:Program} {Q:Exit->Act->World->Prop}
theorem DQ {c:Code} {a:Act} {w:World} (h:c.wp P (Exit.then (AW P c Q) Q) a w) (b:Frame) (k:List Item) (cs:List Frame):
  ∃e a' w',Q e a' w'/\Arrives P (lone (b.at a (.code c:: .inLoop c::k)) cs w) b k cs e a' w':=by
 obtain ⟨e,a₁,w₁,E,j⟩:=h b (.inLoop c::k) cs;cases e with
 | normal=>
  obtain ⟨e₂,a₂,w₂,hq₂,harr₂⟩:=E b k cs;exact ⟨e₂,a₂,w₂,hq₂,.of_steps j harr₂⟩
 | exit id=>exact ⟨_,a₁,w₁,E,.pass (x:= .inLoop c) rfl (λ_ _=> .inl (by simp)) j⟩
 | goto l=>exact ⟨_,a₁,w₁,E,.pass (x:= .inLoop c) rfl (λ_ _=> .inl (by simp)) j⟩
 | ret=>exact ⟨_,a₁,w₁,E,.pass (x:= .inLoop c) rfl (λ_ _=> .inl (by simp)) j⟩
 | panic ch=>exact ⟨_,a₁,w₁,E,.pass (x:= .inLoop c) rfl (λ_ _=> .inl (by simp)) j⟩
 | outgrown=>exact ⟨_,a₁,w₁,E,.pass (x:= .inLoop c) rfl (λ_ _=> .inl (by simp)) j⟩
theorem Ka {c:Code} {a:Act} {w:World} (h:c.wp P (Exit.then (AW P c Q) Q) a w):AW P c Q a w:=λb k cs=>by
 obtain ⟨e,a',w',E,j⟩:=DQ h b k cs;exact ⟨e,a',w',E,.of_steps (.one step_inLoop) j⟩
theorem Mu {c:Code} {a:Act} {w:World} (h:c.wp P (Exit.then (AW P c Q) Q) a w):(Code.loop c).wp P Q a w:=λb k cs=>by
 obtain ⟨e,a',w',E,j⟩:=DQ h b k cs;exact ⟨e,a',w',E,.of_steps (.one step_loop) j⟩
end
def Cq (P:Program) (T:Nat->Option VL) (loop:di):Prop:=
 ∀key s out s',loop key s=some (out,s')->∀l,T key=some l->∀(np:Nat) (c:Code),zj P T np c l.body=true->∀a w L Z,RS s a w L Z->∀Q:Exit->Act->World->Prop,
  (∀a' w' L' Z',RS s' a' w' L' Z'->Tr np s.sto s'.sto w w' L L' Z Z'->Q (yL out) a' w')->c.wp P (Exit.then (AW P c Q) Q) a w
section
variable {P:Program} {T:Nat->Option VL} {call:dh} {loop:di}
theorem rT (
      a7:P.follows .mixedOrders=true) (a0:iS P call) (a9:Cq P T loop) {np:Nat}:∀(c:Code) (vc:VC) (s:St) (out:Out) (s':St) (a:Act) (w:World) (L:Loc) (Z:Nat->Prop),zj P T np c vc=true->RS s a w L Z->
  exec (real call loop) vc s=some (out,s')->∀Q:Exit->Act->World->Prop,(∀a' w' L' Z',RS s' a' w' L' Z'->Tr np s.sto s'.sto w w' L L' Z Z'->Q (yL out) a' w')->c.wp P Q a w:=by
 intro c;induction c with
 | skip=>
  intro vc s out s' a w L Z j h e Q E;cases vc<;>simp only[zj]at j<;>first | (cases j;done) | skip
  simp only[exec]at e;injection e with e;injection e with M O;subst M O;exact wp_skip (E a w L Z h (Tr.refl _ _ _ _ _))
 | region id ops draw=>
  intro vc s out s' a w L Z j h e Q E;cases vc<;>simp only[zj]at j<;>first | (cases j;done) | skip
  ·rename_i vs;simp only[exec]at e;split at e
   case h_2=>cases e
   rename_i s1 I;injection e with e;injection e with M O;subst M O;cases draw with
   | true=>exact EW a7 a0 j h I Q E
   | false=>exact wp_region (lg a0 j h I Q E)
  ·rename_i vs x;simp only[exec]at e;split at e
   case h_2=>cases e
   rename_i s1 I;split at e
   case h_2=>cases e
   rename_i s2 hs2;injection e with e;injection e with M O;subst M O;cases draw with
   | true=>cases j
   | false=>
    refine wp_region (lg a0 j h I Q λa' w' L' Z' J k2=> ?_);obtain ⟨L2,m1,m2⟩:=oo (np:=np) J hs2;exact E a' w' L2 Z' m1 (k2.trans m2)
  ·rename_i vs ps;simp only[exec]at e;split at e
   case h_2=>cases e
   rename_i s1 I;split at e
   case h_2=>cases e
   rename_i s2 hs2;injection e with e;injection e with M O;subst M O;cases draw with
   | true=>cases j
   | false=>
    simp only[af]at j;refine wp_region (lg a0 j.1 h I Q λa' w' L' Z' J k2=> ?_);obtain ⟨L2,Z2,m1,m2⟩:=mI (np:=np) j.2 J hs2;exact E a' w' L2 Z2 m1 (k2.trans m2)
  rename_i π vs x ps;simp only[exec]at e;split at e
  case h_2=>cases e
  rename_i s1 I;split at e
  case h_2=>cases e
  rename_i s2 hs2;split at e
  case h_2=>cases e
  rename_i s3 aa;injection e with e;injection e with M O;subst M O;simp only[af]at j;have key:∀a' w' L' Z',RS s1 a' w' L' Z'->Tr np s.sto s1.sto w w' L L' Z Z'->Q .normal a' w':=λa' w' L' Z' J k2=>by
   have h2:∃L2,RS s2 a' w' L2 Z'/\Tr np s1.sto s2.sto w' w' L' L2 Z' Z':=by
    cases x with
    | none=>injection hs2 with hs2;subst hs2;exact ⟨L',J,Tr.refl _ _ _ _ _⟩
    | some x=>exact oo (np:=np) J hs2
   obtain ⟨L2,m1,m2⟩:=h2;obtain ⟨L3,Z3,n1,n2⟩:=mI (np:=np) j.2 m1 aa;exact E a' w' L3 Z3 n1 ((k2.trans m2).trans n2)
  cases draw with
  | true=>exact vv a7 a0 j.1 h I Q key
  | false=>exact wp_region (lg a0 j.1 h I Q key)
 | seq x y a4 a5=>
  intro vc s out s' a w L Z j h e Q E;cases vc<;>simp only[zj]at j<;>first | (cases j;done) | skip
  ·rename_i x' y' c' b' m' t' ac sz bytes agg zero;simp only[af,decide_eq_true_eq]at j;obtain ⟨⟨a3,a6⟩,a8⟩:=j;refine DP (loop:=loop) a0 h a3 a6 e Q E λU V S Z1 s1 s2 out hR he hq=> ?_
   exact a5 _ s1 out s2 U V S Z1 a8 hR he Q hq
  ·rename_i x' y';simp only[af]at j;simp only[exec]at e;refine wp_seq ?_;split at e
   ·rename_i s1 I;refine a4 x' s _ s1 a w L Z j.1 h I _ λU V S Z1 J k2=> ?_
    exact a5 y' s1 out s' U V S Z1 j.2 J e Q λa' w' L' Z' m1 m2=>E a' w' L' Z' m1 (k2.trans m2)
   rename_i r hr;refine a4 x' s out s' a w L Z j.1 h e _ λU V S Z1 J k2=> ?_
   have:=E U V S Z1 J k2;cases out with
   | norm=>exact (hr s' e).elim
   | ret=>exact this
   | exit id=>exact this
  rename_i x' ps y';simp only[af]at j;simp only[exec]at e;refine wp_seq ?_;split at e
  ·rename_i s1 I;split at e
   case h_2=>cases e
   rename_i s2 hs2;refine a4 x' s _ s1 a w L Z j.1.1 h I _ λU V S Z1 J k2=> ?_
   obtain ⟨L2,Z2,m1,m2⟩:=mI (np:=np) j.2 J hs2;exact a5 y' s2 out s' U V L2 Z2 j.1.2 m1 e Q λa' w' L' Z' n1 n2=>E a' w' L' Z' n1 ((k2.trans m2).trans n2)
  rename_i r hr;refine a4 x' s out s' a w L Z j.1.1 h e _ λU V S Z1 J k2=> ?_
  have:=E U V S Z1 J k2;cases out with
  | norm=>exact (hr s' e).elim
  | ret=>exact this
  | exit id=>exact this
 | cond c x y a4 a5=>
  intro vc s out s' a w L Z j h e Q E;cases vc<;>simp only[zj]at j<;>first | (cases j;done) | skip
  rename_i c' x' y';simp only[af]at j;simp only[exec]at e;split at e
  case h_2=>cases e
  rename_i t ht;have hv:=aO h j.1.1 ht;simp only[RV,RD,List.cons.injEq,and_true]at hv;refine wp_cond hv ?_;cases t with
  | true=>exact a4 x' s out s' a w L Z j.1.2 h e Q E
  | false=>exact a5 y' s out s' a w L Z j.2 h e Q E
 | block id c ih=>
  intro vc s out s' a w L Z j h e Q E;cases vc<;>simp only[zj]at j<;>first | (cases j;done) | skip
  rename_i id' c';simp only[af,beq_iff_eq]at j;obtain ⟨rfl,j⟩:=j;simp only[exec]at e;refine wp_block ?_;split at e
  ·rename_i k s1 I;refine ih c' s _ s1 a w L Z j h I _ λU V S Z1 J k2=> ?_
   simp only[yL,Exit.inBlock];split at e
   ·rename_i hk;injection e with e;injection e with M O;subst M O;rw[if_pos hk];exact E U V S Z1 J k2
   rename_i hk;injection e with e;injection e with M O;subst M O;rw[if_neg hk];exact E U V S Z1 J k2
  rename_i r hr;refine ih c' s out s' a w L Z j h e _ λU V S Z1 J k2=> ?_
  have:=E U V S Z1 J k2;cases out with
  | norm=>exact this
  | ret=>exact this
  | exit id=>exact (hr id s' e).elim
 | loop c ih=>
  intro vc s out s' a w L Z j h e Q E;cases vc<;>simp only[zj]at j<;>first | (cases j;done) | skip
  rename_i prom le ls key;simp only[af]at j;obtain ⟨a3,a6⟩:=j;split at a3
  case h_2=>cases a3
  rename_i l hl;simp only[exec]at e;split at e
  case h_2=>cases e
  rename_i s1 I;obtain ⟨S,J,k2⟩:=cP (np:=np) (λp hp=>by simpa using List.all_eq_true.1 a6 p hp) h I;obtain ⟨m1,m2⟩:=J.mask np le ls;exact Mu (a9 key _ out s' e l hl np c a3 a w S Z m1 Q λa' w' L' Z' n1 n2=>E a' w' L' Z' n1 ((k2.trans m2).trans n2))
 | exit id=>
  intro vc s out s' a w L Z j h e Q E;cases vc<;>simp only[zj]at j<;>first | (cases j;done) | skip
  rename_i id';simp only[beq_iff_eq]at j;subst j;simp only[exec]at e;injection e with e;injection e with M O;subst M O;exact wp_exit (E a w L Z h (Tr.refl _ _ _ _ _))
 | ret=>
  intro vc s out s' a w L Z j h e Q E;cases vc<;>simp only[zj]at j<;>first | (cases j;done) | skip
  simp only[exec]at e;injection e with e;injection e with M O;subst M O;exact wp_ret (E a w L Z h (Tr.refl _ _ _ _ _))
 | _=>
  intro vc s out s' a w L Z j;cases vc<;>simp[zj]at j
theorem Kb (j:P.follows .mixedOrders=true) (O:iS P call) (E:Cq P T loop):Cq P T (u9 (real call loop) T):=by
 intro key s out s' e l hl np c I a w L Z h Q hQ;unfold u9 at e;rw[hl]at e;simp only at e;split at e
 ·rename_i s1 J;refine rT j O E c l.body s _ s1 a w L Z I h J _ λS U V Z1 k1 k2=> ?_
  obtain ⟨m1,m2⟩:=k1.mask np l.liveE l.liveS;exact Ka (E key _ out s' e l hl np c I S U V Z1 m1 Q λa' w' L' Z' n1 n2=>hQ a' w' L' Z' n1 ((k2.trans m2).trans n2))
 ·rename_i M s1 a0 J;injection e with e;injection e with e1 e2;subst e1 e2;refine rT j O E c l.body s M s1 a w L Z I h J _ λS U V Z1 k1 k2=> ?_
  obtain ⟨m1,m2⟩:=k1.mask np l.outE l.outS;have:=hQ S U V Z1 m1 (k2.trans m2);cases M with
  | norm=>exact (a0 rfl).elim
  | ret=>exact this
  | exit id=>exact this
 cases e
end
def rz (P:Program):List ResultVar->List (Sum Nat (Nat×Bool×Nat))->Bool
 | [],[]=>true
 | .tmp t::l,.inl t'::r=>t==t'&&rz P l r
 | .cell a ty::l,.inr (a',agg,n)::r=>a==a'&&(match P.info? ty,P.underlying ty with | some i,some d=>i.size==n&&agg==tU d | _,_=>false)&&rz P l r
 | _,_=>false
def okF (P:Program) (T:Nat->Option VL) (f:FuncId) (v:VF):Bool:=match P.funcs[zh f]? with
 | some fn=>match fn.body with
  | some c=> !(fn.name== "runtime.NumGoroutine")&&v.ntmps==fn.ntmps&&decide (v.nargs<=v.ntmps)&&rz P fn.results.toList v.results&&zj P T v.ntmps c v.body
  | none=>false
 | none=>false
section
variable {P:Program} {T:Nat->Option VL} {call:dh} {loop:di}
def uK (tmps:Array Value):ResultVar->Sem Value
 | .tmp t=>pure (tmps.getD t undef)
 | .cell a t=>do loadVar t (<-asAddr (tmps.getD a undef))
theorem oE {s:St} {a:Act} {w:World} {L:Loc} {Z:Nat->Prop} (h:RS s a w L Z):∀{l:List ResultVar} {r:List (Sum Nat (Nat×Bool×Nat))} {xs:List AV},rz P l r=true->lM (real call loop) s r=some xs->
  ∃vs,(l.mapM (uK a.tmps)).run P w= .ok vs w/\dH (aI w Z L s.sto) xs vs
 | [],[],xs,_,e=>by
  simp only[lM]at e;injection e with e;subst e;exact ⟨[],by simp,by simp only[dH]⟩
 | .tmp t::l,.inl t'::r,xs,j,e=>by
  simp only[rz,af,beq_iff_eq]at j;obtain ⟨rfl,j⟩:=j;simp only[lM]at e;split at e
  case h_2=>cases e
  rename_i x ys J I;injection e with e;subst e;obtain ⟨vs,M,O⟩:=oE h j I;refine ⟨_::vs,?_,by simp only[dH];exact ⟨_,_,rfl,h.get J,O⟩⟩;simp[List.mapM_cons,uK,M]
 | .cell q ty::l,.inr (q',agg,n)::r,xs,j,e=>by
  simp only[rz,af,beq_iff_eq]at j;obtain ⟨⟨rfl,E⟩,S⟩:=j;split at E
  case h_2=>cases E
  rename_i i d hi V;simp only[af,beq_iff_eq]at E;obtain ⟨rfl,U⟩:=E;simp only[lM]at e;split at e
  case h_2=>cases e
  rename_i p hp;split at e
  case h_2=>cases e
  rename_i x ys J I;injection e with e;subst e;obtain ⟨vs,M,O⟩:=oE h S I;obtain ⟨ad,u,k1,k2,k3⟩:=tV (P:=P) (w:=w) h.obj hi V U (h.get hp) J;refine ⟨u::vs,?_,by simp only[dH];exact ⟨_,_,rfl,k3,O⟩⟩;have:(uK a.tmps (.cell q ty)).run P w= .ok u w:=by
   simp[uK,k1,asAddr,k2]
  simp[List.mapM_cons,this,M]
 | [],_::_,_,j,_=>by simp[rz]at j
 | _::_,[],_,j,_=>by simp[rz]at j
 | .tmp _::_,.inr _::_,_,j,_=>by simp[rz]at j
 | .cell _ _::_,.inl _::_,_,j,_=>by simp[rz]at j
def Cr:List Value->Value
 | [v]=>v
 | vs=> .tuple vs.toArray
theorem DR {fn:Func} {tmps:Array Value} {w:World} {vs:List Value} (h:(fn.results.toList.mapM (uK tmps)).run P w= .ok vs w):(results fn tmps).run P w= .ok (Cr vs) w:=by
 have e:∀g:ResultVar->Sem Value,g=uK tmps->Sem.run P (do
   let vs<-List.toArray<$>List.mapM g fn.results.toList
   pure (if h:vs.size=1 then vs[0]else Value.tuple vs)) w= .ok (Cr vs) w:=by
  rintro g rfl;simp only[Sem.run_bind,Sem.run_map,h,Result.andThen];cases vs with
  | nil=>simp[Cr]
  | cons v l=>cases l with
   | nil=>simp[Cr]
   | cons u l=>simp[Cr]
 unfold results;rw[Array.mapM_eq_mapM_toList];exact e _ (by funext x;cases x<;>rfl)
def inn (n:Nat) (r:Id):Id:=(n+r.2,0)
def dK (n:Nat) (cs:List (Option Obj)):bC:=List.replicate n []++cs.map λob=>[ob.map (·.map (inn n))]
theorem nM {n:Nat} {cs:List (Option Obj)} {r:Id} {ob:Obj} (h:(dK n cs).get r=some ob):∃i o,r=(n+i,0)/\jX cs i=some o/\ob=o.map (inn n):=by
 unfold bC.get dK at h;rw[List.getElem?_append,List.length_replicate]at h;split at h
 ·rename_i l hl;split at hl
  ·rename_i e;simp[e]at hl;subst hl;simp at h
  rename_i e;rw[List.getElem?_map]at hl;cases hc:cs[r.1-n]? with
  | none=>simp[hc]at hl
  | some o=>
   simp[hc]at hl;subst hl;obtain ⟨j,E⟩:=r;cases E with
   | zero=>
    simp at h;cases o with
    | none=>simp at h
    | some o=>
     simp at h hc e;refine ⟨j-n,o,by simp;omega,by simp[jX,hc],h.symm⟩
   | succ k=>simp at h
 cases h
theorem qG {n:Nat} {cs:List (Option Obj)} {i:Nat}:(dK n cs).get (n+i,0)=(jX cs i).map (·.map (inn n)):=by
 unfold bC.get dK jX;rw[List.getElem?_append_right (by simp)];simp only[List.length_replicate,Nat.add_sub_cancel_left,List.getElem?_map];cases cs[i]? with
 | none=>rfl
 | some o=>simp
def L0 (n:Nat) (L:Loc):Loc:=⟨λr=>if n<=r.1 then L (1,r.1-n)else none,λr=>if n<=r.1 then L.nest (1,r.1-n)else λ_=>False⟩
theorem yM {n i b:Nat} {L:Loc} {o:Obj} {f:Id->Id}:(o.map f).has (L0 n L) (n+i,0) b↔o.has L (1,i) b:=by
 unfold Obj.has;simp[L0,Obj.x9]
theorem Gn {w:World} {Z:Nat->Prop} {L:Loc} {n:Nat} {cs:List (Option Obj)} {r:Id} (j:(bC.get [[],cs] r).isSome):PY ⟨w,Z,L,bC.get [[],cs]⟩ ⟨w,Z,L0 n L,(dK n cs).get⟩ (inn n) r:=by
 obtain ⟨o,ho⟩:=Option.isSome_iff_exists.1 j;obtain ⟨E,e⟩:=r
 match E with
 | 0=>rw[yq]at ho;simp[jX]at ho
 | 1=>
  rw[lN]at ho;refine ⟨?_,λ_=> ?_,λsz xs k=> ?_⟩
  ·simp[L0,inn]
  ·show ((dK n cs).get (n+e,0)).isSome;rw[qG,ho];rfl
  show ((dK n cs).get (n+e,0)).bind Obj.rw=_;have k':(jX cs e).bind Obj.rw=some (sz,xs):=k;rw[ho]at k';rw[qG,ho];simpa [Obj.ng]using k'
 | i+2=>rw[Ce]at ho;cases ho
theorem Mv {as:List AV} {cs:List (Option Obj)} {vs:Array Value} {w:World} {L:Loc} {Z:Nat->Prop} (h:RS ⟨as,[[],cs]⟩ ⟨vs,[]⟩ w L Z) {n m:Nat} (hm:as.length=m):
  RS ⟨AV.ol (inn n) as++List.replicate (n-m) .bare,dK n cs⟩ ⟨vs++Array.replicate (n-vs.size) undef,[]⟩ w (L0 n L) Z:=by
 have e:=h.env;have U:=(bJ.1 e).1;have a0:vs.size=m:=by rw[<-hm];simpa using U.symm
 have I:∀b,aY (dK n cs) (L0 n L) b->aY [[],cs] L b:=λb hl=>by
  obtain ⟨q,o,j,h2⟩:=hl;obtain ⟨i,o',rfl,h3,rfl⟩:=nM j;exact ⟨(1,i),o',h3,yM.1 h2⟩
 refine ⟨rfl,?_,λr ob V=> ?_,λr r' b ob ob' ho a1 O a3=> ?_,λb O=>⟨(h.dis b O).1,λhl=>(h.dis b O).2 (I b hl)⟩⟩
 ·have j:=ou (ob:=bC.get [[],cs]) (ob':=(dK n cs).get) (L':=L0 n L) (f:=inn n) as _ (λr V=>Gn (eE as _ e r V)) e;rw[bJ]at j |-;refine ⟨by simp[a0,hm]at j |-;rw[j.1],λi x v J E=> ?_⟩;have a4:(AV.ol (inn n) as).length=vs.size:=by simpa using j.1
  simp only[Array.toList_append,Array.toList_replicate]at E;rw[List.getElem?_append]at J E;rw[a4]at J;simp only[Array.length_toList]at E;split at J
  ·rename_i M;rw[if_pos M]at E;exact j.2 i x v J E
  rename_i M;rw[if_neg M]at E;have a5:x= .bare:=by
   have:=List.mem_of_getElem? J;exact (List.mem_replicate.1 this).2
  have a6:v=undef:=by
   have:=List.mem_of_getElem? E;exact (List.mem_replicate.1 this).2
  subst a5 a6;simp only[RV]
 ·obtain ⟨i,o,rfl,h3,rfl⟩:=nM V;have S:=h.obj (1,i) o h3;exact Cd (g:=bC.get [[],cs]) S (by simp[L0]) (λ_=>by simp[L0]) (λq hq=>Gn (kV S q hq))
 obtain ⟨i,o,rfl,h3,rfl⟩:=nM ho;obtain ⟨i',o',rfl,a7,rfl⟩:=nM a1;have:=h.injH (1,i) (1,i') b o o' h3 a7 (yM.1 O) (yM.1 a3);simp at this;rw[this]
end
section
section
variable {P:Program} {T:Nat->Option VL} {call:dh} {loop:di}
def oX (n:Nat) (ids:List Id) (r:Id):Id:=if r.1<n then (0,idx ids r)else (1,r.1-n)
def oF (n:Nat) (ids:List Id) (L e:Loc):Loc:=
 ⟨λr=>if r.1=0 then (match ids[r.2]? with | some q=>L q | none=>none)else if r.1=1 then L (n+r.2,0)else e r,
  λr=>if r.1=0 then (match ids[r.2]? with | some q=>L.nest q | none=>λ_=>False)else if r.1=1 then L.nest (n+r.2,0)else e.nest r⟩
def uL (s:bC) (n:Nat) (ids:List Id):List (Option Obj):=ids.map λr=>(s.get r).map (·.map (oX n ids))
def uM (s:bC) (n m:Nat) (ids:List Id):List (Option Obj):=(List.range m).map λi=>(s.get (n+i,0)).map (·.map (oX n ids))
theorem Cs {s:bC} {n:Nat} {ids:List Id} {j:Nat}:jX (uL s n ids) j=match ids[j]? with | some q=>(s.get q).map (·.map (oX n ids)) | none=>none:=by
 unfold uL jX;rw[List.getElem?_map];cases ids[j]? <;>rfl
theorem wB {s:bC} {n m:Nat} {ids:List Id} {j:Nat}:jX (uM s n m ids) j=if j<m then (s.get (n+j,0)).map (·.map (oX n ids))else none:=by
 unfold uM jX;rw[List.getElem?_map];by_cases h:j<m
 ·simp[h]
 simp[h]
theorem Kc {n m:Nat} {ids:List Id} {cs:List (Option Obj)} {v:AV} {u:Value} {s:St} {a:Act} {w w':World} {L I:Loc} {Z Z':Nat->Prop} (h:RS s a w' L Z') (t:Tr n (dK n cs) s.sto w w' (L0 n I) L Z Z') (hm:m=cs.length)
  (hn:ids.Nodup) (a3:∀r∈ids,r.1<n) (hs:∀r∈ids,(s.sto.get r).isSome) (hc:∀r∈ids,∀ob,s.sto.get r=some ob->∀q∈ob.refs,q∈ids)
  (hv:RV (aI w' Z' L s.sto) v u) (ag:∀r∈v.refs,r.1<n->r∈ids) (am:∀i,i<m->∀ob,s.sto.get (n+i,0)=some ob->∀r∈ob.refs,r.1<n->r∈ids):
  RS ⟨[v.map (oX n ids)],[uL s.sto n ids,uM s.sto n m ids]⟩ ⟨#[u],[]⟩ w' (oF n ids L I) Z'/\Tr 1 [[],cs] [uL s.sto n ids,uM s.sto n m ids] w w' I (oF n ids L I) Z Z':=by
 have ae:∀r,(s.sto.get r).isSome->n<=r.1->∃i,i<m/\r=(n+i,0):=by
  intro r E an;obtain ⟨S,_⟩:=t.psame r an E;obtain ⟨o,ho⟩:=Option.isSome_iff_exists.1 S;obtain ⟨i,o',rfl,h3,_⟩:=nM ho;exact ⟨i,by rw[hm];exact (ax.1 (Dw h3)).1,rfl⟩
 have a0:∀r,(s.sto.get r).isSome->(r.1<n->r∈ids)->PY ⟨w',Z',L,s.sto.get⟩ ⟨w',Z',oF n ids L I,bC.get [uL s.sto n ids,uM s.sto n m ids]⟩ (oX n ids) r:=by
  intro r E a4;by_cases a5:r.1<n
  ·have hi:=tv (a4 a5);have U:oX n ids r=(0,idx ids r):=by simp[oX,a5]
   refine ⟨?_,λ_=> ?_,λsz xs k=> ?_⟩
   ·show oF n ids L I (oX n ids r)=L r;rw[U];simp[oF,hi]
   ·show (bC.get [uL s.sto n ids,uM s.sto n m ids] (oX n ids r)).isSome;rw[U,yq,Cs,hi];simpa using E
   show (bC.get [uL s.sto n ids,uM s.sto n m ids] (oX n ids r)).bind Obj.rw=_;have k':(s.sto.get r).bind Obj.rw=some (sz,xs):=k;rw[U,yq,Cs,hi];cases ho:s.sto.get r with
   | none=>simp[ho]at k'
   | some o=>simp[ho]at k';simp[ho,Obj.ng,k']
  obtain ⟨i,hi,rfl⟩:=ae r E (by omega);have U:oX n ids (n+i,0)=(1,i):=by simp[oX]
  refine ⟨?_,λ_=> ?_,λsz xs k=> ?_⟩
  ·show oF n ids L I (oX n ids (n+i,0))=L (n+i,0);rw[U];simp[oF]
  ·show (bC.get [uL s.sto n ids,uM s.sto n m ids] (oX n ids (n+i,0))).isSome;rw[U,lN,wB,if_pos hi];simpa using E
  show (bC.get [uL s.sto n ids,uM s.sto n m ids] (oX n ids (n+i,0))).bind Obj.rw=_;have k':(s.sto.get (n+i,0)).bind Obj.rw=some (sz,xs):=k;rw[U,lN,wB,if_pos hi];cases ho:s.sto.get (n+i,0)with
  | none=>simp[ho]at k'
  | some o=>simp[ho]at k';simp[Obj.ng,k']
 have J:∀r ob,bC.get [uL s.sto n ids,uM s.sto n m ids] r=some ob->∃q o,s.sto.get q=some o/\(oF n ids L I r=L q/\(oF n ids L I).nest r=L.nest q)/\ob=o.map (oX n ids)/\((∃j,r=(0,j)/\ids[j]? =some q/\q∈ids)\/∃i,i<m/\q=(n+i,0)/\r=(1,i)):=by
  intro r ob E;obtain ⟨r1,r2⟩:=r
  match r1 with
  | 0=>
   rw[yq,Cs]at E;split at E
   ·rename_i q hq;cases ho:s.sto.get q with
    | none=>simp[ho]at E
    | some o=>simp[ho]at E;exact ⟨q,o,ho,⟨by simp[oF,hq],by simp[oF,hq]⟩,E.symm,.inl ⟨r2,rfl,hq,List.mem_of_getElem? hq⟩⟩
   cases E
  | 1=>
   rw[lN,wB]at E;split at E
   ·rename_i hi;cases ho:s.sto.get (n+r2,0)with
    | none=>simp[ho]at E
    | some o=>simp[ho]at E;exact ⟨(n+r2,0),o,ho,⟨by simp[oF],by simp[oF]⟩,E.symm,.inr ⟨r2,hi,rfl,rfl⟩⟩
   cases E
  | i+2=>rw[Ce]at E;cases E
 have O:∀b,aY [uL s.sto n ids,uM s.sto n m ids] (oF n ids L I) b->aY s.sto L b:=λb hl=>by
  obtain ⟨r,ob,S,h2⟩:=hl;obtain ⟨q,o,g1,g2,rfl,_⟩:=J r ob S;exact ⟨q,o,g1,(tA g2.1 g2.2).1 (wz.1 h2)⟩
 have a4:∀b,aY [[],cs] I b->aY (dK n cs) (L0 n I) b:=λb hl=>by
  obtain ⟨r,ob,S,h2⟩:=hl;rcases kU S with ⟨_,k⟩ | ⟨k1,k⟩
  ·simp[jX]at k
  refine ⟨(n+r.2,0),ob.map (inn n),by rw[qG,k];rfl,?_⟩;have E:r=(1,r.2):=Prod.ext k1 rfl;rw[E]at h2;exact yM.2 h2
 have V:∀b,aY (dK n cs) (L0 n I) b->aY [[],cs] I b:=λb hl=>by
  obtain ⟨q,o,S,h2⟩:=hl;obtain ⟨i,o',rfl,h3,rfl⟩:=nM S;exact ⟨(1,i),o',h3,yM.1 h2⟩
 refine ⟨⟨rfl,?_,?_,?_,λb M=>⟨(h.dis b M).1,λhl=>(h.dis b M).2 (O b hl)⟩⟩,
  ⟨t.os,t.tape,t.output,t.size,λb M ao=>t.keep b M λhl=>ao (V b hl),λb hl=>(t.lives b (O b hl)).imp (V b) id,t.zin,λb M=>(t.zout b M).imp id λx=>x.imp id (V b),?_,?_⟩⟩
 ·simp only[dH];refine ⟨u,[],rfl,?_,rfl⟩;exact Cc (ob:=s.sto.get) v _ (λr E=>a0 r (wA _ _ hv r E) (ag r E)) hv
 ·intro r ob E;obtain ⟨q,o,g1,g2,g3,g4⟩:=J r ob E;subst g3;refine Cd (g:=s.sto.get) (h.obj q o g1) g2.1 (λ_=>g2.2) (λp hp=>a0 p (kV (h.obj q o g1) p hp) ?_);rcases g4 with ⟨j,_,_,g5⟩ | ⟨i,gi,rfl,_⟩
  ·exact λ_=>hc q g5 o g1 p hp
  exact am i gi o g1 p hp
 ·intro r r' b ob ob' ho ap M aw;obtain ⟨q,o,g1,g2,rfl,g4⟩:=J r ob ho;obtain ⟨q',o',az,a6,rfl,a7⟩:=J r' ob' ap;have hq:=h.injH q q' b o o' g1 az ((tA g2.1 g2.2).1 (wz.1 M)) ((tA a6.1 a6.2).1 (wz.1 aw));subst hq;rcases g4 with ⟨j,rfl,hj,b0⟩ | ⟨i,hi,rfl,rfl⟩
  ·rcases a7 with ⟨j',rfl,a8,a9⟩ | ⟨i',b1,e,rfl⟩
   ·have:=(yj hn hj).symm.trans (yj hn a8);rw[this]
   have:=a3 q b0;rw[e]at this;simp at this;omega
  rcases a7 with ⟨j',rfl,a8,a9⟩ | ⟨i',b1,e,rfl⟩
  ·have:=a3 _ a9;simp at this;omega
  have:i=i':=by simpa using e
  rw[this]
 ·intro r E;obtain ⟨r1,r2⟩:=r
  match r1 with
  | 0=>simp at E
  | 1=>
   have:=t.par (n+r2,0) (by simp);simp[oF,this,L0]
  | i+2=>simp[oF]
 intro r E aa;obtain ⟨ob,ho⟩:=Option.isSome_iff_exists.1 aa;obtain ⟨q,o,g1,g2,g3,g4⟩:=J r ob ho;rcases g4 with ⟨j,rfl,_,_⟩ | ⟨i,hi,rfl,rfl⟩
 ·simp at E
 obtain ⟨p1,p2,p3,p4,p5⟩:=t.psame (n+i,0) (by simp) (by simp[g1]);have ac:(dK n cs).get (n+i,0)=(jX cs i).map (·.map (inn n)):=qG;have hL:L (n+i,0)=I (1,i):=by rw[t.par (n+i,0) (by simp)];simp[L0]
 refine ⟨?_,?_,λ_=> ?_,λsz xs k=> ?_,λb M _=> ?_⟩
 ·rw[lN];rw[ac]at p1;simpa using p1
 ·show oF n ids L I (1,i)=I (1,i);simp[oF,hL]
 ·exact aa
 ·have k':(jX cs i).bind Obj.rw=some (sz,xs):=k;obtain ⟨ys,y1,y2⟩:=p4 sz xs (by
   show ((dK n cs).get (n+i,0)).bind Obj.rw=_;rw[ac];cases ho:jX cs i with
   | none=>simp[ho]at k'
   | some o=>simp[ho]at k';simp[Obj.ng,k'])
  refine ⟨ys,?_,y2⟩;have a1:(s.sto.get (n+i,0)).bind Obj.rw=some (sz,ys):=y1;show (bC.get [uL s.sto n ids,uM s.sto n m ids] (1,i)).bind Obj.rw=_;rw[lN,wB,if_pos hi];cases ho:s.sto.get (n+i,0)with
  | none=>simp[ho]at a1
  | some o=>simp[ho]at a1;simp[Obj.ng,a1]
 exact p5 b (by show L0 n I (n+i,0)=_;simpa [L0]using M) p1
theorem Kd (
      aa:P.follows .mixedOrders=true) (am:iS P call) (an:Cq P T loop) {F:FuncId->Option (VF×Bool)} (hF:∀f vf raw,F f=some (vf,raw)->okF P T f vf=true):iS P (u_ (real call loop) F):=by
 intro f as cs c e;unfold u_ at e;split at e
 ·cases e
 rename_i vf raw hf;have E:=hF f vf raw hf;unfold okF at E;split at E
 case h_2=>cases E
 rename_i fn a8;split at E
 case h_2=>cases E
 rename_i body hbody;simp only[af,beq_iff_eq,decide_eq_true_eq,Bool.not_eq_true']at E;obtain ⟨⟨⟨⟨o1,o2⟩,o3⟩,o4⟩,o5⟩:=E;have ao:jq P (zh f)=true:=by
  unfold jq;rw[a8];simp only[hbody,Option.isSome_some,o1,Bool.not_false,Bool.and_self]
 refine ⟨ao,λvs w a9 Z h Q hQ=> ?_⟩;simp only at e;split at e
 ·cases e
 rename_i ac;have a6:as.length=vf.nargs:=by simpa using ac
 have ap:=Mv (n:=vf.ntmps) h a6;refine calls_of_wp a8 hbody ?_;rw[<-o2];have aw:∀(r:Option (Out×St)),r=exec (real call loop) vf.body ⟨AV.ol (inn vf.ntmps) as++List.replicate (vf.ntmps-vf.nargs) .bare,dK vf.ntmps cs⟩->r=exec (real call loop) vf.body ⟨AV.ol (inn vf.ntmps) as++List.replicate (vf.ntmps-vf.nargs) .bare,dK vf.ntmps cs⟩:=λ_ h=>h
 split at e
 ·cases e
 ·cases e
 rename_i out s1 az b0;split at e
 ·cases e
 rename_i rs b1;refine rT aa am an body vf.body _ out s1 _ w (L0 vf.ntmps a9) Z o5 ap b0 _ λa1 J V Z1 k1 k2=> ?_
 have main:a1.defers=[]/\∃v,(results fn a1.tmps).run P J= .ok v J/\Q (.returned v) J:=by
  obtain ⟨us,r1,I⟩:=oE (P:=P) k1 o4 b1;refine ⟨k1.defers,_,DR r1,?_⟩;have O:RV (aI J Z1 V s1.sto) (JR rs) (Cr us):=by
   match rs,us,I with
   | [],us,I=>simp only[dH]at I;subst I;simp only[JR,Cr,RV,dH];exact ⟨[],rfl,rfl⟩
   | [x],us,I=>simp only[dH]at I;obtain ⟨v,vs',rfl,h2,rfl⟩:=I;exact h2
   | x::y::l,us,I=>
    have b2:=I;simp only[dH]at I;obtain ⟨v,vs',rfl,h2,v',vs'',rfl,h3,h4⟩:=I;simp only[JR,Cr,RV];exact ⟨_,rfl,b2⟩
  generalize JR rs=x at e O;generalize Cr us=u at O |-;have j:∃M s2 S,pY (real call loop) raw x s1=some (M,s2)/\RS s2 a1 J V S/\Tr vf.ntmps s1.sto s2.sto J J V V Z1 S/\Tq (aI J S V s2.sto) M u:=by
   split at e
   ·cases e
   rename_i M s2 j;cases raw with
   | true=>
    simp only[pY]at j;injection j with j;injection j with q1 q2;subst q1 q2;exact ⟨x,s1,Z1,rfl,k1,Tr.refl _ _ _ _ _,λ_=>O⟩
   | false=>
    obtain ⟨S,g1,g2,_,g4⟩:=tT vf.ntmps x u s1 s2 M Z1 k1 (Kept.refl _ _ _ _) O j;exact ⟨M,s2,S,j,g1,g2,g4⟩
  obtain ⟨M,s2,S,q1,q2,q3,q4⟩:=j;rw[q1]at e;simp only at e;split at e
  ·cases e
  rename_i ids ae;split at e
  ·cases e
  rename_i a0;injection e with e;obtain ⟨i1,i2,i3,_,i5⟩:=mF 60 _ [] ids ae (by simp) (by simp) (by simp);simp only[af]at a0;have b3:∀r∈ids,r.1<vf.ntmps:=λr hr=>by simpa using List.all_eq_true.1 a0.1 r hr
  have b4:=k2.trans q3;have b5:∀r,(s2.sto.get r).isSome->vf.ntmps<=r.1->True:=λ_ _ _=>trivial
  have hroot:∀r∈M.refs,r.1<vf.ntmps->r∈ids:=λr hr a4=>i3 r (by
   rw[List.mem_filter];exact ⟨List.mem_append.2 (.inl hr),by simpa using a4⟩)
  have a5:∀i,i<cs.length->∀ob,s2.sto.get (vf.ntmps+i,0)=some ob->∀r∈ob.refs,r.1<vf.ntmps->r∈ids:=λi hi ob b6 r hr a4=>i3 r (by
   rw[List.mem_filter];refine ⟨List.mem_append.2 (.inr ?_),by simpa using a4⟩;rw[List.mem_flatMap];exact ⟨some ob,by rw[List.mem_map];exact ⟨i,List.mem_range.2 hi,b6⟩,hr⟩)
  have b7:∀r∈M.refs,(s2.sto.get r).isSome->True:=λ_ _ _=>trivial
  have a7:RV (aI J S V s2.sto) M u:=by
   exact q4 λr hr=>List.all_eq_true.1 a0.2 r hr
  obtain ⟨f1,f2⟩:=Kc (m:=cs.length) q2 b4 rfl i1 b3 i2 i5 a7 hroot a5;have ag:c.ret=M.map (oX vf.ntmps ids):=by rw[<-e];rfl
  have a3:c.pars=uM s2.sto vf.ntmps cs.length ids:=by
   rw[<-e];simp only[List.map_map];rfl
  have U:c.extra=uL s2.sto vf.ntmps ids:=by rw[<-e];rfl
  refine hQ u J (oF vf.ntmps ids V a9) S ?_ ?_
  ·rw[ag,a3,U];exact f1
  rw[a3,U];exact f2
 cases out with
 | norm=>exact main
 | ret=>exact main
 | exit id=>exact (az id rfl).elim
end
end
section
section
variable {call call':dh} {loop loop':di}
theorem oG (s:bC) (x:AV):content (real call loop) s x=content (real call' loop') s x:=by
 cases x<;>rfl
theorem EY:(real call loop).bE=(real call' loop').bE:=rfl
theorem oH:∀X:List (Option Obj),jS (real call loop) X=jS (real call' loop') X
 | []=>rfl
 | none::_=>rfl
 | some (.box _)::_=>rfl
 | some (.hrows _ _ _ _ _ _)::_=>rfl
 | some (.gone _ _)::_=>rfl
 | some (.rows _ xs)::l=>by
  simp only[jS];rw[show (real call loop).closed xs=(real call' loop').closed xs from rfl,oH l]
 | some (.orows _ xs)::l=>by
  simp only[jS];rw[show (real call loop).closed xs=(real call' loop').closed xs from rfl,oH l]
mutual
theorem Ct:∀(x:AV) (s:St),fz (real call loop) s x=fz (real call' loop') s x
 | .emp,s=>rfl
 | .arr r sz g u,s=>by simp only[fz,oG (call:=call) (call':=call') (loop:=loop) (loop':=loop'),EY (call:=call) (call':=call') (loop:=loop) (loop':=loop')]
 | .agg cs,s=>by simp only[fz,nN cs s]
 | .tup cs,s=>by simp only[fz,nN cs s]
 | .undef,s=>rfl
 | .bare,s=>rfl
 | .d _,s=>rfl
 | .nilp,s=>rfl
 | .ptr _ _,s=>rfl
 | .prow _ _ _ _,s=>rfl
 | .sp _ _,s=>rfl
 | .fn _ _,s=>rfl
theorem nN:∀(xs:List AV) (s:St),BT (real call loop) s xs=BT (real call' loop') s xs
 | [],s=>rfl
 | x::xs,s=>by
  simp only[BT,Ct x s];split
  ·rename_i y s2 h;rw[nN xs s2]
  rfl
end
theorem yN (s:bC) (r:Id) (sz:gJ) (g:Option (Int×Int)) (u:Bool):rp (real call loop) s r sz g u=rp (real call' loop') s r sz g u:=by
 unfold rp;simp only[oG (call:=call) (call':=call') (loop:=loop) (loop':=loop')];rfl
theorem oI (s:bC):∀cs:List AV,dB (real call loop) s cs=dB (real call' loop') s cs
 | []=>rfl
 | .d x::l=>by simp only[dB,oI s l]
 | .emp::l=>by simp only[dB,oI s l]
 | .arr r sz g u::l=>by simp only[dB,oI s l,yN (call:=call) (call':=call') (loop:=loop) (loop':=loop')]
 | .undef::_=>rfl
 | .bare::_=>rfl
 | .agg _::_=>rfl
 | .tup _::_=>rfl
 | .nilp::_=>rfl
 | .ptr _ _::_=>rfl
 | .prow _ _ _ _::_=>rfl
 | .sp _ _::_=>rfl
 | .fn _ _::_=>rfl
mutual
theorem HG:∀(x:AV) (s:bC),snap (real call loop) s x=snap (real call' loop') s x
 | .emp,s=>rfl
 | .arr r sz g u,s=>by simp only[snap,yN (call:=call) (call':=call') (loop:=loop) (loop':=loop')]
 | .agg cs,s=>by simp only[snap,lU cs s]
 | .tup cs,s=>rfl
 | .undef,s=>rfl
 | .bare,s=>rfl
 | .d _,s=>rfl
 | .nilp,s=>rfl
 | .ptr _ _,s=>by simp only[snap,oI (call:=call) (call':=call') (loop:=loop) (loop':=loop')]
 | .prow _ _ _ _,s=>rfl
 | .sp _ _,s=>rfl
 | .fn _ _,s=>rfl
theorem lU:∀(xs:List AV) (s:bC),jz (real call loop) s xs=jz (real call' loop') s xs
 | [],s=>rfl
 | x::xs,s=>by
  simp only[jz,HG x s];split
  ·rw[lU xs s]
  rfl
end
theorem DS (m:mE) (as:List AV) (s:St):handed (real call loop) m as s=handed (real call' loop') m as s:=by
 cases m with
 | ref=>rfl
 | frz=>exact nN as s
 | pure=>simp only[handed,lU (call:=call) (call':=call') (loop:=loop) (loop':=loop') as s.sto]
 | bor=>simp only[handed,lU (call:=call) (call':=call') (loop:=loop) (loop':=loop') as s.sto]
theorem uN (s:St):∀x:AV,kT (real call loop) s x=kT (real call' loop') s x:=by
 intro x;cases x<;>rfl
theorem uO:∀(xs:List AV) (s:St),bM (real call loop) s xs=bM (real call' loop') s xs
 | [],s=>rfl
 | x::xs,s=>by
  simp only[bM,uN (call:=call) (call':=call') (loop:=loop) (loop':=loop') s x];split
  ·rename_i y s2 h;rw[uO xs s2]
  rfl
theorem AX (s:St) (sz:gJ) (x:AV):rM (real call loop) s sz x=rM (real call' loop') s sz x:=by
 cases x<;>rfl
theorem oJ:∀(ps:List (Nat×Option Nat×Nat×gJ×Bool)) (s:St),dW (real call loop) ps s=dW (real call' loop') ps s
 | [],s=>rfl
 | (t,none,slot,sz,own)::ps,s=>by
  simp only[dW,oJ ps];rfl
 | (t,some c,slot,sz,own)::ps,s=>by
  simp only[dW,oJ ps];rfl
theorem gX:∀(ps:List (Nat×Option Nat×Nat)) (s:St),homes (real call loop) ps s=homes (real call' loop') ps s
 | [],s=>rfl
 | (t,none,0)::ps,s=>by
  simp only[homes,gX ps,xZ,fz];rfl
 | (t,none,slot+1)::ps,s=>by
  simp only[homes,gX ps];rfl
 | (t,some c,0)::ps,s=>by
  simp only[homes,gX ps,xZ,Ct (call:=call) (call':=call') (loop:=loop) (loop':=loop')]
 | (t,some c,slot+1)::ps,s=>by
  simp only[homes,gX ps];rfl
theorem Cu (r:Id) (s:St):iN (real call loop) r s=iN (real call' loop') r s:=rfl
theorem AY (s:St) (dst:Option Nat) (sz:gJ) (bytes:Nat) (x y:VX):uy (real call loop) s dst sz bytes x y=uy (real call' loop') s dst sz bytes x y:=by
 unfold uy;simp only[AX (call:=call) (call':=call') (loop:=loop) (loop':=loop'),uN (call:=call) (call':=call') (loop:=loop) (loop':=loop')];rfl
theorem qh (x:VX) (s:St):kH (real call loop) x s=kH (real call' loop') x s:=rfl
theorem Cv (s:St) (n:Nat) (p x:AV):storeAt (real call loop) s n p x=storeAt (real call' loop') s n p x:=by
 unfold storeAt;simp only[nN (call:=call) (call':=call') (loop:=loop) (loop':=loop'),uO (call:=call) (call':=call') (loop:=loop) (loop':=loop')];rfl
theorem vw (env:List AV) (s:bC) (op:mg):evalOp (real call loop) env s op=evalOp (real call' loop') env s op:=by
 cases op<;>rfl
variable (hc:∀f as cs c,call f as cs=some c->call' f as cs=some c) (hl:∀k s r,loop k s=some r->loop' k s=some r)
include hc in
theorem vz {f:FuncId} {m:mE} {raw:Bool} {as:List AV} {dst:Option Nat} {s:St} {r:AV×St} (e:dJ (real call loop) f m raw as dst s=some r):dJ (real call' loop') f m raw as dst s=some r:=by
 unfold dJ at e |-;rw[lU (call':=call') (loop':=loop')]at e;cases m with
 | bor=>
  simp only at e |-;split at e
  ·cases e
  rename_i as' j;split at e
  ·cases e
  rename_i E;split at e
  ·cases e
  rename_i c h3;have h4:(real call' loop').call f as' []=some c:=hc f as' [] c h3;simp only[j,E,h4];rw[oH (call':=call') (loop':=loop')]at e;exact e
 | _=>
  simp only at e |-;rw[DS (call':=call') (loop':=loop')]at e;split at e
  ·cases e
  rename_i I;split at e
  ·cases e
  rename_i as' s2 j;split at e
  ·cases e
  rename_i ids E;split at e
  ·cases e
  rename_i c h3;have h4:=hc _ _ _ _ h3;have J:(real call' loop').call f (AV.ol (λr=>(1,idx ids r)) as') (ids.map λr=>(s2.sto.get r).map (·.map λr=>(1,idx ids r)))=some c:=h4;simp only[I,j,E,J];exact e
include hc in
theorem HI {s:St} {dst:Option Nat} {op:mg} {r:AV×St} (e:aK (real call loop) s dst op=some r):aK (real call' loop') s dst op=some r:=by
 by_cases j:iw op=true
 ·rw[iT j]at e |-;rw[vw (call':=call') (loop':=loop')]at e;exact e
 cases op<;>first
  | (exact (j rfl).elim)
  | (simp only[aK]at e |-;rw[vw (call':=call') (loop':=loop')]at e;exact e)
  | (simp only[aK,Cv (call:=call) (call':=call') (loop:=loop) (loop':=loop')]at e |-;exact e)
  | (simp only[aK]at e |-;exact e)
  | (simp only[aK]at e |-;rw[AY (call':=call') (loop':=loop')]at e;exact e)
  | (simp only[aK,Cu (call:=call) (call':=call') (loop:=loop) (loop':=loop'),AY (call:=call) (call':=call') (loop:=loop) (loop':=loop')]at e |-;exact e)
  | (simp only[aK]at e;cases e)
  | (simp only[aK,uO (call:=call) (call':=call') (loop:=loop) (loop':=loop')]at e |-;exact e)
  | (simp only[aK,AX (call:=call) (call':=call') (loop:=loop) (loop':=loop'),uN (call:=call) (call':=call') (loop:=loop) (loop':=loop')]at e |-;exact e)
  | (simp only[aK,nN (call:=call) (call':=call') (loop:=loop) (loop':=loop')]at e |-;exact e)
  | (
   simp only[aK]at e |-;rw[qh (call':=call') (loop':=loop')]at e;split at e
   case h_2=>cases e
   rename_i s1 E;split at e
   case h_2=>cases e
   rename_i as I;exact vz hc e)
  | (
   simp only[aK]at e |-;split at e; · exact vz hc e
   cases e)
  | (simp only[aK,oG (call:=call) (call':=call') (loop:=loop) (loop':=loop')]at e |-;exact e)
include hc in
theorem jt:∀{l:List bV} {s s':St},bg (real call loop) l s=some s'->bg (real call' loop') l s=some s'
 | [],s,s',e=>e
 | v::l,
      s,s',e=>by
  rw[cj]at e |-;split at e
  case h_2=>cases e
  rename_i s1 j;have:d_ (real call' loop') v s=some s1:=by
   unfold d_ at j |-;split at j
   ·split at j
    case h_2=>cases j
    rename_i u s2 E;rw[HI hc E];exact j
   ·exact j
   cases j
  rw[this];exact jt e
include hc hl in
theorem uP:∀{c:VC} {s:St} {r:Out×St},exec (real call loop) c s=some r->exec (real call' loop') c s=some r:=by
 intro c;induction c with
 | skip=>intro s r e;exact e
 | reg ops=>
  intro s r e;simp only[exec]at e |-;split at e
  case h_2=>cases e
  rename_i s1 j;rw[jt hc j];exact e
 | regL ops x=>
  intro s r e;simp only[exec]at e |-;split at e
  case h_2=>cases e
  rename_i s1 j;rw[jt hc j];simp only;rw[qh (call':=call') (loop':=loop')]at e;exact e
 | regP ops ps=>
  intro s r e;simp only[exec]at e |-;split at e
  case h_2=>cases e
  rename_i s1 j;rw[jt hc j];simp only;rw[gX (call':=call') (loop':=loop')]at e;exact e
 | regD π ops x ps=>
  intro s r e;simp only[exec]at e |-;split at e
  case h_2=>cases e
  rename_i s1 j;rw[jt hc j];simp only;cases x with
  | none=>
   change (match homes (real call loop) ps s1 with | some s=>some (Out.norm,s) | none=>none)=some r at e;rw[gX (call':=call') (loop':=loop')]at e;exact e
  | some x=>
   change (match kH (real call loop) x s1 with | some s=>(match homes (real call loop) ps s with | some s=>some (Out.norm,s) | none=>none) | none=>none)=some r at e;rw[qh (call':=call') (loop':=loop')]at e;change (match kH (real call' loop') x s1 with | some s=>(match homes (real call' loop') ps s with | some s=>some (Out.norm,s) | none=>none) | none=>none)=some r;split at e
   ·rw[gX (call':=call') (loop':=loop')]at e;exact e
   cases e
 | clone x y c b m t dst sz bytes agg zero=>intro s r e;exact e
 | seq a b E I=>
  intro s r e;simp only[exec]at e |-;split at e
  ·rename_i s1 j;rw[E j];exact I e
  rename_i x J;rw[E e];obtain ⟨out,s'⟩:=r;cases out with
  | norm=>exact (J s' e).elim
  | ret=>rfl
  | exit id=>rfl
 | seqP a ps b E I=>
  intro s r e;simp only[exec]at e |-;split at e
  ·rename_i s1 j;rw[E j];simp only;rw[gX (call':=call') (loop':=loop')]at e;split at e
   ·exact I e
   cases e
  rename_i x J;rw[E e];obtain ⟨out,s'⟩:=r;cases out with
  | norm=>exact (J s' e).elim
  | ret=>rfl
  | exit id=>rfl
 | cond c a b E I=>
  intro s r e;simp only[exec]at e |-;split at e
  case h_2=>cases e
  rename_i t O;cases t with
  | true=>exact E e
  | false=>exact I e
 | block id c M=>
  intro s r e;simp only[exec]at e |-;split at e
  ·rename_i k s1 j;rw[M j];exact e
  rename_i x J;rw[M e];obtain ⟨out,s'⟩:=r;cases out with
  | norm=>rfl
  | ret=>rfl
  | exit id'=>exact (J id' s' e).elim
 | loop prom le ls key=>
  intro s r e;simp only[exec]at e |-;split at e
  case h_2=>cases e
  rename_i s1 j;rw[oJ (call':=call') (loop':=loop')]at j;rw[j];exact hl key _ r e
 | exit id=>intro s r e;exact e
 | ret=>intro s r e;exact e
include hc hl in
theorem yO {T:Nat->Option VL} {k:Nat} {s:St} {r:Out×St} (e:u9 (real call loop) T k s=some r):u9 (real call' loop') T k s=some r:=by
 unfold u9 at e |-;split at e
 ·cases e
 rename_i l J;split at e
 ·rename_i s1 j;rw[uP hc hl j];exact hl k _ r e
 ·rename_i E s1 I j;rw[uP hc hl j];cases E with
  | norm=>exact (I rfl).elim
  | ret=>exact e
  | exit id'=>exact e
 cases e
theorem qi {s:St}:∀{r:List (Sum Nat (Nat×Bool×Nat))},lM (real call loop) s r=lM (real call' loop') s r
 | []=>rfl
 | .inl t::l=>by simp only[lM,qi (r:=l)]
 | .inr (t,agg,n)::l=>by
  simp only[lM,qi (r:=l)];rfl
include hc hl in
theorem yP {F:FuncId->Option (VF×Bool)} {f:FuncId} {as:List AV} {cs:List (Option Obj)} {c:cn} (e:u_ (real call loop) F f as cs=some c):u_ (real call' loop') F f as cs=some c:=by
 unfold u_ at e |-;split at e
 ·cases e
 rename_i vf raw hf;simp only at e |-;split at e
 ·cases e
 rename_i j;rw[if_neg j];split at e
 ·cases e
 ·cases e
 rename_i out s1 E I;rw[uP hc hl I];rw[qi (call':=call') (loop':=loop')]at e;have J:∀v s,pY (real call loop) raw v s=pY (real call' loop') raw v s:=λv s=>by
  cases raw with
  | true=>rfl
  | false=>exact Ct v s
 simp only[J]at e;cases out with
 | norm=>exact e
 | ret=>exact e
 | exit id=>exact (E id rfl).elim
end
end
mutual
inductive j_ (F:FuncId->Option (VF×Bool)) (T:Nat->Option VL):FuncId->List AV->List (Option Obj)->cn->Prop
 | mk (call:dh) (loop:di) (hc:∀f as cs c,call f as cs=some c->j_ F T f as cs c) (hl:∀k s r,loop k s=some r->kM F T k s r)
  (f:FuncId) (as:List AV) (cs:List (Option Obj)) (c:cn) (e:u_ (real call loop) F f as cs=some c):j_ F T f as cs c
inductive kM (F:FuncId->Option (VF×Bool)) (T:Nat->Option VL):Nat->St->Out×St->Prop
 | mk (call:dh) (loop:di) (hc:∀f as cs c,call f as cs=some c->j_ F T f as cs c) (hl:∀k s r,loop k s=some r->kM F T k s r)
  (k:Nat) (s:St) (r:Out×St) (e:u9 (real call loop) T k s=some r):kM F T k s r
end
def Ke (P:Program) (f:FuncId) (as:List AV) (cs:List (Option Obj)) (c:cn):Prop:=
 jq P (zh f)=true/\∀(vs:Array Value) (w:World) (L:Loc) (Z:Nat->Prop),RS ⟨as,[[],cs]⟩ ⟨vs,[]⟩ w L Z->
  ∀Q:Ending->World->Prop,(∀v w' L' Z',RS ⟨[c.ret],[c.extra,c.pars]⟩ ⟨#[v],[]⟩ w' L' Z'->Tr 1 [[],cs] [c.extra,c.pars] w w' L L' Z Z'->Q (.returned v) w')->Calls P (zh f) vs w Q
def P5 (P:Program) (T:Nat->Option VL) (key:Nat) (s:St) (r:Out×St):Prop:=
 ∀l,T key=some l->∀(np:Nat) (c:Code),zj P T np c l.body=true->∀a w L Z,RS s a w L Z->∀Q:Exit->Act->World->Prop,
  (∀a' w' L' Z',RS r.2 a' w' L' Z'->Tr np s.sto r.2.sto w w' L L' Z Z'->Q (yL r.1) a' w')->c.wp P (Exit.then (AW P c Q) Q) a w
section
variable {P:Program} {F:FuncId->Option (VF×Bool)} {T:Nat->Option VL}
mutual
theorem j_.ok (j:P.follows .mixedOrders=true) (hF:∀f vf raw,F f=some (vf,raw)->okF P T f vf=true):∀{f as cs c},j_ F T f as cs c->Ke P f as cs c
 | _,_,_,_,.mk call loop hc hl f as cs c e=>
  Kd j (λf as cs c h=>j_.ok j hF (hc f as cs c h)) (λk s out s' h=>kM.ok j hF (hl k s (out,s') h)) hF f as cs c e
theorem kM.ok (j:P.follows .mixedOrders=true) (hF:∀f vf raw,F f=some (vf,raw)->okF P T f vf=true):∀{k s r},kM F T k s r->P5 P T k s r
 | _,_,_,.mk call loop hc hl k s (out,s') e=>
  Kb j (λf as cs c h=>j_.ok j hF (hc f as cs c h)) (λk s out s' h=>kM.ok j hF (hl k s (out,s') h)) k s out s' e
end
def N8 (e c2:dh):dh:=λf as cs=>match e f as cs with
 | some c=>some c
 | none=>c2 f as cs
def N9 (l1 l2:di):di:=λk s=>match l1 k s with
 | some r=>some r
 | none=>l2 k s
mutual
theorem j_.P6:∀{f as cs c},j_ F T f as cs c->∀c',j_ F T f as cs c'->c=c'
 | _,_,_,_,.mk call loop hc hl f as cs c e,c',.mk call' loop' E I _ _ _ _ e'=>by
  have J:∀f as cs c,call f as cs=some c->N8 call call' f as cs=some c:=λf as cs c h=>by simp only[N8,h]
  have M:∀k s r,loop k s=some r->N9 loop loop' k s=some r:=λk s r h=>by simp only[N9,h]
  have n1:∀f as cs c,call' f as cs=some c->N8 call call' f as cs=some c:=λf as cs c h=>by
   unfold N8;split
   ·rename_i c2 j;rw[j_.P6 (hc f as cs c2 j) c (E f as cs c h)]
   exact h
  have n2:∀k s r,loop' k s=some r->N9 loop loop' k s=some r:=λk s r h=>by
   unfold N9;split
   ·rename_i O j;rw[kM.P6 (hl k s O j) r (I k s r h)]
   exact h
  have S:=yP J M e;have a2:=yP n1 n2 e';rw[S]at a2;injection a2
theorem kM.P6:∀{k s r},kM F T k s r->∀r',kM F T k s r'->r=r'
 | _,_,_,.mk call loop hc hl k s r e,r',.mk call' loop' E I _ _ _ e'=>by
  have J:∀f as cs c,call f as cs=some c->N8 call call' f as cs=some c:=λf as cs c h=>by simp only[N8,h]
  have M:∀k s r,loop k s=some r->N9 loop loop' k s=some r:=λk s r h=>by simp only[N9,h]
  have n1:∀f as cs c,call' f as cs=some c->N8 call call' f as cs=some c:=λf as cs c h=>by
   unfold N8;split
   ·rename_i c2 j;rw[j_.P6 (hc f as cs c2 j) c (E f as cs c h)]
   exact h
  have n2:∀k s r,loop' k s=some r->N9 loop loop' k s=some r:=λk s r h=>by
   unfold N9;split
   ·rename_i O j;rw[kM.P6 (hl k s O j) r (I k s r h)]
   exact h
  have S:=yO J M e;have a2:=yO n1 n2 e';rw[S]at a2;injection a2
end
open Classical in
noncomputable def Gp (F:FuncId->Option (VF×Bool)) (T:Nat->Option VL) (f:FuncId) (as:List AV) (cs:List (Option Obj)):Option cn:=if h:∃c,j_ F T f as cs c then some h.choose else none
open Classical in
noncomputable def Gq (F:FuncId->Option (VF×Bool)) (T:Nat->Option VL) (k:Nat) (s:St):Option (Out×St):=if h:∃r,kM F T k s r then some h.choose else none
theorem qH {f as cs c}:Gp F T f as cs=some c↔j_ F T f as cs c:=by
 unfold Gp;constructor
 ·intro h;split at h
  ·rename_i hh;injection h with h;rw[<-h];exact hh.choose_spec
  cases h
 intro h;have hh:∃c,j_ F T f as cs c:=⟨c,h⟩
 rw[dif_pos hh,j_.P6 hh.choose_spec c h]
theorem uQ {k s r}:Gq F T k s=some r↔kM F T k s r:=by
 unfold Gq;constructor
 ·intro h;split at h
  ·rename_i hh;injection h with h;rw[<-h];exact hh.choose_spec
  cases h
 intro h;have hh:∃r,kM F T k s r:=⟨r,h⟩
 rw[dif_pos hh,kM.P6 hh.choose_spec r h]
def aQ (F:FuncId->Option (VF×Bool)) (T:Nat->Option VL) (o:aM):Prop:=o=real (Gp F T) (Gq F T)
variable {o:aM} (ho:aQ F T o)
include ho
theorem aQ.aj {f as cs c} (e:u_ o F f as cs=some c):o.call f as cs=some c:=by
 rw[ho]at e |-;exact qH.2 (.mk _ _ (λ_ _ _ _ h=>qH.1 h) (λ_ _ _ h=>uQ.1 h) f as cs c e)
theorem aQ.aB {k s r} (e:u9 o T k s=some r):o.loop k s=some r:=by
 rw[ho]at e |-;exact uQ.2 (.mk _ _ (λ_ _ _ _ h=>qH.1 h) (λ_ _ _ h=>uQ.1 h) k s r e)
theorem aQ.ok (j:P.follows .mixedOrders=true) (hF:∀f vf raw,F f=some (vf,raw)->okF P T f vf=true) {f as cs c} (e:o.call f as cs=some c):Ke P f as cs c:=by
 rw[ho]at e;exact j_.ok j hF (qH.1 e)
theorem aQ.ar:o.ar=HS:=by rw[ho];rfl
theorem aQ.wrap:o.wrap=λk n=>k.wrap n:=by rw[ho];rfl
theorem aQ.plus (a b:Int):o.plus a b=a+b:=by rw[ho];rfl
theorem aQ.minus (a b:Int):o.minus a b=a-b:=by rw[ho];rfl
theorem aQ.cmp (op:BinOp) (a b:Int):o.cmp op a b=rV op a b:=by rw[ho];rfl
theorem aQ.isZero (a:Int):o.isZero a=decide (a=0):=by rw[ho];rfl
theorem aQ.eZ (op:BinOp) (a b:ByteArray):o.eZ op a b=rC op a b:=by rw[ho];rfl
theorem aQ.BR (a b:ByteArray):o.BR a b=a++b:=by rw[ho];rfl
theorem aQ.sLen (a:ByteArray):o.sLen a=a.size:=by rw[ho];rfl
theorem aQ.len (xs:List D):o.len xs=xs.length:=by rw[ho];rfl
theorem aQ.cF (xs:List D) (i:Int):o.cF xs i=Ag xs i:=by rw[ho];rfl
theorem aQ.sub (xs:List D) (a n:Int):o.sub xs a n=Cz xs a n:=by rw[ho];rfl
theorem aQ.app (xs ys:List D):o.app xs ys=xs++ys:=by rw[ho];rfl
theorem aQ.rm (n:Int) (x:D):o.rm n x=List.replicate n.toNat x:=by rw[ho];rfl
theorem aQ.fP (b:Nat) (n:Int):o.fP b n=decide (0<=n/\n*b<=140737488355328/\n<=9223372036854775807):=by rw[ho];rfl
theorem aQ.set (xs:List D) (i:Int) (x:D):o.set xs i x=xs.set i.toNat x:=by rw[ho];rfl
end
section
section
variable {P:Program} {H:Type} {enc:TypeId×Value->H} {w:World} {spare:Nat->Bool} {held:Bool}
def cV (P:Program) (t:TypeId):Bool:=match P.underlying t with
 | some (.struct _)=>true
 | _=>false
def Fits (P:Program):Nat->TypeId->List D->Prop
 | 0,_,_=>False
 | n+1,t,ds=>match P.underlying t with
  | some .bool=>∃b,ds=[.bool b]
  | some (.int k)=>∃i,ds=[.int k i]/\(Lit.int k i).wf=true
  | some .string=>∃s:ByteArray,ds=[.str s]/\s.size<=maxLen
  | some (.slice e)=>∃xs,ds=[.lst xs]/\xs.length<=maxLen/\∀x∈xs,Fits P n e x.cells/\x.many=cV P e
  | some (.struct fs)=>ds.length=P.cellsOf t/\∀f∈fs.toList,Fits P n f.type ((ds.drop f.offset).take (P.cellsOf f.type))
  | _=>False
def lV (P:Program):List Field->Nat->Nat->Bool
 | [],off,total=>off==total
 | f::fs,off,total=>f.offset==off&&lV P fs (off+P.cellsOf f.type) total
def uR (P:Program) (S:List TypeId):Bool:=S.all λt=>match P.underlying t with
 | some .bool=>true
 | some (.int _)=>true
 | some .string=>true
 | some (.slice e)=>S.contains e&&decide (0<P.cellsOf e)
 | some (.struct fs)=>lV P fs.toList 0 (P.cellsOf t)&&fs.toList.all λf=>S.contains f.type
 | _=>false
theorem vA {α:Type} {Q:Nat->α->Prop}:∀n,(∀i,i<n->∃x,Q i x)->∃xs:List α,xs.length=n/\∀i x,xs[i]? =some x->Q i x
 | 0,_=>⟨[],rfl,by simp⟩
 | n+1,h=>by
  obtain ⟨xs,j,E⟩:=vA n λi hi=>h i (by omega)
  obtain ⟨x,I⟩:=h n (by omega);refine ⟨xs++[x],by simp[j],λi y e=> ?_⟩;rw[List.getElem?_append]at e;split at e
  ·exact E i y e
  rename_i J;have:i=n:=by
   have:=(ax.1 e).1;simp at this;omega
  subst this;simp[j]at e;subst e;exact I
theorem DT:∀{fs:List Field} {off total:Nat},lV P fs off total=true->off<=total
 | [],off,total,h=>by simp[lV]at h;omega
 | f::fs,off,total,h=>by
  simp only[lV,af,beq_iff_eq]at h;have:=DT h.2;omega
theorem yQ {Z:Nat->Prop}:∀{ds es:List D} {cs vs:List Value},fL w Z ds cs->fL w Z es vs->fL w Z (ds++es) (cs++vs)
 | [],es,cs,vs,h,k=>by simp only[fL]at h;subst h;exact k
 | d::ds,es,cs,vs,h,k=>by
  simp only[fL]at h;obtain ⟨v,cs',rfl,e,j⟩:=h;simp only[List.cons_append,fL];exact ⟨v,cs'++vs,rfl,e,yQ j k⟩
theorem R3 {Z:Nat->Prop} {n:Nat} {cs:List Value}:∀{fs:List Field} {off:Nat},lV P fs off cs.length=true->(∀f∈fs,∃ds,fL w Z ds ((cs.drop f.offset).take (P.cellsOf f.type))/\Fits P n f.type ds)->
  ∃ds,fL w Z ds (cs.drop off)/\∀f∈fs,off<=f.offset/\Fits P n f.type ((ds.drop (f.offset-off)).take (P.cellsOf f.type))
 | [],off,h,_=>by
  simp[lV]at h;refine ⟨[],?_,by simp⟩;rw[h];simp[fL]
 | f::fs,off,h,hf=>by
  simp only[lV,af,beq_iff_eq]at h;obtain ⟨J,M⟩:=h;obtain ⟨E,I,k2⟩:=hf f (by simp);obtain ⟨ds,O,S⟩:=R3 M λg j=>hf g (by simp[j])
  have V:=DT M;rw[J]at I;have hl:E.length=P.cellsOf f.type:=by
   rw[(dA.1 I).1,List.length_take,List.length_drop];omega
  refine ⟨E++ds,?_,λg j=> ?_⟩
  ·have e:cs.drop off=(cs.drop off).take (P.cellsOf f.type)++cs.drop (off+P.cellsOf f.type):=by
    rw[<-List.drop_drop,List.take_append_drop]
   rw[e];exact yQ I O
  rcases List.mem_cons.1 j with rfl | j
  ·refine ⟨by omega,?_⟩;rw[J,Nat.sub_self,List.drop_zero,<-hl,List.take_left];exact k2
  obtain ⟨p1,U⟩:=S g j;refine ⟨by omega,?_⟩;have:g.offset-off=E.length+(g.offset-(off+P.cellsOf f.type)):=by omega
  rw[this,List.drop_length_add_append];exact U
theorem AZ {S:List TypeId} (hS:uR P S=true):∀(fuel:Nat) (t:TypeId) (cs:List Value) (x:DataW H×List MemPlace),t∈S->DataW.trod enc P w 0 spare held fuel t cs=some x->
  ∃ds,fL w (λb=>b<w.heap.size) ds cs/\Fits P fuel t ds:=by
 intro fuel;induction fuel with
 | zero=>intro t cs x _ h;simp[DataW.trod]at h
 | succ n ih=>
  intro t cs x ht h;have V:=List.all_eq_true.1 hS t ht;cases I:P.underlying t with
  | none=>simp[I]at V
  | some d=>
   simp only[I]at V;cases d with
   | bool=>
    obtain ⟨b,rfl,_⟩:=DataW.trod_bool I h;exact ⟨[.bool b],by simp[fL,RD],by simp[Fits,I]⟩
   | int k=>
    obtain ⟨i,rfl,_,hw⟩:=DataW.trod_int I h;exact ⟨[.int k i],by simp[fL,RD],by simp only[Fits,I];exact ⟨i,rfl,hw⟩⟩
   | string=>
    obtain ⟨s,rfl,_,hs⟩:=DataW.trod_string I h;exact ⟨[.str s],by simp[fL,RD],by simp only[Fits,I];exact ⟨s,rfl,hs⟩⟩
   | slice e=>
    simp only[af,decide_eq_true_eq]at V;obtain ⟨he,ae⟩:=V;have am:e∈S:=by simpa using he
    rcases DataW.trod_slice I h with ⟨rfl,_⟩ | ⟨a,len,cap,elems,rest,m,hm,rfl,_,_,hl,b1,a0,a9,_⟩
    ·refine ⟨[.lst []],?_,by simp only[Fits,I];exact ⟨[],rfl,by simp[maxLen],by simp⟩⟩;simp only[fL,RD];exact ⟨_,[],rfl,⟨none,0,rfl,Nat.le_refl _,.inl trivial⟩,rfl⟩
    have a4:m=n:=by omega
    subst a4;have key:∀i,i<len->∃y:D,(∃vs,vs.length=P.cellsOf e/\RD w (λb=>b<w.heap.size) y vs/\∀j v,vs[j]? =some v->w.cell? ⟨a.block,a.off+i*P.cellsOf e+j,none⟩=some v)/\Fits P m e y.cells/\y.many=cV P e:=by
     intro i hi;have E:=a9 i hi;obtain ⟨z,hz⟩:∃z,elems[i]? =some z:=⟨_,bA (by omega)⟩
     rw[hz,Option.bind_eq_some_iff]at E;obtain ⟨vs,a5,an⟩:=E;obtain ⟨ds,M,J⟩:=ih e vs z am an;obtain ⟨_,a1,a6⟩:=World.cells?_some a5;have hcell:∀j v,vs[j]? =some v->w.cell? ⟨a.block,a.off+i*P.cellsOf e+j,none⟩=some v:=by
      intro j v hj;have ao:j<P.cellsOf e:=by rw[<-a1];exact (ax.1 hj).1
      have:=a6 j ao;rw[hj]at this;have ha:(a.add (i*P.cellsOf e)).add j=⟨a.block,a.off+i*P.cellsOf e+j,none⟩\/((a.add (i*P.cellsOf e)).add j).spot.isSome=true:=by
       unfold Addr.add;by_cases E:i*P.cellsOf e=0
       ·by_cases h2:j=0
        ·cases O:a.spot with
         | none=>left;simp[E,h2];cases a;simp at O |-;exact O
         | some sp=>right;simp[E,h2,O]
        left;simp[E,h2]
       by_cases h2:j=0
       ·left;simp[E,h2]
       left;simp[E,h2]
      rcases ha with ha | ha
      ·rw[<-ha];exact this
      exfalso;unfold World.cell? at this;rw[ha]at this;split at this<;>simp at this
     have b2:=(dA.1 M).1;cases a7:cV P e with
     | true=>exact ⟨.agg ds,⟨vs,a1,by simpa only [RD]using M,hcell⟩,J,by simp[D.many]⟩
     | false=>
      have ag:∃y:D,ds=[y]/\y.many=false:=by
       cases m with
       | zero=>simp[Fits]at J
       | succ m'=>
        simp only[Fits]at J;unfold cV at a7;split at J
        ·obtain ⟨b,rfl⟩:=J;exact ⟨_,rfl,rfl⟩
        ·obtain ⟨b,rfl,_⟩:=J;exact ⟨_,rfl,rfl⟩
        ·obtain ⟨b,rfl,_⟩:=J;exact ⟨_,rfl,rfl⟩
        ·obtain ⟨b,rfl,_⟩:=J;exact ⟨_,rfl,rfl⟩
        ·rename_i hst;rw[hst]at a7;cases a7
        exact J.elim
      obtain ⟨y,rfl,hy⟩:=ag;have ap:y.cells=[y]:=by cases y<;>first | rfl | simp[D.many]at hy
      refine ⟨y,⟨vs,a1,?_,hcell⟩,by rw[ap];exact J,hy⟩;simp only[fL]at M;obtain ⟨v,vs',rfl,q1,rfl⟩:=M;exact q1
    obtain ⟨xs,x1,x2⟩:=vA len key;refine ⟨[.lst xs],?_,?_⟩
    ·simp only[fL,RD];refine ⟨_,[],rfl,⟨some a,cap,by rw[x1],by omega,?_⟩,rfl⟩;by_cases aa:xs=[]
     ·exact .inl aa
     right;have a8:=List.length_pos_iff.2 aa;obtain ⟨y0,aw⟩:∃y0,xs[0]? =some y0:=⟨_,bA a8⟩
     have hspot:a.spot=none:=by
      have E:=a9 0 (by omega);obtain ⟨z,hz⟩:∃z,elems[0]? =some z:=⟨_,bA (by omega)⟩
      rw[hz,Option.bind_eq_some_iff]at E;obtain ⟨vs,a5,_⟩:=E;obtain ⟨_,a1,a6⟩:=World.cells?_some a5;have:=a6 0 ae;cases O:a.spot with
      | none=>rfl
      | some sp=>
       exfalso;have e1:(a.add (0*P.cellsOf e)).add 0=a:=by simp[Addr.add]
       rw[e1]at this;have U:(vs[0]?).isSome:=by simp;omega
       rw[<-this]at U;unfold World.cell? at U;rw[O]at U;split at U<;>simp at U
     refine ⟨a.block,a.off,P.cellsOf e,by cases a;simp at hspot |-;exact hspot,?_,fI.2 λi y hy=>(x2 i y hy).1⟩;obtain ⟨⟨vs,v1,_,v3⟩,_⟩:=x2 0 y0 aw;have:(vs[0]?).isSome:=by simp;omega
     obtain ⟨v,hv⟩:=Option.isSome_iff_exists.1 this;have hc:=v3 0 v hv;unfold World.cell? at hc;split at hc
     ·rename_i hb;exact (Array.getElem?_eq_some_iff.1 hb).1
     cases hc
    simp only[Fits,I];refine ⟨xs,rfl,by omega,λy hy=> ?_⟩;obtain ⟨i,hi⟩:=List.getElem?_of_mem hy;exact (x2 i y hi).2
   | struct fs=>
    simp only[af]at V;obtain ⟨hp1,az⟩:=V;obtain ⟨xs,m,hm,_,a0,b0,hf⟩:=DataW.trod_struct I h;have a4:m=n:=by omega
    subst a4;rw[<-a0]at hp1;obtain ⟨ds,M,J⟩:=R3 (P:=P) (n:=m) (cs:=cs) (w:=w) (Z:=λb=>b<w.heap.size) hp1 λf a3=>by
     obtain ⟨i,hi⟩:=List.getElem?_of_mem a3;have ac:fs[i]? =some f:=by simpa using hi
     have E:=hf i f ac;obtain ⟨z,hz⟩:∃z,xs[i]? =some z:=⟨_,bA (by rw[b0];exact (Array.getElem?_eq_some_iff.1 ac).1)⟩
     rw[hz]at E;exact ih f.type _ z (by simpa using List.all_eq_true.1 az f a3) E
    rw[List.drop_zero]at M;refine ⟨ds,M,?_⟩;simp only[Fits,I];refine ⟨by rw[(dA.1 M).1,a0],λf a3=> ?_⟩;have:=(J f a3).2;simpa using this
   | _=>simp at V
end
end
end Go.Vi
