import Derived.Test.YtfnagkpidcdocaaGreatM10
import Derived.ChangeArms
import Derived.DataReads
import Derived.ProofKit
set_option linter.all false
namespace Go.Vi
open Go Go.RowKit
def xT (P:Program) (T:Nat->Option VL) (np:Nat):Code->VC->Bool
 | .skip,.skip=>true
 | .region _ ops draw,.reg vs=>match draw with
  | true=>Gy P np ops vs
  | false=>qD P np ops (List.range ops.size) vs
 | .region _ ops draw,.regL vs _=>match draw with
  | true=>false
  | false=>qD P np ops (List.range ops.size) vs
 | .region _ ops draw,.regP vs ps=>match draw with
  | true=>false
  | false=>qD P np ops (List.range ops.size) vs&&ps.all λp=>decide (p.2.2<np)
 | .region _ ops draw,.regD π vs _ ps=>(match draw with
  | true=>r_ P np ops π vs
  | false=>qD P np ops (List.range ops.size) vs)&&ps.all λp=>decide (p.2.2<np)
 | .seq a b,.seq a' b'=>xT P T np a a'&&xT P T np b b'
 | .seq a b,.clone x y c b' m t dst sz bytes agg zero=>zq P np x y c dst t zero sz agg a&&decide ([x,y,c,b',m,t,dst].Nodup)&&xT P T np b (.seq (.reg [⟨some b',none,.buildSlice sz agg zero 0 []⟩,⟨some m,none,.move (.tmp x)⟩,⟨some t,none,.append sz bytes (.tmp b') (.tmp m)⟩,⟨some dst,none,.move (.tmp t)⟩]) .ret)
 | .cond c a b,.cond c' a' b'=>cR c c'&&xT P T np a a'&&xT P T np b b'
 | .block id c,.block id' c'=>id==id'&&xT P T np c c'
 | .loop c,.loop prom _ _ key=>(match T key with | some l=>xT P T np c l.body | none=>false)&&prom.all λp=>decide (p.2.2.1<np)
 | .exit id,.exit id'=>id==id'
 | .ret,.ret=>true
 | _,_=>false
def xU (P:Program) (c:Code) (Q:Exit->Act->World->Prop) (a:Act) (w:World):Prop:=
 ∀(b:Frame) (k:List Item) (cs:List Frame),∃e a' w',Q e a' w'/\Arrives P (lone (b.at a (.inLoop c::k)) cs w) b k cs e a' w'
section
variable {P:Program} {Q:Exit->Act->World->Prop}
theorem AR {c:Code} {a:Act} {w:World} (h:c.wp P (Exit.then (xU P c Q) Q) a w) (b:Frame) (k:List Item) (cs:List Frame):
  ∃e a' w',Q e a' w'/\Arrives P (lone (b.at a (.code c:: .inLoop c::k)) cs w) b k cs e a' w':=by
 obtain ⟨e,a₁,w₁,hq,harr⟩:=h b (.inLoop c::k) cs;cases e with
 | normal=>
  obtain ⟨e₂,a₂,w₂,hq₂,harr₂⟩:=hq b k cs;exact ⟨e₂,a₂,w₂,hq₂,.of_steps harr harr₂⟩
 | exit id=>exact ⟨_,a₁,w₁,hq,.pass (x:= .inLoop c) rfl (λ_ _=> .inl (by simp)) harr⟩
 | goto l=>exact ⟨_,a₁,w₁,hq,.pass (x:= .inLoop c) rfl (λ_ _=> .inl (by simp)) harr⟩
 | ret=>exact ⟨_,a₁,w₁,hq,.pass (x:= .inLoop c) rfl (λ_ _=> .inl (by simp)) harr⟩
 | panic ch=>exact ⟨_,a₁,w₁,hq,.pass (x:= .inLoop c) rfl (λ_ _=> .inl (by simp)) harr⟩
 | outgrown=>exact ⟨_,a₁,w₁,hq,.pass (x:= .inLoop c) rfl (λ_ _=> .inl (by simp)) harr⟩
theorem GA {c:Code} {a:Act} {w:World} (h:c.wp P (Exit.then (xU P c Q) Q) a w):xU P c Q a w:=λb k cs=>by
 obtain ⟨e,a',w',hq,harr⟩:=AR h b k cs;exact ⟨e,a',w',hq,.of_steps (.one step_inLoop) harr⟩
theorem Ji {c:Code} {a:Act} {w:World} (h:c.wp P (Exit.then (xU P c Q) Q) a w):(Code.loop c).wp P Q a w:=λb k cs=>by
 obtain ⟨e,a',w',hq,harr⟩:=AR h b k cs;exact ⟨e,a',w',hq,.of_steps (.one step_loop) harr⟩
end
def zu (P:Program) (T:Nat->Option VL) (loop:cN):Prop:=
 ∀key s out s',loop key s=some (out,s')->∀l,T key=some l->∀(np:Nat) (c:Code),xT P T np c l.body=true->∀a w L Z,RS s a w L Z->∀Q:Exit->Act->World->Prop,
  (∀a' w' L' Z',RS s' a' w' L' Z'->Tr np s.sto s'.sto w w' L L' Z Z'->Q (wm out) a' w')->c.wp P (Exit.then (xU P c Q) Q) a w
section
variable {P:Program} {T:Nat->Option VL} {call:cM} {loop:cN}
theorem qH (
      hmix:P.follows .mixedOrders=true) (hco:iy P call) (hlo:zu P T loop) {np:Nat}:∀(c:Code) (vc:VC) (s:St) (out:Out) (s':St) (a:Act) (w:World) (L:Loc) (Z:Nat->Prop),xT P T np c vc=true->RS s a w L Z->
  exec (real call loop) vc s=some (out,s')->∀Q:Exit->Act->World->Prop,(∀a' w' L' Z',RS s' a' w' L' Z'->Tr np s.sto s'.sto w w' L L' Z Z'->Q (wm out) a' w')->c.wp P Q a w:=by
 intro c;induction c with
 | skip=>
  intro vc s out s' a w L Z hok h e Q hQ;cases vc<;>simp only[xT]at hok<;>first | (cases hok;done) | skip
  simp only[exec]at e;injection e with e;injection e with e1 e2;subst e1;subst e2;exact wp_skip (hQ a w L Z h (Tr.refl _ _ _ _ _))
 | region id ops draw=>
  intro vc s out s' a w L Z hok h e Q hQ;cases vc<;>simp only[xT]at hok<;>first | (cases hok;done) | skip
  ·rename_i vs;simp only[exec]at e;split at e
   case h_2=>cases e
   case h_1 s1 hs1=>
    injection e with e;injection e with e1 e2;subst e1;subst e2;cases draw with
    | true=>exact Ce hmix hco hok h hs1 Q hQ
    | false=>exact wp_region (kD hco hok h hs1 Q hQ)
  ·rename_i vs x;simp only[exec]at e;split at e
   case h_2=>cases e
   case h_1 s1 hs1=>
    split at e
    case h_2=>cases e
    case h_1 s2 hs2=>
     injection e with e;injection e with e1 e2;subst e1;subst e2;cases draw with
     | true=>cases hok
     | false=>
      refine wp_region (kD hco hok h hs1 Q λa' w' L' Z' k1 k2=> ?_);obtain ⟨L2,m1,m2⟩:=ny (np:=np) k1 hs2;exact hQ a' w' L2 Z' m1 (k2.trans m2)
  ·rename_i vs ps;simp only[exec]at e;split at e
   case h_2=>cases e
   case h_1 s1 hs1=>
    split at e
    case h_2=>cases e
    case h_1 s2 hs2=>
     injection e with e;injection e with e1 e2;subst e1;subst e2;cases draw with
     | true=>cases hok
     | false=>
      simp only[af]at hok;refine wp_region (kD hco hok.1 h hs1 Q λa' w' L' Z' k1 k2=> ?_);obtain ⟨L2,Z2,m1,m2⟩:=oT (np:=np) hok.2 k1 hs2;exact hQ a' w' L2 Z2 m1 (k2.trans m2)
  ·rename_i π vs x ps;simp only[exec]at e;split at e
   case h_2=>cases e
   case h_1 s1 hs1=>
    split at e
    case h_2=>cases e
    case h_1 s2 hs2=>
     split at e
     case h_2=>cases e
     case h_1 s3 hs3=>
      injection e with e;injection e with e1 e2;subst e1;subst e2;simp only[af]at hok;have key:∀a' w' L' Z',RS s1 a' w' L' Z'->Tr np s.sto s1.sto w w' L L' Z Z'->Q .normal a' w':=λa' w' L' Z' k1 k2=>by
       have h2:∃L2,RS s2 a' w' L2 Z'/\Tr np s1.sto s2.sto w' w' L' L2 Z' Z':=by
        cases x with
        | none=>injection hs2 with hs2;subst hs2;exact ⟨L',k1,Tr.refl _ _ _ _ _⟩
        | some x=>exact ny (np:=np) k1 hs2
       obtain ⟨L2,m1,m2⟩:=h2;obtain ⟨L3,Z3,n1,n2⟩:=oT (np:=np) hok.2 m1 hs3;exact hQ a' w' L3 Z3 n1 ((k2.trans m2).trans n2)
      cases draw with
      | true=>exact uc hmix hco hok.1 h hs1 Q key
      | false=>exact wp_region (kD hco hok.1 h hs1 Q key)
 | seq x y ihx ihy=>
  intro vc s out s' a w L Z hok h e Q hQ;cases vc<;>simp only[xT]at hok<;>first | (cases hok;done) | skip
  ·rename_i x' y' c' b' m' t' dst' sz bytes agg zero;simp only[af,decide_eq_true_eq]at hok;obtain ⟨⟨hok1,hok2⟩,hok3⟩:=hok;refine AQ (loop:=loop) hco h hok1 hok2 e Q hQ λa1 w1 L1 Z1 s1 s2 out hR he hq=> ?_
   exact ihy _ s1 out s2 a1 w1 L1 Z1 hok3 hR he Q hq
  rename_i x' y';simp only[af]at hok;simp only[exec]at e;refine wp_seq ?_;split at e
  ·rename_i s1 hs1;refine ihx x' s _ s1 a w L Z hok.1 h hs1 _ λa1 w1 L1 Z1 k1 k2=> ?_
   exact ihy y' s1 out s' a1 w1 L1 Z1 hok.2 k1 e Q λa' w' L' Z' m1 m2=>hQ a' w' L' Z' m1 (k2.trans m2)
  ·rename_i r hr;refine ihx x' s out s' a w L Z hok.1 h e _ λa1 w1 L1 Z1 k1 k2=> ?_
   have:=hQ a1 w1 L1 Z1 k1 k2;cases out with
   | norm=>exact (hr s' e).elim
   | ret=>exact this
   | exit id=>exact this
 | cond c x y ihx ihy=>
  intro vc s out s' a w L Z hok h e Q hQ;cases vc<;>simp only[xT]at hok<;>first | (cases hok;done) | skip
  rename_i c' x' y';simp only[af]at hok;simp only[exec]at e;split at e
  case h_2=>cases e
  case h_1 t ht=>
   have hv:=aL h hok.1.1 ht;simp only[RV,RD,List.cons.injEq,and_true]at hv;refine wp_cond hv ?_;cases t with
   | true=>exact ihx x' s out s' a w L Z hok.1.2 h e Q hQ
   | false=>exact ihy y' s out s' a w L Z hok.2 h e Q hQ
 | block id c ih=>
  intro vc s out s' a w L Z hok h e Q hQ;cases vc<;>simp only[xT]at hok<;>first | (cases hok;done) | skip
  rename_i id' c';simp only[af,beq_iff_eq]at hok;obtain ⟨rfl,hok⟩:=hok;simp only[exec]at e;refine wp_block ?_;split at e
  ·rename_i k s1 hs1;refine ih c' s _ s1 a w L Z hok h hs1 _ λa1 w1 L1 Z1 k1 k2=> ?_
   simp only[wm,Exit.inBlock];split at e
   ·rename_i hk;injection e with e;injection e with e1 e2;subst e1;subst e2;rw[if_pos hk];exact hQ a1 w1 L1 Z1 k1 k2
   ·rename_i hk;injection e with e;injection e with e1 e2;subst e1;subst e2;rw[if_neg hk];exact hQ a1 w1 L1 Z1 k1 k2
  ·rename_i r hr;refine ih c' s out s' a w L Z hok h e _ λa1 w1 L1 Z1 k1 k2=> ?_
   have:=hQ a1 w1 L1 Z1 k1 k2;cases out with
   | norm=>exact this
   | ret=>exact this
   | exit id=>exact (hr id s' e).elim
 | loop c ih=>
  intro vc s out s' a w L Z hok h e Q hQ;cases vc<;>simp only[xT]at hok<;>first | (cases hok;done) | skip
  rename_i prom le ls key;simp only[af]at hok;obtain ⟨hok1,hok2⟩:=hok;split at hok1
  case h_2=>cases hok1
  case h_1 l hl=>
   simp only[exec]at e;split at e
   case h_2=>cases e
   case h_1 s1 hs1=>
    obtain ⟨L1,k1,k2⟩:=cj (np:=np) (λp hp=>by simpa using List.all_eq_true.1 hok2 p hp) h hs1;obtain ⟨m1,m2⟩:=k1.mask np le ls;exact Ji (hlo key _ out s' e l hl np c hok1 a w L1 Z m1 Q λa' w' L' Z' n1 n2=>hQ a' w' L' Z' n1 ((k2.trans m2).trans n2))
 | exit id=>
  intro vc s out s' a w L Z hok h e Q hQ;cases vc<;>simp only[xT]at hok<;>first | (cases hok;done) | skip
  rename_i id';simp only[beq_iff_eq]at hok;subst hok;simp only[exec]at e;injection e with e;injection e with e1 e2;subst e1;subst e2;exact wp_exit (hQ a w L Z h (Tr.refl _ _ _ _ _))
 | ret=>
  intro vc s out s' a w L Z hok h e Q hQ;cases vc<;>simp only[xT]at hok<;>first | (cases hok;done) | skip
  simp only[exec]at e;injection e with e;injection e with e1 e2;subst e1;subst e2;exact wp_ret (hQ a w L Z h (Tr.refl _ _ _ _ _))
 | _=>
  intro vc s out s' a w L Z hok;cases vc<;>simp[xT]at hok
theorem GD (hmix:P.follows .mixedOrders=true) (hco:iy P call) (hlo:zu P T loop):zu P T (tT (real call loop) T):=by
 intro key s out s' e l hl np c hok a w L Z h Q hQ;unfold tT at e;rw[hl]at e;simp only at e;split at e
 ·rename_i s1 hs1;refine qH hmix hco hlo c l.body s _ s1 a w L Z hok h hs1 _ λa1 w1 L1 Z1 k1 k2=> ?_
  obtain ⟨m1,m2⟩:=k1.mask np l.liveE l.liveS;exact GA (hlo key _ out s' e l hl np c hok a1 w1 L1 Z1 m1 Q λa' w' L' Z' n1 n2=>hQ a' w' L' Z' n1 ((k2.trans m2).trans n2))
 ·rename_i out1 s1 hne hs1;injection e with e;injection e with e1 e2;subst e1;subst e2;refine qH hmix hco hlo c l.body s out1 s1 a w L Z hok h hs1 _ λa1 w1 L1 Z1 k1 k2=> ?_
  obtain ⟨m1,m2⟩:=k1.mask np l.outE l.outS;have:=hQ a1 w1 L1 Z1 m1 (k2.trans m2);cases out1 with
  | norm=>exact (hne rfl).elim
  | ret=>exact this
  | exit id=>exact this
 ·cases e
end
def qi (P:Program):List ResultVar->List (Sum Nat (Nat×Bool×Nat))->Bool
 | [],[]=>true
 | .tmp t::l,.inl t'::r=>t==t'&&qi P l r
 | .cell a ty::l,.inr (a',agg,n)::r=>a==a'&&(match P.info? ty,P.underlying ty with | some i,some d=>i.size==n&&agg==sw d | _,_=>false)&&qi P l r
 | _,_=>false
def okF (P:Program) (T:Nat->Option VL) (f:FuncId) (v:VF):Bool:=match P.funcs[wS f]? with
 | some fn=>match fn.body with
  | some c=> !(fn.name== "runtime.NumGoroutine")&&v.ntmps==fn.ntmps&&decide (v.nargs<=v.ntmps)&&qi P fn.results.toList v.results&&xT P T v.ntmps c v.body
  | none=>false
 | none=>false
section
variable {P:Program} {T:Nat->Option VL} {call:cM} {loop:cN}
def tq (tmps:Array Value):ResultVar->Sem Value
 | .tmp t=>pure (tmps.getD t undef)
 | .cell a t=>do loadVar t (<-asAddr (tmps.getD a undef))
theorem nG {s:St} {a:Act} {w:World} {L:Loc} {Z:Nat->Prop} (h:RS s a w L Z):∀{l:List ResultVar} {r:List (Sum Nat (Nat×Bool×Nat))} {xs:List AV},qi P l r=true->kS (real call loop) s r=some xs->
  ∃vs,(l.mapM (tq a.tmps)).run P w= .ok vs w/\di (aH w Z L s.sto) xs vs
 | [],[],xs,_,e=>by
  simp only[kS]at e;injection e with e;subst e;exact ⟨[],by simp,by simp only[di]⟩
 | .tmp t::l,.inl t'::r,xs,hok,e=>by
  simp only[qi,af,beq_iff_eq]at hok;obtain ⟨rfl,hok⟩:=hok;simp only[kS]at e;split at e
  case h_2=>cases e
  case h_1 x ys hx hys=>
   injection e with e;subst e;obtain ⟨vs,h1,h2⟩:=nG h hok hys;refine ⟨_::vs,?_,by simp only[di];exact ⟨_,_,rfl,h.get hx,h2⟩⟩;simp[List.mapM_cons,tq,h1]
 | .cell q ty::l,.inr (q',agg,n)::r,xs,hok,e=>by
  simp only[qi,af,beq_iff_eq]at hok;obtain ⟨⟨rfl,hok1⟩,hok2⟩:=hok;split at hok1
  case h_2=>cases hok1
  case h_1 i d hi hd=>
   simp only[af,beq_iff_eq]at hok1;obtain ⟨rfl,hagg⟩:=hok1;simp only[kS]at e;split at e
   case h_2=>cases e
   case h_1 p hp=>
    split at e
    case h_2=>cases e
    case h_1 x ys hx hys=>
     injection e with e;subst e;obtain ⟨vs,h1,h2⟩:=nG h hok2 hys;obtain ⟨ad,u,k1,k2,k3⟩:=sx (P:=P) (w:=w) h.obj hi hd hagg (h.get hp) hx;refine ⟨u::vs,?_,by simp only[di];exact ⟨_,_,rfl,k3,h2⟩⟩;have:(tq a.tmps (.cell q ty)).run P w= .ok u w:=by
      simp[tq,k1,asAddr,k2]
     simp[List.mapM_cons,this,h1]
 | [],_::_,_,hok,_=>by simp[qi]at hok
 | _::_,[],_,hok,_=>by simp[qi]at hok
 | .tmp _::_,.inr _::_,_,hok,_=>by simp[qi]at hok
 | .cell _ _::_,.inl _::_,_,hok,_=>by simp[qi]at hok
def zw:List Value->Value
 | [v]=>v
 | vs=> .tuple vs.toArray
theorem AU {fn:Func} {tmps:Array Value} {w:World} {vs:List Value} (h:(fn.results.toList.mapM (tq tmps)).run P w= .ok vs w):(results fn tmps).run P w= .ok (zw vs) w:=by
 have hr:∀g:ResultVar->Sem Value,g=tq tmps->Sem.run P (do
   let vs<-List.toArray<$>List.mapM g fn.results.toList
   pure (if h:vs.size=1 then vs[0]else Value.tuple vs)) w= .ok (zw vs) w:=by
  rintro g rfl;simp only[Sem.run_bind,Sem.run_map,h,Result.andThen];cases vs with
  | nil=>simp[zw]
  | cons v l=>cases l with
   | nil=>simp[zw]
   | cons u l=>simp[zw]
 unfold results;rw[Array.mapM_eq_mapM_toList];exact hr _ (by funext x;cases x<;>rfl)
def inn (n:Nat) (r:Id):Id:=(n+r.2,0)
def cZ (n:Nat) (cs:List (Option Obj)):br:=List.replicate n []++cs.map λob=>[ob.map (·.map (inn n))]
theorem mM {n:Nat} {cs:List (Option Obj)} {r:Id} {ob:Obj} (h:(cZ n cs).get r=some ob):∃i o,r=(n+i,0)/\jy cs i=some o/\ob=o.map (inn n):=by
 unfold br.get cZ at h;rw[List.getElem?_append,List.length_replicate]at h;split at h
 ·rename_i l hl;split at hl
  ·rename_i hlt;simp[hlt]at hl;subst hl;simp at h
  ·rename_i hlt;rw[List.getElem?_map]at hl;cases hc:cs[r.1-n]? with
   | none=>simp[hc]at hl
   | some o=>
    simp[hc]at hl;subst hl;obtain ⟨r1,r2⟩:=r;cases r2 with
    | zero=>
     simp at h;cases o with
     | none=>simp at h
     | some o=>
      simp at h hc hlt;refine ⟨r1-n,o,by simp;omega,by simp[jy,hc],h.symm⟩
    | succ k=>simp at h
 ·cases h
theorem pP {n:Nat} {cs:List (Option Obj)} {i:Nat}:(cZ n cs).get (n+i,0)=(jy cs i).map (·.map (inn n)):=by
 unfold br.get cZ jy;rw[List.getElem?_append_right (by simp)];simp only[List.length_replicate,Nat.add_sub_cancel_left,List.getElem?_map];cases cs[i]? with
 | none=>rfl
 | some o=>simp
def L0 (n:Nat) (L:Loc):Loc:=⟨λr=>if n<=r.1 then L (1,r.1-n)else none,λr=>if n<=r.1 then L.nest (1,r.1-n)else λ_=>False⟩
theorem wo {n i b:Nat} {L:Loc} {o:Obj} {f:Id->Id}:(o.map f).has (L0 n L) (n+i,0) b↔o.has L (1,i) b:=by
 unfold Obj.has;simp[L0,Obj.vL]
theorem Dm {w:World} {Z:Nat->Prop} {L:Loc} {n:Nat} {cs:List (Option Obj)} {r:Id} (hr:(br.get [[],cs] r).isSome):Md ⟨w,Z,L,br.get [[],cs]⟩ ⟨w,Z,L0 n L,(cZ n cs).get⟩ (inn n) r:=by
 obtain ⟨o,ho⟩:=Option.isSome_iff_exists.1 hr;obtain ⟨r1,r2⟩:=r
 match r1 with
 | 0=>rw[vT]at ho;simp[jy]at ho
 | 1=>
  rw[kT]at ho;refine ⟨?_,λ_=> ?_,λsz xs k=> ?_⟩
  ·simp[L0,inn]
  ·show ((cZ n cs).get (n+r2,0)).isSome;rw[pP,ho];rfl
  ·show ((cZ n cs).get (n+r2,0)).bind Obj.rw=_;have k':(jy cs r2).bind Obj.rw=some (sz,xs):=k;rw[ho]at k';rw[pP,ho];simpa [Obj.l_]using k'
 | i+2=>rw[ze]at ho;cases ho
theorem Jj {as:List AV} {cs:List (Option Obj)} {vs:Array Value} {w:World} {L:Loc} {Z:Nat->Prop} (h:RS ⟨as,[[],cs]⟩ ⟨vs,[]⟩ w L Z) {n m:Nat} (hm:as.length=m):
  RS ⟨AV.nu (inn n) as++List.replicate (n-m) .bare,cZ n cs⟩ ⟨vs++Array.replicate (n-vs.size) undef,[]⟩ w (L0 n L) Z:=by
 have henv:=h.env;have hlen:=(bF.1 henv).1;have hvs:vs.size=m:=by rw[<-hm];simpa using hlen.symm
 have hlives:∀b,aU (cZ n cs) (L0 n L) b->aU [[],cs] L b:=λb hl=>by
  obtain ⟨q,o,h1,h2⟩:=hl;obtain ⟨i,o',rfl,h3,rfl⟩:=mM h1;exact ⟨(1,i),o',h3,wo.1 h2⟩
 refine ⟨rfl,?_,λr ob hr=> ?_,λr r' b ob ob' ho ho' hb hb'=> ?_,λb hb=>⟨(h.dis b hb).1,λhl=>(h.dis b hb).2 (hlives b hl)⟩⟩
 ·have h1:=nB (ob:=br.get [[],cs]) (ob':=(cZ n cs).get) (L':=L0 n L) (f:=inn n) as _ (λr hr=>Dm (dU as _ henv r hr)) henv;rw[bF]at h1 |-;refine ⟨by simp[hvs,hm]at h1 |-;rw[h1.1],λi x v hx hv=> ?_⟩;have hl1:(AV.nu (inn n) as).length=vs.size:=by simpa using h1.1
  simp only[Array.toList_append,Array.toList_replicate]at hv;rw[List.getElem?_append]at hx hv;rw[hl1]at hx;simp only[Array.length_toList]at hv;split at hx
  ·rename_i hlt;rw[if_pos hlt]at hv;exact h1.2 i x v hx hv
  ·rename_i hlt;rw[if_neg hlt]at hv;have hx':x= .bare:=by
    have:=List.mem_of_getElem? hx;exact (List.mem_replicate.1 this).2
   have hv':v=undef:=by
    have:=List.mem_of_getElem? hv;exact (List.mem_replicate.1 this).2
   subst hx';subst hv';simp only[RV]
 ·obtain ⟨i,o,rfl,h3,rfl⟩:=mM hr;have hro:=h.obj (1,i) o h3;exact zb (g:=br.get [[],cs]) hro (by simp[L0]) (λ_=>by simp[L0]) (λq hq=>Dm (ko hro q hq))
 ·obtain ⟨i,o,rfl,h3,rfl⟩:=mM ho;obtain ⟨i',o',rfl,h3',rfl⟩:=mM ho';have:=h.injH (1,i) (1,i') b o o' h3 h3' (wo.1 hb) (wo.1 hb');simp at this;rw[this]
end
section
section
variable {P:Program} {T:Nat->Option VL} {call:cM} {loop:cN}
def n_ (n:Nat) (ids:List Id) (r:Id):Id:=if r.1<n then (0,idx ids r)else (1,r.1-n)
def nH (n:Nat) (ids:List Id) (L Lin:Loc):Loc:=
 ⟨λr=>if r.1=0 then (match ids[r.2]? with | some q=>L q | none=>none)else if r.1=1 then L (n+r.2,0)else Lin r,
  λr=>if r.1=0 then (match ids[r.2]? with | some q=>L.nest q | none=>λ_=>False)else if r.1=1 then L.nest (n+r.2,0)else Lin.nest r⟩
def tr (s:br) (n:Nat) (ids:List Id):List (Option Obj):=ids.map λr=>(s.get r).map (·.map (n_ n ids))
def tu (s:br) (n m:Nat) (ids:List Id):List (Option Obj):=(List.range m).map λi=>(s.get (n+i,0)).map (·.map (n_ n ids))
theorem zx {s:br} {n:Nat} {ids:List Id} {j:Nat}:jy (tr s n ids) j=match ids[j]? with | some q=>(s.get q).map (·.map (n_ n ids)) | none=>none:=by
 unfold tr jy;rw[List.getElem?_map];cases ids[j]? <;>rfl
theorem uO {s:br} {n m:Nat} {ids:List Id} {j:Nat}:jy (tu s n m ids) j=if j<m then (s.get (n+j,0)).map (·.map (n_ n ids))else none:=by
 unfold tu jy;rw[List.getElem?_map];by_cases h:j<m
 ·simp[h]
 ·simp[h]
theorem GF {n m:Nat} {ids:List Id} {cs:List (Option Obj)} {v:AV} {u:Value} {s:St} {a:Act} {w w':World} {L Lin:Loc} {Z Z':Nat->Prop} (h:RS s a w' L Z') (t:Tr n (cZ n cs) s.sto w w' (L0 n Lin) L Z Z') (hm:m=cs.length)
  (hn:ids.Nodup) (hlt:∀r∈ids,r.1<n) (hs:∀r∈ids,(s.sto.get r).isSome) (hc:∀r∈ids,∀ob,s.sto.get r=some ob->∀q∈ob.refs,q∈ids)
  (hv:RV (aH w' Z' L s.sto) v u) (hvr:∀r∈v.refs,r.1<n->r∈ids) (hpr:∀i,i<m->∀ob,s.sto.get (n+i,0)=some ob->∀r∈ob.refs,r.1<n->r∈ids):
  RS ⟨[v.map (n_ n ids)],[tr s.sto n ids,tu s.sto n m ids]⟩ ⟨#[u],[]⟩ w' (nH n ids L Lin) Z'/\Tr 1 [[],cs] [tr s.sto n ids,tu s.sto n m ids] w w' Lin (nH n ids L Lin) Z Z':=by
 have hpar:∀r,(s.sto.get r).isSome->n<=r.1->∃i,i<m/\r=(n+i,0):=by
  intro r hr hnr;obtain ⟨h1,_⟩:=t.psame r hnr hr;obtain ⟨o,ho⟩:=Option.isSome_iff_exists.1 h1;obtain ⟨i,o',rfl,h3,_⟩:=mM ho;exact ⟨i,by rw[hm];exact (aq.1 (Av h3)).1,rfl⟩
 have hren:∀r,(s.sto.get r).isSome->(r.1<n->r∈ids)->Md ⟨w',Z',L,s.sto.get⟩ ⟨w',Z',nH n ids L Lin,br.get [tr s.sto n ids,tu s.sto n m ids]⟩ (n_ n ids) r:=by
  intro r hr hin;by_cases hlr:r.1<n
  ·have hi:=rP (hin hlr);have he:n_ n ids r=(0,idx ids r):=by simp[n_,hlr]
   refine ⟨?_,λ_=> ?_,λsz xs k=> ?_⟩
   ·show nH n ids L Lin (n_ n ids r)=L r;rw[he];simp[nH,hi]
   ·show (br.get [tr s.sto n ids,tu s.sto n m ids] (n_ n ids r)).isSome;rw[he,vT,zx,hi];simpa using hr
   ·show (br.get [tr s.sto n ids,tu s.sto n m ids] (n_ n ids r)).bind Obj.rw=_;have k':(s.sto.get r).bind Obj.rw=some (sz,xs):=k;rw[he,vT,zx,hi];cases ho:s.sto.get r with
    | none=>simp[ho]at k'
    | some o=>simp[ho]at k';simp[ho,Obj.l_,k']
  ·obtain ⟨i,hi,rfl⟩:=hpar r hr (by omega);have he:n_ n ids (n+i,0)=(1,i):=by simp[n_]
   refine ⟨?_,λ_=> ?_,λsz xs k=> ?_⟩
   ·show nH n ids L Lin (n_ n ids (n+i,0))=L (n+i,0);rw[he];simp[nH]
   ·show (br.get [tr s.sto n ids,tu s.sto n m ids] (n_ n ids (n+i,0))).isSome;rw[he,kT,uO,if_pos hi];simpa using hr
   ·show (br.get [tr s.sto n ids,tu s.sto n m ids] (n_ n ids (n+i,0))).bind Obj.rw=_;have k':(s.sto.get (n+i,0)).bind Obj.rw=some (sz,xs):=k;rw[he,kT,uO,if_pos hi];cases ho:s.sto.get (n+i,0)with
    | none=>simp[ho]at k'
    | some o=>simp[ho]at k';simp[Obj.l_,k']
 have hget:∀r ob,br.get [tr s.sto n ids,tu s.sto n m ids] r=some ob->∃q o,s.sto.get q=some o/\(nH n ids L Lin r=L q/\(nH n ids L Lin).nest r=L.nest q)/\ob=o.map (n_ n ids)/\((∃j,r=(0,j)/\ids[j]? =some q/\q∈ids)\/∃i,i<m/\q=(n+i,0)/\r=(1,i)):=by
  intro r ob hr;obtain ⟨r1,r2⟩:=r
  match r1 with
  | 0=>
   rw[vT,zx]at hr;split at hr
   ·rename_i q hq;cases ho:s.sto.get q with
    | none=>simp[ho]at hr
    | some o=>simp[ho]at hr;exact ⟨q,o,ho,⟨by simp[nH,hq],by simp[nH,hq]⟩,hr.symm,.inl ⟨r2,rfl,hq,List.mem_of_getElem? hq⟩⟩
   ·cases hr
  | 1=>
   rw[kT,uO]at hr;split at hr
   ·rename_i hi;cases ho:s.sto.get (n+r2,0)with
    | none=>simp[ho]at hr
    | some o=>simp[ho]at hr;exact ⟨(n+r2,0),o,ho,⟨by simp[nH],by simp[nH]⟩,hr.symm,.inr ⟨r2,hi,rfl,rfl⟩⟩
   ·cases hr
  | i+2=>rw[ze]at hr;cases hr
 have hlives:∀b,aU [tr s.sto n ids,tu s.sto n m ids] (nH n ids L Lin) b->aU s.sto L b:=λb hl=>by
  obtain ⟨r,ob,h1,h2⟩:=hl;obtain ⟨q,o,g1,g2,rfl,_⟩:=hget r ob h1;exact ⟨q,o,g1,(rR g2.1 g2.2).1 (uL.1 h2)⟩
 have hin:∀b,aU [[],cs] Lin b->aU (cZ n cs) (L0 n Lin) b:=λb hl=>by
  obtain ⟨r,ob,h1,h2⟩:=hl;rcases kg h1 with ⟨_,k⟩ | ⟨k1,k⟩
  ·simp[jy]at k
  ·refine ⟨(n+r.2,0),ob.map (inn n),by rw[pP,k];rfl,?_⟩;have hr:r=(1,r.2):=Prod.ext k1 rfl;rw[hr]at h2;exact wo.2 h2
 have hin':∀b,aU (cZ n cs) (L0 n Lin) b->aU [[],cs] Lin b:=λb hl=>by
  obtain ⟨q,o,h1,h2⟩:=hl;obtain ⟨i,o',rfl,h3,rfl⟩:=mM h1;exact ⟨(1,i),o',h3,wo.1 h2⟩
 refine ⟨⟨rfl,?_,?_,?_,λb hb=>⟨(h.dis b hb).1,λhl=>(h.dis b hb).2 (hlives b hl)⟩⟩,
  ⟨t.os,t.tape,t.output,t.size,λb hb hnl=>t.keep b hb λhl=>hnl (hin' b hl),λb hl=>(t.lives b (hlives b hl)).imp (hin' b) id,t.zin,λb hb=>(t.zout b hb).imp id λx=>x.imp id (hin' b),?_,?_⟩⟩
 ·simp only[di];refine ⟨u,[],rfl,?_,rfl⟩;exact za (ob:=s.sto.get) v _ (λr hr=>hren r (uM _ _ hv r hr) (hvr r hr)) hv
 ·intro r ob hr;obtain ⟨q,o,g1,g2,g3,g4⟩:=hget r ob hr;subst g3;refine zb (g:=s.sto.get) (h.obj q o g1) g2.1 (λ_=>g2.2) (λp hp=>hren p (ko (h.obj q o g1) p hp) ?_);rcases g4 with ⟨j,_,_,g5⟩ | ⟨i,gi,rfl,_⟩
  ·exact λ_=>hc q g5 o g1 p hp
  ·exact hpr i gi o g1 p hp
 ·intro r r' b ob ob' ho ho' hb hb';obtain ⟨q,o,g1,g2,rfl,g4⟩:=hget r ob ho;obtain ⟨q',o',g1',g2',rfl,g4'⟩:=hget r' ob' ho';have hq:=h.injH q q' b o o' g1 g1' ((rR g2.1 g2.2).1 (uL.1 hb)) ((rR g2'.1 g2'.2).1 (uL.1 hb'));subst hq;rcases g4 with ⟨j,rfl,hj,hm1⟩ | ⟨i,hi,rfl,rfl⟩
  ·rcases g4' with ⟨j',rfl,hj',hm2⟩ | ⟨i',hi',e,rfl⟩
   ·have:=(vR hn hj).symm.trans (vR hn hj');rw[this]
   ·have:=hlt q hm1;rw[e]at this;simp at this;omega
  ·rcases g4' with ⟨j',rfl,hj',hm2⟩ | ⟨i',hi',e,rfl⟩
   ·have:=hlt _ hm2;simp at this;omega
   ·have:i=i':=by simpa using e
    rw[this]
 ·intro r hr;obtain ⟨r1,r2⟩:=r
  match r1 with
  | 0=>simp at hr
  | 1=>
   have:=t.par (n+r2,0) (by simp);simp[nH,this,L0]
  | i+2=>simp[nH]
 ·intro r hr hrs;obtain ⟨ob,ho⟩:=Option.isSome_iff_exists.1 hrs;obtain ⟨q,o,g1,g2,g3,g4⟩:=hget r ob ho;rcases g4 with ⟨j,rfl,_,_⟩ | ⟨i,hi,rfl,rfl⟩
  ·simp at hr
  ·obtain ⟨p1,p2,p3,p4,p5⟩:=t.psame (n+i,0) (by simp) (by simp[g1]);have hs1:(cZ n cs).get (n+i,0)=(jy cs i).map (·.map (inn n)):=pP;have hL:L (n+i,0)=Lin (1,i):=by rw[t.par (n+i,0) (by simp)];simp[L0]
   refine ⟨?_,?_,λ_=> ?_,λsz xs k=> ?_,λb hb _=> ?_⟩
   ·rw[kT];rw[hs1]at p1;simpa using p1
   ·show nH n ids L Lin (1,i)=Lin (1,i);simp[nH,hL]
   ·exact hrs
   ·have k':(jy cs i).bind Obj.rw=some (sz,xs):=k;obtain ⟨ys,y1,y2⟩:=p4 sz xs (by
     show ((cZ n cs).get (n+i,0)).bind Obj.rw=_;rw[hs1];cases ho:jy cs i with
     | none=>simp[ho]at k'
     | some o=>simp[ho]at k';simp[Obj.l_,k'])
    refine ⟨ys,?_,y2⟩;have y1':(s.sto.get (n+i,0)).bind Obj.rw=some (sz,ys):=y1;show (br.get [tr s.sto n ids,tu s.sto n m ids] (1,i)).bind Obj.rw=_;rw[kT,uO,if_pos hi];cases ho:s.sto.get (n+i,0)with
    | none=>simp[ho]at y1'
    | some o=>simp[ho]at y1';simp[Obj.l_,y1']
   ·exact p5 b (by show L0 n Lin (n+i,0)=_;simpa [L0]using hb) p1
theorem GH (
      hmix:P.follows .mixedOrders=true) (hco:iy P call) (hlo:zu P T loop) {F:FuncId->Option (VF×Bool)} (hF:∀f vf raw,F f=some (vf,raw)->okF P T f vf=true):iy P (tU (real call loop) F):=by
 intro f as cs c e;unfold tU at e;split at e
 ·cases e
 rename_i vf raw hf;have hok:=hF f vf raw hf;unfold okF at hok;split at hok
 case h_2=>cases hok
 case h_1 fn hfn=>
  split at hok
  case h_2=>cases hok
  case h_1 body hbody=>
   simp only[af,beq_iff_eq,decide_eq_true_eq,Bool.not_eq_true']at hok;obtain ⟨⟨⟨⟨o1,o2⟩,o3⟩,o4⟩,o5⟩:=hok;have hcl:iZ P (wS f)=true:=by
    unfold iZ;rw[hfn];simp only[hbody,Option.isSome_some,o1,Bool.not_false,Bool.and_self]
   refine ⟨hcl,λvs w Lin Z h Q hQ=> ?_⟩;simp only at e;split at e
   ·cases e
   rename_i hlen;have hlen':as.length=vf.nargs:=by simpa using hlen
   have hin:=Jj (n:=vf.ntmps) h hlen';refine calls_of_wp hfn hbody ?_;rw[<-o2];have hbodyE:∀(r:Option (Out×St)),r=exec (real call loop) vf.body ⟨AV.nu (inn vf.ntmps) as++List.replicate (vf.ntmps-vf.nargs) .bare,cZ vf.ntmps cs⟩->r=exec (real call loop) vf.body ⟨AV.nu (inn vf.ntmps) as++List.replicate (vf.ntmps-vf.nargs) .bare,cZ vf.ntmps cs⟩:=λ_ h=>h
   split at e
   ·cases e
   ·cases e
   rename_i out s1 hne hex;split at e
   ·cases e
   rename_i rs hrs;refine qH hmix hco hlo body vf.body _ out s1 _ w (L0 vf.ntmps Lin) Z o5 hin hex _ λa1 w1 L1 Z1 k1 k2=> ?_
   have main:a1.defers=[]/\∃v,(results fn a1.tmps).run P w1= .ok v w1/\Q (.returned v) w1:=by
    obtain ⟨us,r1,r2⟩:=nG (P:=P) k1 o4 hrs;refine ⟨k1.defers,_,AU r1,?_⟩;have hval:RV (aH w1 Z1 L1 s1.sto) (Gf rs) (zw us):=by
     match rs,us,r2 with
     | [],us,r2=>simp only[di]at r2;subst r2;simp only[Gf,zw,RV,di];exact ⟨[],rfl,rfl⟩
     | [x],us,r2=>simp only[di]at r2;obtain ⟨v,vs',rfl,h2,rfl⟩:=r2;exact h2
     | x::y::l,us,r2=>
      have r2':=r2;simp only[di]at r2;obtain ⟨v,vs',rfl,h2,v',vs'',rfl,h3,h4⟩:=r2;simp only[Gf,zw,RV];exact ⟨_,rfl,r2'⟩
    generalize Gf rs=x at e hval;generalize zw us=u at hval |-;have hfz:∃x2 s2 Z2,oO (real call loop) raw x s1=some (x2,s2)/\RS s2 a1 w1 L1 Z2/\Tr vf.ntmps s1.sto s2.sto w1 w1 L1 L1 Z1 Z2/\Pz (aH w1 Z2 L1 s2.sto) x2 u:=by
     split at e
     ·cases e
     rename_i x2 s2 hfz;cases raw with
     | true=>
      simp only[oO]at hfz;injection hfz with hfz;injection hfz with q1 q2;subst q1;subst q2;exact ⟨x,s1,Z1,rfl,k1,Tr.refl _ _ _ _ _,λ_=>hval⟩
     | false=>
      obtain ⟨Z2,g1,g2,_,g4⟩:=wM vf.ntmps x u s1 s2 x2 Z1 k1 (Kept.refl _ _ _ _) hval hfz;exact ⟨x2,s2,Z2,hfz,g1,g2,g4⟩
    obtain ⟨x2,s2,Z2,q1,q2,q3,q4⟩:=hfz;rw[q1]at e;simp only at e;split at e
    ·cases e
    rename_i ids hids;split at e
    ·cases e
    rename_i hall;injection e with e;obtain ⟨i1,i2,i3,_,i5⟩:=lO 60 _ [] ids hids (by simp) (by simp) (by simp);simp only[af]at hall;have hlt:∀r∈ids,r.1<vf.ntmps:=λr hr=>by simpa using List.all_eq_true.1 hall.1 r hr
    have htr:=k2.trans q3;have hparam:∀r,(s2.sto.get r).isSome->vf.ntmps<=r.1->True:=λ_ _ _=>trivial
    have hroot:∀r∈x2.refs,r.1<vf.ntmps->r∈ids:=λr hr hrl=>i3 r (by
     rw[List.mem_filter];exact ⟨List.mem_append.2 (.inl hr),by simpa using hrl⟩)
    have hproot:∀i,i<cs.length->∀ob,s2.sto.get (vf.ntmps+i,0)=some ob->∀r∈ob.refs,r.1<vf.ntmps->r∈ids:=λi hi ob hob r hr hrl=>i3 r (by
     rw[List.mem_filter];refine ⟨List.mem_append.2 (.inr ?_),by simpa using hrl⟩;rw[List.mem_flatMap];exact ⟨some ob,by rw[List.mem_map];exact ⟨i,List.mem_range.2 hi,hob⟩,hr⟩)
    have hx2:∀r∈x2.refs,(s2.sto.get r).isSome->True:=λ_ _ _=>trivial
    have hlive:RV (aH w1 Z2 L1 s2.sto) x2 u:=by
     exact q4 λr hr=>List.all_eq_true.1 hall.2 r hr
    obtain ⟨f1,f2⟩:=GF (m:=cs.length) q2 htr rfl i1 hlt i2 i5 hlive hroot hproot;have hret:c.ret=x2.map (n_ vf.ntmps ids):=by rw[<-e];rfl
    have hpars:c.pars=tu s2.sto vf.ntmps cs.length ids:=by
     rw[<-e];simp only[List.map_map];rfl
    have hextra:c.extra=tr s2.sto vf.ntmps ids:=by rw[<-e];rfl
    refine hQ u w1 (nH vf.ntmps ids L1 Lin) Z2 ?_ ?_
    ·rw[hret,hpars,hextra];exact f1
    ·rw[hpars,hextra];exact f2
   cases out with
   | norm=>exact main
   | ret=>exact main
   | exit id=>exact (hne id rfl).elim
end
end
section
section
variable {call call':cM} {loop loop':cN}
theorem nI (s:br) (x:AV):content (real call loop) s x=content (real call' loop') s x:=by
 cases x<;>rfl
theorem wq:(real call loop).bS=(real call' loop').bS:=rfl
theorem nJ:∀X:List (Option Obj),jv (real call loop) X=jv (real call' loop') X
 | []=>rfl
 | none::_=>rfl
 | some (.box _)::_=>rfl
 | some (.hrows _ _ _ _ _ _)::_=>rfl
 | some (.gone _ _)::_=>rfl
 | some (.rows _ xs)::l=>by
  simp only[jv];rw[show (real call loop).closed xs=(real call' loop').closed xs from rfl,nJ l]
 | some (.orows _ xs)::l=>by
  simp only[jv];rw[show (real call loop).closed xs=(real call' loop').closed xs from rfl,nJ l]
mutual
theorem Dn:∀(x:AV) (s:St),fz (real call loop) s x=fz (real call' loop') s x
 | .emp,s=>rfl
 | .arr r sz g u,s=>by simp only[fz,nI (call:=call) (call':=call') (loop:=loop) (loop':=loop'),wq (call:=call) (call':=call') (loop:=loop) (loop':=loop')]
 | .agg cs,s=>by simp only[fz,mN cs s]
 | .tup cs,s=>by simp only[fz,mN cs s]
 | .undef,s=>rfl
 | .bare,s=>rfl
 | .d _,s=>rfl
 | .nilp,s=>rfl
 | .ptr _ _,s=>rfl
 | .prow _ _ _ _,s=>rfl
 | .sp _ _,s=>rfl
 | .fn _ _,s=>rfl
theorem mN:∀(xs:List AV) (s:St),yV (real call loop) s xs=yV (real call' loop') s xs
 | [],s=>rfl
 | x::xs,s=>by
  simp only[yV,Dn x s];split
  ·rename_i y s2 h;rw[mN xs s2]
  ·rfl
end
mutual
theorem Eb:∀(x:AV) (s:br),snap (real call loop) s x=snap (real call' loop') s x
 | .emp,s=>rfl
 | .arr r sz g u,s=>by simp only[snap,nI (call:=call) (call':=call') (loop:=loop) (loop':=loop'),wq (call:=call) (call':=call') (loop:=loop) (loop':=loop')]
 | .agg cs,s=>by simp only[snap,kY cs s]
 | .tup cs,s=>rfl
 | .undef,s=>rfl
 | .bare,s=>rfl
 | .d _,s=>rfl
 | .nilp,s=>rfl
 | .ptr _ _,s=>rfl
 | .prow _ _ _ _,s=>rfl
 | .sp _ _,s=>rfl
 | .fn _ _,s=>rfl
theorem kY:∀(xs:List AV) (s:br),jh (real call loop) s xs=jh (real call' loop') s xs
 | [],s=>rfl
 | x::xs,s=>by
  simp only[jh,Eb x s];split
  ·rw[kY xs s]
  ·rfl
end
theorem AW (m:kP) (as:List AV) (s:St):handed (real call loop) m as s=handed (real call' loop') m as s:=by
 cases m with
 | ref=>rfl
 | frz=>exact mN as s
 | pure=>simp only[handed,kY (call:=call) (call':=call') (loop:=loop) (loop':=loop') as s.sto]
 | bor=>simp only[handed,kY (call:=call) (call':=call') (loop:=loop) (loop':=loop') as s.sto]
theorem tv (s:St):∀x:AV,j_ (real call loop) s x=j_ (real call' loop') s x:=by
 intro x;cases x<;>rfl
theorem tw:∀(xs:List AV) (s:St),bQ (real call loop) s xs=bQ (real call' loop') s xs
 | [],s=>rfl
 | x::xs,s=>by
  simp only[bQ,tv (call:=call) (call':=call') (loop:=loop) (loop':=loop') s x];split
  ·rename_i y s2 h;rw[tw xs s2]
  ·rfl
theorem xV (s:St) (sz:gG) (x:AV):qA (real call loop) s sz x=qA (real call' loop') s sz x:=by
 cases x<;>rfl
theorem nK:∀(ps:List (Nat×Option Nat×Nat×gG×Bool)) (s:St),dG (real call loop) ps s=dG (real call' loop') ps s
 | [],s=>rfl
 | (t,none,slot,sz,own)::ps,s=>by
  simp only[dG,nK ps];rfl
 | (t,some c,slot,sz,own)::ps,s=>by
  simp only[dG,nK ps];rfl
theorem jr:∀(ps:List (Nat×Option Nat×Nat)) (s:St),homes (real call loop) ps s=homes (real call' loop') ps s
 | [],s=>rfl
 | (t,none,0)::ps,s=>by
  simp only[homes,jr ps,Ak,fz];rfl
 | (t,none,slot+1)::ps,s=>by
  simp only[homes,jr ps];rfl
 | (t,some c,slot)::ps,s=>by
  simp only[homes,jr ps];rfl
theorem zy (r:Id) (s:St):ia (real call loop) r s=ia (real call' loop') r s:=rfl
theorem xW (s:St) (dst:Option Nat) (sz:gG) (bytes:Nat) (x y:VX):sV (real call loop) s dst sz bytes x y=sV (real call' loop') s dst sz bytes x y:=by
 unfold sV;simp only[xV (call:=call) (call':=call') (loop:=loop) (loop':=loop'),tv (call:=call) (call':=call') (loop:=loop) (loop':=loop')];rfl
theorem oZ (x:VX) (s:St):jP (real call loop) x s=jP (real call' loop') x s:=rfl
theorem zA (s:St) (n:Nat) (p x:AV):storeAt (real call loop) s n p x=storeAt (real call' loop') s n p x:=by
 unfold storeAt;simp only[mN (call:=call) (call':=call') (loop:=loop) (loop':=loop'),tw (call:=call) (call':=call') (loop:=loop) (loop':=loop')];rfl
theorem ud (env:List AV) (s:br) (op:lZ):evalOp (real call loop) env s op=evalOp (real call' loop') env s op:=by
 cases op<;>rfl
variable (hc:∀f as cs c,call f as cs=some c->call' f as cs=some c) (hl:∀k s r,loop k s=some r->loop' k s=some r)
include hc in
theorem uf {f:FuncId} {m:kP} {raw:Bool} {as:List AV} {dst:Option Nat} {s:St} {r:AV×St} (e:cX (real call loop) f m raw as dst s=some r):cX (real call' loop') f m raw as dst s=some r:=by
 unfold cX at e |-;rw[kY (call':=call') (loop':=loop')]at e;cases m with
 | bor=>
  simp only at e |-;split at e
  ·cases e
  rename_i as' h1;split at e
  ·cases e
  rename_i h2;split at e
  ·cases e
  rename_i c h3;have h4:(real call' loop').call f as' []=some c:=hc f as' [] c h3;simp only[h1,h2,h4];rw[nJ (call':=call') (loop':=loop')]at e;exact e
 | _=>
  simp only at e |-;rw[AW (call':=call') (loop':=loop')]at e;split at e
  ·cases e
  rename_i hp;split at e
  ·cases e
  rename_i as' s2 h1;split at e
  ·cases e
  rename_i ids h2;split at e
  ·cases e
  rename_i c h3;have h4:=hc _ _ _ _ h3;have h5:(real call' loop').call f (AV.nu (λr=>(1,idx ids r)) as') (ids.map λr=>(s2.sto.get r).map (·.map λr=>(1,idx ids r)))=some c:=h4;simp only[hp,h1,h2,h5];exact e
include hc in
theorem Ec {s:St} {dst:Option Nat} {op:lZ} {r:AV×St} (e:aI (real call loop) s dst op=some r):aI (real call' loop') s dst op=some r:=by
 by_cases hq:gN op=true
 ·rw[iz hq]at e |-;rw[ud (call':=call') (loop':=loop')]at e;exact e
 ·cases op<;>first
   | (exact (hq rfl).elim)
   | (simp only[aI]at e |-;rw[ud (call':=call') (loop':=loop')]at e;exact e)
   | (simp only[aI,zA (call:=call) (call':=call') (loop:=loop) (loop':=loop')]at e |-;exact e)
   | (simp only[aI]at e |-;exact e)
   | (simp only[aI]at e |-;rw[xW (call':=call') (loop':=loop')]at e;exact e)
   | (simp only[aI,zy (call:=call) (call':=call') (loop:=loop) (loop':=loop'),xW (call:=call) (call':=call') (loop:=loop) (loop':=loop')]at e |-;exact e)
   | (simp only[aI]at e;cases e)
   | (simp only[aI,tw (call:=call) (call':=call') (loop:=loop) (loop':=loop')]at e |-;exact e)
   | (simp only[aI,xV (call:=call) (call':=call') (loop:=loop) (loop':=loop'),tv (call:=call) (call':=call') (loop:=loop) (loop':=loop')]at e |-;exact e)
   | (simp only[aI,mN (call:=call) (call':=call') (loop:=loop) (loop':=loop')]at e |-;exact e)
   | (
    simp only[aI]at e |-;rw[oZ (call':=call') (loop':=loop')]at e;split at e
    case h_2=>cases e
    case h_1 s1 h1=>
     split at e
     case h_2=>cases e
     case h_1 as h2=>exact uf hc e)
   | (
    simp only[aI]at e |-;split at e; · exact uf hc e
    ·cases e)
   | (simp only[aI,nI (call:=call) (call':=call') (loop:=loop) (loop':=loop')]at e |-;exact e)
include hc in
theorem ja:∀{l:List a_} {s s':St},aY (real call loop) l s=some s'->aY (real call' loop') l s=some s'
 | [],s,s',e=>e
 | v::l,
      s,s',e=>by
  rw[bO]at e |-;split at e
  case h_2=>cases e
  case h_1 s1 hs1=>
   have:dM (real call' loop') v s=some s1:=by
    unfold dM at hs1 |-;split at hs1
    ·split at hs1
     case h_2=>cases hs1
     case h_1 u s2 hd=>
      rw[Ec hc hd];exact hs1
    ·exact hs1
    ·cases hs1
   rw[this];exact ja e
include hc hl in
theorem tA:∀{c:VC} {s:St} {r:Out×St},exec (real call loop) c s=some r->exec (real call' loop') c s=some r:=by
 intro c;induction c with
 | skip=>intro s r e;exact e
 | reg ops=>
  intro s r e;simp only[exec]at e |-;split at e
  case h_2=>cases e
  case h_1 s1 hs1=>rw[ja hc hs1];exact e
 | regL ops x=>
  intro s r e;simp only[exec]at e |-;split at e
  case h_2=>cases e
  case h_1 s1 hs1=>
   rw[ja hc hs1];simp only;rw[oZ (call':=call') (loop':=loop')]at e;exact e
 | regP ops ps=>
  intro s r e;simp only[exec]at e |-;split at e
  case h_2=>cases e
  case h_1 s1 hs1=>
   rw[ja hc hs1];simp only;rw[jr (call':=call') (loop':=loop')]at e;exact e
 | regD π ops x ps=>
  intro s r e;simp only[exec]at e |-;split at e
  case h_2=>cases e
  case h_1 s1 hs1=>
   rw[ja hc hs1];simp only;cases x with
   | none=>
    change (match homes (real call loop) ps s1 with | some s=>some (Out.norm,s) | none=>none)=some r at e;rw[jr (call':=call') (loop':=loop')]at e;exact e
   | some x=>
    change (match jP (real call loop) x s1 with | some s=>(match homes (real call loop) ps s with | some s=>some (Out.norm,s) | none=>none) | none=>none)=some r at e;rw[oZ (call':=call') (loop':=loop')]at e;change (match jP (real call' loop') x s1 with | some s=>(match homes (real call' loop') ps s with | some s=>some (Out.norm,s) | none=>none) | none=>none)=some r;split at e
    ·rw[jr (call':=call') (loop':=loop')]at e;exact e
    ·cases e
 | clone x y c b m t dst sz bytes agg zero=>intro s r e;exact e
 | seq a b iha ihb=>
  intro s r e;simp only[exec]at e |-;split at e
  ·rename_i s1 hs1;rw[iha hs1];exact ihb e
  ·rename_i x hx;rw[iha e];obtain ⟨out,s'⟩:=r;cases out with
   | norm=>exact (hx s' e).elim
   | ret=>rfl
   | exit id=>rfl
 | cond c a b iha ihb=>
  intro s r e;simp only[exec]at e |-;split at e
  case h_2=>cases e
  case h_1 t ht=>
   cases t with
   | true=>exact iha e
   | false=>exact ihb e
 | block id c ih=>
  intro s r e;simp only[exec]at e |-;split at e
  ·rename_i k s1 hs1;rw[ih hs1];exact e
  ·rename_i x hx;rw[ih e];obtain ⟨out,s'⟩:=r;cases out with
   | norm=>rfl
   | ret=>rfl
   | exit id'=>exact (hx id' s' e).elim
 | loop prom le ls key=>
  intro s r e;simp only[exec]at e |-;split at e
  case h_2=>cases e
  case h_1 s1 hs1=>
   rw[nK (call':=call') (loop':=loop')]at hs1;rw[hs1];exact hl key _ r e
 | exit id=>intro s r e;exact e
 | ret=>intro s r e;exact e
include hc hl in
theorem wu {T:Nat->Option VL} {k:Nat} {s:St} {r:Out×St} (e:tT (real call loop) T k s=some r):tT (real call' loop') T k s=some r:=by
 unfold tT at e |-;split at e
 ·cases e
 rename_i l ht;split at e
 ·rename_i s1 hs1;rw[tA hc hl hs1];exact hl k _ r e
 ·rename_i out1 s1 hne hs1;rw[tA hc hl hs1];cases out1 with
  | norm=>exact (hne rfl).elim
  | ret=>exact e
  | exit id'=>exact e
 ·cases e
theorem o_ {s:St}:∀{r:List (Sum Nat (Nat×Bool×Nat))},kS (real call loop) s r=kS (real call' loop') s r
 | []=>rfl
 | .inl t::l=>by simp only[kS,o_ (r:=l)]
 | .inr (t,agg,n)::l=>by
  simp only[kS,o_ (r:=l)];rfl
include hc hl in
theorem wz {F:FuncId->Option (VF×Bool)} {f:FuncId} {as:List AV} {cs:List (Option Obj)} {c:bW} (e:tU (real call loop) F f as cs=some c):tU (real call' loop') F f as cs=some c:=by
 unfold tU at e |-;split at e
 ·cases e
 rename_i vf raw hf;simp only at e |-;split at e
 ·cases e
 rename_i hlen;rw[if_neg hlen];split at e
 ·cases e
 ·cases e
 rename_i out s1 hne hex;rw[tA hc hl hex];rw[o_ (call':=call') (loop':=loop')]at e;have hb:∀v s,oO (real call loop) raw v s=oO (real call' loop') raw v s:=λv s=>by
  cases raw with
  | true=>rfl
  | false=>exact Dn v s
 simp only[hb]at e;cases out with
 | norm=>exact e
 | ret=>exact e
 | exit id=>exact (hne id rfl).elim
end
end
mutual
inductive jF (F:FuncId->Option (VF×Bool)) (T:Nat->Option VL):FuncId->List AV->List (Option Obj)->bW->Prop
 | mk (call:cM) (loop:cN) (hc:∀f as cs c,call f as cs=some c->jF F T f as cs c) (hl:∀k s r,loop k s=some r->jW F T k s r)
  (f:FuncId) (as:List AV) (cs:List (Option Obj)) (c:bW) (e:tU (real call loop) F f as cs=some c):jF F T f as cs c
inductive jW (F:FuncId->Option (VF×Bool)) (T:Nat->Option VL):Nat->St->Out×St->Prop
 | mk (call:cM) (loop:cN) (hc:∀f as cs c,call f as cs=some c->jF F T f as cs c) (hl:∀k s r,loop k s=some r->jW F T k s r)
  (k:Nat) (s:St) (r:Out×St) (e:tT (real call loop) T k s=some r):jW F T k s r
end
def GI (P:Program) (f:FuncId) (as:List AV) (cs:List (Option Obj)) (c:bW):Prop:=
 iZ P (wS f)=true/\∀(vs:Array Value) (w:World) (L:Loc) (Z:Nat->Prop),RS ⟨as,[[],cs]⟩ ⟨vs,[]⟩ w L Z->
  ∀Q:Ending->World->Prop,(∀v w' L' Z',RS ⟨[c.ret],[c.extra,c.pars]⟩ ⟨#[v],[]⟩ w' L' Z'->Tr 1 [[],cs] [c.extra,c.pars] w w' L L' Z Z'->Q (.returned v) w')->Calls P (wS f) vs w Q
def Mj (P:Program) (T:Nat->Option VL) (key:Nat) (s:St) (r:Out×St):Prop:=
 ∀l,T key=some l->∀(np:Nat) (c:Code),xT P T np c l.body=true->∀a w L Z,RS s a w L Z->∀Q:Exit->Act->World->Prop,
  (∀a' w' L' Z',RS r.2 a' w' L' Z'->Tr np s.sto r.2.sto w w' L L' Z Z'->Q (wm r.1) a' w')->c.wp P (Exit.then (xU P c Q) Q) a w
section
variable {P:Program} {F:FuncId->Option (VF×Bool)} {T:Nat->Option VL}
mutual
theorem jF.ok (hmix:P.follows .mixedOrders=true) (hF:∀f vf raw,F f=some (vf,raw)->okF P T f vf=true):∀{f as cs c},jF F T f as cs c->GI P f as cs c
 | _,_,_,_,.mk call loop hc hl f as cs c e=>
  GH hmix (λf as cs c h=>jF.ok hmix hF (hc f as cs c h)) (λk s out s' h=>jW.ok hmix hF (hl k s (out,s') h)) hF f as cs c e
theorem jW.ok (hmix:P.follows .mixedOrders=true) (hF:∀f vf raw,F f=some (vf,raw)->okF P T f vf=true):∀{k s r},jW F T k s r->Mj P T k s r
 | _,_,_,.mk call loop hc hl k s (out,s') e=>
  GD hmix (λf as cs c h=>jF.ok hmix hF (hc f as cs c h)) (λk s out s' h=>jW.ok hmix hF (hl k s (out,s') h)) k s out s' e
end
def KJ (c1 c2:cM):cM:=λf as cs=>match c1 f as cs with
 | some c=>some c
 | none=>c2 f as cs
def KL (l1 l2:cN):cN:=λk s=>match l1 k s with
 | some r=>some r
 | none=>l2 k s
mutual
theorem jF.Mk:∀{f as cs c},jF F T f as cs c->∀c',jF F T f as cs c'->c=c'
 | _,_,_,_,.mk call loop hc hl f as cs c e,c',.mk call' loop' hc' hl' _ _ _ _ e'=>by
  have m1:∀f as cs c,call f as cs=some c->KJ call call' f as cs=some c:=λf as cs c h=>by simp only[KJ,h]
  have m2:∀k s r,loop k s=some r->KL loop loop' k s=some r:=λk s r h=>by simp only[KL,h]
  have n1:∀f as cs c,call' f as cs=some c->KJ call call' f as cs=some c:=λf as cs c h=>by
   unfold KJ;split
   ·rename_i c2 h2;rw[jF.Mk (hc f as cs c2 h2) c (hc' f as cs c h)]
   ·exact h
  have n2:∀k s r,loop' k s=some r->KL loop loop' k s=some r:=λk s r h=>by
   unfold KL;split
   ·rename_i r2 h2;rw[jW.Mk (hl k s r2 h2) r (hl' k s r h)]
   ·exact h
  have a1:=wz m1 m2 e;have a2:=wz n1 n2 e';rw[a1]at a2;injection a2
theorem jW.Mk:∀{k s r},jW F T k s r->∀r',jW F T k s r'->r=r'
 | _,_,_,.mk call loop hc hl k s r e,r',.mk call' loop' hc' hl' _ _ _ e'=>by
  have m1:∀f as cs c,call f as cs=some c->KJ call call' f as cs=some c:=λf as cs c h=>by simp only[KJ,h]
  have m2:∀k s r,loop k s=some r->KL loop loop' k s=some r:=λk s r h=>by simp only[KL,h]
  have n1:∀f as cs c,call' f as cs=some c->KJ call call' f as cs=some c:=λf as cs c h=>by
   unfold KJ;split
   ·rename_i c2 h2;rw[jF.Mk (hc f as cs c2 h2) c (hc' f as cs c h)]
   ·exact h
  have n2:∀k s r,loop' k s=some r->KL loop loop' k s=some r:=λk s r h=>by
   unfold KL;split
   ·rename_i r2 h2;rw[jW.Mk (hl k s r2 h2) r (hl' k s r h)]
   ·exact h
  have a1:=wu m1 m2 e;have a2:=wu n1 n2 e';rw[a1]at a2;injection a2
end
open Classical in
noncomputable def Dp (F:FuncId->Option (VF×Bool)) (T:Nat->Option VL) (f:FuncId) (as:List AV) (cs:List (Option Obj)):Option bW:=if h:∃c,jF F T f as cs c then some h.choose else none
open Classical in
noncomputable def Dq (F:FuncId->Option (VF×Bool)) (T:Nat->Option VL) (k:Nat) (s:St):Option (Out×St):=if h:∃r,jW F T k s r then some h.choose else none
theorem pQ {f as cs c}:Dp F T f as cs=some c↔jF F T f as cs c:=by
 unfold Dp;constructor
 ·intro h;split at h
  ·rename_i hh;injection h with h;rw[<-h];exact hh.choose_spec
  ·cases h
 ·intro h;have hh:∃c,jF F T f as cs c:=⟨c,h⟩
  rw[dif_pos hh,jF.Mk hh.choose_spec c h]
theorem tC {k s r}:Dq F T k s=some r↔jW F T k s r:=by
 unfold Dq;constructor
 ·intro h;split at h
  ·rename_i hh;injection h with h;rw[<-h];exact hh.choose_spec
  ·cases h
 ·intro h;have hh:∃r,jW F T k s r:=⟨r,h⟩
  rw[dif_pos hh,jW.Mk hh.choose_spec r h]
def aR (F:FuncId->Option (VF×Bool)) (T:Nat->Option VL) (o:aJ):Prop:=o=real (Dp F T) (Dq F T)
variable {o:aJ} (ho:aR F T o)
include ho
theorem aR.au {f as cs c} (e:tU o F f as cs=some c):o.call f as cs=some c:=by
 rw[ho]at e |-;exact pQ.2 (.mk _ _ (λ_ _ _ _ h=>pQ.1 h) (λ_ _ _ h=>tC.1 h) f as cs c e)
theorem aR.aB {k s r} (e:tT o T k s=some r):o.loop k s=some r:=by
 rw[ho]at e |-;exact tC.2 (.mk _ _ (λ_ _ _ _ h=>pQ.1 h) (λ_ _ _ h=>tC.1 h) k s r e)
theorem aR.ok (hmix:P.follows .mixedOrders=true) (hF:∀f vf raw,F f=some (vf,raw)->okF P T f vf=true) {f as cs c} (e:o.call f as cs=some c):GI P f as cs c:=by
 rw[ho]at e;exact jF.ok hmix hF (pQ.1 e)
theorem aR.ar:o.ar=Ei:=by rw[ho];rfl
theorem aR.wrap:o.wrap=λk n=>k.wrap n:=by rw[ho];rfl
theorem aR.plus (a b:Int):o.plus a b=a+b:=by rw[ho];rfl
theorem aR.minus (a b:Int):o.minus a b=a-b:=by rw[ho];rfl
theorem aR.cmp (op:BinOp) (a b:Int):o.cmp op a b=qJ op a b:=by rw[ho];rfl
theorem aR.isZero (a:Int):o.isZero a=decide (a=0):=by rw[ho];rfl
theorem aR.gM (op:BinOp) (a b:ByteArray):o.gM op a b=uh op a b:=by rw[ho];rfl
theorem aR.yT (a b:ByteArray):o.yT a b=a++b:=by rw[ho];rfl
theorem aR.sLen (a:ByteArray):o.sLen a=a.size:=by rw[ho];rfl
theorem aR.len (xs:List D):o.len xs=xs.length:=by rw[ho];rfl
theorem aR.dD (xs:List D) (i:Int):o.dD xs i=zE xs i:=by rw[ho];rfl
theorem aR.sub (xs:List D) (a n:Int):o.sub xs a n=zD xs a n:=by rw[ho];rfl
theorem aR.app (xs ys:List D):o.app xs ys=xs++ys:=by rw[ho];rfl
theorem aR.qz (n:Int) (x:D):o.qz n x=List.replicate n.toNat x:=by rw[ho];rfl
theorem aR.fF (b:Nat) (n:Int):o.fF b n=decide (0<=n/\n*b<=140737488355328/\n<=9223372036854775807):=by rw[ho];rfl
theorem aR.set (xs:List D) (i:Int) (x:D):o.set xs i x=xs.set i.toNat x:=by rw[ho];rfl
end
section
section
variable {P:Program} {H:Type} {enc:TypeId×Value->H} {w:World} {spare:Nat->Bool} {held:Bool}
def bY (P:Program) (t:TypeId):Bool:=match P.underlying t with
 | some (.struct _)=>true
 | _=>false
def Fits (P:Program):Nat->TypeId->List D->Prop
 | 0,_,_=>False
 | n+1,t,ds=>match P.underlying t with
  | some .bool=>∃b,ds=[.bool b]
  | some (.int k)=>∃i,ds=[.int k i]/\(Lit.int k i).wf=true
  | some .string=>∃s:ByteArray,ds=[.str s]/\s.size<=maxLen
  | some (.slice e)=>∃xs,ds=[.lst xs]/\xs.length<=maxLen/\∀x∈xs,Fits P n e x.cells/\x.many=bY P e
  | some (.struct fs)=>ds.length=P.cellsOf t/\∀f∈fs.toList,Fits P n f.type ((ds.drop f.offset).take (P.cellsOf f.type))
  | _=>False
def kZ (P:Program):List Field->Nat->Nat->Bool
 | [],off,total=>off==total
 | f::fs,off,total=>f.offset==off&&kZ P fs (off+P.cellsOf f.type) total
def wA (P:Program) (S:List TypeId):Bool:=S.all λt=>match P.underlying t with
 | some .bool=>true
 | some (.int _)=>true
 | some .string=>true
 | some (.slice e)=>S.contains e&&decide (0<P.cellsOf e)
 | some (.struct fs)=>kZ P fs.toList 0 (P.cellsOf t)&&fs.toList.all λf=>S.contains f.type
 | _=>false
theorem ug {α:Type} {Q:Nat->α->Prop}:∀n,(∀i,i<n->∃x,Q i x)->∃xs:List α,xs.length=n/\∀i x,xs[i]? =some x->Q i x
 | 0,_=>⟨[],rfl,by simp⟩
 | n+1,h=>by
  obtain ⟨xs,h1,h2⟩:=ug n λi hi=>h i (by omega)
  obtain ⟨x,hx⟩:=h n (by omega);refine ⟨xs++[x],by simp[h1],λi y hy=> ?_⟩;rw[List.getElem?_append]at hy;split at hy
  ·exact h2 i y hy
  ·rename_i hlt;have:i=n:=by
    have:=(aq.1 hy).1;simp at this;omega
   subst this;simp[h1]at hy;subst hy;exact hx
theorem AX:∀{fs:List Field} {off total:Nat},kZ P fs off total=true->off<=total
 | [],off,total,h=>by simp[kZ]at h;omega
 | f::fs,off,total,h=>by
  simp only[kZ,af,beq_iff_eq]at h;have:=AX h.2;omega
theorem wB {Z:Nat->Prop}:∀{ds es:List D} {cs vs:List Value},fk w Z ds cs->fk w Z es vs->fk w Z (ds++es) (cs++vs)
 | [],es,cs,vs,h,k=>by simp only[fk]at h;subst h;exact k
 | d::ds,es,cs,vs,h,k=>by
  simp only[fk]at h;obtain ⟨v,cs',rfl,h1,h2⟩:=h;simp only[List.cons_append,fk];exact ⟨v,cs'++vs,rfl,h1,wB h2 k⟩
theorem Oh {Z:Nat->Prop} {n:Nat} {cs:List Value}:∀{fs:List Field} {off:Nat},kZ P fs off cs.length=true->(∀f∈fs,∃ds,fk w Z ds ((cs.drop f.offset).take (P.cellsOf f.type))/\Fits P n f.type ds)->
  ∃ds,fk w Z ds (cs.drop off)/\∀f∈fs,off<=f.offset/\Fits P n f.type ((ds.drop (f.offset-off)).take (P.cellsOf f.type))
 | [],off,h,_=>by
  simp[kZ]at h;refine ⟨[],?_,by simp⟩;rw[h];simp[fk]
 | f::fs,off,h,hf=>by
  simp only[kZ,af,beq_iff_eq]at h;obtain ⟨h1,h2⟩:=h;obtain ⟨d1,k1,k2⟩:=hf f (by simp);obtain ⟨ds,m1,m2⟩:=Oh h2 λg hg=>hf g (by simp[hg])
  have hle:=AX h2;rw[h1]at k1;have hl:d1.length=P.cellsOf f.type:=by
   rw[(eC.1 k1).1,List.length_take,List.length_drop];omega
  refine ⟨d1++ds,?_,λg hg=> ?_⟩
  ·have e:cs.drop off=(cs.drop off).take (P.cellsOf f.type)++cs.drop (off+P.cellsOf f.type):=by
    rw[<-List.drop_drop,List.take_append_drop]
   rw[e];exact wB k1 m1
  ·rcases List.mem_cons.1 hg with rfl | hg
   ·refine ⟨by omega,?_⟩;rw[h1,Nat.sub_self,List.drop_zero,<-hl,List.take_left];exact k2
   ·obtain ⟨p1,p2⟩:=m2 g hg;refine ⟨by omega,?_⟩;have:g.offset-off=d1.length+(g.offset-(off+P.cellsOf f.type)):=by omega
    rw[this,List.drop_length_add_append];exact p2
theorem Ed {S:List TypeId} (hS:wA P S=true):∀(fuel:Nat) (t:TypeId) (cs:List Value) (x:DataW H×List MemPlace),t∈S->DataW.trod enc P w 0 spare held fuel t cs=some x->
  ∃ds,fk w (λb=>b<w.heap.size) ds cs/\Fits P fuel t ds:=by
 intro fuel;induction fuel with
 | zero=>intro t cs x _ h;simp[DataW.trod]at h
 | succ n ih=>
  intro t cs x ht h;have hp:=List.all_eq_true.1 hS t ht;cases hu:P.underlying t with
  | none=>simp[hu]at hp
  | some d=>
   simp only[hu]at hp;cases d with
   | bool=>
    obtain ⟨b,rfl,_⟩:=DataW.trod_bool hu h;exact ⟨[.bool b],by simp[fk,RD],by simp[Fits,hu]⟩
   | int k=>
    obtain ⟨i,rfl,_,hw⟩:=DataW.trod_int hu h;exact ⟨[.int k i],by simp[fk,RD],by simp only[Fits,hu];exact ⟨i,rfl,hw⟩⟩
   | string=>
    obtain ⟨s,rfl,_,hs⟩:=DataW.trod_string hu h;exact ⟨[.str s],by simp[fk,RD],by simp only[Fits,hu];exact ⟨s,rfl,hs⟩⟩
   | slice e=>
    simp only[af,decide_eq_true_eq]at hp;obtain ⟨he,hpos⟩:=hp;have he':e∈S:=by simpa using he
    rcases DataW.trod_slice hu h with ⟨rfl,_⟩ | ⟨a,len,cap,elems,rest,m,hm,rfl,_,_,hl,hmx,hlen,hel,_⟩
    ·refine ⟨[.lst []],?_,by simp only[Fits,hu];exact ⟨[],rfl,by simp[maxLen],by simp⟩⟩;simp only[fk,RD];exact ⟨_,[],rfl,⟨none,0,rfl,Nat.le_refl _,.inl trivial⟩,rfl⟩
    ·have hmn:m=n:=by omega
     subst hmn;have key:∀i,i<len->∃y:D,(∃vs,vs.length=P.cellsOf e/\RD w (λb=>b<w.heap.size) y vs/\∀j v,vs[j]? =some v->w.cell? ⟨a.block,a.off+i*P.cellsOf e+j,none⟩=some v)/\Fits P m e y.cells/\y.many=bY P e:=by
      intro i hi;have h1:=hel i hi;obtain ⟨z,hz⟩:∃z,elems[i]? =some z:=⟨_,bg (by omega)⟩
      rw[hz,Option.bind_eq_some_iff]at h1;obtain ⟨vs,hvs,hz'⟩:=h1;obtain ⟨ds,d1,d2⟩:=ih e vs z he' hz';obtain ⟨_,hvl,hvc⟩:=World.cells?_some hvs;have hcell:∀j v,vs[j]? =some v->w.cell? ⟨a.block,a.off+i*P.cellsOf e+j,none⟩=some v:=by
       intro j v hj;have hjl:j<P.cellsOf e:=by rw[<-hvl];exact (aq.1 hj).1
       have:=hvc j hjl;rw[hj]at this;have ha:(a.add (i*P.cellsOf e)).add j=⟨a.block,a.off+i*P.cellsOf e+j,none⟩\/((a.add (i*P.cellsOf e)).add j).spot.isSome=true:=by
        unfold Addr.add;by_cases h1:i*P.cellsOf e=0
        ·by_cases h2:j=0
         ·cases hsp:a.spot with
          | none=>left;simp[h1,h2];cases a;simp at hsp |-;exact hsp
          | some sp=>right;simp[h1,h2,hsp]
         ·left;simp[h1,h2]
        ·by_cases h2:j=0
         ·left;simp[h1,h2]
         ·left;simp[h1,h2]
       rcases ha with ha | ha
       ·rw[<-ha];exact this
       ·exfalso;unfold World.cell? at this;rw[ha]at this;split at this<;>simp at this
      have hrl:=(eC.1 d1).1;cases hag:bY P e with
      | true=>exact ⟨.agg ds,⟨vs,hvl,by simpa only [RD]using d1,hcell⟩,d2,by simp[D.many]⟩
      | false=>
       have hone:∃y:D,ds=[y]/\y.many=false:=by
        cases m with
        | zero=>simp[Fits]at d2
        | succ m'=>
         simp only[Fits]at d2;unfold bY at hag;split at d2
         ·obtain ⟨b,rfl⟩:=d2;exact ⟨_,rfl,rfl⟩
         ·obtain ⟨b,rfl,_⟩:=d2;exact ⟨_,rfl,rfl⟩
         ·obtain ⟨b,rfl,_⟩:=d2;exact ⟨_,rfl,rfl⟩
         ·obtain ⟨b,rfl,_⟩:=d2;exact ⟨_,rfl,rfl⟩
         ·rename_i hst;rw[hst]at hag;cases hag
         ·exact d2.elim
       obtain ⟨y,rfl,hy⟩:=hone;have hyc:y.cells=[y]:=by cases y<;>first | rfl | simp[D.many]at hy
       refine ⟨y,⟨vs,hvl,?_,hcell⟩,by rw[hyc];exact d2,hy⟩;simp only[fk]at d1;obtain ⟨v,vs',rfl,q1,rfl⟩:=d1;exact q1
     obtain ⟨xs,x1,x2⟩:=ug len key;refine ⟨[.lst xs],?_,?_⟩
     ·simp only[fk,RD];refine ⟨_,[],rfl,⟨some a,cap,by rw[x1],by omega,?_⟩,rfl⟩;by_cases hx0:xs=[]
      ·exact .inl hx0
      ·right;have hpos':=List.length_pos_iff.2 hx0;obtain ⟨y0,hy0⟩:∃y0,xs[0]? =some y0:=⟨_,bg hpos'⟩
       have hspot:a.spot=none:=by
        have h1:=hel 0 (by omega);obtain ⟨z,hz⟩:∃z,elems[0]? =some z:=⟨_,bg (by omega)⟩
        rw[hz,Option.bind_eq_some_iff]at h1;obtain ⟨vs,hvs,_⟩:=h1;obtain ⟨_,hvl,hvc⟩:=World.cells?_some hvs;have:=hvc 0 hpos;cases hsp:a.spot with
        | none=>rfl
        | some sp=>
         exfalso;have e1:(a.add (0*P.cellsOf e)).add 0=a:=by simp[Addr.add]
         rw[e1]at this;have hv0:(vs[0]?).isSome:=by simp;omega
         rw[<-this]at hv0;unfold World.cell? at hv0;rw[hsp]at hv0;split at hv0<;>simp at hv0
       refine ⟨a.block,a.off,P.cellsOf e,by cases a;simp at hspot |-;exact hspot,?_,eW.2 λi y hy=>(x2 i y hy).1⟩;obtain ⟨⟨vs,v1,_,v3⟩,_⟩:=x2 0 y0 hy0;have:(vs[0]?).isSome:=by simp;omega
       obtain ⟨v,hv⟩:=Option.isSome_iff_exists.1 this;have hc:=v3 0 v hv;unfold World.cell? at hc;split at hc
       ·rename_i hb;exact (Array.getElem?_eq_some_iff.1 hb).1
       ·cases hc
     ·simp only[Fits,hu];refine ⟨xs,rfl,by omega,λy hy=> ?_⟩;obtain ⟨i,hi⟩:=List.getElem?_of_mem hy;exact (x2 i y hi).2
   | struct fs=>
    simp only[af]at hp;obtain ⟨hp1,hp2⟩:=hp;obtain ⟨xs,m,hm,_,hlen,hxl,hf⟩:=DataW.trod_struct hu h;have hmn:m=n:=by omega
    subst hmn;rw[<-hlen]at hp1;obtain ⟨ds,d1,d2⟩:=Oh (P:=P) (n:=m) (cs:=cs) (w:=w) (Z:=λb=>b<w.heap.size) hp1 λf hfm=>by
     obtain ⟨i,hi⟩:=List.getElem?_of_mem hfm;have hi':fs[i]? =some f:=by simpa using hi
     have h1:=hf i f hi';obtain ⟨z,hz⟩:∃z,xs[i]? =some z:=⟨_,bg (by rw[hxl];exact (Array.getElem?_eq_some_iff.1 hi').1)⟩
     rw[hz]at h1;exact ih f.type _ z (by simpa using List.all_eq_true.1 hp2 f hfm) h1
    rw[List.drop_zero]at d1;refine ⟨ds,d1,?_⟩;simp only[Fits,hu];refine ⟨by rw[(eC.1 d1).1,hlen],λf hfm=> ?_⟩;have:=(d2 f hfm).2;simpa using this
   | _=>simp at hp
end
end
end Go.Vi
