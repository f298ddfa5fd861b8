import Derived.Test.YtfnagkpidcdocaaGreatM06
import Derived.Lib.AppendZeros
import Derived.Laws.CopyRow
set_option linter.all false
namespace Go.Vi
open Go Go.RowKit
section
variable {P:Program} {call:FuncId->List AV->List (Option Obj)->Option bk} {loop:Nat->St->Option (Out×St)}
variable {s:St} {a:Act} {w w':World} {L L':Loc} {Z Z':Nat->Prop}
theorem RS.more (h:RS s a w L Z) (np:Nat) (hk:∀b,b<w.heap.size->w'.heap[b]? =w.heap[b]?) (hsz:w.heap.size<=w'.heap.size) (hos:w'.os=w.os) (htp:w'.tape=w.tape) (hop:w'.output=w.output):
  RS s a w' L Z/\Tr np s.sto s.sto w w' L L Z Z:=by
 have hz:jA w w' Z Z:=fun b hb=>⟨hb,hk b (h.dis b hb).1⟩
 have hs:∀q,(s.sto.get q).isSome->Same (aF w Z L s.sto) (aF w' Z L s.sto) q:=fun q hq=>by
  obtain ⟨ob,ho⟩:=Option.isSome_iff_exists.1 hq;exact ⟨rfl,fun k=>k,fun sz xs k=>⟨xs,k,rfl⟩,fun b hb _=>dh (hk b (h.block_lt ho hb))⟩
 refine ⟨⟨h.defers,ct (c:=aF w Z L s.sto) (c':=aF w' Z L s.sto) hz _ _ (fun q hq=>hs q (dF _ _ h.env q hq)) h.env,fun r ob hr=> ?_,h.injH,fun b hb=>⟨Nat.lt_of_lt_of_le (h.dis b hb).1 hsz,(h.dis b hb).2⟩⟩,
  ⟨hos,htp,hop,hsz,fun b hb _=>hk b hb,fun _ h=> .inl h,fun _ h=>h,fun _ h=> .inl h,fun _ _=>rfl,fun q _ hq=>⟨hq,hs q hq⟩⟩⟩
 exact iJ (c:=aF w Z L s.sto) (c':=aF w' Z L s.sto) hz rfl rfl (fun b hb=>hk b (h.eY hr hb)) (fun q hq=>hs q (jK (h.obj r ob hr) q hq)) (h.obj r ob hr)
mutual
theorem D9 {s:bF}:∀(x x':AV),x.refs=[]->snap (real call loop) s x=some x'->x'.refs=[]
 | .emp,x',_,e=>by simp only [snap]at e;injection e with e;subst e;rfl
 | .arr r sz g u,x',h,e=>by simp [AV.refs]at h
 | .agg cs,x',h,e=>by
  simp only [snap]at e;split at e
  case h_2=>cases e
  case h_1 ds hc=>
   injection e with e;subst e;simp only [AV.refs]at h |-;exact kg cs ds h hc
 | .undef,x',h,e=>by simp only [snap]at e;injection e with e;subst e;exact h
 | .bare,x',h,e=>by simp only [snap]at e;injection e with e;subst e;exact h
 | .d _,x',h,e=>by simp only [snap]at e;injection e with e;subst e;exact h
 | .tup _,x',h,e=>by simp only [snap]at e;injection e with e;subst e;exact h
 | .nilp,x',h,e=>by simp only [snap]at e;injection e with e;subst e;exact h
 | .ptr _ _,x',h,e=>by simp only [snap]at e;injection e with e;subst e;exact h
 | .prow _ _ _ _,x',h,e=>by simp only [snap]at e;injection e with e;subst e;exact h
 | .sp _ _,x',h,e=>by simp only [snap]at e;injection e with e;subst e;exact h
 | .fn _ _,x',h,e=>by simp only [snap]at e;injection e with e;subst e;exact h
theorem kg {s:bF}:∀(xs xs':List AV),AV.bO xs=[]->iS (real call loop) s xs=some xs'->AV.bO xs'=[]
 | [],xs',_,e=>by simp only [iS]at e;injection e with e;subst e;rfl
 | x::xs,xs',h,e=>by
  simp only [iS]at e;split at e
  case h_2=>cases e
  case h_1 y hc=>
   split at e
   case h_2=>cases e
   case h_1 ys hc2=>
    injection e with e;subst e;simp only [AV.bO,List.append_eq_nil_iff]at h |-;exact ⟨D9 x y h.1 hc,kg xs ys h.2 hc2⟩
end
mutual
theorem d9 {w:World} {Z Z':Nat->Prop}:∀(x:D) (cs:List Value),gk x=true->RD w Z x cs->RD w Z' x cs
 | .int _ _,cs,_,h=>by simpa only [RD]using h
 | .bool _,cs,_,h=>by simpa only [RD]using h
 | .str _,cs,_,h=>by simpa only [RD]using h
 | .own _ _,cs,_,h=>by simpa only [RD]using h
 | .agg ds,cs,hc,h=>by simp only [RD]at h |-;exact sP ds cs (by simpa only [gk]using hc) h
 | .lst xs,cs,hc,h=>by
  simp only [gk,List.isEmpty_iff]at hc;subst hc;simp only [RD]at h |-;obtain ⟨a,c,h1,h2,_⟩:=h;exact ⟨a,c,h1,h2,.inl trivial⟩
theorem sP {w:World} {Z Z':Nat->Prop}:∀(xs:List D) (cs:List Value),cP xs=true->eR w Z xs cs->eR w Z' xs cs
 | [],cs,_,h=>by simpa only [eR]using h
 | x::xs,cs,hc,h=>by
  simp only [cP,ah]at hc;simp only [eR]at h |-;obtain ⟨v,cs',h1,h2,h3⟩:=h;exact ⟨v,cs',h1,d9 x _ hc.1 h2,sP xs _ hc.2 h3⟩
end
theorem sQ {w:World} {Z Z':Nat->Prop} {b sz:Nat}:∀(xs:List D) (o:Nat),cP xs=true->Rows w Z xs b o sz->Rows w Z' xs b o sz
 | [],o,_,_=>by simp only [Rows]
 | x::xs,o,hc,h=>by
  simp only [cP,ah]at hc;simp only [Rows]at h |-;obtain ⟨⟨cs,h1,h2,h3⟩,h4⟩:=h;exact ⟨⟨cs,h1,d9 x _ hc.1 h2,h3⟩,sQ xs _ hc.2 h4⟩
mutual
theorem xw {w:World} {Z Z':Nat->Prop}:∀(x:D) (v:Value) (F:List Nat),gk x=true->OC w Z x v F->OC w Z' x v F
 | .own sz xs,v,F,hc,h=>by
  simp only [OC]at h |-;obtain ⟨a,c,h1,h2⟩:=h;refine ⟨a,c,h1,h2.imp id ?_⟩;rintro ⟨b,vs,F',e1,e2,e3,e4,e5,e6,e7⟩;exact ⟨b,vs,F',e1,e2,e3,e4,e5,e6,pJ sz.2 xs _ F' (by simpa only [gk]using hc) e7⟩
 | .agg _,_,_,_,h=>by simp [OC]at h
 | .int k n,v,F,hc,h=>by simp only [OC]at h |-;exact ⟨d9 _ _ hc h.1,h.2⟩
 | .bool b,v,F,hc,h=>by simp only [OC]at h |-;exact ⟨d9 _ _ hc h.1,h.2⟩
 | .str s,v,F,hc,h=>by simp only [OC]at h |-;exact ⟨d9 _ _ hc h.1,h.2⟩
 | .lst xs,v,F,hc,h=>by simp only [OC]at h |-;exact ⟨d9 _ _ hc h.1,h.2⟩
theorem vB {w:World} {Z Z':Nat->Prop}:∀(xs:List D) (vs:List Value) (F:List Nat),cP xs=true->lX w Z xs vs F->lX w Z' xs vs F
 | [],vs,F,_,h=>by simpa only [lX]using h
 | d::ds,vs,F,hc,h=>by
  simp only [cP,ah]at hc;simp only [lX]at h |-;obtain ⟨v,vs',F1,F2,h1,h2,h3,h4⟩:=h;exact ⟨v,vs',F1,F2,h1,h2,xw d v F1 hc.1 h3,vB ds vs' F2 hc.2 h4⟩
theorem D_ {w:World} {Z Z':Nat->Prop}:∀(x:D) (vs:List Value) (F:List Nat),gk x=true->OE w Z x vs F->OE w Z' x vs F
 | .agg ds,vs,F,hc,h=>by simp only [OE]at h |-;exact vB ds vs F (by simpa only [gk]using hc) h
 | .own sz xs,vs,F,hc,h=>by simp only [OE]at h |-;obtain ⟨v,h1,h2⟩:=h;exact ⟨v,h1,xw (.own sz xs) v F hc h2⟩
 | .int k n,v,F,hc,h=>by simp only [OE]at h |-;exact ⟨d9 _ _ hc h.1,h.2⟩
 | .bool b,v,F,hc,h=>by simp only [OE]at h |-;exact ⟨d9 _ _ hc h.1,h.2⟩
 | .str s,v,F,hc,h=>by simp only [OE]at h |-;exact ⟨d9 _ _ hc h.1,h.2⟩
 | .lst xs,v,F,hc,h=>by simp only [OE]at h |-;exact ⟨d9 _ _ hc h.1,h.2⟩
theorem pJ {w:World} {Z Z':Nat->Prop} (n:Nat):∀(xs:List D) (vs:List Value) (F:List Nat),cP xs=true->iO w Z n xs vs F->iO w Z' n xs vs F
 | [],vs,F,_,h=>by simpa only [iO]using h
 | x::xs,vs,F,hc,h=>by
  simp only [cP,ah]at hc;simp only [iO]at h |-;obtain ⟨F1,F2,h1,h2,h3,h4⟩:=h;exact ⟨F1,F2,h1,h2,D_ x _ F1 hc.1 h3,pJ n xs _ F2 hc.2 h4⟩
end
mutual
theorem Ea {w:World} {Z Z':Nat->Prop} {L:Loc} {g:Id->Option Obj}:∀(x:AV) (v:Value),eD x=true->RV ⟨w,Z,L,g⟩ x v->RV ⟨w,Z',L,g⟩ x v
 | .d (.int _ _),v,_,h=>by simpa only [RV,RD]using h
 | .d (.bool _),v,_,h=>by simpa only [RV,RD]using h
 | .d (.str _),v,_,h=>by simpa only [RV,RD]using h
 | .d (.lst _),v,hc,_=>by simp [eD]at hc
 | .d (.agg _),v,hc,_=>by simp [eD]at hc
 | .d (.own _ _),v,hc,_=>by simp [eD]at hc
 | .emp,v,_,h=>by simpa only [RV]using h
 | .arr r sz gg u,v,_,h=>by simpa only [RV]using h
 | .agg cs,v,hc,h=>by
  simp only [RV]at h |-;obtain ⟨vs,h1,h2⟩:=h;exact ⟨vs,h1,mG cs vs (by simpa only [eD]using hc) h2⟩
 | .tup cs,v,hc,h=>by
  simp only [RV]at h |-;obtain ⟨vs,h1,h2⟩:=h;exact ⟨vs,h1,mG cs vs (by simpa only [eD]using hc) h2⟩
 | .undef,v,hc,_=>by simp [eD]at hc
 | .bare,v,hc,_=>by simp [eD]at hc
 | .nilp,v,hc,_=>by simp [eD]at hc
 | .ptr _ _,v,hc,_=>by simp [eD]at hc
 | .prow _ _ _ _,v,hc,_=>by simp [eD]at hc
 | .sp _ _,v,hc,_=>by simp [eD]at hc
 | .fn _ _,v,hc,_=>by simp [eD]at hc
theorem mG {w:World} {Z Z':Nat->Prop} {L:Loc} {g:Id->Option Obj}:∀(xs:List AV) (vs:List Value),lG xs=true->dg ⟨w,Z,L,g⟩ xs vs->dg ⟨w,Z',L,g⟩ xs vs
 | [],vs,_,h=>by simpa only [dg]using h
 | x::xs,vs,hc,h=>by
  simp only [lG]at hc;split at hc
  case h_2=>cases hc
  case h_1 h0=>
   simp only [dg]at h |-;obtain ⟨v,vs',h1,h2,h3⟩:=h;exact ⟨v,vs',h1,Ea x v h0 h2,mG xs vs' hc h3⟩
end
theorem vC {X:List (Option Obj)} (h:jd (real call loop) X=true):∀j ob,jg X j=some ob->∃sz xs,cP xs=true/\(ob= .rows sz xs\/ob= .orows sz xs):=by
 induction X with
 | nil=>intro j ob hj;simp [jg]at hj
 | cons o X ih=>
  intro j ob hj;unfold jd at h;split at h
  ·rename_i hh;cases hh
  ·rename_i sz xs l hh;injection hh with h1 h2;subst h1;subst h2;split at h
   case h_2=>cases h
   case h_1 hc=>
    cases j with
    | zero=>simp [jg]at hj;exact ⟨sz,xs,hc,.inl hj.symm⟩
    | succ j=>exact ih h j ob (by simpa [jg]using hj)
  ·rename_i sz xs l hh;injection hh with h1 h2;subst h1;subst h2;split at h
   case h_2=>cases h
   case h_1 hc=>
    cases j with
    | zero=>simp [jg]at hj;exact ⟨sz,xs,hc,.inr hj.symm⟩
    | succ j=>exact ih h j ob (by simpa [jg]using hj)
  ·cases h
theorem Eb {w:World} {Z Z':Nat->Prop} {L:Loc} {g:Id->Option Obj} {r:Id} {ob:Obj} (h:∃sz xs,cP xs=true/\(ob= .rows sz xs\/ob= .orows sz xs)) (h1:RO ⟨w,Z,L,g⟩ r ob):RO ⟨w,Z',L,g⟩ r ob:=by
 obtain ⟨sz,xs,hc,rfl | rfl⟩:=h
 ·simp only [RO]at h1 |-;refine ⟨h1.1,fun b hb=> ?_⟩;obtain ⟨vs,k1,k2,k3⟩:=h1.2 b hb;exact ⟨vs,k1,k2,sQ xs _ hc k3⟩
 ·simp only [RO]at h1 |-;refine ⟨h1.1,fun b hb=> ?_⟩;obtain ⟨vs,F,k1,k2,k3,k4,k5⟩:=h1.2 b hb;exact ⟨vs,F,k1,k2,pJ _ xs _ F hc k3,k4,k5⟩
theorem y7 {m:kH} {as as':List AV} {s2:St} {vs:List Value} (np:Nat) (h:RS s a w L Z) (hv:dg (aF w Z L s.sto) as vs) (hm:m≠ .bor) (hp:(m != .pure || (AV.bO as).isEmpty)=true)
  (e:handed (real call loop) m as s=some (as',s2)):
  ∃Z2,RS s2 a w L Z2/\Tr np s.sto s2.sto w w L L Z Z2/\((∀r∈AV.bO as',(s2.sto.get r).isSome)->dg (aF w Z2 L s2.sto) as' vs):=by
 cases m with
 | bor=>exact (hm rfl).elim
 | ref=>
  simp only [handed]at e;injection e with e;injection e with e1 e2;subst e1;subst e2;exact ⟨Z,h,Tr.refl _ _ _ _ _,fun _=>hv⟩
 | frz=>
  simp only [handed]at e;obtain ⟨Z2,k1,k2,_,k4⟩:=jS np as vs s s2 as' Z h (Kept.refl _ _ _ _) hv e;exact ⟨Z2,k1,k2,k4⟩
 | pure=>
  simp only [handed]at e;have hr:AV.bO as=[]:=by simpa using hp
  split at e
  case h_2=>cases e
  case h_1 as'' hsn=>
   injection e with e;injection e with e1 e2;subst e1;subst e2;refine ⟨Z,h,Tr.refl _ _ _ _ _,fun _=> ?_⟩;exact kK h.obj (fun _ hb=>hb) as vs _ hv (by rw [hr];simp) hsn (kg as _ hr hsn) L s.sto.get
theorem Ec {ids:List Id} {pars:List (Option Obj)} {env:List AV} {sto:bF} {f:Id->Id} (hlen:ids.length=pars.length) (h2:∀(i:Nat) (q:Id),ids[i]? =some q->sto.get q=(jg pars i).map (·.map f)):
  St.buried ids pars ⟨env,sto⟩=⟨AV.aO (fun r=>ids.contains r&&(sto.get r).isNone) env,sto.forget fun r=>ids.contains r&&(sto.get r).isNone⟩:=by
 unfold St.buried;cases ha:iH pars with
 | false=>rfl
 | true=>
  have hd:∀r,(ids.contains r&&(sto.get r).isNone)=false:=by
   intro r;by_cases hm:r∈ids
   ·have hi:=qH hm;have hlt:idx ids r<pars.length:=by rw [<-hlen];exact (ai.1 hi).1
    have:=B_ ha _ hlt;rw [h2 _ _ hi];cases hx:jg pars (idx ids r)with
    | none=>simp [hx]at this
    | some _=>simp
   ·simp [hm]
  rw [cV hd,lM hd]
theorem Cc {np:Nat} {f:FuncId} {m:kH} {raw:Bool} {as:List AV} {dst:Option Nat} {s':St} {r:AV} (hco:gX P call) (h:RS s a w L Z) {vs:List Value} (hv:dg (aF w Z L s.sto) as vs) (ht:∀t,dst=some t->t<np)
  (e:eJ (real call loop) f m raw as dst s=some (r,s')) (Q:Ending->World->Prop)
  (hQ:∀v w' L' Z',RS s' a w' L' Z'->Tr np s.sto s'.sto w w' L L' Z Z'->RV (aF w' Z' L' s'.sto) r v->Q (.returned v) w'):iI P f=true/\Calls P f vs.toArray w Q:=by
 unfold eJ at e;split at e
 ·split at e
  ·cases e
  rename_i as' hsn;split at e
  ·cases e
  rename_i hemp;have hemp':AV.bO as'=[]:=by simpa using hemp
  split at e
  ·cases e
  rename_i c hc;have no_lives:∀b,¬aW [[],[]] Loc.none b:=by
   rintro b ⟨q,o,h1,_⟩;rcases jJ h1 with ⟨_,h2⟩ | ⟨_,h2⟩<;>simp [jg]at h2
  have hbor:iI P f=true/\∀Q:Ending->World->Prop,(∀v w' L' Z',RS ⟨[c.ret],[c.extra,c.pars]⟩ ⟨#[v],[]⟩ w' L' Z'->Tr 1 [[],[]] [c.extra,c.pars] w w' Loc.none L' (fun b=>Z b\/aW s.sto L b) Z'->Q (.returned v) w')->Calls P f vs.toArray w Q:=by
   have hvc:=kK (Zc:=fun b=>Z b\/aW s.sto L b) h.obj (fun _ hb=> .inl hb) as vs as' hv (fun q hq o ho b hb=> .inr ⟨q,o,ho,hb⟩) hsn hemp' Loc.none (bF.get [[],[]]);refine ⟨(hco f as' [] c hc).1,(hco f as' [] c hc).2 vs.toArray w Loc.none (fun b=>Z b\/aW s.sto L b) ⟨rfl,by simpa using hvc,fun q ob hq=> ?_,fun q q' b o o' hq=> ?_,fun b hb=>⟨?_,no_lives b⟩⟩⟩
   ·rcases jJ hq with ⟨_,h2⟩ | ⟨_,h2⟩<;>simp [jg]at h2
   ·rcases jJ hq with ⟨_,h2⟩ | ⟨_,h2⟩<;>simp [jg]at h2
   ·rcases hb with hb | ⟨q,o,h1,h2⟩
    ·exact (h.dis b hb).1
    ·exact h.eY h1 h2
  split at e
  case h_2=>
   split at e
   case h_2=>cases e
   case h_1 tt hpars hca hco'=>
    split at e
    case h_2=>cases e
    case h_1 s3 hl=>
     injection e with e;injection e with e1 e2;subst e1;subst e2;obtain ⟨c1,c2⟩:=hbor;refine ⟨c1,c2 Q fun v w' L' Z' k t=> ?_⟩;rw [hpars]at k t;have k':RS ⟨[c.ret],[c.extra,[]]⟩ ⟨#[v],[]⟩ w' L' Z:=by
      refine ⟨rfl,mG _ _ (by simp [lG,hca]) k.env,fun q ob hq=> ?_,k.injH,fun b hb=>⟨Nat.lt_of_lt_of_le (h.dis b hb).1 t.size,fun hl=> ?_⟩⟩
      ·rcases jJ hq with ⟨_,h2⟩ | ⟨_,h2⟩
       ·exact Eb (vC hco' _ _ h2) (k.obj q ob hq)
       ·simp [jg]at h2
      ·rcases t.lives b hl with h1 | h1
       ·exact no_lives b h1
       ·have:=(h.dis b hb).1;omega
     have t':Tr 1 [[],Ca s.sto []] [c.extra,[]] w w' (AE [] L) L' Z Z:=by
      refine ⟨t.os,t.tape,t.output,t.size,fun b hb _=>t.keep b hb (no_lives b),fun b hl=> .inr ((t.lives b hl).resolve_left (no_lives b)),fun _ h=>h,fun _ h=> .inl h,fun r hr=> ?_,fun r hr hs=> ?_⟩
      ·rw [t.par r hr];simp [AE,Loc.none]
      ·obtain ⟨p1,_⟩:=t.psame r hr hs;obtain ⟨o,ho⟩:=Option.isSome_iff_exists.1 p1;rcases jJ ho with ⟨_,h2⟩ | ⟨_,h2⟩<;>simp [jg]at h2
     obtain ⟨l1,l2⟩:=dW hl;have hg:=dw l1;have hf:=f7 l1;have hret:c.ret.map (fun r=>(tt,r.2))=c.ret.map (fun r=>if r.1=1 then ([]:List Id).getD r.2 (0,0)else (tt,r.2)):=by
      refine nV _ fun r hr=> ?_
      have:=dF _ _ k'.env r (by simpa [AV.bO]using hr);obtain ⟨o,ho⟩:=Option.isSome_iff_exists.1 this;rcases jJ ho with ⟨h1,h2⟩ | ⟨_,h2⟩
      ·rw [if_neg (by omega)]
      ·simp [jg]at h2
     have hX:∀j,(jg c.extra j).map (·.map fun r=>(tt,r.2))=(jg c.extra j).map (·.map fun r:Id=>if r.1=1 then ([]:List Id).getD r.2 (0,0)else (tt,r.2)):=by
      intro j;cases hj:jg c.extra j with
      | none=>rfl
      | some ob=>obtain ⟨sz,xs,_,rfl | rfl⟩:=vC hco' j ob hj<;>rfl
     have hgone:∀(s:bF),s.forget (fun r=>([]:List Id).contains r&&(s.get r).isNone)=s:=fun s=>lM (fun r=>by simp) s
     by_cases hXe:c.extra=[]
     ·rw [hXe]at k' t' hg;obtain ⟨L2,r1,r2,r3⟩:=oF (np:=np) (tt:=tt) (sto:=s.sto) (fin:=s3.sto) (env:=s3.env) h (by simp) (by simp) k' t' (fun hne=>(hne rfl).elim) _ (fun r=>rfl) rfl (fun _ _=>rfl) (by simp) (fun _=>false) (fun r=>by simp) (by rw [l2,cV (fun _=>rfl)])
       (fun q=>by
        rw [if_neg (by rintro ⟨h,_⟩;exact h rfl),hg];by_cases hq:q.1=tt
        ·rw [if_pos hq,hf q hq];simp
        ·rw [if_neg hq];cases s.sto.get q with
         | none=>rfl
         | some o=>simp [lK]) (fun hne=>(hne rfl).elim)
      rw [<-hret]at r3;exact hQ v w' L2 Z r1 r2 r3
     ·obtain ⟨L2,r1,r2,r3⟩:=oF (np:=np) (tt:=tt) (sto:=s.sto) (fin:=s3.sto) (env:=s3.env) h (by simp) (by simp) k' t' (fun _=>ht tt rfl) _ (fun r=>rfl) rfl (fun _ _=>rfl) (by simp) (fun _=>false) (fun r=>by simp) (by rw [l2,cV (fun _=>rfl)])
       (fun q=>by
        rw [hg];by_cases hq:q.1=tt
        ·rw [if_pos hq,if_pos ⟨hXe,hq⟩,<-hX,<-Di];rfl
        ·rw [if_neg hq,if_neg (fun hh=>hq hh.2)];cases s.sto.get q with
         | none=>rfl
         | some o=>simp [lK]) (fun _ q hq=>hf q hq)
      rw [<-hret]at r3;exact hQ v w' L2 Z r1 r2 r3
  case h_1 hsc=>
   injection e with e;injection e with e1 e2;subst e1;subst e2;obtain ⟨c1,c2⟩:=hbor;refine ⟨c1,c2 Q ?_⟩
   ·intro v w' L' Z' k t;have hk:∀b,b<w.heap.size->w'.heap[b]? =w.heap[b]? :=fun b hb=>t.keep b hb (no_lives b)
    obtain ⟨k1,k2⟩:=h.more np hk t.size t.os t.tape t.output;refine hQ v w' L Z k1 k2 ?_;have h1:=k.env;simp only [dg]at h1;obtain ⟨v',vs',e1,h2,e2⟩:=h1;subst e2;have:v'=v:=by have:[v]=[v']:=e1;injection this with this;exact this.symm
    subst this;generalize c.ret=x at h2 hsc;cases x with
    | d y=>cases y<;>first | (simp [scalar]at hsc;done) | (simp only [RV,RD]at h2 |-;exact h2)
    | bare=>simpa only [RV]using h2
    | tup l=>cases l with
     | nil=>simp only [RV,dg]at h2 |-;exact h2
     | cons _ _=>simp [scalar]at hsc
    | _=>simp [scalar]at hsc
 ·rename_i hm;split at e
  ·cases e
  rename_i hp;split at e
  ·cases e
  rename_i as' s2 hh;obtain ⟨Z2,g1,g2,g3⟩:=y7 np h hv (fun e=>hm e) hp hh;split at e
  ·cases e
  rename_i ids hids;obtain ⟨i1,i2,i3,_,i5⟩:=kJ 60 _ [] ids hids (by simp) (by simp) (by simp);split at e
  ·cases e
  rename_i c hc;simp only at e;split at e
  ·cases e
  rename_i sto hwb;obtain ⟨b1,b2,b3⟩:=vz hwb i1 i2;have b3':∀(i:Nat) (q:Id),ids[i]? =some q->sto.get q=(jg c.pars i).map (·.map fun r=>if r.1=1 then ids.getD r.2 (0,0)else (dst.getD 0,r.2)):=by
   intro i q hi;rw [b3 i q hi];unfold jg;cases c.pars[i]? <;>rfl
  rw [Ec b1 b3']at e;have hin:=I6 g1 i1 i5 (g3 fun r hr=>i2 r (i3 r hr)) i3;refine ⟨(hco f _ _ c hc).1,(hco f _ _ c hc).2 vs.toArray w (AE ids L) Z2 hin Q ?_⟩;intro v w' L' Z' k t;split at e
  ·rename_i hX;injection e with e;injection e with e1 e2;subst e1;subst e2;rw [hX]at k t;obtain ⟨L2,r1,r2,r3⟩:=oF (np:=np) (tt:=dst.getD 0) (sto:=sto) (fin:=sto.forget fun r=>ids.contains r&&(sto.get r).isNone) g1 i1 i2 k t (fun hne=>(hne rfl).elim) _ (fun r=>rfl) b1 b2 b3' _ (fun r=>rfl) rfl
    (fun q=>by rw [ko,if_neg (by rintro ⟨h,_⟩;exact h rfl)]) (fun hne=>(hne rfl).elim)
   exact hQ v w' L2 Z' r1 (g2.trans r2) r3
  ·rename_i o ex hX;split at e
   case h_2=>cases e
   case h_1 tt=>
    split at e
    case h_2=>cases e
    case h_1 s3 hl=>
     injection e with e;injection e with e1 e2;subst e1;subst e2;rw [hX]at k t;obtain ⟨l1,l2⟩:=dW hl;have hg:=dw l1;have hf:=f7 l1;obtain ⟨L2,r1,r2,r3⟩:=oF (np:=np) (tt:=tt) (sto:=sto) (fin:=s3.sto) (env:=s3.env) g1 i1 i2 k t (fun _=>ht tt rfl) _ (fun r=>rfl) b1 b2 b3' _ (fun r=>rfl) l2
      (fun q=>by
       rw [hg];by_cases hq:q.1=tt
       ·rw [if_pos hq,if_pos ⟨by simp,hq⟩,<-Di];rfl
       ·rw [if_neg hq,if_neg (fun hh=>hq hh.2),ko]) (fun _ q hq=>by
       have:=hf q hq;rw [ko]at this;cases hx:sto.get q with
       | none=>rfl
       | some _=>simp [hx]at this)
     exact hQ v w' L2 Z' r1 (g2.trans r2) r3
end
section
section
variable {P:Program} {call:FuncId->List AV->List (Option Obj)->Option bk} {loop:Nat->St->Option (Out×St)}
variable {s:St} {a:Act} {w:World} {L:Loc} {Z:Nat->Prop}
theorem Dj {np:Nat} {o:Oper} {c:Call} {isMax:Bool} {x y:Operand} {x' y':VX} {dst:Option Nat} {r:AV} {s':St} (h:RS s a w L Z) (ho:o.op= .call c)
  (hc:c.callee= .builtin (match isMax with | true=> .max | false=> .min)) (ha:c.args.toList=[x,y]) (hx:cN x x'=true) (hy:cN y y'=true)
  (e:aJ (real call loop) s dst (.mx isMax x' y')=some (r,s')):aX P np o s a w L Z r s':=by
 simp only [aJ]at e;split at e
 case h_2=>cases e
 case h_1 k p k' q e1 e2=>
  split at e
  case isFalse=>cases e
  case isTrue hk=>
   subst hk;have h1:=aL h hx e1;have h2:=aL h hy e2;simp only [RV,RD,List.cons.injEq,and_true]at h1 h2;have ha':c.args= #[x,y]:=Array.ext' ha;have key:∀n:Int,(match isMax with | true=>(if q>p then q else p) | false=>(if q<p then q else p))=n->r= .d (.int k n)->s'=s->aX P np o s a w L Z r s':=by
    intro n hn hr hs;subst hr;subst hs;refine aX.pure h (u:= .int k n) ?_ (by simp only [RV,RD]);unfold execOp;rw [ho];cases isMax with
    | true=>simp [resolve,hc,invoke,builtin,ha',h1,h2,Builtin.max_,Builtin.max2,<-hn]
    | false=>simp [resolve,hc,invoke,builtin,ha',h1,h2,Builtin.min_,Builtin.min2,<-hn]
   simp only [real,aK.cmp,eV]at e;split at e
   ·rename_i hlt;have hlt:p<q:=by simpa using hlt
    cases isMax with
    | true=>injection e with e;injection e with e3 e4;exact key q (by simp only;rw [if_pos hlt]) e3.symm e4.symm
    | false=>injection e with e;injection e with e3 e4;exact key p (by simp only;rw [if_neg (by omega)]) e3.symm e4.symm
   ·rename_i hlt;have hlt:¬p<q:=by simpa using hlt
    cases isMax with
    | true=>injection e with e;injection e with e3 e4;exact key p (by simp only;rw [if_neg (by omega)]) e3.symm e4.symm
    | false=>injection e with e;injection e with e3 e4;exact key q (by simp only;split<;>omega) e3.symm e4.symm
theorem Ed {np:Nat} {o:Oper} {c:Call} {x:Operand} {x':VX} {t e:TypeId} {dst:Option Nat} {r:AV} {s':St} (h:RS s a w L Z) (ho:o.op= .call c)
  (hc:c.callee= .builtin .cap) (ha:c.args.toList=[x]) (ht:c.argTypes.toList=[t]) (hu:P.underlying t=some (.slice e)) (hx:cN x x'=true)
  (es:aJ (real call loop) s dst (.capE x')=some (r,s')):aX P np o s a w L Z r s':=by
 simp only [aJ]at es;split at es
 case h_2=>cases es
 case h_1 e1=>
  injection es with es;injection es with q1 q2;subst q1;subst q2;have h1:=aL h hx e1;simp only [RV]at h1;obtain ⟨A,h1⟩:=h1;have ha':c.args= #[x]:=Array.ext' ha;have ht':c.argTypes= #[t]:=Array.ext' ht;refine aX.pure h (u:= .int .i64 0) ?_ (by simp only [RV,RD]);unfold execOp;rw [ho];simp [resolve,hc,invoke,builtin,ha',ht',h1,Builtin.cap_,run_underlying hu,goInt]
theorem tD (w:World) (A:Option Addr) (size cap:Nat):(Builtin.firstCells size 0 (.slice A 0 cap)).run P w= .ok #[] w:=by
 cases A<;>simp [Builtin.firstCells,loadCells,loadCellsFrom]
theorem rM (w:World) (t tn ty e:TypeId) (i:TypeInfo) (z:Value) (k kn:IntKind) (A:Option Addr) (ht:P.underlying t=some (.slice e)) (htn:P.underlying tn=some (.int kn)) (hi:P.info? e=some i) (hz:i.zero=some z)
  (n:Nat) (h0:0<n) (hs:0<i.size) (h63:(n:Int)<=9223372036854775807) (h48:n*i.bytes<=281474976710656):
  (Builtin.append_ #[t,tn] ty #[.slice A 0 0,.int k n]).run P w=
   .ok (.slice (some ⟨w.heap.size,0,none⟩) n (grownCap w n 0 e)) (w.drew.alloc (.cells (Builtin.zeroCells z.cells n++Builtin.zeroCells z.cells (grownCap w n 0 e-n)) e)):=by
 have hn:n≠0:=by omega
 have hw:IntKind.i64.wrap (n:Int)=n:=by rw [IntKind.wrap_i64];omega
 have h63':¬(9223372036854775807<(n:Int)):=by omega
 have h48':¬(281474976710656<Builtin.nextslicecap n 0*i.bytes):=by rw [nextslicecap_zero h0];omega
 have h48i:¬(281474976710656<(n:Int)*(i.bytes:Int)):=by
  rw [<-Int.natCast_mul];omega
 have hneg:¬((n:Int)<0):=by omega
 have hns:¬(n*i.size=0):=Nat.mul_ne_zero hn (by omega);simp [Builtin.append_,run_underlying ht,run_underlying htn,sizeOf,typeInfo,zeroValue,hi,hz,Go.asInt,Go.asIntOf,hw,hn,hneg,hns,h63',h48',h48i,Question.forced,tD,newRow,grownCap]
theorem y8 {np t:Nat} {s':St} {o:Oper} {ty tn e:TypeId} {i:TypeInfo} {z:Value} {kn:IntKind} {x y:Operand} {x' y':VX} {agg:Bool} {zero:List AV} {r:AV}
  (h:RS s a w L Z) (ho:o.op= .call { callee:= .builtin .append,args:= #[x,y],argTypes:= #[ty,tn] }) (hx:cN x x'=true) (hy:cN y y'=true) (hu:P.underlying ty=some (.slice e)) (hun:P.underlying tn=some (.int kn)) (hi:P.info? e=some i) (hz:i.zero=some z) (hzs:z.cells.size=i.size) (hpos:0<i.size)
  (hok:d_ z.cells.toList zero=true) (ht:t<np) (es:aJ (real call loop) s (some t) (.appendN (e,i.size) i.bytes agg zero x' y')=some (r,s')):aX P np o s a w L Z r s':=by
 simp only [aJ]at es;split at es
 case h_2=>cases es
 case h_1 k n t' e1 e2 ht'=>
  injection ht' with ht';subst ht';split at es
  case isFalse=>cases es
  case isTrue _=>
   split at es
   case h_2=>cases es
   case h_1 ds hds=>
    split at es
    case h_2=>cases es
    case h_1 zd hzd=>
     split at es
     case h_2=>cases es
     case h_1 hgt hfit=>
      split at es
      case h_2=>cases es
      case h_1 s2 hl=>
       injection es with es;injection es with q1 q2;subst q1;subst q2;have h1:=aL h hx e1;have h2:=aL h hy e2;simp only [RV,RD,List.cons.injEq,and_true]at h1 h2;obtain ⟨A,h1⟩:=h1;simp only [real,aK.cmp,eV,decide_eq_true_eq]at hgt;simp only [real,aK.eP]at hfit;obtain ⟨f1,f2,f3⟩:=of_decide_eq_true hfit;obtain ⟨m,rfl⟩:=Int.eq_ofNat_of_zero_le f1;have hm0:0<m:=by omega
       have f2':m*i.bytes<=140737488355328:=by rw [<-Int.natCast_mul]at f2;omega
       have hcat:gm w Z i.size ((real call loop).lW m zd) (List.replicate m z.cells.toList).flatten:=by
        have hrd:RD w Z zd z.cells.toList:=by
         apply kQ;rw [oO hzd];exact rp (c:=⟨w,Z,L,s.sto.get⟩) hok hds
        have hcr:gm w Z i.size (List.replicate m zd) (List.replicate m z.cells.toList).flatten:=ji hrd (by rw [Array.length_toList,hzs]) m;show gm w Z i.size (List.replicate (m:Int).toNat zd) _;rw [Int.toNat_natCast];exact hcr
       have hlen:((real call loop).lW m zd).length=m:=by show (List.replicate (m:Int).toNat zd).length=m;rw [Int.toNat_natCast,List.length_replicate]
       have hr:=rM (P:=P) w ty tn o.type e i z k kn A hu hun hi hz m hm0 hpos f3 (by omega);have hge:m<=grownCap w m 0 e:=grownCap_ge w m 0 e;have hcm:grownCap w m 0 e<=maxLen:=grownCap_le_maxLen w m 0 e (by unfold maxLen;omega);have hszc:(Builtin.zeroCells z.cells m++Builtin.zeroCells z.cells (grownCap w m 0 e-m):Array Value).size=grownCap w m 0 e*i.size:=by
        rw [Array.size_append,size_zeroCells,size_zeroCells,hzs,<-Nat.add_mul];congr 1;omega
       obtain ⟨L',k1,k2,k3,k4,k5⟩:=sq (cells:=Builtin.zeroCells z.cells m++Builtin.zeroCells z.cells (grownCap w m 0 e-m)) (w':=w.drew.alloc (.cells (Builtin.zeroCells z.cells m++Builtin.zeroCells z.cells (grownCap w m 0 e-m)) e)) h hl ht rfl rfl rfl rfl hcat
        (fun j v hj=>by
         have hz2:(Builtin.zeroCells z.cells m).toList=(List.replicate m z.cells.toList).flatten:=range_zero z.cells m (by omega);have hlt:j<(Builtin.zeroCells z.cells m).size:=by
          rw [<-Array.length_toList,hz2];exact (ai.1 hj).1
         rw [Array.getElem?_append_left hlt,<-Array.getElem?_toList,hz2];exact hj)
        (by rw [hszc,hlen];exact Nat.mul_le_mul_right _ hge)
       refine aX.value (u:= .slice (some ⟨w.heap.size,0,none⟩) m (grownCap w m 0 e)) ?_ k1 k2 ?_
       ·unfold execOp;rw [ho];simp [resolve,invoke,builtin,h1,h2,hr]
       ·simp only [RV];refine ⟨_,m,grownCap w m 0 e,_,rfl,⟨hge,hcm⟩,fun e=>(by cases e),v8 k4,fun _=>hlen.symm,fun x m e=>(by cases e),fun e=>(by rw [k3]at e;cases e),fun b hb=> ?_⟩;have:w.heap.size=b:=by have:some w.heap.size=some b:=k3.symm.trans hb;injection this
        subst this;exact .inr ⟨by simp [bC],by rw [k5,hszc];simp [bC]⟩
theorem wS (np:Nat) (h:RS s a w L Z) {o:Oper} {x:Operand} {x':VX} (ho:o.op= .nilCheck x) (hx:cN x x'=true) {u r:AV} (e:ev s.env x'=some u)
  (er:(match u with | .ptr q k=>some (AV.ptr q (k+0)) | .prow q z j n=>some (.prow q z j (n+0)) | .sp cs k=>some (.sp cs (k+0)) | _=>none)=some r):aX P np o s a w L Z r s:=by
 have h1:=aL h hx e;have hrun:∀p,a.eval x= .pointer (some p)->(execOp a.eval o).run P w= .ok (.value (.pointer (some p))) w:=by
  intro p hp;unfold execOp;rw [ho];simp [hp]
 split at er
 ·injection er with er;subst er;have h2:=h1;simp only [RV]at h2;obtain ⟨b,_,_,h2⟩:=h2;exact aX.pure h (hrun _ h2) (by rw [<-h2];exact h1)
 ·injection er with er;subst er;have h2:=h1;simp only [RV]at h2;obtain ⟨b,_,_,_,h2⟩:=h2;exact aX.pure h (hrun _ h2) (by rw [<-h2];exact h1)
 ·injection er with er;subst er;have h2:=h1;simp only [RV]at h2;obtain ⟨b,o',vs,h2,_⟩:=h2;exact aX.pure h (hrun _ h2) (by rw [<-h2];exact h1)
 ·cases er
theorem wT {np:Nat} {o:Oper} {ty e:TypeId} {i:TypeInfo} {ps:Array (Nat×Operand)} (h:RS s a w L Z) (ho:o.op= .buildSlice ty 0 ps) (hp:ps.toList=[]) (hu:P.underlying ty=some (.slice e)) (hi:P.info? e=some i):aX P np o s a w L Z .emp s:=by
 have hp':ps= #[]:=Array.ext' hp;subst hp';have hrun:(execOp a.eval o).run P w= .ok (.value (.slice (some ⟨w.heap.size,0,none⟩) 0 0)) { w with heap:=w.heap.push (.cells #[] e) }:=by
  refine dX (m:=Instr.buildSlice ty 0 #[]) (by unfold execOp;rw [ho];simp) ?_;unfold Instr.buildSlice;have e1:Array.map (fun _=>(default:Value)) (Array.range 0)= #[]:=Array.ext' (by simp);simp only [Sem.run_bind,run_underlying hu,Result.andThen,sizeOf,typeInfo,Sem.run_pure];simp [hi,newRow,e1,Instr.fill]
 obtain ⟨k1,k2⟩:=h.more (w':={ w with heap:=w.heap.push (.cells #[] e) }) np (fun b hb=>by
  show (w.heap.push _)[b]? =_;rw [Array.getElem?_push,if_neg (by omega)]) (by simp) rfl rfl rfl
 exact aX.value hrun k1 k2 (by simp only [RV];exact ⟨_,rfl⟩)
theorem Gu:∀{vs:List AV} {ds:List D},dL vs=some ds->vs=ds.map .d
 | [],ds,h=>by simp only [dL]at h;injection h with h;subst h;rfl
 | v::vs,ds,h=>by
  cases v with
  | d x=>
   simp only [dL]at h;split at h
   case h_2=>cases h
   case h_1 xs hx=>injection h with h;subst h;rw [Gu hx];rfl
  | _=>simp [dL]at h
theorem Ee {np:Nat} {ty:TypeId} {x:Operand} {x':VX} {o:Oper} {dst:Option Nat} {r:AV} {s':St} (h:RS s a w L Z) (ho:o.op= .box ty x) (hx:cN x x'=true)
  (e:aJ (real call loop) s dst (.boxZ x')=some (r,s')):aX P np o s a w L Z r s':=by
 simp only [aJ]at e;split at e
 case h_2=>cases e
 case h_1 u hu=>
  split at e
  case h_2=>cases e
  case h_1 ds hds=>
   injection e with e;injection e with e1 e2;subst e1;subst e2;have hm:=Gu hds;have hv:=aL h hx hu;have hcells:dg (aF w Z L s.sto) u.cells (a.eval x).cells.toList:=by
    refine om hv ?_ ?_ ?_
    ·rintro vs rfl;simp [AV.cells,dL]at hds
    ·rintro rfl;simp [AV.cells,dL]at hds
    ·rintro rfl;simp [AV.cells,dL]at hds
   obtain ⟨hl,he⟩:=bL.1 hcells;have hrd:eR w Z ds (a.eval x).cells.toList:=dV.2 ⟨by rw [<-hl,hm];simp,fun i d v h1 h2=>by
    have:=he i (.d d) v (by rw [hm];simp [h1]) h2;simpa only [RV]using this⟩
   have hrun:(execOp a.eval o).run P w= .ok (.value (.pointer (some ⟨w.heap.size,0,none⟩))) { w with heap:=w.heap.push (.cells (a.eval x).cells ty) }:=by
    refine dX (m:=Instr.box ty (a.eval x)) (by unfold execOp;rw [ho]) ?_;simp [Instr.box,newVar,newRow]
   obtain ⟨k1,k2⟩:=h.more (w':={ w with heap:=w.heap.push (.cells (a.eval x).cells ty) }) np (fun b hb=>by
    show (w.heap.push _)[b]? =_;rw [Array.getElem?_push,if_neg (by omega)]) (by simp) rfl rfl rfl
   have hnl:¬aW s.sto L w.heap.size:=fun hl=>by obtain ⟨q,ob,p1,p2⟩:=hl;have:=h.eY p1 p2;omega
   have k3:=k1.Nx (fun b=>b=w.heap.size) (fun b hb=>by subst hb;exact ⟨by simp,hnl⟩);have hzle:jA w { w with heap:=w.heap.push (.cells (a.eval x).cells ty) } Z (fun b=>Z b\/b=w.heap.size):=fun b hb=>⟨.inl hb,by
    have:=(h.dis b hb).1;show (w.heap.push _)[b]? =_;rw [Array.getElem?_push,if_neg (by omega)]⟩
   refine aX.value hrun k3 ⟨k2.os,k2.tape,k2.output,k2.size,k2.keep,k2.lives,fun b hb=> .inl hb,fun b hb=> ?_,k2.par,fun r hr hs=> ?_⟩ ?_
   ·rcases hb with hb | hb
    ·exact .inl hb
    ·subst hb;exact .inr (.inl (Nat.le_refl _))
   ·exact ⟨hs,(k2.psame r hr hs).2⟩
   ·simp only [RV];refine ⟨w.heap.size,0,_,rfl,.inr rfl,nT hzle _ _ hrd,fun j v hj=> ?_⟩;simp only [World.cell?,Nat.zero_add];simp at hj |-;exact hj
end
end
section
section
variable {P:Program} {call:FuncId->List AV->List (Option Obj)->Option bk} {loop:Nat->St->Option (Out×St)}
variable {s:St} {a:Act} {w:World} {L:Loc} {Z:Nat->Prop}
theorem AF {sz:Nat}:∀(k:Nat) {xs:List D} {cs:List Value},gm w Z sz xs cs->gm w Z sz (xs.take k) (cs.take (k*sz))
 | 0,xs,cs,h=>by simp [gm]
 | k+1,[],cs,h=>by simp only [gm]at h;subst h;simp [gm]
 | k+1,x::xs,cs,h=>by
  simp only [gm]at h;obtain ⟨us,vs,rfl,h1,h2,h3⟩:=h;simp only [List.take_succ_cons,gm];refine ⟨us,vs.take (k*sz),?_,h1,h2,AF k h3⟩;rw [Nat.succ_mul,List.take_append,List.take_of_length_le (by omega)];congr 2;omega
theorem AG {sz:Nat}:∀(k:Nat) {xs:List D} {cs:List Value},gm w Z sz xs cs->gm w Z sz (xs.drop k) (cs.drop (k*sz))
 | 0,xs,cs,h=>by simpa using h
 | k+1,[],cs,h=>by simp only [gm]at h;subst h;simp [gm]
 | k+1,x::xs,cs,h=>by
  simp only [gm]at h;obtain ⟨us,vs,rfl,h1,h2,h3⟩:=h;simp only [List.drop_succ_cons];have:=AG k h3;rw [Nat.succ_mul,List.drop_append,List.drop_of_length_le (l:=us) (by omega),List.nil_append];rw [show k*sz+sz-us.length=k*sz by omega];exact this
theorem wU (w:World) (dT sT ty e:TypeId) (A B:Option Addr) (dLen dCap sLen sCap:Nat) (i:TypeInfo) (hu:P.underlying dT=some (.slice e)) (hi:P.info? e=some i) (hn:Nat.min sLen dLen=0):
  (Builtin.copy_ #[dT,sT] ty #[.slice A dLen dCap,.slice B sLen sCap]).run P w= .ok (goInt 0) w:=by
 have hn':min sLen dLen=0:=hn;cases A<;>cases B<;>simp [Builtin.copy_,run_underlying hu,Builtin.lenOf,Builtin.firstCells,sizeOf,typeInfo,hi,hn',loadCells,loadCellsFrom,storeCells]
theorem vD (w:World) (dT sT ty e:TypeId) (g dLen dCap:Nat) (ad:Addr) (sLen sCap:Nat) (cur:Array Value) (t:TypeId) (cs:List Value) (i:TypeInfo)
  (hu:P.underlying dT=some (.slice e)) (hi:P.info? e=some i) (hg:w.heap[g]? =some (.cells cur t (0,0))) (hn:cs.length=Nat.min sLen dLen*i.size)
  (hsrc:∀j v,cs[j]? =some v->w.cell? (ad.add j)=some v) (hfit:cs.length<=cur.size) (h1:∀v∈cs,v.oneCell'=true):
  (Builtin.copy_ #[dT,sT] ty #[.slice (some ⟨g,0,none⟩) dLen dCap,.slice (some ad) sLen sCap]).run P w=
   .ok (goInt (Nat.min sLen dLen)) (w.setRow g (cs++cur.toList.drop cs.length).toArray):=by
 have hl:=run_loadCells_list (P:=P) w ad cs hsrc;have hst:=run_storeCells_at P g 0 t cs 0 cur w hg (by simpa using hfit) h1;rw [hn]at hl;have hl':(loadCells ad (min sLen dLen*i.size)).run P w= .ok cs.toArray w:=hl;simp [Builtin.copy_,run_underlying hu,Builtin.lenOf,Builtin.firstCells,sizeOf,typeInfo,hi,hl',hst]
theorem Ef {np:Nat} {s':St} {o:Oper} {dT sT e:TypeId} {i:TypeInfo} {x y:Operand} {x' y':VX} {dst:Option Nat} {r:AV} (h:RS s a w L Z)
  (ho:o.op= .call { callee:= .builtin .copy,args:= #[x,y],argTypes:= #[dT,sT] }) (hx:cN x x'=true) (hy:cN y y'=true)
  (hu:P.underlying dT=some (.slice e)) (hi:P.info? e=some i) (es:aJ (real call loop) s dst (.copy (e,i.size) x' y')=some (r,s')):aX P np o s a w L Z r s':=by
 have hrun:∀{m:Value} {w':World},(Builtin.copy_ #[dT,sT] o.type #[a.eval x,a.eval y]).run P w= .ok m w'->(execOp a.eval o).run P w= .ok (.value m) w':=by
  intro m w' hm;unfold execOp;rw [ho];simp [resolve,invoke,builtin,hm]
 simp only [aJ]at es;split at es
 case h_2=>cases es
 case h_1 q sz' u b e1 e2=>
  split at es
  case h_2=>cases es
  case h_1 ys z xs hys hq=>
   split at es
   case isFalse=>cases es
   case isTrue hsz=>
    subst hsz;split at es
    case h_2=>cases es
    case h_1 hfit=>
     injection es with es;injection es with q1 q2;subst q1;subst q2;have hA:=aL h hx e1;have hB:=aL h hy e2;obtain ⟨B,cap2,b1,b2,b3⟩:=cG h.obj hB hys;simp only [RV]at hA;obtain ⟨A,n,cap,zs,m1,⟨m2,m2'⟩,m3,m4,m5,m6,m7,m8⟩:=hA;have m4':(s.sto.get q).bind Obj.rw=some ((e,i.size),zs):=m4;rw [hq]at m4';have m4'':z=(e,i.size)/\xs=zs:=by simpa [Obj.rw]using m4'
     obtain ⟨rfl,rfl⟩:=m4'';have hn:n=xs.length:=by simpa using m5
     have hro:=h.obj q _ hq;simp only [RO]at hro;have hover:(real call loop).over xs ys=ys.take xs.length++xs.drop ys.length:=rfl;have hlen:((real call loop).over xs ys).length=xs.length:=by rw [hover];simp;omega
     by_cases h0:min ys.length xs.length=0
     ·have hsame:(real call loop).over xs ys=xs:=by
       rw [hover];rcases Nat.eq_zero_or_pos ys.length with hz | hz
       ·have:ys=[]:=List.length_eq_zero_iff.1 hz;subst this;simp
       ·have:xs=[]:=List.length_eq_zero_iff.1 (by omega);subst this;simp
      rw [hsame];obtain ⟨k1,k2,k3⟩:=RS.swap (ob':= .rows (e,i.size) xs) (N:=fun _=>False) np h hq (fun sz ws hh=>⟨ws,hh,rfl⟩) (fun b hb=>by
       rcases hb with hb | ⟨hb,_⟩
       ·exact .inl hb
       ·cases hb) (by simp only [RO];exact hro)
      exact aX.value (hrun (by rw [m1,b1];exact wU w dT sT o.type e A B n cap ys.length cap2 i hu hi (by subst hn;exact h0))) k1 k2 (by simp only [RV])
     ·have hyne:ys≠[]:=fun e=>by subst e;simp at h0
      have hxpos:0<xs.length:=by omega
      obtain ⟨blk,hblk⟩:∃blk,L q=some blk:=by
       cases hL:L q with
       | none=>have:=hro.1 hL;subst this;simp at hxpos
       | some blk=>exact ⟨blk,rfl⟩
      obtain ⟨vs,v1,v2,v3⟩:=hro.2 blk hblk;have hAa:A=some ⟨blk,0,none⟩:=by
       rcases m8 blk hblk with ⟨_,p2⟩ | ⟨p1,_⟩
       ·exact (p2 (by simp [bC])).elim
       ·simpa [bC]using p1
      have hall:ys.all (fun y=>y.cells.length==i.size)=true:=by
       have hf:=hfit;simp only [real,aK.fits,ah]at hf;exact hf.2
      obtain ⟨sb,so,scap,cs,c1,c2,c3⟩:=source h.obj hB hys hall hyne;have hcl:=iN c2;have hcap:cap2=scap:=by rw [b1]at c1;injection c1
      have hm:min ys.length xs.length<=ys.length:=Nat.min_le_left _ _;generalize hmm:min ys.length xs.length=m at*;have hcs:(cs.take (m*i.size)).length=m*i.size:=by
       rw [List.length_take,hcl];exact Nat.min_eq_left (Nat.mul_le_mul_right _ hm)
      have hfitv:m*i.size<=vs.size:=Nat.le_trans (Nat.mul_le_mul_right _ (by omega:m<=xs.length)) v2;have hr:=vD (P:=P) w dT sT o.type e blk n cap ⟨sb,so,none⟩ ys.length scap vs (e,i.size).1 (cs.take (m*i.size)) i hu hi v1 (by rw [hcs,hn];show m*i.size=min ys.length xs.length*i.size;rw [hmm])
       (fun j v hj=>c3 j v (by rw [List.getElem?_take]at hj;split at hj;exact hj;cases hj)) (by rw [hcs];exact hfitv) (fun v hv=>ud c2 v (List.mem_of_mem_take hv))
      rw [hcs]at hr;have hbz:¬Z blk:=fun hz=>(h.dis _ hz).2 ⟨q,_,hq,.inl hblk⟩
      generalize hcells:(cs.take (m*i.size)++vs.toList.drop (m*i.size)).toArray=cells at hr;have hsize:cells.size=vs.size:=by rw [<-hcells];simp [hcs];omega
      have hheap:(w.setRow blk cells).heap[blk]? =some (.cells cells (e,i.size).1 (0,0)):=setRow_heap w blk vs _ _ (0,0) v1;have hother:∀k,k≠blk->(w.setRow blk cells).heap[k]? =w.heap[k]? :=fun k hk=>setRow_other _ _ _ _ hk
      have hzle:jA w (w.setRow blk cells) Z Z:=fun k hk=>⟨hk,hother k fun e=>hbz (e ▸ hk)⟩
      obtain ⟨cx,x1,x2⟩:=rj v3;have hxl:=iN x1;have hxv:cx=vs.toList.take (xs.length*i.size):=by
       apply List.ext_getElem?;intro j;rw [List.getElem?_take];by_cases hj:j<xs.length*i.size
       ·rw [if_pos hj];have hjc:cx[j]? =some cx[j]:=aN (by omega);have:=x2 j _ hjc;simp only [World.cell?,v1,Nat.zero_add]at this;rw [hjc];simpa using this.symm
       ·rw [if_neg hj,List.getElem?_eq_none (by omega)]
      have hnewcat:gm (w.setRow blk cells) Z i.size ((real call loop).over xs ys) ((cs.take (m*i.size))++cx.drop (m*i.size)):=by
       have t1:ys.take xs.length=ys.take m:=by
        rcases Nat.le_total ys.length xs.length with hle | hle
        ·rw [List.take_of_length_le hle,List.take_of_length_le (by omega)]
        ·rw [show m=xs.length by omega]
       have t2:xs.drop ys.length=xs.drop m:=by
        rcases Nat.le_total ys.length xs.length with hle | hle
        ·rw [show m=ys.length by omega]
        ·rw [List.drop_of_length_le hle,List.drop_of_length_le (by omega)]
       rw [hover,t1,t2];exact ri hzle (mT (AF m c2) (AG m x1))
      obtain ⟨k1,k2⟩:=RS.write (w':=w.setRow blk cells) (ob':= .rows (e,i.size) ((real call loop).over xs ys)) np h hq hblk rfl rfl rfl (by simp) hother
       (by
         simp only [bX,hheap,v1];exact hsize) (fun sz ws hh=>⟨(real call loop).over xs ys,by simp [Obj.rw]at hh |-;exact hh.1,by simp [Obj.rw]at hh;rw [hlen,hh.2]⟩) (fun hh=>hh) (fun hsame hz=>by
        simp only [RO];refine ⟨fun hL=>(by rw [hblk]at hL;cases hL),fun b' hb'=> ?_⟩;have:blk=b':=by rw [hblk]at hb';injection hb'
        subst this;refine ⟨cells,hheap,by rw [hlen,hsize];exact v2,rm hnewcat fun j v hj=> ?_⟩;simp only [World.cell?,hheap,Nat.zero_add];rw [List.getElem?_append]at hj;rw [<-hcells];simp only [List.getElem?_toArray];rw [List.getElem?_append];split at hj
        ·rename_i hlt;rw [if_pos hlt];exact hj
        ·rename_i hlt;rw [if_neg hlt];rw [List.getElem?_drop]at hj |-;rw [hxv,List.getElem?_take]at hj;split at hj
         ·exact hj
         ·cases hj)
      refine aX.value (hrun (by rw [m1,hAa,b1];rw [b1]at c1;injection c1 with c1 _ _;rw [c1,hcap];exact hr)) k1 k2 (by simp only [RV])
end
end
def okV (P:Program):Op->lp->Bool
 | .move x,.move y=>cN x y
 | .assign x,.move y=>cN x y
 | .pick c x y,.pick c' x' y'=>cN c c'&&cN x x'&&cN y y'
 | .alloc t,.alloc cs=>match P.info? t with
  | some i=>match i.zero with
   | some z=>d_ z.cells.toList cs
   | none=>false
  | none=>false
 | .box _ x,.box y=>cN x y
 | .box _ x,.boxZ y=>cN x y
 | .build t ps,.build zero qs=>match P.underlying t,P.info? t with
  | some (.struct fields),some i=>match i.zero,fields.toList.mapM (fun f=>(P.info? f.type).map fun i=>(f.offset,i.size))with
   | some z,some places=>mE places ps.toList qs&&d_ z.cells.toList zero
   | _,_=>false
  | _,_=>false
 | .buildSlice t len ps,.buildSlice sz _ zero len' qs=>match P.underlying t with
  | some (.slice e)=>match P.info? e with
   | some i=>match i.zero with
    | some z=>sz.1==e&&sz.2==i.size&&len==len'&&kI ps.toList qs&&z.cells.size==i.size&&decide (0<i.size)&&d_ z.cells.toList zero&&decide (len*i.size<=2^24)
    | none=>false
   | none=>false
  | _=>false
 | .buildSlice t len ps,.emptyRow=>match P.underlying t with
  | some (.slice e)=>len==0&&ps.toList.isEmpty&&(P.info? e).isSome
  | _=>false
 | .buildSlice t len ps,.buildRow sz _ zero len' qs=>match P.underlying t with
  | some (.slice e)=>match P.info? e with
   | some i=>match i.zero with
    | some z=>sz.1==e&&sz.2==i.size&&len==len'&&kI ps.toList qs&&z.cells.size==i.size&&decide (0<i.size)&&d_ z.cells.toList zero&&decide (len*i.size<=2^24)
    | none=>false
   | none=>false
  | _=>false
 | .buildSlice t len ps,.buildO sz x'=>match P.underlying t,ps.toList with
  | some (.slice e),[(0,x)]=>match P.info? e with
   | some i=>match i.zero with
    | some z=>sz.1==e&&sz.2==i.size&&len==1&&cN x x'&&z.cells.size==i.size&&decide (0<i.size)&&decide (i.size<=2^24)
    | none=>false
   | none=>false
  | _,_=>false
 | .buildSlice t len ps,.buildH sz _ x'=>match P.underlying t,ps.toList with
  | some (.slice e),[(0,x)]=>match P.info? e with
   | some i=>match i.zero with
    | some z=>sz.1==e&&sz.2==i.size&&len==1&&cN x x'&&z.cells.size==i.size&&decide (0<i.size)&&decide (i.size<=2^24)
    | none=>false
   | none=>false
  | _,_=>false
 | .call c,.appendO sz bytes x' y'=>match c.callee,c.args.toList,c.argTypes.toList with
  | .builtin .append,[x,y],[t,t']=>t==t'&&cN x x'&&cN y y'&&(match P.underlying t with
   | some (.slice e)=>(match P.info? e with
    | some i=>(match i.zero with
     | some z=>sz.1==e&&sz.2==i.size&&bytes==i.bytes&&z.cells.size==i.size
     | none=>false)
    | none=>false)
   | _=>false)
  | _,_,_=>false
 | .load t x,.wQ y=>match P.info? t,P.underlying t with
  | some i,some d=>cN x y&&i.size==1&&q9 d==false
  | _,_=>false
 | .load t x,.lendF y=>match P.info? t,P.underlying t with
  | some i,some d=>cN x y&&i.size==1&&q9 d==false
  | _,_=>false
 | .load t x,.load agg n y=>match P.info? t,P.underlying t with
  | some i,some d=>cN x y&&i.size==n&&agg==q9 d
  | _,_=>false
 | .store t x y,.store n x' y'=>match P.info? t with
  | some i=>i.size==n&&cN x x'&&cN y y'
  | none=>false
 | .store t x y,.storeR n x' y'=>match P.info? t with
  | some i=>i.size==n&&cN x x'&&cN y y'
  | none=>false
 | .store t x y,.storeP n x' y'=>match P.info? t with
  | some i=>i.size==n&&cN x x'&&cN y y'
  | none=>false
 | .binOp op t x y _,.bin Hj op' x' y'=>decide (op=op')&&cN x x'&&cN y y'&&(!Hj || (match P.underlying t with | some .bool=>true | _=>false))
 | .binOp op t x (.const (.pointer none)) _,.eqNil ne x'=>decide (op=match ne with | true=> .neq | false=> .eql)&&cN x x'&&(match P.underlying t with | some (.pointer _)=>true | _=>false)
 | .unOp .neg _ x,.neg y=>cN x y
 | .unOp .not _ x,.not y=>cN x y
 | .convert t t' x,.conv c y=>cN x y&&match c with
  | .int k=>(match P.underlying t with | some (.int _)=>true | _=>false)&&(match P.underlying t' with | some (.int k')=>k==k' | _=>false)
  | .str=>(match P.underlying t with | some .string=>true | _=>false)&&(match P.underlying t' with | some .string=>true | _=>false)
  | .bytesToStr=>(match P.underlying t with | some (.slice e)=>(match P.underlying e with | some (.int .u8)=>true | _=>false) | _=>false)&&(match P.underlying t' with | some .string=>true | _=>false)
 | .makeFunc (.func f) first xs,.mkfn g ys=>first.toList.isEmpty&&f==g&&tE xs.toList ys
 | .makeSlice t x y,.makeSlice sz bytes _ zero x' y'=>match P.underlying t with
  | some (.slice e)=>match P.info? e with
   | some i=>match i.zero with
    | some z=>sz.1==e&&sz.2==i.size&&bytes==i.bytes&&cN x x'&&cN y y'&&z.cells.size==i.size&&decide (0<i.size)&&d_ z.cells.toList zero
    | none=>false
   | none=>false
  | _=>false
 | .slice t x lo hi mx,.slice isStr sz x' lo' hi' mx'=>cN x x'&&wY lo lo'&&wY hi hi'&&wY mx mx'&&(match isStr with
  | true=>mx.isNone&&(match P.underlying t with | some .string=>true | _=>false)
  | false=>match P.underlying t with
   | some (.slice e)=>(match P.info? e with | some i=>sz.1==e&&sz.2==i.size | none=>false)
   | _=>false)
 | .fieldAddr t x f,.fieldAddr off y=>match P.underlying t with
  | some (.struct fs)=>match fs[f]? with
   | some fd=>match P.info? fd.type with
    | some i=>i.size !=0&&fd.offset==off&&cN x y
    | none=>false
   | none=>false
  | _=>false
 | .nilCheck x,.fieldAddr off y=>off==0&&cN x y
 | .field t x f,.field agg off n y=>match P.underlying t with
  | some (.struct fs)=>match fs[f]? with
   | some fd=>match P.info? fd.type,P.underlying fd.type with
    | some i,some d=>fd.offset==off&&i.size==n&&agg==q9 d&&cN x y
    | _,_=>false
   | none=>false
  | _=>false
 | .indexAddr t x i,.indexAddr sz y j=>match P.underlying t with
  | some (.slice e)=>(match P.info? e with | some n=>sz.1==e&&sz.2==n.size&&cN x y&&cN i j | none=>false)
  | _=>false
 | .index t x i,.index y j=>(match P.underlying t with | some .string=>true | _=>false)&&cN x y&&cN i j
 | .extract x i,.extract y j=>cN x y&&i==j
 | .call c,.len Bl y=>match c.callee,c.args.toList,c.argTypes.toList with
  | .builtin .len,[x],[t]=>cN x y&&(match Bl with
   | true=>(match P.underlying t with | some .string=>true | _=>false)
   | false=>(match P.underlying t with | some (.slice _)=>true | _=>false))
  | _,_,_=>false
 | .call c,.append sz bytes x' y'=>match c.callee,c.args.toList,c.argTypes.toList with
  | .builtin .append,[x,y],[t,t']=>t==t'&&cN x x'&&cN y y'&&(match P.underlying t with
   | some (.slice e)=>(match P.info? e with
    | some i=>(match i.zero with
     | some z=>sz.1==e&&sz.2==i.size&&bytes==i.bytes&&z.cells.size==i.size
     | none=>false)
    | none=>false)
   | _=>false)
  | _,_,_=>false
 | .call c,.call g _ _ ys=>match c.callee with
  | .value (.func f)=>f==g&&tE c.args.toList ys
  | _=>false
 | .call c,.callv fx _ _ ys=>match c.callee with
  | .value x=>cN x fx&&tE c.args.toList ys
  | _=>false
 | .call c,.callU _ g _ _ ys=>match c.callee with
  | .value (.func f)=>f==g&&tE c.args.toList ys
  | _=>false
 | .call c,.appendH sz bytes x' y'=>match c.callee,c.args.toList,c.argTypes.toList with
  | .builtin .append,[x,y],[t,t']=>t==t'&&cN x x'&&cN y y'&&(match P.underlying t with
   | some (.slice e)=>(match P.info? e with
    | some i=>(match i.zero with
     | some z=>sz.1==e&&sz.2==i.size&&bytes==i.bytes&&z.cells.size==i.size
     | none=>false)
    | none=>false)
   | _=>false)
  | _,_,_=>false
 | .call c,.appendE sz bytes x' y'=>match c.callee,c.args.toList,c.argTypes.toList with
  | .builtin .append,[x,y],[t,t']=>t==t'&&cN x x'&&cN y y'&&(match P.underlying t with
   | some (.slice e)=>(match P.info? e with
    | some i=>(match i.zero with
     | some z=>sz.1==e&&sz.2==i.size&&bytes==i.bytes&&z.cells.size==i.size
     | none=>false)
    | none=>false)
   | _=>false)
  | _,_,_=>false
 | .call c,.mx true x' y'=>match c.callee,c.args.toList with
  | .builtin .max,[x,y]=>cN x x'&&cN y y'
  | _,_=>false
 | .call c,.mx false x' y'=>match c.callee,c.args.toList with
  | .builtin .min,[x,y]=>cN x x'&&cN y y'
  | _,_=>false
 | .call c,.copy sz x' y'=>match c.callee,c.args.toList,c.argTypes.toList with
  | .builtin .copy,[x,y],[t,_]=>cN x x'&&cN y y'&&(match P.underlying t with
   | some (.slice e)=>(match P.info? e with | some i=>sz.1==e&&sz.2==i.size | none=>false)
   | _=>false)
  | _,_,_=>false
 | .call c,.capE x'=>match c.callee,c.args.toList,c.argTypes.toList with
  | .builtin .cap,[x],[t]=>cN x x'&&(match P.underlying t with | some (.slice _)=>true | _=>false)
  | _,_,_=>false
 | .call c,.appendN sz bytes _ zero x' y'=>match c.callee,c.args.toList,c.argTypes.toList with
  | .builtin .append,[x,y],[t,t']=>cN x x'&&cN y y'&&(match P.underlying t' with | some (.int _)=>true | _=>false)&&(match P.underlying t with
   | some (.slice e)=>(match P.info? e with
    | some i=>(match i.zero with
     | some z=>sz.1==e&&sz.2==i.size&&bytes==i.bytes&&z.cells.size==i.size&&decide (0<i.size)&&d_ z.cells.toList zero
     | none=>false)
    | none=>false)
   | _=>false)
  | _,_,_=>false
 | _,.bad=>true
 | _,_=>false
section
variable {P:Program} {call:FuncId->List AV->List (Option Obj)->Option bk} {loop:Nat->St->Option (Out×St)}
variable {s:St} {a:Act} {w:World} {L:Loc} {Z:Nat->Prop}
theorem qK {f:FuncId} (h:iI P f=true) (args:Array Value):(callFunc f args).run P w= .ok (.enter f args) w:=by
 unfold iI at h;split at h
 ·rename_i fn hf;simp only [ah,Bool.not_eq_true']at h;obtain ⟨h1,h2⟩:=h;have h3:fn.body.isNone=false:=by cases hb:fn.body<;>simp [hb]at h1 |-
  unfold callFunc;have h4:¬fn.name= "runtime.NumGoroutine" :=by simpa using h2
  have h5:¬fn.body=none:=by intro e;rw [e]at h3;cases h3
  simp [hf,h4,h5]
 ·cases h
theorem vE {np:Nat} {o:Oper} {f:FuncId} {m:kH} {raw:Bool} {as:List AV} {vs:List Value} {r:AV} {s':St} (hco:gX P call) (h:RS s a w L Z) (hv:dg (aF w Z L s.sto) as vs) (ht:∀t,o.dst=some t->t<np)
  (e:eJ (real call loop) f m raw as o.dst s=some (r,s')) (hrun:iI P f=true->(execOp a.eval o).run P w= .ok (.enter f vs.toArray) w):aX P np o s a w L Z r s':=by
 intro K Q hk;have h0:=Cc (np:=np) hco h hv ht e;unfold Oper.wp;rw [hrun (h0 (fun _ _=>True) (fun _ _ _ _ _ _ _=>trivial)).1];rw [Oper.upon_enter];exact (h0 _ fun v w' L' Z' k1 k2 k3=>hk v w' L' Z' k1 k2 k3).2
theorem xA {np:Nat} {o:Oper} {c:Call} {f:FuncId} {m:kH} {raw:Bool} {as:List AV} {ys:List VX} {r:AV} {s':St} (hco:gX P call) (h:RS s a w L Z) (ho:o.op= .call c) (hc:c.callee= .value (.func f)) (hx:tE c.args.toList ys=true)
  (e1:wP s.env ys=some as) (ht:∀t,o.dst=some t->t<np) (e:eJ (real call loop) f m raw as o.dst s=some (r,s')):aX P np o s a w L Z r s':=by
 refine vE hco h (oN h hx e1) ht e fun hcl=> ?_
 unfold execOp;rw [ho];simp [resolve,hc,Deferred.ofValue,invoke,Act.eval,qK hcl,<-Array.toList_map]
theorem Cd {np:Nat} {o:Oper} {c:Call} {x:Operand} {fx:VX} {f:FuncId} {cap:List AV} {m:kH} {raw:Bool} {as:List AV} {ys:List VX} {r:AV} {s':St} (hco:gX P call) (h:RS s a w L Z) (ho:o.op= .call c) (hc:c.callee= .value x) (hxf:cN x fx=true) (hx:tE c.args.toList ys=true)
  (e0:ev s.env fx=some (.fn f cap)) (e1:wP s.env ys=some as) (ht:∀t,o.dst=some t->t<np) (e:eJ (real call loop) f m raw (as++cap) o.dst s=some (r,s')):aX P np o s a w L Z r s':=by
 have h1:=aL h hxf e0;simp only [RV]at h1;obtain ⟨vs,h1,h2⟩:=h1;have h3:=oN h hx e1;have h4:dg (aF w Z L s.sto) (as++cap) (c.args.toList.map a.eval++vs):=by
  rw [bL]at h2 h3 |-;refine ⟨by simp [h2.1,h3.1],fun i y v hy hv=> ?_⟩;rw [List.getElem?_append]at hy hv;rw [<-h3.1]at hv;split at hy
  ·rename_i hlt;rw [if_pos hlt]at hv;exact h3.2 i y v hy hv
  ·rename_i hlt;rw [if_neg hlt]at hv;exact h2.2 _ y v hy hv
 refine vE hco h h4 ht e fun hcl=> ?_
 unfold execOp;rw [ho];have:c.args.map a.eval++vs.toArray=(c.args.toList.map a.eval++vs).toArray:=by
  apply Array.ext';simp
 simp [resolve,hc,h1,Deferred.ofValue,invoke,qK hcl]
end
end Go.Vi
