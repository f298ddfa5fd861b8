import Derived.Test.YtfnagkpidcdocaaGreatM06
import Derived.Lib.AppendZeros
import Derived.Laws.CopyRow
set_option linter.all false
namespace Go.Vi
open Go Go.RowKit
section
variable {P:Program} {call:dh} {loop:di}
variable {s:St} {a:Act} {w w':World} {L L':Loc} {Z Z':Nat->Prop}
theorem RS.more (h:RS s a w L Z) (np:Nat) (hk:∀b,b<w.heap.size->w'.heap[b]? =w.heap[b]?) (E:w.heap.size<=w'.heap.size) (M:w'.os=w.os) (O:w'.tape=w.tape) (S:w'.output=w.output):
  RS s a w' L Z/\Tr np s.sto s.sto w w' L L Z Z:=by
 have U:ko w w' Z Z:=λb e=>⟨e,hk b (h.dis b e).1⟩
 have I:∀q,(s.sto.get q).isSome->Same (aI w Z L s.sto) (aI w' Z L s.sto) q:=λq j=>by
  obtain ⟨ob,ho⟩:=Option.isSome_iff_exists.1 j;exact ⟨rfl,λk=>k,λsz xs k=>⟨xs,k,rfl⟩,λb e _=>dP (hk b (h.block_lt ho e))⟩
 refine ⟨⟨h.defers,cO (c:=aI w Z L s.sto) (c':=aI w' Z L s.sto) U _ _ (λq j=>I q (eE _ _ h.env q j)) h.env,λr ob J=> ?_,h.injH,λb e=>⟨Nat.lt_of_lt_of_le (h.dis b e).1 E,(h.dis b e).2⟩⟩,
  ⟨M,O,S,E,λb e _=>hk b e,λ_ h=> .inl h,λ_ h=>h,λ_ h=> .inl h,λ_ _=>rfl,λq _ j=>⟨j,I q j⟩⟩⟩
 exact jr (c:=aI w Z L s.sto) (c':=aI w' Z L s.sto) U rfl rfl (λb e=>hk b (h.fJ J e)) (λq j=>I q (kV (h.obj r ob J) q j)) (h.obj r ob J)
mutual
theorem Hq {s:bC}:∀(x x':AV),x.refs=[]->snap (real call loop) s x=some x'->x'.refs=[]
 | .emp,x',_,e=>by simp only[snap]at e;injection e with e;subst e;rfl
 | .arr r sz g u,x',h,e=>by simp[AV.refs]at h
 | .agg cs,x',h,e=>by
  simp only[snap]at e;split at e
  case h_2=>cases e
  rename_i ds hc;injection e with e;subst e;simp only[AV.refs]at h |-;exact jJ cs ds h hc
 | .undef,x',h,e=>by simp only[snap]at e;injection e with e;subst e;exact h
 | .bare,x',h,e=>by simp only[snap]at e;injection e with e;subst e;exact h
 | .d _,x',h,e=>by simp only[snap]at e;injection e with e;subst e;exact h
 | .tup _,x',h,e=>by simp only[snap]at e;injection e with e;subst e;exact h
 | .nilp,x',h,e=>by simp only[snap]at e;injection e with e;subst e;exact h
 | .ptr _ _,x',h,e=>by simp[AV.refs]at h
 | .prow _ _ _ _,x',h,e=>by simp only[snap]at e;injection e with e;subst e;exact h
 | .sp _ _,x',h,e=>by simp only[snap]at e;injection e with e;subst e;exact h
 | .fn _ _,x',h,e=>by simp only[snap]at e;injection e with e;subst e;exact h
theorem jJ {s:bC}:∀(xs xs':List AV),AV.bR xs=[]->jz (real call loop) s xs=some xs'->AV.bR xs'=[]
 | [],xs',_,e=>by simp only[jz]at e;injection e with e;subst e;rfl
 | x::xs,xs',h,e=>by
  simp only[jz]at e;split at e
  case h_2=>cases e
  rename_i y hc;split at e
  case h_2=>cases e
  rename_i ys j;injection e with e;subst e;simp only[AV.bR,List.append_eq_nil_iff]at h |-;exact ⟨Hq x y h.1 hc,jJ xs ys h.2 j⟩
end
mutual
theorem eY {w:World} {Z Z':Nat->Prop}:∀(x:D) (cs:List Value),fw x=true->RD w Z x cs->RD w Z' x cs
 | .int _ _,cs,_,h=>by simpa only [RD]using h
 | .bool _,cs,_,h=>by simpa only [RD]using h
 | .str _,cs,_,h=>by simpa only [RD]using h
 | .own _ _,cs,_,h=>by simpa only [RD]using h
 | .agg ds,cs,hc,h=>by simp only[RD]at h |-;exact vk ds cs (by simpa only [fw]using hc) h
 | .lst xs,cs,hc,h=>by
  simp only[fw,List.isEmpty_iff]at hc;subst hc;simp only[RD]at h |-;obtain ⟨a,c,e,j,_⟩:=h;exact ⟨a,c,e,j,.inl trivial⟩
theorem vk {w:World} {Z Z':Nat->Prop}:∀(xs:List D) (cs:List Value),cJ xs=true->fL w Z xs cs->fL w Z' xs cs
 | [],cs,_,h=>by simpa only [fL]using h
 | x::xs,cs,hc,h=>by
  simp only[cJ,af]at hc;simp only[fL]at h |-;obtain ⟨v,cs',e,j,h3⟩:=h;exact ⟨v,cs',e,eY x _ hc.1 j,vk xs _ hc.2 h3⟩
end
theorem vo {w:World} {Z Z':Nat->Prop} {b sz:Nat}:∀(xs:List D) (o:Nat),cJ xs=true->Rows w Z xs b o sz->Rows w Z' xs b o sz
 | [],o,_,_=>by simp only[Rows]
 | x::xs,o,hc,h=>by
  simp only[cJ,af]at hc;simp only[Rows]at h |-;obtain ⟨⟨cs,e,j,h3⟩,h4⟩:=h;exact ⟨⟨cs,e,eY x _ hc.1 j,h3⟩,vo xs _ hc.2 h4⟩
mutual
theorem AL {w:World} {Z Z':Nat->Prop}:∀(x:D) (v:Value) (F:List Nat),fw x=true->OC w Z x v F->OC w Z' x v F
 | .own sz xs,v,F,hc,h=>by
  simp only[OC]at h |-;obtain ⟨a,c,e,j⟩:=h;refine ⟨a,c,e,j.imp id ?_⟩;rintro ⟨b,vs,F',E,I,J,M,O,S,U⟩;exact ⟨b,vs,F',E,I,J,M,O,S,rN sz.2 xs _ F' (by simpa only [fw]using hc) U⟩
 | .agg _,_,_,_,h=>by simp[OC]at h
 | .int k n,v,F,hc,h=>by simp only[OC]at h |-;exact ⟨eY _ _ hc h.1,h.2⟩
 | .bool b,v,F,hc,h=>by simp only[OC]at h |-;exact ⟨eY _ _ hc h.1,h.2⟩
 | .str s,v,F,hc,h=>by simp only[OC]at h |-;exact ⟨eY _ _ hc h.1,h.2⟩
 | .lst xs,v,F,hc,h=>by simp only[OC]at h |-;exact ⟨eY _ _ hc h.1,h.2⟩
theorem yt {w:World} {Z Z':Nat->Prop}:∀(xs:List D) (vs:List Value) (F:List Nat),cJ xs=true->nE w Z xs vs F->nE w Z' xs vs F
 | [],vs,F,_,h=>by simpa only [nE]using h
 | d::ds,vs,F,hc,h=>by
  simp only[cJ,af]at hc;simp only[nE]at h |-;obtain ⟨v,vs',F1,F2,e,j,h3,h4⟩:=h;exact ⟨v,vs',F1,F2,e,j,AL d v F1 hc.1 h3,yt ds vs' F2 hc.2 h4⟩
theorem Hr {w:World} {Z Z':Nat->Prop}:∀(x:D) (vs:List Value) (F:List Nat),fw x=true->OE w Z x vs F->OE w Z' x vs F
 | .agg ds,vs,F,hc,h=>by simp only[OE]at h |-;exact yt ds vs F (by simpa only [fw]using hc) h
 | .own sz xs,vs,F,hc,h=>by simp only[OE]at h |-;obtain ⟨v,e,j⟩:=h;exact ⟨v,e,AL (.own sz xs) v F hc j⟩
 | .int k n,v,F,hc,h=>by simp only[OE]at h |-;exact ⟨eY _ _ hc h.1,h.2⟩
 | .bool b,v,F,hc,h=>by simp only[OE]at h |-;exact ⟨eY _ _ hc h.1,h.2⟩
 | .str s,v,F,hc,h=>by simp only[OE]at h |-;exact ⟨eY _ _ hc h.1,h.2⟩
 | .lst xs,v,F,hc,h=>by simp only[OE]at h |-;exact ⟨eY _ _ hc h.1,h.2⟩
theorem rN {w:World} {Z Z':Nat->Prop} (n:Nat):∀(xs:List D) (vs:List Value) (F:List Nat),cJ xs=true->jo w Z n xs vs F->jo w Z' n xs vs F
 | [],vs,F,_,h=>by simpa only [jo]using h
 | x::xs,vs,F,hc,h=>by
  simp only[cJ,af]at hc;simp only[jo]at h |-;obtain ⟨F1,F2,e,j,h3,h4⟩:=h;exact ⟨F1,F2,e,j,Hr x _ F1 hc.1 h3,rN n xs _ F2 hc.2 h4⟩
end
mutual
theorem Hs {w:World} {Z Z':Nat->Prop} {L:Loc} {g:Id->Option Obj}:∀(x:AV) (v:Value),fq x=true->RV ⟨w,Z,L,g⟩ x v->RV ⟨w,Z',L,g⟩ x v
 | .d (.int _ _),v,_,h=>by simpa only [RV,RD]using h
 | .d (.bool _),v,_,h=>by simpa only [RV,RD]using h
 | .d (.str _),v,_,h=>by simpa only [RV,RD]using h
 | .d (.lst _),v,hc,_=>by simp[fq]at hc
 | .d (.agg _),v,hc,_=>by simp[fq]at hc
 | .d (.own _ _),v,hc,_=>by simp[fq]at hc
 | .emp,v,_,h=>by simpa only [RV]using h
 | .arr r sz gg u,v,_,h=>by simpa only [RV]using h
 | .agg cs,v,hc,h=>by
  simp only[RV]at h |-;obtain ⟨vs,e,j⟩:=h;exact ⟨vs,e,ow cs vs (by simpa only [fq]using hc) j⟩
 | .tup cs,v,hc,h=>by
  simp only[RV]at h |-;obtain ⟨vs,e,j⟩:=h;exact ⟨vs,e,ow cs vs (by simpa only [fq]using hc) j⟩
 | .undef,v,hc,_=>by simp[fq]at hc
 | .bare,v,hc,_=>by simp[fq]at hc
 | .nilp,v,hc,_=>by simp[fq]at hc
 | .ptr _ _,v,hc,_=>by simp[fq]at hc
 | .prow _ _ _ _,v,hc,_=>by simp[fq]at hc
 | .sp _ _,v,hc,_=>by simp[fq]at hc
 | .fn _ _,v,hc,_=>by simp[fq]at hc
theorem ow {w:World} {Z Z':Nat->Prop} {L:Loc} {g:Id->Option Obj}:∀(xs:List AV) (vs:List Value),nD xs=true->dH ⟨w,Z,L,g⟩ xs vs->dH ⟨w,Z',L,g⟩ xs vs
 | [],vs,_,h=>by simpa only [dH]using h
 | x::xs,vs,hc,h=>by
  simp only[nD]at hc;split at hc
  case h_2=>cases hc
  rename_i e;simp only[dH]at h |-;obtain ⟨v,vs',j,E,h3⟩:=h;exact ⟨v,vs',j,Hs x v e E,ow xs vs' hc h3⟩
end
theorem yu {X:List (Option Obj)} (h:jS (real call loop) X=true):∀j ob,jX X j=some ob->∃sz xs,cJ xs=true/\(ob= .rows sz xs\/ob= .orows sz xs):=by
 induction X with
 | nil=>intro j ob e;simp[jX]at e
 | cons o X J=>
  intro j ob e;unfold jS at h;split at h
  ·rename_i hh;cases hh
  ·rename_i sz xs l hh;injection hh with E I;subst E I;split at h
   case h_2=>cases h
   rename_i hc;cases j with
   | zero=>simp[jX]at e;exact ⟨sz,xs,hc,.inl e.symm⟩
   | succ j=>exact J h j ob (by simpa [jX]using e)
  ·rename_i sz xs l hh;injection hh with E I;subst E I;split at h
   case h_2=>cases h
   rename_i hc;cases j with
   | zero=>simp[jX]at e;exact ⟨sz,xs,hc,.inr e.symm⟩
   | succ j=>exact J h j ob (by simpa [jX]using e)
  cases h
theorem Ht {w:World} {Z Z':Nat->Prop} {L:Loc} {g:Id->Option Obj} {r:Id} {ob:Obj} (h:∃sz xs,cJ xs=true/\(ob= .rows sz xs\/ob= .orows sz xs)) (e:RO ⟨w,Z,L,g⟩ r ob):RO ⟨w,Z',L,g⟩ r ob:=by
 obtain ⟨sz,xs,hc,rfl | rfl⟩:=h
 ·simp only[RO]at e |-;refine ⟨e.1,λb j=> ?_⟩;obtain ⟨vs,E,k2,I⟩:=e.2 b j;exact ⟨vs,E,k2,vo xs _ hc I⟩
 simp only[RO]at e |-;refine ⟨e.1,λb j=> ?_⟩;obtain ⟨vs,F,E,k2,I,J,M⟩:=e.2 b j;exact ⟨vs,F,E,k2,rN _ xs _ F hc I,J,M⟩
theorem Ci {m:mE} {as as':List AV} {s2:St} {vs:List Value} (np:Nat) (h:RS s a w L Z) (I:dH (aI w Z L s.sto) as vs) (S:m≠ .bor) (U:(m != .pure || (AV.bR as).isEmpty)=true)
  (e:handed (real call loop) m as s=some (as',s2)):
  ∃j,RS s2 a w L j/\Tr np s.sto s2.sto w w L L Z j/\((∀r∈AV.bR as',(s2.sto.get r).isSome)->dH (aI w j L s2.sto) as' vs):=by
 cases m with
 | bor=>exact (S rfl).elim
 | ref=>
  simp only[handed]at e;injection e with e;injection e with J M;subst J M;exact ⟨Z,h,Tr.refl _ _ _ _ _,λ_=>I⟩
 | frz=>
  simp only[handed]at e;obtain ⟨j,V,k2,_,k4⟩:=lm np as vs s s2 as' Z h (Kept.refl _ _ _ _) I e;exact ⟨j,V,k2,k4⟩
 | pure=>
  simp only[handed]at e;have O:AV.bR as=[]:=by simpa using U
  split at e
  case h_2=>cases e
  rename_i a0 E;injection e with e;injection e with J M;subst J M;refine ⟨Z,h,Tr.refl _ _ _ _ _,λ_=> ?_⟩;exact mH h.obj (λ_ hb=>hb) as vs _ I (λm=>(m O).elim) E (jJ as _ O E) L s.sto.get
theorem Hu {ids:List Id} {pars:List (Option Obj)} {env:List AV} {sto:bC} {f:Id->Id} (e:ids.length=pars.length) (J:∀(i:Nat) (q:Id),ids[i]? =some q->sto.get q=(jX pars i).map (·.map f)):
  St.buried ids pars ⟨env,sto⟩=⟨AV.aP (λr=>ids.contains r&&(sto.get r).isNone) env,sto.forget λr=>ids.contains r&&(sto.get r).isNone⟩:=by
 unfold St.buried;cases M:gK pars with
 | false=>rfl
 | true=>
  have j:∀r,(ids.contains r&&(sto.get r).isNone)=false:=by
   intro r;by_cases E:r∈ids
   ·have hi:=tv E;have I:idx ids r<pars.length:=by rw[<-e];exact (ax.1 hi).1
    have:=EH M _ I;rw[J _ _ hi];cases O:jX pars (idx ids r)with
    | none=>simp[O]at this
    | some _=>simp
   simp[E]
  rw[dG j,nL j]
theorem EL {np:Nat} {f:FuncId} {m:mE} {raw:Bool} {as:List AV} {dst:Option Nat} {s':St} {r:AV} (a0:iS P call) (h:RS s a w L Z) {vs:List Value} (hv:dH (aI w Z L s.sto) as vs) (ht:∀t,dst=some t->t<np)
  (e:dJ (real call loop) f m raw as dst s=some (r,s')) (Q:Ending->World->Prop)
  (hQ:∀v w' L' Z',RS s' a w' L' Z'->Tr np s.sto s'.sto w w' L L' Z Z'->RV (aI w' Z' L' s'.sto) r v->Q (.returned v) w'):jq P (zh f)=true/\Calls P (zh f) vs.toArray w Q:=by
 unfold dJ at e;split at e
 ·split at e
  ·cases e
  rename_i as' ae;split at e
  ·cases e
  rename_i aa;have a7:AV.bR as'=[]:=by simpa using aa
  split at e
  ·cases e
  rename_i c hc;have J:∀b,¬aY [[],[]] Loc.none b:=by
   rintro b ⟨q,o,S,_⟩;rcases kU S with ⟨_,E⟩ | ⟨_,E⟩<;>simp[jX]at E
  have a3:jq P (zh f)=true/\∀Q:Ending->World->Prop,(∀v w' L' Z',RS ⟨[c.ret],[c.extra,c.pars]⟩ ⟨#[v],[]⟩ w' L' Z'->Tr 1 [[],[]] [c.extra,c.pars] w w' Loc.none L' (λb=>Z b\/aY s.sto L b) Z'->Q (.returned v) w')->Calls P (zh f) vs.toArray w Q:=by
   have ag:=mH (Zc:=λb=>Z b\/aY s.sto L b) h.obj (λ_ M=> .inl M) as vs as' hv (λ_ q o ho b M=> .inr ⟨q,o,ho,M⟩) ae a7 Loc.none (bC.get [[],[]]);refine ⟨(a0 f as' [] c hc).1,(a0 f as' [] c hc).2 vs.toArray w Loc.none (λb=>Z b\/aY s.sto L b) ⟨rfl,by simpa using ag,λq ob I=> ?_,λq q' b o o' I=> ?_,λb M=>⟨?_,J b⟩⟩⟩
   ·rcases kU I with ⟨_,E⟩ | ⟨_,E⟩<;>simp[jX]at E
   ·rcases kU I with ⟨_,E⟩ | ⟨_,E⟩<;>simp[jX]at E
   rcases M with M | ⟨q,o,S,E⟩
   ·exact (h.dis b M).1
   exact h.fJ S E
  split at e
  case h_2=>
   split at e
   case h_2=>cases e
   rename_i tt a8 am a4;split at e
   case h_2=>cases e
   rename_i s3 hl;injection e with e;injection e with U V;subst U V;obtain ⟨c1,c2⟩:=a3;refine ⟨c1,c2 Q λv w' L' Z' k t=> ?_⟩;rw[a8]at k t;have k':RS ⟨[c.ret],[c.extra,[]]⟩ ⟨#[v],[]⟩ w' L' Z:=by
    refine ⟨rfl,ow _ _ (by simp[nD,am]) k.env,λq ob I=> ?_,k.injH,λb M=>⟨Nat.lt_of_lt_of_le (h.dis b M).1 t.size,λhl=> ?_⟩⟩
    ·rcases kU I with ⟨_,E⟩ | ⟨_,E⟩
     ·exact Ht (yu a4 _ _ E) (k.obj q ob I)
     simp[jX]at E
    rcases t.lives b hl with S | S
    ·exact J b S
    have:=(h.dis b M).1;omega
   have t':Tr 1 [[],EJ s.sto []] [c.extra,[]] w w' (Dx [] L) L' Z Z:=by
    refine ⟨t.os,t.tape,t.output,t.size,λb M _=>t.keep b M (J b),λb hl=> .inr ((t.lives b hl).resolve_left (J b)),λ_ h=>h,λ_ h=> .inl h,λr hr=> ?_,λr hr hs=> ?_⟩
    ·rw[t.par r hr];simp[Dx,Loc.none]
    obtain ⟨p1,_⟩:=t.psame r hr hs;obtain ⟨o,ho⟩:=Option.isSome_iff_exists.1 p1;rcases kU ho with ⟨_,E⟩ | ⟨_,E⟩<;>simp[jX]at E
   obtain ⟨l1,l2⟩:=eU hl;have hg:=dX l1;have hf:=gW l1;have a5:c.ret.map (λr=>(tt,r.2))=c.ret.map (λr=>if r.1=1 then ([]:List Id).getD r.2 (0,0)else (tt,r.2)):=by
    refine qb _ λr hr=> ?_
    have:=eE _ _ k'.env r (by simpa [AV.bR]using hr);obtain ⟨o,ho⟩:=Option.isSome_iff_exists.1 this;rcases kU ho with ⟨S,E⟩ | ⟨_,E⟩
    ·rw[if_neg (by omega)]
    simp[jX]at E
   have hX:∀j,(jX c.extra j).map (·.map λr=>(tt,r.2))=(jX c.extra j).map (·.map λr:Id=>if r.1=1 then ([]:List Id).getD r.2 (0,0)else (tt,r.2)):=by
    intro j;cases hj:jX c.extra j with
    | none=>rfl
    | some ob=>obtain ⟨sz,xs,_,rfl | rfl⟩:=yu a4 j ob hj<;>rfl
   have ap:∀(s:bC),s.forget (λr=>([]:List Id).contains r&&(s.get r).isNone)=s:=λs=>nL (λr=>by simp) s
   by_cases a9:c.extra=[]
   ·rw[a9]at k' t' hg;obtain ⟨L2,r1,r2,r3⟩:=qB (np:=np) (tt:=tt) (sto:=s.sto) (fin:=s3.sto) (env:=s3.env) h (by simp) (by simp) k' t' (λO=>(O rfl).elim) _ (λr=>rfl) rfl (λ_ _=>rfl) (by simp) (λ_=>false) (λr=>by simp) (by rw[l2,dG (λ_=>rfl)])
     (λq=>by
      rw[if_neg (by rintro ⟨h,_⟩;exact h rfl),hg];by_cases I:q.1=tt
      ·rw[if_pos I,hf q I];simp
      rw[if_neg I];cases s.sto.get q with
      | none=>rfl
      | some o=>simp[nK]) (λO=>(O rfl).elim)
    rw[<-a5]at r3;exact hQ v w' L2 Z r1 r2 r3
   obtain ⟨L2,r1,r2,r3⟩:=qB (np:=np) (tt:=tt) (sto:=s.sto) (fin:=s3.sto) (env:=s3.env) h (by simp) (by simp) k' t' (λ_=>ht tt rfl) _ (λr=>rfl) rfl (λ_ _=>rfl) (by simp) (λ_=>false) (λr=>by simp) (by rw[l2,dG (λ_=>rfl)])
    (λq=>by
     rw[hg];by_cases I:q.1=tt
     ·rw[if_pos I,if_pos ⟨a9,I⟩,<-hX,<-Gj];rfl
     rw[if_neg I,if_neg (λhh=>I hh.2)];cases s.sto.get q with
     | none=>rfl
     | some o=>simp[nK]) (λ_ q I=>hf q I)
   rw[<-a5]at r3;exact hQ v w' L2 Z r1 r2 r3
  rename_i a1;injection e with e;injection e with U V;subst U V;obtain ⟨c1,c2⟩:=a3;refine ⟨c1,c2 Q ?_⟩
  intro v w' L' Z' k t;have hk:∀b,b<w.heap.size->w'.heap[b]? =w.heap[b]? :=λb M=>t.keep b M (J b)
  obtain ⟨k1,k2⟩:=h.more np hk t.size t.os t.tape t.output;refine hQ v w' L Z k1 k2 ?_;have S:=k.env;simp only[dH]at S;obtain ⟨v',vs',U,E,V⟩:=S;subst V;have:v'=v:=by have:[v]=[v']:=U;injection this with this;exact this.symm
  subst this;generalize c.ret=x at E a1;cases x with
  | d y=>cases y<;>first | (simp[scalar]at a1;done) | (simp only[RV,RD]at E |-;exact E)
  | bare=>simpa only [RV]using E
  | tup l=>cases l with
   | nil=>simp only[RV,dH]at E |-;exact E
   | cons _ _=>simp[scalar]at a1
  | _=>simp[scalar]at a1
 rename_i hm;split at e
 ·cases e
 rename_i hp;split at e
 ·cases e
 rename_i as' s2 hh;obtain ⟨Z2,g1,g2,g3⟩:=Ci np h hv (λe=>hm e) hp hh;split at e
 ·cases e
 rename_i ids ac;obtain ⟨i1,i2,i3,_,i5⟩:=mF 60 _ [] ids ac (by simp) (by simp) (by simp);split at e
 ·cases e
 rename_i c hc;simp only at e;split at e
 ·cases e
 rename_i sto an;obtain ⟨b1,b2,b3⟩:=yp an i1 i2;have a6:∀(i:Nat) (q:Id),ids[i]? =some q->sto.get q=(jX c.pars i).map (·.map λr=>if r.1=1 then ids.getD r.2 (0,0)else (dst.getD 0,r.2)):=by
  intro i q hi;rw[b3 i q hi];unfold jX;cases c.pars[i]? <;>rfl
 rw[Hu b1 a6]at e;have ao:=Mn g1 i1 i5 (g3 λr hr=>i2 r (i3 r hr)) i3;refine ⟨(a0 f _ _ c hc).1,(a0 f _ _ c hc).2 vs.toArray w (Dx ids L) Z2 ao Q ?_⟩;intro v w' L' Z' k t;split at e
 ·rename_i hX;injection e with e;injection e with U V;subst U V;rw[hX]at k t;obtain ⟨L2,r1,r2,r3⟩:=qB (np:=np) (tt:=dst.getD 0) (sto:=sto) (fin:=sto.forget λr=>ids.contains r&&(sto.get r).isNone) g1 i1 i2 k t (λO=>(O rfl).elim) _ (λr=>rfl) b1 b2 a6 _ (λr=>rfl) rfl
   (λq=>by rw[lO,if_neg (by rintro ⟨h,_⟩;exact h rfl)]) (λO=>(O rfl).elim)
  exact hQ v w' L2 Z' r1 (g2.trans r2) r3
 rename_i o ex hX;split at e
 case h_2=>cases e
 rename_i tt;split at e
 case h_2=>cases e
 rename_i s3 hl;injection e with e;injection e with U V;subst U V;rw[hX]at k t;obtain ⟨l1,l2⟩:=eU hl;have hg:=dX l1;have hf:=gW l1;obtain ⟨L2,r1,r2,r3⟩:=qB (np:=np) (tt:=tt) (sto:=sto) (fin:=s3.sto) (env:=s3.env) g1 i1 i2 k t (λ_=>ht tt rfl) _ (λr=>rfl) b1 b2 a6 _ (λr=>rfl) l2
  (λq=>by
   rw[hg];by_cases I:q.1=tt
   ·rw[if_pos I,if_pos ⟨by simp,I⟩,<-Gj];rfl
   ·rw[if_neg I,if_neg (λhh=>I hh.2),lO]) (λ_ q I=>by
   have:=hf q I;rw[lO]at this;cases hx:sto.get q with
   | none=>rfl
   | some _=>simp[hx]at this)
 exact hQ v w' L2 Z' r1 (g2.trans r2) r3
end
section
section
variable {P:Program} {call:dh} {loop:di}
variable {s:St} {a:Act} {w:World} {L:Loc} {Z:Nat->Prop}
theorem Gk {np:Nat} {o:Oper} {c:Call} {isMax:Bool} {x y:Operand} {x' y':VX} {dst:Option Nat} {r:AV} {s':St} (h:RS s a w L Z) (ho:o.op= .call c)
  (hc:c.callee= .builtin (match isMax with | true=> .max | false=> .min)) (U:c.args.toList=[x,y]) (V:dr x x'=true) (hy:dr y y'=true)
  (e:aK (real call loop) s dst (.mx isMax x' y')=some (r,s')):aZ P np o s a w L Z r s':=by
 simp only[aK]at e;split at e
 case h_2=>cases e
 rename_i k p k' q e1 e2;split at e
 case isFalse=>cases e
 rename_i hk;subst hk;have M:=aO h V e1;have O:=aO h hy e2;simp only[RV,RD,List.cons.injEq,and_true]at M O;have J:c.args= #[x,y]:=Array.ext' U;have key:∀n:Int,(match isMax with | true=>(if q>p then q else p) | false=>(if q<p then q else p))=n->r= .d (.int k n)->s'=s->aZ P np o s a w L Z r s':=by
  intro n S hr hs;subst hr hs;refine aZ.pure h (u:= .int k n) ?_ (by simp only[RV,RD]);unfold execOp;rw[ho];cases isMax with
  | true=>simp[resolve,hc,invoke,builtin,J,M,O,Builtin.max_,Builtin.max2,<-S]
  | false=>simp[resolve,hc,invoke,builtin,J,M,O,Builtin.min_,Builtin.min2,<-S]
 simp only[real,aM.cmp,rV]at e;split at e
 ·rename_i j;have j:p<q:=by simpa using j
  cases isMax with
  | true=>injection e with e;injection e with E I;exact key q (by simp only;rw[if_pos j]) E.symm I.symm
  | false=>injection e with e;injection e with E I;exact key p (by simp only;rw[if_neg (by omega)]) E.symm I.symm
 rename_i j;have j:¬p<q:=by simpa using j
 cases isMax with
 | true=>injection e with e;injection e with E I;exact key p (by simp only;rw[if_neg (by omega)]) E.symm I.symm
 | false=>injection e with e;injection e with E I;exact key q (by simp only;split<;>omega) E.symm I.symm
theorem Hv {np:Nat} {o:Oper} {c:Call} {x:Operand} {x':VX} {t e:TypeId} {dst:Option Nat} {r:AV} {s':St} (h:RS s a w L Z) (ho:o.op= .call c)
  (hc:c.callee= .builtin .cap) (J:c.args.toList=[x]) (M:c.argTypes.toList=[t]) (O:P.underlying t=some (.slice e)) (S:dr x x'=true)
  (es:aK (real call loop) s dst (.capE x')=some (r,s')):aZ P np o s a w L Z r s':=by
 simp only[aK]at es;split at es
 case h_2=>cases es
 rename_i U;injection es with es;injection es with V q2;subst V q2;have j:=aO h S U;simp only[RV]at j;obtain ⟨A,j⟩:=j;have E:c.args= #[x]:=Array.ext' J;have I:c.argTypes= #[t]:=Array.ext' M;refine aZ.pure h (u:= .int .i64 0) ?_ (by simp only[RV,RD]);unfold execOp;rw[ho];simp[resolve,hc,invoke,builtin,E,I,j,Builtin.cap_,run_underlying O,goInt]
theorem vV (w:World) (A:Option Addr) (size cap:Nat):(Builtin.firstCells size 0 (.slice A 0 cap)).run P w= .ok #[] w:=by
 cases A<;>simp[Builtin.firstCells,loadCells,loadCellsFrom]
theorem uE (w:World) (t tn ty e:TypeId) (i:TypeInfo) (z:Value) (k kn:IntKind) (A:Option Addr) (U:P.underlying t=some (.slice e)) (M:P.underlying tn=some (.int kn)) (hi:P.info? e=some i) (V:i.zero=some z)
  (n:Nat) (h0:0<n) (hs:0<i.size) (a0:(n:Int)<=9223372036854775807) (a1:n*i.bytes<=281474976710656):
  (Builtin.append_ #[t,tn] ty #[.slice A 0 0,.int k n]).run P w=
   .ok (.slice (some ⟨w.heap.size,0,none⟩) n (grownCap w n 0 e)) (w.drew.alloc (.cells (Builtin.zeroCells z.cells n++Builtin.zeroCells z.cells (grownCap w n 0 e-n)) e)):=by
 have O:n≠0:=by omega
 have hw:IntKind.i64.wrap (n:Int)=n:=by rw[IntKind.wrap_i64];omega
 have j:¬(9223372036854775807<(n:Int)):=by omega
 have E:¬(281474976710656<Builtin.nextslicecap n 0*i.bytes):=by rw[nextslicecap_zero h0];omega
 have I:¬(281474976710656<(n:Int)*(i.bytes:Int)):=by
  rw[<-Int.natCast_mul];omega
 have J:¬((n:Int)<0):=by omega
 have S:¬(n*i.size=0):=Nat.mul_ne_zero O (by omega);simp[Builtin.append_,run_underlying U,run_underlying M,sizeOf,typeInfo,zeroValue,hi,V,Go.asInt,Go.asIntOf,hw,O,J,S,j,E,I,Question.forced,vV,newRow,grownCap]
theorem Cj {np t:Nat} {s':St} {o:Oper} {ty tn e:TypeId} {i:TypeInfo} {z:Value} {kn:IntKind} {x y:Operand} {x' y':VX} {agg:Bool} {zero:List AV} {r:AV}
  (h:RS s a w L Z) (ho:o.op= .call { callee:= .builtin .append,args:= #[x,y],argTypes:= #[ty,tn] }) (hx:dr x x'=true) (hy:dr y y'=true) (hu:P.underlying ty=some (.slice e)) (a3:P.underlying tn=some (.int kn)) (hi:P.info? e=some i) (hz:i.zero=some z) (S:z.cells.size=i.size) (a0:0<i.size)
  (a4:eF z.cells.toList zero=true) (ht:t<np) (es:aK (real call loop) s (some t) (.appendN (e,i.size) i.bytes agg zero x' y')=some (r,s')):aZ P np o s a w L Z r s':=by
 simp only[aK]at es;split at es
 case h_2=>cases es
 rename_i k n t' e1 e2 E;injection E with E;subst E;split at es
 case isFalse=>cases es
 rename_i _;split at es
 case h_2=>cases es
 rename_i ds a5;split at es
 case h_2=>cases es
 rename_i zd a6;split at es
 case h_2=>cases es
 rename_i a7 I;split at es
 case h_2=>cases es
 rename_i s2 hl;injection es with es;injection es with q1 q2;subst q1 q2;have O:=aO h hx e1;have h2:=aO h hy e2;simp only[RV,RD,List.cons.injEq,and_true]at O h2;obtain ⟨A,O⟩:=O;simp only[real,aM.cmp,rV,decide_eq_true_eq]at a7;simp only[real,aM.fP]at I;obtain ⟨f1,f2,f3⟩:=of_decide_eq_true I;obtain ⟨m,rfl⟩:=Int.eq_ofNat_of_zero_le f1;have a8:0<m:=by omega
 have ag:m*i.bytes<=140737488355328:=by rw[<-Int.natCast_mul]at f2;omega
 have a1:g_ w Z i.size ((real call loop).rm m zd) (List.replicate m z.cells.toList).flatten:=by
  have a9:RD w Z zd z.cells.toList:=by
   apply kg;rw[nR a6];exact qM (c:=⟨w,Z,L,s.sto.get⟩) a4 a5
  have aa:g_ w Z i.size (List.replicate m zd) (List.replicate m z.cells.toList).flatten:=iF a9 (by rw[Array.length_toList,S]) m;show g_ w Z i.size (List.replicate (m:Int).toNat zd) _;rw[Int.toNat_natCast];exact aa
 have J:((real call loop).rm m zd).length=m:=by show (List.replicate (m:Int).toNat zd).length=m;rw[Int.toNat_natCast,List.length_replicate]
 have hr:=uE (P:=P) w ty tn o.type e i z k kn A hu a3 hi hz m a8 a0 f3 (by omega);have U:m<=grownCap w m 0 e:=grownCap_ge w m 0 e;have ac:grownCap w m 0 e<=maxLen:=grownCap_le_maxLen w m 0 e (by unfold maxLen;omega);have M:(Builtin.zeroCells z.cells m++Builtin.zeroCells z.cells (grownCap w m 0 e-m):Array Value).size=grownCap w m 0 e*i.size:=by
  rw[Array.size_append,size_zeroCells,size_zeroCells,S,<-Nat.add_mul];congr 1;omega
 obtain ⟨L',k1,k2,k3,k4,k5⟩:=uV (cells:=Builtin.zeroCells z.cells m++Builtin.zeroCells z.cells (grownCap w m 0 e-m)) (w':=w.drew.alloc (.cells (Builtin.zeroCells z.cells m++Builtin.zeroCells z.cells (grownCap w m 0 e-m)) e)) h hl ht rfl rfl rfl rfl a1
  (λj v hj=>by
   have V:(Builtin.zeroCells z.cells m).toList=(List.replicate m z.cells.toList).flatten:=range_zero z.cells m (by omega);have ae:j<(Builtin.zeroCells z.cells m).size:=by
    rw[<-Array.length_toList,V];exact (ax.1 hj).1
   rw[Array.getElem?_append_left ae,<-Array.getElem?_toList,V];exact hj)
  (by rw[M,J];exact Nat.mul_le_mul_right _ U)
 refine aZ.value (u:= .slice (some ⟨w.heap.size,0,none⟩) m (grownCap w m 0 e)) ?_ k1 k2 ?_
 ·unfold execOp;rw[ho];simp[resolve,invoke,builtin,O,h2,hr]
 simp only[RV];refine ⟨_,m,grownCap w m 0 e,_,rfl,⟨U,ac⟩,λe=>(by cases e),yX k4,λ_=>J.symm,λx m e=>(by cases e),λe=>(by rw[k3]at e;cases e),λb hb=> ?_⟩;have:w.heap.size=b:=by have:some w.heap.size=some b:=k3.symm.trans hb;injection this
 subst this;exact .inr ⟨by simp[br],by rw[k5,M];simp[br]⟩
theorem z9 (np:Nat) (h:RS s a w L Z) {o:Oper} {x:Operand} {x':VX} (ho:o.op= .nilCheck x) (M:dr x x'=true) {u r:AV} (e:ev s.env x'=some u)
  (er:(match u with | .ptr q k=>some (AV.ptr q (k+0)) | .prow q z j n=>some (.prow q z j (n+0)) | .sp cs k=>some (.sp cs (k+0)) | _=>none)=some r):aZ P np o s a w L Z r s:=by
 have J:=aO h M e;have I:∀p,a.eval x= .pointer (some p)->(execOp a.eval o).run P w= .ok (.value (.pointer (some p))) w:=by
  intro p O;unfold execOp;rw[ho];simp[O]
 split at er
 ·injection er with er;subst er;have E:=J;simp only[RV]at E;obtain ⟨b,_,_,E⟩:=E;exact aZ.pure h (I _ E) (by rw[<-E];exact J)
 ·injection er with er;subst er;have E:=J;simp only[RV]at E;obtain ⟨b,_,_,_,E⟩:=E;exact aZ.pure h (I _ E) (by rw[<-E];exact J)
 ·injection er with er;subst er;have E:=J;simp only[RV]at E;obtain ⟨b,o',vs,E,_⟩:=E;exact aZ.pure h (I _ E) (by rw[<-E];exact J)
 cases er
theorem z_ {np:Nat} {o:Oper} {ty e:TypeId} {i:TypeInfo} {ps:Array (Nat×Operand)} (h:RS s a w L Z) (ho:o.op= .buildSlice ty 0 ps) (I:ps.toList=[]) (J:P.underlying ty=some (.slice e)) (hi:P.info? e=some i):aZ P np o s a w L Z .emp s:=by
 have E:ps= #[]:=Array.ext' I;subst E;have j:(execOp a.eval o).run P w= .ok (.value (.slice (some ⟨w.heap.size,0,none⟩) 0 0)) { w with heap:=w.heap.push (.cells #[] e) }:=by
  refine eJ (m:=Instr.buildSlice ty 0 #[]) (by unfold execOp;rw[ho];simp) ?_;unfold Instr.buildSlice;have M:Array.map (λ_=>(default:Value)) (Array.range 0)= #[]:=Array.ext' (by simp);simp only[Sem.run_bind,run_underlying J,Result.andThen,sizeOf,typeInfo,Sem.run_pure];simp[hi,newRow,M,Instr.fill]
 obtain ⟨O,k2⟩:=h.more (w':={ w with heap:=w.heap.push (.cells #[] e) }) np (λb S=>by
  show (w.heap.push _)[b]? =_;rw[Array.getElem?_push,if_neg (by omega)]) (by simp) rfl rfl rfl
 exact aZ.value j O k2 (by simp only[RV];exact ⟨_,rfl⟩)
theorem JX:∀{vs:List AV} {ds:List D},dL vs=some ds->vs=ds.map .d
 | [],ds,h=>by simp only[dL]at h;injection h with h;subst h;rfl
 | v::vs,ds,h=>by
  cases v with
  | d x=>
   simp only[dL]at h;split at h
   case h_2=>cases h
   rename_i xs e;injection h with h;subst h;rw[JX e];rfl
  | _=>simp[dL]at h
theorem Hw {np:Nat} {ty:TypeId} {x:Operand} {x':VX} {o:Oper} {dst:Option Nat} {r:AV} {s':St} (h:RS s a w L Z) (ho:o.op= .box ty x) (hx:dr x x'=true)
  (e:aK (real call loop) s dst (.boxZ x')=some (r,s')):aZ P np o s a w L Z r s':=by
 simp only[aK]at e;split at e
 case h_2=>cases e
 rename_i u hu;split at e
 case h_2=>cases e
 rename_i ds I;injection e with e;injection e with e1 e2;subst e1 e2;have O:=JX I;have hv:=aO h hx hu;have hcells:dH (aI w Z L s.sto) u.cells (a.eval x).cells.toList:=by
  refine ql hv ?_ ?_ ?_
  ·rintro vs rfl;simp[AV.cells,dL]at I
  ·rintro rfl;simp[AV.cells,dL]at I
  rintro rfl;simp[AV.cells,dL]at I
 obtain ⟨hl,he⟩:=bJ.1 hcells;have S:fL w Z ds (a.eval x).cells.toList:=dA.2 ⟨by rw[<-hl,O];simp,λi d v h1 h2=>by
  have:=he i (.d d) v (by rw[O];simp[h1]) h2;simpa only [RV]using this⟩
 have J:(execOp a.eval o).run P w= .ok (.value (.pointer (some ⟨w.heap.size,0,none⟩))) { w with heap:=w.heap.push (.cells (a.eval x).cells ty) }:=by
  refine eJ (m:=Instr.box ty (a.eval x)) (by unfold execOp;rw[ho]) ?_;simp[Instr.box,newVar,newRow]
 obtain ⟨k1,k2⟩:=h.more (w':={ w with heap:=w.heap.push (.cells (a.eval x).cells ty) }) np (λb E=>by
  show (w.heap.push _)[b]? =_;rw[Array.getElem?_push,if_neg (by omega)]) (by simp) rfl rfl rfl
 have U:¬aY s.sto L w.heap.size:=λhl=>by obtain ⟨q,ob,p1,p2⟩:=hl;have:=h.fJ p1 p2;omega
 have k3:=k1.P7 (λb=>b=w.heap.size) (λb E=>by subst E;exact ⟨by simp,U⟩);have M:ko w { w with heap:=w.heap.push (.cells (a.eval x).cells ty) } Z (λb=>Z b\/b=w.heap.size):=λb E=>⟨.inl E,by
  have:=(h.dis b E).1;show (w.heap.push _)[b]? =_;rw[Array.getElem?_push,if_neg (by omega)]⟩
 refine aZ.value J k3 ⟨k2.os,k2.tape,k2.output,k2.size,k2.keep,k2.lives,λb E=> .inl E,λb E=> ?_,k2.par,λr hr V=> ?_⟩ ?_
 ·rcases E with E | E
  ·exact .inl E
  subst E;exact .inr (.inl (Nat.le_refl _))
 ·exact ⟨V,(k2.psame r hr V).2⟩
 simp only[RV];refine ⟨w.heap.size,0,_,rfl,.inr rfl,pZ M _ _ S,λj v hj=> ?_⟩;simp only[World.cell?,Nat.zero_add];simp at hj |-;exact hj
end
end
section
section
variable {P:Program} {call:dh} {loop:di}
variable {s:St} {a:Act} {w:World} {L:Loc} {Z:Nat->Prop}
theorem Dy {sz:Nat}:∀(k:Nat) {xs:List D} {cs:List Value},g_ w Z sz xs cs->g_ w Z sz (xs.take k) (cs.take (k*sz))
 | 0,xs,cs,h=>by simp[g_]
 | k+1,[],cs,h=>by simp only[g_]at h;subst h;simp[g_]
 | k+1,x::xs,cs,h=>by
  simp only[g_]at h;obtain ⟨us,vs,rfl,e,j,h3⟩:=h;simp only[List.take_succ_cons,g_];refine ⟨us,vs.take (k*sz),?_,e,j,Dy k h3⟩;rw[Nat.succ_mul,List.take_append,List.take_of_length_le (by omega)];congr 2;omega
theorem Dz {sz:Nat}:∀(k:Nat) {xs:List D} {cs:List Value},g_ w Z sz xs cs->g_ w Z sz (xs.drop k) (cs.drop (k*sz))
 | 0,xs,cs,h=>by simpa using h
 | k+1,[],cs,h=>by simp only[g_]at h;subst h;simp[g_]
 | k+1,x::xs,cs,h=>by
  simp only[g_]at h;obtain ⟨us,vs,rfl,e,j,h3⟩:=h;simp only[List.drop_succ_cons];have:=Dz k h3;rw[Nat.succ_mul,List.drop_append,List.drop_of_length_le (l:=us) (by omega),List.nil_append];rw[show k*sz+sz-us.length=k*sz by omega];exact this
theorem Aa (w:World) (dT I ty e:TypeId) (A B:Option Addr) (dLen j sLen sCap:Nat) (i:TypeInfo) (J:P.underlying dT=some (.slice e)) (hi:P.info? e=some i) (M:Nat.min sLen dLen=0):
  (Builtin.copy_ #[dT,I] ty #[.slice A dLen j,.slice B sLen sCap]).run P w= .ok (goInt 0) w:=by
 have E:min sLen dLen=0:=M;cases A<;>cases B<;>simp[Builtin.copy_,run_underlying J,Builtin.lenOf,Builtin.firstCells,sizeOf,typeInfo,hi,E,loadCells,loadCellsFrom,storeCells]
theorem yw (w:World) (dT O ty e:TypeId) (g dLen E:Nat) (ad:Addr) (sLen sCap:Nat) (cur:Array Value) (t:TypeId) (cs:List Value) (i:TypeInfo)
  (S:P.underlying dT=some (.slice e)) (hi:P.info? e=some i) (U:w.heap[g]? =some (.cells cur t (0,0))) (V:cs.length=Nat.min sLen dLen*i.size)
  (I:∀j v,cs[j]? =some v->w.cell? (ad.add j)=some v) (J:cs.length<=cur.size) (h1:∀v∈cs,v.oneCell'=true):
  (Builtin.copy_ #[dT,O] ty #[.slice (some ⟨g,0,none⟩) dLen E,.slice (some ad) sLen sCap]).run P w=
   .ok (goInt (Nat.min sLen dLen)) (w.setRow g (cs++cur.toList.drop cs.length).toArray):=by
 have hl:=run_loadCells_list (P:=P) w ad cs I;have hst:=run_storeCells_at P g 0 t cs 0 cur w U (by simpa using J) h1;rw[V]at hl;have M:(loadCells ad (min sLen dLen*i.size)).run P w= .ok cs.toArray w:=hl;simp[Builtin.copy_,run_underlying S,Builtin.lenOf,Builtin.firstCells,sizeOf,typeInfo,hi,M,hst]
theorem Hx {np:Nat} {s':St} {o:Oper} {dT sT e:TypeId} {i:TypeInfo} {x y:Operand} {x' y':VX} {dst:Option Nat} {r:AV} (h:RS s a w L Z)
  (ho:o.op= .call { callee:= .builtin .copy,args:= #[x,y],argTypes:= #[dT,sT] }) (hx:dr x x'=true) (hy:dr y y'=true)
  (hu:P.underlying dT=some (.slice e)) (hi:P.info? e=some i) (es:aK (real call loop) s dst (.copy (e,i.size) x' y')=some (r,s')):aZ P np o s a w L Z r s':=by
 have a1:∀{m:Value} {w':World},(Builtin.copy_ #[dT,sT] o.type #[a.eval x,a.eval y]).run P w= .ok m w'->(execOp a.eval o).run P w= .ok (.value m) w':=by
  intro m w' hm;unfold execOp;rw[ho];simp[resolve,invoke,builtin,hm]
 simp only[aK]at es;split at es
 case h_2=>cases es
 rename_i q sz' u b e1 e2;split at es
 case h_2=>cases es
 rename_i ys z xs a9 hq;split at es
 case isFalse=>cases es
 rename_i az;subst az;split at es
 case h_2=>cases es
 rename_i ag;injection es with es;injection es with q1 q2;subst q1 q2;have hA:=aO h hx e1;have hB:=aO h hy e2;obtain ⟨B,a3,b1,b2,b3⟩:=cZ h.obj hB a9;simp only[RV]at hA;obtain ⟨A,n,cap,zs,m1,⟨m2,b8⟩,m3,m4,m5,m6,m7,m8⟩:=hA;have aa:(s.sto.get q).bind Obj.rw=some ((e,i.size),zs):=m4;rw[hq]at aa;have am:z=(e,i.size)/\xs=zs:=by simpa [Obj.rw]using aa
 obtain ⟨rfl,rfl⟩:=am;have hn:n=xs.length:=by simpa using m5
 have S:=h.obj q _ hq;simp only[RO]at S;have hover:(real call loop).over xs ys=ys.take xs.length++xs.drop ys.length:=rfl;have a4:((real call loop).over xs ys).length=xs.length:=by rw[hover];simp;omega
 by_cases h0:min ys.length xs.length=0
 ·have hsame:(real call loop).over xs ys=xs:=by
   rw[hover];rcases Nat.eq_zero_or_pos ys.length with hz | hz
   ·have:ys=[]:=List.length_eq_zero_iff.1 hz;subst this;simp
   have:xs=[]:=List.length_eq_zero_iff.1 (by omega);subst this;simp
  rw[hsame];obtain ⟨k1,k2,k3⟩:=RS.swap (ob':= .rows (e,i.size) xs) (N:=λ_=>False) np h hq (λsz ws hh=>⟨ws,hh,rfl⟩) (λb hb=>by
   rcases hb with hb | ⟨hb,_⟩
   ·exact .inl hb
   cases hb) (by simp only[RO];exact S)
  exact aZ.value (a1 (by rw[m1,b1];exact Aa w dT sT o.type e A B n cap ys.length a3 i hu hi (by subst hn;exact h0))) k1 k2 (by simp only[RV])
 have an:ys≠[]:=λe=>by subst e;simp at h0
 have a7:0<xs.length:=by omega
 obtain ⟨blk,I⟩:∃blk,L q=some blk:=by
  cases hL:L q with
  | none=>have:=S.1 hL;subst this;simp at a7
  | some blk=>exact ⟨blk,rfl⟩
 obtain ⟨vs,v1,v2,v3⟩:=S.2 blk I;have b0:A=some ⟨blk,0,none⟩:=by
  rcases m8 blk I with ⟨_,p2⟩ | ⟨p1,_⟩
  ·exact (p2 (by simp[br])).elim
  simpa [br]using p1
 have ao:ys.all (λy=>y.cells.length==i.size)=true:=by
  have hf:=ag;simp only[real,aM.fits,af]at hf;exact hf.2
 obtain ⟨sb,so,a5,cs,V,c2,c3⟩:=source h.obj hB a9 ao an;have b4:=jv c2;have ap:a3=a5:=by rw[b1]at V;injection V
 have hm:min ys.length xs.length<=ys.length:=Nat.min_le_left _ _;generalize b5:min ys.length xs.length=m at*;have U:(cs.take (m*i.size)).length=m*i.size:=by
  rw[List.length_take,b4];exact Nat.min_eq_left (Nat.mul_le_mul_right _ hm)
 have a8:m*i.size<=vs.size:=Nat.le_trans (Nat.mul_le_mul_right _ (by omega:m<=xs.length)) v2;have hr:=yw (P:=P) w dT sT o.type e blk n cap ⟨sb,so,none⟩ ys.length a5 vs (e,i.size).1 (cs.take (m*i.size)) i hu hi v1 (by rw[U,hn];show m*i.size=min ys.length xs.length*i.size;rw[b5])
  (λj v E=>c3 j v (by rw[List.getElem?_take]at E;split at E;exact E;cases E)) (by rw[U];exact a8) (λv hv=>wE c2 v (List.mem_of_mem_take hv))
 rw[U]at hr;have b6:¬Z blk:=λhz=>(h.dis _ hz).2 ⟨q,_,hq,.inl I⟩
 generalize hcells:(cs.take (m*i.size)++vs.toList.drop (m*i.size)).toArray=cells at hr;have hsize:cells.size=vs.size:=by rw[<-hcells];simp[U];omega
 have J:(w.setRow blk cells).heap[blk]? =some (.cells cells (e,i.size).1 (0,0)):=setRow_heap w blk vs _ _ (0,0) v1;have M:∀k,k≠blk->(w.setRow blk cells).heap[k]? =w.heap[k]? :=λk hk=>setRow_other _ _ _ _ hk
 have aw:ko w (w.setRow blk cells) Z Z:=λk hk=>⟨hk,M k λe=>b6 (e ▸ hk)⟩
 obtain ⟨cx,x1,x2⟩:=tX v3;have b9:=jv x1;have b7:cx=vs.toList.take (xs.length*i.size):=by
  apply List.ext_getElem?;intro j;rw[List.getElem?_take];by_cases E:j<xs.length*i.size
  ·rw[if_pos E];have ac:cx[j]? =some cx[j]:=bA (by omega);have:=x2 j _ ac;simp only[World.cell?,v1,Nat.zero_add]at this;rw[ac];simpa using this.symm
  rw[if_neg E,List.getElem?_eq_none (by omega)]
 have a0:g_ (w.setRow blk cells) Z i.size ((real call loop).over xs ys) ((cs.take (m*i.size))++cx.drop (m*i.size)):=by
  have t1:ys.take xs.length=ys.take m:=by
   rcases Nat.le_total ys.length xs.length with O | O
   ·rw[List.take_of_length_le O,List.take_of_length_le (by omega)]
   rw[show m=xs.length by omega]
  have t2:xs.drop ys.length=xs.drop m:=by
   rcases Nat.le_total ys.length xs.length with O | O
   ·rw[show m=ys.length by omega]
   rw[List.drop_of_length_le O,List.drop_of_length_le (by omega)]
  rw[hover,t1,t2];exact qm aw (oO (Dy m c2) (Dz m x1))
 obtain ⟨k1,k2⟩:=RS.write (w':=w.setRow blk cells) (ob':= .rows (e,i.size) ((real call loop).over xs ys)) np h hq I rfl rfl rfl (by simp) M
  (by
    simp only[b_,J,v1];exact hsize) (λsz ws hh=>⟨(real call loop).over xs ys,by simp[Obj.rw]at hh |-;exact hh.1,by simp[Obj.rw]at hh;rw[a4,hh.2]⟩) (λhh=>hh) (λhsame hz=>by
   simp only[RO];refine ⟨λhL=>(by rw[I]at hL;cases hL),λb' ae=> ?_⟩;have:blk=b':=by rw[I]at ae;injection ae
   subst this;refine ⟨cells,J,by rw[a4,hsize];exact v2,qo a0 λj v E=> ?_⟩;simp only[World.cell?,J,Nat.zero_add];rw[List.getElem?_append]at E;rw[<-hcells];simp only[List.getElem?_toArray];rw[List.getElem?_append];split at E
   ·rename_i a6;rw[if_pos a6];exact E
   rename_i a6;rw[if_neg a6];rw[List.getElem?_drop]at E |-;rw[b7,List.getElem?_take]at E;split at E
   ·exact E
   cases E)
 refine aZ.value (a1 (by rw[m1,b0,b1];rw[b1]at V;injection V with V _ _;rw[V,ap];exact hr)) k1 k2 (by simp only[RV])
end
end
def okV (P:Program):Op->mg->Bool
 | .move x,.move y=>dr x y
 | .assign x,.move y=>dr x y
 | .pick c x y,.pick c' x' y'=>dr c c'&&dr x x'&&dr y y'
 | .alloc t,.alloc cs=>match P.info? t with
  | some i=>match i.zero with
   | some z=>eF z.cells.toList cs
   | none=>false
  | none=>false
 | .box _ x,.box y=>dr x y
 | .box _ x,.boxZ y=>dr x y
 | .build t ps,.build zero qs=>match P.underlying t,P.info? t with
  | some (.struct fields),some i=>match i.zero,fields.toList.mapM (λf=>(P.info? f.type).map λi=>(f.offset,i.size))with
   | some z,some places=>oq places ps.toList qs&&eF z.cells.toList zero
   | _,_=>false
  | _,_=>false
 | .buildSlice t len ps,.buildSlice sz _ zero len' qs=>match P.underlying t with
  | some (.slice e)=>match P.info? e with
   | some i=>match i.zero with
    | some z=>sz.1==e&&sz.2==i.size&&len==len'&&jV ps.toList qs&&z.cells.size==i.size&&decide (0<i.size)&&eF z.cells.toList zero&&decide (len*i.size<=2^24)
    | none=>false
   | none=>false
  | _=>false
 | .buildSlice t len ps,.emptyRow=>match P.underlying t with
  | some (.slice e)=>len==0&&ps.toList.isEmpty&&(P.info? e).isSome
  | _=>false
 | .buildSlice t len ps,.buildZ sz _ zero len' qs=>match P.underlying t with
  | some (.slice e)=>match P.info? e with
   | some i=>match i.zero with
    | some z=>sz.1==e&&sz.2==i.size&&len==len'&&jV ps.toList qs&&z.cells.size==i.size&&decide (0<i.size)&&eF z.cells.toList zero&&decide (len*i.size<=2^24)
    | none=>false
   | none=>false
  | _=>false
 | .buildSlice t len ps,.buildRow sz _ zero len' qs=>match P.underlying t with
  | some (.slice e)=>match P.info? e with
   | some i=>match i.zero with
    | some z=>sz.1==e&&sz.2==i.size&&len==len'&&jV ps.toList qs&&z.cells.size==i.size&&decide (0<i.size)&&eF z.cells.toList zero&&decide (len*i.size<=2^24)
    | none=>false
   | none=>false
  | _=>false
 | .buildSlice t len ps,.buildO sz x'=>match P.underlying t,ps.toList with
  | some (.slice e),[(0,x)]=>match P.info? e with
   | some i=>match i.zero with
    | some z=>sz.1==e&&sz.2==i.size&&len==1&&dr x x'&&z.cells.size==i.size&&decide (0<i.size)&&decide (i.size<=2^24)
    | none=>false
   | none=>false
  | _,_=>false
 | .buildSlice t len ps,.buildH sz _ x'=>match P.underlying t,ps.toList with
  | some (.slice e),[(0,x)]=>match P.info? e with
   | some i=>match i.zero with
    | some z=>sz.1==e&&sz.2==i.size&&len==1&&dr x x'&&z.cells.size==i.size&&decide (0<i.size)&&decide (i.size<=2^24)
    | none=>false
   | none=>false
  | _,_=>false
 | .call c,.appendO sz bytes x' y'=>match c.callee,c.args.toList,c.argTypes.toList with
  | .builtin .append,[x,y],[t,t']=>t==t'&&dr x x'&&dr y y'&&(match P.underlying t with
   | some (.slice e)=>(match P.info? e with
    | some i=>(match i.zero with
     | some z=>sz.1==e&&sz.2==i.size&&bytes==i.bytes&&z.cells.size==i.size
     | none=>false)
    | none=>false)
   | _=>false)
  | _,_,_=>false
 | .load t x,.q9 y=>match P.info? t,P.underlying t with
  | some i,some d=>dr x y&&i.size==1&&tU d==false
  | _,_=>false
 | .load t x,.lendF y=>match P.info? t,P.underlying t with
  | some i,some d=>dr x y&&i.size==1&&tU d==false
  | _,_=>false
 | .load t x,.load agg n y=>match P.info? t,P.underlying t with
  | some i,some d=>dr x y&&i.size==n&&agg==tU d
  | _,_=>false
 | .store t x y,.store n x' y'=>match P.info? t with
  | some i=>i.size==n&&dr x x'&&dr y y'
  | none=>false
 | .store t x y,.storeR n x' y'=>match P.info? t with
  | some i=>i.size==n&&dr x x'&&dr y y'
  | none=>false
 | .store t x y,.storeP n x' y'=>match P.info? t with
  | some i=>i.size==n&&dr x x'&&dr y y'
  | none=>false
 | .binOp op t x y _,.bin KC E x' y'=>decide (op=E)&&dr x x'&&dr y y'&&(!KC || (match P.underlying t with | some .bool=>true | _=>false))
 | .binOp op t x (.const (.pointer none)) _,.eqNil ne x'=>decide (op=match ne with | true=> .neq | false=> .eql)&&dr x x'&&(match P.underlying t with | some (.pointer _)=>true | _=>false)
 | .unOp .neg _ x,.neg y=>dr x y
 | .unOp .not _ x,.not y=>dr x y
 | .convert t t' x,.conv c y=>dr x y&&match c with
  | .int k=>(match P.underlying t with | some (.int _)=>true | _=>false)&&(match P.underlying t' with | some (.int k')=>k==k' | _=>false)
  | .str=>(match P.underlying t with | some .string=>true | _=>false)&&(match P.underlying t' with | some .string=>true | _=>false)
  | .bytesToStr=>(match P.underlying t with | some (.slice e)=>(match P.underlying e with | some (.int .u8)=>true | _=>false) | _=>false)&&(match P.underlying t' with | some .string=>true | _=>false)
 | .makeFunc (.func f) first xs,.mkfn g ys=>first.toList.isEmpty&&f==zh g&&vW xs.toList ys
 | .makeSlice t x y,.makeSlice sz bytes _ zero x' y'=>match P.underlying t with
  | some (.slice e)=>match P.info? e with
   | some i=>match i.zero with
    | some z=>sz.1==e&&sz.2==i.size&&bytes==i.bytes&&dr x x'&&dr y y'&&z.cells.size==i.size&&decide (0<i.size)&&eF z.cells.toList zero
    | none=>false
   | none=>false
  | _=>false
 | .slice t x lo hi mx,.slice isStr sz x' lo' I J=>dr x x'&&Ah lo lo'&&Ah hi I&&Ah mx J&&(match isStr with
  | true=>mx.isNone&&(match P.underlying t with | some .string=>true | _=>false)
  | false=>match P.underlying t with
   | some (.slice e)=>(match P.info? e with | some i=>sz.1==e&&sz.2==i.size | none=>false)
   | _=>false)
 | .fieldAddr t x f,.fieldAddr off y=>match P.underlying t with
  | some (.struct fs)=>match fs[f]? with
   | some fd=>match P.info? fd.type with
    | some i=>i.size !=0&&fd.offset==off&&dr x y
    | none=>false
   | none=>false
  | _=>false
 | .nilCheck x,.fieldAddr off y=>off==0&&dr x y
 | .field t x f,.field agg off n y=>match P.underlying t with
  | some (.struct fs)=>match fs[f]? with
   | some fd=>match P.info? fd.type,P.underlying fd.type with
    | some i,some d=>fd.offset==off&&i.size==n&&agg==tU d&&dr x y
    | _,_=>false
   | none=>false
  | _=>false
 | .indexAddr t x i,.indexAddr sz y j=>match P.underlying t with
  | some (.slice e)=>(match P.info? e with | some n=>sz.1==e&&sz.2==n.size&&dr x y&&dr i j | none=>false)
  | _=>false
 | .index t x i,.index y j=>(match P.underlying t with | some .string=>true | _=>false)&&dr x y&&dr i j
 | .extract x i,.extract y j=>dr x y&&i==j
 | .call c,.len D7 y=>match c.callee,c.args.toList,c.argTypes.toList with
  | .builtin .len,[x],[t]=>dr x y&&(match D7 with
   | true=>(match P.underlying t with | some .string=>true | _=>false)
   | false=>(match P.underlying t with | some (.slice _)=>true | _=>false))
  | _,_,_=>false
 | .call c,.append sz bytes x' y'=>match c.callee,c.args.toList,c.argTypes.toList with
  | .builtin .append,[x,y],[t,t']=>t==t'&&dr x x'&&dr y y'&&(match P.underlying t with
   | some (.slice e)=>(match P.info? e with
    | some i=>(match i.zero with
     | some z=>sz.1==e&&sz.2==i.size&&bytes==i.bytes&&z.cells.size==i.size
     | none=>false)
    | none=>false)
   | _=>false)
  | _,_,_=>false
 | .call c,.call g _ _ ys=>match c.callee with
  | .value (.func f)=>f==zh g&&vW c.args.toList ys
  | _=>false
 | .call c,.callv fx _ _ ys=>match c.callee with
  | .value x=>dr x fx&&vW c.args.toList ys
  | _=>false
 | .call c,.callU _ g _ _ ys=>match c.callee with
  | .value (.func f)=>f==zh g&&vW c.args.toList ys
  | _=>false
 | .call c,.appendH sz bytes x' y'=>match c.callee,c.args.toList,c.argTypes.toList with
  | .builtin .append,[x,y],[t,t']=>t==t'&&dr x x'&&dr y y'&&(match P.underlying t with
   | some (.slice e)=>(match P.info? e with
    | some i=>(match i.zero with
     | some z=>sz.1==e&&sz.2==i.size&&bytes==i.bytes&&z.cells.size==i.size
     | none=>false)
    | none=>false)
   | _=>false)
  | _,_,_=>false
 | .call c,.appendE sz bytes x' y'=>match c.callee,c.args.toList,c.argTypes.toList with
  | .builtin .append,[x,y],[t,t']=>t==t'&&dr x x'&&dr y y'&&(match P.underlying t with
   | some (.slice e)=>(match P.info? e with
    | some i=>(match i.zero with
     | some z=>sz.1==e&&sz.2==i.size&&bytes==i.bytes&&z.cells.size==i.size
     | none=>false)
    | none=>false)
   | _=>false)
  | _,_,_=>false
 | .call c,.mx true x' y'=>match c.callee,c.args.toList with
  | .builtin .max,[x,y]=>dr x x'&&dr y y'
  | _,_=>false
 | .call c,.mx false x' y'=>match c.callee,c.args.toList with
  | .builtin .min,[x,y]=>dr x x'&&dr y y'
  | _,_=>false
 | .call c,.copy sz x' y'=>match c.callee,c.args.toList,c.argTypes.toList with
  | .builtin .copy,[x,y],[t,_]=>dr x x'&&dr y y'&&(match P.underlying t with
   | some (.slice e)=>(match P.info? e with | some i=>sz.1==e&&sz.2==i.size | none=>false)
   | _=>false)
  | _,_,_=>false
 | .call c,.capE x'=>match c.callee,c.args.toList,c.argTypes.toList with
  | .builtin .cap,[x],[t]=>dr x x'&&(match P.underlying t with | some (.slice _)=>true | _=>false)
  | _,_,_=>false
 | .call c,.appendN sz bytes _ zero x' y'=>match c.callee,c.args.toList,c.argTypes.toList with
  | .builtin .append,[x,y],[t,t']=>dr x x'&&dr y y'&&(match P.underlying t' with | some (.int _)=>true | _=>false)&&(match P.underlying t with
   | some (.slice e)=>(match P.info? e with
    | some i=>(match i.zero with
     | some z=>sz.1==e&&sz.2==i.size&&bytes==i.bytes&&z.cells.size==i.size&&decide (0<i.size)&&eF z.cells.toList zero
     | none=>false)
    | none=>false)
   | _=>false)
  | _,_,_=>false
 | _,.bad=>true
 | _,_=>false
section
variable {P:Program} {call:dh} {loop:di}
variable {s:St} {a:Act} {w:World} {L:Loc} {Z:Nat->Prop}
theorem tC {f:FuncId} (h:jq P f=true) (args:Array Value):(callFunc f args).run P w= .ok (.enter f args) w:=by
 unfold jq at h;split at h
 ·rename_i fn hf;simp only[af,Bool.not_eq_true']at h;obtain ⟨j,E⟩:=h;have h3:fn.body.isNone=false:=by cases I:fn.body<;>simp[I]at j |-
  unfold callFunc;have h4:¬fn.name= "runtime.NumGoroutine" :=by simpa using E
  have J:¬fn.body=none:=by intro e;rw[e]at h3;cases h3
  simp[hf,h4,J]
 cases h
theorem yx {np:Nat} {o:Oper} {f:FuncId} {m:mE} {raw:Bool} {as:List AV} {vs:List Value} {r:AV} {s':St} (E:iS P call) (h:RS s a w L Z) (J:dH (aI w Z L s.sto) as vs) (M:∀t,o.dst=some t->t<np)
  (e:dJ (real call loop) f m raw as o.dst s=some (r,s')) (j:jq P (zh f)=true->(execOp a.eval o).run P w= .ok (.enter (zh f) vs.toArray) w):aZ P np o s a w L Z r s':=by
 intro K Q hk;have I:=EL (np:=np) E h J M e;unfold Oper.wp;rw[j (I (λ_ _=>True) (λ_ _ _ _ _ _ _=>trivial)).1];rw[Oper.upon_enter];exact (I _ λv w' L' Z' O k2 S=>hk v w' L' Z' O k2 S).2
theorem AO {np:Nat} {o:Oper} {c:Call} {f:FuncId} {m:mE} {raw:Bool} {as:List AV} {ys:List VX} {r:AV} {s':St} (j:iS P call) (h:RS s a w L Z) (ho:o.op= .call c) (hc:c.callee= .value (.func (zh f))) (I:vW c.args.toList ys=true)
  (J:zi s.env ys=some as) (M:∀t,o.dst=some t->t<np) (e:dJ (real call loop) f m raw as o.dst s=some (r,s')):aZ P np o s a w L Z r s':=by
 refine yx j h (qL h I J) M e λE=> ?_
 unfold execOp;rw[ho];simp[resolve,hc,Deferred.ofValue,invoke,Act.eval,tC E,<-Array.toList_map]
theorem EM {np:Nat} {o:Oper} {c:Call} {x:Operand} {fx:VX} {f:FuncId} {cap:List AV} {m:mE} {raw:Bool} {as:List AV} {ys:List VX} {r:AV} {s':St} (O:iS P call) (h:RS s a w L Z) (ho:o.op= .call c) (hc:c.callee= .value x) (S:dr x fx=true) (V:vW c.args.toList ys=true)
  (e0:ev s.env fx=some (.fn f cap)) (e1:zi s.env ys=some as) (ht:∀t,o.dst=some t->t<np) (e:dJ (real call loop) f m raw (as++cap) o.dst s=some (r,s')):aZ P np o s a w L Z r s':=by
 have I:=aO h S e0;simp only[RV]at I;obtain ⟨vs,I,M⟩:=I;have h3:=qL h V e1;have h4:dH (aI w Z L s.sto) (as++cap) (c.args.toList.map a.eval++vs):=by
  rw[bJ]at M h3 |-;refine ⟨by simp[M.1,h3.1],λi y v J j=> ?_⟩;rw[List.getElem?_append]at J j;rw[<-h3.1]at j;split at J
  ·rename_i E;rw[if_pos E]at j;exact h3.2 i y v J j
  rename_i E;rw[if_neg E]at j;exact M.2 _ y v J j
 refine yx O h h4 ht e λU=> ?_
 unfold execOp;rw[ho];have:c.args.map a.eval++vs.toArray=(c.args.toList.map a.eval++vs).toArray:=by
  apply Array.ext';simp
 simp[resolve,hc,I,Deferred.ofValue,invoke,tC U]
end
end Go.Vi
