import Derived.Test.YtfnagkpidcdocaaGreatM06
import Derived.Lib.AppendZeros
import Derived.Laws.CopyRow
set_option linter.all false
namespace Go.Vi
open Go Go.RowKit
section
variable {P:Program} {call:cM} {loop:cN}
variable {s:St} {a:Act} {w w':World} {L L':Loc} {Z Z':Nat->Prop}
theorem RS.more (h:RS s a w L Z) (np:Nat) (hk:∀b,b<w.heap.size->w'.heap[b]? =w.heap[b]?) (hsz:w.heap.size<=w'.heap.size) (hos:w'.os=w.os) (htp:w'.tape=w.tape) (hop:w'.output=w.output):
  RS s a w' L Z/\Tr np s.sto s.sto w w' L L Z Z:=by
 have hz:jV w w' Z Z:=λb hb=>⟨hb,hk b (h.dis b hb).1⟩
 have hs:∀q,(s.sto.get q).isSome->Same (aH w Z L s.sto) (aH w' Z L s.sto) q:=λq hq=>by
  obtain ⟨ob,ho⟩:=Option.isSome_iff_exists.1 hq;exact ⟨rfl,λk=>k,λsz xs k=>⟨xs,k,rfl⟩,λb hb _=>dm (hk b (h.block_lt ho hb))⟩
 refine ⟨⟨h.defers,cu (c:=aH w Z L s.sto) (c':=aH w' Z L s.sto) hz _ _ (λq hq=>hs q (dU _ _ h.env q hq)) h.env,λr ob hr=> ?_,h.injH,λb hb=>⟨Nat.lt_of_lt_of_le (h.dis b hb).1 hsz,(h.dis b hb).2⟩⟩,
  ⟨hos,htp,hop,hsz,λb hb _=>hk b hb,λ_ h=> .inl h,λ_ h=>h,λ_ h=> .inl h,λ_ _=>rfl,λq _ hq=>⟨hq,hs q hq⟩⟩⟩
 exact i9 (c:=aH w Z L s.sto) (c':=aH w' Z L s.sto) hz rfl rfl (λb hb=>hk b (h.fq hr hb)) (λq hq=>hs q (ko (h.obj r ob hr) q hq)) (h.obj r ob hr)
mutual
theorem DX {s:br}:∀(x x':AV),x.refs=[]->snap (real call loop) s x=some x'->x'.refs=[]
 | .emp,x',_,e=>by simp only[snap]at e;injection e with e;subst e;rfl
 | .arr r sz g u,x',h,e=>by simp[AV.refs]at h
 | .agg cs,x',h,e=>by
  simp only[snap]at e;split at e
  case h_2=>cases e
  case h_1 ds hc=>
   injection e with e;subst e;simp only[AV.refs]at h |-;exact jq cs ds h hc
 | .undef,x',h,e=>by simp only[snap]at e;injection e with e;subst e;exact h
 | .bare,x',h,e=>by simp only[snap]at e;injection e with e;subst e;exact h
 | .d _,x',h,e=>by simp only[snap]at e;injection e with e;subst e;exact h
 | .tup _,x',h,e=>by simp only[snap]at e;injection e with e;subst e;exact h
 | .nilp,x',h,e=>by simp only[snap]at e;injection e with e;subst e;exact h
 | .ptr _ _,x',h,e=>by simp only[snap]at e;injection e with e;subst e;exact h
 | .prow _ _ _ _,x',h,e=>by simp only[snap]at e;injection e with e;subst e;exact h
 | .sp _ _,x',h,e=>by simp only[snap]at e;injection e with e;subst e;exact h
 | .fn _ _,x',h,e=>by simp only[snap]at e;injection e with e;subst e;exact h
theorem jq {s:br}:∀(xs xs':List AV),AV.bE xs=[]->jh (real call loop) s xs=some xs'->AV.bE xs'=[]
 | [],xs',_,e=>by simp only[jh]at e;injection e with e;subst e;rfl
 | x::xs,xs',h,e=>by
  simp only[jh]at e;split at e
  case h_2=>cases e
  case h_1 y hc=>
   split at e
   case h_2=>cases e
   case h_1 ys hc2=>
    injection e with e;subst e;simp only[AV.bE,List.append_eq_nil_iff]at h |-;exact ⟨DX x y h.1 hc,jq xs ys h.2 hc2⟩
end
mutual
theorem eF {w:World} {Z Z':Nat->Prop}:∀(x:D) (cs:List Value),fY x=true->RD w Z x cs->RD w Z' x cs
 | .int _ _,cs,_,h=>by simpa only [RD]using h
 | .bool _,cs,_,h=>by simpa only [RD]using h
 | .str _,cs,_,h=>by simpa only [RD]using h
 | .own _ _,cs,_,h=>by simpa only [RD]using h
 | .agg ds,cs,hc,h=>by simp only[RD]at h |-;exact tX ds cs (by simpa only [fY]using hc) h
 | .lst xs,cs,hc,h=>by
  simp only[fY,List.isEmpty_iff]at hc;subst hc;simp only[RD]at h |-;obtain ⟨a,c,h1,h2,_⟩:=h;exact ⟨a,c,h1,h2,.inl trivial⟩
theorem tX {w:World} {Z Z':Nat->Prop}:∀(xs:List D) (cs:List Value),cP xs=true->fk w Z xs cs->fk w Z' xs cs
 | [],cs,_,h=>by simpa only [fk]using h
 | x::xs,cs,hc,h=>by
  simp only[cP,af]at hc;simp only[fk]at h |-;obtain ⟨v,cs',h1,h2,h3⟩:=h;exact ⟨v,cs',h1,eF x _ hc.1 h2,tX xs _ hc.2 h3⟩
end
theorem tY {w:World} {Z Z':Nat->Prop} {b sz:Nat}:∀(xs:List D) (o:Nat),cP xs=true->Rows w Z xs b o sz->Rows w Z' xs b o sz
 | [],o,_,_=>by simp only[Rows]
 | x::xs,o,hc,h=>by
  simp only[cP,af]at hc;simp only[Rows]at h |-;obtain ⟨⟨cs,h1,h2,h3⟩,h4⟩:=h;exact ⟨⟨cs,h1,eF x _ hc.1 h2,h3⟩,tY xs _ hc.2 h4⟩
mutual
theorem xM {w:World} {Z Z':Nat->Prop}:∀(x:D) (v:Value) (F:List Nat),fY x=true->OC w Z x v F->OC w Z' x v F
 | .own sz xs,v,F,hc,h=>by
  simp only[OC]at h |-;obtain ⟨a,c,h1,h2⟩:=h;refine ⟨a,c,h1,h2.imp id ?_⟩;rintro ⟨b,vs,F',e1,e2,e3,e4,e5,e6,e7⟩;exact ⟨b,vs,F',e1,e2,e3,e4,e5,e6,qC sz.2 xs _ F' (by simpa only [fY]using hc) e7⟩
 | .agg _,_,_,_,h=>by simp[OC]at h
 | .int k n,v,F,hc,h=>by simp only[OC]at h |-;exact ⟨eF _ _ hc h.1,h.2⟩
 | .bool b,v,F,hc,h=>by simp only[OC]at h |-;exact ⟨eF _ _ hc h.1,h.2⟩
 | .str s,v,F,hc,h=>by simp only[OC]at h |-;exact ⟨eF _ _ hc h.1,h.2⟩
 | .lst xs,v,F,hc,h=>by simp only[OC]at h |-;exact ⟨eF _ _ hc h.1,h.2⟩
theorem vU {w:World} {Z Z':Nat->Prop}:∀(xs:List D) (vs:List Value) (F:List Nat),cP xs=true->mS w Z xs vs F->mS w Z' xs vs F
 | [],vs,F,_,h=>by simpa only [mS]using h
 | d::ds,vs,F,hc,h=>by
  simp only[cP,af]at hc;simp only[mS]at h |-;obtain ⟨v,vs',F1,F2,h1,h2,h3,h4⟩:=h;exact ⟨v,vs',F1,F2,h1,h2,xM d v F1 hc.1 h3,vU ds vs' F2 hc.2 h4⟩
theorem DY {w:World} {Z Z':Nat->Prop}:∀(x:D) (vs:List Value) (F:List Nat),fY x=true->OE w Z x vs F->OE w Z' x vs F
 | .agg ds,vs,F,hc,h=>by simp only[OE]at h |-;exact vU ds vs F (by simpa only [fY]using hc) h
 | .own sz xs,vs,F,hc,h=>by simp only[OE]at h |-;obtain ⟨v,h1,h2⟩:=h;exact ⟨v,h1,xM (.own sz xs) v F hc h2⟩
 | .int k n,v,F,hc,h=>by simp only[OE]at h |-;exact ⟨eF _ _ hc h.1,h.2⟩
 | .bool b,v,F,hc,h=>by simp only[OE]at h |-;exact ⟨eF _ _ hc h.1,h.2⟩
 | .str s,v,F,hc,h=>by simp only[OE]at h |-;exact ⟨eF _ _ hc h.1,h.2⟩
 | .lst xs,v,F,hc,h=>by simp only[OE]at h |-;exact ⟨eF _ _ hc h.1,h.2⟩
theorem qC {w:World} {Z Z':Nat->Prop} (n:Nat):∀(xs:List D) (vs:List Value) (F:List Nat),cP xs=true->jc w Z n xs vs F->jc w Z' n xs vs F
 | [],vs,F,_,h=>by simpa only [jc]using h
 | x::xs,vs,F,hc,h=>by
  simp only[cP,af]at hc;simp only[jc]at h |-;obtain ⟨F1,F2,h1,h2,h3,h4⟩:=h;exact ⟨F1,F2,h1,h2,DY x _ F1 hc.1 h3,qC n xs _ F2 hc.2 h4⟩
end
mutual
theorem DZ {w:World} {Z Z':Nat->Prop} {L:Loc} {g:Id->Option Obj}:∀(x:AV) (v:Value),eT x=true->RV ⟨w,Z,L,g⟩ x v->RV ⟨w,Z',L,g⟩ x v
 | .d (.int _ _),v,_,h=>by simpa only [RV,RD]using h
 | .d (.bool _),v,_,h=>by simpa only [RV,RD]using h
 | .d (.str _),v,_,h=>by simpa only [RV,RD]using h
 | .d (.lst _),v,hc,_=>by simp[eT]at hc
 | .d (.agg _),v,hc,_=>by simp[eT]at hc
 | .d (.own _ _),v,hc,_=>by simp[eT]at hc
 | .emp,v,_,h=>by simpa only [RV]using h
 | .arr r sz gg u,v,_,h=>by simpa only [RV]using h
 | .agg cs,v,hc,h=>by
  simp only[RV]at h |-;obtain ⟨vs,h1,h2⟩:=h;exact ⟨vs,h1,nC cs vs (by simpa only [eT]using hc) h2⟩
 | .tup cs,v,hc,h=>by
  simp only[RV]at h |-;obtain ⟨vs,h1,h2⟩:=h;exact ⟨vs,h1,nC cs vs (by simpa only [eT]using hc) h2⟩
 | .undef,v,hc,_=>by simp[eT]at hc
 | .bare,v,hc,_=>by simp[eT]at hc
 | .nilp,v,hc,_=>by simp[eT]at hc
 | .ptr _ _,v,hc,_=>by simp[eT]at hc
 | .prow _ _ _ _,v,hc,_=>by simp[eT]at hc
 | .sp _ _,v,hc,_=>by simp[eT]at hc
 | .fn _ _,v,hc,_=>by simp[eT]at hc
theorem nC {w:World} {Z Z':Nat->Prop} {L:Loc} {g:Id->Option Obj}:∀(xs:List AV) (vs:List Value),mG xs=true->di ⟨w,Z,L,g⟩ xs vs->di ⟨w,Z',L,g⟩ xs vs
 | [],vs,_,h=>by simpa only [di]using h
 | x::xs,vs,hc,h=>by
  simp only[mG]at hc;split at hc
  case h_2=>cases hc
  case h_1 h0=>
   simp only[di]at h |-;obtain ⟨v,vs',h1,h2,h3⟩:=h;exact ⟨v,vs',h1,DZ x v h0 h2,nC xs vs' hc h3⟩
end
theorem vV {X:List (Option Obj)} (h:jv (real call loop) X=true):∀j ob,jy X j=some ob->∃sz xs,cP xs=true/\(ob= .rows sz xs\/ob= .orows sz xs):=by
 induction X with
 | nil=>intro j ob hj;simp[jy]at hj
 | cons o X ih=>
  intro j ob hj;unfold jv at h;split at h
  ·rename_i hh;cases hh
  ·rename_i sz xs l hh;injection hh with h1 h2;subst h1;subst h2;split at h
   case h_2=>cases h
   case h_1 hc=>
    cases j with
    | zero=>simp[jy]at hj;exact ⟨sz,xs,hc,.inl hj.symm⟩
    | succ j=>exact ih h j ob (by simpa [jy]using hj)
  ·rename_i sz xs l hh;injection hh with h1 h2;subst h1;subst h2;split at h
   case h_2=>cases h
   case h_1 hc=>
    cases j with
    | zero=>simp[jy]at hj;exact ⟨sz,xs,hc,.inr hj.symm⟩
    | succ j=>exact ih h j ob (by simpa [jy]using hj)
  ·cases h
theorem D0 {w:World} {Z Z':Nat->Prop} {L:Loc} {g:Id->Option Obj} {r:Id} {ob:Obj} (h:∃sz xs,cP xs=true/\(ob= .rows sz xs\/ob= .orows sz xs)) (h1:RO ⟨w,Z,L,g⟩ r ob):RO ⟨w,Z',L,g⟩ r ob:=by
 obtain ⟨sz,xs,hc,rfl | rfl⟩:=h
 ·simp only[RO]at h1 |-;refine ⟨h1.1,λb hb=> ?_⟩;obtain ⟨vs,k1,k2,k3⟩:=h1.2 b hb;exact ⟨vs,k1,k2,tY xs _ hc k3⟩
 ·simp only[RO]at h1 |-;refine ⟨h1.1,λb hb=> ?_⟩;obtain ⟨vs,F,k1,k2,k3,k4,k5⟩:=h1.2 b hb;exact ⟨vs,F,k1,k2,qC _ xs _ F hc k3,k4,k5⟩
theorem zj {m:kP} {as as':List AV} {s2:St} {vs:List Value} (np:Nat) (h:RS s a w L Z) (hv:di (aH w Z L s.sto) as vs) (hm:m≠ .bor) (hp:(m != .pure || (AV.bE as).isEmpty)=true)
  (e:handed (real call loop) m as s=some (as',s2)):
  ∃Z2,RS s2 a w L Z2/\Tr np s.sto s2.sto w w L L Z Z2/\((∀r∈AV.bE as',(s2.sto.get r).isSome)->di (aH w Z2 L s2.sto) as' vs):=by
 cases m with
 | bor=>exact (hm rfl).elim
 | ref=>
  simp only[handed]at e;injection e with e;injection e with e1 e2;subst e1;subst e2;exact ⟨Z,h,Tr.refl _ _ _ _ _,λ_=>hv⟩
 | frz=>
  simp only[handed]at e;obtain ⟨Z2,k1,k2,_,k4⟩:=kE np as vs s s2 as' Z h (Kept.refl _ _ _ _) hv e;exact ⟨Z2,k1,k2,k4⟩
 | pure=>
  simp only[handed]at e;have hr:AV.bE as=[]:=by simpa using hp
  split at e
  case h_2=>cases e
  case h_1 as'' hsn=>
   injection e with e;injection e with e1 e2;subst e1;subst e2;refine ⟨Z,h,Tr.refl _ _ _ _ _,λ_=> ?_⟩;exact lQ h.obj (λ_ hb=>hb) as vs _ hv (by rw[hr];simp) hsn (jq as _ hr hsn) L s.sto.get
theorem D1 {ids:List Id} {pars:List (Option Obj)} {env:List AV} {sto:br} {f:Id->Id} (hlen:ids.length=pars.length) (h2:∀(i:Nat) (q:Id),ids[i]? =some q->sto.get q=(jy pars i).map (·.map f)):
  St.buried ids pars ⟨env,sto⟩=⟨AV.aM (λr=>ids.contains r&&(sto.get r).isNone) env,sto.forget λr=>ids.contains r&&(sto.get r).isNone⟩:=by
 unfold St.buried;cases ha:fX pars with
 | false=>rfl
 | true=>
  have hd:∀r,(ids.contains r&&(sto.get r).isNone)=false:=by
   intro r;by_cases hm:r∈ids
   ·have hi:=rP hm;have hlt:idx ids r<pars.length:=by rw[<-hlen];exact (aq.1 hi).1
    have:=BS ha _ hlt;rw[h2 _ _ hi];cases hx:jy pars (idx ids r)with
    | none=>simp[hx]at this
    | some _=>simp
   ·simp[hm]
  rw[cW hd,mL hd]
theorem BV {np:Nat} {f:FuncId} {m:kP} {raw:Bool} {as:List AV} {dst:Option Nat} {s':St} {r:AV} (hco:iy P call) (h:RS s a w L Z) {vs:List Value} (hv:di (aH w Z L s.sto) as vs) (ht:∀t,dst=some t->t<np)
  (e:cX (real call loop) f m raw as dst s=some (r,s')) (Q:Ending->World->Prop)
  (hQ:∀v w' L' Z',RS s' a w' L' Z'->Tr np s.sto s'.sto w w' L L' Z Z'->RV (aH w' Z' L' s'.sto) r v->Q (.returned v) w'):iZ P (wS f)=true/\Calls P (wS f) vs.toArray w Q:=by
 unfold cX at e;split at e
 ·split at e
  ·cases e
  rename_i as' hsn;split at e
  ·cases e
  rename_i hemp;have hemp':AV.bE as'=[]:=by simpa using hemp
  split at e
  ·cases e
  rename_i c hc;have no_lives:∀b,¬aU [[],[]] Loc.none b:=by
   rintro b ⟨q,o,h1,_⟩;rcases kg h1 with ⟨_,h2⟩ | ⟨_,h2⟩<;>simp[jy]at h2
  have hbor:iZ P (wS f)=true/\∀Q:Ending->World->Prop,(∀v w' L' Z',RS ⟨[c.ret],[c.extra,c.pars]⟩ ⟨#[v],[]⟩ w' L' Z'->Tr 1 [[],[]] [c.extra,c.pars] w w' Loc.none L' (λb=>Z b\/aU s.sto L b) Z'->Q (.returned v) w')->Calls P (wS f) vs.toArray w Q:=by
   have hvc:=lQ (Zc:=λb=>Z b\/aU s.sto L b) h.obj (λ_ hb=> .inl hb) as vs as' hv (λq hq o ho b hb=> .inr ⟨q,o,ho,hb⟩) hsn hemp' Loc.none (br.get [[],[]]);refine ⟨(hco f as' [] c hc).1,(hco f as' [] c hc).2 vs.toArray w Loc.none (λb=>Z b\/aU s.sto L b) ⟨rfl,by simpa using hvc,λq ob hq=> ?_,λq q' b o o' hq=> ?_,λb hb=>⟨?_,no_lives b⟩⟩⟩
   ·rcases kg hq with ⟨_,h2⟩ | ⟨_,h2⟩<;>simp[jy]at h2
   ·rcases kg hq with ⟨_,h2⟩ | ⟨_,h2⟩<;>simp[jy]at h2
   ·rcases hb with hb | ⟨q,o,h1,h2⟩
    ·exact (h.dis b hb).1
    ·exact h.fq h1 h2
  split at e
  case h_2=>
   split at e
   case h_2=>cases e
   case h_1 tt hpars hca hco'=>
    split at e
    case h_2=>cases e
    case h_1 s3 hl=>
     injection e with e;injection e with e1 e2;subst e1;subst e2;obtain ⟨c1,c2⟩:=hbor;refine ⟨c1,c2 Q λv w' L' Z' k t=> ?_⟩;rw[hpars]at k t;have k':RS ⟨[c.ret],[c.extra,[]]⟩ ⟨#[v],[]⟩ w' L' Z:=by
      refine ⟨rfl,nC _ _ (by simp[mG,hca]) k.env,λq ob hq=> ?_,k.injH,λb hb=>⟨Nat.lt_of_lt_of_le (h.dis b hb).1 t.size,λhl=> ?_⟩⟩
      ·rcases kg hq with ⟨_,h2⟩ | ⟨_,h2⟩
       ·exact D0 (vV hco' _ _ h2) (k.obj q ob hq)
       ·simp[jy]at h2
      ·rcases t.lives b hl with h1 | h1
       ·exact no_lives b h1
       ·have:=(h.dis b hb).1;omega
     have t':Tr 1 [[],BT s.sto []] [c.extra,[]] w w' (Aw [] L) L' Z Z:=by
      refine ⟨t.os,t.tape,t.output,t.size,λb hb _=>t.keep b hb (no_lives b),λb hl=> .inr ((t.lives b hl).resolve_left (no_lives b)),λ_ h=>h,λ_ h=> .inl h,λr hr=> ?_,λr hr hs=> ?_⟩
      ·rw[t.par r hr];simp[Aw,Loc.none]
      ·obtain ⟨p1,_⟩:=t.psame r hr hs;obtain ⟨o,ho⟩:=Option.isSome_iff_exists.1 p1;rcases kg ho with ⟨_,h2⟩ | ⟨_,h2⟩<;>simp[jy]at h2
     obtain ⟨l1,l2⟩:=eD hl;have hg:=dH l1;have hf:=gq l1;have hret:c.ret.map (λr=>(tt,r.2))=c.ret.map (λr=>if r.1=1 then ([]:List Id).getD r.2 (0,0)else (tt,r.2)):=by
      refine oR _ λr hr=> ?_
      have:=dU _ _ k'.env r (by simpa [AV.bE]using hr);obtain ⟨o,ho⟩:=Option.isSome_iff_exists.1 this;rcases kg ho with ⟨h1,h2⟩ | ⟨_,h2⟩
      ·rw[if_neg (by omega)]
      ·simp[jy]at h2
     have hX:∀j,(jy c.extra j).map (·.map λr=>(tt,r.2))=(jy c.extra j).map (·.map λr:Id=>if r.1=1 then ([]:List Id).getD r.2 (0,0)else (tt,r.2)):=by
      intro j;cases hj:jy c.extra j with
      | none=>rfl
      | some ob=>obtain ⟨sz,xs,_,rfl | rfl⟩:=vV hco' j ob hj<;>rfl
     have hgone:∀(s:br),s.forget (λr=>([]:List Id).contains r&&(s.get r).isNone)=s:=λs=>mL (λr=>by simp) s
     by_cases hXe:c.extra=[]
     ·rw[hXe]at k' t' hg;obtain ⟨L2,r1,r2,r3⟩:=pK (np:=np) (tt:=tt) (sto:=s.sto) (fin:=s3.sto) (env:=s3.env) h (by simp) (by simp) k' t' (λhne=>(hne rfl).elim) _ (λr=>rfl) rfl (λ_ _=>rfl) (by simp) (λ_=>false) (λr=>by simp) (by rw[l2,cW (λ_=>rfl)])
       (λq=>by
        rw[if_neg (by rintro ⟨h,_⟩;exact h rfl),hg];by_cases hq:q.1=tt
        ·rw[if_pos hq,hf q hq];simp
        ·rw[if_neg hq];cases s.sto.get q with
         | none=>rfl
         | some o=>simp[mK]) (λhne=>(hne rfl).elim)
      rw[<-hret]at r3;exact hQ v w' L2 Z r1 r2 r3
     ·obtain ⟨L2,r1,r2,r3⟩:=pK (np:=np) (tt:=tt) (sto:=s.sto) (fin:=s3.sto) (env:=s3.env) h (by simp) (by simp) k' t' (λ_=>ht tt rfl) _ (λr=>rfl) rfl (λ_ _=>rfl) (by simp) (λ_=>false) (λr=>by simp) (by rw[l2,cW (λ_=>rfl)])
       (λq=>by
        rw[hg];by_cases hq:q.1=tt
        ·rw[if_pos hq,if_pos ⟨hXe,hq⟩,<-hX,<-Di];rfl
        ·rw[if_neg hq,if_neg (λhh=>hq hh.2)];cases s.sto.get q with
         | none=>rfl
         | some o=>simp[mK]) (λ_ q hq=>hf q hq)
      rw[<-hret]at r3;exact hQ v w' L2 Z r1 r2 r3
  case h_1 hsc=>
   injection e with e;injection e with e1 e2;subst e1;subst e2;obtain ⟨c1,c2⟩:=hbor;refine ⟨c1,c2 Q ?_⟩
   ·intro v w' L' Z' k t;have hk:∀b,b<w.heap.size->w'.heap[b]? =w.heap[b]? :=λb hb=>t.keep b hb (no_lives b)
    obtain ⟨k1,k2⟩:=h.more np hk t.size t.os t.tape t.output;refine hQ v w' L Z k1 k2 ?_;have h1:=k.env;simp only[di]at h1;obtain ⟨v',vs',e1,h2,e2⟩:=h1;subst e2;have:v'=v:=by have:[v]=[v']:=e1;injection this with this;exact this.symm
    subst this;generalize c.ret=x at h2 hsc;cases x with
    | d y=>cases y<;>first | (simp[scalar]at hsc;done) | (simp only[RV,RD]at h2 |-;exact h2)
    | bare=>simpa only [RV]using h2
    | tup l=>cases l with
     | nil=>simp only[RV,di]at h2 |-;exact h2
     | cons _ _=>simp[scalar]at hsc
    | _=>simp[scalar]at hsc
 ·rename_i hm;split at e
  ·cases e
  rename_i hp;split at e
  ·cases e
  rename_i as' s2 hh;obtain ⟨Z2,g1,g2,g3⟩:=zj np h hv (λe=>hm e) hp hh;split at e
  ·cases e
  rename_i ids hids;obtain ⟨i1,i2,i3,_,i5⟩:=lO 60 _ [] ids hids (by simp) (by simp) (by simp);split at e
  ·cases e
  rename_i c hc;simp only at e;split at e
  ·cases e
  rename_i sto hwb;obtain ⟨b1,b2,b3⟩:=vS hwb i1 i2;have b3':∀(i:Nat) (q:Id),ids[i]? =some q->sto.get q=(jy c.pars i).map (·.map λr=>if r.1=1 then ids.getD r.2 (0,0)else (dst.getD 0,r.2)):=by
   intro i q hi;rw[b3 i q hi];unfold jy;cases c.pars[i]? <;>rfl
  rw[D1 b1 b3']at e;have hin:=Jc g1 i1 i5 (g3 λr hr=>i2 r (i3 r hr)) i3;refine ⟨(hco f _ _ c hc).1,(hco f _ _ c hc).2 vs.toArray w (Aw ids L) Z2 hin Q ?_⟩;intro v w' L' Z' k t;split at e
  ·rename_i hX;injection e with e;injection e with e1 e2;subst e1;subst e2;rw[hX]at k t;obtain ⟨L2,r1,r2,r3⟩:=pK (np:=np) (tt:=dst.getD 0) (sto:=sto) (fin:=sto.forget λr=>ids.contains r&&(sto.get r).isNone) g1 i1 i2 k t (λhne=>(hne rfl).elim) _ (λr=>rfl) b1 b2 b3' _ (λr=>rfl) rfl
    (λq=>by rw[kU,if_neg (by rintro ⟨h,_⟩;exact h rfl)]) (λhne=>(hne rfl).elim)
   exact hQ v w' L2 Z' r1 (g2.trans r2) r3
  ·rename_i o ex hX;split at e
   case h_2=>cases e
   case h_1 tt=>
    split at e
    case h_2=>cases e
    case h_1 s3 hl=>
     injection e with e;injection e with e1 e2;subst e1;subst e2;rw[hX]at k t;obtain ⟨l1,l2⟩:=eD hl;have hg:=dH l1;have hf:=gq l1;obtain ⟨L2,r1,r2,r3⟩:=pK (np:=np) (tt:=tt) (sto:=sto) (fin:=s3.sto) (env:=s3.env) g1 i1 i2 k t (λ_=>ht tt rfl) _ (λr=>rfl) b1 b2 b3' _ (λr=>rfl) l2
      (λq=>by
       rw[hg];by_cases hq:q.1=tt
       ·rw[if_pos hq,if_pos ⟨by simp,hq⟩,<-Di];rfl
       ·rw[if_neg hq,if_neg (λhh=>hq hh.2),kU]) (λ_ q hq=>by
       have:=hf q hq;rw[kU]at this;cases hx:sto.get q with
       | none=>rfl
       | some _=>simp[hx]at this)
     exact hQ v w' L2 Z' r1 (g2.trans r2) r3
end
section
section
variable {P:Program} {call:cM} {loop:cN}
variable {s:St} {a:Act} {w:World} {L:Loc} {Z:Nat->Prop}
theorem Dj {np:Nat} {o:Oper} {c:Call} {isMax:Bool} {x y:Operand} {x' y':VX} {dst:Option Nat} {r:AV} {s':St} (h:RS s a w L Z) (ho:o.op= .call c)
  (hc:c.callee= .builtin (match isMax with | true=> .max | false=> .min)) (ha:c.args.toList=[x,y]) (hx:cR x x'=true) (hy:cR y y'=true)
  (e:aI (real call loop) s dst (.mx isMax x' y')=some (r,s')):aV P np o s a w L Z r s':=by
 simp only[aI]at e;split at e
 case h_2=>cases e
 case h_1 k p k' q e1 e2=>
  split at e
  case isFalse=>cases e
  case isTrue hk=>
   subst hk;have h1:=aL h hx e1;have h2:=aL h hy e2;simp only[RV,RD,List.cons.injEq,and_true]at h1 h2;have ha':c.args= #[x,y]:=Array.ext' ha;have key:∀n:Int,(match isMax with | true=>(if q>p then q else p) | false=>(if q<p then q else p))=n->r= .d (.int k n)->s'=s->aV P np o s a w L Z r s':=by
    intro n hn hr hs;subst hr;subst hs;refine aV.pure h (u:= .int k n) ?_ (by simp only[RV,RD]);unfold execOp;rw[ho];cases isMax with
    | true=>simp[resolve,hc,invoke,builtin,ha',h1,h2,Builtin.max_,Builtin.max2,<-hn]
    | false=>simp[resolve,hc,invoke,builtin,ha',h1,h2,Builtin.min_,Builtin.min2,<-hn]
   simp only[real,aJ.cmp,qJ]at e;split at e
   ·rename_i hlt;have hlt:p<q:=by simpa using hlt
    cases isMax with
    | true=>injection e with e;injection e with e3 e4;exact key q (by simp only;rw[if_pos hlt]) e3.symm e4.symm
    | false=>injection e with e;injection e with e3 e4;exact key p (by simp only;rw[if_neg (by omega)]) e3.symm e4.symm
   ·rename_i hlt;have hlt:¬p<q:=by simpa using hlt
    cases isMax with
    | true=>injection e with e;injection e with e3 e4;exact key p (by simp only;rw[if_neg (by omega)]) e3.symm e4.symm
    | false=>injection e with e;injection e with e3 e4;exact key q (by simp only;split<;>omega) e3.symm e4.symm
theorem D2 {np:Nat} {o:Oper} {c:Call} {x:Operand} {x':VX} {t e:TypeId} {dst:Option Nat} {r:AV} {s':St} (h:RS s a w L Z) (ho:o.op= .call c)
  (hc:c.callee= .builtin .cap) (ha:c.args.toList=[x]) (ht:c.argTypes.toList=[t]) (hu:P.underlying t=some (.slice e)) (hx:cR x x'=true)
  (es:aI (real call loop) s dst (.capE x')=some (r,s')):aV P np o s a w L Z r s':=by
 simp only[aI]at es;split at es
 case h_2=>cases es
 case h_1 e1=>
  injection es with es;injection es with q1 q2;subst q1;subst q2;have h1:=aL h hx e1;simp only[RV]at h1;obtain ⟨A,h1⟩:=h1;have ha':c.args= #[x]:=Array.ext' ha;have ht':c.argTypes= #[t]:=Array.ext' ht;refine aV.pure h (u:= .int .i64 0) ?_ (by simp only[RV,RD]);unfold execOp;rw[ho];simp[resolve,hc,invoke,builtin,ha',ht',h1,Builtin.cap_,run_underlying hu,goInt]
theorem uw (w:World) (A:Option Addr) (size cap:Nat):(Builtin.firstCells size 0 (.slice A 0 cap)).run P w= .ok #[] w:=by
 cases A<;>simp[Builtin.firstCells,loadCells,loadCellsFrom]
theorem sY (w:World) (t tn ty e:TypeId) (i:TypeInfo) (z:Value) (k kn:IntKind) (A:Option Addr) (ht:P.underlying t=some (.slice e)) (htn:P.underlying tn=some (.int kn)) (hi:P.info? e=some i) (hz:i.zero=some z)
  (n:Nat) (h0:0<n) (hs:0<i.size) (h63:(n:Int)<=9223372036854775807) (h48:n*i.bytes<=281474976710656):
  (Builtin.append_ #[t,tn] ty #[.slice A 0 0,.int k n]).run P w=
   .ok (.slice (some ⟨w.heap.size,0,none⟩) n (grownCap w n 0 e)) (w.drew.alloc (.cells (Builtin.zeroCells z.cells n++Builtin.zeroCells z.cells (grownCap w n 0 e-n)) e)):=by
 have hn:n≠0:=by omega
 have hw:IntKind.i64.wrap (n:Int)=n:=by rw[IntKind.wrap_i64];omega
 have h63':¬(9223372036854775807<(n:Int)):=by omega
 have h48':¬(281474976710656<Builtin.nextslicecap n 0*i.bytes):=by rw[nextslicecap_zero h0];omega
 have h48i:¬(281474976710656<(n:Int)*(i.bytes:Int)):=by
  rw[<-Int.natCast_mul];omega
 have hneg:¬((n:Int)<0):=by omega
 have hns:¬(n*i.size=0):=Nat.mul_ne_zero hn (by omega);simp[Builtin.append_,run_underlying ht,run_underlying htn,sizeOf,typeInfo,zeroValue,hi,hz,Go.asInt,Go.asIntOf,hw,hn,hneg,hns,h63',h48',h48i,Question.forced,uw,newRow,grownCap]
theorem zk {np t:Nat} {s':St} {o:Oper} {ty tn e:TypeId} {i:TypeInfo} {z:Value} {kn:IntKind} {x y:Operand} {x' y':VX} {agg:Bool} {zero:List AV} {r:AV}
  (h:RS s a w L Z) (ho:o.op= .call { callee:= .builtin .append,args:= #[x,y],argTypes:= #[ty,tn] }) (hx:cR x x'=true) (hy:cR y y'=true) (hu:P.underlying ty=some (.slice e)) (hun:P.underlying tn=some (.int kn)) (hi:P.info? e=some i) (hz:i.zero=some z) (hzs:z.cells.size=i.size) (hpos:0<i.size)
  (hok:eK z.cells.toList zero=true) (ht:t<np) (es:aI (real call loop) s (some t) (.appendN (e,i.size) i.bytes agg zero x' y')=some (r,s')):aV P np o s a w L Z r s':=by
 simp only[aI]at es;split at es
 case h_2=>cases es
 case h_1 k n t' e1 e2 ht'=>
  injection ht' with ht';subst ht';split at es
  case isFalse=>cases es
  case isTrue _=>
   split at es
   case h_2=>cases es
   case h_1 ds hds=>
    split at es
    case h_2=>cases es
    case h_1 zd hzd=>
     split at es
     case h_2=>cases es
     case h_1 hgt hfit=>
      split at es
      case h_2=>cases es
      case h_1 s2 hl=>
       injection es with es;injection es with q1 q2;subst q1;subst q2;have h1:=aL h hx e1;have h2:=aL h hy e2;simp only[RV,RD,List.cons.injEq,and_true]at h1 h2;obtain ⟨A,h1⟩:=h1;simp only[real,aJ.cmp,qJ,decide_eq_true_eq]at hgt;simp only[real,aJ.fF]at hfit;obtain ⟨f1,f2,f3⟩:=of_decide_eq_true hfit;obtain ⟨m,rfl⟩:=Int.eq_ofNat_of_zero_le f1;have hm0:0<m:=by omega
       have f2':m*i.bytes<=140737488355328:=by rw[<-Int.natCast_mul]at f2;omega
       have hcat:gF w Z i.size ((real call loop).qz m zd) (List.replicate m z.cells.toList).flatten:=by
        have hrd:RD w Z zd z.cells.toList:=by
         apply lV;rw[pV hzd];exact sG (c:=⟨w,Z,L,s.sto.get⟩) hok hds
        have hcr:gF w Z i.size (List.replicate m zd) (List.replicate m z.cells.toList).flatten:=jA hrd (by rw[Array.length_toList,hzs]) m;show gF w Z i.size (List.replicate (m:Int).toNat zd) _;rw[Int.toNat_natCast];exact hcr
       have hlen:((real call loop).qz m zd).length=m:=by show (List.replicate (m:Int).toNat zd).length=m;rw[Int.toNat_natCast,List.length_replicate]
       have hr:=sY (P:=P) w ty tn o.type e i z k kn A hu hun hi hz m hm0 hpos f3 (by omega);have hge:m<=grownCap w m 0 e:=grownCap_ge w m 0 e;have hcm:grownCap w m 0 e<=maxLen:=grownCap_le_maxLen w m 0 e (by unfold maxLen;omega);have hszc:(Builtin.zeroCells z.cells m++Builtin.zeroCells z.cells (grownCap w m 0 e-m):Array Value).size=grownCap w m 0 e*i.size:=by
        rw[Array.size_append,size_zeroCells,size_zeroCells,hzs,<-Nat.add_mul];congr 1;omega
       obtain ⟨L',k1,k2,k3,k4,k5⟩:=tH (cells:=Builtin.zeroCells z.cells m++Builtin.zeroCells z.cells (grownCap w m 0 e-m)) (w':=w.drew.alloc (.cells (Builtin.zeroCells z.cells m++Builtin.zeroCells z.cells (grownCap w m 0 e-m)) e)) h hl ht rfl rfl rfl rfl hcat
        (λj v hj=>by
         have hz2:(Builtin.zeroCells z.cells m).toList=(List.replicate m z.cells.toList).flatten:=range_zero z.cells m (by omega);have hlt:j<(Builtin.zeroCells z.cells m).size:=by
          rw[<-Array.length_toList,hz2];exact (aq.1 hj).1
         rw[Array.getElem?_append_left hlt,<-Array.getElem?_toList,hz2];exact hj)
        (by rw[hszc,hlen];exact Nat.mul_le_mul_right _ hge)
       refine aV.value (u:= .slice (some ⟨w.heap.size,0,none⟩) m (grownCap w m 0 e)) ?_ k1 k2 ?_
       ·unfold execOp;rw[ho];simp[resolve,invoke,builtin,h1,h2,hr]
       ·simp only[RV];refine ⟨_,m,grownCap w m 0 e,_,rfl,⟨hge,hcm⟩,λe=>(by cases e),wI k4,λ_=>hlen.symm,λx m e=>(by cases e),λe=>(by rw[k3]at e;cases e),λb hb=> ?_⟩;have:w.heap.size=b:=by have:some w.heap.size=some b:=k3.symm.trans hb;injection this
        subst this;exact .inr ⟨by simp[bq],by rw[k5,hszc];simp[bq]⟩
theorem w9 (np:Nat) (h:RS s a w L Z) {o:Oper} {x:Operand} {x':VX} (ho:o.op= .nilCheck x) (hx:cR x x'=true) {u r:AV} (e:ev s.env x'=some u)
  (er:(match u with | .ptr q k=>some (AV.ptr q (k+0)) | .prow q z j n=>some (.prow q z j (n+0)) | .sp cs k=>some (.sp cs (k+0)) | _=>none)=some r):aV P np o s a w L Z r s:=by
 have h1:=aL h hx e;have hrun:∀p,a.eval x= .pointer (some p)->(execOp a.eval o).run P w= .ok (.value (.pointer (some p))) w:=by
  intro p hp;unfold execOp;rw[ho];simp[hp]
 split at er
 ·injection er with er;subst er;have h2:=h1;simp only[RV]at h2;obtain ⟨b,_,_,h2⟩:=h2;exact aV.pure h (hrun _ h2) (by rw[<-h2];exact h1)
 ·injection er with er;subst er;have h2:=h1;simp only[RV]at h2;obtain ⟨b,_,_,_,h2⟩:=h2;exact aV.pure h (hrun _ h2) (by rw[<-h2];exact h1)
 ·injection er with er;subst er;have h2:=h1;simp only[RV]at h2;obtain ⟨b,o',vs,h2,_⟩:=h2;exact aV.pure h (hrun _ h2) (by rw[<-h2];exact h1)
 ·cases er
theorem w_ {np:Nat} {o:Oper} {ty e:TypeId} {i:TypeInfo} {ps:Array (Nat×Operand)} (h:RS s a w L Z) (ho:o.op= .buildSlice ty 0 ps) (hp:ps.toList=[]) (hu:P.underlying ty=some (.slice e)) (hi:P.info? e=some i):aV P np o s a w L Z .emp s:=by
 have hp':ps= #[]:=Array.ext' hp;subst hp';have hrun:(execOp a.eval o).run P w= .ok (.value (.slice (some ⟨w.heap.size,0,none⟩) 0 0)) { w with heap:=w.heap.push (.cells #[] e) }:=by
  refine eE (m:=Instr.buildSlice ty 0 #[]) (by unfold execOp;rw[ho];simp) ?_;unfold Instr.buildSlice;have e1:Array.map (λ_=>(default:Value)) (Array.range 0)= #[]:=Array.ext' (by simp);simp only[Sem.run_bind,run_underlying hu,Result.andThen,sizeOf,typeInfo,Sem.run_pure];simp[hi,newRow,e1,Instr.fill]
 obtain ⟨k1,k2⟩:=h.more (w':={ w with heap:=w.heap.push (.cells #[] e) }) np (λb hb=>by
  show (w.heap.push _)[b]? =_;rw[Array.getElem?_push,if_neg (by omega)]) (by simp) rfl rfl rfl
 exact aV.value hrun k1 k2 (by simp only[RV];exact ⟨_,rfl⟩)
theorem Gl:∀{vs:List AV} {ds:List D},dL vs=some ds->vs=ds.map .d
 | [],ds,h=>by simp only[dL]at h;injection h with h;subst h;rfl
 | v::vs,ds,h=>by
  cases v with
  | d x=>
   simp only[dL]at h;split at h
   case h_2=>cases h
   case h_1 xs hx=>injection h with h;subst h;rw[Gl hx];rfl
  | _=>simp[dL]at h
theorem D3 {np:Nat} {ty:TypeId} {x:Operand} {x':VX} {o:Oper} {dst:Option Nat} {r:AV} {s':St} (h:RS s a w L Z) (ho:o.op= .box ty x) (hx:cR x x'=true)
  (e:aI (real call loop) s dst (.boxZ x')=some (r,s')):aV P np o s a w L Z r s':=by
 simp only[aI]at e;split at e
 case h_2=>cases e
 case h_1 u hu=>
  split at e
  case h_2=>cases e
  case h_1 ds hds=>
   injection e with e;injection e with e1 e2;subst e1;subst e2;have hm:=Gl hds;have hv:=aL h hx hu;have hcells:di (aH w Z L s.sto) u.cells (a.eval x).cells.toList:=by
    refine pA hv ?_ ?_ ?_
    ·rintro vs rfl;simp[AV.cells,dL]at hds
    ·rintro rfl;simp[AV.cells,dL]at hds
    ·rintro rfl;simp[AV.cells,dL]at hds
   obtain ⟨hl,he⟩:=bF.1 hcells;have hrd:fk w Z ds (a.eval x).cells.toList:=eC.2 ⟨by rw[<-hl,hm];simp,λi d v h1 h2=>by
    have:=he i (.d d) v (by rw[hm];simp[h1]) h2;simpa only [RV]using this⟩
   have hrun:(execOp a.eval o).run P w= .ok (.value (.pointer (some ⟨w.heap.size,0,none⟩))) { w with heap:=w.heap.push (.cells (a.eval x).cells ty) }:=by
    refine eE (m:=Instr.box ty (a.eval x)) (by unfold execOp;rw[ho]) ?_;simp[Instr.box,newVar,newRow]
   obtain ⟨k1,k2⟩:=h.more (w':={ w with heap:=w.heap.push (.cells (a.eval x).cells ty) }) np (λb hb=>by
    show (w.heap.push _)[b]? =_;rw[Array.getElem?_push,if_neg (by omega)]) (by simp) rfl rfl rfl
   have hnl:¬aU s.sto L w.heap.size:=λhl=>by obtain ⟨q,ob,p1,p2⟩:=hl;have:=h.fq p1 p2;omega
   have k3:=k1.Oj (λb=>b=w.heap.size) (λb hb=>by subst hb;exact ⟨by simp,hnl⟩);have hzle:jV w { w with heap:=w.heap.push (.cells (a.eval x).cells ty) } Z (λb=>Z b\/b=w.heap.size):=λb hb=>⟨.inl hb,by
    have:=(h.dis b hb).1;show (w.heap.push _)[b]? =_;rw[Array.getElem?_push,if_neg (by omega)]⟩
   refine aV.value hrun k3 ⟨k2.os,k2.tape,k2.output,k2.size,k2.keep,k2.lives,λb hb=> .inl hb,λb hb=> ?_,k2.par,λr hr hs=> ?_⟩ ?_
   ·rcases hb with hb | hb
    ·exact .inl hb
    ·subst hb;exact .inr (.inl (Nat.le_refl _))
   ·exact ⟨hs,(k2.psame r hr hs).2⟩
   ·simp only[RV];refine ⟨w.heap.size,0,_,rfl,.inr rfl,oP hzle _ _ hrd,λj v hj=> ?_⟩;simp only[World.cell?,Nat.zero_add];simp at hj |-;exact hj
end
end
section
section
variable {P:Program} {call:cM} {loop:cN}
variable {s:St} {a:Act} {w:World} {L:Loc} {Z:Nat->Prop}
theorem Ay {sz:Nat}:∀(k:Nat) {xs:List D} {cs:List Value},gF w Z sz xs cs->gF w Z sz (xs.take k) (cs.take (k*sz))
 | 0,xs,cs,h=>by simp[gF]
 | k+1,[],cs,h=>by simp only[gF]at h;subst h;simp[gF]
 | k+1,x::xs,cs,h=>by
  simp only[gF]at h;obtain ⟨us,vs,rfl,h1,h2,h3⟩:=h;simp only[List.take_succ_cons,gF];refine ⟨us,vs.take (k*sz),?_,h1,h2,Ay k h3⟩;rw[Nat.succ_mul,List.take_append,List.take_of_length_le (by omega)];congr 2;omega
theorem Az {sz:Nat}:∀(k:Nat) {xs:List D} {cs:List Value},gF w Z sz xs cs->gF w Z sz (xs.drop k) (cs.drop (k*sz))
 | 0,xs,cs,h=>by simpa using h
 | k+1,[],cs,h=>by simp only[gF]at h;subst h;simp[gF]
 | k+1,x::xs,cs,h=>by
  simp only[gF]at h;obtain ⟨us,vs,rfl,h1,h2,h3⟩:=h;simp only[List.drop_succ_cons];have:=Az k h3;rw[Nat.succ_mul,List.drop_append,List.drop_of_length_le (l:=us) (by omega),List.nil_append];rw[show k*sz+sz-us.length=k*sz by omega];exact this
theorem xh (w:World) (dT sT ty e:TypeId) (A B:Option Addr) (dLen dCap sLen sCap:Nat) (i:TypeInfo) (hu:P.underlying dT=some (.slice e)) (hi:P.info? e=some i) (hn:Nat.min sLen dLen=0):
  (Builtin.copy_ #[dT,sT] ty #[.slice A dLen dCap,.slice B sLen sCap]).run P w= .ok (goInt 0) w:=by
 have hn':min sLen dLen=0:=hn;cases A<;>cases B<;>simp[Builtin.copy_,run_underlying hu,Builtin.lenOf,Builtin.firstCells,sizeOf,typeInfo,hi,hn',loadCells,loadCellsFrom,storeCells]
theorem vW (w:World) (dT sT ty e:TypeId) (g dLen dCap:Nat) (ad:Addr) (sLen sCap:Nat) (cur:Array Value) (t:TypeId) (cs:List Value) (i:TypeInfo)
  (hu:P.underlying dT=some (.slice e)) (hi:P.info? e=some i) (hg:w.heap[g]? =some (.cells cur t (0,0))) (hn:cs.length=Nat.min sLen dLen*i.size)
  (hsrc:∀j v,cs[j]? =some v->w.cell? (ad.add j)=some v) (hfit:cs.length<=cur.size) (h1:∀v∈cs,v.oneCell'=true):
  (Builtin.copy_ #[dT,sT] ty #[.slice (some ⟨g,0,none⟩) dLen dCap,.slice (some ad) sLen sCap]).run P w=
   .ok (goInt (Nat.min sLen dLen)) (w.setRow g (cs++cur.toList.drop cs.length).toArray):=by
 have hl:=run_loadCells_list (P:=P) w ad cs hsrc;have hst:=run_storeCells_at P g 0 t cs 0 cur w hg (by simpa using hfit) h1;rw[hn]at hl;have hl':(loadCells ad (min sLen dLen*i.size)).run P w= .ok cs.toArray w:=hl;simp[Builtin.copy_,run_underlying hu,Builtin.lenOf,Builtin.firstCells,sizeOf,typeInfo,hi,hl',hst]
theorem D4 {np:Nat} {s':St} {o:Oper} {dT sT e:TypeId} {i:TypeInfo} {x y:Operand} {x' y':VX} {dst:Option Nat} {r:AV} (h:RS s a w L Z)
  (ho:o.op= .call { callee:= .builtin .copy,args:= #[x,y],argTypes:= #[dT,sT] }) (hx:cR x x'=true) (hy:cR y y'=true)
  (hu:P.underlying dT=some (.slice e)) (hi:P.info? e=some i) (es:aI (real call loop) s dst (.copy (e,i.size) x' y')=some (r,s')):aV P np o s a w L Z r s':=by
 have hrun:∀{m:Value} {w':World},(Builtin.copy_ #[dT,sT] o.type #[a.eval x,a.eval y]).run P w= .ok m w'->(execOp a.eval o).run P w= .ok (.value m) w':=by
  intro m w' hm;unfold execOp;rw[ho];simp[resolve,invoke,builtin,hm]
 simp only[aI]at es;split at es
 case h_2=>cases es
 case h_1 q sz' u b e1 e2=>
  split at es
  case h_2=>cases es
  case h_1 ys z xs hys hq=>
   split at es
   case isFalse=>cases es
   case isTrue hsz=>
    subst hsz;split at es
    case h_2=>cases es
    case h_1 hfit=>
     injection es with es;injection es with q1 q2;subst q1;subst q2;have hA:=aL h hx e1;have hB:=aL h hy e2;obtain ⟨B,cap2,b1,b2,b3⟩:=cG h.obj hB hys;simp only[RV]at hA;obtain ⟨A,n,cap,zs,m1,⟨m2,m2'⟩,m3,m4,m5,m6,m7,m8⟩:=hA;have m4':(s.sto.get q).bind Obj.rw=some ((e,i.size),zs):=m4;rw[hq]at m4';have m4'':z=(e,i.size)/\xs=zs:=by simpa [Obj.rw]using m4'
     obtain ⟨rfl,rfl⟩:=m4'';have hn:n=xs.length:=by simpa using m5
     have hro:=h.obj q _ hq;simp only[RO]at hro;have hover:(real call loop).over xs ys=ys.take xs.length++xs.drop ys.length:=rfl;have hlen:((real call loop).over xs ys).length=xs.length:=by rw[hover];simp;omega
     by_cases h0:min ys.length xs.length=0
     ·have hsame:(real call loop).over xs ys=xs:=by
       rw[hover];rcases Nat.eq_zero_or_pos ys.length with hz | hz
       ·have:ys=[]:=List.length_eq_zero_iff.1 hz;subst this;simp
       ·have:xs=[]:=List.length_eq_zero_iff.1 (by omega);subst this;simp
      rw[hsame];obtain ⟨k1,k2,k3⟩:=RS.swap (ob':= .rows (e,i.size) xs) (N:=λ_=>False) np h hq (λsz ws hh=>⟨ws,hh,rfl⟩) (λb hb=>by
       rcases hb with hb | ⟨hb,_⟩
       ·exact .inl hb
       ·cases hb) (by simp only[RO];exact hro)
      exact aV.value (hrun (by rw[m1,b1];exact xh w dT sT o.type e A B n cap ys.length cap2 i hu hi (by subst hn;exact h0))) k1 k2 (by simp only[RV])
     ·have hyne:ys≠[]:=λe=>by subst e;simp at h0
      have hxpos:0<xs.length:=by omega
      obtain ⟨blk,hblk⟩:∃blk,L q=some blk:=by
       cases hL:L q with
       | none=>have:=hro.1 hL;subst this;simp at hxpos
       | some blk=>exact ⟨blk,rfl⟩
      obtain ⟨vs,v1,v2,v3⟩:=hro.2 blk hblk;have hAa:A=some ⟨blk,0,none⟩:=by
       rcases m8 blk hblk with ⟨_,p2⟩ | ⟨p1,_⟩
       ·exact (p2 (by simp[bq])).elim
       ·simpa [bq]using p1
      have hall:ys.all (λy=>y.cells.length==i.size)=true:=by
       have hf:=hfit;simp only[real,aJ.fits,af]at hf;exact hf.2
      obtain ⟨sb,so,scap,cs,c1,c2,c3⟩:=source h.obj hB hys hall hyne;have hcl:=jb c2;have hcap:cap2=scap:=by rw[b1]at c1;injection c1
      have hm:min ys.length xs.length<=ys.length:=Nat.min_le_left _ _;generalize hmm:min ys.length xs.length=m at*;have hcs:(cs.take (m*i.size)).length=m*i.size:=by
       rw[List.length_take,hcl];exact Nat.min_eq_left (Nat.mul_le_mul_right _ hm)
      have hfitv:m*i.size<=vs.size:=Nat.le_trans (Nat.mul_le_mul_right _ (by omega:m<=xs.length)) v2;have hr:=vW (P:=P) w dT sT o.type e blk n cap ⟨sb,so,none⟩ ys.length scap vs (e,i.size).1 (cs.take (m*i.size)) i hu hi v1 (by rw[hcs,hn];show m*i.size=min ys.length xs.length*i.size;rw[hmm])
       (λj v hj=>c3 j v (by rw[List.getElem?_take]at hj;split at hj;exact hj;cases hj)) (by rw[hcs];exact hfitv) (λv hv=>uR c2 v (List.mem_of_mem_take hv))
      rw[hcs]at hr;have hbz:¬Z blk:=λhz=>(h.dis _ hz).2 ⟨q,_,hq,.inl hblk⟩
      generalize hcells:(cs.take (m*i.size)++vs.toList.drop (m*i.size)).toArray=cells at hr;have hsize:cells.size=vs.size:=by rw[<-hcells];simp[hcs];omega
      have hheap:(w.setRow blk cells).heap[blk]? =some (.cells cells (e,i.size).1 (0,0)):=setRow_heap w blk vs _ _ (0,0) v1;have hother:∀k,k≠blk->(w.setRow blk cells).heap[k]? =w.heap[k]? :=λk hk=>setRow_other _ _ _ _ hk
      have hzle:jV w (w.setRow blk cells) Z Z:=λk hk=>⟨hk,hother k λe=>hbz (e ▸ hk)⟩
      obtain ⟨cx,x1,x2⟩:=sD v3;have hxl:=jb x1;have hxv:cx=vs.toList.take (xs.length*i.size):=by
       apply List.ext_getElem?;intro j;rw[List.getElem?_take];by_cases hj:j<xs.length*i.size
       ·rw[if_pos hj];have hjc:cx[j]? =some cx[j]:=bg (by omega);have:=x2 j _ hjc;simp only[World.cell?,v1,Nat.zero_add]at this;rw[hjc];simpa using this.symm
       ·rw[if_neg hj,List.getElem?_eq_none (by omega)]
      have hnewcat:gF (w.setRow blk cells) Z i.size ((real call loop).over xs ys) ((cs.take (m*i.size))++cx.drop (m*i.size)):=by
       have t1:ys.take xs.length=ys.take m:=by
        rcases Nat.le_total ys.length xs.length with hle | hle
        ·rw[List.take_of_length_le hle,List.take_of_length_le (by omega)]
        ·rw[show m=xs.length by omega]
       have t2:xs.drop ys.length=xs.drop m:=by
        rcases Nat.le_total ys.length xs.length with hle | hle
        ·rw[show m=ys.length by omega]
        ·rw[List.drop_of_length_le hle,List.drop_of_length_le (by omega)]
       rw[hover,t1,t2];exact sB hzle (nQ (Ay m c2) (Az m x1))
      obtain ⟨k1,k2⟩:=RS.write (w':=w.setRow blk cells) (ob':= .rows (e,i.size) ((real call loop).over xs ys)) np h hq hblk rfl rfl rfl (by simp) hother
       (by
         simp only[bX,hheap,v1];exact hsize) (λsz ws hh=>⟨(real call loop).over xs ys,by simp[Obj.rw]at hh |-;exact hh.1,by simp[Obj.rw]at hh;rw[hlen,hh.2]⟩) (λhh=>hh) (λhsame hz=>by
        simp only[RO];refine ⟨λhL=>(by rw[hblk]at hL;cases hL),λb' hb'=> ?_⟩;have:blk=b':=by rw[hblk]at hb';injection hb'
        subst this;refine ⟨cells,hheap,by rw[hlen,hsize];exact v2,sF hnewcat λj v hj=> ?_⟩;simp only[World.cell?,hheap,Nat.zero_add];rw[List.getElem?_append]at hj;rw[<-hcells];simp only[List.getElem?_toArray];rw[List.getElem?_append];split at hj
        ·rename_i hlt;rw[if_pos hlt];exact hj
        ·rename_i hlt;rw[if_neg hlt];rw[List.getElem?_drop]at hj |-;rw[hxv,List.getElem?_take]at hj;split at hj
         ·exact hj
         ·cases hj)
      refine aV.value (hrun (by rw[m1,hAa,b1];rw[b1]at c1;injection c1 with c1 _ _;rw[c1,hcap];exact hr)) k1 k2 (by simp only[RV])
end
end
def okV (P:Program):Op->lZ->Bool
 | .move x,.move y=>cR x y
 | .assign x,.move y=>cR x y
 | .pick c x y,.pick c' x' y'=>cR c c'&&cR x x'&&cR y y'
 | .alloc t,.alloc cs=>match P.info? t with
  | some i=>match i.zero with
   | some z=>eK z.cells.toList cs
   | none=>false
  | none=>false
 | .box _ x,.box y=>cR x y
 | .box _ x,.boxZ y=>cR x y
 | .build t ps,.build zero qs=>match P.underlying t,P.info? t with
  | some (.struct fields),some i=>match i.zero,fields.toList.mapM (λf=>(P.info? f.type).map λi=>(f.offset,i.size))with
   | some z,some places=>nA places ps.toList qs&&eK z.cells.toList zero
   | _,_=>false
  | _,_=>false
 | .buildSlice t len ps,.buildSlice sz _ zero len' qs=>match P.underlying t with
  | some (.slice e)=>match P.info? e with
   | some i=>match i.zero with
    | some z=>sz.1==e&&sz.2==i.size&&len==len'&&lN ps.toList qs&&z.cells.size==i.size&&decide (0<i.size)&&eK z.cells.toList zero&&decide (len*i.size<=2^24)
    | none=>false
   | none=>false
  | _=>false
 | .buildSlice t len ps,.emptyRow=>match P.underlying t with
  | some (.slice e)=>len==0&&ps.toList.isEmpty&&(P.info? e).isSome
  | _=>false
 | .buildSlice t len ps,.buildRow sz _ zero len' qs=>match P.underlying t with
  | some (.slice e)=>match P.info? e with
   | some i=>match i.zero with
    | some z=>sz.1==e&&sz.2==i.size&&len==len'&&lN ps.toList qs&&z.cells.size==i.size&&decide (0<i.size)&&eK z.cells.toList zero&&decide (len*i.size<=2^24)
    | none=>false
   | none=>false
  | _=>false
 | .buildSlice t len ps,.buildO sz x'=>match P.underlying t,ps.toList with
  | some (.slice e),[(0,x)]=>match P.info? e with
   | some i=>match i.zero with
    | some z=>sz.1==e&&sz.2==i.size&&len==1&&cR x x'&&z.cells.size==i.size&&decide (0<i.size)&&decide (i.size<=2^24)
    | none=>false
   | none=>false
  | _,_=>false
 | .buildSlice t len ps,.buildH sz _ x'=>match P.underlying t,ps.toList with
  | some (.slice e),[(0,x)]=>match P.info? e with
   | some i=>match i.zero with
    | some z=>sz.1==e&&sz.2==i.size&&len==1&&cR x x'&&z.cells.size==i.size&&decide (0<i.size)&&decide (i.size<=2^24)
    | none=>false
   | none=>false
  | _,_=>false
 | .call c,.appendO sz bytes x' y'=>match c.callee,c.args.toList,c.argTypes.toList with
  | .builtin .append,[x,y],[t,t']=>t==t'&&cR x x'&&cR y y'&&(match P.underlying t with
   | some (.slice e)=>(match P.info? e with
    | some i=>(match i.zero with
     | some z=>sz.1==e&&sz.2==i.size&&bytes==i.bytes&&z.cells.size==i.size
     | none=>false)
    | none=>false)
   | _=>false)
  | _,_,_=>false
 | .load t x,.vN y=>match P.info? t,P.underlying t with
  | some i,some d=>cR x y&&i.size==1&&sw d==false
  | _,_=>false
 | .load t x,.lendF y=>match P.info? t,P.underlying t with
  | some i,some d=>cR x y&&i.size==1&&sw d==false
  | _,_=>false
 | .load t x,.load agg n y=>match P.info? t,P.underlying t with
  | some i,some d=>cR x y&&i.size==n&&agg==sw d
  | _,_=>false
 | .store t x y,.store n x' y'=>match P.info? t with
  | some i=>i.size==n&&cR x x'&&cR y y'
  | none=>false
 | .store t x y,.storeR n x' y'=>match P.info? t with
  | some i=>i.size==n&&cR x x'&&cR y y'
  | none=>false
 | .store t x y,.storeP n x' y'=>match P.info? t with
  | some i=>i.size==n&&cR x x'&&cR y y'
  | none=>false
 | .binOp op t x y _,.bin G6 op' x' y'=>decide (op=op')&&cR x x'&&cR y y'&&(!G6 || (match P.underlying t with | some .bool=>true | _=>false))
 | .binOp op t x (.const (.pointer none)) _,.eqNil ne x'=>decide (op=match ne with | true=> .neq | false=> .eql)&&cR x x'&&(match P.underlying t with | some (.pointer _)=>true | _=>false)
 | .unOp .neg _ x,.neg y=>cR x y
 | .unOp .not _ x,.not y=>cR x y
 | .convert t t' x,.conv c y=>cR x y&&match c with
  | .int k=>(match P.underlying t with | some (.int _)=>true | _=>false)&&(match P.underlying t' with | some (.int k')=>k==k' | _=>false)
  | .str=>(match P.underlying t with | some .string=>true | _=>false)&&(match P.underlying t' with | some .string=>true | _=>false)
  | .bytesToStr=>(match P.underlying t with | some (.slice e)=>(match P.underlying e with | some (.int .u8)=>true | _=>false) | _=>false)&&(match P.underlying t' with | some .string=>true | _=>false)
 | .makeFunc (.func f) first xs,.mkfn g ys=>first.toList.isEmpty&&f==wS g&&ux xs.toList ys
 | .makeSlice t x y,.makeSlice sz bytes _ zero x' y'=>match P.underlying t with
  | some (.slice e)=>match P.info? e with
   | some i=>match i.zero with
    | some z=>sz.1==e&&sz.2==i.size&&bytes==i.bytes&&cR x x'&&cR y y'&&z.cells.size==i.size&&decide (0<i.size)&&eK z.cells.toList zero
    | none=>false
   | none=>false
  | _=>false
 | .slice t x lo hi mx,.slice isStr sz x' lo' hi' mx'=>cR x x'&&xq lo lo'&&xq hi hi'&&xq mx mx'&&(match isStr with
  | true=>mx.isNone&&(match P.underlying t with | some .string=>true | _=>false)
  | false=>match P.underlying t with
   | some (.slice e)=>(match P.info? e with | some i=>sz.1==e&&sz.2==i.size | none=>false)
   | _=>false)
 | .fieldAddr t x f,.fieldAddr off y=>match P.underlying t with
  | some (.struct fs)=>match fs[f]? with
   | some fd=>match P.info? fd.type with
    | some i=>i.size !=0&&fd.offset==off&&cR x y
    | none=>false
   | none=>false
  | _=>false
 | .nilCheck x,.fieldAddr off y=>off==0&&cR x y
 | .field t x f,.field agg off n y=>match P.underlying t with
  | some (.struct fs)=>match fs[f]? with
   | some fd=>match P.info? fd.type,P.underlying fd.type with
    | some i,some d=>fd.offset==off&&i.size==n&&agg==sw d&&cR x y
    | _,_=>false
   | none=>false
  | _=>false
 | .indexAddr t x i,.indexAddr sz y j=>match P.underlying t with
  | some (.slice e)=>(match P.info? e with | some n=>sz.1==e&&sz.2==n.size&&cR x y&&cR i j | none=>false)
  | _=>false
 | .index t x i,.index y j=>(match P.underlying t with | some .string=>true | _=>false)&&cR x y&&cR i j
 | .extract x i,.extract y j=>cR x y&&i==j
 | .call c,.len Bh y=>match c.callee,c.args.toList,c.argTypes.toList with
  | .builtin .len,[x],[t]=>cR x y&&(match Bh with
   | true=>(match P.underlying t with | some .string=>true | _=>false)
   | false=>(match P.underlying t with | some (.slice _)=>true | _=>false))
  | _,_,_=>false
 | .call c,.append sz bytes x' y'=>match c.callee,c.args.toList,c.argTypes.toList with
  | .builtin .append,[x,y],[t,t']=>t==t'&&cR x x'&&cR y y'&&(match P.underlying t with
   | some (.slice e)=>(match P.info? e with
    | some i=>(match i.zero with
     | some z=>sz.1==e&&sz.2==i.size&&bytes==i.bytes&&z.cells.size==i.size
     | none=>false)
    | none=>false)
   | _=>false)
  | _,_,_=>false
 | .call c,.call g _ _ ys=>match c.callee with
  | .value (.func f)=>f==wS g&&ux c.args.toList ys
  | _=>false
 | .call c,.callv fx _ _ ys=>match c.callee with
  | .value x=>cR x fx&&ux c.args.toList ys
  | _=>false
 | .call c,.callU _ g _ _ ys=>match c.callee with
  | .value (.func f)=>f==wS g&&ux c.args.toList ys
  | _=>false
 | .call c,.appendH sz bytes x' y'=>match c.callee,c.args.toList,c.argTypes.toList with
  | .builtin .append,[x,y],[t,t']=>t==t'&&cR x x'&&cR y y'&&(match P.underlying t with
   | some (.slice e)=>(match P.info? e with
    | some i=>(match i.zero with
     | some z=>sz.1==e&&sz.2==i.size&&bytes==i.bytes&&z.cells.size==i.size
     | none=>false)
    | none=>false)
   | _=>false)
  | _,_,_=>false
 | .call c,.appendE sz bytes x' y'=>match c.callee,c.args.toList,c.argTypes.toList with
  | .builtin .append,[x,y],[t,t']=>t==t'&&cR x x'&&cR y y'&&(match P.underlying t with
   | some (.slice e)=>(match P.info? e with
    | some i=>(match i.zero with
     | some z=>sz.1==e&&sz.2==i.size&&bytes==i.bytes&&z.cells.size==i.size
     | none=>false)
    | none=>false)
   | _=>false)
  | _,_,_=>false
 | .call c,.mx true x' y'=>match c.callee,c.args.toList with
  | .builtin .max,[x,y]=>cR x x'&&cR y y'
  | _,_=>false
 | .call c,.mx false x' y'=>match c.callee,c.args.toList with
  | .builtin .min,[x,y]=>cR x x'&&cR y y'
  | _,_=>false
 | .call c,.copy sz x' y'=>match c.callee,c.args.toList,c.argTypes.toList with
  | .builtin .copy,[x,y],[t,_]=>cR x x'&&cR y y'&&(match P.underlying t with
   | some (.slice e)=>(match P.info? e with | some i=>sz.1==e&&sz.2==i.size | none=>false)
   | _=>false)
  | _,_,_=>false
 | .call c,.capE x'=>match c.callee,c.args.toList,c.argTypes.toList with
  | .builtin .cap,[x],[t]=>cR x x'&&(match P.underlying t with | some (.slice _)=>true | _=>false)
  | _,_,_=>false
 | .call c,.appendN sz bytes _ zero x' y'=>match c.callee,c.args.toList,c.argTypes.toList with
  | .builtin .append,[x,y],[t,t']=>cR x x'&&cR y y'&&(match P.underlying t' with | some (.int _)=>true | _=>false)&&(match P.underlying t with
   | some (.slice e)=>(match P.info? e with
    | some i=>(match i.zero with
     | some z=>sz.1==e&&sz.2==i.size&&bytes==i.bytes&&z.cells.size==i.size&&decide (0<i.size)&&eK z.cells.toList zero
     | none=>false)
    | none=>false)
   | _=>false)
  | _,_,_=>false
 | _,.bad=>true
 | _,_=>false
section
variable {P:Program} {call:cM} {loop:cN}
variable {s:St} {a:Act} {w:World} {L:Loc} {Z:Nat->Prop}
theorem rS {f:FuncId} (h:iZ P f=true) (args:Array Value):(callFunc f args).run P w= .ok (.enter f args) w:=by
 unfold iZ at h;split at h
 ·rename_i fn hf;simp only[af,Bool.not_eq_true']at h;obtain ⟨h1,h2⟩:=h;have h3:fn.body.isNone=false:=by cases hb:fn.body<;>simp[hb]at h1 |-
  unfold callFunc;have h4:¬fn.name= "runtime.NumGoroutine" :=by simpa using h2
  have h5:¬fn.body=none:=by intro e;rw[e]at h3;cases h3
  simp[hf,h4,h5]
 ·cases h
theorem vX {np:Nat} {o:Oper} {f:FuncId} {m:kP} {raw:Bool} {as:List AV} {vs:List Value} {r:AV} {s':St} (hco:iy P call) (h:RS s a w L Z) (hv:di (aH w Z L s.sto) as vs) (ht:∀t,o.dst=some t->t<np)
  (e:cX (real call loop) f m raw as o.dst s=some (r,s')) (hrun:iZ P (wS f)=true->(execOp a.eval o).run P w= .ok (.enter (wS f) vs.toArray) w):aV P np o s a w L Z r s':=by
 intro K Q hk;have h0:=BV (np:=np) hco h hv ht e;unfold Oper.wp;rw[hrun (h0 (λ_ _=>True) (λ_ _ _ _ _ _ _=>trivial)).1];rw[Oper.upon_enter];exact (h0 _ λv w' L' Z' k1 k2 k3=>hk v w' L' Z' k1 k2 k3).2
theorem xO {np:Nat} {o:Oper} {c:Call} {f:FuncId} {m:kP} {raw:Bool} {as:List AV} {ys:List VX} {r:AV} {s':St} (hco:iy P call) (h:RS s a w L Z) (ho:o.op= .call c) (hc:c.callee= .value (.func (wS f))) (hx:ux c.args.toList ys=true)
  (e1:wT s.env ys=some as) (ht:∀t,o.dst=some t->t<np) (e:cX (real call loop) f m raw as o.dst s=some (r,s')):aV P np o s a w L Z r s':=by
 refine vX hco h (pU h hx e1) ht e λhcl=> ?_
 unfold execOp;rw[ho];simp[resolve,hc,Deferred.ofValue,invoke,Act.eval,rS hcl,<-Array.toList_map]
theorem BW {np:Nat} {o:Oper} {c:Call} {x:Operand} {fx:VX} {f:FuncId} {cap:List AV} {m:kP} {raw:Bool} {as:List AV} {ys:List VX} {r:AV} {s':St} (hco:iy P call) (h:RS s a w L Z) (ho:o.op= .call c) (hc:c.callee= .value x) (hxf:cR x fx=true) (hx:ux c.args.toList ys=true)
  (e0:ev s.env fx=some (.fn f cap)) (e1:wT s.env ys=some as) (ht:∀t,o.dst=some t->t<np) (e:cX (real call loop) f m raw (as++cap) o.dst s=some (r,s')):aV P np o s a w L Z r s':=by
 have h1:=aL h hxf e0;simp only[RV]at h1;obtain ⟨vs,h1,h2⟩:=h1;have h3:=pU h hx e1;have h4:di (aH w Z L s.sto) (as++cap) (c.args.toList.map a.eval++vs):=by
  rw[bF]at h2 h3 |-;refine ⟨by simp[h2.1,h3.1],λi y v hy hv=> ?_⟩;rw[List.getElem?_append]at hy hv;rw[<-h3.1]at hv;split at hy
  ·rename_i hlt;rw[if_pos hlt]at hv;exact h3.2 i y v hy hv
  ·rename_i hlt;rw[if_neg hlt]at hv;exact h2.2 _ y v hy hv
 refine vX hco h h4 ht e λhcl=> ?_
 unfold execOp;rw[ho];have:c.args.map a.eval++vs.toArray=(c.args.toList.map a.eval++vs).toArray:=by
  apply Array.ext';simp
 simp[resolve,hc,h1,Deferred.ofValue,invoke,rS hcl]
end
end Go.Vi
