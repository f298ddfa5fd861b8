import Derived.Test.YtfnagkpidcdocaaGreatM04
set_option linter.all false
namespace Go.Vi
open Go Go.RowKit
section
variable {P:Program} {call:cM} {loop:cN}
variable {s:St} {a:Act} {w:World} {L:Loc} {Z:Nat->Prop}
theorem mI {o:Obj} {L L':Loc} {q r:Id} {b:Nat} (h1:L q=L' r) (h2:L.nest q=L'.nest r):o.has L q b↔o.has L' r b:=by
 unfold Obj.has;rw[h1,h2]
theorem RS.BN {np:Nat} {s s':St} {L':Loc} (h:RS s a w L Z) {r q:Id} (hrq:q≠r)
  (henv:di (aH w Z L' s'.sto) s'.env a.tmps.toList)
  (hobj:∀k ob,s'.sto.get k=some ob->RO (aH w Z L' s'.sto) k ob)
  (hfrom:∀k ob,s'.sto.get k=some ob->k≠r->k≠q->∃ob',s.sto.get k=some ob'/\∀b,ob.has L' k b->ob'.has L k b)
  (hsub:∀k ob b,s'.sto.get k=some ob->k=r\/k=q->ob.has L' k b->∃k' ob',(k'=r\/k'=q)/\s.sto.get k'=some ob'/\ob'.has L k' b)
  (hsep:∀ob ob' b,s'.sto.get r=some ob->s'.sto.get q=some ob'->ob.has L' r b->ob'.has L' q b->False)
  (hone:∀k ob b,s.sto.get k=some ob->ob.has L k b->k=r\/k=q->∀k' ob',s'.sto.get k'=some ob'->k'≠r->k'≠q->¬ob'.has L' k' b)
  (hpar:∀k:Id,np<=k.1->L' k=L k) (hps:∀k:Id,np<=k.1->(s'.sto.get k).isSome->(s.sto.get k).isSome/\Same (aH w Z L s.sto) (aH w Z L' s'.sto) k):
  RS s' a w L' Z/\Tr np s.sto s'.sto w w L L' Z Z:=by
 have hl:∀k ob b,s'.sto.get k=some ob->ob.has L' k b->aU s.sto L b:=λk ob b h1 h2=>by
  by_cases hk:k=r\/k=q
  ·obtain ⟨k',ob',_,m1,m2⟩:=hsub k ob b h1 hk h2;exact ⟨k',ob',m1,m2⟩
  ·obtain ⟨ob',m1,m2⟩:=hfrom k ob h1 (λe=>hk (.inl e)) (λe=>hk (.inr e));exact ⟨k,ob',m1,m2 b h2⟩
 have hlives:∀b,aU s'.sto L' b->aU s.sto L b:=λb ⟨k,ob,h1,h2⟩=>hl k ob b h1 h2
 refine ⟨⟨h.defers,henv,hobj,λk k' b ob ob' h1 h2 h3 h4=> ?_,λb hb=>⟨(h.dis b hb).1,λhl=>(h.dis b hb).2 (hlives b hl)⟩⟩,
  ⟨rfl,rfl,rfl,Nat.le_refl _,λ_ _ _=>rfl,λb hb=> .inl (hlives b hb),λ_ hz=>hz,λ_ hz=> .inl hz,hpar,hps⟩⟩
 by_cases c1:k=r\/k=q
 ·by_cases c2:k'=r\/k'=q
  ·rcases c1 with rfl | rfl<;>rcases c2 with rfl | rfl
   ·rfl
   ·exact (hsep ob ob' b h1 h2 h3 h4).elim
   ·exact (hsep ob' ob b h2 h1 h4 h3).elim
   ·rfl
  ·obtain ⟨k2,ob2,m0,m1,m2⟩:=hsub k ob b h1 c1 h3;exact (hone k2 ob2 b m1 m2 m0 k' ob' h2 (λe=>c2 (.inl e)) (λe=>c2 (.inr e)) h4).elim
 ·by_cases c2:k'=r\/k'=q
  ·obtain ⟨k2,ob2,m0,m1,m2⟩:=hsub k' ob' b h2 c2 h4;exact (hone k2 ob2 b m1 m2 m0 k ob h1 (λe=>c1 (.inl e)) (λe=>c1 (.inr e)) h3).elim
  ·obtain ⟨o1,m1,m2⟩:=hfrom k ob h1 (λe=>c1 (.inl e)) (λe=>c1 (.inr e));obtain ⟨o2,m3,m4⟩:=hfrom k' ob' h2 (λe=>c2 (.inl e)) (λe=>c2 (.inr e));exact h.injH k k' b o1 o2 m1 m3 (m2 b h3) (m4 b h4)
theorem RS.vN {np t:Nat} {s':St} {sz esz:gG} {xs ys cs:List D} {i:Int} {off:Nat} {r:Id} (h:RS s a w L Z) (hr:s.sto.get r=some (.orows sz xs)) (hi:0<=i) (hx:xs[i.toNat]? =some (.agg cs)) (hcl:cs.length=sz.2) (hc:cs[off]? =some (.own esz ys)) (hpos:0<esz.2)
  {b:Nat} (hb:L r=some b) (hl:(⟨s.env,s.sto.put r (some (.hrows sz xs i off (t,0) esz))⟩:St).lay t [some (.orows esz ys)]=some s') (ht:t<np):
  ∃L' v,RS s' a w L' Z/\Tr np s.sto s'.sto w w L L' Z Z/\w.cell? ⟨b,i.toNat*sz.2+off,none⟩=some v/\RV (aH w Z L' s'.sto) (.arr (t,0) esz none false) v:=by
 obtain ⟨hlay,henv⟩:=eD hl;simp only at hlay henv;have hputr:∀k,(s.sto.put r (some (.hrows sz xs i off (t,0) esz))).get k=if k=r then some (.hrows sz xs i off (t,0) esz)else s.sto.get k:=λk=>by
  by_cases e:k=r
  ·subst e;rw[if_pos rfl];exact cO _ hr
  ·rw[if_neg e];exact bT _ e
 have hrt:r.1≠t:=λe=>by
  have:=gq hlay r e;rw[hputr,if_pos rfl]at this;cases this
 have hq:((t,0):Id)≠r:=λe=>hrt (by rw[<-e])
 have hget:∀k,s'.sto.get k=if k.1=t then (match [some (Obj.orows esz ys)][k.2]? with | some o=>o | none=>none)else if k=r then some (.hrows sz xs i off (t,0) esz)else s.sto.get k:=λk=>by
  rw[dH hlay];split
  ·rfl
  ·exact hputr k
 have hgq:s'.sto.get (t,0)=some (.orows esz ys):=by rw[hget];simp
 have hgr:s'.sto.get r=some (.hrows sz xs i off (t,0) esz):=by rw[hget,if_neg hrt,if_pos rfl]
 have hgo:∀k ob,s'.sto.get k=some ob->k≠r->k≠(t,0)->s.sto.get k=some ob/\k.1≠t:=λk ob hk h1 h2=>by
  rw[hget]at hk;split at hk
  ·rename_i e;cases hk2:k.2 with
   | zero=>exact (h2 (Prod.ext e hk2)).elim
   | succ n=>simp[hk2]at hk
  ·rename_i e;first
    | exact ⟨hk,e⟩
    | (rw[if_neg h1]at hk;exact ⟨hk,e⟩)
 have hslot:∀k,(s.sto.get k).isSome->k.1≠t:=λk hk e=>by
  have:=gq hlay k e;rw[hputr]at this;split at this
  ·cases this
  ·rw[this]at hk;cases hk
 have hro:=h.obj r _ hr;simp only[RO]at hro;obtain ⟨vs,G,hheap,hcap,g3,g4,g5⟩:=hro.2 b hb;obtain ⟨A,Fi,B,rfl,a1,a2,a3,a4⟩:=GP g3 hx;simp only[OE]at a2;have hoff:off<cs.length:=(aq.1 hc).1;have hsplit:cs=cs.take off++ .own esz ys::cs.drop (off+1):=by
  have:=(A9 hc).1;simpa using this
 have hpl:(cs.take off).length=off:=by rw[List.length_take];omega
 rw[hsplit]at a2;obtain ⟨v1,v2,A1,F2,hseg,rfl,q1,q2,q3⟩:=gy.1 a2;simp only[mS]at q3;obtain ⟨v,v3,Fo,B1,rfl,rfl,q4,q5⟩:=q3;rw[hpl]at q1;have q5l:=uQ q5;rw[List.length_drop]at q5l;rw[Nat.succ_mul]at a3 a4;rw[Array.length_toList]at a4;have hval:∀j,j<sz.2->vs.toList[i.toNat*sz.2+j]? =(v1++v::v3)[j]? :=λj hj=>by
  rw[<-hseg,List.getElem?_take,if_pos hj,List.getElem?_drop]
 have hv:vs[i.toNat*sz.2+off]? =some v:=by
  have:=hval off (by omega);rw[List.getElem?_append_right (by omega),q1]at this;simpa using this
 have hseg1:(vs.toList.drop (i.toNat*sz.2)).take off=v1:=by
  have:((vs.toList.drop (i.toNat*sz.2)).take sz.2).take off=v1:=by rw[hseg];simp[<-q1]
  rw[List.take_take,Nat.min_eq_left (by omega)]at this;exact this
 have hseg3:(vs.toList.drop (i.toNat*sz.2+off+1)).take (sz.2-(off+1))=v3:=by
  have:((vs.toList.drop (i.toNat*sz.2)).take sz.2).drop (off+1)=v3:=by
   rw[hseg,List.drop_append,q1];simp[List.drop_eq_nil_of_le (show v1.length<=off+1 by omega)]
  rw[List.drop_take,List.drop_drop]at this;rw[Nat.add_assoc];exact this
 have q4':=q4;simp only[OC]at q4';obtain ⟨va,vc,⟨hva,hvc⟩,hcase⟩:=q4';have hnd:=g4;have hGl:∀k,k∈A++(A1++(Fo++B1))++B->(Obj.orows sz xs).has L r k:=λk hk=> .inr ⟨rfl,(g5 k).2 hk⟩
 obtain ⟨nb,N,hN⟩:∃(nb:Option Nat) (N:List Nat),(nb=none/\N=[]/\Fo=[]/\vc=0/\ys=[])\/∃b' vs',nb=some b'/\Fo=b'::N/\va=some ⟨b',0,none⟩/\w.heap[b']? =some (.cells vs' esz.1 (0,0))/\vc*esz.2=vs'.size/\ys.length*esz.2<=vs'.size/\jc w Z esz.2 ys vs'.toList N:=by
  rcases hcase with ⟨e1,e2,e3⟩ | ⟨b',vs',F',e1,e2,e3,e4,_,e6,e7⟩
  ·exact ⟨none,[],.inl ⟨rfl,rfl,e3,e1,e2⟩⟩
  ·exact ⟨some b',F',.inr ⟨b',vs',rfl,e2,e1,e3,e4,e6,e7⟩⟩
 generalize hL':(⟨λk=>if k=(t,0)then nb else L k,λk=>if k=(t,0)then (λx=>x∈N)else if k=r then (λx=>x∈A++A1++B1++B)else L.nest k⟩:Loc)=L';have hLq:L' (t,0)=nb:=by rw[<-hL'];simp
 have hLo:∀k,k≠(t,0)->L' k=L k:=λk hk=>by rw[<-hL'];simp[hk]
 have hNq:L'.nest (t,0)=λx=>x∈N:=by rw[<-hL'];simp
 have hNr:L'.nest r=λx=>x∈A++A1++B1++B:=by rw[<-hL'];simp[Ne.symm hq]
 have hNo:∀k,k≠(t,0)->k≠r->L'.nest k=L.nest k:=λk h1 h2=>by rw[<-hL'];simp[h1,h2]
 have hsame:∀k,(s.sto.get k).isSome->Same (aH w Z L s.sto) (aH w Z L' s'.sto) k:=λk hk=>by
  have hkt:=hslot k hk;have hkq:k≠(t,0):=λe=>hkt (by rw[e])
  refine ⟨hLo k hkq,λ_=> ?_,λz zs hz=>⟨zs,?_,rfl⟩,λ_ _ _=>rfl⟩
  ·show (s'.sto.get k).isSome;rw[hget,if_neg hkt];split; · rfl
   ·exact hk
  ·show (s'.sto.get k).bind Obj.rw=_;have hz':(s.sto.get k).bind Obj.rw=some (z,zs):=hz;rw[hget,if_neg hkt];split
   ·rename_i e;subst e;rw[hr]at hz';exact hz'
   ·exact hz'
 have hvarr:RV (aH w Z L' s'.sto) (.arr (t,0) esz none false) v:=by
  simp only[RV];refine ⟨va,ys.length,vc,ys,hva,⟨?_,hvc⟩,λe=>(by cases e),by show (s'.sto.get (t,0)).bind Obj.rw=_;rw[hgq];rfl,λ_=>rfl,λ_ _ e=>(by cases e),λe=> ?_,λb' e=> .inr ?_⟩
  ·rcases hN with ⟨_,_,_,_,e⟩ | ⟨b',vs',_,_,_,_,e4,e5,_⟩
   ·rw[e];simp
   ·exact Nat.le_of_mul_le_mul_right (by rw[e4];exact e5) hpos
  ·have e':nb=none:=by rw[<-hLq];exact e
   rcases hN with ⟨_,_,_,e4,_⟩ | ⟨b',vs',e1,_⟩
   ·exact e4
   ·rw[e']at e1;cases e1
  ·have e':nb=some b':=by rw[<-hLq];exact e
   rcases hN with ⟨e1,_⟩ | ⟨b2,vs',e1,_,e3,e4,e5,_,_⟩
   ·rw[e']at e1;cases e1
   ·rw[e']at e1;injection e1 with e1;subst e1;exact ⟨by rw[e3];simp[bq],by simp only[bq,Nat.zero_add,bX,e4];exact e5⟩
 have hFoN:∀x,x∈N->x∈Fo:=λx hx=>by
  rcases hN with ⟨_,e,_⟩ | ⟨b',vs',_,e,_⟩
  ·rw[e]at hx;cases hx
  ·rw[e];simp[hx]
 have hFob:∀x,nb=some x->x∈Fo:=λx hx=>by
  rcases hN with ⟨e,_⟩ | ⟨b',vs',e,e2,_⟩
  ·rw[hx]at e;cases e
  ·rw[hx]at e;injection e with e;rw[e2,e];simp
 have hFo:∀x∈Fo,x≠b/\x∉A++A1++B1++B:=by
  simp only[List.nodup_cons,List.nodup_append,List.mem_append,not_or]at hnd;obtain ⟨⟨⟨n1,n2,n3,n4⟩,n5⟩,⟨⟨n6,⟨n7,⟨n8,n9,n10⟩,n11⟩,n12⟩,n13,n14⟩⟩:=hnd;intro x hx;refine ⟨λe=>n3 (e ▸ hx),λhm=> ?_⟩;simp only[List.mem_append]at hm;rcases hm with ((hm | hm) | hm) | hm
  ·exact n12 x hm x (.inr (.inl hx)) rfl
  ·exact n11 x hm x (.inl hx) rfl
  ·exact n10 x hx x hm rfl
  ·exact n14 x (.inr (.inr (.inl hx))) x hm rfl
 have hasq:∀k,(Obj.orows esz ys).has L' (t,0) k->k∈Fo:=λk hk=>by
  rcases hk with hk | ⟨_,hk⟩
  ·rw[hLq]at hk;exact hFob k hk
  ·rw[hNq]at hk;exact hFoN k hk
 have hasr:∀k,(Obj.hrows sz xs i off (t,0) esz).has L' r k->k=b\/k∈A++A1++B1++B:=λk hk=>by
  rcases hk with hk | ⟨_,hk⟩
  ·rw[hLo r (Ne.symm hq),hb]at hk;injection hk with hk;exact .inl hk.symm
  ·rw[hNr]at hk;exact .inr hk
 have holdr:∀k,k=b\/k∈A++(A1++(Fo++B1))++B->(Obj.orows sz xs).has L r k:=λk hk=>by
  rcases hk with rfl | hk
  ·exact .inl hb
  ·exact hGl k hk
 have hql:(cs.take off).length+1+(cs.drop (off+1)).length=sz.2:=by
  have aux:∀a b c:Nat,a<b->b=c->a+1+(b-(a+1))=c:=by omega
  rw[hpl,List.length_drop];exact aux _ _ _ hoff hcl
 have hreto:=RS.BN (np:=np) (s':=s') (L':=L') h (r:=r) (q:=(t,0)) hq
  (by
   rw[henv];exact cu (c:=aH w Z L s.sto) (c':=aH w Z L' s'.sto) (jV.refl _ _) _ _ (λk hk=>hsame k (dU _ _ h.env k hk)) h.env)
  (λk ob hk=>by
   by_cases e1:k=r
   ·subst e1;rw[hgr]at hk;injection hk with hk;subst hk;simp only[RO];refine ⟨b,vs,cs.take off,ys,cs.drop (off+1),A,A1,B1,B,v,by rw[hLo k (Ne.symm hq)];exact hb,hheap,hcap,hi,by rw[<-hsplit];exact hx,hpl,hql,a1,by rw[hseg1];exact q2,by rw[hseg3];exact q5,?_,hv,hvarr,hpos,?_,λx=>by rw[hNr]⟩
    ·rw[Nat.succ_mul];exact a3
    ·simp only[List.nodup_cons,List.nodup_append,List.mem_append,not_or]at hnd |-;obtain ⟨⟨⟨n1,n2,n3,n4⟩,n5⟩,⟨⟨n6,⟨n7,⟨n8,n9,n10⟩,n11⟩,n12⟩,n13,n14⟩⟩:=hnd;refine ⟨⟨⟨⟨n1,n2⟩,n4⟩,n5⟩,⟨⟨n6,n7,λx hx y hy=>n12 x hx y (.inl hy)⟩,n9,λx hx y hy=> ?_⟩,n13,λx hx y hy=> ?_⟩
     ·rcases hx with hx | hx
      ·exact n12 x hx y (.inr (.inr hy))
      ·exact n11 x hx y (.inr hy)
     ·rcases hx with (hx | hx) | hx
      ·exact n14 x (.inl hx) y hy
      ·exact n14 x (.inr (.inl hx)) y hy
      ·exact n14 x (.inr (.inr (.inr hx))) y hy
   ·by_cases e2:k=(t,0)
    ·subst e2;rw[hgq]at hk;injection hk with hk;subst hk;simp only[RO];refine ⟨λe=> ?_,λb' e=> ?_⟩
     ·have e':nb=none:=by rw[<-hLq];exact e
      rcases hN with ⟨_,e2,_,_,e5⟩ | ⟨b',vs',e1,_⟩
      ·refine ⟨e5,λx hx=> ?_⟩;have hx':L'.nest (t,0) x:=hx;rw[hNq,e2]at hx';cases hx'
      ·rw[e']at e1;cases e1
     ·have e':nb=some b':=by rw[<-hLq];exact e
      rcases hN with ⟨e1,_⟩ | ⟨b2,vs',e1,e2,e3,e4,e5,e6,e7⟩
      ·rw[e']at e1;cases e1
      ·rw[e']at e1;injection e1 with e1;subst e1;refine ⟨vs',N,e4,e6,e7,?_,λx=>by rw[hNq]⟩;rw[<-e2];simp only[List.nodup_cons,List.nodup_append]at hnd;exact hnd.2.1.2.1.2.1.1
    ·obtain ⟨m1,m2⟩:=hgo k ob hk e1 e2;exact i9 (c:=aH w Z L s.sto) (jV.refl _ _) (hLo k e2) (hNo k e2 e1) (λ_ _=>rfl) (λp hp=>hsame p (ko (h.obj k ob m1) p hp)) (h.obj k ob m1))
  (λk ob hk h1 h2=>⟨ob,(hgo k ob hk h1 h2).1,λx hx=>(mI (hLo k h2) (hNo k h2 h1)).1 hx⟩)
  (λk ob x hk hkk hx=>by
   rcases hkk with rfl | rfl
   ·rw[hgr]at hk;injection hk with hk;subst hk;refine ⟨k,_,.inl rfl,hr,holdr x ?_⟩;rcases hasr x hx with e | e
    ·exact .inl e
    ·refine .inr ?_;simp only[List.mem_append]at e |-;rcases e with ((e | e) | e) | e
     ·exact .inl (.inl e)
     ·exact .inl (.inr (.inl e))
     ·exact .inl (.inr (.inr (.inr e)))
     ·exact .inr e
   ·rw[hgq]at hk;injection hk with hk;subst hk;refine ⟨r,_,.inl rfl,hr,holdr x (.inr ?_)⟩;have:=hasq x hx;simp only[List.mem_append];exact .inl (.inr (.inr (.inl this))))
  (λob ob' x h1 h2 h3 h4=>by
   rw[hgr]at h1;injection h1 with h1;subst h1;rw[hgq]at h2;injection h2 with h2;subst h2;obtain ⟨m1,m2⟩:=hFo x (hasq x h4);rcases hasr x h3 with e | e
   ·exact m1 e
   ·exact m2 e)
  (λk ob x h1 h2 hk k' ob' h3 h4 h5 h6=>by
   have hk:k=r:=by
    rcases hk with e | e
    ·exact e
    ·exact (hslot k (by simp[h1]) (by rw[e])).elim
   subst hk;have:=hgo k' ob' h3 h4 h5;exact h4 (h.injH k' k x ob' ob this.1 h1 ((mI (hLo k' h5) (hNo k' h5 h4)).1 h6) h2))
  (λk hk=>hLo k (λe=>by rw[e]at hk;omega))
  (λk hk hs=>by
   have hkq:k≠(t,0):=λe=>by rw[e]at hk;omega
   have:(s.sto.get k).isSome:=by
    by_cases e:k=r
    ·rw[e,hr];rfl
    ·obtain ⟨ob,ho⟩:=Option.isSome_iff_exists.1 hs;rw[(hgo k ob ho e hkq).1];rfl
   exact ⟨this,hsame k this⟩)
 refine ⟨L',v,hreto.1,hreto.2,?_,hvarr⟩;simp only[World.cell?,hheap];exact hv
theorem DS {l:List Value} {n off:Nat} {v:Value} (hv:l[off]? =some v) (hn:off<n):l.take n=l.take off++v::(l.drop (off+1)).take (n-(off+1)):=by
 obtain ⟨h1,h2⟩:=aq.1 hv;have e:n=off+((n-(off+1))+1):=by omega
 rw[e,List.take_add,List.drop_eq_getElem_cons h1,h2,List.take_succ_cons];congr 3;omega
theorem RS.jP {np:Nat} {sz esz:gG} {xs ys cs cs':List D} {i:Int} {off:Nat} {r q:Id} (h:RS s a w L Z) (hr:s.sto.get r=some (.hrows sz xs i off q esz)) (hq:s.sto.get q=some (.orows esz ys))
  (hx:xs[i.toNat]? =some (.agg cs)) (hl:Go.Vi.lay cs off [.own esz ys]=some cs'):
  ∃L',RS ((⟨s.env,s.sto.put r (some (.orows sz (xs.set i.toNat (.agg cs'))))⟩:St).kill q) a w L' Z/\Tr np s.sto ((⟨s.env,s.sto.put r (some (.orows sz (xs.set i.toNat (.agg cs'))))⟩:St).kill q).sto w w L L' Z Z:=by
 have hqr:q≠r:=λe=>by rw[e,hr]at hq;injection hq with hq;cases hq
 have hro:=h.obj r _ hr;simp only[RO]at hro;obtain ⟨b,vs,pre,ys0,post,A1,A2,B1,B2,v,h1,h2,h3,h4,h5,h6,h7,h8,h9,h10,h11,h12,h13,h14,h16,h17⟩:=hro;have hcs:cs=pre++ .own esz ys0::post:=by rw[h5]at hx;injection hx with hx;injection hx with hx;exact hx.symm
 have hcs':cs'=pre++ .own esz ys::post:=by
  rw[(jH hl).2,hcs,<-h6];simp
 have hi:i.toNat<xs.length:=(aq.1 h5).1;have hroq:=h.obj q _ hq;simp only[RO]at hroq;simp only[RV]at h13;obtain ⟨va,n,cap,zs,p1,⟨p2,p3⟩,_,p4,p5,_,p7,p8⟩:=h13;have p4':(s.sto.get q).bind Obj.rw=some (esz,zs):=p4;rw[hq]at p4';injection p4' with p4';injection p4' with _ p4';subst p4';have p5':=p5 trivial;subst p5';obtain ⟨
     Fq,hoc,hFq,hFn⟩:∃Fq,OC w Z (.own esz ys) v Fq/\(∀k,k∈Fq->(Obj.orows esz ys).has L q k)/\Fq.Nodup:=by
  cases hLq:L q with
  | none=>
   refine ⟨[],?_,λk hk=>(by cases hk),List.nodup_nil⟩;simp only[OC];exact ⟨va,cap,⟨p1,p3⟩,.inl ⟨p7 hLq,(hroq.1 hLq).1,trivial⟩⟩
  | some b'=>
   obtain ⟨vs',F',m1,m2,m3,m4,m5⟩:=hroq.2 b' hLq;refine ⟨b'::F',?_,λk hk=> ?_,m4⟩
   ·simp only[OC];rcases p8 b' hLq with ⟨_,k⟩ | ⟨k1,k2⟩
    ·exact (k rfl).elim
    ·refine ⟨va,cap,⟨p1,p3⟩,.inr ⟨b',vs',F',by simpa [bq]using k1,rfl,m1,?_,h14,m2,m3⟩⟩;have k2':(bq none+cap)*esz.2=bX w b':=k2;simpa [bq,bX,m1]using k2'
   ·rcases List.mem_cons.1 hk with rfl | hk
    ·exact .inl hLq
    ·exact .inr ⟨rfl,(m5 k).2 hk⟩
 have hold:∀k,k=b\/k∈A1++A2++B1++B2->(Obj.hrows sz xs i off q esz).has L r k:=λk hk=>by
  rcases hk with rfl | hk
  ·exact .inl h1
  ·exact .inr ⟨rfl,(h17 k).2 hk⟩
 have hdis:∀k,k∈Fq->k=b\/k∈A1++A2++B1++B2->False:=λk hk hk2=>hqr (h.injH q r k _ _ hq hr (hFq k hk) (hold k hk2))
 generalize hL':(⟨L.main,λk=>if k=r then (λx=>x∈A1++(A2++(Fq++B1))++B2)else L.nest k⟩:Loc)=L';have hLm:∀k,L' k=L k:=λk=>by rw[<-hL']
 have hNr:L'.nest r=λx=>x∈A1++(A2++(Fq++B1))++B2:=by rw[<-hL'];simp
 have hNo:∀k,k≠r->L'.nest k=L.nest k:=λk h1=>by rw[<-hL'];simp[h1]
 generalize hs':(⟨s.env,s.sto.put r (some (.orows sz (xs.set i.toNat (.agg cs'))))⟩:St).kill q=s';have hget:∀k,s'.sto.get k=if k=q then none else if k=r then some (.orows sz (xs.set i.toNat (.agg cs')))else (s.sto.get k).map (·.forget (· ==q)):=λk=>by
  rw[<-hs',fI];split
  ·rfl
  ·by_cases e:k=r
   ·subst e;rw[if_pos rfl,cO _ hr];rfl
   ·rw[if_neg e,bT _ e]
 have henv:s'.env=AV.aM (· ==q) s.env:=by rw[<-hs'];rfl
 have hgo:∀k ob,s'.sto.get k=some ob->k≠r->k≠q->∃o,s.sto.get k=some o/\ob=o.forget (· ==q):=λk ob hk e1 e2=>by
  rw[hget,if_neg e2,if_neg e1]at hk;cases h3:s.sto.get k with
  | none=>simp[h3]at hk
  | some o=>simp[h3]at hk;exact ⟨o,rfl,hk.symm⟩
 have hsame:∀k,k≠q->Same (aH w Z L s.sto) (aH w Z L' s'.sto) k:=λk hk=>by
  refine ⟨hLm k,λhs=> ?_,λz zs hz=> ?_,λ_ _ _=>rfl⟩
  ·show (s'.sto.get k).isSome;rw[hget,if_neg hk];split
   ·rfl
   ·have hs':(s.sto.get k).isSome:=hs;simpa using hs'
  ·have hz':(s.sto.get k).bind Obj.rw=some (z,zs):=hz;show∃ys,(s'.sto.get k).bind Obj.rw=some (z,ys)/\ys.length=zs.length;rw[hget,if_neg hk];by_cases e:k=r
   ·rw[if_pos e];rw[e,hr]at hz';simp only[Option.bind_some,Obj.rw]at hz' |-;injection hz' with hz';injection hz' with e1 e2;subst e1;subst e2;exact ⟨_,rfl,by simp⟩
   ·rw[if_neg e];cases h3:s.sto.get k with
    | none=>simp[h3]at hz'
    | some o=>simp only[h3,Option.bind_some]at hz';exact ⟨zs,by simp[Obj.kB,hz'],rfl⟩
 have hlenN:(i.toNat+1)*sz.2<=vs.toList.length:=Nat.le_trans (Nat.mul_le_mul_right _ hi) (by simpa using h3);have hoff:off<sz.2:=by omega
 refine ⟨L',?_⟩;refine RS.BN (np:=np) (s':=s') (L':=L') h (r:=r) (q:=q) hqr ?_ ?_ ?_ ?_ ?_ ?_ (λk _=>hLm k) ?_
 ·rw[henv];refine cu (c:=aH w Z L s.sto) (c':=aH w Z L' s'.sto) (jV.refl _ _) _ _ (λk hk=>hsame k ?_) (fo (p:=(· ==q)) s.env _ h.env);have:=dJ s.env k hk;simpa using this
 ·intro k ob hk;by_cases e2:k=q
  ·rw[hget,if_pos e2]at hk;cases hk
  by_cases e1:k=r
  ·subst e1;rw[hget,if_neg e2,if_pos rfl]at hk;injection hk with hk;subst hk;simp only[RO];refine ⟨λe=>(by rw[hLm,h1]at e;cases e),λb' e=> ?_⟩;rw[hLm,h1]at e;injection e with e;subst e;refine ⟨vs,A1++(A2++(Fq++B1))++B2,h2,by simpa using h3,?_,?_,λk=>by rw[hNr]⟩
   ·refine Dv hi h8 ?_ h11 hlenN;simp only[OE];rw[hcs',DS (v:=v) (off:=off) (by rw[List.getElem?_drop];simpa using h12) hoff];refine gy.2 ⟨_,_,A2,Fq++B1,rfl,rfl,?_,h9,?_⟩
    ·rw[List.length_take,List.length_drop];rw[Nat.succ_mul]at hlenN;omega
    ·simp only[mS];refine ⟨v,_,Fq,B1,rfl,rfl,hoc,?_⟩;rw[List.drop_drop];exact h10
   ·have hn:=h16;simp only[List.nodup_cons,List.nodup_append,List.mem_append,not_or]at hn |-;obtain ⟨⟨⟨⟨n1,n2⟩,n3⟩,n4⟩,⟨⟨⟨n5,n6,n7⟩,n8,n9⟩,n10,n11⟩⟩:=hn;have d0:b∉Fq:=λhk=>hdis b hk (.inl rfl)
    have d1:∀x∈Fq,∀y∈A1,x≠y:=λx hx y hy e=>hdis x hx (.inr (by rw[e];simp[hy]))
    have d2:∀x∈Fq,∀y∈A2,x≠y:=λx hx y hy e=>hdis x hx (.inr (by rw[e];simp[hy]))
    have d3:∀x∈Fq,∀y∈B1,x≠y:=λx hx y hy e=>hdis x hx (.inr (by rw[e];simp[hy]))
    have d4:∀x∈Fq,∀y∈B2,x≠y:=λx hx y hy e=>hdis x hx (.inr (by rw[e];simp[hy]))
    refine ⟨⟨⟨n1,n2,d0,n3⟩,n4⟩,⟨⟨n5,⟨n6,⟨hFn,n8,λx hx y hy=>d3 x hx y hy⟩,λx hx y hy=> ?_⟩,λx hx y hy=> ?_⟩,n10,λx hx y hy=> ?_⟩⟩
    ·rcases hy with hy | hy
     ·exact λe=>d2 y hy x hx e.symm
     ·exact n9 x (.inr hx) y hy
    ·rcases hy with hy | hy | hy
     ·exact n7 x hx y hy
     ·exact λe=>d1 y hy x hx e.symm
     ·exact n9 x (.inl hx) y hy
    ·rcases hx with hx | hx | hx | hx
     ·exact n11 x (.inl (.inl hx)) y hy
     ·exact n11 x (.inl (.inr hx)) y hy
     ·exact d4 x hx y hy
     ·exact n11 x (.inr hx) y hy
  ·obtain ⟨o,m1,rfl⟩:=hgo k ob hk e1 e2;refine i9 (c:=aH w Z L s.sto) (c':=aH w Z L' s'.sto) (jV.refl _ _) (hLm k) (hNo k e1) (λ_ _=>rfl) (λp hp=>hsame p ?_) (kC (h.obj k o m1));have:(p==q)=false:=Obj.iF o p hp;simpa using this
 ·intro k ob hk e1 e2;obtain ⟨o,m1,rfl⟩:=hgo k ob hk e1 e2;exact ⟨o,m1,λx hx=>Obj.dn ((mI (hLm k) (hNo k e1)).1 hx)⟩
 ·intro k ob x hk hkk hx;by_cases e2:k=q
  ·rw[hget,if_pos e2]at hk;cases hk
  have e1:k=r:=hkk.resolve_right e2;subst e1;rw[hget,if_neg e2,if_pos rfl]at hk;injection hk with hk;subst hk;rcases hx with hx | ⟨_,hx⟩
  ·rw[hLm,h1]at hx;injection hx with hx;exact ⟨k,_,.inl rfl,hr,hold x (.inl hx.symm)⟩
  ·rw[hNr]at hx;by_cases hf:x∈Fq
   ·exact ⟨q,_,.inr rfl,hq,hFq x hf⟩
   ·refine ⟨k,_,.inl rfl,hr,hold x (.inr ?_)⟩;simp only[List.mem_append]at hx |-;rcases hx with (hx | hx | hx | hx) | hx
    ·exact .inl (.inl (.inl hx))
    ·exact .inl (.inl (.inr hx))
    ·exact (hf hx).elim
    ·exact .inl (.inr hx)
    ·exact .inr hx
 ·intro ob ob' x m1 m2;rw[hget,if_pos rfl]at m2;cases m2
 ·intro k ob x m1 m2 m3 k' ob' m4 m5 m6 m7;obtain ⟨o,m8,rfl⟩:=hgo k' ob' m4 m5 m6;have:=h.injH k' k x o ob m8 m1 (Obj.dn ((mI (hLm k') (hNo k' m5)).1 m7)) m2;rcases m3 with e | e
  ·exact m5 (this.trans e)
  ·exact m6 (this.trans e)
 ·intro k _ hs;have hkq:k≠q:=λe=>by rw[hget,if_pos e]at hs;cases hs
  refine ⟨?_,hsame k hkq⟩;by_cases e:k=r
  ·rw[e,hr];rfl
  ·rw[hget,if_neg hkq,if_neg e]at hs;simpa using hs
end
section
section
variable {P:Program} {call:cM} {loop:cN}
variable {s:St} {a:Act} {w:World} {L:Loc} {Z:Nat->Prop}
def nZ (L:Loc) (r:Id) (N:Nat->Prop):Loc:=⟨L.main,λk=>if k=r then N else L.nest k⟩
theorem sX (L:Loc) (r:Id) (N:Nat->Prop):(nZ L r N).nest r=N:=by simp[nZ]
theorem y7 (L:Loc) {r k:Id} (N:Nat->Prop) (h:k≠r):(nZ L r N).nest k=L.nest k:=by simp[nZ,h]
theorem Ja (s:br) (r:Id):s.get (s.length+r.1+1,0)=none:=by
 unfold br.get;rw[List.getElem?_eq_none (by simp;omega)]
theorem RS.swap {r:Id} {ob ob':Obj} {N:Nat->Prop} (np:Nat) (h:RS s a w L Z) (hr:s.sto.get r=some ob) (hrw:∀sz xs,ob.rw=some (sz,xs)->∃ys,ob'.rw=some (sz,ys)/\ys.length=xs.length)
  (hhas:∀b,ob'.has (nZ L r N) r b->ob.has L r b) (hob:RO (aH w Z (nZ L r N) (s.sto.put r (some ob'))) r ob'):
  RS ⟨s.env,s.sto.put r (some ob')⟩ a w (nZ L r N) Z/\Tr np s.sto (s.sto.put r (some ob')) w w L (nZ L r N) Z Z/\∀k,Same (aH w Z L s.sto) (aH w Z (nZ L r N) (s.sto.put r (some ob'))) k:=by
 have hfar:=Ja s.sto r;have hqr:((s.sto.length+r.1+1,0):Id)≠r:=λe=>by
  have:=congrArg Prod.fst e;simp at this;omega
 generalize ((s.sto.length+r.1+1,0):Id)=q at*;have hget:∀k,(s.sto.put r (some ob')).get k=if k=r then some ob' else s.sto.get k:=λk=>by
  by_cases e:k=r
  ·subst e;rw[if_pos rfl,cO _ hr]
  ·rw[if_neg e,bT _ e]
 have hsame:∀k,Same (aH w Z L s.sto) (aH w Z (nZ L r N) (s.sto.put r (some ob'))) k:=λk=>by
  refine ⟨rfl,λhs=> ?_,λz zs hz=> ?_,λ_ _ _=>rfl⟩
  ·show ((s.sto.put r (some ob')).get k).isSome;rw[hget];split
   ·rfl
   ·exact hs
  ·have hz':(s.sto.get k).bind Obj.rw=some (z,zs):=hz;show∃ys,((s.sto.put r (some ob')).get k).bind Obj.rw=some (z,ys)/\ys.length=zs.length;rw[hget];by_cases e:k=r
   ·rw[if_pos e];rw[e,hr]at hz';exact hrw _ _ hz'
   ·rw[if_neg e];exact ⟨zs,hz',rfl⟩
 have hk:∀k ob2,(s.sto.put r (some ob')).get k=some ob2->k≠r->s.sto.get k=some ob2:=λk ob2 h1 h2=>by rw[hget,if_neg h2]at h1;exact h1
 have hgr:∀ob2,(s.sto.put r (some ob')).get r=some ob2->ob2=ob':=λob2 h1=>by rw[hget,if_pos rfl]at h1;injection h1 with h1;exact h1.symm
 have hgq:∀ob2,(s.sto.put r (some ob')).get q=some ob2->False:=λob2 h1=>by rw[hget,if_neg hqr,hfar]at h1;cases h1
 have:=RS.BN (np:=np) (s':=⟨s.env,s.sto.put r (some ob')⟩) (L':=nZ L r N) h (r:=r) (q:=q) hqr
  (cu (c:=aH w Z L s.sto) (c':=aH w Z (nZ L r N) (s.sto.put r (some ob'))) (jV.refl _ _) _ _ (λk _=>hsame k) h.env)
  (λk ob2 h1=>by
   by_cases e:k=r
   ·subst e;rw[hgr _ h1];exact hob
   ·exact i9 (c:=aH w Z L s.sto) (jV.refl _ _) rfl (y7 L N e) (λ_ _=>rfl) (λp _=>hsame p) (h.obj k ob2 (hk k ob2 h1 e)))
  (λk ob2 h1 h2 _=>⟨ob2,hk k ob2 h1 h2,λx hx=>(mI (L:=nZ L r N) (L':=L) rfl (y7 L N h2)).1 hx⟩)
  (λk ob2 x h1 h2 h3=>by
   rcases h2 with rfl | rfl
   ·have:=hgr _ h1;subst this;exact ⟨k,ob,.inl rfl,hr,hhas x h3⟩
   ·exact (hgq _ h1).elim)
  (λ_ _ _ _ h2 _ _=>hgq _ h2)
  (λk ob2 x h1 h2 h3 k' ob3 h4 h5 h6 h7=>by
   have e:=h.injH k' k x ob3 ob2 (hk k' ob3 h4 h5) h1 ((mI (L:=nZ L r N) (L':=L) rfl (y7 L N h5)).1 h7) h2;rcases h3 with e2 | e2
   ·exact h5 (e.trans e2)
   ·exact h6 (e.trans e2))
  (λ_ _=>rfl)
  (λk _ hs=>by
   refine ⟨?_,hsame k⟩;by_cases e:k=r
   ·rw[e,hr];rfl
   ·have hs':((s.sto.put r (some ob')).get k).isSome:=hs;rw[hget,if_neg e]at hs';exact hs')
 exact ⟨this.1,this.2,hsame⟩
theorem RS.Gh {r:Id} {sz:gG} {xs:List D} (np:Nat) (h:RS s a w L Z) (hr:s.sto.get r=some (.rows sz xs)) (hf:(real call loop).flat xs=true):
  ∃L',RS ⟨s.env,s.sto.put r (some (.orows sz xs))⟩ a w L' Z/\Tr np s.sto (s.sto.put r (some (.orows sz xs))) w w L L' Z Z/\∀k,Same (aH w Z L s.sto) (aH w Z L' (s.sto.put r (some (.orows sz xs)))) k:=by
 have hro:=h.obj r _ hr;simp only[RO]at hro;refine ⟨_,RS.swap (N:=λ_=>False) np h hr (λz zs e=>⟨zs,e,rfl⟩) (λb hb=> ?_) ?_⟩
 ·rcases hb with hb | ⟨_,hb⟩
  ·exact .inl hb
  ·rw[sX]at hb;exact hb.elim
 ·simp only[RO];refine ⟨λe=>⟨hro.1 e,λk=>by rw[sX];exact id⟩,λb e=> ?_⟩;obtain ⟨vs,m1,m2,m3⟩:=hro.2 b e;exact ⟨vs,[],m1,m2,by simpa using tF m1 xs 0 hf (by simpa using m2) m3,by simp,λk=>by rw[sX];simp⟩
theorem RS.Oe {r:Id} {cs:List AV} {k:Nat} {x y:AV} (np:Nat) (h:RS s a w L Z) (hr:s.sto.get r=some (.box cs)) (hx:cs[k]? =some x) (hy:∀v,RV (aH w Z L s.sto) x v->RV (aH w Z L s.sto) y v):
  ∃L',RS ⟨s.env,s.sto.put r (some (.box (cs.set k y)))⟩ a w L' Z/\Tr np s.sto (s.sto.put r (some (.box (cs.set k y)))) w w L L' Z Z:=by
 have hro:=h.obj r _ hr;simp only[RO]at hro;obtain ⟨b,vs,ty,h1,h2,h3⟩:=hro;have hsame:∀q,Same (aH w Z L s.sto) (aH w Z (nZ L r (L.nest r)) (s.sto.put r (some (.box (cs.set k y))))) q:=λq=>by
  refine ⟨rfl,λhs=> ?_,λz zs hz=>⟨zs,?_,rfl⟩,λ_ _ _=>rfl⟩
  ·show ((s.sto.put r _).get q).isSome;by_cases e:q=r
   ·subst e;rw[cO _ hr];rfl
   ·rw[bT _ e];exact hs
  ·have hz':(s.sto.get q).bind Obj.rw=some (z,zs):=hz;show ((s.sto.put r _).get q).bind Obj.rw=_;by_cases e:q=r
   ·subst e;rw[hr]at hz';simp[Obj.rw]at hz'
   ·rw[bT _ e];exact hz'
 obtain ⟨m1,m2,_⟩:=RS.swap (ob':= .box (cs.set k y)) (N:=L.nest r) np h hr (λz zs e=>(by simp[Obj.rw]at e)) (λb hb=>by
  rcases hb with hb | ⟨hb,_⟩
  ·exact .inl hb
  ·cases hb) (by
  simp only[RO];refine ⟨b,vs,ty,h1,h2,?_⟩;refine cu (c:=aH w Z L s.sto) (c':=aH w Z (nZ L r (L.nest r)) (s.sto.put r (some (.box (cs.set k y))))) (jV.refl _ _) _ _ (λq _=>hsame q) ?_;rw[bF]at h3 |-;refine ⟨by simpa using h3.1,λi p v hp hv=> ?_⟩;rw[List.getElem?_set]at hp;split at hp
  ·rename_i e;subst e;split at hp
   ·injection hp with hp;subst hp;exact hy v (h3.2 k x v hx hv)
   ·cases hp
  ·exact h3.2 i p v hp hv)
 exact ⟨_,m1,m2⟩
theorem uK {np t:Nat} {s':St} {ob:Obj} (h:RS s a w L Z) (hl:s.lay t [some ob]=some s') (ht:t<np) (hob:∀c:Cx,c.L (t,0)=none->(∀k,¬c.L.nest (t,0) k)->RO c (t,0) ob):
  ∃L',RS s' a w L' Z/\Tr np s.sto s'.sto w w L L' Z Z/\L' (t,0)=none/\s'.sto.get (t,0)=some ob/\∀q,(s.sto.get q).isSome->Same (aH w Z L s.sto) (aH w Z L' s'.sto) q:=by
 obtain ⟨h1,h2,h3,h4⟩:=RS.Eg (s0:=s) (np:=np) (nb:=none) (w':=w) (N:=λ_=>False) h (Tr.refl _ _ _ _ _) hl ht rfl rfl rfl (Nat.le_refl _) (λ_ _ _=>rfl) (λ_ e=>by cases e) (λ_ _ e=>e.elim)
  (hob _ (bZ _ _ _ _) (λk=>by show¬(eX _ _ _ _).nest _ _;rw[js];exact id))
 refine ⟨_,h1,h2,bZ _ _ _ _,?_,h4⟩;rw[dH (eD hl).1];simp
theorem oQ {own:Bool} {sz:gG} {t:Id} (c:Cx) (h1:c.L t=none) (h2:∀k,¬c.L.nest t k):RO c t (rowOf own sz []):=by
 cases own with
 | true=>simp only[rowOf,RO];exact ⟨λ_=>⟨trivial,h2⟩,λb e=>(by rw[h1]at e;cases e)⟩
 | false=>simp only[rowOf,RO];exact ⟨λ_=>trivial,λb e=>(by rw[h1]at e;cases e)⟩
theorem Gi {own:Bool} {sz:gG}:(rowOf own sz []).rw=some (sz,[]):=by cases own<;>rfl
theorem DT {np t:Nat} {s':St} {o:Oper} {ty:TypeId} {i:TypeInfo} {d:TypeDesc} {x:Operand} {x':VX} {r:AV} (h:RS s a w L Z) (ho:o.op= .load ty x) (hx:cR x x'=true) (hi:P.info? ty=some i) (hsz:i.size=1) (hd:P.underlying ty=some d) (hag:sw d=false) (ht:t<np)
  (es:aI (real call loop) s (some t) (.vN x')=some (r,s')):aV P np o s a w L Z r s':=by
 simp only[aI]at es;split at es
 case h_2=>cases es
 case h_1 q sz n off hev=>
  split at es
  case h_2=>cases es
  case h_1 sz' xs ho'=>
   split at es
   case h_2=>cases es
   case h_1 cs hcs=>
    have hv:=aL h hx hev;split at es
    ·rename_i esz ys hcut;split at es
     case h_2=>cases es
     case h_1 m t' hm ht'=>
      injection ht' with ht';subst ht';split at es
      case isFalse=>cases es
      case isTrue hc=>
       obtain ⟨rfl,hc2⟩:=hc;split at es
       case h_2=>cases es
       case h_1 s2 hl=>
        injection es with es;injection es with e1 e2;subst e1;subst e2;simp only[RV]at hv;obtain ⟨b,_,hb,hn,hv⟩:=hv;have hx':xs[n.toNat]? =some (.agg cs):=by
         simp only[real,aJ.dD,zE]at hcs;rw[if_pos hn]at hcs;exact hcs
        have hoff:cs[off]? =some (.own esz ys):=by
         unfold cut at hcut;split at hcut
         ·injection hcut with hcut;have:=congrArg (·[0]?) hcut;simpa [List.getElem?_take,List.getElem?_drop]using this
         ·cases hcut
        obtain ⟨L',v,k1,k2,k3,k4⟩:=RS.vN (np:=np) h ho' hn hx' hc2 hoff (by omega) hb hl ht;have hrun:(loadVar ty ⟨b,n.toNat*sz.2+off,none⟩).run P w= .ok v w:=by
         rcases pz (P:=P) (w:=w) (t:=ty) (vs:=[v]) hi hd (by rw[hsz];rfl) (λj u hj=>by
          cases j with
          | zero=>simp at hj;subst hj;simpa using k3
          | succ j=>simp at hj)with ⟨q1,q2⟩ | ⟨q1,q2⟩
         ·rw[hag]at q1;cases q1
         ·simpa using q2
        refine aV.value (eE (m:=Instr.loadAt ty (a.eval x)) (by unfold execOp;rw[ho]) (u:=v) ?_) k1 k2 k4;rw[hv];simp[Instr.loadAt,Instr.sureAddr,hrun]
    ·split at es
     case h_2=>cases es
     case h_1 v hld=>
      injection es with es;injection es with e1 e2;subst e1;subst e2;exact tG np h ho hx hi hd hag.symm hev (by rw[hsz];exact hld)
end
end
section
section
variable {P:Program} {call:cM} {loop:cN}
variable {s:St} {a:Act} {w:World} {L:Loc} {Z:Nat->Prop}
theorem DU {x:D} (hx:dF x=true) {v:Value} {F:List Nat} (h:OC w Z x v F):RD w Z x [v]/\F=[]:=by
 cases x with
 | own _ _=>simp[dF]at hx
 | agg _=>simp[dF]at hx
 | _=>simp only[OC]at h;exact h
theorem vO:∀{ds:List D} {vs:List Value} {F:List Nat},ds.all dF=true->mS w Z ds vs F->fk w Z ds vs/\F=[]
 | [],vs,F,_,h=>by simp only[mS]at h;simp only[fk];exact h
 | d::ds,vs,F,hp,h=>by
  simp only[List.all_cons,af]at hp;simp only[mS]at h;obtain ⟨v,vs',F1,F2,rfl,rfl,h1,h2⟩:=h;obtain ⟨g1,e1⟩:=DU hp.1 h1;obtain ⟨g2,e2⟩:=vO hp.2 h2;simp only[fk];exact ⟨⟨v,vs',rfl,g1,g2⟩,by rw[e1,e2];rfl⟩
theorem xL {b n:Nat} {vs:Array Value} {t:TypeId} (hb:w.heap[b]? =some (.cells vs t (0,0))):∀(xs:List D) (o:Nat) (F:List Nat),(real call loop).flat xs=true->jc w Z n xs (vs.toList.drop o) F->Rows w Z xs b o n/\F=[]
 | [],o,F,_,h=>by simp only[jc]at h;simp only[Rows];exact ⟨trivial,h⟩
 | x::xs,o,F,hf,h=>by
  simp only[real,aJ.flat,List.all_cons,af]at hf;simp only[jc]at h;obtain ⟨F1,F2,h1,rfl,h2,h3⟩:=h;rw[List.drop_drop]at h3;obtain ⟨g1,rfl⟩:=xL hb xs (o+n) F2 (by simpa only [real,aJ.flat]using hf.2) h3;have key:RD w Z x ((vs.toList.drop o).take n)/\F1=[]:=by
   cases x with
   | agg ds=>simp only[OE]at h2;simp only[RD];exact vO hf.1 h2
   | own _ _=>simp[dF]at hf
   | int _ _=>simp only[OE]at h2;exact h2
   | bool _=>simp only[OE]at h2;exact h2
   | str _=>simp only[OE]at h2;exact h2
   | lst _=>simp only[OE]at h2;exact h2
  obtain ⟨k1,rfl⟩:=key;simp only[Rows];refine ⟨⟨⟨_,by rw[List.length_take];omega,k1,λj v hj=> ?_⟩,g1⟩,rfl⟩;rw[List.getElem?_take]at hj;split at hj
  ·rw[List.getElem?_drop]at hj;simp only[World.cell?,hb];simpa using hj
  ·cases hj
theorem RS.Mc {r:Id} {sz:gG} {xs:List D} (np:Nat) (h:RS s a w L Z) (hr:s.sto.get r=some (.orows sz xs)) (hf:(real call loop).flat xs=true):
  ∃L',RS ⟨s.env,s.sto.put r (some (.rows sz xs))⟩ a w L' Z/\Tr np s.sto (s.sto.put r (some (.rows sz xs))) w w L L' Z Z/\∀k,Same (aH w Z L s.sto) (aH w Z L' (s.sto.put r (some (.rows sz xs)))) k:=by
 have hro:=h.obj r _ hr;simp only[RO]at hro;refine ⟨_,RS.swap (N:=λ_=>False) np h hr (λz zs e=>⟨zs,e,rfl⟩) (λb hb=> ?_) ?_⟩
 ·rcases hb with hb | ⟨hb,_⟩
  ·exact .inl hb
  ·cases hb
 ·simp only[RO];refine ⟨λe=>(hro.1 e).1,λb e=> ?_⟩;obtain ⟨vs,F,m1,m2,m3,_⟩:=hro.2 b e;exact ⟨vs,m1,m2,(xL m1 xs 0 F hf (by simpa using m3)).1⟩
theorem Jb {s s2:St} {t:Nat} {o1 o2:Obj} (h:s.lay t [some o1]=some s2):∃s1,s.lay t [some o2]=some s1/\s2=⟨s1.env,s1.sto.put (t,0) (some o1)⟩:=by
 unfold St.lay br.lay at h |-;split at h
 case h_2=>cases h
 case h_1 sto hs=>
  injection h with h;subst h;split at hs
  case h_2=>cases hs
  case h_1 old ho=>
   split at hs
   case isFalse=>cases hs
   case isTrue hc=>
    injection hs with hs;subst hs;simp only[hc,if_true];refine ⟨_,rfl,?_⟩;have hlt:t<s.sto.length:=(aq.1 ho).1;simp[br.put,List.getElem?_set_self hlt]
theorem BO {np t:Nat} {s':St} {o:Oper} {ty:TypeId} {i:TypeInfo} {d:TypeDesc} {x:Operand} {x':VX} {r:AV} (h:RS s a w L Z) (ho:o.op= .load ty x) (hx:cR x x'=true) (hi:P.info? ty=some i) (hsz:i.size=1) (hd:P.underlying ty=some d) (hag:sw d=false) (ht:t<np)
  (es:aI (real call loop) s (some t) (.lendF x')=some (r,s')):aV P np o s a w L Z r s':=by
 simp only[aI]at es;split at es
 case h_2=>cases es
 case h_1 q sz n off hev=>
  split at es
  case h_2=>cases es
  case h_1 sz' xs ho'=>
   split at es
   case h_2=>cases es
   case h_1 cs hcs=>
    have hv:=aL h hx hev;split at es
    case h_2=>cases es
    case h_1 esz ys hcut=>
     split at es
     case h_2=>cases es
     case h_1 m t' hm ht' hfl=>
      injection ht' with ht';subst ht';split at es
      case isFalse=>cases es
      case isTrue hc=>
       obtain ⟨rfl,hc2⟩:=hc;split at es
       case h_2=>cases es
       case h_1 s2 hl0=>
        injection es with es;injection es with e1 e2;subst e1;subst e2;obtain ⟨s1,hl,rfl⟩:=Jb (o2:= .orows esz ys) hl0;simp only[RV]at hv;obtain ⟨b,_,hb,hn,hv⟩:=hv;have hx':xs[n.toNat]? =some (.agg cs):=by
         simp only[real,aJ.dD,zE]at hcs;rw[if_pos hn]at hcs;exact hcs
        have hoff:cs[off]? =some (.own esz ys):=by
         unfold cut at hcut;split at hcut
         ·injection hcut with hcut;have:=congrArg (·[0]?) hcut;simpa [List.getElem?_take,List.getElem?_drop]using this
         ·cases hcut
        obtain ⟨L',v,k1,k2,k3,k4⟩:=RS.vN (np:=np) h ho' hn hx' hc2 hoff (by omega) hb hl ht;have hrow:s1.sto.get (t,0)=some (.orows esz ys):=by rw[dH (eD hl).1];simp
        obtain ⟨L2,j1,j2,j3⟩:=RS.Mc np k1 hrow hfl;have hrun:(loadVar ty ⟨b,n.toNat*sz.2+off,none⟩).run P w= .ok v w:=by
         rcases pz (P:=P) (w:=w) (t:=ty) (vs:=[v]) hi hd (by rw[hsz];rfl) (λj u hj=>by
          cases j with
          | zero=>simp at hj;subst hj;simpa using k3
          | succ j=>simp at hj)with ⟨q1,q2⟩ | ⟨q1,q2⟩
         ·rw[hag]at q1;cases q1
         ·simpa using q2
        refine aV.value (eE (m:=Instr.loadAt ty (a.eval x)) (by unfold execOp;rw[ho]) (u:=v) ?_) j1 (k2.trans j2) (kf (c:=aH w Z L' s1.sto) (c':=aH w Z L2 (s1.sto.put (t,0) (some (.rows esz ys)))) (jV.refl _ _) _ _ (λp _=>j3 p) k4);rw[hv];simp[Instr.loadAt,Instr.sureAddr,hrun]
theorem y8 {s:br} {q r:Id} {o1 o2:Option Obj} (h:r≠q):((s.put q o1).put r o2).put q none=(s.put r o2).put q none:=by
 have cell:∀(s:br) (p:Id) (o:Option Obj) (i:Nat),(s.put p o)[i]? =if i=p.1 then (s[i]?).map (·.set p.2 o)else s[i]? :=λs p o i=>by
  unfold br.put;split
  ·rename_i l hl;rw[List.getElem?_set];by_cases e:p.1=i
   ·subst e;obtain ⟨h1,h2⟩:=aq.1 hl;simp[h1,h2]
   ·rw[if_neg e,if_neg (λx=>e x.symm)]
  ·rename_i hl;by_cases e:i=p.1
   ·subst e;rw[if_pos rfl,hl];rfl
   ·rw[if_neg e]
 apply List.ext_getElem?;intro i;simp only[cell];by_cases e1:i=q.1
 ·by_cases e2:i=r.1
  ·simp only[if_pos e1,if_pos e2];cases s[i]? with
   | none=>rfl
   | some l=>
    have hne:r.2≠q.2:=λx=>h (Prod.ext (e2.symm.trans e1) x)
    simp only[Option.map_some];congr 1;apply List.ext_getElem?;intro j;simp only[List.getElem?_set,List.length_set];by_cases a1:q.2=j<;>by_cases a2:r.2=j<;>simp_all
  ·simp only[if_pos e1,if_neg e2];cases s[i]? with
   | none=>rfl
   | some l=>simp
 ·simp only[if_neg e1]
theorem qh {np:Nat} {r:Id} {s':St} (h:RS s a w L Z) (e:ia (real call loop) r s=some s'):∃L',RS s' a w L' Z/\Tr np s.sto s'.sto w w L L' Z Z:=by
 unfold ia at e;split at e
 case h_2=>injection e with e;subst e;exact ⟨L,h,Tr.refl _ _ _ _ _⟩
 case h_1 sz xs i off q esz hr=>
  have hro:=h.obj r _ hr;simp only[RO]at hro;obtain ⟨b,vs,pre,ys0,post,A1,A2,B1,B2,v,h1,h2,h3,h4,_⟩:=hro;have hx0:∀cs,(real call loop).dD xs i=some (.agg cs)->xs[i.toNat]? =some (.agg cs):=λcs hx=>by
   simp only[real,aJ.dD,zE]at hx;rw[if_pos h4]at hx;exact hx
  split at e
  ·rename_i esz' ys cs hq hx;split at e
   case isFalse=>cases e
   case isTrue hes=>
    subst hes;split at e
    case h_2=>cases e
    case h_1 cs' hl=>
     injection e with e;subst e;exact RS.jP (np:=np) h hr hq (hx0 _ hx) hl
  ·rename_i esz' ys cs hq hx;split at e
   case h_2=>cases e
   case h_1 hf=>
    split at e
    case isFalse=>cases e
    case isTrue hes=>
     subst hes;split at e
     case h_2=>cases e
     case h_1 cs' hl=>
      injection e with e;subst e;have hqr:r≠q:=λe=>by rw[e,hq]at hr;injection hr with hr;cases hr
      obtain ⟨L1,k1,k2,_⟩:=RS.Gh np h hq hf;obtain ⟨L2,m1,m2⟩:=RS.jP (np:=np) k1 (by show (s.sto.put q _).get r=_;rw[bT _ hqr];exact hr) (cO _ hq) (hx0 _ hx) hl;have he:(⟨s.env,(s.sto.put q (some (.orows esz ys))).put r (some (.orows sz (xs.set i.toNat (.agg cs'))))⟩:St).kill q=(⟨s.env,s.sto.put r (some (.orows sz (xs.set i.toNat (.agg cs'))))⟩:St).kill q:=by
       simp only[St.kill];congr 1;congr 1;exact y8 hqr
      simp only at m1 m2;rw[he]at m1 m2;exact ⟨L2,m1,k2.trans m2⟩
  ·cases e
theorem ny {np:Nat} {x:VX} {s':St} (h:RS s a w L Z) (e:jP (real call loop) x s=some s'):∃L',RS s' a w L' Z/\Tr np s.sto s'.sto w w L L' Z Z:=by
 unfold jP at e;split at e
 case h_2=>cases e
 case h_1 r sz0 i0 off0 _=>exact qh h e
theorem aV.pre {np:Nat} {o:Oper} {s1:St} {L1:Loc} {x:AV} {s':St} (t:Tr np s.sto s1.sto w w L L1 Z Z) (h:aV P np o s1 a w L1 Z x s'):aV P np o s a w L Z x s':=
 λK Q hk=>h K Q λu w' L' Z' k1 k2 k3=>hk u w' L' Z' k1 (t.trans k2) k3
end
end
section
section
variable {P:Program} {call:cM} {loop:cN}
variable {s:St} {a:Act} {w:World} {L:Loc} {Z:Nat->Prop}
theorem Gj {o:aJ} (s:St):∀{vs:List AV} {ds:List D},dL vs=some ds->yV o s vs=some (vs,s)/\vs.all AV.one=true/\vs=ds.map .d
 | [],ds,h=>by simp only[dL]at h;injection h with h;subst h;exact ⟨rfl,rfl,rfl⟩
 | v::vs,ds,h=>by
  cases v with
  | d x=>
   simp only[dL]at h;split at h
   case h_2=>cases h
   case h_1 xs hx=>
    injection h with h;subst h;obtain ⟨h1,h2,h3⟩:=Gj (o:=o) s hx;refine ⟨by simp only[yV,fz,h1],by simp[AV.one,h2],by rw[h3];rfl⟩
  | _=>simp[dL]at h
theorem y9 {dst:Option Nat} {n:Nat} {x y:VX} {r:AV} {s':St} (e:aI (real call loop) s dst (.storeR n x y)=some (r,s')):
  ∃p v,ev s.env x=some p/\ev s.env y=some v/\r= .bare/\storeAt (real call loop) s n p v=some s':=by
 simp only[aI]at e;split at e
 case h_2=>cases e
 case h_1 q sz i off v h1 h2=>
  split at e
  case h_2=>cases e
  case h_1 ds hds=>
   split at e
   case isTrue=>cases e
   case isFalse hn=>
    obtain ⟨k1,k2,k3⟩:=Gj (o:=real call loop) s hds;split at e
    case h_2=>cases e
    case h_1 sz' xs hq=>
     split at e
     case isFalse=>cases e
     case isTrue hsz=>
      split at e
      case h_2=>cases e
      case h_1 el hel=>
       split at e
       case isFalse=>cases e
       case isTrue hc=>
        split at e
        case h_2=>cases e
        case h_1 cs hl=>
         split at e
         case h_2=>cases e
         case h_1 e' he'=>
          injection e with e;injection e with e1 e2;refine ⟨_,v,h1,h2,e1.symm,?_⟩;have hlen:v.cells.length=n:=by
           have:v.cells.length=ds.length:=by rw[k3];simp
           omega
          unfold storeAt;simp only[hlen,k2,hq,k1,hds,hel,hl,he',hsz,hc,if_true,ne_eq,not_true,decide_false,Bool.not_true,Bool.or_self,if_false,Bool.false_eq_true];rw[<-e2,hsz]
theorem vP {dst:Option Nat} {sz:gG} {bytes:Nat} {x y:VX} {r:AV} {s':St} (e:aI (real call loop) s dst (.appendE sz bytes x y)=some (r,s')):
  aI (real call loop) s dst (.append sz bytes x y)=some (r,s'):=by
 simp only[aI]at e |-;split at e
 case h_2=>cases e
 case h_1 b t h1 h2=>
  rw[h1,h2];exact e
theorem Ao {sto:br} {cs:List AV} {off:Nat} {ds:List D} {q:Id} {esz:gG} (h:BL sto cs off=some (ds,q,esz)):
  ∃u ds0,cs[off]? =some (.arr q esz none u)/\dL (cs.set off (.d (.int .i64 0)))=some ds0/\ds0.all dF=true/\ds=ds0.set off (.own esz [])/\0<esz.2/\(sto.get q).isSome:=by
 unfold BL at h;split at h
 case h_2=>cases h
 case h_1 q' esz' u hc=>
  split at h
  case h_2=>cases h
  case h_1 ds0 hd=>
   split at h
   ·rename_i m z xs hm hp hg;injection h with h;injection h with h1 h2;injection h2 with h2 h3;subst h1;subst h2;subst h3;exact ⟨u,ds0,hc,hd,hp,rfl,by omega,by rw[hg];rfl⟩
   ·rename_i m z xs hm hp hg;injection h with h;injection h with h1 h2;injection h2 with h2 h3;subst h1;subst h2;subst h3;exact ⟨u,ds0,hc,hd,hp,rfl,by omega,by rw[hg];rfl⟩
   ·cases h
theorem DV {np t:Nat} {s':St} {ob:Obj} {o:Go.Obj} {w':World} (h:RS s a w L Z) (hl:s.lay t [some ob]=some s') (ht:t<np) (hw:w'.heap=w.heap.push o) (hos:w'.os=w.os) (htp:w'.tape=w.tape) (hop:w'.output=w.output)
  (hob:∀c:Cx,c.w=w'->c.Z=Z->c.L (t,0)=some w.heap.size->(∀k,¬c.L.nest (t,0) k)->(∀q,(s.sto.get q).isSome->Same (aH w Z L s.sto) c q)->jV w c.w Z c.Z->RO c (t,0) ob):
  ∃L',RS s' a w' L' Z/\Tr np s.sto s'.sto w w' L L' Z Z/\L' (t,0)=some w.heap.size/\(∀q,(s.sto.get q).isSome->Same (aH w Z L s.sto) (aH w' Z L' s'.sto) q)/\jV w w' Z Z:=by
 have hk:∀b,b<w.heap.size->some b≠some w.heap.size->w'.heap[b]? =w.heap[b]? :=by
  intro b hb _;rw[hw,Array.getElem?_push,if_neg (by omega)]
 have hnb:∀b,some w.heap.size=some b->¬Z b/\¬aU s.sto L b/\b<w'.heap.size/\(w.heap.size<=b\/aU s.sto L b):=by
  intro b hb;injection hb with hb;subst hb;refine ⟨λhz=> ?_,λhl=> ?_,by simp[hw],.inl (Nat.le_refl _)⟩
  ·have:=(h.dis _ hz).1;omega
  ·obtain ⟨q,ob',h1,h2⟩:=hl;have:=h.fq h1 h2;omega
 have hget:=dH (eD hl).1;have hfree:=gq (eD hl).1;have hsame:∀q,(s.sto.get q).isSome->Same (aH w Z L s.sto) (aH w' Z (eX L (t,0) (some w.heap.size) λ_=>False) s'.sto) q:=by
  intro q hq;have hne:q.1≠t:=λe=>by rw[hfree q e]at hq;cases hq
  refine ⟨sq L _ _ (λe=>hne (by rw[e])),λk=> ?_,λsz xs k=>⟨xs,?_,rfl⟩,λb hb hs=> ?_⟩
  ·show (s'.sto.get q).isSome;rw[hget,if_neg hne];exact k
  ·show (s'.sto.get q).bind Obj.rw=_;rw[hget,if_neg hne];exact k
  ·obtain ⟨o',ho'⟩:=Option.isSome_iff_exists.1 hq;exact dm (hk b (h.block_lt ho' hb) (by intro e;injection e with e;have:=h.block_lt ho' hb;omega))
 have hzz:jV w w' Z Z:=λb hb=>⟨hb,hk b (h.dis b hb).1 (by intro e;injection e with e;have:=(h.dis b hb).1;omega)⟩
 obtain ⟨h1,h2,_,_⟩:=RS.Eg (s0:=s) (np:=np) (nb:=some w.heap.size) (N:=λ_=>False) (w':=w') h (Tr.refl _ _ _ _ _) hl ht hos htp hop (by rw[hw];simp) hk hnb (λ_ _ e=>e.elim)
  (hob (aH w' Z (eX L (t,0) (some w.heap.size) λ_=>False) s'.sto) rfl rfl (bZ _ _ _ _) (λk=>by show¬(eX _ _ _ _).nest _ _;rw[js];exact id) hsame hzz)
 exact ⟨_,h1,h2,bZ _ _ _ _,hsame,hzz⟩
theorem Ap {np t:Nat} {s':St} {o:Oper} {ty e:TypeId} {i:TypeInfo} {z:Value} {x:Operand} {x':VX} {off:Nat} {r:AV}
  (h:RS s a w L Z) (ho:o.op= .buildSlice ty 1 #[(0,x)]) (hx:cR x x'=true) (hu:P.underlying ty=some (.slice e)) (hi:P.info? e=some i) (hz:i.zero=some z) (_hzs:z.cells.size=i.size) (hpos:0<i.size)
  (hbig:i.size<=2^24) (ht:t<np)
  (es:aI (real call loop) s (some t) (.buildH (e,i.size) off x')=some (r,s')):aV P np o s a w L Z r s':=by
 simp only[aI]at es;split at es
 case h_2=>cases es
 case h_1 cs t' hev ht'=>
  injection ht' with ht';subst ht';split at es
  case h_2=>cases es
  case h_1 ds q esz hlent=>
   split at es
   case isFalse=>cases es
   case isTrue hlen=>
    split at es
    case h_2=>cases es
    case h_1 s3 hl=>
     injection es with es;injection es with es1 es2;subst es1;subst es2;obtain ⟨u,ds0,hc,hd,hp,rfl,hes,hqs⟩:=Ao hlent;have hv:=aL h hx hev;simp only[RV]at hv;obtain ⟨vs,hv,hcs⟩:=hv;obtain ⟨hcl,hce⟩:=bF.1 hcs;obtain ⟨_,_,hd3⟩:=Gj (o:=real call loop) s hd;have hl0:ds0.length=cs.length:=by have:=congrArg List.length hd3;simpa using this.symm
     have hdl:ds0.length=i.size:=by simpa using hlen
     have hoff:off<cs.length:=(aq.1 hc).1;have hvl:vs.length=i.size:=by omega
     have hcell:∀(j:Nat) (d:D) (v:Value),j≠off->ds0[j]? =some d->vs[j]? =some v->RD w Z d [v]:=λj d v hj h1 h2=>by
      have hcj:cs[j]? =some (.d d):=by
       have:=congrArg (·[j]?) hd3;simp only[List.getElem?_map,h1,Option.map_some]at this;rw[List.getElem?_set_ne (λe=>hj e.symm)]at this;exact this
      have:=hce j _ v hcj h2;simpa only [RV]using this
     have hpre:fk w Z (ds0.take off) (vs.take off):=eC.2 ⟨by simp;omega,λj d v h1 h2=>by
      rw[List.getElem?_take]at h1 h2;split at h1
      ·rename_i hj;rw[if_pos hj]at h2;exact hcell j d v (by omega) h1 h2
      ·cases h1⟩
     have hpost:fk w Z (ds0.drop (off+1)) (vs.drop (off+1)):=eC.2 ⟨by simp;omega,λj d v h1 h2=>by
      rw[List.getElem?_drop]at h1 h2;exact hcell _ d v (by omega) h1 h2⟩
     have hpp:(ds0.take off).all dF=true/\(ds0.drop (off+1)).all dF=true:=by
      constructor<;>(rw[List.all_eq_true]at hp |-;intro d hd')
      ·exact hp d (List.mem_of_mem_take hd')
      ·exact hp d (List.mem_of_mem_drop hd')
     obtain ⟨v,hvo⟩:∃v,vs[off]? =some v:=⟨_,bg (by omega)⟩
     have hvq:=hce off _ v hc hvo;have hsz:(a.eval x).cells.size=i.size:=by rw[hv];simp[Value.cells];omega
     have hrun:(execOp a.eval o).run P w= .ok (.value (.slice (some ⟨w.heap.size,0,none⟩) 1 1)) { w with heap:=w.heap.push (.cells vs.toArray e) }:=by
      refine eE (m:=Instr.buildSlice ty 1 #[(0,a.eval x)]) (by unfold execOp;rw[ho];simp) ?_;unfold Instr.buildSlice;have h0:¬(i.size=0):=by omega
      have hn:¬(16777216<i.size):=by omega
      simp only[Sem.run_bind,run_underlying hu,Result.andThen,sizeOf,typeInfo,Sem.run_pure];have hfill:Instr.fill (λk=>some (k*i.size,i.size)) ((Array.range (1*i.size)).map (λj=>z.cells[j%z.cells.size]!)) [(0,a.eval x)]=some vs.toArray:=by
       rw[pJ (off:=0) (by rw[hsz];simp) (by simp;omega)];simp only[Instr.fill,Option.some.injEq];apply Array.ext';rw[hv];simp[Value.cells];have:vs.length=i.size:=by omega
       rw[this];simp
      simp[hi,h0,hn,newRow,zeroValue,typeInfo,hz]at hfill |-;simp[hfill]
     have hset:ds0.set off (.own esz [])=ds0.take off++ .own esz []::ds0.drop (off+1):=List.set_eq_take_append_cons_drop.trans (if_pos (by omega));obtain ⟨L',k1,k2,k3,k4,k5⟩:=DV (np:=np) (w':={ w with heap:=w.heap.push (.cells vs.toArray e) }) (o:= .cells vs.toArray e) h hl ht rfl rfl rfl rfl (λc c1 c2 c3 c4 c5 c6=>by
      have hd1:∀{xs:List D} {us:List Value},fk w Z xs us->fk c.w c.Z xs us:=λhh=>oP c6 _ _ hh
      simp only[RO];refine ⟨w.heap.size,vs.toArray,ds0.take off,[],ds0.drop (off+1),[],[],[],[],v,c3,by rw[c1];simp,by simp;omega,Int.le_refl _,by rw[hset];rfl,by simp;omega,by simp;omega,by simp[jc],?_,?_,by simp[jc],by simpa using hvo,?_,hes,by simp,λk=> ?_⟩
      ·have:=pT hpp.1 (hd1 hpre);simpa using this
      ·have:=pT hpp.2 (hd1 hpost);have e1:(vs.toArray.toList.drop ((0:Int).toNat*i.size+off+1)).take (i.size-(off+1))=vs.drop (off+1):=by
        simp only[Int.toNat_zero,Nat.zero_mul,Nat.zero_add];rw[List.take_of_length_le (by simp;omega)]
       rw[e1];exact this
      ·have hm:=kf (c:=aH w Z L s.sto) (c':=c) c6 (.arr q esz none u) v (λp hp=>by
        have:p=q:=by simpa [AV.refs]using hp
        subst this;exact c5 p hqs) hvq
       simp only[RV]at hm |-;obtain ⟨A,n,cap,zs,q1,q2,q3,q4,q5,q6,q7,q8⟩:=hm;exact ⟨A,n,cap,zs,q1,q2,λe=>(by cases e),q4,q5,q6,q7,q8⟩
      ·constructor
       ·intro hk;exact (c4 k hk).elim
       ·intro hk;simp at hk)
     refine aV.value hrun k1 k2 ?_;simp only[RV];have hgot:s3.sto.get (t,0)=some (.hrows (e,i.size) [.agg (ds0.set off (.own esz []))] 0 off q esz):=by rw[dH (eD hl).1];simp
     refine ⟨_,1,1,[.agg (ds0.set off (.own esz []))],rfl,⟨Nat.le_refl _,by unfold maxLen;omega⟩,λ_=>rfl,by show (s3.sto.get (t,0)).bind Obj.rw=_;rw[hgot];rfl,λ_=>rfl,λx m e=>(by cases e),λe=>(by rw[k3]at e;cases e),λb hb=> ?_⟩;have:w.heap.size=b:=by have:some w.heap.size=some b:=k3.symm.trans hb;injection this
     subst this;right;refine ⟨by simp[bq],?_⟩;simp only[bq,bX];simp;omega
theorem y_ {np t:Nat} {s':St} {o:Oper} {ty e:TypeId} {i:TypeInfo} {z:Value} {x y:Operand} {x' y':VX} {r:AV} (h:RS s a w L Z)
  (ho:o.op= .call { callee:= .builtin .append,args:= #[x,y],argTypes:= #[ty,ty] }) (hx:cR x x'=true) (hy:cR y y'=true)
  (hu:P.underlying ty=some (.slice e)) (hi:P.info? e=some i) (hz:i.zero=some z) (hzs:z.cells.size=i.size) (ht:t<np)
  (es:aI (real call loop) s (some t) (.appendH (e,i.size) i.bytes x' y')=some (r,s')):aV P np o s a w L Z r s':=by
 simp only[aI]at es;split at es
 case h_2=>cases es
 case h_1 q sz u _=>
  split at es
  case h_2=>cases es
  case h_1 s1 h1=>
   obtain ⟨L2,m1,m2⟩:=qh (np:=np) h h1;exact aV.pre m2 (rO m1 ho hx hy hu hi hz hzs ht es)
end
end
end Go.Vi
