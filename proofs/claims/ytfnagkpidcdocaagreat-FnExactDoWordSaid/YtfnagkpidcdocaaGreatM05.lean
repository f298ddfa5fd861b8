import Derived.Test.YtfnagkpidcdocaaGreatM04
set_option linter.all false
namespace Go.Vi
open Go Go.RowKit
section
variable {P:Program} {call:dh} {loop:di}
variable {s:St} {a:Act} {w:World} {L:Loc} {Z:Nat->Prop}
theorem nG {o:Obj} {L L':Loc} {q r:Id} {b:Nat} (e:L q=L' r) (j:L.nest q=L'.nest r):o.has L q b↔o.has L' r b:=by
 unfold Obj.has;rw[e,j]
theorem RS.EA {np:Nat} {s s':St} {L':Loc} (h:RS s a w L Z) {r q:Id} (a7:q≠r)
  (a3:dH (aI w Z L' s'.sto) s'.env a.tmps.toList)
  (a4:∀k ob,s'.sto.get k=some ob->RO (aI w Z L' s'.sto) k ob)
  (I:∀k ob,s'.sto.get k=some ob->k≠r->k≠q->∃ob',s.sto.get k=some ob'/\∀b,ob.has L' k b->ob'.has L k b)
  (S:∀k ob b,s'.sto.get k=some ob->k=r\/k=q->ob.has L' k b->∃k' ob',(k'=r\/k'=q)/\s.sto.get k'=some ob'/\ob'.has L k' b)
  (V:∀ob ob' b,s'.sto.get r=some ob->s'.sto.get q=some ob'->ob.has L' r b->ob'.has L' q b->False)
  (a0:∀k ob b,s.sto.get k=some ob->ob.has L k b->k=r\/k=q->∀k' ob',s'.sto.get k'=some ob'->k'≠r->k'≠q->¬ob'.has L' k' b)
  (a5:∀k:Id,np<=k.1->L' k=L k) (a6:∀k:Id,np<=k.1->(s'.sto.get k).isSome->(s.sto.get k).isSome/\Same (aI w Z L s.sto) (aI w Z L' s'.sto) k):
  RS s' a w L' Z/\Tr np s.sto s'.sto w w L L' Z Z:=by
 have hl:∀k ob b,s'.sto.get k=some ob->ob.has L' k b->aY s.sto L b:=λk ob b j E=>by
  by_cases hk:k=r\/k=q
  ·obtain ⟨k',ob',_,J,M⟩:=S k ob b j hk E;exact ⟨k',ob',J,M⟩
  obtain ⟨ob',J,M⟩:=I k ob j (λe=>hk (.inl e)) (λe=>hk (.inr e));exact ⟨k,ob',J,M b E⟩
 have O:∀b,aY s'.sto L' b->aY s.sto L b:=λb ⟨k,ob,j,E⟩=>hl k ob b j E
 refine ⟨⟨h.defers,a3,a4,λk k' b ob ob' j E h3 h4=> ?_,λb hb=>⟨(h.dis b hb).1,λhl=>(h.dis b hb).2 (O b hl)⟩⟩,
  ⟨rfl,rfl,rfl,Nat.le_refl _,λ_ _ _=>rfl,λb hb=> .inl (O b hb),λ_ hz=>hz,λ_ hz=> .inl hz,a5,a6⟩⟩
 by_cases U:k=r\/k=q
 ·by_cases c2:k'=r\/k'=q
  ·rcases U with rfl | rfl<;>rcases c2 with rfl | rfl
   ·rfl
   ·exact (V ob ob' b j E h3 h4).elim
   ·exact (V ob' ob b E j h4 h3).elim
   rfl
  obtain ⟨k2,a1,m0,J,M⟩:=S k ob b j U h3;exact (a0 k2 a1 b J M m0 k' ob' E (λe=>c2 (.inl e)) (λe=>c2 (.inr e)) h4).elim
 by_cases c2:k'=r\/k'=q
 ·obtain ⟨k2,a1,m0,J,M⟩:=S k' ob' b E c2 h4;exact (a0 k2 a1 b J M m0 k ob j (λe=>U (.inl e)) (λe=>U (.inr e)) h3).elim
 obtain ⟨o1,J,M⟩:=I k ob j (λe=>U (.inl e)) (λe=>U (.inr e));obtain ⟨o2,m3,m4⟩:=I k' ob' E (λe=>c2 (.inl e)) (λe=>c2 (.inr e));exact h.injH k k' b o1 o2 J m3 (M b h3) (m4 b h4)
theorem RS.q9 {np t:Nat} {s':St} {sz I:gJ} {xs ys cs:List D} {i:Int} {off:Nat} {r:Id} (h:RS s a w L Z) (hr:s.sto.get r=some (.orows sz xs)) (hi:0<=i) (E:xs[i.toNat]? =some (.agg cs)) (c4:cs.length=sz.2) (hc:cs[off]? =some (.own I ys)) (az:0<I.2)
  {b:Nat} (hb:L r=some b) (hl:(⟨s.env,s.sto.put r (some (.hrows sz xs i off (t,0) I))⟩:St).lay t [some (.orows I ys)]=some s') (ht:t<np):
  ∃L' v,RS s' a w L' Z/\Tr np s.sto s'.sto w w L L' Z Z/\w.cell? ⟨b,i.toNat*sz.2+off,none⟩=some v/\RV (aI w Z L' s'.sto) (.arr (t,0) I none false) v:=by
 obtain ⟨a5,b0⟩:=eU hl;simp only at a5 b0;have a6:∀k,(s.sto.put r (some (.hrows sz xs i off (t,0) I))).get k=if k=r then some (.hrows sz xs i off (t,0) I)else s.sto.get k:=λk=>by
  by_cases e:k=r
  ·subst e;rw[if_pos rfl];exact cR _ hr
  rw[if_neg e];exact bU _ e
 have bi:r.1≠t:=λe=>by
  have:=gW a5 r e;rw[a6,if_pos rfl]at this;cases this
 have hq:((t,0):Id)≠r:=λe=>bi (by rw[<-e])
 have U:∀k,s'.sto.get k=if k.1=t then (match [some (Obj.orows I ys)][k.2]? with | some o=>o | none=>none)else if k=r then some (.hrows sz xs i off (t,0) I)else s.sto.get k:=λk=>by
  rw[dX a5];split
  ·rfl
  exact a6 k
 have ac:s'.sto.get (t,0)=some (.orows I ys):=by rw[U];simp
 have b1:s'.sto.get r=some (.hrows sz xs i off (t,0) I):=by rw[U,if_neg bi,if_pos rfl]
 have ae:∀k ob,s'.sto.get k=some ob->k≠r->k≠(t,0)->s.sto.get k=some ob/\k.1≠t:=λk ob hk M O=>by
  rw[U]at hk;split at hk
  ·rename_i e;cases bj:k.2 with
   | zero=>exact (O (Prod.ext e bj)).elim
   | succ n=>simp[bj]at hk
  rename_i e;first
   | exact ⟨hk,e⟩
   | (rw[if_neg M]at hk;exact ⟨hk,e⟩)
 have ag:∀k,(s.sto.get k).isSome->k.1≠t:=λk hk e=>by
  have:=gW a5 k e;rw[a6]at this;split at this
  ·cases this
  rw[this]at hk;cases hk
 have bl:=h.obj r _ hr;simp only[RO]at bl;obtain ⟨vs,G,am,bv,g3,g4,g5⟩:=bl.2 b hb;obtain ⟨A,Fi,B,rfl,a1,a2,a3,a4⟩:=Kl g3 E;simp only[OE]at a2;have bz:off<cs.length:=(ax.1 hc).1;have hsplit:cs=cs.take off++ .own I ys::cs.drop (off+1):=by
  have:=(DY hc).1;simpa using this
 have b3:(cs.take off).length=off:=by rw[List.length_take];omega
 rw[hsplit]at a2;obtain ⟨v1,v2,A1,F2,aa,rfl,q1,q2,q3⟩:=fX.1 a2;simp only[nE]at q3;obtain ⟨v,v3,Fo,B1,rfl,rfl,q4,q5⟩:=q3;rw[b3]at q1;have c5:=wD q5;rw[List.length_drop]at c5;rw[Nat.succ_mul]at a3 a4;rw[Array.length_toList]at a4;have c0:∀j,j<sz.2->vs.toList[i.toNat*sz.2+j]? =(v1++v::v3)[j]? :=λj hj=>by
  rw[<-aa,List.getElem?_take,if_pos hj,List.getElem?_drop]
 have hv:vs[i.toNat*sz.2+off]? =some v:=by
  have:=c0 off (by omega);rw[List.getElem?_append_right (by omega),q1]at this;simpa using this
 have bd:(vs.toList.drop (i.toNat*sz.2)).take off=v1:=by
  have:((vs.toList.drop (i.toNat*sz.2)).take sz.2).take off=v1:=by rw[aa];simp[<-q1]
  rw[List.take_take,Nat.min_eq_left (by omega)]at this;exact this
 have be:(vs.toList.drop (i.toNat*sz.2+off+1)).take (sz.2-(off+1))=v3:=by
  have:((vs.toList.drop (i.toNat*sz.2)).take sz.2).drop (off+1)=v3:=by
   rw[aa,List.drop_append,q1];simp[List.drop_eq_nil_of_le (show v1.length<=off+1 by omega)]
  rw[List.drop_take,List.drop_drop]at this;rw[Nat.add_assoc];exact this
 have bm:=q4;simp only[OC]at bm;obtain ⟨va,vc,⟨c6,c7⟩,hcase⟩:=bm;have a0:=g4;have c8:∀k,k∈A++(A1++(Fo++B1))++B->(Obj.orows sz xs).has L r k:=λk hk=> .inr ⟨rfl,(g5 k).2 hk⟩
 obtain ⟨nb,N,hN⟩:∃(nb:Option Nat) (N:List Nat),(nb=none/\N=[]/\Fo=[]/\vc=0/\ys=[])\/∃b' vs',nb=some b'/\Fo=b'::N/\va=some ⟨b',0,none⟩/\w.heap[b']? =some (.cells vs' I.1 (0,0))/\vc*I.2=vs'.size/\ys.length*I.2<=vs'.size/\jo w Z I.2 ys vs'.toList N:=by
  rcases hcase with ⟨J,S,e3⟩ | ⟨b',vs',F',J,S,e3,e4,_,e6,e7⟩
  ·exact ⟨none,[],.inl ⟨rfl,rfl,e3,J,S⟩⟩
  exact ⟨some b',F',.inr ⟨b',vs',rfl,S,J,e3,e4,e6,e7⟩⟩
 generalize a7:(⟨λk=>if k=(t,0)then nb else L k,λk=>if k=(t,0)then (λx=>x∈N)else if k=r then (λx=>x∈A++A1++B1++B)else L.nest k⟩:Loc)=L';have a8:L' (t,0)=nb:=by rw[<-a7];simp
 have V:∀k,k≠(t,0)->L' k=L k:=λk hk=>by rw[<-a7];simp[hk]
 have b4:L'.nest (t,0)=λx=>x∈N:=by rw[<-a7];simp
 have bo:L'.nest r=λx=>x∈A++A1++B1++B:=by rw[<-a7];simp[Ne.symm hq]
 have b5:∀k,k≠(t,0)->k≠r->L'.nest k=L.nest k:=λk M O=>by rw[<-a7];simp[M,O]
 have hsame:∀k,(s.sto.get k).isSome->Same (aI w Z L s.sto) (aI w Z L' s'.sto) k:=λk hk=>by
  have b6:=ag k hk;have b7:k≠(t,0):=λe=>b6 (by rw[e])
  refine ⟨V k b7,λ_=> ?_,λz zs hz=>⟨zs,?_,rfl⟩,λ_ _ _=>rfl⟩
  ·show (s'.sto.get k).isSome;rw[U,if_neg b6];split; · rfl
   ·exact hk
  show (s'.sto.get k).bind Obj.rw=_;have b8:(s.sto.get k).bind Obj.rw=some (z,zs):=hz;rw[U,if_neg b6];split
  ·rename_i e;subst e;rw[hr]at b8;exact b8
  exact b8
 have an:RV (aI w Z L' s'.sto) (.arr (t,0) I none false) v:=by
  simp only[RV];refine ⟨va,ys.length,vc,ys,c6,⟨?_,c7⟩,λe=>(by cases e),by show (s'.sto.get (t,0)).bind Obj.rw=_;rw[ac];rfl,λ_=>rfl,λ_ _ e=>(by cases e),λe=> ?_,λb' e=> .inr ?_⟩
  ·rcases hN with ⟨_,_,_,_,e⟩ | ⟨b',vs',_,_,_,_,e4,e5,_⟩
   ·rw[e];simp
   exact Nat.le_of_mul_le_mul_right (by rw[e4];exact e5) az
  ·have e':nb=none:=by rw[<-a8];exact e
   rcases hN with ⟨_,_,_,e4,_⟩ | ⟨b',vs',J,_⟩
   ·exact e4
   rw[e']at J;cases J
  have e':nb=some b':=by rw[<-a8];exact e
  rcases hN with ⟨J,_⟩ | ⟨b2,vs',J,_,e3,e4,e5,_,_⟩
  ·rw[e']at J;cases J
  rw[e']at J;injection J with J;subst J;exact ⟨by rw[e3];simp[br],by simp only[br,Nat.zero_add,b_,e4];exact e5⟩
 have c1:∀x,x∈N->x∈Fo:=λx E=>by
  rcases hN with ⟨_,e,_⟩ | ⟨b',vs',_,e,_⟩
  ·rw[e]at E;cases E
  rw[e];simp[E]
 have c3:∀x,nb=some x->x∈Fo:=λx E=>by
  rcases hN with ⟨e,_⟩ | ⟨b',vs',e,S,_⟩
  ·rw[E]at e;cases e
  rw[E]at e;injection e with e;rw[S,e];simp
 have c9:∀x∈Fo,x≠b/\x∉A++A1++B1++B:=by
  simp only[List.nodup_cons,List.nodup_append,List.mem_append,not_or]at a0;obtain ⟨⟨⟨n1,n2,n3,n4⟩,n5⟩,⟨⟨n6,⟨n7,⟨n8,n9,bs⟩,b9⟩,ao⟩,bt,a9⟩⟩:=a0;intro x E;refine ⟨λe=>n3 (e ▸ E),λhm=> ?_⟩;simp only[List.mem_append]at hm;rcases hm with ((hm | hm) | hm) | hm
  ·exact ao x hm x (.inr (.inl E)) rfl
  ·exact b9 x hm x (.inl E) rfl
  ·exact bs x E x hm rfl
  exact a9 x (.inr (.inr (.inl E))) x hm rfl
 have bb:∀k,(Obj.orows I ys).has L' (t,0) k->k∈Fo:=λk hk=>by
  rcases hk with hk | ⟨_,hk⟩
  ·rw[a8]at hk;exact c3 k hk
  rw[b4]at hk;exact c1 k hk
 have bc:∀k,(Obj.hrows sz xs i off (t,0) I).has L' r k->k=b\/k∈A++A1++B1++B:=λk hk=>by
  rcases hk with hk | ⟨_,hk⟩
  ·rw[V r (Ne.symm hq),hb]at hk;injection hk with hk;exact .inl hk.symm
  rw[bo]at hk;exact .inr hk
 have ap:∀k,k=b\/k∈A++(A1++(Fo++B1))++B->(Obj.orows sz xs).has L r k:=λk hk=>by
  rcases hk with rfl | hk
  ·exact .inl hb
  exact c8 k hk
 have ch:(cs.take off).length+1+(cs.drop (off+1)).length=sz.2:=by
  have aux:∀a b c:Nat,a<b->b=c->a+1+(b-(a+1))=c:=by omega
  rw[b3,List.length_drop];exact aux _ _ _ bz c4
 have aw:=RS.EA (np:=np) (s':=s') (L':=L') h (r:=r) (q:=(t,0)) hq
  (by
   rw[b0];exact cO (c:=aI w Z L s.sto) (c':=aI w Z L' s'.sto) (ko.refl _ _) _ _ (λk hk=>hsame k (eE _ _ h.env k hk)) h.env)
  (λk ob hk=>by
   by_cases J:k=r
   ·subst J;rw[b1]at hk;injection hk with hk;subst hk;simp only[RO];refine ⟨b,vs,cs.take off,ys,cs.drop (off+1),A,A1,B1,B,v,by rw[V k (Ne.symm hq)];exact hb,am,bv,hi,by rw[<-hsplit];exact E,b3,ch,a1,by rw[bd];exact q2,by rw[be];exact q5,?_,hv,an,az,?_,λx=>by rw[bo]⟩
    ·rw[Nat.succ_mul];exact a3
    simp only[List.nodup_cons,List.nodup_append,List.mem_append,not_or]at a0 |-;obtain ⟨⟨⟨n1,n2,n3,n4⟩,n5⟩,⟨⟨n6,⟨n7,⟨n8,n9,bs⟩,b9⟩,ao⟩,bt,a9⟩⟩:=a0;refine ⟨⟨⟨⟨n1,n2⟩,n4⟩,n5⟩,⟨⟨n6,n7,λx E y hy=>ao x E y (.inl hy)⟩,n9,λx E y hy=> ?_⟩,bt,λx E y hy=> ?_⟩
    ·rcases E with E | E
     ·exact ao x E y (.inr (.inr hy))
     exact b9 x E y (.inr hy)
    rcases E with (E | E) | E
    ·exact a9 x (.inl E) y hy
    ·exact a9 x (.inr (.inl E)) y hy
    exact a9 x (.inr (.inr (.inr E))) y hy
   by_cases S:k=(t,0)
   ·subst S;rw[ac]at hk;injection hk with hk;subst hk;simp only[RO];refine ⟨λe=> ?_,λb' e=> ?_⟩
    ·have e':nb=none:=by rw[<-a8];exact e
     rcases hN with ⟨_,S,_,_,e5⟩ | ⟨b',vs',J,_⟩
     ·refine ⟨e5,λx E=> ?_⟩;have bu:L'.nest (t,0) x:=E;rw[b4,S]at bu;cases bu
     rw[e']at J;cases J
    have e':nb=some b':=by rw[<-a8];exact e
    rcases hN with ⟨J,_⟩ | ⟨b2,vs',J,S,e3,e4,e5,e6,e7⟩
    ·rw[e']at J;cases J
    rw[e']at J;injection J with J;subst J;refine ⟨vs',N,e4,e6,e7,?_,λx=>by rw[b4]⟩;rw[<-S];simp only[List.nodup_cons,List.nodup_append]at a0;exact a0.2.1.2.1.2.1.1
   obtain ⟨m1,m2⟩:=ae k ob hk J S;exact jr (c:=aI w Z L s.sto) (ko.refl _ _) (V k S) (b5 k S J) (λ_ _=>rfl) (λp hp=>hsame p (kV (h.obj k ob m1) p hp)) (h.obj k ob m1))
  (λk ob hk M O=>⟨ob,(ae k ob hk M O).1,λx E=>(nG (V k O) (b5 k O M)).1 E⟩)
  (λk ob x hk ci E=>by
   rcases ci with rfl | rfl
   ·rw[b1]at hk;injection hk with hk;subst hk;refine ⟨k,_,.inl rfl,hr,ap x ?_⟩;rcases bc x E with e | e
    ·exact .inl e
    refine .inr ?_;simp only[List.mem_append]at e |-;rcases e with ((e | e) | e) | e
    ·exact .inl (.inl e)
    ·exact .inl (.inr (.inl e))
    ·exact .inl (.inr (.inr (.inr e)))
    exact .inr e
   rw[ac]at hk;injection hk with hk;subst hk;refine ⟨r,_,.inl rfl,hr,ap x (.inr ?_)⟩;have:=bb x E;simp only[List.mem_append];exact .inl (.inr (.inr (.inl this))))
  (λob ob' x M O h3 h4=>by
   rw[b1]at M;injection M with M;subst M;rw[ac]at O;injection O with O;subst O;obtain ⟨m1,m2⟩:=c9 x (bb x h4);rcases bc x h3 with e | e
   ·exact m1 e
   exact m2 e)
  (λk ob x M O hk k' ob' h3 h4 h5 h6=>by
   have hk:k=r:=by
    rcases hk with e | e
    ·exact e
    exact (ag k (by simp[M]) (by rw[e])).elim
   subst hk;have:=ae k' ob' h3 h4 h5;exact h4 (h.injH k' k x ob' ob this.1 M ((nG (V k' h5) (b5 k' h5 h4)).1 h6) O))
  (λk hk=>V k (λe=>by rw[e]at hk;omega))
  (λk hk hs=>by
   have b7:k≠(t,0):=λe=>by rw[e]at hk;omega
   have:(s.sto.get k).isSome:=by
    by_cases e:k=r
    ·rw[e,hr];rfl
    obtain ⟨ob,ho⟩:=Option.isSome_iff_exists.1 hs;rw[(ae k ob ho e b7).1];rfl
   exact ⟨this,hsame k this⟩)
 refine ⟨L',v,aw.1,aw.2,?_,an⟩;simp only[World.cell?,am];exact hv
theorem AJ {l:List Value} {n off:Nat} {v:Value} (j:l[off]? =some v) (J:off<n):l.take n=l.take off++v::(l.drop (off+1)).take (n-(off+1)):=by
 obtain ⟨E,I⟩:=ax.1 j;have e:n=off+((n-(off+1))+1):=by omega
 rw[e,List.take_add,List.drop_eq_getElem_cons E,I,List.take_succ_cons];congr 3;omega
theorem RS.kH {np:Nat} {sz M:gJ} {xs ys cs cs':List D} {i:Int} {off:Nat} {r q:Id} (h:RS s a w L Z) (hr:s.sto.get r=some (.hrows sz xs i off q M)) (hq:s.sto.get q=some (.orows M ys))
  (j:xs[i.toNat]? =some (.agg cs)) (hl:Go.Vi.lay cs off [.own M ys]=some cs'):
  ∃L',RS ((⟨s.env,s.sto.put r (some (.orows sz (xs.set i.toNat (.agg cs'))))⟩:St).kill q) a w L' Z/\Tr np s.sto ((⟨s.env,s.sto.put r (some (.orows sz (xs.set i.toNat (.agg cs'))))⟩:St).kill q).sto w w L L' Z Z:=by
 have ae:q≠r:=λe=>by rw[e,hr]at hq;injection hq with hq;cases hq
 have ag:=h.obj r _ hr;simp only[RO]at ag;obtain ⟨b,vs,pre,b1,post,A1,A2,B1,B2,v,h1,h2,h3,h4,h5,h6,h7,h8,h9,b2,b3,b4,am,b5,b6,b7⟩:=ag;have b8:cs=pre++ .own M b1::post:=by rw[h5]at j;injection j with j;injection j with j;exact j.symm
 have aw:cs'=pre++ .own M ys::post:=by
  rw[(ju hl).2,b8,<-h6];simp
 have hi:i.toNat<xs.length:=(ax.1 h5).1;have a4:=h.obj q _ hq;simp only[RO]at a4;simp only[RV]at am;obtain ⟨va,n,cap,zs,p1,⟨p2,p3⟩,_,p4,p5,_,p7,p8⟩:=am;have a1:(s.sto.get q).bind Obj.rw=some (M,zs):=p4;rw[hq]at a1;injection a1 with a1;injection a1 with _ a1;subst a1;have b9:=p5 trivial;subst b9;obtain ⟨
     J,bb,an,bc⟩:∃J,OC w Z (.own M ys) v J/\(∀k,k∈J->(Obj.orows M ys).has L q k)/\J.Nodup:=by
  cases a3:L q with
  | none=>
   refine ⟨[],?_,λk hk=>(by cases hk),List.nodup_nil⟩;simp only[OC];exact ⟨va,cap,⟨p1,p3⟩,.inl ⟨p7 a3,(a4.1 a3).1,trivial⟩⟩
  | some b'=>
   obtain ⟨vs',F',m1,m2,m3,m4,m5⟩:=a4.2 b' a3;refine ⟨b'::F',?_,λk hk=> ?_,m4⟩
   ·simp only[OC];rcases p8 b' a3 with ⟨_,k⟩ | ⟨k1,k2⟩
    ·exact (k rfl).elim
    refine ⟨va,cap,⟨p1,p3⟩,.inr ⟨b',vs',F',by simpa [br]using k1,rfl,m1,?_,b5,m2,m3⟩⟩;have bd:(br none+cap)*M.2=b_ w b':=k2;simpa [br,b_,m1]using bd
   rcases List.mem_cons.1 hk with rfl | hk
   ·exact .inl a3
   exact .inr ⟨rfl,(m5 k).2 hk⟩
 have a5:∀k,k=b\/k∈A1++A2++B1++B2->(Obj.hrows sz xs i off q M).has L r k:=λk hk=>by
  rcases hk with rfl | hk
  ·exact .inl h1
  exact .inr ⟨rfl,(b7 k).2 hk⟩
 have a0:∀k,k∈J->k=b\/k∈A1++A2++B1++B2->False:=λk hk be=>ae (h.injH q r k _ _ hq hr (an k hk) (a5 k be))
 generalize a8:(⟨L.main,λk=>if k=r then (λx=>x∈A1++(A2++(J++B1))++B2)else L.nest k⟩:Loc)=L';have S:∀k,L' k=L k:=λk=>by rw[<-a8]
 have ao:L'.nest r=λx=>x∈A1++(A2++(J++B1))++B2:=by rw[<-a8];simp
 have a9:∀k,k≠r->L'.nest k=L.nest k:=λk h1=>by rw[<-a8];simp[h1]
 generalize a6:(⟨s.env,s.sto.put r (some (.orows sz (xs.set i.toNat (.agg cs'))))⟩:St).kill q=s';have I:∀k,s'.sto.get k=if k=q then none else if k=r then some (.orows sz (xs.set i.toNat (.agg cs')))else (s.sto.get k).map (·.forget (· ==q)):=λk=>by
  rw[<-a6,gh];split
  ·rfl
  by_cases e:k=r
  ·subst e;rw[if_pos rfl,cR _ hr];rfl
  rw[if_neg e,bU _ e]
 have az:s'.env=AV.aP (· ==q) s.env:=by rw[<-a6];rfl
 have aa:∀k ob,s'.sto.get k=some ob->k≠r->k≠q->∃o,s.sto.get k=some o/\ob=o.forget (· ==q):=λk ob hk V O=>by
  rw[I,if_neg O,if_neg V]at hk;cases h3:s.sto.get k with
  | none=>simp[h3]at hk
  | some o=>simp[h3]at hk;exact ⟨o,rfl,hk.symm⟩
 have hsame:∀k,k≠q->Same (aI w Z L s.sto) (aI w Z L' s'.sto) k:=λk hk=>by
  refine ⟨S k,λhs=> ?_,λz zs hz=> ?_,λ_ _ _=>rfl⟩
  ·show (s'.sto.get k).isSome;rw[I,if_neg hk];split
   ·rfl
   have a6:(s.sto.get k).isSome:=hs;simpa using a6
  have U:(s.sto.get k).bind Obj.rw=some (z,zs):=hz;show∃ys,(s'.sto.get k).bind Obj.rw=some (z,ys)/\ys.length=zs.length;rw[I,if_neg hk];by_cases e:k=r
  ·rw[if_pos e];rw[e,hr]at U;simp only[Option.bind_some,Obj.rw]at U |-;injection U with U;injection U with V O;subst V O;exact ⟨_,rfl,by simp⟩
  rw[if_neg e];cases h3:s.sto.get k with
  | none=>simp[h3]at U
  | some o=>simp only[h3,Option.bind_some]at U;exact ⟨zs,by simp[Obj.ld,U],rfl⟩
 have a7:(i.toNat+1)*sz.2<=vs.toList.length:=Nat.le_trans (Nat.mul_le_mul_right _ hi) (by simpa using h3);have b0:off<sz.2:=by omega
 refine ⟨L',?_⟩;refine RS.EA (np:=np) (s':=s') (L':=L') h (r:=r) (q:=q) ae ?_ ?_ ?_ ?_ ?_ ?_ (λk _=>S k) ?_
 ·rw[az];refine cO (c:=aI w Z L s.sto) (c':=aI w Z L' s'.sto) (ko.refl _ _) _ _ (λk hk=>hsame k ?_) (fU (p:=(· ==q)) s.env _ h.env);have:=dY s.env k hk;simpa using this
 ·intro k ob hk;by_cases O:k=q
  ·rw[I,if_pos O]at hk;cases hk
  by_cases V:k=r
  ·subst V;rw[I,if_neg O,if_pos rfl]at hk;injection hk with hk;subst hk;simp only[RO];refine ⟨λe=>(by rw[S,h1]at e;cases e),λb' e=> ?_⟩;rw[S,h1]at e;injection e with e;subst e;refine ⟨vs,A1++(A2++(J++B1))++B2,h2,by simpa using h3,?_,?_,λk=>by rw[ao]⟩
   ·refine CC hi h8 ?_ b3 a7;simp only[OE];rw[aw,AJ (v:=v) (off:=off) (by rw[List.getElem?_drop];simpa using b4) b0];refine fX.2 ⟨_,_,A2,J++B1,rfl,rfl,?_,h9,?_⟩
    ·rw[List.length_take,List.length_drop];rw[Nat.succ_mul]at a7;omega
    simp only[nE];refine ⟨v,_,J,B1,rfl,rfl,bb,?_⟩;rw[List.drop_drop];exact b2
   have hn:=b6;simp only[List.nodup_cons,List.nodup_append,List.mem_append,not_or]at hn |-;obtain ⟨⟨⟨⟨n1,n2⟩,n3⟩,n4⟩,⟨⟨⟨n5,n6,n7⟩,n8,n9⟩,bi,ac⟩⟩:=hn;have d0:b∉J:=λhk=>a0 b hk (.inl rfl)
   have d1:∀x∈J,∀y∈A1,x≠y:=λx j y E e=>a0 x j (.inr (by rw[e];simp[E]))
   have d2:∀x∈J,∀y∈A2,x≠y:=λx j y E e=>a0 x j (.inr (by rw[e];simp[E]))
   have d3:∀x∈J,∀y∈B1,x≠y:=λx j y E e=>a0 x j (.inr (by rw[e];simp[E]))
   have d4:∀x∈J,∀y∈B2,x≠y:=λx j y E e=>a0 x j (.inr (by rw[e];simp[E]))
   refine ⟨⟨⟨n1,n2,d0,n3⟩,n4⟩,⟨⟨n5,⟨n6,⟨bc,n8,λx j y E=>d3 x j y E⟩,λx j y E=> ?_⟩,λx j y E=> ?_⟩,bi,λx j y E=> ?_⟩⟩
   ·rcases E with E | E
    ·exact λe=>d2 y E x j e.symm
    exact n9 x (.inr j) y E
   ·rcases E with E | E | E
    ·exact n7 x j y E
    ·exact λe=>d1 y E x j e.symm
    exact n9 x (.inl j) y E
   rcases j with j | j | j | j
   ·exact ac x (.inl (.inl j)) y E
   ·exact ac x (.inl (.inr j)) y E
   ·exact d4 x j y E
   exact ac x (.inr j) y E
  obtain ⟨o,m1,rfl⟩:=aa k ob hk V O;refine jr (c:=aI w Z L s.sto) (c':=aI w Z L' s'.sto) (ko.refl _ _) (S k) (a9 k V) (λ_ _=>rfl) (λp hp=>hsame p ?_) (lf (h.obj k o m1));have:(p==q)=false:=Obj.iZ o p hp;simpa using this
 ·intro k ob hk V O;obtain ⟨o,m1,rfl⟩:=aa k ob hk V O;exact ⟨o,m1,λx j=>Obj.dQ ((nG (S k) (a9 k V)).1 j)⟩
 ·intro k ob x hk bj j;by_cases O:k=q
  ·rw[I,if_pos O]at hk;cases hk
  have V:k=r:=bj.resolve_right O;subst V;rw[I,if_neg O,if_pos rfl]at hk;injection hk with hk;subst hk;rcases j with j | ⟨_,j⟩
  ·rw[S,h1]at j;injection j with j;exact ⟨k,_,.inl rfl,hr,a5 x (.inl j.symm)⟩
  rw[ao]at j;by_cases hf:x∈J
  ·exact ⟨q,_,.inr rfl,hq,an x hf⟩
  refine ⟨k,_,.inl rfl,hr,a5 x (.inr ?_)⟩;simp only[List.mem_append]at j |-;rcases j with (j | j | j | j) | j
  ·exact .inl (.inl (.inl j))
  ·exact .inl (.inl (.inr j))
  ·exact (hf j).elim
  ·exact .inl (.inr j)
  exact .inr j
 ·intro ob ob' x m1 m2;rw[I,if_pos rfl]at m2;cases m2
 ·intro k ob x m1 m2 m3 k' ob' m4 m5 m6 m7;obtain ⟨o,m8,rfl⟩:=aa k' ob' m4 m5 m6;have:=h.injH k' k x o ob m8 m1 (Obj.dQ ((nG (S k') (a9 k' m5)).1 m7)) m2;rcases m3 with e | e
  ·exact m5 (this.trans e)
  exact m6 (this.trans e)
 intro k _ hs;have ap:k≠q:=λe=>by rw[I,if_pos e]at hs;cases hs
 refine ⟨?_,hsame k ap⟩;by_cases e:k=r
 ·rw[e,hr];rfl
 rw[I,if_neg ap,if_neg e]at hs;simpa using hs
end
section
section
variable {P:Program} {call:dh} {loop:di}
variable {s:St} {a:Act} {w:World} {L:Loc} {Z:Nat->Prop}
def nH (L:Loc) (r:Id) (N:Nat->Prop):Loc:=⟨L.main,λk=>if k=r then N else L.nest k⟩
theorem uD (L:Loc) (r:Id) (N:Nat->Prop):(nH L r N).nest r=N:=by simp[nH]
theorem B6 (L:Loc) {r k:Id} (N:Nat->Prop) (h:k≠r):(nH L r N).nest k=L.nest k:=by simp[nH,h]
theorem Mk (s:bC) (r:Id):s.get (s.length+r.1+1,0)=none:=by
 unfold bC.get;rw[List.getElem?_eq_none (by simp;omega)]
theorem RS.swap {r:Id} {ob ob':Obj} {N:Nat->Prop} (np:Nat) (h:RS s a w L Z) (O:s.sto.get r=some ob) (a5:∀sz xs,ob.rw=some (sz,xs)->∃ys,ob'.rw=some (sz,ys)/\ys.length=xs.length)
  (a3:∀b,ob'.has (nH L r N) r b->ob.has L r b) (a6:RO (aI w Z (nH L r N) (s.sto.put r (some ob'))) r ob'):
  RS ⟨s.env,s.sto.put r (some ob')⟩ a w (nH L r N) Z/\Tr np s.sto (s.sto.put r (some ob')) w w L (nH L r N) Z Z/\∀k,Same (aI w Z L s.sto) (aI w Z (nH L r N) (s.sto.put r (some ob'))) k:=by
 have a4:=Mk s.sto r;have S:((s.sto.length+r.1+1,0):Id)≠r:=λe=>by
  have:=congrArg Prod.fst e;simp at this;omega
 generalize ((s.sto.length+r.1+1,0):Id)=q at*;have I:∀k,(s.sto.put r (some ob')).get k=if k=r then some ob' else s.sto.get k:=λk=>by
  by_cases e:k=r
  ·subst e;rw[if_pos rfl,cR _ O]
  rw[if_neg e,bU _ e]
 have hsame:∀k,Same (aI w Z L s.sto) (aI w Z (nH L r N) (s.sto.put r (some ob'))) k:=λk=>by
  refine ⟨rfl,λhs=> ?_,λz zs hz=> ?_,λ_ _ _=>rfl⟩
  ·show ((s.sto.put r (some ob')).get k).isSome;rw[I];split
   ·rfl
   exact hs
  have M:(s.sto.get k).bind Obj.rw=some (z,zs):=hz;show∃ys,((s.sto.put r (some ob')).get k).bind Obj.rw=some (z,ys)/\ys.length=zs.length;rw[I];by_cases e:k=r
  ·rw[if_pos e];rw[e,O]at M;exact a5 _ _ M
  rw[if_neg e];exact ⟨zs,M,rfl⟩
 have hk:∀k j,(s.sto.put r (some ob')).get k=some j->k≠r->s.sto.get k=some j:=λk j E J=>by rw[I,if_neg J]at E;exact E
 have U:∀j,(s.sto.put r (some ob')).get r=some j->j=ob':=λj E=>by rw[I,if_pos rfl]at E;injection E with E;exact E.symm
 have V:∀j,(s.sto.put r (some ob')).get q=some j->False:=λj E=>by rw[I,if_neg S,a4]at E;cases E
 have:=RS.EA (np:=np) (s':=⟨s.env,s.sto.put r (some ob')⟩) (L':=nH L r N) h (r:=r) (q:=q) S
  (cO (c:=aI w Z L s.sto) (c':=aI w Z (nH L r N) (s.sto.put r (some ob'))) (ko.refl _ _) _ _ (λk _=>hsame k) h.env)
  (λk j E=>by
   by_cases e:k=r
   ·subst e;rw[U _ E];exact a6
   exact jr (c:=aI w Z L s.sto) (ko.refl _ _) rfl (B6 L N e) (λ_ _=>rfl) (λp _=>hsame p) (h.obj k j (hk k j E e)))
  (λk j E J _=>⟨j,hk k j E J,λx hx=>(nG (L:=nH L r N) (L':=L) rfl (B6 L N J)).1 hx⟩)
  (λk j x E J h3=>by
   rcases J with rfl | rfl
   ·have:=U _ E;subst this;exact ⟨k,ob,.inl rfl,O,a3 x h3⟩
   exact (V _ E).elim)
  (λ_ _ _ _ J _ _=>V _ J)
  (λk j x E J h3 k' a0 h4 h5 h6 h7=>by
   have e:=h.injH k' k x a0 j (hk k' a0 h4 h5) E ((nG (L:=nH L r N) (L':=L) rfl (B6 L N h5)).1 h7) J;rcases h3 with e2 | e2
   ·exact h5 (e.trans e2)
   exact h6 (e.trans e2))
  (λ_ _=>rfl)
  (λk _ hs=>by
   refine ⟨?_,hsame k⟩;by_cases e:k=r
   ·rw[e,O];rfl
   have a1:((s.sto.put r (some ob')).get k).isSome:=hs;rw[I,if_neg e]at a1;exact a1)
 exact ⟨this.1,this.2,hsame⟩
theorem RS.JT {r:Id} {sz:gJ} {xs:List D} (np:Nat) (h:RS s a w L Z) (I:s.sto.get r=some (.rows sz xs)) (hf:(real call loop).flat xs=true):
  ∃L',RS ⟨s.env,s.sto.put r (some (.orows sz xs))⟩ a w L' Z/\Tr np s.sto (s.sto.put r (some (.orows sz xs))) w w L L' Z Z/\∀k,Same (aI w Z L s.sto) (aI w Z L' (s.sto.put r (some (.orows sz xs)))) k:=by
 have E:=h.obj r _ I;simp only[RO]at E;refine ⟨_,RS.swap (N:=λ_=>False) np h I (λz zs e=>⟨zs,e,rfl⟩) (λb j=> ?_) ?_⟩
 ·rcases j with j | ⟨_,j⟩
  ·exact .inl j
  rw[uD]at j;exact j.elim
 simp only[RO];refine ⟨λe=>⟨E.1 e,λk=>by rw[uD];exact id⟩,λb e=> ?_⟩;obtain ⟨vs,J,M,O⟩:=E.2 b e;exact ⟨vs,[],J,M,by simpa using uT J xs 0 hf (by simpa using M) O,by simp,λk=>by rw[uD];simp⟩
theorem RS.R0 {r:Id} {cs:List AV} {k:Nat} {x y:AV} (np:Nat) (h:RS s a w L Z) (J:s.sto.get r=some (.box cs)) (S:cs[k]? =some x) (U:∀v,RV (aI w Z L s.sto) x v->RV (aI w Z L s.sto) y v):
  ∃L',RS ⟨s.env,s.sto.put r (some (.box (cs.set k y)))⟩ a w L' Z/\Tr np s.sto (s.sto.put r (some (.box (cs.set k y)))) w w L L' Z Z:=by
 have M:=h.obj r _ J;simp only[RO]at M;obtain ⟨b,vs,ty,V,h2,h3⟩:=M;have hsame:∀q,Same (aI w Z L s.sto) (aI w Z (nH L r (L.nest r)) (s.sto.put r (some (.box (cs.set k y))))) q:=λq=>by
  refine ⟨rfl,λhs=> ?_,λz zs hz=>⟨zs,?_,rfl⟩,λ_ _ _=>rfl⟩
  ·show ((s.sto.put r _).get q).isSome;by_cases e:q=r
   ·subst e;rw[cR _ J];rfl
   rw[bU _ e];exact hs
  have E:(s.sto.get q).bind Obj.rw=some (z,zs):=hz;show ((s.sto.put r _).get q).bind Obj.rw=_;by_cases e:q=r
  ·subst e;rw[J]at E;simp[Obj.rw]at E
  rw[bU _ e];exact E
 obtain ⟨m1,m2,_⟩:=RS.swap (ob':= .box (cs.set k y)) (N:=L.nest r) np h J (λz zs e=>(by simp[Obj.rw]at e)) (λb I=>by
  rcases I with I | ⟨I,_⟩
  ·exact .inl I
  ·cases I) (by
  simp only[RO];refine ⟨b,vs,ty,V,h2,?_⟩;refine cO (c:=aI w Z L s.sto) (c':=aI w Z (nH L r (L.nest r)) (s.sto.put r (some (.box (cs.set k y))))) (ko.refl _ _) _ _ (λq _=>hsame q) ?_;rw[bJ]at h3 |-;refine ⟨by simpa using h3.1,λi p v j O=> ?_⟩;rw[List.getElem?_set]at j;split at j
  ·rename_i e;subst e;split at j
   ·injection j with j;subst j;exact U v (h3.2 k x v S O)
   cases j
  exact h3.2 i p v j O)
 exact ⟨_,m1,m2⟩
theorem wu {np t:Nat} {s':St} {ob:Obj} (h:RS s a w L Z) (hl:s.lay t [some ob]=some s') (E:t<np) (j:∀c:Cx,c.L (t,0)=none->(∀k,¬c.L.nest (t,0) k)->RO c (t,0) ob):
  ∃L',RS s' a w L' Z/\Tr np s.sto s'.sto w w L L' Z Z/\L' (t,0)=none/\s'.sto.get (t,0)=some ob/\∀q,(s.sto.get q).isSome->Same (aI w Z L s.sto) (aI w Z L' s'.sto) q:=by
 obtain ⟨I,J,h3,h4⟩:=RS.HM (s0:=s) (np:=np) (nb:=none) (w':=w) (N:=λ_=>False) h (Tr.refl _ _ _ _ _) hl E rfl rfl rfl (Nat.le_refl _) (λ_ _ _=>rfl) (λ_ e=>by cases e) (λ_ _ e=>e.elim)
  (j _ (cK _ _ _ _) (λk=>by show¬(fM _ _ _ _).nest _ _;rw[jM];exact id))
 refine ⟨_,I,J,cK _ _ _ _,?_,h4⟩;rw[dX (eU hl).1];simp
theorem p_ {own:Bool} {sz:gJ} {t:Id} (c:Cx) (j:c.L t=none) (E:∀k,¬c.L.nest t k):RO c t (rowOf own sz []):=by
 cases own with
 | true=>simp only[rowOf,RO];exact ⟨λ_=>⟨trivial,E⟩,λb e=>(by rw[j]at e;cases e)⟩
 | false=>simp only[rowOf,RO];exact ⟨λ_=>trivial,λb e=>(by rw[j]at e;cases e)⟩
theorem JU {own:Bool} {sz:gJ}:(rowOf own sz []).rw=some (sz,[]):=by cases own<;>rfl
theorem Hj {np t:Nat} {s':St} {o:Oper} {ty:TypeId} {i:TypeInfo} {d:TypeDesc} {x:Operand} {x':VX} {r:AV} (h:RS s a w L Z) (ho:o.op= .load ty x) (hx:dr x x'=true) (hi:P.info? ty=some i) (M:i.size=1) (hd:P.underlying ty=some d) (O:tU d=false) (ht:t<np)
  (es:aK (real call loop) s (some t) (.q9 x')=some (r,s')):aZ P np o s a w L Z r s':=by
 simp only[aK]at es;split at es
 case h_2=>cases es
 rename_i q sz n off S;split at es
 case h_2=>cases es
 rename_i sz' xs a3;split at es
 case h_2=>cases es
 rename_i cs E;have J:=aO h hx S;split at es
 ·rename_i a4 ys e;split at es
  case h_2=>cases es
  rename_i m t' hm I;injection I with I;subst I;split at es
  case isFalse=>cases es
  rename_i hc;obtain ⟨rfl,a5⟩:=hc;split at es
  case h_2=>cases es
  rename_i s2 hl;injection es with es;injection es with U V;subst U V;simp only[RV]at J;obtain ⟨b,_,hb,hn,J⟩:=J;have a6:xs[n.toNat]? =some (.agg cs):=by
   simp only[real,aM.cF,Ag]at E;rw[if_pos hn]at E;exact E
  have a0:cs[off]? =some (.own a4 ys):=by
   unfold cut at e;split at e
   ·injection e with e;have:=congrArg (·[0]?) e;simpa [List.getElem?_take,List.getElem?_drop]using this
   cases e
  obtain ⟨L',v,k1,k2,k3,k4⟩:=RS.q9 (np:=np) h a3 hn a6 a5 a0 (by omega) hb hl ht;have a1:(loadVar ty ⟨b,n.toNat*sz.2+off,none⟩).run P w= .ok v w:=by
   rcases qk (P:=P) (w:=w) (t:=ty) (vs:=[v]) hi hd (by rw[M];rfl) (λj u hj=>by
    cases j with
    | zero=>simp at hj;subst hj;simpa using k3
    | succ j=>simp at hj)with ⟨q1,q2⟩ | ⟨q1,q2⟩
   ·rw[O]at q1;cases q1
   simpa using q2
  refine aZ.value (eJ (m:=Instr.loadAt ty (a.eval x)) (by unfold execOp;rw[ho]) (u:=v) ?_) k1 k2 k4;rw[J];simp[Instr.loadAt,Instr.sureAddr,a1]
 split at es
 case h_2=>cases es
 rename_i v a7;injection es with es;injection es with U V;subst U V;exact uU np h ho hx hi hd O.symm S (by rw[M];exact a7)
end
end
section
section
variable {P:Program} {call:dh} {loop:di}
variable {s:St} {a:Act} {w:World} {L:Loc} {Z:Nat->Prop}
theorem Hl {x:D} (e:dO x=true) {v:Value} {F:List Nat} (h:OC w Z x v F):RD w Z x [v]/\F=[]:=by
 cases x with
 | own _ _=>simp[dO]at e
 | agg _=>simp[dO]at e
 | _=>simp only[OC]at h;exact h
theorem yc:∀{ds:List D} {vs:List Value} {F:List Nat},ds.all dO=true->nE w Z ds vs F->fL w Z ds vs/\F=[]
 | [],vs,F,_,h=>by simp only[nE]at h;simp only[fL];exact h
 | d::ds,vs,F,e,h=>by
  simp only[List.all_cons,af]at e;simp only[nE]at h;obtain ⟨v,vs',F1,F2,rfl,rfl,j,E⟩:=h;obtain ⟨g1,I⟩:=Hl e.1 j;obtain ⟨g2,J⟩:=yc e.2 E;simp only[fL];exact ⟨⟨v,vs',rfl,g1,g2⟩,by rw[I,J];rfl⟩
theorem AK {b n:Nat} {vs:Array Value} {t:TypeId} (I:w.heap[b]? =some (.cells vs t (0,0))):∀(xs:List D) (o:Nat) (F:List Nat),(real call loop).flat xs=true->jo w Z n xs (vs.toList.drop o) F->Rows w Z xs b o n/\F=[]
 | [],o,F,_,h=>by simp only[jo]at h;simp only[Rows];exact ⟨trivial,h⟩
 | x::xs,o,F,hf,h=>by
  simp only[real,aM.flat,List.all_cons,af]at hf;simp only[jo]at h;obtain ⟨F1,F2,M,rfl,e,h3⟩:=h;rw[List.drop_drop]at h3;obtain ⟨g1,rfl⟩:=AK I xs (o+n) F2 (by simpa only [real,aM.flat]using hf.2) h3;have key:RD w Z x ((vs.toList.drop o).take n)/\F1=[]:=by
   cases x with
   | agg ds=>simp only[OE]at e;simp only[RD];exact yc hf.1 e
   | own _ _=>simp[dO]at hf
   | int _ _=>simp only[OE]at e;exact e
   | bool _=>simp only[OE]at e;exact e
   | str _=>simp only[OE]at e;exact e
   | lst _=>simp only[OE]at e;exact e
  obtain ⟨J,rfl⟩:=key;simp only[Rows];refine ⟨⟨⟨_,by rw[List.length_take];omega,J,λj v E=> ?_⟩,g1⟩,rfl⟩;rw[List.getElem?_take]at E;split at E
  ·rw[List.getElem?_drop]at E;simp only[World.cell?,I];simpa using E
  cases E
theorem RS.PX {r:Id} {sz:gJ} {xs:List D} (np:Nat) (h:RS s a w L Z) (I:s.sto.get r=some (.orows sz xs)) (hf:(real call loop).flat xs=true):
  ∃L',RS ⟨s.env,s.sto.put r (some (.rows sz xs))⟩ a w L' Z/\Tr np s.sto (s.sto.put r (some (.rows sz xs))) w w L L' Z Z/\∀k,Same (aI w Z L s.sto) (aI w Z L' (s.sto.put r (some (.rows sz xs)))) k:=by
 have j:=h.obj r _ I;simp only[RO]at j;refine ⟨_,RS.swap (N:=λ_=>False) np h I (λz zs e=>⟨zs,e,rfl⟩) (λb E=> ?_) ?_⟩
 ·rcases E with E | ⟨E,_⟩
  ·exact .inl E
  cases E
 simp only[RO];refine ⟨λe=>(j.1 e).1,λb e=> ?_⟩;obtain ⟨vs,F,J,M,O,_⟩:=j.2 b e;exact ⟨vs,J,M,(AK J xs 0 F hf (by simpa using O)).1⟩
theorem Ml {s s2:St} {t:Nat} {j o2:Obj} (h:s.lay t [some j]=some s2):∃s1,s.lay t [some o2]=some s1/\s2=⟨s1.env,s1.sto.put (t,0) (some j)⟩:=by
 unfold St.lay bC.lay at h |-;split at h
 case h_2=>cases h
 rename_i sto e;injection h with h;subst h;split at e
 case h_2=>cases e
 rename_i old ho;split at e
 case isFalse=>cases e
 rename_i hc;injection e with e;subst e;simp only[hc,if_true];refine ⟨_,rfl,?_⟩;have E:t<s.sto.length:=(ax.1 ho).1;simp[bC.put,List.getElem?_set_self E]
theorem EB {np t:Nat} {s':St} {o:Oper} {ty:TypeId} {i:TypeInfo} {d:TypeDesc} {x:Operand} {x':VX} {r:AV} (h:RS s a w L Z) (ho:o.op= .load ty x) (hx:dr x x'=true) (hi:P.info? ty=some i) (a0:i.size=1) (hd:P.underlying ty=some d) (a1:tU d=false) (ht:t<np)
  (es:aK (real call loop) s (some t) (.lendF x')=some (r,s')):aZ P np o s a w L Z r s':=by
 simp only[aK]at es;split at es
 case h_2=>cases es
 rename_i q sz n off a3;split at es
 case h_2=>cases es
 rename_i sz' xs a4;split at es
 case h_2=>cases es
 rename_i cs I;have M:=aO h hx a3;split at es
 case h_2=>cases es
 rename_i E ys e;split at es
 case h_2=>cases es
 rename_i m t' hm J a5;injection J with J;subst J;split at es
 case isFalse=>cases es
 rename_i hc;obtain ⟨rfl,a6⟩:=hc;split at es
 case h_2=>cases es
 rename_i s2 a7;injection es with es;injection es with e1 e2;subst e1 e2;obtain ⟨s1,hl,rfl⟩:=Ml (o2:= .orows E ys) a7;simp only[RV]at M;obtain ⟨b,_,hb,hn,M⟩:=M;have a8:xs[n.toNat]? =some (.agg cs):=by
  simp only[real,aM.cF,Ag]at I;rw[if_pos hn]at I;exact I
 have O:cs[off]? =some (.own E ys):=by
  unfold cut at e;split at e
  ·injection e with e;have:=congrArg (·[0]?) e;simpa [List.getElem?_take,List.getElem?_drop]using this
  cases e
 obtain ⟨L',v,k1,k2,k3,k4⟩:=RS.q9 (np:=np) h a4 hn a8 a6 O (by omega) hb hl ht;have S:s1.sto.get (t,0)=some (.orows E ys):=by rw[dX (eU hl).1];simp
 obtain ⟨L2,j1,j2,j3⟩:=RS.PX np k1 S a5;have U:(loadVar ty ⟨b,n.toNat*sz.2+off,none⟩).run P w= .ok v w:=by
  rcases qk (P:=P) (w:=w) (t:=ty) (vs:=[v]) hi hd (by rw[a0];rfl) (λj u V=>by
   cases j with
   | zero=>simp at V;subst V;simpa using k3
   | succ j=>simp at V)with ⟨q1,q2⟩ | ⟨q1,q2⟩
  ·rw[a1]at q1;cases q1
  simpa using q2
 refine aZ.value (eJ (m:=Instr.loadAt ty (a.eval x)) (by unfold execOp;rw[ho]) (u:=v) ?_) j1 (k2.trans j2) (jU (c:=aI w Z L' s1.sto) (c':=aI w Z L2 (s1.sto.put (t,0) (some (.rows E ys)))) (ko.refl _ _) _ _ (λp _=>j3 p) k4);rw[M];simp[Instr.loadAt,Instr.sureAddr,U]
theorem B_ {s:bC} {q r:Id} {J o2:Option Obj} (h:r≠q):((s.put q J).put r o2).put q none=(s.put r o2).put q none:=by
 have cell:∀(s:bC) (p:Id) (o:Option Obj) (i:Nat),(s.put p o)[i]? =if i=p.1 then (s[i]?).map (·.set p.2 o)else s[i]? :=λs p o i=>by
  unfold bC.put;split
  ·rename_i l hl;rw[List.getElem?_set];by_cases e:p.1=i
   ·subst e;obtain ⟨M,O⟩:=ax.1 hl;simp[M,O]
   rw[if_neg e,if_neg (λx=>e x.symm)]
  rename_i hl;by_cases e:i=p.1
  ·subst e;rw[if_pos rfl,hl];rfl
  rw[if_neg e]
 apply List.ext_getElem?;intro i;simp only[cell];by_cases E:i=q.1
 ·by_cases I:i=r.1
  ·simp only[if_pos E,if_pos I];cases s[i]? with
   | none=>rfl
   | some l=>
    have S:r.2≠q.2:=λx=>h (Prod.ext (I.symm.trans E) x)
    simp only[Option.map_some];congr 1;apply List.ext_getElem?;intro j;simp only[List.getElem?_set,List.length_set];by_cases U:q.2=j<;>by_cases a2:r.2=j<;>simp_all
  simp only[if_pos E,if_neg I];cases s[i]? with
  | none=>rfl
  | some l=>simp
 simp only[if_neg E]
theorem rq {np:Nat} {r:Id} {s':St} (h:RS s a w L Z) (e:iN (real call loop) r s=some s'):∃L',RS s' a w L' Z/\Tr np s.sto s'.sto w w L L' Z Z:=by
 unfold iN at e;split at e
 case h_2=>injection e with e;subst e;exact ⟨L,h,Tr.refl _ _ _ _ _⟩
 rename_i sz xs i off q a0 j;have M:=h.obj r _ j;simp only[RO]at M;obtain ⟨b,vs,pre,a1,post,A1,A2,B1,B2,v,h1,h2,h3,h4,_⟩:=M;have O:∀cs,(real call loop).cF xs i=some (.agg cs)->xs[i.toNat]? =some (.agg cs):=λcs E=>by
  simp only[real,aM.cF,Ag]at E;rw[if_pos h4]at E;exact E
 split at e
 ·rename_i U ys cs I E;split at e
  case isFalse=>cases e
  rename_i J;subst J;split at e
  case h_2=>cases e
  rename_i cs' hl;injection e with e;subst e;exact RS.kH (np:=np) h j I (O _ E) hl
 ·rename_i U ys cs I E;split at e
  case h_2=>cases e
  rename_i hf;split at e
  case isFalse=>cases e
  rename_i J;subst J;split at e
  case h_2=>cases e
  rename_i cs' hl;injection e with e;subst e;have S:r≠q:=λe=>by rw[e,I]at j;injection j with j;cases j
  obtain ⟨L1,k1,k2,_⟩:=RS.JT np h I hf;obtain ⟨L2,V,m2⟩:=RS.kH (np:=np) k1 (by show (s.sto.put q _).get r=_;rw[bU _ S];exact j) (cR _ I) (O _ E) hl;have he:(⟨s.env,(s.sto.put q (some (.orows a0 ys))).put r (some (.orows sz (xs.set i.toNat (.agg cs'))))⟩:St).kill q=(⟨s.env,s.sto.put r (some (.orows sz (xs.set i.toNat (.agg cs'))))⟩:St).kill q:=by
   simp only[St.kill];congr 1;congr 1;exact B_ S
  simp only at V m2;rw[he]at V m2;exact ⟨L2,V,k2.trans m2⟩
 cases e
theorem oo {np:Nat} {x:VX} {s':St} (h:RS s a w L Z) (e:kH (real call loop) x s=some s'):∃L',RS s' a w L' Z/\Tr np s.sto s'.sto w w L L' Z Z:=by
 unfold kH at e;split at e
 case h_2=>cases e
 rename_i r E I j _;exact rq h e
theorem aZ.pre {np:Nat} {o:Oper} {s1:St} {e:Loc} {x:AV} {s':St} (t:Tr np s.sto s1.sto w w L e Z Z) (h:aZ P np o s1 a w e Z x s'):aZ P np o s a w L Z x s':=
 λK Q hk=>h K Q λu w' L' Z' j k2 E=>hk u w' L' Z' j (t.trans k2) E
end
end
section
section
variable {P:Program} {call:dh} {loop:di}
variable {s:St} {a:Act} {w:World} {L:Loc} {Z:Nat->Prop}
theorem JV {o:aM} (s:St):∀{vs:List AV} {ds:List D},dL vs=some ds->BT o s vs=some (vs,s)/\vs.all AV.one=true/\vs=ds.map .d
 | [],ds,h=>by simp only[dL]at h;injection h with h;subst h;exact ⟨rfl,rfl,rfl⟩
 | v::vs,ds,h=>by
  cases v with
  | d x=>
   simp only[dL]at h;split at h
   case h_2=>cases h
   rename_i xs e;injection h with h;subst h;obtain ⟨j,E,h3⟩:=JV (o:=o) s e;refine ⟨by simp only[BT,fz,j],by simp[AV.one,E],by rw[h3];rfl⟩
  | _=>simp[dL]at h
theorem Ca {dst:Option Nat} {n:Nat} {x y:VX} {r:AV} {s':St} (e:aK (real call loop) s dst (.storeR n x y)=some (r,s')):
  ∃p v,ev s.env x=some p/\ev s.env y=some v/\r= .bare/\storeAt (real call loop) s n p v=some s':=by
 simp only[aK]at e;split at e
 case h_2=>cases e
 rename_i q sz i off v O S;split at e
 case h_2=>cases e
 rename_i ds j;split at e
 case isTrue=>cases e
 rename_i hn;obtain ⟨U,k2,V⟩:=JV (o:=real call loop) s j;split at e
 case h_2=>cases e
 rename_i sz' xs hq;split at e
 case isFalse=>cases e
 rename_i E;split at e
 case h_2=>cases e
 rename_i el J;split at e
 case isFalse=>cases e
 rename_i hc;split at e
 case h_2=>cases e
 rename_i cs hl;split at e
 case h_2=>cases e
 rename_i e' M;injection e with e;injection e with e1 e2;refine ⟨_,v,O,S,e1.symm,?_⟩;have I:v.cells.length=n:=by
  have:v.cells.length=ds.length:=by rw[V];simp
  omega
 unfold storeAt;simp only[I,k2,hq,U,j,J,hl,M,E,hc,if_true,ne_eq,not_true,decide_false,Bool.not_true,Bool.or_self,if_false,Bool.false_eq_true];rw[<-e2,E]
theorem ye {dst:Option Nat} {sz:gJ} {bytes:Nat} {x y:VX} {r:AV} {s':St} (e:aK (real call loop) s dst (.appendE sz bytes x y)=some (r,s')):
  aK (real call loop) s dst (.append sz bytes x y)=some (r,s'):=by
 simp only[aK]at e |-;split at e
 case h_2=>cases e
 rename_i b t j E;rw[j,E];exact e
theorem Dq {sto:bC} {cs:List AV} {off:Nat} {ds:List D} {q:Id} {E:gJ} (h:Ey sto cs off=some (ds,q,E)):
  ∃u e,cs[off]? =some (.arr q E none u)/\dL (cs.set off (.d (.int .i64 0)))=some e/\e.all dO=true/\ds=e.set off (.own E [])/\0<E.2/\(sto.get q).isSome:=by
 unfold Ey at h;split at h
 case h_2=>cases h
 rename_i q' S u hc;split at h
 case h_2=>cases h
 rename_i e O;split at h
 ·rename_i m z xs U I J;injection h with h;injection h with M j;injection j with j h3;subst M j h3;exact ⟨u,e,hc,O,I,rfl,by omega,by rw[J];rfl⟩
 ·rename_i m z xs U I J;injection h with h;injection h with M j;injection j with j h3;subst M j h3;exact ⟨u,e,hc,O,I,rfl,by omega,by rw[J];rfl⟩
 cases h
theorem Ho {np t:Nat} {s':St} {ob:Obj} {o:Go.Obj} {w':World} (h:RS s a w L Z) (hl:s.lay t [some ob]=some s') (ht:t<np) (O:w'.heap=w.heap.push o) (a0:w'.os=w.os) (a1:w'.tape=w.tape) (a3:w'.output=w.output)
  (a4:∀c:Cx,c.w=w'->c.Z=Z->c.L (t,0)=some w.heap.size->(∀k,¬c.L.nest (t,0) k)->(∀q,(s.sto.get q).isSome->Same (aI w Z L s.sto) c q)->ko w c.w Z c.Z->RO c (t,0) ob):
  ∃L',RS s' a w' L' Z/\Tr np s.sto s'.sto w w' L L' Z Z/\L' (t,0)=some w.heap.size/\(∀q,(s.sto.get q).isSome->Same (aI w Z L s.sto) (aI w' Z L' s'.sto) q)/\ko w w' Z Z:=by
 have hk:∀b,b<w.heap.size->some b≠some w.heap.size->w'.heap[b]? =w.heap[b]? :=by
  intro b j _;rw[O,Array.getElem?_push,if_neg (by omega)]
 have a5:∀b,some w.heap.size=some b->¬Z b/\¬aY s.sto L b/\b<w'.heap.size/\(w.heap.size<=b\/aY s.sto L b):=by
  intro b j;injection j with j;subst j;refine ⟨λhz=> ?_,λhl=> ?_,by simp[O],.inl (Nat.le_refl _)⟩
  ·have:=(h.dis _ hz).1;omega
  obtain ⟨q,ob',S,U⟩:=hl;have:=h.fJ S U;omega
 have E:=dX (eU hl).1;have hfree:=gW (eU hl).1;have hsame:∀q,(s.sto.get q).isSome->Same (aI w Z L s.sto) (aI w' Z (fM L (t,0) (some w.heap.size) λ_=>False) s'.sto) q:=by
  intro q V;have I:q.1≠t:=λe=>by rw[hfree q e]at V;cases V
  refine ⟨tR L _ _ (λe=>I (by rw[e])),λk=> ?_,λsz xs k=>⟨xs,?_,rfl⟩,λb j hs=> ?_⟩
  ·show (s'.sto.get q).isSome;rw[E,if_neg I];exact k
  ·show (s'.sto.get q).bind Obj.rw=_;rw[E,if_neg I];exact k
  obtain ⟨o',J⟩:=Option.isSome_iff_exists.1 V;exact dP (hk b (h.block_lt J j) (by intro e;injection e with e;have:=h.block_lt J j;omega))
 have M:ko w w' Z Z:=λb j=>⟨j,hk b (h.dis b j).1 (by intro e;injection e with e;have:=(h.dis b j).1;omega)⟩
 obtain ⟨S,U,_,_⟩:=RS.HM (s0:=s) (np:=np) (nb:=some w.heap.size) (N:=λ_=>False) (w':=w') h (Tr.refl _ _ _ _ _) hl ht a0 a1 a3 (by rw[O];simp) hk a5 (λ_ _ e=>e.elim)
  (a4 (aI w' Z (fM L (t,0) (some w.heap.size) λ_=>False) s'.sto) rfl rfl (cK _ _ _ _) (λk=>by show¬(fM _ _ _ _).nest _ _;rw[jM];exact id) hsame M)
 exact ⟨_,S,U,cK _ _ _ _,hsame,M⟩
theorem Dr {np t:Nat} {s':St} {o:Oper} {ty e:TypeId} {i:TypeInfo} {z:Value} {x:Operand} {x':VX} {off:Nat} {r:AV}
  (h:RS s a w L Z) (ho:o.op= .buildSlice ty 1 #[(0,x)]) (hx:dr x x'=true) (hu:P.underlying ty=some (.slice e)) (hi:P.info? e=some i) (hz:i.zero=some z) (b2:z.cells.size=i.size) (b3:0<i.size)
  (b4:i.size<=2^24) (ht:t<np)
  (es:aK (real call loop) s (some t) (.buildH (e,i.size) off x')=some (r,s')):aZ P np o s a w L Z r s':=by
 simp only[aK]at es;split at es
 case h_2=>cases es
 rename_i cs t' ag S;injection S with S;subst S;split at es
 case h_2=>cases es
 rename_i ds q I a0;split at es
 case isFalse=>cases es
 rename_i a8;split at es
 case h_2=>cases es
 rename_i s3 hl;injection es with es;injection es with am an;subst am an;obtain ⟨u,E,hc,hd,U,rfl,ao,ap⟩:=Dq a0;have V:=aO h hx ag;simp only[RV]at V;obtain ⟨vs,V,aw⟩:=V;obtain ⟨b6,a1⟩:=bJ.1 aw;obtain ⟨_,_,a3⟩:=JV (o:=real call loop) s hd;have b7:E.length=cs.length:=by have:=congrArg List.length a3;simpa using this.symm
 have b8:E.length=i.size:=by simpa using a8
 have b5:off<cs.length:=(ax.1 hc).1;have b9:vs.length=i.size:=by omega
 have hcell:∀(j:Nat) (d:D) (v:Value),j≠off->E[j]? =some d->vs[j]? =some v->RD w Z d [v]:=λj d v hj J M=>by
  have az:cs[j]? =some (.d d):=by
   have:=congrArg (·[j]?) a3;simp only[List.getElem?_map,J,Option.map_some]at this;rw[List.getElem?_set_ne (λe=>hj e.symm)]at this;exact this
  have:=a1 j _ v az M;simpa only [RV]using this
 have a9:fL w Z (E.take off) (vs.take off):=dA.2 ⟨by simp;omega,λj d v J M=>by
  rw[List.getElem?_take]at J M;split at J
  ·rename_i hj;rw[if_pos hj]at M;exact hcell j d v (by omega) J M
  cases J⟩
 have hpost:fL w Z (E.drop (off+1)) (vs.drop (off+1)):=dA.2 ⟨by simp;omega,λj d v J M=>by
  rw[List.getElem?_drop]at J M;exact hcell _ d v (by omega) J M⟩
 have a4:(E.take off).all dO=true/\(E.drop (off+1)).all dO=true:=by
  constructor<;>(rw[List.all_eq_true]at U |-;intro d a5)
  ·exact U d (List.mem_of_mem_take a5)
  exact U d (List.mem_of_mem_drop a5)
 obtain ⟨v,a6⟩:∃v,vs[off]? =some v:=⟨_,bA (by omega)⟩
 have b0:=a1 off _ v hc a6;have b1:(a.eval x).cells.size=i.size:=by rw[V];simp[Value.cells];omega
 have aa:(execOp a.eval o).run P w= .ok (.value (.slice (some ⟨w.heap.size,0,none⟩) 1 1)) { w with heap:=w.heap.push (.cells vs.toArray e) }:=by
  refine eJ (m:=Instr.buildSlice ty 1 #[(0,a.eval x)]) (by unfold execOp;rw[ho];simp) ?_;unfold Instr.buildSlice;have h0:¬(i.size=0):=by omega
  have hn:¬(16777216<i.size):=by omega
  simp only[Sem.run_bind,run_underlying hu,Result.andThen,sizeOf,typeInfo,Sem.run_pure];have O:Instr.fill (λk=>some (k*i.size,i.size)) ((Array.range (1*i.size)).map (λj=>z.cells[j%z.cells.size]!)) [(0,a.eval x)]=some vs.toArray:=by
   rw[qA (off:=0) (by rw[b1];simp) (by simp;omega)];simp only[Instr.fill,Option.some.injEq];apply Array.ext';rw[V];simp[Value.cells];have:vs.length=i.size:=by omega
   rw[this];simp
  simp[hi,h0,hn,newRow,zeroValue,typeInfo,hz]at O |-;simp[O]
 have ac:E.set off (.own I [])=E.take off++ .own I []::E.drop (off+1):=List.set_eq_take_append_cons_drop.trans (if_pos (by omega));obtain ⟨L',k1,k2,k3,k4,k5⟩:=Ho (np:=np) (w':={ w with heap:=w.heap.push (.cells vs.toArray e) }) (o:= .cells vs.toArray e) h hl ht rfl rfl rfl rfl (λc c1 c2 c3 c4 c5 c6=>by
  have a7:∀{xs:List D} {us:List Value},fL w Z xs us->fL c.w c.Z xs us:=λhh=>pZ c6 _ _ hh
  simp only[RO];refine ⟨w.heap.size,vs.toArray,E.take off,[],E.drop (off+1),[],[],[],[],v,c3,by rw[c1];simp,by simp;omega,Int.le_refl _,by rw[ac];rfl,by simp;omega,by simp;omega,by simp[jo],?_,?_,by simp[jo],by simpa using a6,?_,ao,by simp,λk=> ?_⟩
  ·have:=qJ a4.1 (a7 a9);simpa using this
  ·have:=qJ a4.2 (a7 hpost);have e1:(vs.toArray.toList.drop ((0:Int).toNat*i.size+off+1)).take (i.size-(off+1))=vs.drop (off+1):=by
    simp only[Int.toNat_zero,Nat.zero_mul,Nat.zero_add];rw[List.take_of_length_le (by simp;omega)]
   rw[e1];exact this
  ·have hm:=jU (c:=aI w Z L s.sto) (c':=c) c6 (.arr q I none u) v (λp U=>by
    have:p=q:=by simpa [AV.refs]using U
    subst this;exact c5 p ap) b0
   simp only[RV]at hm |-;obtain ⟨A,n,cap,zs,q1,q2,q3,q4,q5,q6,q7,q8⟩:=hm;exact ⟨A,n,cap,zs,q1,q2,λe=>(by cases e),q4,q5,q6,q7,q8⟩
  constructor
  ·intro hk;exact (c4 k hk).elim
  intro hk;simp at hk)
 refine aZ.value aa k1 k2 ?_;simp only[RV];have ae:s3.sto.get (t,0)=some (.hrows (e,i.size) [.agg (E.set off (.own I []))] 0 off q I):=by rw[dX (eU hl).1];simp
 refine ⟨_,1,1,[.agg (E.set off (.own I []))],rfl,⟨Nat.le_refl _,by unfold maxLen;omega⟩,λ_=>rfl,by show (s3.sto.get (t,0)).bind Obj.rw=_;rw[ae];rfl,λ_=>rfl,λx m e=>(by cases e),λe=>(by rw[k3]at e;cases e),λb hb=> ?_⟩;have:w.heap.size=b:=by have:some w.heap.size=some b:=k3.symm.trans hb;injection this
 subst this;right;refine ⟨by simp[br],?_⟩;simp only[br,b_];simp;omega
theorem Cb {np t:Nat} {s':St} {o:Oper} {ty e:TypeId} {i:TypeInfo} {z:Value} {x y:Operand} {x' y':VX} {r:AV} (h:RS s a w L Z)
  (ho:o.op= .call { callee:= .builtin .append,args:= #[x,y],argTypes:= #[ty,ty] }) (E:dr x x'=true) (I:dr y y'=true)
  (J:P.underlying ty=some (.slice e)) (hi:P.info? e=some i) (M:i.zero=some z) (j:z.cells.size=i.size) (O:t<np)
  (es:aK (real call loop) s (some t) (.appendH (e,i.size) i.bytes x' y')=some (r,s')):aZ P np o s a w L Z r s':=by
 simp only[aK]at es;split at es
 case h_2=>cases es
 rename_i q sz u _;split at es
 case h_2=>cases es
 rename_i s1 S;obtain ⟨L2,U,V⟩:=rq (np:=np) h S;exact aZ.pre V (tu U ho E I J hi M j O es)
end
end
end Go.Vi
