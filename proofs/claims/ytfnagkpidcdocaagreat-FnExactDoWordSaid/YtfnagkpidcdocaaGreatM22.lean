import Derived.Test.YtfnagkpidcdocaaGreatM21
set_option linter.all false
namespace T2
open Go Go.Vi
def QV (n i:Int) (x:D):Prop:=∃op N s to,x= .agg [.int .i64 op,.int .i64 N,.str s,.int .i64 to]/\1<=op/\op<=12/\0<=tk op N/\tk op N<=400/\((op=9\/op=10)->i<to/\to<n)
def pB (n:Int):Lq->Int->Prop
 | [],_=>True
 | x::xs,i=>QV n i x/\pB n xs (i+1)
theorem lu {H:List Int} {n a h j:Int} (I:(H.length:Int)=n) (J:0<=a) (M:a<n) (g0:0<=j) (E:gt H j≠ -1):gt (dR H a h).1 j=gt H j:=by
 unfold dR;split
 ·rename_i e;show gt (H.set a.toNat h) j=_;rw[lq I J M g0];split
  ·rename_i O;rw[O]at E;exact absurd e E
  rfl
 rfl
theorem nV {c:List Int×Bool} {K:List Int} (h:cm c=some K):c.2=true/\K=c.1:=by
 unfold cm at h;split at h
 ·rename_i e;injection h with h;exact ⟨e,h.symm⟩
 cases h
section
variable {o:aM}
theorem wM {n op N to i:Int} {H K:List Int} (E:(H.length:Int)=n) (h0:0<=i) (J:(op=9\/op=10)->i<to/\to<n) (e:bW o n H op N to i=some K):(K.length:Int)=n/\∀j,0<=j->gt H j≠ -1->gt K j=gt H j:=by
 unfold bW at e;split at e; · cases e
 split at e; · cases e
 split at e
 ·split at e
  ·cases e;exact ⟨E,λ_ _ _=>rfl⟩
  cases e
 split at e; · cases e;exact ⟨E,λ_ _ _=>rfl⟩
 split at e
 ·rename_i S;obtain ⟨_,rfl⟩:=nV e;have:=J (.inr S);exact ⟨by rw[gk];exact E,λj g I=>lu E (by omega) (by omega) g I⟩
 split at e
 ·rename_i V;have hb:=J (.inl V);cases O:cm (dR H to (gt H i))with
  | none=>rw[O]at e;cases e
  | some M=>
   rw[O]at e;obtain ⟨_,rfl⟩:=nV O
   replace e:(if i+1<n then cm (dR (dR H to (gt H i)).1 (i+1) (o.ar .sub .i64 (gt H i) 1))else none)=some K:=e
   by_cases hc:i+1<n
   ·rw[if_pos hc]at e;obtain ⟨_,rfl⟩:=nV e;refine ⟨by have q1:=gk (H:=(dR H to (gt H i)).1) (a:=i+1) (h:=o.ar .sub .i64 (gt H i) 1);have q2:=gk (H:=H) (a:=to) (h:=gt H i);omega,λj g I=> ?_⟩;have U:=lu (h:=gt H i) E (by omega) (by omega) g I (a:=to);rw[lu (n:=n) (by rw[gk];exact E) (by omega) (by omega) g (by rw[U];exact I),U]
   rw[if_neg hc]at e;cases e
 split at e
 ·obtain ⟨_,rfl⟩:=nV e;exact ⟨by rw[gk];exact E,λj g I=>lu E (by omega) (by omega) g I⟩
 cases e
theorem GF {n:Int}:∀(xs:Lq) (i:Int) (H:List Int),0<=i->(H.length:Int)=n->i+xs.length=n->pB n xs i->∀j,i<=j->j<n->300<gt H j->qO o n xs i H=false:=by
 intro xs;induction xs with
 | nil=>intro i H I J hl _ j h1 M _;simp only[List.length_nil]at hl;omega
 | cons x xs ih=>
  intro i H I J hl O j h1 M S;obtain ⟨⟨op,N,s,to,rfl,o1,o2,t1,t2,U⟩,E⟩:=O;rw[gN];simp only[List.length_cons]at hl;cases e:bW o n H op N to i with
  | none=>rfl
  | some K=>
   by_cases V:j=i
   ·subst V;exfalso;unfold bW at e;by_cases c:gt H j<tk op N
    ·rw[if_pos c]at e;cases e
    rw[if_neg c,if_pos S]at e;cases e
   obtain ⟨k1,k2⟩:=wM J I U e;exact ih (i+1) K (by omega) k1 (by omega) E j (by omega) M (by rw[k2 j (by omega) (by omega)];exact S)
theorem vZ {n a h:Int} {H:List Int} (E:a<n) (hh:h<=300) (I: -1<=gt H a):bp n H a h=cm (dR H a h):=by
 unfold bp dR;rw[if_neg (by omega),if_neg (by omega)];by_cases e:gt H a= -1
 ·rw[if_pos (by omega),if_pos e];rfl
 rw[if_neg (by omega),if_neg e];by_cases j:gt H a=h
 ·rw[if_pos j];unfold cm;rw[if_pos (by simp[j])]
 rw[if_neg j];unfold cm;rw[if_neg (by simp[j])]
theorem jB {n a h:Int} {H K:List Int} (e:bp n H a h=some K):(K=H.set a.toNat h/\gt H a<0/\h<=300/\a<n)\/(K=H/\gt H a=h/\h<=300/\a<n):=by
 unfold bp at e;split at e; · cases e
 split at e; · cases e
 split at e
 ·injection e with e;exact .inl ⟨e.symm,by assumption,by omega,by omega⟩
 split at e
 ·injection e with e;exact .inr ⟨e.symm,by assumption,by omega,by omega⟩
 cases e
def inv (n:Int) (H:List Int):Prop:=(H.length:Int)=n/\∀j,0<=j->j<n-> -1<=gt H j/\gt H j<=300
theorem pC {n a h:Int} {H K:List Int} (hi:inv n H) (E:0<=a) (hh:0<=h) (e:bp n H a h=some K):inv n K:=by
 rcases jB e with ⟨rfl,I,J,h3⟩ | ⟨rfl,_,_,_⟩
 ·refine ⟨by rw[List.length_set];exact hi.1,λj g0 g1=> ?_⟩;rw[lq hi.1 E h3 g0];split
  ·omega
  exact hi.2 j g0 g1
 exact hi
theorem bind_comm {n a b h k:Int} {H:List Int} (hi:inv n H) (E:0<=a) (I:a<n) (S:0<=b) (J:b<n) (hh:0<=h/\h<=300) (hk:0<=k/\k<=300) (U:h≠k):
  (bp n H a h).bind (λK=>bp n K b k)=(bp n H b k).bind (λK=>bp n K a h):=by
 have key:∀(a b h k:Int),0<=a->a<n->0<=b->b<n->(0<=h/\h<=300)->(0<=k/\k<=300)->h≠k->∀K,bp n H a h=some K->∀M,bp n K b k=some M->(bp n H b k).bind (λK=>bp n K a h)=some M:=by
  intro a b h k E I S J hh hk U K j M e;have O:a≠b:=by
   intro O;subst O;rcases jB j with ⟨rfl,_,_,_⟩ | ⟨rfl,g,_,_⟩
   ·have hg:gt (H.set a.toNat h) a=h:=by rw[lq hi.1 E I E,if_pos rfl]
    rcases jB e with ⟨_,g2,_⟩ | ⟨_,g2,_⟩<;>omega
   rcases jB e with ⟨_,g2,_⟩ | ⟨_,g2,_⟩<;>omega
  have mk:∀(L:List Int) (c v:Int),c<n->v<=300->gt L c<0->bp n L c v=some (L.set c.toNat v):=by
   intro L c v h1 h2 h3;unfold bp;rw[if_neg (by omega),if_neg (by omega),if_pos h3]
  have V:∀(L:List Int) (c v:Int),c<n->v<=300->0<=v->gt L c=v->bp n L c v=some L:=by
   intro L c v h1 h2 h3 h4;unfold bp;rw[if_neg (by omega),if_neg (by omega),if_neg (by omega),if_pos h4]
  rcases jB j with ⟨rfl,g1,_,_⟩ | ⟨rfl,g1,_,_⟩
  ·have hg:gt (H.set a.toNat h) b=gt H b:=by rw[lq hi.1 E I S,if_neg (by omega)]
   rcases jB e with ⟨rfl,g2,_,_⟩ | ⟨rfl,g2,_,_⟩
   ·rw[mk H b k J hk.2 (by omega),Option.bind_some,mk _ a h I hh.2 (by rw[lq hi.1 S J E,if_neg O];exact g1),List.set_comm _ _ (by omega)]
   rw[V H b k J hk.2 hk.1 (by omega),Option.bind_some,j]
  rcases jB e with ⟨rfl,g2,_,_⟩ | ⟨rfl,g2,_,_⟩
  ·rw[e,Option.bind_some,V _ a h I hh.2 hh.1 (by rw[lq hi.1 S J E,if_neg O];exact g1)]
  rw[e,Option.bind_some,j]
 cases j:(bp n H a h).bind (λK=>bp n K b k)with
 | some M=>
  cases c:bp n H a h with
  | none=>rw[c]at j;cases j
  | some K=>rw[c]at j;exact (key a b h k E I S J hh hk U K c M j).symm
 | none=>
  cases e:(bp n H b k).bind (λK=>bp n K a h)with
  | none=>rfl
  | some M=>
   cases c:bp n H b k with
   | none=>rw[c]at e;cases e
   | some K=>
    rw[c]at e;have:=key b a k h S J E I hk hh (Ne.symm U) K c M e;rw[j]at this;cases this
variable (ho:aQ cu bw o)
include ho
theorem run_eq {n:Int} (a6:n<=1048576):∀(xs:Lq) (i:Int) (H:List Int),0<=i->inv n H->i+xs.length=n->pB n xs i->qN o n xs i H=qO o n xs i H/\(qO o n xs i H=true->Bh o n xs i H=zk o n xs i H):=by
 intro xs;induction xs with
 | nil=>intro i H _ _ _ _;exact ⟨rfl,λ_=>rfl⟩
 | cons x xs ih=>
  intro i H h0 hi hl a4;obtain ⟨⟨op,N,s,to,rfl,o1,o2,t1,t2,a0⟩,U⟩:=a4;simp only[List.length_cons]at hl;have a7:=hi.2 i h0 (by omega);rw[Ec,gN,HZ,ic];by_cases V:gt H i<0
  ·have O:bW o n H op N to i=none:=by unfold bW;rw[if_pos (by omega)]
   rw[if_pos V,O];exact ⟨rfl,λh=>by cases h⟩
  rw[if_neg V];have same:∀(r:Option (List Int)),cN o n H op N to i=r->bW o n H op N to i=r->(∀K,r=some K->inv n K)->(match cN o n H op N to i with | none=>false | some K=>qN o n xs (i+1) K)=(match bW o n H op N to i with | none=>false | some K=>qO o n xs (i+1) K)/\((match bW o n H op N to i with | none=>false | some K=>qO o n xs (i+1) K)=true->(match cN o n H op N to i with | none=>H | some K=>Bh o n xs (i+1) K)=match bW o n H op N to i with | none=>H | some K=>zk o n xs (i+1) K):=by
   intro r h1 h2 h3;rw[h1,h2];cases r with
   | none=>exact ⟨rfl,λ_=>rfl⟩
   | some K=>exact ih (i+1) K (by omega) (h3 K rfl) (by omega) U
  by_cases j:gt H i<tk op N
  ·exact same none (by unfold cN;rw[if_pos j]) (by unfold bW;rw[if_pos j]) (λK h=>by cases h)
  have a1:o.ar .sub .i64 (gt H i) 1=gt H i-1:=gj ho (by omega) (by omega);have hs2:o.ar .sub .i64 (gt H i) (tk op N)=gt H i-tk op N:=gj ho (by omega) (by omega);by_cases E:op=12
  ·subst E;refine same (if gt H i=1 then some H else none) (by unfold cN;rw[if_neg j,if_neg (by omega),if_neg (by omega),if_neg (by omega),if_pos rfl]) (by unfold bW;rw[if_neg j,if_neg (by omega),if_pos rfl]) λK h=> ?_
   split at h
   ·cases h;exact hi
   cases h
  by_cases J:op=11
  ·subst J;exact same (some H) (by unfold cN;rw[if_neg j,if_neg (by omega),if_neg (by omega),if_pos rfl]) (by unfold bW;rw[if_neg j,if_neg (by omega),if_neg E,if_pos rfl]) λK h=>by cases h;exact hi
  by_cases S:op=10
  ·subst S;have hb:=a0 (.inr rfl);have ht:=hi.2 to (by omega) (by omega);refine same (bp n H to (gt H i)) (by unfold cN;rw[if_neg j,if_neg (by omega),if_pos rfl,if_neg (by omega)]) (by unfold bW;rw[if_neg j,if_neg (by omega),if_neg E,if_neg J,if_pos rfl,vZ (by omega) (by omega) ht.1]) λK h=>pC hi (by omega) (by omega) h
  by_cases h9:op=9
  ·subst h9;have hb:=a0 (.inl rfl);have ht:=hi.2 to (by omega) (by omega);have a8:tk 9 N=1:=by unfold tk;simp
   refine same ((bp n H (i+1) (gt H i-1)).bind λK=>bp n K to (gt H i)) (by unfold cN;rw[if_neg j,if_pos rfl,if_neg (by omega),a1]) ?_ λK h=> ?_
   ·unfold bW;rw[if_neg j,if_neg (by omega),if_neg E,if_neg J,if_neg S,if_pos rfl,bind_comm (a:=i+1) (b:=to) (h:=gt H i-1) (k:=gt H i) hi (by omega) (by omega) (by omega) (by omega) (by omega) (by omega) (by omega),a1,<-vZ (n:=n) (a:=to) (h:=gt H i) (by omega) (by omega) ht.1];cases c:bp n H to (gt H i)with
    | none=>rfl
    | some K=>
     rw[Option.bind_some,Option.bind_some,if_pos (by omega),vZ (n:=n) (a:=i+1) (h:=gt H i-1) (by omega) (by omega) ((pC hi (by omega) (by omega) c).2 (i+1) (by omega) (by omega)).1]
   cases c:bp n H (i+1) (gt H i-1)with
   | none=>rw[c]at h;cases h
   | some M=>rw[c]at h;exact pC (pC hi (by omega) (by omega) c) (by omega) (by omega) h
  have a5:lv op=1:=by unfold lv;rw[if_pos (by omega)]
  have a3:o.ar .add .i64 (gt H i-tk op N) 1=gt H i-tk op N+1:=dm ho (by omega) (by omega);have hI:cN o n H op N to i=bp n H (i+1) (gt H i-tk op N+1):=by unfold cN;rw[if_neg j,if_neg h9,if_neg S,if_neg J,if_neg E,hs2,a3]
  have O:bW o n H op N to i=if i+1<n then cm (dR H (i+1) (gt H i-tk op N+1))else none:=by unfold bW;rw[if_neg j,if_neg (by omega),if_neg E,if_neg J,if_neg S,if_neg h9,hs2,a5,a3]
  by_cases I:i+1<n
  ·rw[if_pos I]at O;have ht:=hi.2 (i+1) (by omega) I;by_cases hv:gt H i-tk op N+1<=300
   ·exact same _ hI (by rw[O,vZ I hv ht.1]) λK h=>pC hi (by omega) (by omega) h
   rw[hI,O];have:bp n H (i+1) (gt H i-tk op N+1)=none:=by unfold bp;rw[if_neg (by omega),if_pos (by omega)]
   rw[this];unfold dR;by_cases e:gt H (i+1)= -1
   ·rw[if_pos e];have hh:=GF (o:=o) xs (i+1) (H.set (i+1).toNat (gt H i-tk op N+1)) (by omega) (by rw[List.length_set];exact hi.1) (by omega) U (i+1) (by omega) I (by rw[lq hi.1 (by omega) I (by omega),if_pos rfl];omega);exact ⟨hh.symm,λh=>absurd (hh.symm.trans h) (by simp)⟩
   rw[if_neg e,H8 (by simp;omega)];exact ⟨rfl,λh=>by cases h⟩
  rw[if_neg I]at O;exact same none (by rw[hI];unfold bp;rw[if_pos (by omega)]) O λK h=>by cases h
theorem Fs {xs:Lq} (J:1<=(xs.length:Int)) (I:(xs.length:Int)<=1048576) (e:pB xs.length xs 0):Fp o xs=D5 o xs/\(D5 o xs=true->hF o xs=D6 o xs):=by
 have E:=wL (n:=(xs.length:Int)) (by omega);refine run_eq ho I xs 0 _ (Int.le_refl _) ⟨by rw[List.length_set];exact E,λj g0 g1=> ?_⟩ (by omega) e;rw[show ((0:Nat))=(0:Int).toNat from rfl,lq E (Int.le_refl _) (by omega) g0];split
 ·omega
 have:gt (H0 xs.length) j= -1:=by
  unfold gt H0;rw[List.getD_eq_getElem?_getD,List.getElem?_replicate,if_pos (by omega)];rfl
 omega
theorem QW {xs:Lq} (j:1<=(xs.length:Int)) (E:(xs.length:Int)<=1048576) (e:pB xs.length xs 0):Fp o xs=D5 o xs:=(Fs ho j E e).1
end
set_option maxRecDepth 100000
set_option maxHeartbeats 4000000
def v7 (x:D):Prop:=∃s a b xs,x= .agg [.str s,.int .i64 a,.int .i64 b,.lst xs]/\(s.size:Int)<=1048576/\(xs.length:Int)<=1048576/\∀y∈xs,CU y/\∀op N t to,y= .agg [.int .i64 op,.int .i64 N,.str t,.int .i64 to]->(t.size:Int)<=1048576
def uY (xs:Lq) (s:By) (i:Int):Bool:=match xs[i.toNat]? with | some (.agg (.str t::_))=>decide (t=s) | _=>false
def iB (xs:Lq) (s:By):Int:=gL (uY xs s) 0 xs.length
theorem Nv {xs:Lq} {s t:By} {i a b:Int} {l:Lq} (h:xs[i.toNat]? =some (.agg [.str t,.int .i64 a,.int .i64 b,.lst l])):uY xs s i=decide (t=s):=by unfold uY;rw[h]
section
variable {o:aM} (ho:aQ cu bw o)
include ho
theorem QX (f_0:By) (f_1 f_2:Int) (f_3:Lq) (s:By):o.call 277 [.agg [As f_0,Ai f_1,Ai f_2,Al f_3],.sp [.str s] 0] []=Ar (Ab (decide (f_0=s))):=by
 refine ho.aL λR Q=> ?_
 conv=>lhs;cbv
 rcases aR ho f_0 s with ⟨e,g1⟩|⟨e,g1⟩<;>(conv=>lhs;rw[e];cbv)
 all_goals
  subst Q;simp_all
def fk (e:Lq) (s:By) (n1 i:Int):St:=⟨E 19 [(0,Al e),(1,.fn 277 [.sp [.str s] 0]),(7,Ai n1),(8,Ai i)],O 19 []⟩
def gm (i:Int):St:=⟨E 19 [(4,Ai i)],O 19 []⟩
def gq:St:=⟨E 19 [],O 19 []⟩
def kQ (e:By) (a0_0 a0_1:Lq) (i:Int):St:=⟨E 22 [(1,As e),(2,Sc a0_0 a0_1),(5,Ai i)],O 22 []⟩
def lz (i:Int):St:=⟨E 22 [(4,Ai i)],O 22 []⟩
def lD:St:=⟨E 22 [],O 22 []⟩
theorem V5 (e:Lq) (s:By) (U:∀x∈e,v7 x) (n1:Int) (V:(e.length:Int)=n1) (hb:n1<=1048576):∀i:Int,0<=i->i<=(n1:Int)->o.loop 27600 (fk e s n1 i)=some (if gL (uY e s) i n1= -1 then (.exit 0,gq)else (.ret,gm (gL (uY e s) i n1))):=by
 refine cM (P:=λi=>o.loop 27600 (fk e s n1 i)=some (if gL (uY e s) i n1= -1 then (.exit 0,gq)else (.ret,gm (gL (uY e s) i n1)))) (n1:Int) ?_;intro i I h1 J;try dsimp only at J |-
 refine ho.fA λR Q=> ?_
 conv=>lhs;cbv
 rcases bn ho i n1 with ⟨M,g1⟩|⟨M,g1⟩<;>(conv=>lhs;rw[M];cbv)
 ·subst Q;rw[oY (by omega),if_pos rfl];rfl
 obtain ⟨x,E,a1,O⟩:=aF V I g1;obtain ⟨s1,n2,n3,l1,rfl,hz⟩:=U _ O;have e2:=ay ho I E;have S:=Nv (s:=s) E;conv=>lhs;rw[e2];cbv
 cases j:decide (s1=s)<;>(conv=>lhs;rw[QX ho,j];cbv)
 ·obtain ⟨n4,e4,g4⟩:=bk ho i 1;conv=>lhs;rw[e4];cbv
  subst Q;rw[wH (by omega) (S.trans j)];rw[show n4=i+1 by omega];exact J (by omega)
 subst Q;rw[wG (by omega) (S.trans j),if_neg (by omega)];rfl
theorem OI (e:Lq) (s:By) (I:∀x∈e,v7 x) (M:(e.length:Int)<=1048576):o.call 276 [Al e,.fn 277 [.sp [.str s] 0]] []=Ar (Ai (iB e s)):=by
 refine ho.aL λR Q=> ?_
 obtain ⟨n1,J,g1⟩:=aC ho e;conv=>lhs;cbv;rw[J];cbv
 have hl:=V5 ho e s I n1 g1.symm (by omega) 0 (Int.le_refl _) (by omega);have hf:iB e s=gL (uY e s) 0 n1:=by rw[g1];rfl
 rw[<-hf]at hl;by_cases hc:iB e s= -1
 ·have j:o.loop 27600 (fk e s n1 0)=some (.exit 0,gq):=hl.trans (by rw[if_pos hc]);conv at j=>lhs;cbv
  conv=>lhs;rw[j];cbv
  subst Q;rw[hc];try rfl
 obtain ⟨n2,E,j⟩:∃n2,iB e s=n2/\o.loop 27600 (fk e s n1 0)=some (.ret,gm n2):=⟨_,rfl,hl.trans (by rw[if_neg hc])⟩
 conv at j=>lhs;cbv
 conv=>lhs;rw[j];cbv
 subst Q;rw[E];try rfl
theorem wN (c_0 c_1:Lq) (s:By) (j:∀x∈c_0,v7 x) (E:(c_0.length:Int)<=1048576):o.call 180 [Sc c_0 c_1,As s] []=Ar (Ai (iB c_0 s)):=by
 refine ho.aL λR Q=> ?_
 obtain ⟨n1,e,I⟩:∃n1,iB c_0 s=n1/\o.call 276 [Al c_0,.fn 277 [.sp [.str s] 0]] []=Ar (Ai n1):=⟨_,rfl,OI ho c_0 s j E⟩
 conv=>lhs;cbv;rw[I];cbv
 subst Q;rw[e];try rfl
theorem QY (e:By) (a0_0 a0_1:Lq) (hT:∀x∈a0_0,v7 x) (n1:Int) (I:(a0_0.length:Int)=n1) (hb:n1<=1048576):∀i:Int,0<=i->i<=(n1:Int)->o.loop 8500 (kQ e a0_0 a0_1 i)=some (if gL (uY a0_0 e) i n1= -1 then (.exit 0,lD)else (.ret,lz (gL (uY a0_0 e) i n1))):=by
 refine cM (P:=λi=>o.loop 8500 (kQ e a0_0 a0_1 i)=some (if gL (uY a0_0 e) i n1= -1 then (.exit 0,lD)else (.ret,lz (gL (uY a0_0 e) i n1)))) (n1:Int) ?_;intro i J h1 M;try dsimp only at M |-
 refine ho.fA λR Q=> ?_
 have e1:o.len a0_0=n1:=(jA ho _).trans I;conv=>lhs;cbv;rw[e1];cbv
 rcases bn ho i n1 with ⟨O,g2⟩|⟨O,g2⟩<;>(conv=>lhs;rw[O];cbv)
 ·subst Q;rw[oY (by omega),if_pos rfl];rfl
 obtain ⟨x,j,a0,S⟩:=aF I J g2;obtain ⟨s1,n2,n3,l1,rfl,hz⟩:=hT _ S;have e3:=ay ho J j;have U:=Nv (s:=e) j;conv=>lhs;rw[e3];cbv
 rcases aR ho s1 e with ⟨V,E⟩|⟨V,E⟩<;>(conv=>lhs;rw[V];cbv)
 ·obtain ⟨n4,e5,g5⟩:=bk ho i 1;conv=>lhs;rw[e5];cbv
  subst Q;rw[wH (by omega) (U.trans (decide_eq_false E))];rw[show n4=i+1 by omega];exact M (by omega)
 subst Q;rw[wG (by omega) (U.trans (decide_eq_true E)),if_neg (by omega)];rfl
theorem tZ (a0_0 a0_1:Lq) (e:By) (I:∀x∈a0_0,v7 x) (J:(a0_0.length:Int)<=1048576):o.call 85 [Ac a0_0 a0_1,As e] []=Ar (Ai (iB a0_0 e)):=by
 refine ho.aL λR Q=> ?_
 conv=>lhs;cbv
 have hl:=QY ho e a0_0 a0_1 I _ rfl J 0 (Int.le_refl _) (by omega);have hf:iB a0_0 e=gL (uY a0_0 e) 0 a0_0.length:=rfl;rw[<-hf]at hl;by_cases hc:iB a0_0 e= -1
 ·have j:o.loop 8500 (kQ e a0_0 a0_1 0)=some (.exit 0,lD):=hl.trans (by rw[if_pos hc]);conv at j=>lhs;cbv
  conv=>lhs;rw[j];cbv
  subst Q;rw[hc];try rfl
 obtain ⟨n1,E,j⟩:∃n1,iB a0_0 e=n1/\o.loop 8500 (kQ e a0_0 a0_1 0)=some (.ret,lz n1):=⟨_,rfl,hl.trans (by rw[if_neg hc])⟩
 conv at j=>lhs;cbv
 conv=>lhs;rw[j];cbv
 subst Q;rw[E];try rfl
omit ho in
theorem pD (xs:Lq) (s:By):iB xs s= -1\/(0<=iB xs s/\iB xs s<xs.length):=by
 rcases Oy (P:=uY xs s) (n:=xs.length) (by omega) 0 (Int.le_refl _) (by omega)with h | ⟨a,b,_⟩
 ·exact .inl h
 exact .inr ⟨a,b⟩
end
def cU (n:Int) (l:Lq):Lq:=l++List.replicate (n.toNat-l.length) nB
theorem wY {n:Int} {l:Lq} (h:(l.length:Int)<=n):((cU n l).length:Int)=n:=by unfold cU;rw[List.length_append,List.length_replicate];omega
theorem qt {o:aM} {n:Int} {l:Lq} (h:∀x∈l,Rt o 8 x):∀x∈cU n l,Sl o x:=by
 intro x j;rcases List.mem_append.1 j with e | e
 ·exact .inr (h x e)
 exact .inl (List.eq_of_mem_replicate e)
def stk (o:aM) (st:Lq):Prop:=(st.length:Int)<=100000/\∀x∈st,Rt o 8 x
theorem lF {o:aM} {st:Lq} {n:Nat} (h:stk o st):stk o (st.take n):=⟨by have:=h.1;rw[List.length_take];omega,λx e=>h.2 x (List.mem_of_mem_take e)⟩
theorem jh {o:aM} {st:Lq} {n:Nat} (h:stk o st):stk o (st.drop n):=⟨by have:=h.1;rw[List.length_drop];omega,λx e=>h.2 x (List.mem_of_mem_drop e)⟩
theorem Ls {xs:Lq} {x y:D} {n:Int} (h:n=xs.length):(xs++[x]).set n.toNat y=xs++[y]:=by
 subst h;rw[Int.toNat_natCast,List.set_append_right _ _ (Nat.le_refl _),Nat.sub_self];rfl
theorem Lu {xs:Lq} {x:D} {n:Int} (h:n=xs.length):(xs++[x])[n.toNat]? =some x:=by
 subst h;rw[Int.toNat_natCast,List.getElem?_append_right (Nat.le_refl _),Nat.sub_self];rfl
section
variable {o:aM} (ho:aQ cu bw o)
include ho
theorem Lv (fs st:Lq) (n:Int) (hst:stk o st) (a0:0<=n) (a1:n<=st.length) (k:Int) (hk:k=st.length-n):o.call 197 [.ptr (1,0) 0,Ai n] [some (Ob (1,1) (1,2)),Oo fs,Os st]=some ⟨.arr (0,0) (31,4) none false,[some (Ob (1,1) (0,1)),Oo fs,none],[Os (st.drop k.toNat),Os (st.take k.toNat)]⟩:=by
 have hb:=hst.1;refine ho.aL λR Q=> ?_
 obtain ⟨n1,E,g1⟩:=aC ho st;obtain ⟨n2,S,g2⟩:=aU ho n1 n;obtain ⟨n3,g3,e⟩:∃v,v=n1-n2/\o.minus n1 n2=v:=⟨_,rfl,ho.minus _ _⟩
 obtain ⟨l1,j,U⟩:∃z,z=st.drop n2.toNat/\o.sub st n2 n3=some z:=⟨_,rfl,by rw[iy ho (by omega) (by omega) (by omega),List.take_of_length_le (by rw[List.length_drop];omega)]⟩
 obtain ⟨l2,I,V⟩:∃l2,l2=st.drop n2.toNat/\o.call 289 [.arr (1,0) (31,4) (some (n2,n3)) false] [Os st]=some ⟨.arr (0,0) (31,4) none false,[Os st],[Os l2]⟩:=⟨l1,j,Lr ho st n2 n3 l1 (by assumption) (by rw[j,List.length_drop];omega) (λz J=>fF (hst.2 z (by rw[j]at J;exact List.mem_of_mem_drop J)))⟩
 obtain ⟨n4,g6,M⟩:∃v,v=n2-0/\o.minus n2 0=v:=⟨_,rfl,ho.minus _ _⟩
 obtain ⟨l3,hl3,O⟩:∃z,z=st.take n2.toNat/\o.sub st 0 n4=some z:=⟨_,rfl,by rw[iy ho (Int.le_refl _) (by omega) (by omega)];rw[show n4=n2 by omega];rfl⟩
 conv=>lhs;cbv;rw[E];cbv;rw[S];cbv;(try (rw[E];cbv));rw[e];cbv;rw[U];cbv;(try (rw[e];cbv));rw[V];cbv;(try (rw[e];cbv));rw[M];cbv;(try (rw[e];cbv));rw[O];cbv;(try (rw[e];cbv));(try (rw[M];cbv));rw[ho.isZero];cbv;(try (rw[O];cbv))
 subst Q;rw[show k=n2 by omega,<-I,<-hl3];try rfl
theorem Ee (fs st:Lq) (n:Int) (hst:stk o st) (a0:0<=n) (a1:n<=st.length) (k:Int) (hk:k=st.length-n):o.call 186 [.ptr (1,0) 0,Ai n] [some (Ob (1,1) (1,2)),Op fs,Os st]=some ⟨.arr (0,0) (31,4) none false,[some (Ob (1,1) (0,1)),Op fs,none],[Os (st.drop k.toNat),Os (st.take k.toNat)]⟩:=by
 have hb:=hst.1;refine ho.aL λR Q=> ?_
 obtain ⟨n1,E,g1⟩:=aC ho st;obtain ⟨n2,U,g2⟩:=aU ho n1 n;obtain ⟨n3,g3,e⟩:∃v,v=n1-n2/\o.minus n1 n2=v:=⟨_,rfl,ho.minus _ _⟩
 obtain ⟨l1,j,I⟩:∃z,z=st.drop n2.toNat/\o.sub st n2 n3=some z:=⟨_,rfl,by rw[iy ho (by omega) (by omega) (by omega),List.take_of_length_le (by rw[List.length_drop];omega)]⟩
 have V:o.fits 4 56 l1=true:=by exact cW ho (by rw[j,List.length_drop];omega) (by decide) (λz J=>fF (hst.2 z (by rw[j]at J;exact List.mem_of_mem_drop J)))
 obtain ⟨n4,g6,M⟩:∃v,v=n2-0/\o.minus n2 0=v:=⟨_,rfl,ho.minus _ _⟩
 obtain ⟨l2,O,S⟩:∃z,z=st.take n2.toNat/\o.sub st 0 n4=some z:=⟨_,rfl,by rw[iy ho (Int.le_refl _) (by omega) (by omega)];rw[show n4=n2 by omega];rfl⟩
 conv=>lhs;cbv;rw[E];cbv;rw[U];cbv;(try (rw[E];cbv));rw[e];cbv;rw[I];cbv;(try (rw[e];cbv));(try (rw[I];cbv));rw[V];cbv;(try (rw[e];cbv));rw[M];cbv;(try (rw[e];cbv));rw[S];cbv;(try (rw[e];cbv));(try (rw[M];cbv));rw[ho.isZero];cbv;(try (rw[S];cbv))
 subst Q;rw[show k=n2 by omega,<-j,<-O];try rfl
theorem wZ (fs st:Lq) (e j:Int) (E:By) (I:Lq) (code:Int) (hst:stk o st):o.call 194 [.ptr (1,0) 0,At e j E I,Ai code] [some (Ob (1,1) (1,2)),Oo fs,Os st]=some (if code=0 then ⟨Ai 7,[some (Ob (1,1) (0,0)),Oo fs,none],[Os (st++[(.agg [.int .i64 e,.int .i64 j,.str E,.lst I])])]⟩else ⟨Ai code,[some (Ob (1,1) (1,2)),Oo fs,Os st],[]⟩):=by
 have hb:=hst.1;refine ho.aL λR Q=> ?_
 conv=>lhs;cbv
 rcases cD ho code 0 with ⟨O,g1⟩|⟨O,g1⟩<;>(conv=>lhs;rw[O];cbv)
 ·obtain ⟨n1,U,g2⟩:=aC ho st;obtain ⟨l1,J,V⟩:∃z,st++[nB]=z/\o.app st [.agg [.int .i64 0,.int .i64 0,.str ⟨#[]⟩,.lst []]]=z:=⟨_,rfl,ho.app _ _⟩
  conv=>lhs;rw[U];cbv;rw[V];cbv
  have e4:o.fits 4 56 l1=true:=by exact cW ho (by rw[<-J,List.length_append];simp only[List.length_cons,List.length_nil];omega) (by decide) (λz M=>by
   rw[<-J]at M;rcases List.mem_append.1 M with h | h
   ·exact fF (hst.2 z h)
   rw[List.mem_singleton.1 h];rfl)
  obtain ⟨n2,n3,s1,l2,M,S⟩:∃n2 n3 s1 l2,nB=(.agg [.int .i64 n2,.int .i64 n3,.str s1,.lst l2])/\o.cF l1 n1=some (.agg [.int .i64 n2,.int .i64 n3,.str s1,.lst l2]):=⟨0,0,⟨#[]⟩,[],rfl,by rw[<-J];exact ay ho (by omega) (Lu (by omega))⟩
  obtain ⟨l3,hl3,e6⟩:∃z,st++[(.agg [.int .i64 e,.int .i64 j,.str E,.lst I])]=z/\o.set l1 n1 (.agg [.int .i64 e,.int .i64 j,.str E,.lst I])=z:=⟨_,rfl,by rw[ho.set,<-J];exact Ls (by omega)⟩
  conv=>lhs;rw[e4];cbv;rw[S];cbv;(try (rw[S];cbv));rw[e6];cbv
  subst Q;rw[if_pos g1,hl3];try rfl
 subst Q;rw[if_neg g1];try rfl
theorem rG (fs st:Lq) (e j:Int) (E:By) (I:Lq) (hst:stk o st):o.call 284 [.ptr (1,0) 0,At e j E I] [some (Ob (1,1) (1,2)),Op fs,Os st]=some ⟨.tup [],[some (Ob (1,1) (0,0)),Op fs,none],[Os (st++[(.agg [.int .i64 e,.int .i64 j,.str E,.lst I])])]⟩:=by
 have V:=hst.1;refine ho.aL λR Q=> ?_
 have O:o.fits 4 56 st=true:=by exact cW ho (by omega) (by decide) (λz M=>fF (hst.2 z M))
 obtain ⟨l1,J,S⟩:∃z,st++[(.agg [.int .i64 e,.int .i64 j,.str E,.lst I])]=z/\o.app st [.agg [.int .i64 e,.int .i64 j,.str E,.lst I]]=z:=⟨_,rfl,ho.app _ _⟩
 conv=>lhs;cbv;rw[O];cbv;rw[S];cbv
 have U:o.fits 4 56 l1=true:=by exact cW ho (by rw[<-J,List.length_append];simp only[List.length_cons,List.length_nil];omega) (by decide) (λz M=>by
  rw[<-J]at M;rcases List.mem_append.1 M with h | h
  ·exact fF (hst.2 z h)
  rw[List.mem_singleton.1 h];rfl)
 conv=>lhs;rw[U];cbv
 subst Q;rw[J];try rfl
theorem load_ (fs st:Lq) (e j:Int) (E:By) (I:Lq) (hst:stk o st) (O:Tm 8 (.agg [.int .i64 e,.int .i64 j,.str E,.lst I])):o.call 195 [.ptr (1,0) 0,At e j E I] [some (Ob (1,1) (1,2)),Oo fs,Os st]=some (if cE (.agg [.int .i64 e,.int .i64 j,.str E,.lst I]) nB=true then ⟨Ai 1,[some (Ob (1,1) (1,2)),Oo fs,Os st],[]⟩else ⟨Ai 7,[some (Ob (1,1) (0,0)),Oo fs,none],[Os (st++[(.agg [.int .i64 e,.int .i64 j,.str E,.lst I])])]⟩):=by
 refine ho.aL λR Q=> ?_
 conv=>lhs;cbv
 cases J:cE (.agg [.int .i64 e,.int .i64 j,.str E,.lst I]) nB<;>(conv=>lhs;rw[I0 ho _ _ _ _ O,J];cbv)
 ·obtain ⟨l1,M,S⟩:∃z,st++[(.agg [.int .i64 e,.int .i64 j,.str E,.lst I])]=z/\o.call 194 [.ptr (1,0) 0,At e j E I,Ai 0] [some (Ob (1,1) (1,2)),Oo fs,Os st]=some ⟨Ai 7,[some (Ob (1,1) (0,0)),Oo fs,none],[Os z]⟩:=⟨_,rfl,wZ ho fs st _ _ _ _ 0 hst⟩
  conv=>lhs;rw[S];cbv
  subst Q;try rw[J]
  rw[if_neg Bool.false_ne_true,M];try rfl
 subst Q;try rw[J]
 rw[if_pos rfl];try rfl
end
theorem qu {o:aM} {r:D×Int} (h:Ln o r):∃k n s l c,r=(.agg [.int .i64 k,.int .i64 n,.str s,.lst l],c)/\(c=0\/c=3\/c=4)/\(c=0->Rt o 8 (.agg [.int .i64 k,.int .i64 n,.str s,.lst l])):=by
 obtain ⟨k,n,s,l,e,j,E⟩:=h;obtain ⟨a,c⟩:=r;simp only at e j E;subst e;exact ⟨k,n,s,l,c,rfl,j,E⟩
theorem OT {a r:Lq} {i:Nat} {x:D} (h:a[i]? =some x) (e:i<r.length):(a.take i++r.drop i).set i x=a.take (i+1)++r.drop (i+1):=by
 have hl:i<a.length:=(ax.1 h).1;rw[List.set_append_right _ _ (by rw[List.length_take];omega),List.length_take,show i-min i a.length=0 by omega,List.drop_eq_getElem_cons e,List.set_cons_zero,List.take_add_one,h,List.append_assoc];rfl
section
variable {o:aM} (ho:aQ cu bw o)
include ho
theorem Ef (fs st:Lq) (k n:Int) (hst:stk o st) (S:0<=n) (U:n<=st.length) (hk:k=4\/k=5\/k=6) (a1:k=6->1<=n) (a3:n<=400):o.call 196 [.ptr (1,0) 0,Ai k,Ai n] [some (Ob (1,1) (1,2)),Oo fs,Os st]=some ⟨Ai (if (ig o k (st.drop ((st.length:Int)-n).toNat)).2=0 then 7 else (ig o k (st.drop ((st.length:Int)-n).toNat)).2),[some (Ob (1,1) (0,0)),Oo fs,none],[Os (if (ig o k (st.drop ((st.length:Int)-n).toNat)).2=0 then st.take ((st.length:Int)-n).toNat++[(ig o k (st.drop ((st.length:Int)-n).toNat)).1]else st.take ((st.length:Int)-n).toNat)]⟩:=by
 refine ho.aL λR Q=> ?_
 obtain ⟨l1,l2,e,E,e1⟩:∃l1 l2,l1=st.drop ((st.length:Int)-n).toNat/\l2=st.take ((st.length:Int)-n).toNat/\o.call 197 [.ptr (1,0) 0,Ai n] [some (Ob (1,1) (1,2)),Oo fs,Os st]=some ⟨.arr (0,0) (31,4) none false,[some (Ob (1,1) (0,1)),Oo fs,none],[Os l1,Os l2]⟩:=⟨_,_,rfl,rfl,Lv ho fs st n hst S U _ rfl⟩
 have I:stk o l1:=by rw[e];exact jh hst
 have hs2:stk o l2:=by rw[E];exact lF hst
 have a0:(l1.length:Int)=n:=by rw[e,List.length_drop];omega
 obtain ⟨n1,n2,s1,l3,n3,J,a4,a5⟩:=qu (nX (k:=k) I.2 (by omega));have e2:o.call 288 [Ai k,Al l1] []=Ar (.tup [At n1 n2 s1 l3,Ai n3]):=(Q8 ho k l1 hk I.2 (by omega) (by omega)).trans (by rw[J];rfl);conv=>lhs;cbv;rw[e1];cbv;rw[e2];cbv
 by_cases j:n3=0
 ·obtain ⟨M,V,O⟩:∃M,l2++[(.agg [.int .i64 n1,.int .i64 n2,.str s1,.lst l3])]=M/\o.call 194 [.ptr (1,0) 0,At n1 n2 s1 l3,Ai n3] [some (Ob (1,1) (1,2)),Oo fs,Os l2]=some ⟨Ai 7,[some (Ob (1,1) (0,0)),Oo fs,none],[Os M]⟩:=⟨_,rfl,(wZ ho fs l2 _ _ _ _ n3 hs2).trans (by rw[if_pos j])⟩
  conv=>lhs;rw[O];cbv
  subst Q;rw[<-e,<-E,J];show _=some (cn.mk (Ai (if n3=0 then 7 else n3)) _ [Os (if n3=0 then l2++[(.agg [.int .i64 n1,.int .i64 n2,.str s1,.lst l3])]else l2)]);rw[if_pos j,if_pos j,V];try rfl
 have O:o.call 194 [.ptr (1,0) 0,At n1 n2 s1 l3,Ai n3] [some (Ob (1,1) (1,2)),Oo fs,Os l2]=some ⟨Ai n3,[some (Ob (1,1) (1,2)),Oo fs,Os l2],[]⟩:=(wZ ho fs l2 _ _ _ _ n3 hs2).trans (by rw[if_neg j]);conv=>lhs;rw[O];cbv
 subst Q;rw[<-e,<-E,J];show _=some (cn.mk (Ai (if n3=0 then 7 else n3)) _ [Os (if n3=0 then l2++[(.agg [.int .i64 n1,.int .i64 n2,.str s1,.lst l3])]else l2)]);rw[if_neg j,if_neg j];try rfl
theorem CW (c_0 c_1:Lq) (at':Int) (l:Lq) (s1:By) (n1 n2:Int) (l1:Lq) (j:0<=at') (E:c_0[at'.toNat]? =some (.agg [.str s1,.int .i64 n1,.int .i64 n2,.lst l1])) (hl:(l.length:Int)<=n2) (hn:n2<=400) (I:∀x∈l,Rt o 8 x):o.call 247 [Sc c_0 c_1,Ai at',Al l] []=some ⟨.agg [Ai at',Ai 0,.arr (0,0) (31,4) none true],[],[Os (cU n2 l)]⟩:=by
 refine ho.aL λR Q=> ?_
 have J:=ay ho j E;have M:o.cmp .eql n2 n2=true:=cX ho rfl;have O:o.fP 56 n2=true:=by rw[ho.fP];exact decide_eq_true (by omega)
 obtain ⟨l2,e,S⟩:∃z,z=List.replicate n2.toNat nB/\o.rm n2 (.agg [.int .i64 0,.int .i64 0,.str ⟨#[]⟩,.lst []])=z:=⟨_,rfl,ho.rm _ _⟩
 have U:o.fits 4 0 l=true:=by exact cW ho (by omega) (by decide) (λz V=>fF (I z V))
 conv=>lhs;cbv;rw[J];cbv;rw[M];cbv;rw[O];cbv;rw[S];cbv;rw[U];cbv
 obtain ⟨l3,hl3,e6⟩:∃z,cU n2 l=z/\o.over l2 l=z:=by
  refine ⟨_,rfl,?_⟩;have h:o.over l2 l=l.take l2.length++l2.drop l.length:=by rw[ho];rfl
  rw[h,e,List.length_replicate,List.take_of_length_le (by omega),List.drop_replicate];rfl
 conv=>lhs;rw[e6];cbv
 subst Q;rw[hl3];try rfl
def lG (a2:Lq) (i e:Int) (y:Lq):St:=⟨E 34 [(2,Al a2),(6,.ptr (6,0) 0),(7,.ptr (7,0) 0),(8,Ai i)],O 34 [(6,[some (.box [Ai 0,Ai 0,.emp])]),(7,[some (.box [Ai e,Ai 0,.arr (16,0) (31,4) none true])]),(16,[Os y])]⟩
def jC (e:Int) (y:Lq):St:=⟨E 34 [(6,.ptr (6,0) 0),(7,.ptr (7,0) 0)],O 34 [(6,[some (.box [Ai 0,Ai 0,.emp])]),(7,[some (.box [Ai e,Ai 0,.arr (16,0) (31,4) none true])]),(16,[Os y])]⟩
theorem OU (a2:Lq) (e n:Int) (hl:(a2.length:Int)<=n) (hn:n<=400) (M:∀x∈a2,Rt o 8 x):∀i:Int,0<=i->i<=(a2.length:Int)->∀y:Lq,y=a2.take i.toNat++(List.replicate n.toNat nB).drop i.toNat->o.loop 18700 (lG a2 i e y)=some (.exit 0,jC e (cU n a2)):=by
 refine cM (P:=λi=>∀y:Lq,y=a2.take i.toNat++(List.replicate n.toNat nB).drop i.toNat->o.loop 18700 (lG a2 i e y)=some (.exit 0,jC e (cU n a2))) (a2.length:Int) ?_;intro i j h1 S;try dsimp only at S |-
 intro y E;have U:(y.length:Int)=n:=by rw[E,List.length_append,List.length_take,List.length_drop,List.length_replicate];omega
 have V:∀x∈y,Sl o x:=by
   intro x hx;rw[E]at hx;rcases List.mem_append.1 hx with h | h
   ·exact .inr (M x (List.mem_of_mem_take h))
   exact .inl (List.eq_of_mem_replicate (List.mem_of_mem_drop h))
 refine ho.fA λR Q=> ?_
 obtain ⟨n1,e1,g1⟩:=aC ho a2;conv=>lhs;cbv;rw[e1];cbv
 rcases bn ho i n1 with ⟨e2,g2⟩|⟨e2,g2⟩<;>(conv=>lhs;rw[e2];cbv)
 ·subst Q;have hE:y=cU n a2:=by
   rw[E,List.take_of_length_le (by omega),List.drop_replicate];unfold cU;rw[show n.toNat-i.toNat=n.toNat-a2.length by omega]
  rw[<-hE];rfl
 obtain ⟨x,I,a4,J⟩:=aF (xs:=a2) rfl j (by omega);obtain ⟨m1,n2,n3,s1,l1,a5,rfl,hs,ht⟩:=fE (M _ J);have e3:=ay ho j I;have e4:o.call 202 [At n2 n3 s1 l1] []=Ar (At n2 n3 s1 l1):=mA ho 8 _ _ _ _ (fO (M _ J));obtain ⟨y1,a0,a6,a3⟩:=aF U j (by omega);obtain ⟨n4,n5,s2,l2,rfl⟩:=GL (V _ a3);have e5:=ay ho j a0;obtain ⟨l3,O,e6⟩:∃z,z=a2.take (i.toNat+1)++(List.replicate n.toNat nB).drop (i.toNat+1)/\o.set y i (.agg [.int .i64 n2,.int .i64 n3,.str s1,.lst l1])=z:=⟨_,rfl,by rw[ho.set,E];exact OT I (by rw[List.length_replicate];omega)⟩
 obtain ⟨n6,e7,g7⟩:=bk ho i 1;conv=>lhs;rw[e3];cbv;rw[e4];cbv;rw[e5];cbv;(try (rw[e5];cbv));rw[e6];cbv;rw[e7];cbv
 subst Q;rw[show n6=i+1 by omega];exact S (by omega) _ (by rw[O,show (i+1).toNat=i.toNat+1 by omega])
theorem Ao (a0_0 a0_1:Lq) (e:Int) (a2:Lq) (s1:By) (n1 n2:Int) (l1:Lq) (I:0<=e) (J:a0_0[e.toNat]? =some (.agg [.str s1,.int .i64 n1,.int .i64 n2,.lst l1])) (hl:(a2.length:Int)<=n2) (M:n2<=400) (O:∀x∈a2,Rt o 8 x):o.call 187 [Ac a0_0 a0_1,Ai e,Al a2] []=Ar (.agg [Ai e,Ai 0,Al (cU n2 a2)]):=by
 refine ho.aL λR Q=> ?_
 have S:=ay ho I J;have U:o.cmp .eql n2 n2=true:=cX ho rfl;have V:o.fP 56 n2=true:=by rw[ho.fP];exact decide_eq_true (by omega)
 obtain ⟨l2,j,e4⟩:∃z,z=List.replicate n2.toNat nB/\o.rm n2 (.agg [.int .i64 0,.int .i64 0,.str ⟨#[]⟩,.lst []])=z:=⟨_,rfl,ho.rm _ _⟩
 conv=>lhs;cbv;rw[S];cbv;rw[U];cbv;rw[V];cbv;rw[e4];cbv
 obtain ⟨l3,hl3,E⟩:∃l3,cU n2 a2=l3/\o.loop 18700 (lG a2 0 e l2)=some (.exit 0,jC e l3):=⟨_,rfl,OU ho a2 e n2 hl M O 0 (Int.le_refl _) (by omega) l2 j⟩
 conv at E=>lhs;cbv
 conv=>lhs;rw[E];cbv
 subst Q;rw[hl3];try rfl
theorem call_ (fs st c_0 c_1:Lq) (x_0 x_1:Int) (x_2:By) (x_3:Int) (hC:∀x∈c_0,v7 x) (hCb:(c_0.length:Int)<=1048576) (at':Int) (V:iB c_0 x_2=at') (s1:By) (m1 j:Int) (q1:Lq) (h0:0<=at') (hx:c_0[at'.toNat]? =some (.agg [.str s1,.int .i64 m1,.int .i64 j,.lst q1])) (a8:x_1<=j) (a0:j<=400) (hst:stk o st) (a1:0<=x_1) (a3:x_1<=st.length) (hf:∀x∈fs,x.cells.length=3) (a9:(fs.length:Int)<=40):o.call 199 [.ptr (1,0) 0,Sc c_0 c_1,.agg [Ai x_0,Ai x_1,As x_2,Ai x_3]] [some (Ob (1,1) (1,2)),Oo fs,Os st]=some (if (fs.length:Int)=40 then ⟨Ai 5,[some (Ob (1,1) (1,2)),Oo fs,Os st],[]⟩else ⟨Ai 7,[some (Ob (0,0) (0,1)),none,none],[Oo (fs++[(.agg [.int .i64 at',.int .i64 0,.own (31,4) (cU j (st.drop ((st.length:Int)-x_1).toNat))])]),Os (st.take ((st.length:Int)-x_1).toNat)]⟩):=by
 obtain ⟨n1,e1,g1⟩:=aC ho fs;rcases av ho n1 40 with ⟨S,g2⟩|⟨S,g2⟩
 ·obtain ⟨l1,l2,E,J,e3⟩:∃l1 l2,l1=st.drop ((st.length:Int)-x_1).toNat/\l2=st.take ((st.length:Int)-x_1).toNat/\o.call 197 [.ptr (1,0) 0,Ai x_1] [some (Ob (1,1) (1,2)),Oo fs,Os st]=some ⟨.arr (0,0) (31,4) none false,[some (Ob (1,1) (0,1)),Oo fs,none],[Os l1,Os l2]⟩:=⟨_,_,rfl,rfl,Lv ho fs st x_1 hst a1 a3 _ rfl⟩
  have M:stk o l1:=by rw[E];exact jh hst
  have hs2:stk o l2:=by rw[J];exact lF hst
  have a7:(l1.length:Int)=x_1:=by rw[E,List.length_drop];omega
  obtain ⟨n2,O,e4⟩:∃n2,n2=at'/\o.call 180 [Sc c_0 c_1,As x_2] []=Ar (Ai n2):=⟨_,rfl,(wN ho c_0 c_1 x_2 hC hCb).trans (by rw[V])⟩
  obtain ⟨l3,hl3,e5⟩:∃l3,cU j l1=l3/\o.call 247 [Sc c_0 c_1,Ai n2,Al l1] []=some ⟨.agg [Ai n2,Ai 0,.arr (0,0) (31,4) none true],[],[Os l3]⟩:=⟨_,rfl,by rw[O];exact CW ho c_0 c_1 at' l1 s1 m1 j q1 h0 hx (by omega) a0 M.2⟩
  obtain ⟨n3,n4,U,⟨a4,a5,aa⟩,e6⟩:∃n3 n4 U,(n3=n2/\n4=0/\U=([]:Lq))/\o.cF [.agg [.int .i64 n2,.int .i64 0,.own (31,4) []]] 0=some (.agg [.int .i64 n3,.int .i64 n4,.own (31,4) U]):=⟨_,_,_,⟨rfl,rfl,rfl⟩,ay ho (Int.le_refl _) rfl⟩
  have e7:o.flat l3=true:=by exact rF ho (by rw[<-hl3];exact qt M.2)
  obtain ⟨l6,I,e8⟩:∃z,[(.agg [.int .i64 n3,.int .i64 n4,.own (31,4) l3])]=z/\o.set [.agg [.int .i64 n2,.int .i64 0,.own (31,4) []]] 0 (.agg [.int .i64 n3,.int .i64 n4,.own (31,4) l3])=z:=⟨_,rfl,by rw[ho.set];rfl⟩
  obtain ⟨l7,e,e9⟩:∃z,fs++l6=z/\o.app fs l6=z:=⟨_,rfl,ho.app _ _⟩
  have a6:o.fits 3 40 l7=true:=by exact cW ho (by rw[<-e,<-I,List.length_append];simp only[List.length_cons,List.length_nil];omega) (by decide) (λz hz=>by
   rw[<-e,<-I]at hz;rcases List.mem_append.1 hz with h | h
   ·exact hf z h
   rw[List.mem_singleton.1 h];rfl)
  rw[<-I]at e8 e9 e;rw[if_neg (by omega),<-E,<-J,hl3,<-O,<-a4,<-a5,e];exact (ho.aj (by cbv;repeat (simp only[e1,S,e3,e4,e5,e6,e7,e8,e9,a6];try cbv)):o.call 199 [.ptr (1,0) 0,Sc c_0 c_1,.agg [Ai x_0,Ai x_1,As x_2,Ai x_3]] [some (Ob (1,1) (1,2)),Oo fs,Os st]=some ⟨Ai 7,[some (Ob (0,0) (0,1)),none,none],[Oo l7,Os l2]⟩)
 rw[if_pos (by omega)];exact (ho.aj (by cbv;repeat (simp only[e1,S];try cbv)):o.call 199 [.ptr (1,0) 0,Sc c_0 c_1,.agg [Ai x_0,Ai x_1,As x_2,Ai x_3]] [some (Ob (1,1) (1,2)),Oo fs,Os st]=some ⟨Ai 5,[some (Ob (1,1) (1,2)),Oo fs,Os st],[]⟩)
end
end T2
