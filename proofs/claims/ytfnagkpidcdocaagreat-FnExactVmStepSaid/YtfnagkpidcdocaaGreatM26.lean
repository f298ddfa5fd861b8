import Derived.Test.YtfnagkpidcdocaaGreatM25
set_option linter.all false
namespace T2
open Go Go.Vi
def M5 (n i:Int) (x:D):Prop:=∃op N s to,x= .agg [.int .i64 op,.int .i64 N,.str s,.int .i64 to]/\1<=op/\op<=12/\0<=tk op N/\tk op N<=400/\((op=9\/op=10)->i<to/\to<n)
def oo (n:Int):List D->Int->Prop
 | [],_=>True
 | x::xs,i=>M5 n i x/\oo n xs (i+1)
theorem kH {H:List Int} {n a h j:Int} (hn:(H.length:Int)=n) (h0:0<=a) (h1:a<n) (g0:0<=j) (hj:gt H j≠ -1):gt (dw H a h).1 j=gt H j:=by
 unfold dw;split
 ·rename_i e;show gt (H.set a.toNat h) j=_;rw[kG hn h0 h1 g0];split
  ·rename_i e2;rw[e2]at hj;exact absurd e hj
  ·rfl
 ·rfl
theorem mV {c:List Int×Bool} {K:List Int} (h:cm c=some K):c.2=true/\K=c.1:=by
 unfold cm at h;split at h
 ·rename_i e;injection h with h;exact ⟨e,h.symm⟩
 ·cases h
section
variable {o:aJ}
theorem uX {n op N to i:Int} {H K:List Int} (hn:(H.length:Int)=n) (h0:0<=i) (hto:(op=9\/op=10)->i<to/\to<n) (e:bK o n H op N to i=some K):(K.length:Int)=n/\∀j,0<=j->gt H j≠ -1->gt K j=gt H j:=by
 unfold bK at e;split at e; · cases e
 split at e; · cases e
 split at e
 ·split at e
  ·cases e;exact ⟨hn,λ_ _ _=>rfl⟩
  ·cases e
 split at e; · cases e;exact ⟨hn,λ_ _ _=>rfl⟩
 split at e
 ·rename_i h10;obtain ⟨_,rfl⟩:=mV e;have:=hto (.inr h10);exact ⟨by rw[fK];exact hn,λj g hj=>kH hn (by omega) (by omega) g hj⟩
 split at e
 ·rename_i h9;have hb:=hto (.inl h9);cases c1:cm (dw H to (gt H i))with
  | none=>rw[c1]at e;cases e
  | some M=>
   rw[c1]at e;obtain ⟨_,rfl⟩:=mV c1
   replace e:(if i+1<n then cm (dw (dw H to (gt H i)).1 (i+1) (o.ar .sub .i64 (gt H i) 1))else none)=some K:=e
   by_cases hc:i+1<n
   ·rw[if_pos hc]at e;obtain ⟨_,rfl⟩:=mV e;refine ⟨by have q1:=fK (H:=(dw H to (gt H i)).1) (a:=i+1) (h:=o.ar .sub .i64 (gt H i) 1);have q2:=fK (H:=H) (a:=to) (h:=gt H i);omega,λj g hj=> ?_⟩;have k1:=kH (h:=gt H i) hn (by omega) (by omega) g hj (a:=to);rw[kH (n:=n) (by rw[fK];exact hn) (by omega) (by omega) g (by rw[k1];exact hj),k1]
   ·rw[if_neg hc]at e;cases e
 split at e
 ·obtain ⟨_,rfl⟩:=mV e;exact ⟨by rw[fK];exact hn,λj g hj=>kH hn (by omega) (by omega) g hj⟩
 ·cases e
theorem DC {n:Int}:∀(xs:List D) (i:Int) (H:List Int),0<=i->(H.length:Int)=n->i+xs.length=n->oo n xs i->∀j,i<=j->j<n->300<gt H j->pX o n xs i H=false:=by
 intro xs;induction xs with
 | nil=>intro i H h0 hn hl _ j h1 h2 _;simp only[List.length_nil]at hl;omega
 | cons x xs ih=>
  intro i H h0 hn hl hok j h1 h2 hj;obtain ⟨⟨op,N,s,to,rfl,o1,o2,t1,t2,hto⟩,hok2⟩:=hok;rw[f7];simp only[List.length_cons]at hl;cases e:bK o n H op N to i with
  | none=>rfl
  | some K=>
   by_cases hij:j=i
   ·subst hij;exfalso;unfold bK at e;by_cases c:gt H j<tk op N
    ·rw[if_pos c]at e;cases e
    ·rw[if_neg c,if_pos hj]at e;cases e
   ·obtain ⟨k1,k2⟩:=uX hn h0 hto e;exact ih (i+1) K (by omega) k1 (by omega) hok2 j (by omega) h2 (by rw[k2 j (by omega) (by omega)];exact hj)
theorem uD {n a h:Int} {H:List Int} (h1:a<n) (hh:h<=300) (hm: -1<=gt H a):bh n H a h=cm (dw H a h):=by
 unfold bh dw;rw[if_neg (by omega),if_neg (by omega)];by_cases e:gt H a= -1
 ·rw[if_pos (by omega),if_pos e];rfl
 ·rw[if_neg (by omega),if_neg e];by_cases e2:gt H a=h
  ·rw[if_pos e2];unfold cm;rw[if_pos (by simp[e2])]
  ·rw[if_neg e2];unfold cm;rw[if_neg (by simp[e2])]
theorem ji {n a h:Int} {H K:List Int} (e:bh n H a h=some K):(K=H.set a.toNat h/\gt H a<0/\h<=300/\a<n)\/(K=H/\gt H a=h/\h<=300/\a<n):=by
 unfold bh at e;split at e; · cases e
 split at e; · cases e
 split at e
 ·injection e with e;exact .inl ⟨e.symm,by assumption,by omega,by omega⟩
 split at e
 ·injection e with e;exact .inr ⟨e.symm,by assumption,by omega,by omega⟩
 ·cases e
def inv (n:Int) (H:List Int):Prop:=(H.length:Int)=n/\∀j,0<=j->j<n-> -1<=gt H j/\gt H j<=300
theorem oq {n a h:Int} {H K:List Int} (hi:inv n H) (h0:0<=a) (hh:0<=h) (e:bh n H a h=some K):inv n K:=by
 rcases ji e with ⟨rfl,h1,h2,h3⟩ | ⟨rfl,_,_,_⟩
 ·refine ⟨by rw[List.length_set];exact hi.1,λj g0 g1=> ?_⟩;rw[kG hi.1 h0 h3 g0];split
  ·omega
  ·exact hi.2 j g0 g1
 ·exact hi
theorem bind_comm {n a b h k:Int} {H:List Int} (hi:inv n H) (a0:0<=a) (a1:a<n) (b0:0<=b) (b1:b<n) (hh:0<=h/\h<=300) (hk:0<=k/\k<=300) (hne:h≠k):
  (bh n H a h).bind (λK=>bh n K b k)=(bh n H b k).bind (λK=>bh n K a h):=by
 have key:∀(a b h k:Int),0<=a->a<n->0<=b->b<n->(0<=h/\h<=300)->(0<=k/\k<=300)->h≠k->∀K,bh n H a h=some K->∀M,bh n K b k=some M->(bh n H b k).bind (λK=>bh n K a h)=some M:=by
  intro a b h k a0 a1 b0 b1 hh hk hne K e1 M e2;have hab:a≠b:=by
   intro hab;subst hab;rcases ji e1 with ⟨rfl,_,_,_⟩ | ⟨rfl,g,_,_⟩
   ·have hg:gt (H.set a.toNat h) a=h:=by rw[kG hi.1 a0 a1 a0,if_pos rfl]
    rcases ji e2 with ⟨_,g2,_⟩ | ⟨_,g2,_⟩<;>omega
   ·rcases ji e2 with ⟨_,g2,_⟩ | ⟨_,g2,_⟩<;>omega
  have mk:∀(L:List Int) (c v:Int),c<n->v<=300->gt L c<0->bh n L c v=some (L.set c.toNat v):=by
   intro L c v h1 h2 h3;unfold bh;rw[if_neg (by omega),if_neg (by omega),if_pos h3]
  have mk2:∀(L:List Int) (c v:Int),c<n->v<=300->0<=v->gt L c=v->bh n L c v=some L:=by
   intro L c v h1 h2 h3 h4;unfold bh;rw[if_neg (by omega),if_neg (by omega),if_neg (by omega),if_pos h4]
  rcases ji e1 with ⟨rfl,g1,_,_⟩ | ⟨rfl,g1,_,_⟩
  ·have hg:gt (H.set a.toNat h) b=gt H b:=by rw[kG hi.1 a0 a1 b0,if_neg (by omega)]
   rcases ji e2 with ⟨rfl,g2,_,_⟩ | ⟨rfl,g2,_,_⟩
   ·rw[mk H b k b1 hk.2 (by omega),Option.bind_some,mk _ a h a1 hh.2 (by rw[kG hi.1 b0 b1 a0,if_neg hab];exact g1),List.set_comm _ _ (by omega)]
   ·rw[mk2 H b k b1 hk.2 hk.1 (by omega),Option.bind_some,e1]
  ·rcases ji e2 with ⟨rfl,g2,_,_⟩ | ⟨rfl,g2,_,_⟩
   ·rw[e2,Option.bind_some,mk2 _ a h a1 hh.2 hh.1 (by rw[kG hi.1 b0 b1 a0,if_neg hab];exact g1)]
   ·rw[e2,Option.bind_some,e1]
 cases e1:(bh n H a h).bind (λK=>bh n K b k)with
 | some M=>
  cases c:bh n H a h with
  | none=>rw[c]at e1;cases e1
  | some K=>rw[c]at e1;exact (key a b h k a0 a1 b0 b1 hh hk hne K c M e1).symm
 | none=>
  cases e2:(bh n H b k).bind (λK=>bh n K a h)with
  | none=>rfl
  | some M=>
   cases c:bh n H b k with
   | none=>rw[c]at e2;cases e2
   | some K=>
    rw[c]at e2;have:=key b a k h b0 b1 a0 a1 hk hh (Ne.symm hne) K c M e2;rw[e1]at this;cases this
variable (ho:aR cF bB o)
include ho
theorem run_eq {n:Int} (hnb:n<=1048576):∀(xs:List D) (i:Int) (H:List Int),0<=i->inv n H->i+xs.length=n->oo n xs i->pW o n xs i H=pX o n xs i H/\(pX o n xs i H=true->yw o n xs i H=wU o n xs i H):=by
 intro xs;induction xs with
 | nil=>intro i H _ _ _ _;exact ⟨rfl,λ_=>rfl⟩
 | cons x xs ih=>
  intro i H h0 hi hl hok;obtain ⟨⟨op,N,s,to,rfl,o1,o2,t1,t2,hto⟩,hok2⟩:=hok;simp only[List.length_cons]at hl;have hii:=hi.2 i h0 (by omega);rw[Bq,f7,Er,gH];by_cases hneg:gt H i<0
  ·have hS:bK o n H op N to i=none:=by unfold bK;rw[if_pos (by omega)]
   rw[if_pos hneg,hS];exact ⟨rfl,λh=>by cases h⟩
  rw[if_neg hneg];have same:∀(r:Option (List Int)),b_ o n H op N to i=r->bK o n H op N to i=r->(∀K,r=some K->inv n K)->(match b_ o n H op N to i with | none=>false | some K=>pW o n xs (i+1) K)=(match bK o n H op N to i with | none=>false | some K=>pX o n xs (i+1) K)/\((match bK o n H op N to i with | none=>false | some K=>pX o n xs (i+1) K)=true->(match b_ o n H op N to i with | none=>H | some K=>yw o n xs (i+1) K)=match bK o n H op N to i with | none=>H | some K=>wU o n xs (i+1) K):=by
   intro r h1 h2 h3;rw[h1,h2];cases r with
   | none=>exact ⟨rfl,λ_=>rfl⟩
   | some K=>exact ih (i+1) K (by omega) (h3 K rfl) (by omega) hok2
  by_cases htk:gt H i<tk op N
  ·exact same none (by unfold b_;rw[if_pos htk]) (by unfold bK;rw[if_pos htk]) (λK h=>by cases h)
  have hs1:o.ar .sub .i64 (gt H i) 1=gt H i-1:=dB ho (by omega) (by omega);have hs2:o.ar .sub .i64 (gt H i) (tk op N)=gt H i-tk op N:=dB ho (by omega) (by omega);by_cases h12:op=12
  ·subst h12;refine same (if gt H i=1 then some H else none) (by unfold b_;rw[if_neg htk,if_neg (by omega),if_neg (by omega),if_neg (by omega),if_pos rfl]) (by unfold bK;rw[if_neg htk,if_neg (by omega),if_pos rfl]) λK h=> ?_
   split at h
   ·cases h;exact hi
   ·cases h
  by_cases h11:op=11
  ·subst h11;exact same (some H) (by unfold b_;rw[if_neg htk,if_neg (by omega),if_neg (by omega),if_pos rfl]) (by unfold bK;rw[if_neg htk,if_neg (by omega),if_neg h12,if_pos rfl]) λK h=>by cases h;exact hi
  by_cases h10:op=10
  ·subst h10;have hb:=hto (.inr rfl);have ht:=hi.2 to (by omega) (by omega);refine same (bh n H to (gt H i)) (by unfold b_;rw[if_neg htk,if_neg (by omega),if_pos rfl,if_neg (by omega)]) (by unfold bK;rw[if_neg htk,if_neg (by omega),if_neg h12,if_neg h11,if_pos rfl,uD (by omega) (by omega) ht.1]) λK h=>oq hi (by omega) (by omega) h
  by_cases h9:op=9
  ·subst h9;have hb:=hto (.inl rfl);have ht:=hi.2 to (by omega) (by omega);have tk9:tk 9 N=1:=by unfold tk;simp
   refine same ((bh n H (i+1) (gt H i-1)).bind λK=>bh n K to (gt H i)) (by unfold b_;rw[if_neg htk,if_pos rfl,if_neg (by omega),hs1]) ?_ λK h=> ?_
   ·unfold bK;rw[if_neg htk,if_neg (by omega),if_neg h12,if_neg h11,if_neg h10,if_pos rfl,bind_comm (a:=i+1) (b:=to) (h:=gt H i-1) (k:=gt H i) hi (by omega) (by omega) (by omega) (by omega) (by omega) (by omega) (by omega),hs1,<-uD (n:=n) (a:=to) (h:=gt H i) (by omega) (by omega) ht.1];cases c:bh n H to (gt H i)with
    | none=>rfl
    | some K=>
     rw[Option.bind_some,Option.bind_some,if_pos (by omega),uD (n:=n) (a:=i+1) (h:=gt H i-1) (by omega) (by omega) ((oq hi (by omega) (by omega) c).2 (i+1) (by omega) (by omega)).1]
   ·cases c:bh n H (i+1) (gt H i-1)with
    | none=>rw[c]at h;cases h
    | some M=>rw[c]at h;exact oq (oq hi (by omega) (by omega) c) (by omega) (by omega) h
  have hlv:lv op=1:=by unfold lv;rw[if_pos (by omega)]
  have hs3:o.ar .add .i64 (gt H i-tk op N) 1=gt H i-tk op N+1:=ck ho (by omega) (by omega);have hI:b_ o n H op N to i=bh n H (i+1) (gt H i-tk op N+1):=by unfold b_;rw[if_neg htk,if_neg h9,if_neg h10,if_neg h11,if_neg h12,hs2,hs3]
  have hS:bK o n H op N to i=if i+1<n then cm (dw H (i+1) (gt H i-tk op N+1))else none:=by unfold bK;rw[if_neg htk,if_neg (by omega),if_neg h12,if_neg h11,if_neg h10,if_neg h9,hs2,hlv,hs3]
  by_cases hin:i+1<n
  ·rw[if_pos hin]at hS;have ht:=hi.2 (i+1) (by omega) hin;by_cases hv:gt H i-tk op N+1<=300
   ·exact same _ hI (by rw[hS,uD hin hv ht.1]) λK h=>oq hi (by omega) (by omega) h
   ·rw[hI,hS];have:bh n H (i+1) (gt H i-tk op N+1)=none:=by unfold bh;rw[if_neg (by omega),if_pos (by omega)]
    rw[this];unfold dw;by_cases e:gt H (i+1)= -1
    ·rw[if_pos e];have hh:=DC (o:=o) xs (i+1) (H.set (i+1).toNat (gt H i-tk op N+1)) (by omega) (by rw[List.length_set];exact hi.1) (by omega) hok2 (i+1) (by omega) hin (by rw[kG hi.1 (by omega) hin (by omega),if_pos rfl];omega);exact ⟨hh.symm,λh=>absurd (hh.symm.trans h) (by simp)⟩
    ·rw[if_neg e,Es (by simp;omega)];exact ⟨rfl,λh=>by cases h⟩
  ·rw[if_neg hin]at hS;exact same none (by rw[hI];unfold bh;rw[if_pos (by omega)]) hS λK h=>by cases h
theorem Ct {xs:List D} (h1:1<=(xs.length:Int)) (hb:(xs.length:Int)<=1048576) (hok:oo xs.length xs 0):Br o xs=Bf o xs/\(Bf o xs=true->hF o xs=um o xs):=by
 have hH:=uW (n:=(xs.length:Int)) (by omega);refine run_eq ho hb xs 0 _ (Int.le_refl _) ⟨by rw[List.length_set];exact hH,λj g0 g1=> ?_⟩ (by omega) hok;rw[show ((0:Nat))=(0:Int).toNat from rfl,kG hH (Int.le_refl _) (by omega) g0];split
 ·omega
 ·have:gt (H0 xs.length) j= -1:=by
   unfold gt H0;rw[List.getD_eq_getElem?_getD,List.getElem?_replicate,if_pos (by omega)];rfl
  omega
theorem M6 {xs:List D} (h1:1<=(xs.length:Int)) (hb:(xs.length:Int)<=1048576) (hok:oo xs.length xs 0):Br o xs=Bf o xs:=(Ct ho h1 hb hok).1
end
end T2
namespace T2
open Go Go.Vi
set_option maxRecDepth 100000
set_option maxHeartbeats 4000000
def uE (x:D):Prop:=∃s a b xs,x= .agg [.str s,.int .i64 a,.int .i64 b,.lst xs]/\(s.size:Int)<=1048576/\(xs.length:Int)<=1048576/\∀y∈xs,yu y/\∀op N t to,y= .agg [.int .i64 op,.int .i64 N,.str t,.int .i64 to]->(t.size:Int)<=1048576
def Bg (xs:List D) (s:ByteArray) (i:Int):Bool:=match xs[i.toNat]? with | some (.agg (.str t::_))=>decide (t=s) | _=>false
def jJ (xs:List D) (s:ByteArray):Int:=jB (Bg xs s) 0 xs.length
theorem Et {xs:List D} {s t:ByteArray} {i a b:Int} {l:List D} (h:xs[i.toNat]? =some (.agg [.str t,.int .i64 a,.int .i64 b,.lst l])):Bg xs s i=decide (t=s):=by unfold Bg;rw[h]
section
variable {o:aJ} (ho:aR cF bB o)
include ho
theorem M7 (f_0:ByteArray) (f_1 f_2:Int) (f_3:List D) (s:ByteArray):o.call 277 [.agg [As f_0,Ai f_1,Ai f_2,Al f_3],.sp [.str s] 0] []=Ar (Ab (decide (f_0=s))):=by
 refine ho.aC λR Q=> ?_
 conv=>lhs;cbv
 rcases aP ho f_0 s with ⟨e1,g1⟩|⟨e1,g1⟩<;>(conv=>lhs;rw[e1];cbv)
 all_goals
  subst Q;exact (Eq.refl _).trans (by simp_all)
def eM (a0:List D) (s:ByteArray) (n1 i:Int):St:=⟨E 19 [(0,Al a0),(1,.fn 277 [.sp [.str s] 0]),(7,Ai n1),(8,Ai i)],O 19 []⟩
def fL (i:Int):St:=⟨E 19 [(4,Ai i)],O 19 []⟩
def fM:St:=⟨E 19 [],O 19 []⟩
def jZ (a1:ByteArray) (a0_0 a0_1:List D) (i:Int):St:=⟨E 22 [(1,As a1),(2,.sp [.lst a0_0,.lst a0_1] 0),(5,Ai i)],O 22 []⟩
def kI (i:Int):St:=⟨E 22 [(4,Ai i)],O 22 []⟩
def kJ:St:=⟨E 22 [],O 22 []⟩
theorem RK (a0:List D) (s:ByteArray) (hT:∀x∈a0,uE x) (n1:Int) (hn:(a0.length:Int)=n1) (hb:n1<=1048576):∀i:Int,0<=i->i<=(n1:Int)->o.loop 27600 (eM a0 s n1 i)=some (if jB (Bg a0 s) i n1= -1 then (.exit 0,fM)else (.ret,fL (jB (Bg a0 s) i n1))):=by
 refine bV (P:=λi=>o.loop 27600 (eM a0 s n1 i)=some (if jB (Bg a0 s) i n1= -1 then (.exit 0,fM)else (.ret,fL (jB (Bg a0 s) i n1)))) (n1:Int) ?_;intro i h0 h1 ih;try dsimp only at ih |-
 refine ho.dO λR Q=> ?_
 conv=>lhs;cbv
 rcases aZ ho i n1 with ⟨e1,g1⟩|⟨e1,g1⟩<;>(conv=>lhs;rw[e1];cbv)
 ·subst Q;rw[uT (by omega),if_pos rfl];rfl
 ·obtain ⟨x,hx0,hx1,hx2⟩:=ax hn h0 g1;obtain ⟨s1,n2,n3,l1,rfl,hz⟩:=hT _ hx2;have e2:=ak ho h0 hx0;have hp:=Et (s:=s) hx0;conv=>lhs;rw[e2];cbv
  cases he3:decide (s1=s)<;>(conv=>lhs;rw[M7 ho,he3];cbv)
  ·obtain ⟨n4,e4,g4⟩:=aW ho i 1;conv=>lhs;rw[e4];cbv
   subst Q;rw[Bk (by omega) (hp.trans he3)];rw[show n4=i+1 by omega];exact ih (by omega)
  ·subst Q;rw[Bj (by omega) (hp.trans he3),if_neg (by omega)];rfl
theorem K6 (a0:List D) (s:ByteArray) (hT:∀x∈a0,uE x) (hb:(a0.length:Int)<=1048576):o.call 276 [Al a0,.fn 277 [.sp [.str s] 0]] []=Ar (Ai (jJ a0 s)):=by
 refine ho.aC λR Q=> ?_
 obtain ⟨n1,e1,g1⟩:=ay ho a0;conv=>lhs;cbv;rw[e1];cbv
 have hl:=RK ho a0 s hT n1 g1.symm (by omega) 0 (Int.le_refl _) (by omega);have hf:jJ a0 s=jB (Bg a0 s) 0 n1:=by rw[g1];rfl
 rw[<-hf]at hl;by_cases hc:jJ a0 s= -1
 ·have e2:o.loop 27600 (eM a0 s n1 0)=some (.exit 0,fM):=hl.trans (by rw[if_pos hc]);conv at e2=>lhs;cbv
  conv=>lhs;rw[e2];cbv
  subst Q;rw[hc];try rfl
 ·obtain ⟨n2,hn2,e2⟩:∃n2,jJ a0 s=n2/\o.loop 27600 (eM a0 s n1 0)=some (.ret,fL n2):=⟨_,rfl,hl.trans (by rw[if_neg hc])⟩
  conv at e2=>lhs;cbv
  conv=>lhs;rw[e2];cbv
  subst Q;rw[hn2];try rfl
theorem yx (c_0 c_1:List D) (s:ByteArray) (hT:∀x∈c_0,uE x) (hb:(c_0.length:Int)<=1048576):o.call 180 [.sp [.lst c_0,.lst c_1] 0,As s] []=Ar (Ai (jJ c_0 s)):=by
 refine ho.aC λR Q=> ?_
 obtain ⟨n1,hn1,e1⟩:∃n1,jJ c_0 s=n1/\o.call 276 [Al c_0,.fn 277 [.sp [.str s] 0]] []=Ar (Ai n1):=⟨_,rfl,K6 ho c_0 s hT hb⟩
 conv=>lhs;cbv;rw[e1];cbv
 subst Q;rw[hn1];try rfl
theorem M8 (a1:ByteArray) (a0_0 a0_1:List D) (hT:∀x∈a0_0,uE x) (n1:Int) (hn:(a0_0.length:Int)=n1) (hb:n1<=1048576):∀i:Int,0<=i->i<=(n1:Int)->o.loop 8500 (jZ a1 a0_0 a0_1 i)=some (if jB (Bg a0_0 a1) i n1= -1 then (.exit 0,kJ)else (.ret,kI (jB (Bg a0_0 a1) i n1))):=by
 refine bV (P:=λi=>o.loop 8500 (jZ a1 a0_0 a0_1 i)=some (if jB (Bg a0_0 a1) i n1= -1 then (.exit 0,kJ)else (.ret,kI (jB (Bg a0_0 a1) i n1)))) (n1:Int) ?_;intro i h0 h1 ih;try dsimp only at ih |-
 refine ho.dO λR Q=> ?_
 have e1:o.len a0_0=n1:=(iI ho _).trans hn;conv=>lhs;cbv;rw[e1];cbv
 rcases aZ ho i n1 with ⟨e2,g2⟩|⟨e2,g2⟩<;>(conv=>lhs;rw[e2];cbv)
 ·subst Q;rw[uT (by omega),if_pos rfl];rfl
 ·obtain ⟨x,hx0,hx1,hx2⟩:=ax hn h0 g2;obtain ⟨s1,n2,n3,l1,rfl,hz⟩:=hT _ hx2;have e3:=ak ho h0 hx0;have hp:=Et (s:=a1) hx0;conv=>lhs;rw[e3];cbv
  rcases aP ho s1 a1 with ⟨e4,g4⟩|⟨e4,g4⟩<;>(conv=>lhs;rw[e4];cbv)
  ·obtain ⟨n4,e5,g5⟩:=aW ho i 1;conv=>lhs;rw[e5];cbv
   subst Q;rw[Bk (by omega) (hp.trans (decide_eq_false g4))];rw[show n4=i+1 by omega];exact ih (by omega)
  ·subst Q;rw[Bj (by omega) (hp.trans (decide_eq_true g4)),if_neg (by omega)];rfl
theorem uY (a0_0 a0_1:List D) (a1:ByteArray) (hT:∀x∈a0_0,uE x) (hb:(a0_0.length:Int)<=1048576):o.call 85 [.agg [Al a0_0,Al a0_1],As a1] []=Ar (Ai (jJ a0_0 a1)):=by
 refine ho.aC λR Q=> ?_
 conv=>lhs;cbv
 have hl:=M8 ho a1 a0_0 a0_1 hT _ rfl hb 0 (Int.le_refl _) (by omega);have hf:jJ a0_0 a1=jB (Bg a0_0 a1) 0 a0_0.length:=rfl;rw[<-hf]at hl;by_cases hc:jJ a0_0 a1= -1
 ·have e1:o.loop 8500 (jZ a1 a0_0 a0_1 0)=some (.exit 0,kJ):=hl.trans (by rw[if_pos hc]);conv at e1=>lhs;cbv
  conv=>lhs;rw[e1];cbv
  subst Q;rw[hc];try rfl
 ·obtain ⟨n1,hn1,e1⟩:∃n1,jJ a0_0 a1=n1/\o.loop 8500 (jZ a1 a0_0 a0_1 0)=some (.ret,kI n1):=⟨_,rfl,hl.trans (by rw[if_neg hc])⟩
  conv at e1=>lhs;cbv
  conv=>lhs;rw[e1];cbv
  subst Q;rw[hn1];try rfl
omit ho in
theorem ou (xs:List D) (s:ByteArray):jJ xs s= -1\/(0<=jJ xs s/\jJ xs s<xs.length):=by
 rcases En (P:=Bg xs s) (n:=xs.length) (by omega) 0 (Int.le_refl _) (by omega)with h | ⟨a,b,_⟩
 ·exact .inl h
 ·exact .inr ⟨a,b⟩
end
end T2
