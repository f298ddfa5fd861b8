import Derived.Test.YtfnagkpidcdocaaGreatM20
import Derived.Test.YtfnagkpidcdocaaGreatM19
set_option linter.all false
namespace T2
open Go Go.Vi
def Mv (n i:Int) (x:D):Prop:=∃op N s to,x= .agg [.int .i64 op,.int .i64 N,.str s,.int .i64 to]/\1<=op/\op<=12/\0<=tk op N/\tk op N<=400/\((op=9\/op=10)->i<to/\to<n)
def oS (n:Int):List D->Int->Prop
 | [],_=>True
 | x::xs,i=>Mv n i x/\oS n xs (i+1)
theorem jV {H:List Int} {n a h j:Int} (hn:(H.length:Int)=n) (h0:0<=a) (h1:a<n) (g0:0<=j) (hj:gt H j≠ -1):gt (dn H a h).1 j=gt H j:=by
 unfold dn;split
 ·rename_i e;show gt (H.set a.toNat h) j=_;rw [jU hn h0 h1 g0];split
  ·rename_i e2;rw [e2]at hj;exact absurd e hj
  ·rfl
 ·rfl
theorem mo {c:List Int×Bool} {K:List Int} (h:cm c=some K):c.2=true/\K=c.1:=by
 unfold cm at h;split at h
 ·rename_i e;injection h with h;exact ⟨e,h.symm⟩
 ·cases h
section
variable {o:aK}
theorem uo {n op N to i:Int} {H K:List Int} (hn:(H.length:Int)=n) (h0:0<=i) (hto:(op=9\/op=10)->i<to/\to<n) (e:bW o n H op N to i=some K):(K.length:Int)=n/\∀j,0<=j->gt H j≠ -1->gt K j=gt H j:=by
 unfold bW at e;split at e; · cases e
 split at e; · cases e
 split at e
 ·split at e
  ·cases e;exact ⟨hn,fun _ _ _=>rfl⟩
  ·cases e
 split at e; · cases e;exact ⟨hn,fun _ _ _=>rfl⟩
 split at e
 ·rename_i h10;obtain ⟨_,rfl⟩:=mo e;have:=hto (.inr h10);exact ⟨by rw [fw];exact hn,fun j g hj=>jV hn (by omega) (by omega) g hj⟩
 split at e
 ·rename_i h9;have hb:=hto (.inl h9);cases c1:cm (dn H to (gt H i))with
  | none=>rw [c1]at e;cases e
  | some M=>
   rw [c1]at e;obtain ⟨_,rfl⟩:=mo c1
   replace e:(if i+1<n then cm (dn (dn H to (gt H i)).1 (i+1) (o.ar .sub .i64 (gt H i) 1))else none)=some K:=e
   by_cases hc:i+1<n
   ·rw [if_pos hc]at e;obtain ⟨_,rfl⟩:=mo e;refine ⟨by have q1:=fw (H:=(dn H to (gt H i)).1) (a:=i+1) (h:=o.ar .sub .i64 (gt H i) 1);have q2:=fw (H:=H) (a:=to) (h:=gt H i);omega,fun j g hj=> ?_⟩;have k1:=jV (h:=gt H i) hn (by omega) (by omega) g hj (a:=to);rw [jV (n:=n) (by rw [fw];exact hn) (by omega) (by omega) g (by rw [k1];exact hj),k1]
   ·rw [if_neg hc]at e;cases e
 split at e
 ·obtain ⟨_,rfl⟩:=mo e;exact ⟨by rw [fw];exact hn,fun j g hj=>jV hn (by omega) (by omega) g hj⟩
 ·cases e
theorem DF {n:Int}:∀(xs:List D) (i:Int) (H:List Int),0<=i->(H.length:Int)=n->i+xs.length=n->oS n xs i->∀j,i<=j->j<n->300<gt H j->qb o n xs i H=false:=by
 intro xs;induction xs with
 | nil=>intro i H h0 hn hl _ j h1 h2 _;simp only [List.length_nil]at hl;omega
 | cons x xs ih=>
  intro i H h0 hn hl hok j h1 h2 hj;obtain ⟨⟨op,N,s,to,rfl,o1,o2,t1,t2,hto⟩,hok2⟩:=hok;rw [fR];simp only [List.length_cons]at hl;cases e:bW o n H op N to i with
  | none=>rfl
  | some K=>
   by_cases hij:j=i
   ·subst hij;exfalso;unfold bW at e;by_cases c:gt H j<tk op N
    ·rw [if_pos c]at e;cases e
    ·rw [if_neg c,if_pos hj]at e;cases e
   ·obtain ⟨k1,k2⟩:=uo hn h0 hto e;exact ih (i+1) K (by omega) k1 (by omega) hok2 j (by omega) h2 (by rw [k2 j (by omega) (by omega)];exact hj)
theorem tG {n a h:Int} {H:List Int} (h1:a<n) (hh:h<=300) (hm: -1<=gt H a):bp n H a h=cm (dn H a h):=by
 unfold bp dn;rw [if_neg (by omega),if_neg (by omega)];by_cases e:gt H a= -1
 ·rw [if_pos (by omega),if_pos e];rfl
 ·rw [if_neg (by omega),if_neg e];by_cases e2:gt H a=h
  ·rw [if_pos e2];unfold cm;rw [if_pos (by simp [e2])]
  ·rw [if_neg e2];unfold cm;rw [if_neg (by simp [e2])]
theorem iT {n a h:Int} {H K:List Int} (e:bp n H a h=some K):(K=H.set a.toNat h/\gt H a<0/\h<=300/\a<n)\/(K=H/\gt H a=h/\h<=300/\a<n):=by
 unfold bp at e;split at e; · cases e
 split at e; · cases e
 split at e
 ·injection e with e;exact .inl ⟨e.symm,by assumption,by omega,by omega⟩
 split at e
 ·injection e with e;exact .inr ⟨e.symm,by assumption,by omega,by omega⟩
 ·cases e
def inv (n:Int) (H:List Int):Prop:=(H.length:Int)=n/\∀j,0<=j->j<n-> -1<=gt H j/\gt H j<=300
theorem nu {n a h:Int} {H K:List Int} (hi:inv n H) (h0:0<=a) (hh:0<=h) (e:bp n H a h=some K):inv n K:=by
 rcases iT e with ⟨rfl,h1,h2,h3⟩ | ⟨rfl,_,_,_⟩
 ·refine ⟨by rw [List.length_set];exact hi.1,fun j g0 g1=> ?_⟩;rw [jU hi.1 h0 h3 g0];split
  ·omega
  ·exact hi.2 j g0 g1
 ·exact hi
theorem bind_comm {n a b h k:Int} {H:List Int} (hi:inv n H) (a0:0<=a) (a1:a<n) (b0:0<=b) (b1:b<n) (hh:0<=h/\h<=300) (hk:0<=k/\k<=300) (hne:h≠k):
  (bp n H a h).bind (fun K=>bp n K b k)=(bp n H b k).bind (fun K=>bp n K a h):=by
 have key:∀(a b h k:Int),0<=a->a<n->0<=b->b<n->(0<=h/\h<=300)->(0<=k/\k<=300)->h≠k->∀K,bp n H a h=some K->∀M,bp n K b k=some M->(bp n H b k).bind (fun K=>bp n K a h)=some M:=by
  intro a b h k a0 a1 b0 b1 hh hk hne K e1 M e2;have hab:a≠b:=by
   intro hab;subst hab;rcases iT e1 with ⟨rfl,_,_,_⟩ | ⟨rfl,g,_,_⟩
   ·have hg:gt (H.set a.toNat h) a=h:=by rw [jU hi.1 a0 a1 a0,if_pos rfl]
    rcases iT e2 with ⟨_,g2,_⟩ | ⟨_,g2,_⟩<;>omega
   ·rcases iT e2 with ⟨_,g2,_⟩ | ⟨_,g2,_⟩<;>omega
  have mk:∀(L:List Int) (c v:Int),c<n->v<=300->gt L c<0->bp n L c v=some (L.set c.toNat v):=by
   intro L c v h1 h2 h3;unfold bp;rw [if_neg (by omega),if_neg (by omega),if_pos h3]
  have mk2:∀(L:List Int) (c v:Int),c<n->v<=300->0<=v->gt L c=v->bp n L c v=some L:=by
   intro L c v h1 h2 h3 h4;unfold bp;rw [if_neg (by omega),if_neg (by omega),if_neg (by omega),if_pos h4]
  rcases iT e1 with ⟨rfl,g1,_,_⟩ | ⟨rfl,g1,_,_⟩
  ·have hg:gt (H.set a.toNat h) b=gt H b:=by rw [jU hi.1 a0 a1 b0,if_neg (by omega)]
   rcases iT e2 with ⟨rfl,g2,_,_⟩ | ⟨rfl,g2,_,_⟩
   ·rw [mk H b k b1 hk.2 (by omega),Option.bind_some,mk _ a h a1 hh.2 (by rw [jU hi.1 b0 b1 a0,if_neg hab];exact g1),List.set_comm _ _ (by omega)]
   ·rw [mk2 H b k b1 hk.2 hk.1 (by omega),Option.bind_some,e1]
  ·rcases iT e2 with ⟨rfl,g2,_,_⟩ | ⟨rfl,g2,_,_⟩
   ·rw [e2,Option.bind_some,mk2 _ a h a1 hh.2 hh.1 (by rw [jU hi.1 b0 b1 a0,if_neg hab];exact g1)]
   ·rw [e2,Option.bind_some,e1]
 cases e1:(bp n H a h).bind (fun K=>bp n K b k)with
 | some M=>
  cases c:bp n H a h with
  | none=>rw [c]at e1;cases e1
  | some K=>rw [c]at e1;exact (key a b h k a0 a1 b0 b1 hh hk hne K c M e1).symm
 | none=>
  cases e2:(bp n H b k).bind (fun K=>bp n K a h)with
  | none=>rfl
  | some M=>
   cases c:bp n H b k with
   | none=>rw [c]at e2;cases e2
   | some K=>
    rw [c]at e2;have:=key b a k h b0 b1 a0 a1 hk hh (Ne.symm hne) K c M e2;rw [e1]at this;cases this
variable (ho:aU cF bE o)
include ho
theorem run_eq {n:Int} (hnb:n<=1048576):∀(xs:List D) (i:Int) (H:List Int),0<=i->inv n H->i+xs.length=n->oS n xs i->mg o n xs i H=qb o n xs i H:=by
 intro xs;induction xs with
 | nil=>intro i H _ _ _ _;rfl
 | cons x xs ih=>
  intro i H h0 hi hl hok;obtain ⟨⟨op,N,s,to,rfl,o1,o2,t1,t2,hto⟩,hok2⟩:=hok;simp only [List.length_cons]at hl;have hii:=hi.2 i h0 (by omega);rw [Bv,fR];by_cases hneg:gt H i<0
  ·rw [if_pos hneg];unfold bW;rw [if_pos (by omega)]
  rw [if_neg hneg];have same:∀(r:Option (List Int)),cD o n H op N to i=r->bW o n H op N to i=r->(∀K,r=some K->inv n K)->(match cD o n H op N to i with | none=>false | some K=>mg o n xs (i+1) K)=match bW o n H op N to i with | none=>false | some K=>qb o n xs (i+1) K:=by
   intro r h1 h2 h3;rw [h1,h2];cases r with
   | none=>rfl
   | some K=>exact ih (i+1) K (by omega) (h3 K rfl) (by omega) hok2
  by_cases htk:gt H i<tk op N
  ·exact same none (by unfold cD;rw [if_pos htk]) (by unfold bW;rw [if_pos htk]) (fun K h=>by cases h)
  have hs1:o.ar .sub .i64 (gt H i) 1=gt H i-1:=fP ho (by omega) (by omega);have hs2:o.ar .sub .i64 (gt H i) (tk op N)=gt H i-tk op N:=fP ho (by omega) (by omega);by_cases h12:op=12
  ·subst h12;refine same (if gt H i=1 then some H else none) (by unfold cD;rw [if_neg htk,if_neg (by omega),if_neg (by omega),if_neg (by omega),if_pos rfl]) (by unfold bW;rw [if_neg htk,if_neg (by omega),if_pos rfl]) fun K h=> ?_
   split at h
   ·cases h;exact hi
   ·cases h
  by_cases h11:op=11
  ·subst h11;exact same (some H) (by unfold cD;rw [if_neg htk,if_neg (by omega),if_neg (by omega),if_pos rfl]) (by unfold bW;rw [if_neg htk,if_neg (by omega),if_neg h12,if_pos rfl]) fun K h=>by cases h;exact hi
  by_cases h10:op=10
  ·subst h10;have hb:=hto (.inr rfl);have ht:=hi.2 to (by omega) (by omega);refine same (bp n H to (gt H i)) (by unfold cD;rw [if_neg htk,if_neg (by omega),if_pos rfl,if_neg (by omega)]) (by unfold bW;rw [if_neg htk,if_neg (by omega),if_neg h12,if_neg h11,if_pos rfl,tG (by omega) (by omega) ht.1]) fun K h=>nu hi (by omega) (by omega) h
  by_cases h9:op=9
  ·subst h9;have hb:=hto (.inl rfl);have ht:=hi.2 to (by omega) (by omega);have tk9:tk 9 N=1:=by unfold tk;simp
   refine same ((bp n H (i+1) (gt H i-1)).bind fun K=>bp n K to (gt H i)) (by unfold cD;rw [if_neg htk,if_pos rfl,if_neg (by omega),hs1]) ?_ fun K h=> ?_
   ·unfold bW;rw [if_neg htk,if_neg (by omega),if_neg h12,if_neg h11,if_neg h10,if_pos rfl,bind_comm (a:=i+1) (b:=to) (h:=gt H i-1) (k:=gt H i) hi (by omega) (by omega) (by omega) (by omega) (by omega) (by omega) (by omega),hs1,<-tG (n:=n) (a:=to) (h:=gt H i) (by omega) (by omega) ht.1];cases c:bp n H to (gt H i)with
    | none=>rfl
    | some K=>
     rw [Option.bind_some,Option.bind_some,if_pos (by omega),tG (n:=n) (a:=i+1) (h:=gt H i-1) (by omega) (by omega) ((nu hi (by omega) (by omega) c).2 (i+1) (by omega) (by omega)).1]
   ·cases c:bp n H (i+1) (gt H i-1)with
    | none=>rw [c]at h;cases h
    | some M=>rw [c]at h;exact nu (nu hi (by omega) (by omega) c) (by omega) (by omega) h
  have hlv:lv op=1:=by unfold lv;rw [if_pos (by omega)]
  have hs3:o.ar .add .i64 (gt H i-tk op N) 1=gt H i-tk op N+1:=cM ho (by omega) (by omega);have hI:cD o n H op N to i=bp n H (i+1) (gt H i-tk op N+1):=by unfold cD;rw [if_neg htk,if_neg h9,if_neg h10,if_neg h11,if_neg h12,hs2,hs3]
  have hS:bW o n H op N to i=if i+1<n then cm (dn H (i+1) (gt H i-tk op N+1))else none:=by unfold bW;rw [if_neg htk,if_neg (by omega),if_neg h12,if_neg h11,if_neg h10,if_neg h9,hs2,hlv,hs3]
  by_cases hin:i+1<n
  ·rw [if_pos hin]at hS;have ht:=hi.2 (i+1) (by omega) hin;by_cases hv:gt H i-tk op N+1<=300
   ·exact same _ hI (by rw [hS,tG hin hv ht.1]) fun K h=>nu hi (by omega) (by omega) h
   ·rw [hI,hS];have:bp n H (i+1) (gt H i-tk op N+1)=none:=by unfold bp;rw [if_neg (by omega),if_pos (by omega)]
    rw [this];unfold dn;by_cases e:gt H (i+1)= -1
    ·rw [if_pos e];refine (DF xs (i+1) _ (by omega) (by rw [List.length_set];exact hi.1) (by omega) hok2 (i+1) (by omega) hin ?_).symm;rw [jU hi.1 (by omega) hin (by omega),if_pos rfl];omega
    ·rw [if_neg e,EF (by simp;omega)]
  ·rw [if_neg hin]at hS;exact same none (by rw [hI];unfold bp;rw [if_pos (by omega)]) hS fun K h=>by cases h
theorem Mw {xs:List D} (h1:1<=(xs.length:Int)) (hb:(xs.length:Int)<=1048576) (hok:oS xs.length xs 0):JV o xs=EA o xs:=by
 have hH:=um (n:=(xs.length:Int)) (by omega);refine run_eq ho hb xs 0 _ (Int.le_refl _) ⟨by rw [List.length_set];exact hH,fun j g0 g1=> ?_⟩ (by omega) hok;rw [show ((0:Nat))=(0:Int).toNat from rfl,jU hH (Int.le_refl _) (by omega) g0];split
 ·omega
 ·have:gt (H0 xs.length) j= -1:=by
   unfold gt H0;rw [List.getD_eq_getElem?_getD,List.getElem?_replicate,if_pos (by omega)];rfl
  omega
end
end T2
namespace T2
open Go Go.Vi
set_option maxRecDepth 100000
set_option maxHeartbeats 4000000
def tH (x:D):Prop:=∃s a b xs,x= .agg [.str s,.int .i64 a,.int .i64 b,.lst xs]/\(s.size:Int)<=1048576/\(xs.length:Int)<=1048576/\∀y∈xs,Bu y/\∀op N t to,y= .agg [.int .i64 op,.int .i64 N,.str t,.int .i64 to]->(t.size:Int)<=1048576
def CB (xs:List D) (s:ByteArray) (i:Int):Bool:=match xs[i.toNat]? with | some (.agg (.str t::_))=>decide (t=s) | _=>false
def ja (xs:List D) (s:ByteArray):Int:=jk (CB xs s) 0 xs.length
theorem JW {xs:List D} {s t:ByteArray} {i a b:Int} {l:List D} (h:xs[i.toNat]? =some (.agg [.str t,.int .i64 a,.int .i64 b,.lst l])):CB xs s i=decide (t=s):=by unfold CB;rw [h]
section
variable {o:aK} (ho:aU cF bE o)
include ho
theorem Mx (f_0:ByteArray) (f_1 f_2:Int) (f_3:List D) (s:ByteArray):o.call 277 [.agg [As f_0,Ai f_1,Ai f_2,Al f_3],.sp [.str s] 0] []=Ar (Ab (decide (f_0=s))):=by
 refine ho.aI fun R Q=> ?_
 conv=>lhs;cbv
 rcases aP ho f_0 s with ⟨e1,g1⟩|⟨e1,g1⟩<;>(conv=>lhs;rw [e1];cbv)
 all_goals
  subst Q;exact (Eq.refl _).trans (by simp_all)
def eB (a0:List D) (s:ByteArray) (n1 i:Int):St:=⟨E 19 [(0,Al a0),(1,.fn 277 [.sp [.str s] 0]),(7,Ai n1),(8,Ai i)],O 19 []⟩
def fF (i:Int):St:=⟨E 19 [(4,Ai i)],O 19 []⟩
def fG:St:=⟨E 19 [],O 19 []⟩
def jE (a1:ByteArray) (a0_0 a0_1:List D) (i:Int):St:=⟨E 22 [(1,As a1),(2,.sp [.lst a0_0,.lst a0_1] 0),(5,Ai i)],O 22 []⟩
def jW (i:Int):St:=⟨E 22 [(4,Ai i)],O 22 []⟩
def jX:St:=⟨E 22 [],O 22 []⟩
theorem QA (a0:List D) (s:ByteArray) (hT:∀x∈a0,tH x) (n1:Int) (hn:(a0.length:Int)=n1) (hb:n1<=1048576):∀i:Int,0<=i->i<=(n1:Int)->o.loop 27600 (eB a0 s n1 i)=some (if jk (CB a0 s) i n1= -1 then (.exit 0,fG)else (.ret,fF (jk (CB a0 s) i n1))):=by
 refine cU (P:=fun i=>o.loop 27600 (eB a0 s n1 i)=some (if jk (CB a0 s) i n1= -1 then (.exit 0,fG)else (.ret,fF (jk (CB a0 s) i n1)))) (n1:Int) ?_;intro i h0 h1 ih;try dsimp only at ih |-
 refine ho.gC fun R Q=> ?_
 conv=>lhs;cbv
 rcases bB ho i n1 with ⟨e1,g1⟩|⟨e1,g1⟩<;>(conv=>lhs;rw [e1];cbv)
 ·subst Q;rw [ug (by omega),if_pos rfl];rfl
 ·obtain ⟨x,hx0,hx1,hx2⟩:=aD hn h0 g1;obtain ⟨s1,n2,n3,l1,rfl,hz⟩:=hT _ hx2;have e2:=av ho h0 hx0;have hp:=JW (s:=s) hx0;conv=>lhs;rw [e2];cbv
  cases he3:decide (s1=s)<;>(conv=>lhs;rw [Mx ho,he3];cbv)
  ·obtain ⟨n4,e4,g4⟩:=bA ho i 1;conv=>lhs;rw [e4];cbv
   subst Q;rw [Bo (by omega) (hp.trans he3)];rw [show n4=i+1 by omega];exact ih (by omega)
  ·subst Q;rw [Bn (by omega) (hp.trans he3),if_neg (by omega)];rfl
theorem KJ (a0:List D) (s:ByteArray) (hT:∀x∈a0,tH x) (hb:(a0.length:Int)<=1048576):o.call 276 [Al a0,.fn 277 [.sp [.str s] 0]] []=Ar (Ai (ja a0 s)):=by
 refine ho.aI fun R Q=> ?_
 obtain ⟨n1,e1,g1⟩:=aB ho a0;conv=>lhs;cbv;rw [e1];cbv
 have hl:=QA ho a0 s hT n1 g1.symm (by omega) 0 (Int.le_refl _) (by omega);have hf:ja a0 s=jk (CB a0 s) 0 n1:=by rw [g1];rfl
 rw [<-hf]at hl;by_cases hc:ja a0 s= -1
 ·have e2:o.loop 27600 (eB a0 s n1 0)=some (.exit 0,fG):=hl.trans (by rw [if_pos hc]);conv at e2=>lhs;cbv
  conv=>lhs;rw [e2];cbv
  subst Q;rw [hc];try rfl
 ·obtain ⟨n2,hn2,e2⟩:∃n2,ja a0 s=n2/\o.loop 27600 (eB a0 s n1 0)=some (.ret,fF n2):=⟨_,rfl,hl.trans (by rw [if_neg hc])⟩
  conv at e2=>lhs;cbv
  conv=>lhs;rw [e2];cbv
  subst Q;rw [hn2];try rfl
theorem uq (c_0 c_1:List D) (s:ByteArray) (hT:∀x∈c_0,tH x) (hb:(c_0.length:Int)<=1048576):o.call 180 [.sp [.lst c_0,.lst c_1] 0,As s] []=Ar (Ai (ja c_0 s)):=by
 refine ho.aI fun R Q=> ?_
 obtain ⟨n1,hn1,e1⟩:∃n1,ja c_0 s=n1/\o.call 276 [Al c_0,.fn 277 [.sp [.str s] 0]] []=Ar (Ai n1):=⟨_,rfl,KJ ho c_0 s hT hb⟩
 conv=>lhs;cbv;rw [e1];cbv
 subst Q;rw [hn1];try rfl
theorem Mz (a1:ByteArray) (a0_0 a0_1:List D) (hT:∀x∈a0_0,tH x) (n1:Int) (hn:(a0_0.length:Int)=n1) (hb:n1<=1048576):∀i:Int,0<=i->i<=(n1:Int)->o.loop 8500 (jE a1 a0_0 a0_1 i)=some (if jk (CB a0_0 a1) i n1= -1 then (.exit 0,jX)else (.ret,jW (jk (CB a0_0 a1) i n1))):=by
 refine cU (P:=fun i=>o.loop 8500 (jE a1 a0_0 a0_1 i)=some (if jk (CB a0_0 a1) i n1= -1 then (.exit 0,jX)else (.ret,jW (jk (CB a0_0 a1) i n1)))) (n1:Int) ?_;intro i h0 h1 ih;try dsimp only at ih |-
 refine ho.gC fun R Q=> ?_
 have e1:o.len a0_0=n1:=(lS ho _).trans hn;conv=>lhs;cbv;rw [e1];cbv
 rcases bB ho i n1 with ⟨e2,g2⟩|⟨e2,g2⟩<;>(conv=>lhs;rw [e2];cbv)
 ·subst Q;rw [ug (by omega),if_pos rfl];rfl
 ·obtain ⟨x,hx0,hx1,hx2⟩:=aD hn h0 g2;obtain ⟨s1,n2,n3,l1,rfl,hz⟩:=hT _ hx2;have e3:=av ho h0 hx0;have hp:=JW (s:=a1) hx0;conv=>lhs;rw [e3];cbv
  rcases aP ho s1 a1 with ⟨e4,g4⟩|⟨e4,g4⟩<;>(conv=>lhs;rw [e4];cbv)
  ·obtain ⟨n4,e5,g5⟩:=bA ho i 1;conv=>lhs;rw [e5];cbv
   subst Q;rw [Bo (by omega) (hp.trans (decide_eq_false g4))];rw [show n4=i+1 by omega];exact ih (by omega)
  ·subst Q;rw [Bn (by omega) (hp.trans (decide_eq_true g4)),if_neg (by omega)];rfl
theorem ru (a0_0 a0_1:List D) (a1:ByteArray) (hT:∀x∈a0_0,tH x) (hb:(a0_0.length:Int)<=1048576):o.call 85 [.agg [Al a0_0,Al a0_1],As a1] []=Ar (Ai (ja a0_0 a1)):=by
 refine ho.aI fun R Q=> ?_
 conv=>lhs;cbv
 have hl:=Mz ho a1 a0_0 a0_1 hT _ rfl hb 0 (Int.le_refl _) (by omega);have hf:ja a0_0 a1=jk (CB a0_0 a1) 0 a0_0.length:=rfl;rw [<-hf]at hl;by_cases hc:ja a0_0 a1= -1
 ·have e1:o.loop 8500 (jE a1 a0_0 a0_1 0)=some (.exit 0,jX):=hl.trans (by rw [if_pos hc]);conv at e1=>lhs;cbv
  conv=>lhs;rw [e1];cbv
  subst Q;rw [hc];try rfl
 ·obtain ⟨n1,hn1,e1⟩:∃n1,ja a0_0 a1=n1/\o.loop 8500 (jE a1 a0_0 a0_1 0)=some (.ret,jW n1):=⟨_,rfl,hl.trans (by rw [if_neg hc])⟩
  conv at e1=>lhs;cbv
  conv=>lhs;rw [e1];cbv
  subst Q;rw [hn1];try rfl
omit ho in
theorem oT (xs:List D) (s:ByteArray):ja xs s= -1\/(0<=ja xs s/\ja xs s<xs.length):=by
 rcases KA (P:=CB xs s) (n:=xs.length) (by omega) 0 (Int.le_refl _) (by omega)with h | ⟨a,b,_⟩
 ·exact .inl h
 ·exact .inr ⟨a,b⟩
end
def cn (n:Int) (l:List D):List D:=l++List.replicate (n.toNat-l.length) lD
theorem uG {n:Int} {l:List D} (h:(l.length:Int)<=n):((cn n l).length:Int)=n:=by unfold cn;rw [List.length_append,List.length_replicate];omega
theorem oq {o:aK} {n:Int} {l:List D} (h:∀x∈l,Rt o 8 x):∀x∈cn n l,Sl o x:=by
 intro x hx;rcases List.mem_append.1 hx with h1 | h1
 ·exact .inr (h x h1)
 ·exact .inl (List.eq_of_mem_replicate h1)
def stk (o:aK) (st:List D):Prop:=(st.length:Int)<=100000/\∀x∈st,Rt o 8 x
theorem jZ {o:aK} {st:List D} {n:Nat} (h:stk o st):stk o (st.take n):=⟨by have:=h.1;rw [List.length_take];omega,fun x hx=>h.2 x (List.mem_of_mem_take hx)⟩
theorem iB {o:aK} {st:List D} {n:Nat} (h:stk o st):stk o (st.drop n):=⟨by have:=h.1;rw [List.length_drop];omega,fun x hx=>h.2 x (List.mem_of_mem_drop hx)⟩
theorem Ic {xs:List D} {x y:D} {n:Int} (h:n=xs.length):(xs++[x]).set n.toNat y=xs++[y]:=by
 subst h;rw [Int.toNat_natCast,List.set_append_right _ _ (Nat.le_refl _),Nat.sub_self];rfl
theorem Ie {xs:List D} {x:D} {n:Int} (h:n=xs.length):(xs++[x])[n.toNat]? =some x:=by
 subst h;rw [Int.toNat_natCast,List.getElem?_append_right (Nat.le_refl _),Nat.sub_self];rfl
section
variable {o:aK} (ho:aU cF bE o)
include ho
theorem Ig (fs st:List D) (n:Int) (hst:stk o st) (hn0:0<=n) (hn1:n<=st.length) (k:Int) (hk:k=st.length-n):o.call 197 [.ptr (1,0) 0,Ai n] [some (Ob (1,1) (1,2)),Oo fs,Os st]=some ⟨.arr (0,0) (31,4) none false,[some (Ob (1,1) (0,1)),Oo fs,none],[Os (st.drop k.toNat),Os (st.take k.toNat)]⟩:=by
 have hb:=hst.1;refine ho.aI fun R Q=> ?_
 obtain ⟨n1,e1,g1⟩:=aB ho st;obtain ⟨n2,e2,g2⟩:=aS ho n1 n;obtain ⟨n3,g3,e3⟩:∃v,v=n1-n2/\o.minus n1 n2=v:=⟨_,rfl,ho.minus _ _⟩
 obtain ⟨l1,hl1,e4⟩:∃z,z=st.drop n2.toNat/\o.sub st n2 n3=some z:=⟨_,rfl,by rw [gZ ho (by omega) (by omega) (by omega),List.take_of_length_le (by rw [List.length_drop];omega)]⟩
 obtain ⟨l2,hl2,e5⟩:∃l2,l2=st.drop n2.toNat/\o.call 289 [.arr (1,0) (31,4) (some (n2,n3)) false] [Os st]=some ⟨.arr (0,0) (31,4) none false,[Os st],[Os l2]⟩:=⟨l1,hl1,Ib ho st n2 n3 l1 (by assumption) (by rw [hl1,List.length_drop];omega) (fun z hz=>eG (hst.2 z (by rw [hl1]at hz;exact List.mem_of_mem_drop hz)))⟩
 obtain ⟨n4,g6,e6⟩:∃v,v=n2-0/\o.minus n2 0=v:=⟨_,rfl,ho.minus _ _⟩
 obtain ⟨l3,hl3,e7⟩:∃z,z=st.take n2.toNat/\o.sub st 0 n4=some z:=⟨_,rfl,by rw [gZ ho (Int.le_refl _) (by omega) (by omega)];rw [show n4=n2 by omega];rfl⟩
 conv=>lhs;cbv;rw [e1];cbv;rw [e2];cbv;(try (rw [e1];cbv));rw [e3];cbv;rw [e4];cbv;(try (rw [e3];cbv));rw [e5];cbv;(try (rw [e3];cbv));rw [e6];cbv;(try (rw [e3];cbv));rw [e7];cbv;(try (rw [e3];cbv));(try (rw [e6];cbv));rw [ho.isZero];cbv;(try (rw [e7];cbv))
 subst Q;rw [show k=n2 by omega,<-hl2,<-hl3];try rfl
theorem Bx (fs st:List D) (n:Int) (hst:stk o st) (hn0:0<=n) (hn1:n<=st.length) (k:Int) (hk:k=st.length-n):o.call 186 [.ptr (1,0) 0,Ai n] [some (Ob (1,1) (1,2)),Op fs,Os st]=some ⟨.arr (0,0) (31,4) none false,[some (Ob (1,1) (0,1)),Op fs,none],[Os (st.drop k.toNat),Os (st.take k.toNat)]⟩:=by
 have hb:=hst.1;refine ho.aI fun R Q=> ?_
 obtain ⟨n1,e1,g1⟩:=aB ho st;obtain ⟨n2,e2,g2⟩:=aS ho n1 n;obtain ⟨n3,g3,e3⟩:∃v,v=n1-n2/\o.minus n1 n2=v:=⟨_,rfl,ho.minus _ _⟩
 obtain ⟨l1,hl1,e4⟩:∃z,z=st.drop n2.toNat/\o.sub st n2 n3=some z:=⟨_,rfl,by rw [gZ ho (by omega) (by omega) (by omega),List.take_of_length_le (by rw [List.length_drop];omega)]⟩
 have e5:o.fits 4 56 l1=true:=by exact cX ho (by rw [hl1,List.length_drop];omega) (by decide) (fun z hz=>eG (hst.2 z (by rw [hl1]at hz;exact List.mem_of_mem_drop hz)))
 obtain ⟨n4,g6,e6⟩:∃v,v=n2-0/\o.minus n2 0=v:=⟨_,rfl,ho.minus _ _⟩
 obtain ⟨l2,hl2,e7⟩:∃z,z=st.take n2.toNat/\o.sub st 0 n4=some z:=⟨_,rfl,by rw [gZ ho (Int.le_refl _) (by omega) (by omega)];rw [show n4=n2 by omega];rfl⟩
 conv=>lhs;cbv;rw [e1];cbv;rw [e2];cbv;(try (rw [e1];cbv));rw [e3];cbv;rw [e4];cbv;(try (rw [e3];cbv));(try (rw [e4];cbv));rw [e5];cbv;(try (rw [e3];cbv));rw [e6];cbv;(try (rw [e3];cbv));rw [e7];cbv;(try (rw [e3];cbv));(try (rw [e6];cbv));rw [ho.isZero];cbv;(try (rw [e7];cbv))
 subst Q;rw [show k=n2 by omega,<-hl1,<-hl2];try rfl
theorem uH (fs st:List D) (t_0 t_1:Int) (t_2:ByteArray) (t_3:List D) (code:Int) (hst:stk o st):o.call 194 [.ptr (1,0) 0,At t_0 t_1 t_2 t_3,Ai code] [some (Ob (1,1) (1,2)),Oo fs,Os st]=some (if code=0 then ⟨Ai 7,[some (Ob (1,1) (0,0)),Oo fs,none],[Os (st++[(.agg [.int .i64 t_0,.int .i64 t_1,.str t_2,.lst t_3])])]⟩else ⟨Ai code,[some (Ob (1,1) (1,2)),Oo fs,Os st],[]⟩):=by
 have hb:=hst.1;refine ho.aI fun R Q=> ?_
 conv=>lhs;cbv
 rcases cH ho code 0 with ⟨e1,g1⟩|⟨e1,g1⟩<;>(conv=>lhs;rw [e1];cbv)
 ·obtain ⟨n1,e2,g2⟩:=aB ho st;obtain ⟨l1,hl1,e3⟩:∃z,st++[lD]=z/\o.app st [.agg [.int .i64 0,.int .i64 0,.str ⟨#[]⟩,.lst []]]=z:=⟨_,rfl,ho.app _ _⟩
  conv=>lhs;rw [e2];cbv;rw [e3];cbv
  have e4:o.fits 4 56 l1=true:=by exact cX ho (by rw [<-hl1,List.length_append];simp only [List.length_cons,List.length_nil];omega) (by decide) (fun z hz=>by
   rw [<-hl1]at hz;rcases List.mem_append.1 hz with h | h
   ·exact eG (hst.2 z h)
   ·rw [List.mem_singleton.1 h];rfl)
  obtain ⟨n2,n3,s1,l2,hz,e5⟩:∃n2 n3 s1 l2,lD=(.agg [.int .i64 n2,.int .i64 n3,.str s1,.lst l2])/\o.dm l1 n1=some (.agg [.int .i64 n2,.int .i64 n3,.str s1,.lst l2]):=⟨0,0,⟨#[]⟩,[],rfl,by rw [<-hl1];exact av ho (by omega) (Ie (by omega))⟩
  obtain ⟨l3,hl3,e6⟩:∃z,st++[(.agg [.int .i64 t_0,.int .i64 t_1,.str t_2,.lst t_3])]=z/\o.set l1 n1 (.agg [.int .i64 t_0,.int .i64 t_1,.str t_2,.lst t_3])=z:=⟨_,rfl,by rw [ho.set,<-hl1];exact Ic (by omega)⟩
  conv=>lhs;rw [e4];cbv;rw [e5];cbv;(try (rw [e5];cbv));rw [e6];cbv
  subst Q;rw [if_pos g1,hl3];try rfl
 ·subst Q;rw [if_neg g1];try rfl
theorem pA (fs st:List D) (t_0 t_1:Int) (t_2:ByteArray) (t_3:List D) (hst:stk o st):o.call 284 [.ptr (1,0) 0,At t_0 t_1 t_2 t_3] [some (Ob (1,1) (1,2)),Op fs,Os st]=some ⟨.tup [],[some (Ob (1,1) (0,0)),Op fs,none],[Os (st++[(.agg [.int .i64 t_0,.int .i64 t_1,.str t_2,.lst t_3])])]⟩:=by
 have hb:=hst.1;refine ho.aI fun R Q=> ?_
 have e1:o.fits 4 56 st=true:=by exact cX ho (by omega) (by decide) (fun z hz=>eG (hst.2 z hz))
 obtain ⟨l1,hl1,e2⟩:∃z,st++[(.agg [.int .i64 t_0,.int .i64 t_1,.str t_2,.lst t_3])]=z/\o.app st [.agg [.int .i64 t_0,.int .i64 t_1,.str t_2,.lst t_3]]=z:=⟨_,rfl,ho.app _ _⟩
 conv=>lhs;cbv;rw [e1];cbv;rw [e2];cbv
 have e3:o.fits 4 56 l1=true:=by exact cX ho (by rw [<-hl1,List.length_append];simp only [List.length_cons,List.length_nil];omega) (by decide) (fun z hz=>by
  rw [<-hl1]at hz;rcases List.mem_append.1 hz with h | h
  ·exact eG (hst.2 z h)
  ·rw [List.mem_singleton.1 h];rfl)
 conv=>lhs;rw [e3];cbv
 subst Q;rw [hl1];try rfl
theorem load_ (fs st:List D) (t_0 t_1:Int) (t_2:ByteArray) (t_3:List D) (hst:stk o st) (hT:Tm 8 (.agg [.int .i64 t_0,.int .i64 t_1,.str t_2,.lst t_3])):o.call 195 [.ptr (1,0) 0,At t_0 t_1 t_2 t_3] [some (Ob (1,1) (1,2)),Oo fs,Os st]=some (if bY (.agg [.int .i64 t_0,.int .i64 t_1,.str t_2,.lst t_3]) lD=true then ⟨Ai 1,[some (Ob (1,1) (1,2)),Oo fs,Os st],[]⟩else ⟨Ai 7,[some (Ob (1,1) (0,0)),Oo fs,none],[Os (st++[(.agg [.int .i64 t_0,.int .i64 t_1,.str t_2,.lst t_3])])]⟩):=by
 refine ho.aI fun R Q=> ?_
 conv=>lhs;cbv
 cases he1:bY (.agg [.int .i64 t_0,.int .i64 t_1,.str t_2,.lst t_3]) lD<;>(conv=>lhs;rw [Fj ho _ _ _ _ hT,he1];cbv)
 ·obtain ⟨l1,hl1,e2⟩:∃z,st++[(.agg [.int .i64 t_0,.int .i64 t_1,.str t_2,.lst t_3])]=z/\o.call 194 [.ptr (1,0) 0,At t_0 t_1 t_2 t_3,Ai 0] [some (Ob (1,1) (1,2)),Oo fs,Os st]=some ⟨Ai 7,[some (Ob (1,1) (0,0)),Oo fs,none],[Os z]⟩:=⟨_,rfl,uH ho fs st _ _ _ _ 0 hst⟩
  conv=>lhs;rw [e2];cbv
  subst Q;try rw [he1]
  rw [if_neg Bool.false_ne_true,hl1];try rfl
 ·subst Q;try rw [he1]
  rw [if_pos rfl];try rfl
end
theorem ou {o:aK} {r:D×Int} (h:H9 o r):∃k n s l c,r=(.agg [.int .i64 k,.int .i64 n,.str s,.lst l],c)/\(c=0\/c=3\/c=4)/\(c=0->Rt o 8 (.agg [.int .i64 k,.int .i64 n,.str s,.lst l])):=by
 obtain ⟨k,n,s,l,e,h1,h2⟩:=h;obtain ⟨a,c⟩:=r;simp only at e h1 h2;subst e;exact ⟨k,n,s,l,c,rfl,h1,h2⟩
theorem KS {a r:List D} {i:Nat} {x:D} (h:a[i]? =some x) (hr:i<r.length):(a.take i++r.drop i).set i x=a.take (i+1)++r.drop (i+1):=by
 have hl:i<a.length:=(ai.1 h).1;rw [List.set_append_right _ _ (by rw [List.length_take];omega),List.length_take,show i-min i a.length=0 by omega,List.drop_eq_getElem_cons hr,List.set_cons_zero,List.take_add_one,h,List.append_assoc];rfl
section
variable {o:aK} (ho:aU cF bE o)
include ho
theorem Bz (fs st:List D) (k n:Int) (hst:stk o st) (hn0:0<=n) (hn1:n<=st.length) (hk:k=4\/k=5\/k=6) (hk6:k=6->1<=n) (hn2:n<=400):o.call 196 [.ptr (1,0) 0,Ai k,Ai n] [some (Ob (1,1) (1,2)),Oo fs,Os st]=some ⟨Ai (if (gu o k (st.drop ((st.length:Int)-n).toNat)).2=0 then 7 else (gu o k (st.drop ((st.length:Int)-n).toNat)).2),[some (Ob (1,1) (0,0)),Oo fs,none],[Os (if (gu o k (st.drop ((st.length:Int)-n).toNat)).2=0 then st.take ((st.length:Int)-n).toNat++[(gu o k (st.drop ((st.length:Int)-n).toNat)).1]else st.take ((st.length:Int)-n).toNat)]⟩:=by
 refine ho.aI fun R Q=> ?_
 obtain ⟨l1,l2,hl1,hl2,e1⟩:∃l1 l2,l1=st.drop ((st.length:Int)-n).toNat/\l2=st.take ((st.length:Int)-n).toNat/\o.call 197 [.ptr (1,0) 0,Ai n] [some (Ob (1,1) (1,2)),Oo fs,Os st]=some ⟨.arr (0,0) (31,4) none false,[some (Ob (1,1) (0,1)),Oo fs,none],[Os l1,Os l2]⟩:=⟨_,_,rfl,rfl,Ig ho fs st n hst hn0 hn1 _ rfl⟩
 have hs1:stk o l1:=by rw [hl1];exact iB hst
 have hs2:stk o l2:=by rw [hl2];exact jZ hst
 have hlen1:(l1.length:Int)=n:=by rw [hl1,List.length_drop];omega
 obtain ⟨n1,n2,s1,l3,n3,hA,hA2,hA3⟩:=ou (mq (k:=k) hs1.2 (by omega));have e2:o.call 288 [Ai k,Al l1] []=Ar (.tup [At n1 n2 s1 l3,Ai n3]):=(MG ho k l1 hk hs1.2 (by omega) (by omega)).trans (by rw [hA];rfl);conv=>lhs;cbv;rw [e1];cbv;rw [e2];cbv
 by_cases hq:n3=0
 ·obtain ⟨l4,hl4,e3⟩:∃l4,l2++[(.agg [.int .i64 n1,.int .i64 n2,.str s1,.lst l3])]=l4/\o.call 194 [.ptr (1,0) 0,At n1 n2 s1 l3,Ai n3] [some (Ob (1,1) (1,2)),Oo fs,Os l2]=some ⟨Ai 7,[some (Ob (1,1) (0,0)),Oo fs,none],[Os l4]⟩:=⟨_,rfl,(uH ho fs l2 _ _ _ _ n3 hs2).trans (by rw [if_pos hq])⟩
  conv=>lhs;rw [e3];cbv
  subst Q;rw [<-hl1,<-hl2,hA];show _=some (bk.mk (Ai (if n3=0 then 7 else n3)) _ [Os (if n3=0 then l2++[(.agg [.int .i64 n1,.int .i64 n2,.str s1,.lst l3])]else l2)]);rw [if_pos hq,if_pos hq,hl4];try rfl
 ·have e3:o.call 194 [.ptr (1,0) 0,At n1 n2 s1 l3,Ai n3] [some (Ob (1,1) (1,2)),Oo fs,Os l2]=some ⟨Ai n3,[some (Ob (1,1) (1,2)),Oo fs,Os l2],[]⟩:=(uH ho fs l2 _ _ _ _ n3 hs2).trans (by rw [if_neg hq]);conv=>lhs;rw [e3];cbv
  subst Q;rw [<-hl1,<-hl2,hA];show _=some (bk.mk (Ai (if n3=0 then 7 else n3)) _ [Os (if n3=0 then l2++[(.agg [.int .i64 n1,.int .i64 n2,.str s1,.lst l3])]else l2)]);rw [if_neg hq,if_neg hq];try rfl
theorem zN (c_0 c_1:List D) (at':Int) (l:List D) (s1:ByteArray) (n1 n2:Int) (l1:List D) (h0:0<=at') (hx:c_0[at'.toNat]? =some (.agg [.str s1,.int .i64 n1,.int .i64 n2,.lst l1])) (hl:(l.length:Int)<=n2) (hn:n2<=400) (hT:∀x∈l,Rt o 8 x):o.call 247 [.sp [.lst c_0,.lst c_1] 0,Ai at',Al l] []=some ⟨.agg [Ai at',Ai 0,.arr (0,0) (31,4) none true],[],[Os (cn n2 l)]⟩:=by
 refine ho.aI fun R Q=> ?_
 have e1:=av ho h0 hx;have e2:o.cmp .eql n2 n2=true:=cw ho rfl;have e3:o.eP 56 n2=true:=by rw [ho.eP];exact decide_eq_true (by omega)
 obtain ⟨l2,hl2,e4⟩:∃z,z=List.replicate n2.toNat lD/\o.lW n2 (.agg [.int .i64 0,.int .i64 0,.str ⟨#[]⟩,.lst []])=z:=⟨_,rfl,ho.lW _ _⟩
 have e5:o.fits 4 0 l=true:=by exact cX ho (by omega) (by decide) (fun z hz=>eG (hT z hz))
 conv=>lhs;cbv;rw [e1];cbv;rw [e2];cbv;rw [e3];cbv;rw [e4];cbv;rw [e5];cbv
 obtain ⟨l3,hl3,e6⟩:∃z,cn n2 l=z/\o.over l2 l=z:=by
  refine ⟨_,rfl,?_⟩;have h:o.over l2 l=l.take l2.length++l2.drop l.length:=by rw [ho];rfl
  rw [h,hl2,List.length_replicate,List.take_of_length_le (by omega),List.drop_replicate];rfl
 conv=>lhs;rw [e6];cbv
 subst Q;rw [hl3];try rfl
def j4 (a2:List D) (i a1:Int) (y:List D):St:=⟨E 34 [(2,Al a2),(6,.ptr (6,0) 0),(7,.ptr (7,0) 0),(8,Ai i)],O 34 [(6,[some (.box [Ai 0,Ai 0,.emp])]),(7,[some (.box [Ai a1,Ai 0,.arr (16,0) (31,4) none true])]),(16,[Os y])]⟩
def iU (a1:Int) (y:List D):St:=⟨E 34 [(6,.ptr (6,0) 0),(7,.ptr (7,0) 0)],O 34 [(6,[some (.box [Ai 0,Ai 0,.emp])]),(7,[some (.box [Ai a1,Ai 0,.arr (16,0) (31,4) none true])]),(16,[Os y])]⟩
theorem KT (a2:List D) (a1 n:Int) (hl:(a2.length:Int)<=n) (hn:n<=400) (hT:∀x∈a2,Rt o 8 x):∀i:Int,0<=i->i<=(a2.length:Int)->∀y:List D,y=a2.take i.toNat++(List.replicate n.toNat lD).drop i.toNat->o.loop 18700 (j4 a2 i a1 y)=some (.exit 0,iU a1 (cn n a2)):=by
 refine cU (P:=fun i=>∀y:List D,y=a2.take i.toNat++(List.replicate n.toNat lD).drop i.toNat->o.loop 18700 (j4 a2 i a1 y)=some (.exit 0,iU a1 (cn n a2))) (a2.length:Int) ?_;intro i h0 h1 ih;try dsimp only at ih |-
 intro y hy;have hyl:(y.length:Int)=n:=by rw [hy,List.length_append,List.length_take,List.length_drop,List.length_replicate];omega
 have hyS:∀x∈y,Sl o x:=by
   intro x hx;rw [hy]at hx;rcases List.mem_append.1 hx with h | h
   ·exact .inr (hT x (List.mem_of_mem_take h))
   ·exact .inl (List.eq_of_mem_replicate (List.mem_of_mem_drop h))
 refine ho.gC fun R Q=> ?_
 obtain ⟨n1,e1,g1⟩:=aB ho a2;conv=>lhs;cbv;rw [e1];cbv
 rcases bB ho i n1 with ⟨e2,g2⟩|⟨e2,g2⟩<;>(conv=>lhs;rw [e2];cbv)
 ·subst Q;have hE:y=cn n a2:=by
   rw [hy,List.take_of_length_le (by omega),List.drop_replicate];unfold cn;rw [show n.toNat-i.toNat=n.toNat-a2.length by omega]
  rw [<-hE];rfl
 ·obtain ⟨x,hx0,hx1,hx2⟩:=aD (xs:=a2) rfl h0 (by omega);obtain ⟨m1,n2,n3,s1,l1,hd1,rfl,hs,ht⟩:=fL (hT _ hx2);have e3:=av ho h0 hx0;have e4:o.call 202 [At n2 n3 s1 l1] []=Ar (At n2 n3 s1 l1):=tO ho 8 _ _ _ _ (j6 (hT _ hx2));obtain ⟨y1,hy0,hy1,hy2⟩:=aD hyl h0 (by omega);obtain ⟨n4,n5,s2,l2,rfl⟩:=DJ (hyS _ hy2);have e5:=av ho h0 hy0;obtain ⟨l3,hset,e6⟩:∃z,z=a2.take (i.toNat+1)++(List.replicate n.toNat lD).drop (i.toNat+1)/\o.set y i (.agg [.int .i64 n2,.int .i64 n3,.str s1,.lst l1])=z:=⟨_,rfl,by rw [ho.set,hy];exact KS hx0 (by rw [List.length_replicate];omega)⟩
  obtain ⟨n6,e7,g7⟩:=bA ho i 1;conv=>lhs;rw [e3];cbv;rw [e4];cbv;rw [e5];cbv;(try (rw [e5];cbv));rw [e6];cbv;rw [e7];cbv
  subst Q;rw [show n6=i+1 by omega];exact ih (by omega) _ (by rw [hset,show (i+1).toNat=i.toNat+1 by omega])
theorem w8 (a0_0 a0_1:List D) (a1:Int) (a2:List D) (s1:ByteArray) (n1 n2:Int) (l1:List D) (h0:0<=a1) (hx:a0_0[a1.toNat]? =some (.agg [.str s1,.int .i64 n1,.int .i64 n2,.lst l1])) (hl:(a2.length:Int)<=n2) (hn:n2<=400) (hT:∀x∈a2,Rt o 8 x):o.call 187 [.agg [Al a0_0,Al a0_1],Ai a1,Al a2] []=Ar (.agg [Ai a1,Ai 0,Al (cn n2 a2)]):=by
 refine ho.aI fun R Q=> ?_
 have e1:=av ho h0 hx;have e2:o.cmp .eql n2 n2=true:=cw ho rfl;have e3:o.eP 56 n2=true:=by rw [ho.eP];exact decide_eq_true (by omega)
 obtain ⟨l2,hl2,e4⟩:∃z,z=List.replicate n2.toNat lD/\o.lW n2 (.agg [.int .i64 0,.int .i64 0,.str ⟨#[]⟩,.lst []])=z:=⟨_,rfl,ho.lW _ _⟩
 conv=>lhs;cbv;rw [e1];cbv;rw [e2];cbv;rw [e3];cbv;rw [e4];cbv
 obtain ⟨l3,hl3,e5⟩:∃l3,cn n2 a2=l3/\o.loop 18700 (j4 a2 0 a1 l2)=some (.exit 0,iU a1 l3):=⟨_,rfl,KT ho a2 a1 n2 hl hn hT 0 (Int.le_refl _) (by omega) l2 hl2⟩
 conv at e5=>lhs;cbv
 conv=>lhs;rw [e5];cbv
 subst Q;rw [hl3];try rfl
theorem call_ (fs st c_0 c_1:List D) (x_0 x_1:Int) (x_2:ByteArray) (x_3:Int) (hC:∀x∈c_0,tH x) (hCb:(c_0.length:Int)<=1048576) (at':Int) (hat:ja c_0 x_2=at') (s1:ByteArray) (m1 m2:Int) (q1:List D) (h0:0<=at') (hx:c_0[at'.toNat]? =some (.agg [.str s1,.int .i64 m1,.int .i64 m2,.lst q1])) (hm1:x_1<=m2) (hm2:m2<=400) (hst:stk o st) (hn0:0<=x_1) (hn1:x_1<=st.length) (hf:∀x∈fs,x.cells.length=3) (hfl:(fs.length:Int)<=40):o.call 199 [.ptr (1,0) 0,.sp [.lst c_0,.lst c_1] 0,.agg [Ai x_0,Ai x_1,As x_2,Ai x_3]] [some (Ob (1,1) (1,2)),Oo fs,Os st]=some (if (fs.length:Int)=40 then ⟨Ai 5,[some (Ob (1,1) (1,2)),Oo fs,Os st],[]⟩else ⟨Ai 7,[some (Ob (0,0) (0,1)),none,none],[Oo (fs++[(.agg [.int .i64 at',.int .i64 0,.own (31,4) (cn m2 (st.drop ((st.length:Int)-x_1).toNat))])]),Os (st.take ((st.length:Int)-x_1).toNat)]⟩):=by
 obtain ⟨n1,e1,g1⟩:=aB ho fs;rcases ak ho n1 40 with ⟨e2,g2⟩|⟨e2,g2⟩
 ·obtain ⟨l1,l2,hl1,hl2,e3⟩:∃l1 l2,l1=st.drop ((st.length:Int)-x_1).toNat/\l2=st.take ((st.length:Int)-x_1).toNat/\o.call 197 [.ptr (1,0) 0,Ai x_1] [some (Ob (1,1) (1,2)),Oo fs,Os st]=some ⟨.arr (0,0) (31,4) none false,[some (Ob (1,1) (0,1)),Oo fs,none],[Os l1,Os l2]⟩:=⟨_,_,rfl,rfl,Ig ho fs st x_1 hst hn0 hn1 _ rfl⟩
  have hs1:stk o l1:=by rw [hl1];exact iB hst
  have hs2:stk o l2:=by rw [hl2];exact jZ hst
  have hlen1:(l1.length:Int)=x_1:=by rw [hl1,List.length_drop];omega
  obtain ⟨n2,hn2,e4⟩:∃n2,n2=at'/\o.call 180 [.sp [.lst c_0,.lst c_1] 0,As x_2] []=Ar (Ai n2):=⟨_,rfl,(uq ho c_0 c_1 x_2 hC hCb).trans (by rw [hat])⟩
  obtain ⟨l3,hl3,e5⟩:∃l3,cn m2 l1=l3/\o.call 247 [.sp [.lst c_0,.lst c_1] 0,Ai n2,Al l1] []=some ⟨.agg [Ai n2,Ai 0,.arr (0,0) (31,4) none true],[],[Os l3]⟩:=⟨_,rfl,by rw [hn2];exact zN ho c_0 c_1 at' l1 s1 m1 m2 q1 h0 hx (by omega) hm2 hs1.2⟩
  obtain ⟨n3,n4,l5,⟨hn3,hn4,hl5⟩,e6⟩:∃n3 n4 l5,(n3=n2/\n4=0/\l5=([]:List D))/\o.dm [.agg [.int .i64 n2,.int .i64 0,.own (31,4) []]] 0=some (.agg [.int .i64 n3,.int .i64 n4,.own (31,4) l5]):=⟨_,_,_,⟨rfl,rfl,rfl⟩,av ho (Int.le_refl _) rfl⟩
  have e7:o.flat l3=true:=by exact pz ho (by rw [<-hl3];exact oq hs1.2)
  obtain ⟨l6,hl6,e8⟩:∃z,[(.agg [.int .i64 n3,.int .i64 n4,.own (31,4) l3])]=z/\o.set [.agg [.int .i64 n2,.int .i64 0,.own (31,4) []]] 0 (.agg [.int .i64 n3,.int .i64 n4,.own (31,4) l3])=z:=⟨_,rfl,by rw [ho.set];rfl⟩
  obtain ⟨l7,hl7,e9⟩:∃z,fs++l6=z/\o.app fs l6=z:=⟨_,rfl,ho.app _ _⟩
  have e10:o.fits 3 40 l7=true:=by exact cX ho (by rw [<-hl7,<-hl6,List.length_append];simp only [List.length_cons,List.length_nil];omega) (by decide) (fun z hz=>by
   rw [<-hl7,<-hl6]at hz;rcases List.mem_append.1 hz with h | h
   ·exact hf z h
   ·rw [List.mem_singleton.1 h];rfl)
  rw [<-hl6]at e8 e9 hl7;rw [if_neg (by omega),<-hl1,<-hl2,hl3,<-hn2,<-hn3,<-hn4,hl7];exact (ho.aq (by cbv;repeat (simp only [e1,e2,e3,e4,e5,e6,e7,e8,e9,e10];try cbv)):o.call 199 [.ptr (1,0) 0,.sp [.lst c_0,.lst c_1] 0,.agg [Ai x_0,Ai x_1,As x_2,Ai x_3]] [some (Ob (1,1) (1,2)),Oo fs,Os st]=some ⟨Ai 7,[some (Ob (0,0) (0,1)),none,none],[Oo l7,Os l2]⟩)
 ·rw [if_pos (by omega)];exact (ho.aq (by cbv;repeat (simp only [e1,e2];try cbv)):o.call 199 [.ptr (1,0) 0,.sp [.lst c_0,.lst c_1] 0,.agg [Ai x_0,Ai x_1,As x_2,Ai x_3]] [some (Ob (1,1) (1,2)),Oo fs,Os st]=some ⟨Ai 5,[some (Ob (1,1) (1,2)),Oo fs,Os st],[]⟩)
end
end T2
