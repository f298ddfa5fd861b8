import Derived.Test.YtfnagkpidcdocaaGreatM42
import Derived.Test.YtfnagkpidcdocaaGreatM43
import Derived.Test.YtfnagkpidcdocaaGreatM45
import Derived.Test.YtfnagkpidcdocaaGreatM44
set_option linter.all false
namespace T2
open Go Go.Vi Go.Proofs
set_option maxRecDepth 100000
section
variable {o:aJ} (ho:aR cF bB o)
include ho
theorem C8:∀(n:Nat) (ds:List D),(Fits Tryz.prog n 62 ds\/Fits Tryz.prog n 245 ds)->lg 1048576 ds->Tm n (.agg ds):=by
 intro n;induction n using Nat.strongRecOn with
 | ind n ih=>
  intro ds h hs;cases n with
  | zero=>rcases h with h | h<;>simp[Fits]at h
  | succ n=>
   have key:∃k m s l,ds=[.int .i64 k,.int .i64 m,.str s,.lst l]/\(Fits Tryz.prog n 26 [.lst l]\/Fits Tryz.prog n 23 [.lst l]):=by
    rcases h with h | h
    ·obtain ⟨k,m,s,l,_,e,_⟩:=(mD ho (n+1)).2.2.2.2.2.1 ds h hs;subst e;obtain ⟨c0,c1,c2,c3,e2,_,_,_,f3⟩:=vB h;simp only[List.cons.injEq,and_true]at e2;obtain ⟨rfl,rfl,rfl,rfl⟩:=e2;exact ⟨k,m,s,l,rfl,.inl f3⟩
    ·obtain ⟨k,m,s,l,_,e,_⟩:=(mD ho (n+1)).2.2.2.2.2.2.2.2.1 ds h hs;subst e;obtain ⟨c0,c1,c2,c3,e2,_,_,_,f3⟩:=rC h;simp only[List.cons.injEq,and_true]at e2;obtain ⟨rfl,rfl,rfl,rfl⟩:=e2;exact ⟨k,m,s,l,rfl,.inr f3⟩
   obtain ⟨k,m,s,l,rfl,f3⟩:=key;simp only[lg,Sm,kq]at hs;refine ⟨k,m,s,l,rfl,by omega,by omega,λx hx=> ?_⟩;cases n with
   | zero=>rcases f3 with h | h<;>simp[Fits]at h
   | succ n=>
    rcases f3 with f3 | f3
    ·obtain ⟨ys,m',em,e_,w,v⟩:=aS Tryz.underlying26 f3;injection e_ with e_;injection e_ with e_;subst e_;injection em with em;subst em;obtain ⟨f1,f2⟩:=v x hx;rw[show bY Tryz.prog 62=true by unfold bY;rw[Tryz.underlying62]]at f2;rw[cT f2];exact lq (ih n (by omega) _ (.inl f1) (jG (hs.2.2.2.1.2 x hx)))
    ·obtain ⟨ys,m',em,e_,w,v⟩:=aS Tryz.underlying23 f3;injection e_ with e_;injection e_ with e_;subst e_;injection em with em;subst em;obtain ⟨f1,f2⟩:=v x hx;rw[show bY Tryz.prog 245=true by unfold bY;rw[Tryz.underlying245]]at f2;rw[cT f2];exact lq (ih n (by omega) _ (.inr f1) (jG (hs.2.2.2.1.2 x hx)))
theorem Ah {n:Nat} {xs:List D} (h:Fits Tryz.prog n 26 [.lst xs]) (hs:Sm 1048576 (.lst xs)):∀x∈xs,Tm n x:=by
 cases n with
 | zero=>simp[Fits]at h
 | succ n=>
  obtain ⟨ys,m',em,e_,w,v⟩:=aS Tryz.underlying26 h;injection e_ with e_;injection e_ with e_;subst e_;injection em with em;subst em;simp only[Sm,kq]at hs;intro x hx;obtain ⟨f1,f2⟩:=v x hx;rw[show bY Tryz.prog 62=true by unfold bY;rw[Tryz.underlying62]]at f2;rw[cT f2];exact lq (C8 ho n _ (.inl f1) (jG (hs.2 x hx)))
theorem FY {n:Nat} {ds:List D} (h:Fits Tryz.prog n 388 ds) (hs:lg 1048576 ds):yu (.agg ds)/\∀op N t to,D.agg ds= .agg [.int .i64 op,.int .i64 N,.str t,.int .i64 to]->(t.size:Int)<=1048576:=by
 obtain ⟨c0,c1,c2,c3,e,_⟩:=(mD ho n).2.2.2.2.2.2.2.2.2.2.2 ds h hs;subst e;simp only[lg,Sm]at hs;refine ⟨⟨_,_,_,_,rfl⟩,λop N t to e=> ?_⟩;injection e with e;simp only[List.cons.injEq,D.int.injEq,D.str.injEq,true_and,and_true]at e;obtain ⟨rfl,rfl,rfl,rfl⟩:=e;omega
theorem I7 {n:Nat} {ds:List D} (h:Fits Tryz.prog n 242 ds) (hs:lg 1048576 ds):uE (.agg ds):=by
 obtain ⟨c0,c1,c2,x3,_,e,_⟩:=(mD ho n).2.2.2.2.2.2.2.1 ds h hs;subst e;cases n with
 | zero=>simp[Fits]at h
 | succ n=>
  obtain ⟨d0,d1,d2,d3,e2,_,_,_,f3⟩:=rz h;simp only[List.cons.injEq,and_true]at e2;obtain ⟨rfl,rfl,rfl,rfl⟩:=e2;simp only[lg,Sm,kq]at hs;refine ⟨c0,c1,c2,x3,rfl,by omega,by omega,λy hy=> ?_⟩;obtain ⟨ys,m',em,e_,w,v⟩:=aS Tryz.underlying240 f3;injection e_ with e_;injection e_ with e_;subst e_;subst em;obtain ⟨f1,f2⟩:=v y hy;rw[show bY Tryz.prog 388=true by unfold bY;rw[Tryz.underlying388]]at f2;have hq:=FY ho f1 (jG (hs.2.2.2.1.2 y hy));rw[<-cT f2]at hq;exact hq
theorem DQ {n:Nat} {ds:List D} (h:Fits Tryz.prog n 25 ds) (hs:lg 1048576 ds):∃fns ps,ds=[.lst fns,.lst ps]/\f8 fns ps:=by
 obtain ⟨x0,_,x1,_,e,_⟩:=(mD ho n).1 ds h hs;subst e;refine ⟨x0,x1,rfl,?_⟩;cases n with
 | zero=>simp[Fits]at h
 | succ n=>
  obtain ⟨d0,d1,e2,f0,f1⟩:=vz h;simp only[List.cons.injEq,and_true]at e2;obtain ⟨rfl,rfl⟩:=e2;simp only[lg,Sm,kq]at hs;obtain ⟨ys,m,em,e_,w,v⟩:=aS Tryz.underlying22 f0;injection e_ with e_;injection e_ with e_;subst e_;obtain ⟨ys,m2,em2,e_,w2,v2⟩:=aS Tryz.underlying23 f1;injection e_ with e_;injection e_ with e_;subst e_;refine ⟨λx hx=> ?_,by omega,⟨m2,λx hx=> ?_⟩,by omega⟩
  ·obtain ⟨g1,g2⟩:=v x hx;rw[show bY Tryz.prog 242=true by unfold bY;rw[Tryz.underlying242]]at g2;rw[cT g2];exact I7 ho g1 (jG (hs.1.2 x hx))
  ·obtain ⟨g1,g2⟩:=v2 x hx;rw[show bY Tryz.prog 245=true by unfold bY;rw[Tryz.underlying245]]at g2;rw[cT g2];exact C8 ho m2 _ (.inr g1) (jG (hs.2.1.2 x hx))
end
end T2
namespace T2
open Go Go.Vi Go.Proofs
set_option maxRecDepth 100000
set_option maxHeartbeats 4000000
section
variable {o:aJ} (ho:aR cF bB o)
include ho
def gk (i:Int) (t:ByteArray):St:=⟨E 20 [(0,Ai i),(3,As t)],O 20 []⟩
def jo (t:ByteArray):St:=⟨E 20 [(3,As t)],O 20 []⟩
theorem sR {i n1 n2 n3:Int} {s1 t s2:ByteArray} {n4:Int} (e1:o.cmp .gtr i 0=true) (e3:o.ar .rem .i64 i 10=n1) (e4:o.ar .add .i64 48 n1=n2) (e5:o.wrap .u8 n2=n3) (e6:o.ofBytes [.int .u8 n3]=some s1) (e7:o.rJ s1 t=true) (e8:o.yT s1 t=s2) (e9:o.ar .quo .i64 i 10=n4):∀z,o.loop 9600 (gk n4 s2)=some z->o.loop 9600 (gk i t)=some z:=by
 intro z hz;refine ho.aB ?_;rw[<-hz];clear hz;have f2:o.isZero 10=false:=by rw[ho.isZero];rfl
 cbv
 repeat' (first | (rw[e1];try cbv) | (rw[f2];try cbv) | (rw[e3];try cbv) | (rw[e4];try cbv) | (rw[e5];try cbv) | (rw[e6];try cbv) | (rw[e7];try cbv) | (rw[e8];try cbv) | (rw[e9];try cbv))
theorem sU {i:Int} {t:ByteArray} (e1:o.cmp .gtr i 0=false):o.loop 9600 (gk i t)=some (.exit 0,jo t):=by
 refine ho.aB ?_
 cbv
 repeat' (first | (rw[e1];try cbv))
theorem vF {a0:Int} (e1:o.cmp .leq a0 0=true):o.call 96 [Ai a0] []=Ar (As ⟨#[109,48]⟩):=by
 refine ho.au ?_
 cbv
 repeat' (first | (rw[e1];try cbv))
theorem vG {a0:Int} {s1 s2:ByteArray} (e1:o.cmp .leq a0 0=false) (e2:o.loop 9600 (gk a0 ⟨#[]⟩)=some (.exit 0,jo s1)) (e3:o.rJ ⟨#[109]⟩ s1=true) (e4:o.yT ⟨#[109]⟩ s1=s2):o.call 96 [Ai a0] []=Ar (As s2):=by
 refine ho.au ?_
 cbv at e2
 cbv
 repeat' (first | (rw[e1];try cbv) | (rw[e2];try cbv) | (rw[e3];try cbv) | (rw[e4];try cbv))
theorem vH {k:Int} {c_0:List D} {n1:Int} {l1 c_1:List D} {n2:Int} {l2:List D} (e1:o.call 94 [.arr (1,0) (226,4) none true,Ai k] [some (.orows (226,4) c_0)]=some ⟨Ai n1,[some (.orows (226,4) l1)],[]⟩) (e2:o.call 95 [.arr (1,0) (249,4) none true,Ai n1] [some (.orows (249,4) c_1)]=some ⟨Ai n2,[some (.orows (249,4) l2)],[]⟩):o.call 23 [.agg [.arr (1,0) (226,4) none true,.arr (1,1) (249,4) none true],Ai k] [some (.orows (226,4) c_0),some (.orows (249,4) c_1)]=some ⟨Ai n2,[some (.orows (226,4) l1),some (.orows (249,4) l2)],[]⟩:=by
 refine ho.au ?_
 cbv
 repeat' (first | (rw[e1];try cbv) | (rw[e2];try cbv))
theorem vI {k:Int} {l:List D} {n1:Int} {l1:List D} {m n:Int} {s:ByteArray} (e1:o.call 24 [.arr (1,0) (31,4) none false,Ai k] [Oq l]=some ⟨Ai n1,[Oq l1],[]⟩):o.call 25 [.agg [Ai m,Ai n,As s,.arr (1,0) (31,4) none false],Ai k] [Oq l]=some ⟨Ai n1,[Oq l1],[]⟩:=by
 refine ho.au ?_
 cbv
 repeat' (first | (rw[e1];try cbv))
theorem uq {k n1 m n:Int} {s:ByteArray} (e1:o.call 24 [.emp,Ai k] []=Ar (Ai n1)):o.call 25 [.agg [Ai m,Ai n,As s,.emp],Ai k] []=Ar (Ai n1):=by
 refine ho.au ?_
 cbv
 repeat' (first | (rw[e1];try cbv))
theorem oL {l:List D} {k n1 m n:Int} {s:ByteArray} (e1:o.call 97 [Al l,Ai k] []=Ar (Ai n1)) (e2:o.cmp .lss n1 0=false):o.call 26 [At m n s l,Ai k] []=Ar (Ai n1):=by
 refine ho.au ?_
 cbv
 repeat' (first | (rw[e1];try cbv) | (rw[e2];try cbv))
def nV (k:Int):St:=⟨E 42 [(0,.emp),(1,Ai k),(5,Ai 0)],O 42 []⟩
def lK (k:Int):St:=⟨E 42 [(1,Ai k)],O 42 []⟩
theorem lM {k:Int}:o.loop 2400 (nV k)=some (.exit 0,lK k):=by
 refine ho.aB ?_;have f1:o.cmp .lss 0 0=false:=by rw[ho.cmp];rfl
 cbv
 repeat' (first | (rw[f1];try cbv))
theorem mE {k:Int} (e1:o.loop 2400 (nV k)=some (.exit 0,lK k)):o.call 24 [.emp,Ai k] []=Ar (Ai k):=by
 refine ho.au ?_
 cbv at e1
 cbv
 repeat' (first | (rw[e1];try cbv))
theorem Gb (c:Int):∃t,o.ofBytes [.int .u8 c]=some t/\t.size=1:=⟨⟨#[UInt8.ofNat c.toNat]⟩,by rw[ho.ofBytes];rfl,rfl⟩
theorem tQ {a b:ByteArray} (h:a.size+b.size<=2000):o.rJ a b=true:=by
 rw[ho.rJ];simp only[decide_eq_true_eq];have:IntKind.i64.max=9223372036854775807:=rfl;rw[this];omega
theorem C_:∀(q:Nat) (k:Int) (u:ByteArray),0<=k->k<=9223372036854775807->k<10^q->u.size+q<=1000->∃s,o.loop 9600 (gk k u)=some (.exit 0,jo s)/\s.size<=1000
 | q,k,
     u,h0,hk9,h1,h2=>by
  rcases fR ho k 0 with ⟨e,g⟩ | ⟨e,g⟩
  ·exact ⟨u,sU ho e,by omega⟩
  ·cases q with
   | zero=>simp at h1;omega
   | succ q=>
    obtain ⟨t,ht,hts⟩:=Gb ho (o.wrap .u8 (o.ar .add .i64 48 (o.ar .rem .i64 k 10)));have hq:o.ar .quo .i64 k 10=k/10:=by
     rw[ho.ar];simp only[Ei];rw[Int.tdiv_eq_ediv_of_nonneg h0];exact uS (by omega) (by omega)
    obtain ⟨s,i1,i2⟩:=C_ q (k/10) (o.yT t u) (by omega) (by omega) (by rw[Int.pow_succ]at h1;omega) (by rw[ho.yT,ByteArray.size_append];omega);exact ⟨s,sR ho e rfl rfl rfl ht (tQ ho (by omega)) rfl hq _ i1,i2⟩
theorem mt:MT o:=by
 intro k h0 h1;rcases jT ho k 0 with ⟨e,g⟩ | ⟨e,g⟩
 ·obtain ⟨s,i1,i2⟩:=C_ ho 19 k ⟨#[]⟩ h0 (by omega) (by omega) (by decide);exact ⟨_,vG ho e i1 (tQ ho (by have:ByteArray.size ⟨#[109]⟩=1:=rfl;omega)) rfl⟩
 ·exact ⟨_,vF ho e⟩
omit ho in
theorem Ma {k m:Int} {s:ByteArray} {l:List D} (h:jf o k m s l=true):(Lit.int .i64 k).wf=true/\(Lit.int .i64 m).wf=true:=by
 have e0:∀i:Int,-1000000000000<=i->i<=1000000000000->(Lit.int .i64 i).wf=true:=λi a b=>by simp[Lit.wf,IntKind.min,IntKind.max,IntKind.signed,IntKind.bits];omega
 unfold jf at h;split at h
 ·simp only[af]at h;have:=bH h.1.1;exact ⟨e0 _ (by omega) (by omega),e0 _ (by omega) (by omega)⟩
 split at h
 ·simp only[af,decide_eq_true_eq]at h;exact ⟨e0 _ (by omega) (by omega),e0 _ (by omega) (by omega)⟩
 split at h
 ·simp only[af]at h;have:=bH h.1.1;exact ⟨e0 _ (by omega) (by omega),e0 _ (by omega) (by omega)⟩
 split at h
 ·simp only[af,decide_eq_true_eq]at h;exact ⟨e0 _ (by omega) (by omega),e0 _ (by omega) (by omega)⟩
 split at h
 ·simp only[af,decide_eq_true_eq]at h;exact ⟨e0 _ (by omega) (by omega),e0 _ (by omega) (by omega)⟩
 ·cases h
omit ho in
theorem yP:∀{n:Nat} {d:D},Rt o n d->Own Tryz.prog (2*n) 31 (oK d).cells/\(oK d).many=true
 | 0,d,h=>h.elim
 | n+1,d,⟨k,m,s,l,e,h,hl⟩=>by
  subst e;have hw:=Ma h;have hb:=hU h;refine ⟨?_,rfl⟩;rw[show 2*(n+1)=2*n+1+1 by omega];refine yN ⟨jt Tryz.underlying3 hw.1,jt Tryz.underlying3 hw.2,wH Tryz.underlying9 (by unfold maxLen;omega),iA Tryz.underlying29 qw (by rw[gR];unfold maxLen;omega) λx hx=> ?_⟩;rw[gh]at hx;obtain ⟨y,hy,rfl⟩:=List.mem_map.1 hx;obtain ⟨a,b⟩:=yP (hl y hy);exact ⟨a,by rw[b];unfold bY;rw[Tryz.underlying31]⟩
omit ho in
theorem rG {c:Int}:∀{l:List D},(∀x∈l,cnt x<=c)->cQ l<=l.length*c
 | [],_=>by simp[cQ]
 | x::l,h=>by
  have:=h x (by simp);have:=rG (l:=l) λy hy=>h y (by simp[hy])
  simp only[cQ,List.length_cons];rw[show ((l.length+1:Nat):Int)*c=l.length*c+c by rw[Int.natCast_add,Int.add_mul];simp];omega
def cB:Nat->Int
 | 0=>0
 | 1=>0
 | n+2=>60+60*cB (n+1)
omit ho in
theorem Da:∀n,0<=cB n
 | 0=>Int.le_refl _
 | 1=>Int.le_refl _
 | n+2=>by have:=Da (n+1);show 0<=60+60*cB (n+1);omega
omit ho in
theorem yQ:∀{n:Nat} {d:D},Rt o n d->cnt d<=cB n
 | 0,d,h=>h.elim
 | 1,d,⟨k,m,s,l,e,h,hl⟩=>by
  subst e;cases l with
  | nil=>simp[cnt,cQ,cB]
  | cons x l=>exact (hl x (by simp)).elim
 | n+2,d,⟨k,m,s,l,e,h,hl⟩=>by
  subst e;have hb:=hU h;have:=rG λx hx=>yQ (hl x hx)
  have h2:(l.length:Int)*cB (n+1)<=60*cB (n+1):=Int.mul_le_mul_of_nonneg_right hb.2 (Da (n+1));show cnt _<=60+60*cB (n+1);simp only[cnt,cQ];omega
end
end T2
