import Derived.Test.YtfnagkpidcdocaaGreatM43
import Derived.Test.YtfnagkpidcdocaaGreatM44
import Derived.Test.YtfnagkpidcdocaaGreatProg
import Derived.KernelRfl
set_option linter.all false
open Go Go.Vi Go.Proofs
namespace T2
set_option maxRecDepth 100000
set_option maxHeartbeats 4000000
variable {o:aJ} (ho:aR cF bB o)
def Chain (R:D->Int->Int->Prop):List D->Int->Int->Prop
 | [],k,k'=>k'=k
 | x::xs,k,k'=>∃k1,R x k k1/\Chain R xs k1 k'
def MT (o:aJ):Prop:=∀k:Int,0<=k->k<=4611686018427387904->∃s,o.call 96 [.d (.int .i64 k)] []=some ⟨.d (.str s),[],[]⟩
def KG (o:aJ) (h:FuncId) (xs:List D) (k k2:Int):Prop:=o.call h [.d (.lst xs),.d (.int .i64 k)] []=some ⟨.d (.int .i64 k2),[],[]⟩
def FZ (o:aJ) (n t e w:Nat) (f:FuncId) (H:List D->Int->Int->Prop):Prop:=∀ys,Own Tryz.prog n t [.own (e,w) ys]->∀(k:Int) (u:Bool),0<=k->k+32*cnt (.own (e,w) ys)<=4611686018427387904->∃zs k2,o.call f [.arr (1,0) (e,w) none u,.d (.int .i64 k)] [some (.orows (e,w) ys)]=some ⟨.d (.int .i64 k2),[some (.orows (e,w) zs)],[]⟩/\H (aT zs) k k2/\k<=k2/\k2<=k+32*cnt (.own (e,w) ys)
def nr (o:aJ) (n:Nat):Prop:=FZ o n 29 31 4 24 (KG o 97)/\FZ o n 34 226 4 94 (λ_ _ _=>True)/\FZ o n 35 249 4 95 (λ_ _ _=>True)/\FZ o n 51 192 3 107 (KG o 108)/\FZ o n 216 224 4 184 (λ_ _ _=>True)
def C9 (o:aJ) (x:D) (k k':Int):Prop:=∃(k1 k2 k3:Int) (t2:ByteArray) (f3:List D),x= .agg [.int .i64 k,.int .i64 k1,.str t2,.lst f3]/\o.ar .add .i64 k 1=k1/\o.ar .add .i64 k1 1=k2/\o.call 96 [.d (.int .i64 k2)] []=some ⟨.d (.str t2),[],[]⟩/\o.ar .add .i64 k2 1=k3/\o.call 97 [.d (.lst f3),.d (.int .i64 k3)] []=some ⟨.d (.int .i64 k'),[],[]⟩/\o.cmp .lss k' 0=false
def Aj (o:aJ) (x:D) (k k':Int):Prop:=∃(k1 k2:Int) (f2:List D),x= .agg [.int .i64 k,.int .i64 k1,.lst f2]/\o.ar .add .i64 k 1=k1/\o.ar .add .i64 k1 1=k2/\o.call 97 [.d (.lst f2),.d (.int .i64 k2)] []=some ⟨.d (.int .i64 k'),[],[]⟩/\o.cmp .lss k' 0=false
include ho
theorem L_ {a:Int} (h0:0<=a) (h:a<=4611686018427387904):o.ar .add .i64 a 1=a+1:=inc ho h0 (b:=a+1) (by omega) (by omega)
theorem qx {a:Int} (h0:0<=a) (h:a<=4611686018427387904):∃b,b=a+1/\o.ar .add .i64 a 1=b:=⟨_,rfl,L_ ho h0 h⟩
theorem pY {a:Int} (h0:0<=a):o.cmp .lss a 0=false:=I4 ho h0
theorem lI {Y:List D} {i:Int} (h0:0<=i) (h:i.toNat<Y.length) (x:D):∃Z,o.set Y i x=Z/\o.dD Z i=some x/\i.toNat<Z.length/\∀y,o.set Z i y=o.set Y i y:=⟨_,rfl,dA ho _ i _ h0 (by rw[ho.set,List.getElem?_set_self h]),by rw[ho.set];simpa using h,λy=>by rw[ho.set,ho.set,ho.set,List.set_set]⟩
theorem Od {h:FuncId} {key:Nat} {G:List D->Int->Int->St} {Y:Int->St} {R:D->Int->Int->Prop}
  (c:∀xs k k2,o.loop key (G xs 0 k)=some (.exit 0,Y k2)->KG o h xs k k2)
  (l1:∀xs N k,o.len xs=N->o.cmp .lss N N=false->o.loop key (G xs N k)=some (.exit 0,Y k))
  (l2:∀x k k1,R x k k1->∀xs N i j z,o.len xs=N->o.cmp .lss i N=true->o.dD xs i=some x->o.ar .add .i64 i 1=j->o.loop key (G xs j k1)=some z->o.loop key (G xs i k)=some z) (xs:List D) (k k2:Int) (hb:(xs.length:Int)<=4611686018427387904) (hc:Chain R xs k k2):KG o h xs k k2:=by
 have loop:∀(m:Nat) (i k:Int),0<=i->i+m=xs.length->Chain R (xs.drop i.toNat) k k2->o.loop key (G xs i k)=some (.exit 0,Y k2):=by
  intro m;induction m with
  | zero=>
   intro i k h0 h hc;rw[List.drop_eq_nil_of_le (by omega)]at hc;obtain rfl:k2=k:=hc;exact l1 xs i k2 (by rw[ho.len];omega) (rE ho i)
  | succ m ih=>
   intro i k h0 h hc;obtain ⟨x,hx⟩:∃x,xs[i.toNat]? =some x:=⟨_,bg (by omega)⟩
   obtain ⟨g1,g2⟩:=aq.1 hx;rw[List.drop_eq_getElem_cons g1,g2]at hc;obtain ⟨k1,hr,hc⟩:=hc;exact l2 x k k1 hr xs _ i (i+1) _ (ho.len xs) (nj ho (by omega)) (dA ho xs i _ h0 hx) (L_ ho h0 (by omega)) (ih (i+1) k1 (by omega) (by omega) (by rw[show (i+1).toNat=i.toNat+1 by omega];exact hc))
 exact c xs k k2 (loop xs.length 0 k (Int.le_refl _) (by omega) hc)
theorem F8 {n t e w key:Nat} {f:FuncId} {F:Bool->List D->Int->Int->St} {X:Int->List D->St} {H:List D->Int->Int->Prop} {R:D->Int->Int->Prop} (hu:Tryz.prog.underlying t=some (.slice e)) (hw:Tryz.prog.cellsOf e=w) (ha:bY Tryz.prog e=true)
  (hh:∀xs k k2,(xs.length:Int)<=4611686018427387904->Chain R xs k k2->H xs k k2)
  (c:∀u ys zs k k2,o.loop key (F u ys 0 k)=some (.exit 0,X k2 zs)->o.call f [.arr (1,0) (e,w) none u,Ai k] [some (.orows (e,w) ys)]=some ⟨Ai k2,[some (.orows (e,w) zs)],[]⟩)
  (l1:∀u ys N k,o.len ys=N->o.cmp .lss N N=false->o.loop key (F u ys N k)=some (.exit 0,X k ys))
  (l2:∀y,Own Tryz.prog n e y->∀u Y N i j k,o.len Y=N->o.cmp .lss i N=true->o.dD Y i=some (.agg y)->0<=i->i.toNat<Y.length->o.ar .add .i64 i 1=j->0<=k->k+32*(1+cQ y)<=4611686018427387904->∃y' k1,(∀z,o.loop key (F u (o.set Y i (.agg y')) j k1)=some z->o.loop key (F u Y i k)=some z)/\R (.agg (aT y')) k k1/\k<=k1/\k1<=k+32*(1+cQ y)):FZ o (n+1) t e w f H:=by
 intro ys h k u g0 g1;obtain ⟨xs,m,em,e_,hlen,hall⟩:=kr hu hw h;injection em with em;subst em;injection e_ with e_;injection e_ with _ e_;subst e_;have loop:∀(m:Nat) (i k:Int) (ys:List D),0<=i->i+m=ys.length->(ys.length:Int)<=4611686018427387904->(∀j,i.toNat<=j->∀y,ys[j]? =some y->Own Tryz.prog n e y.cells/\y.many=true)->0<=k->k+32*(m+cQ (ys.drop i.toNat))<=4611686018427387904->
   ∃zs k2,o.loop key (F u ys i k)=some (.exit 0,X k2 zs)/\zs.length=ys.length/\(∀j,j<i.toNat->zs[j]? =ys[j]?)/\Chain R (aT (zs.drop i.toNat)) k k2/\k<=k2/\k2<=k+32*(m+cQ (ys.drop i.toNat)):=by
  intro m;induction m with
  | zero=>
   intro i k ys h0 h hb hd g0 g1;refine ⟨ys,k,l1 u ys i k (by rw[ho.len];omega) (rE ho i),rfl,λ_ _=>rfl,?_,Int.le_refl _,?_⟩
   ·rw[List.drop_eq_nil_of_le (by omega)];simp only[aT,Chain]
   ·have:=dh (ys.drop i.toNat);omega
  | succ m ih=>
   intro i k ys h0 h hb hd g0 g1;have hk:i.toNat<ys.length:=by omega
   obtain ⟨y,hyk⟩:∃y,ys[i.toNat]? =some y:=⟨_,bg hk⟩
   have hcd:=xZ hyk;have hnn:=dh (ys.drop (i.toNat+1));obtain ⟨f1,f2⟩:=hd i.toNat (Nat.le_refl _) y hyk;rw[C4 f2]at hcd;obtain ⟨y',k1,st,r,q1,q2⟩:=l2 y.cells f1 u ys _ i (i+1) k (ho.len ys) (nj ho (by omega)) (by rw[dA ho ys i _ h0 hyk,<-cT f2]) h0 hk (L_ ho h0 (by omega)) g0 (by omega);have hdr:(o.set ys i (.agg y')).drop (i+1).toNat=ys.drop (i.toNat+1):=by rw[ho.set,show (i+1).toNat=i.toNat+1 by omega,List.drop_set_of_lt (by omega)]
   have hsl:(o.set ys i (.agg y')).length=ys.length:=by rw[ho.set];simp
   obtain ⟨zs,k2,i1,i2,i3,i4,i5,i6⟩:=ih (i+1) k1 (o.set ys i (.agg y')) (by omega) (by omega) (by omega) (λj hj y hy=>hd j (by omega) y (by rw[ho.set,List.getElem?_set_ne (by omega)]at hy;exact hy)) (by omega) (by rw[hdr];omega);rw[hdr]at i6;refine ⟨zs,k2,st _ i1,by omega,λj hj=>by rw[i3 j (by omega),ho.set,List.getElem?_set_ne (by omega)],?_,by omega,by omega⟩;obtain ⟨p1,p2⟩:=aq.1 (show zs[i.toNat]? =some (.agg y') by rw[i3 _ (by omega),ho.set,List.getElem?_set_self (by omega)]);rw[List.drop_eq_getElem_cons p1,p2];rw[show (i+1).toNat=i.toNat+1 by omega]at i4;exact ⟨k1,r,i4⟩
 simp only[cnt]at g1 |-;have hnn:=dh ys;obtain ⟨zs,k2,i1,i2,i3,i4,i5,i6⟩:=loop ys.length 0 k ys (Int.le_refl _) (by omega) (by omega) (λj _ y hy=>by have:=hall y (List.mem_of_getElem? hy);rw[ha]at this;exact this) g0 (by simpa using g1);exact ⟨zs,k2,c u ys zs k k2 i1,hh _ k k2 (by rw[ct];omega) (by simpa using i4),i5,by simpa using i6⟩
theorem sQ:∀xs k k2,((xs:List D).length:Int)<=4611686018427387904->Chain (C9 o) xs k k2->KG o 97 xs k k2:=Od ho (key:=9700) (G:=λxs i k=>⟨Al xs::Ai k::U::U::U::Ai i::SD,RI⟩) (Y:=λk=>⟨U::Ai k::SE,RI⟩)
 (λ_ _ _ l=>ho.au (by cbv;rw[l];cbv))
 (λ_ _ _ hn h=>ho.aB (by cbv;rw[hn];cbv;rw[h];cbv))
 (λ_ k k' ⟨k1,k2,k3,t2,f3,hx,K0,K1,T2,K2,C3,N3⟩ xs N i j z hn h2 e0 hi l=>by subst hx;exact ho.aB (by cbv;repeat ((first | rw[hn] | rw[h2] | rw[e0] | rw[eq_int ho] | rw[ni ho] | rw[K0] | rw[K1] | rw[T2] | rw[K2] | rw[C3] | rw[N3] | rw[hi] | exact l);(try cbv))))
theorem DR (mt:MT o) {n:Nat} (ih:nr o n):FZ o (n+1) 29 31 4 24 (KG o 97):=by
 refine F8 ho (key:=2400) (F:=λu Y i k=>⟨.arr (42,0) (31,4) none u::Ai k::U::U::U::Ai i::OM,KU [[Oq Y]]⟩) (X:=λk Y=>⟨U::Ai k::OO,KU [[Oq Y]]⟩) (R:=C9 o) Tryz.underlying29 qw (by unfold bY;rw[Tryz.underlying31]) (sQ ho) (λ_ _ _ _ _ l=>ho.au (by cbv;rw[l];cbv)) (λ_ _ _ _ hn h=>ho.aB (by cbv;rw[hn];cbv;rw[h];cbv)) ?_;intro y hy u Y N i j k hn h2 e0 h0 hl hi g0 g1;cases n with
 | zero=>simp[Own]at hy
 | succ n=>
  obtain ⟨c0,c1,c2,c3,rfl,o0,o1,o2,o3⟩:=Fu hy;obtain ⟨v0,e_,_⟩:=fu Tryz.underlying3 o0;injection e_ with e_;subst e_;obtain ⟨v1,e_,_⟩:=fu Tryz.underlying3 o1;injection e_ with e_;subst e_;obtain ⟨v2,e_,_⟩:=su Tryz.underlying9 o2;injection e_ with e_;subst e_;have p3:=mO _ _ _ o3;obtain ⟨z3,_,_,e_,_⟩:=kr Tryz.underlying29 qw o3;injection e_ with e_;subst e_;have:=dh z3;simp only[cnt,cQ]at g1 |-;obtain ⟨k1,b0,K0⟩:=qx ho (a:=k) (by omega) (by omega);obtain ⟨Y1,S0,e1,l1,q1⟩:=lI ho h0 hl (.agg [.int .i64 k,.int .i64 v1,.str v2,.own (31,4) z3]);obtain ⟨k2,b1,K1⟩:=qx ho (a:=k1) (by omega) (by omega);obtain ⟨Y2,S1,e2,l2,q2⟩:=lI ho h0 l1 (.agg [.int .i64 k,.int .i64 k1,.str v2,.own (31,4) z3]);obtain ⟨t2,T2⟩:=mt k2 (by omega) (by omega);obtain ⟨k3,b2,K2⟩:=qx ho (a:=k2) (by omega) (by omega);obtain ⟨Y3,S2,e3,l3,q3⟩:=lI ho h0 l2 (.agg [.int .i64 k,.int .i64 k1,.str t2,.own (31,4) z3]);obtain ⟨w3,k4,C3,H3,b3,d3⟩:=ih.1 z3 p3 k3 false (by omega) (by simp only[cnt];omega);simp only[cnt]at d3;obtain ⟨Z,hZ⟩:∃Z,o.set Y i (.agg [.int .i64 k,.int .i64 k1,.str t2,.own (31,4) w3])=Z:=⟨_,rfl⟩
  have S3:=((q3 _).trans ((q2 _).trans ((q1 _).trans hZ)))
  exact ⟨[.int .i64 k,.int .i64 k1,.str t2,.own (31,4) w3],k4,λz l=>by rw[hZ]at l;exact ho.aB (by cbv;repeat ((first | rw[hn] | rw[h2] | rw[e0] | rw[K0] | rw[S0] | rw[e1] | rw[K1] | rw[S1] | rw[e2] | rw[T2] | rw[K2] | rw[S2] | rw[e3] | rw[C3] | rw[S3] | rw[hi] | exact l);(try cbv))),⟨_,_,_,_,_,rfl,K0,K1,T2,K2,H3,pY ho (by omega)⟩,by omega,by omega⟩
theorem I8 (mt:MT o) {n:Nat} (ih:nr o n):FZ o (n+1) 34 226 4 94 (λ_ _ _=>True):=by
 refine F8 ho (key:=9400) (F:=λu Y i k=>⟨.arr (42,0) (226,4) none u::Ai k::U::U::U::Ai i::OM,KU [[some (.orows (226,4) Y)]]⟩) (X:=λk Y=>⟨U::Ai k::OO,KU [[some (.orows (226,4) Y)]]⟩) (R:=λ_ _ _=>True) Tryz.underlying34 Ae (by unfold bY;rw[Tryz.underlying226]) (λ_ _ _ _ _=>trivial) (λ_ _ _ _ _ l=>ho.au (by cbv;rw[l];cbv)) (λ_ _ _ _ hn h=>ho.aB (by cbv;rw[hn];cbv;rw[h];cbv)) ?_;intro y hy u Y N i j k hn h2 e0 h0 hl hi g0 g1;cases n with
 | zero=>simp[Own]at hy
 | succ n=>
  obtain ⟨c0,c1,c2,c3,rfl,o0,o1,o2,o3⟩:=LM hy;obtain ⟨v0,e_,_⟩:=su Tryz.underlying9 o0;injection e_ with e_;subst e_;obtain ⟨v1,e_,_⟩:=fu Tryz.underlying3 o1;injection e_ with e_;subst e_;obtain ⟨v2,e_,_⟩:=fu Tryz.underlying3 o2;injection e_ with e_;subst e_;have p3:=mO _ _ _ o3;obtain ⟨z3,_,_,e_,_⟩:=kr Tryz.underlying216 xI o3;injection e_ with e_;subst e_;have:=dh z3;simp only[cnt,cQ]at g1 |-;obtain ⟨t0,T0⟩:=mt k (by omega) (by omega);obtain ⟨k1,b0,K0⟩:=qx ho (a:=k) (by omega) (by omega);obtain ⟨Y1,S0,e1,l1,q1⟩:=lI ho h0 hl (.agg [.str t0,.int .i64 v1,.int .i64 v2,.own (224,4) z3]);obtain ⟨k2,b1,K1⟩:=qx ho (a:=k1) (by omega) (by omega);obtain ⟨Y2,S1,e2,l2,q2⟩:=lI ho h0 l1 (.agg [.str t0,.int .i64 k1,.int .i64 v2,.own (224,4) z3]);obtain ⟨k3,b2,K2⟩:=qx ho (a:=k2) (by omega) (by omega);obtain ⟨Y3,S2,e3,l3,q3⟩:=lI ho h0 l2 (.agg [.str t0,.int .i64 k1,.int .i64 k2,.own (224,4) z3]);obtain ⟨w3,k4,C3,H3,b3,d3⟩:=ih.2.2.2.2 z3 p3 k3 false (by omega) (by simp only[cnt];omega);simp only[cnt]at d3;obtain ⟨Z,hZ⟩:∃Z,o.set Y i (.agg [.str t0,.int .i64 k1,.int .i64 k2,.own (224,4) w3])=Z:=⟨_,rfl⟩
  have S3:=((q3 _).trans ((q2 _).trans ((q1 _).trans hZ)))
  exact ⟨[.str t0,.int .i64 k1,.int .i64 k2,.own (224,4) w3],k4,λz l=>by rw[hZ]at l;exact ho.aB (by cbv;repeat ((first | rw[hn] | rw[h2] | rw[e0] | rw[T0] | rw[K0] | rw[S0] | rw[e1] | rw[K1] | rw[S1] | rw[e2] | rw[K2] | rw[S2] | rw[e3] | rw[C3] | rw[S3] | rw[hi] | exact l);(try cbv))),trivial,by omega,by omega⟩
theorem F_ (mt:MT o) {n:Nat} (ih:nr o n):FZ o (n+1) 35 249 4 95 (λ_ _ _=>True):=by
 refine F8 ho (key:=9500) (F:=λu Y i k=>⟨.arr (42,0) (249,4) none u::Ai k::U::U::U::Ai i::OM,KU [[some (.orows (249,4) Y)]]⟩) (X:=λk Y=>⟨U::Ai k::OO,KU [[some (.orows (249,4) Y)]]⟩) (R:=λ_ _ _=>True) Tryz.underlying35 xJ (by unfold bY;rw[Tryz.underlying249]) (λ_ _ _ _ _=>trivial) (λ_ _ _ _ _ l=>ho.au (by cbv;rw[l];cbv)) (λ_ _ _ _ hn h=>ho.aB (by cbv;rw[hn];cbv;rw[h];cbv)) ?_;intro y hy u Y N i j k hn h2 e0 h0 hl hi g0 g1;cases n with
 | zero=>simp[Own]at hy
 | succ n=>
  obtain ⟨c0,c1,c2,c3,rfl,o0,o1,o2,o3⟩:=LN hy;obtain ⟨v0,e_,_⟩:=fu Tryz.underlying3 o0;injection e_ with e_;subst e_;obtain ⟨v1,e_,_⟩:=fu Tryz.underlying3 o1;injection e_ with e_;subst e_;obtain ⟨v2,e_,_⟩:=su Tryz.underlying9 o2;injection e_ with e_;subst e_;have p3:=mO _ _ _ o3;obtain ⟨z3,_,_,e_,_⟩:=kr Tryz.underlying35 xJ o3;injection e_ with e_;subst e_;have:=dh z3;simp only[cnt,cQ]at g1 |-;obtain ⟨k1,b0,K0⟩:=qx ho (a:=k) (by omega) (by omega);obtain ⟨Y1,S0,e1,l1,q1⟩:=lI ho h0 hl (.agg [.int .i64 k,.int .i64 v1,.str v2,.own (249,4) z3]);obtain ⟨k2,b1,K1⟩:=qx ho (a:=k1) (by omega) (by omega);obtain ⟨Y2,S1,e2,l2,q2⟩:=lI ho h0 l1 (.agg [.int .i64 k,.int .i64 k1,.str v2,.own (249,4) z3]);obtain ⟨t2,T2⟩:=mt k2 (by omega) (by omega);obtain ⟨k3,b2,K2⟩:=qx ho (a:=k2) (by omega) (by omega);obtain ⟨Y3,S2,e3,l3,q3⟩:=lI ho h0 l2 (.agg [.int .i64 k,.int .i64 k1,.str t2,.own (249,4) z3]);obtain ⟨w3,k4,C3,H3,b3,d3⟩:=ih.2.2.1 z3 p3 k3 false (by omega) (by simp only[cnt];omega);simp only[cnt]at d3;obtain ⟨Z,hZ⟩:∃Z,o.set Y i (.agg [.int .i64 k,.int .i64 k1,.str t2,.own (249,4) w3])=Z:=⟨_,rfl⟩
  have S3:=((q3 _).trans ((q2 _).trans ((q1 _).trans hZ)))
  exact ⟨[.int .i64 k,.int .i64 k1,.str t2,.own (249,4) w3],k4,λz l=>by rw[hZ]at l;exact ho.aB (by cbv;repeat ((first | rw[hn] | rw[h2] | rw[e0] | rw[K0] | rw[S0] | rw[e1] | rw[K1] | rw[S1] | rw[e2] | rw[T2] | rw[K2] | rw[S2] | rw[e3] | rw[C3] | rw[S3] | rw[hi] | exact l);(try cbv))),trivial,by omega,by omega⟩
theorem vE:∀xs k k2,((xs:List D).length:Int)<=4611686018427387904->Chain (Aj o) xs k k2->KG o 108 xs k k2:=Od ho (key:=10800) (G:=λxs i k=>⟨Al xs::Ai k::U::U::U::Ai i::SB,RH⟩) (Y:=λk=>⟨U::Ai k::SC,RH⟩)
 (λ_ _ _ l=>ho.au (by cbv;rw[l];cbv))
 (λ_ _ _ hn h=>ho.aB (by cbv;rw[hn];cbv;rw[h];cbv))
 (λ_ k k' ⟨k1,k2,f2,hx,K0,K1,C2,N2⟩ xs N i j z hn h2 e0 hi l=>by subst hx;exact ho.aB (by cbv;repeat ((first | rw[hn] | rw[h2] | rw[e0] | rw[eq_int ho] | rw[ni ho] | rw[K0] | rw[K1] | rw[C2] | rw[N2] | rw[hi] | exact l);(try cbv))))
theorem BK (mt:MT o) {n:Nat} (ih:nr o n):FZ o (n+1) 51 192 3 107 (KG o 108):=by
 refine F8 ho (key:=10700) (F:=λu Y i k=>⟨.arr (34,0) (192,3) none u::Ai k::U::U::U::Ai i::Sz,RJ [[Oo Y]]⟩) (X:=λk Y=>⟨U::Ai k::SA,RJ [[Oo Y]]⟩) (R:=Aj o) Tryz.underlying51 tN (by unfold bY;rw[Tryz.underlying192]) (vE ho) (λ_ _ _ _ _ l=>ho.au (by cbv;rw[l];cbv)) (λ_ _ _ _ hn h=>ho.aB (by cbv;rw[hn];cbv;rw[h];cbv)) ?_;intro y hy u Y N i j k hn h2 e0 h0 hl hi g0 g1;cases n with
 | zero=>simp[Own]at hy
 | succ n=>
  obtain ⟨c0,c1,c2,rfl,o0,o1,o2⟩:=Fx hy;obtain ⟨v0,e_,_⟩:=fu Tryz.underlying3 o0;injection e_ with e_;subst e_;obtain ⟨v1,e_,_⟩:=fu Tryz.underlying3 o1;injection e_ with e_;subst e_;have p2:=mO _ _ _ o2;obtain ⟨z2,_,_,e_,_⟩:=kr Tryz.underlying29 qw o2;injection e_ with e_;subst e_;have:=dh z2;simp only[cnt,cQ]at g1 |-;obtain ⟨k1,b0,K0⟩:=qx ho (a:=k) (by omega) (by omega);obtain ⟨Y1,S0,e1,l1,q1⟩:=lI ho h0 hl (.agg [.int .i64 k,.int .i64 v1,.own (31,4) z2]);obtain ⟨k2,b1,K1⟩:=qx ho (a:=k1) (by omega) (by omega);obtain ⟨Y2,S1,e2,l2,q2⟩:=lI ho h0 l1 (.agg [.int .i64 k,.int .i64 k1,.own (31,4) z2]);obtain ⟨w2,k3,C2,H2,b2,d2⟩:=ih.1 z2 p2 k2 false (by omega) (by simp only[cnt];omega);simp only[cnt]at d2;obtain ⟨Z,hZ⟩:∃Z,o.set Y i (.agg [.int .i64 k,.int .i64 k1,.own (31,4) w2])=Z:=⟨_,rfl⟩
  have S2:=((q2 _).trans ((q1 _).trans hZ))
  exact ⟨[.int .i64 k,.int .i64 k1,.own (31,4) w2],k3,λz l=>by rw[hZ]at l;exact ho.aB (by cbv;repeat ((first | rw[hn] | rw[h2] | rw[e0] | rw[K0] | rw[S0] | rw[e1] | rw[K1] | rw[S1] | rw[e2] | rw[C2] | rw[S2] | rw[hi] | exact l);(try cbv))),⟨_,_,_,rfl,K0,K1,H2,pY ho (by omega)⟩,by omega,by omega⟩
theorem Ga (mt:MT o) {n:Nat} (ih:nr o n):FZ o (n+1) 216 224 4 184 (λ_ _ _=>True):=by
 refine F8 ho (key:=18400) (F:=λu Y i k=>⟨.arr (42,0) (224,4) none u::Ai k::U::U::U::Ai i::OM,KU [[some (.orows (224,4) Y)]]⟩) (X:=λk Y=>⟨U::Ai k::OO,KU [[some (.orows (224,4) Y)]]⟩) (R:=λ_ _ _=>True) Tryz.underlying216 xI (by unfold bY;rw[Tryz.underlying224]) (λ_ _ _ _ _=>trivial) (λ_ _ _ _ _ l=>ho.au (by cbv;rw[l];cbv)) (λ_ _ _ _ hn h=>ho.aB (by cbv;rw[hn];cbv;rw[h];cbv)) ?_;intro y hy u Y N i j k hn h2 e0 h0 hl hi g0 g1;cases n with
 | zero=>simp[Own]at hy
 | succ n=>
  obtain ⟨c0,c1,c2,c3,rfl,o0,o1,o2,o3⟩:=LL hy;obtain ⟨v0,e_,_⟩:=fu Tryz.underlying3 o0;injection e_ with e_;subst e_;obtain ⟨v1,e_,_⟩:=fu Tryz.underlying3 o1;injection e_ with e_;subst e_;obtain ⟨v2,e_,_⟩:=su Tryz.underlying9 o2;injection e_ with e_;subst e_;obtain ⟨v3,e_,_⟩:=fu Tryz.underlying3 o3;injection e_ with e_;subst e_;simp only[cnt,cQ]at g1 |-;obtain ⟨k1,b0,K0⟩:=qx ho (a:=k) (by omega) (by omega);obtain ⟨Y1,S0,e1,l1,q1⟩:=lI ho h0 hl (.agg [.int .i64 k,.int .i64 v1,.str v2,.int .i64 v3]);obtain ⟨k2,b1,K1⟩:=qx ho (a:=k1) (by omega) (by omega);obtain ⟨Y2,S1,e2,l2,q2⟩:=lI ho h0 l1 (.agg [.int .i64 k,.int .i64 k1,.str v2,.int .i64 v3]);obtain ⟨t2,T2⟩:=mt k2 (by omega) (by omega);obtain ⟨k3,b2,K2⟩:=qx ho (a:=k2) (by omega) (by omega);obtain ⟨Y3,S2,e3,l3,q3⟩:=lI ho h0 l2 (.agg [.int .i64 k,.int .i64 k1,.str t2,.int .i64 v3]);obtain ⟨k4,b3,K3⟩:=qx ho (a:=k3) (by omega) (by omega);obtain ⟨Z,hZ⟩:∃Z,o.set Y i (.agg [.int .i64 k,.int .i64 k1,.str t2,.int .i64 k3])=Z:=⟨_,rfl⟩
  have S3:=((q3 _).trans ((q2 _).trans ((q1 _).trans hZ)))
  exact ⟨[.int .i64 k,.int .i64 k1,.str t2,.int .i64 k3],k4,λz l=>by rw[hZ]at l;exact ho.aB (by cbv;repeat ((first | rw[hn] | rw[h2] | rw[e0] | rw[K0] | rw[S0] | rw[e1] | rw[K1] | rw[S1] | rw[e2] | rw[T2] | rw[K2] | rw[S2] | rw[e3] | rw[K3] | rw[S3] | rw[hi] | exact l);(try cbv))),trivial,by omega,by omega⟩
theorem lJ (mt:MT o):∀n,nr o n
 | 0=>by
  unfold nr;refine ⟨?_,?_,?_,?_,?_⟩<;>(intro x h;simp[Own]at h)
 | n+1=>have ih:=lJ mt n;⟨DR ho mt ih,I8 ho mt ih,F_ ho mt ih,BK ho mt ih,Ga ho mt ih⟩
end T2
