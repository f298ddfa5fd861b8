import Derived.Test.YtfnagkpidcdocaaGreatM28
import Derived.Test.YtfnagkpidcdocaaGreatProg
import Derived.KernelRfl
set_option linter.all false
open Go Go.Vi Go.Proofs
namespace T2
set_option maxRecDepth 100000
set_option maxHeartbeats 4000000
variable {o:aK} (ho:aU cF bE o)
def Chain (R:D->Int->Int->Prop):List D->Int->Int->Prop
 | [],k,k'=>k'=k
 | x::xs,k,k'=>∃k1,R x k k1/\Chain R xs k1 k'
def MT (o:aK):Prop:=∀k:Int,0<=k->k<=4611686018427387904->∃s,o.call 96 [.d (.int .i64 k)] []=some ⟨.d (.str s),[],[]⟩
def xk (o:aK) (n:Nat):Prop:=∀ys,Own Tryz.prog n 29 [.own (31,4) ys]->∀(k:Int) (u:Bool),0<=k->k+32*cnt (.own (31,4) ys)<=4611686018427387904->∃zs k2,o.call 24 [.arr (1,0) (31,4) none u,.d (.int .i64 k)] [some (.orows (31,4) ys)]=some ⟨.d (.int .i64 k2),[some (.orows (31,4) zs)],[]⟩/\o.call 97 [.d (.lst (aV zs)),.d (.int .i64 k)] []=some ⟨.d (.int .i64 k2),[],[]⟩/\k<=k2/\k2<=k+32*cnt (.own (31,4) ys)
def C6 (o:aK) (n:Nat):Prop:=∀ys,Own Tryz.prog n 34 [.own (226,4) ys]->∀(k:Int) (u:Bool),0<=k->k+32*cnt (.own (226,4) ys)<=4611686018427387904->∃zs k2,o.call 94 [.arr (1,0) (226,4) none u,.d (.int .i64 k)] [some (.orows (226,4) ys)]=some ⟨.d (.int .i64 k2),[some (.orows (226,4) zs)],[]⟩/\True/\k<=k2/\k2<=k+32*cnt (.own (226,4) ys)
def Ak (o:aK) (n:Nat):Prop:=∀ys,Own Tryz.prog n 35 [.own (249,4) ys]->∀(k:Int) (u:Bool),0<=k->k+32*cnt (.own (249,4) ys)<=4611686018427387904->∃zs k2,o.call 95 [.arr (1,0) (249,4) none u,.d (.int .i64 k)] [some (.orows (249,4) ys)]=some ⟨.d (.int .i64 k2),[some (.orows (249,4) zs)],[]⟩/\True/\k<=k2/\k2<=k+32*cnt (.own (249,4) ys)
def Am (o:aK) (n:Nat):Prop:=∀ys,Own Tryz.prog n 216 [.own (224,4) ys]->∀(k:Int) (u:Bool),0<=k->k+32*cnt (.own (224,4) ys)<=4611686018427387904->∃zs k2,o.call 184 [.arr (1,0) (224,4) none u,.d (.int .i64 k)] [some (.orows (224,4) ys)]=some ⟨.d (.int .i64 k2),[some (.orows (224,4) zs)],[]⟩/\True/\k<=k2/\k2<=k+32*cnt (.own (224,4) ys)
def oD (o:aK) (n:Nat):Prop:=xk o n/\C6 o n/\Ak o n/\Am o n
def C8 (o:aK) (x:D) (k k2:Int):Prop:=∃(t2:ByteArray) (f3:List D) (j3:Int),x= .agg [.int .i64 (k),.int .i64 (k+1),.str t2,.lst f3]/\o.call 96 [.d (.int .i64 (k+1+1))] []=some ⟨.d (.str t2),[],[]⟩/\o.call 97 [.d (.lst f3),.d (.int .i64 (k+1+1+1))] []=some ⟨.d (.int .i64 j3),[],[]⟩/\0<=k/\k<=4611686018427387904/\k+1+1+1<=j3/\j3<=4611686018427387904/\k2<=4611686018427387904/\k2=j3
def C9 (o:aK) (y:D):Prop:=∃(d0 d1 d2:D) (z3:List D),y= .agg [d0,d1,d2,.own (31,4) z3]/\cnt d0=0/\cnt d1=0/\cnt d2=0/\(∀(k:Int),0<=k->k+32*cnt (.own (31,4) z3)<=4611686018427387904->∃w j,o.call 24 [.arr (1,0) (31,4) none false,.d (.int .i64 k)] [some (.orows (31,4) z3)]=some ⟨.d (.int .i64 j),[some (.orows (31,4) w)],[]⟩/\o.call 97 [.d (.lst (aV w)),.d (.int .i64 k)] []=some ⟨.d (.int .i64 j),[],[]⟩/\k<=j/\j<=k+32*cnt (.own (31,4) z3))
def Kj (o:aK) (y:D):Prop:=∃(d0 d1 d2:D) (z3:List D),y= .agg [d0,d1,d2,.own (224,4) z3]/\cnt d0=0/\cnt d1=0/\cnt d2=0/\(∀(k:Int),0<=k->k+32*cnt (.own (224,4) z3)<=4611686018427387904->∃w j,o.call 184 [.arr (1,0) (224,4) none false,.d (.int .i64 k)] [some (.orows (224,4) z3)]=some ⟨.d (.int .i64 j),[some (.orows (224,4) w)],[]⟩/\True/\k<=j/\j<=k+32*cnt (.own (224,4) z3))
def Gc (o:aK) (y:D):Prop:=∃(d0 d1 d2:D) (z3:List D),y= .agg [d0,d1,d2,.own (249,4) z3]/\cnt d0=0/\cnt d1=0/\cnt d2=0/\(∀(k:Int),0<=k->k+32*cnt (.own (249,4) z3)<=4611686018427387904->∃w j,o.call 95 [.arr (1,0) (249,4) none false,.d (.int .i64 k)] [some (.orows (249,4) z3)]=some ⟨.d (.int .i64 j),[some (.orows (249,4) w)],[]⟩/\True/\k<=j/\j<=k+32*cnt (.own (249,4) z3))
def Gd (o:aK) (y:D):Prop:=∃(d0 d1 d2 d3:D),y= .agg [d0,d1,d2,d3]/\cnt d0=0/\cnt d1=0/\cnt d2=0/\cnt d3=0
include ho
theorem cu (xs:List D) (i:Int) (x:D):(o.set xs i x).length=xs.length:=by rw [ho.set];simp
theorem set_set (xs:List D) (i:Int) (x y:D):o.set (o.set xs i x) i y=o.set xs i y:=by rw [ho.set,ho.set,ho.set,List.set_set]
theorem gQ {xs:List D} {i:Int} {x:D} (h0:0<=i) (h:i.toNat<xs.length):o.dm (o.set xs i x) i=some x:=zo ho h0 (aN h)
theorem k_ {a:Int} (h0:0<=a) (h:a<=4611686018427387904):o.ar .add .i64 a 1=a+1:=inc ho h0 (b:=a+1) (by omega) (by omega)
theorem yD {a:Int} (h0:0<=a):o.cmp .lss a 0=false:=by rw [ho.cmp];simp [Vi.eV];omega
theorem u7 (u:Bool) (Y0 Y1 Y2 Y3 Y4:List D) (n i i1 k0 k1 k2 k3 k4:Int) (d0 d1 d2:D) (z3:List D) (t2:ByteArray) (w3:List D)
  (hn:o.len Y0=n)
  (h2:o.cmp .lss i n=true)
  (e0:o.dm Y0 i=some (.agg [d0,d1,d2,.own (31,4) z3]))
  (K0:o.ar .add .i64 k0 1=k1)
  (S0:o.set Y0 i (.agg [.int .i64 k0,d1,d2,.own (31,4) z3])=Y1)
  (e1:o.dm Y1 i=some (.agg [.int .i64 k0,d1,d2,.own (31,4) z3]))
  (K1:o.ar .add .i64 k1 1=k2)
  (S1:o.set Y1 i (.agg [.int .i64 k0,.int .i64 k1,d2,.own (31,4) z3])=Y2)
  (e2:o.dm Y2 i=some (.agg [.int .i64 k0,.int .i64 k1,d2,.own (31,4) z3]))
  (T2:o.call 96 [Ai k2] []=Ar (As t2))
  (K2:o.ar .add .i64 k2 1=k3)
  (S2:o.set Y2 i (.agg [.int .i64 k0,.int .i64 k1,.str t2,.own (31,4) z3])=Y3)
  (e3:o.dm Y3 i=some (.agg [.int .i64 k0,.int .i64 k1,.str t2,.own (31,4) z3]))
  (C3:o.call 24 [.arr (1,0) (31,4) none false,Ai k3] [Oq z3]=some ⟨Ai k4,[Oq w3],[]⟩)
  (S3:o.set Y3 i (.agg [.int .i64 k0,.int .i64 k1,.str t2,.own (31,4) w3])=Y4)
  (hi:o.ar .add .i64 i 1=i1) (z:Vi.Out×St) (ih:o.loop 2400 ⟨[.arr (42,0) (31,4) none u,Ai k4,U,U,U,Ai i1,U,U,U,U,U,U,U,U,U,U,U,U,U,U,U,U,U,U,U,U,U,U,U,U,U,U,U,U,U,U,U,U,U,U,U,U],[[],[],[],[],[],[],[],[],[],[],[],[],[],[],[],[],[],[],[],[],[],[],[],[],[],[],[],[],[],[],[],[],[],[],[],[],[],[],[],[],[],[],[Oq Y4]]⟩=some z):o.loop 2400 ⟨[.arr (42,0) (31,4) none u,Ai k0,U,U,U,Ai i,U,U,U,U,U,U,U,U,U,U,U,U,U,U,U,U,U,U,U,U,U,U,U,U,U,U,U,U,U,U,U,U,U,U,U,U],[[],[],[],[],[],[],[],[],[],[],[],[],[],[],[],[],[],[],[],[],[],[],[],[],[],[],[],[],[],[],[],[],[],[],[],[],[],[],[],[],[],[],[Oq Y0]]⟩=some z:=by
 refine ho.ay ?_
 cbv
 repeat ((first | rw [hn] | rw [h2] | rw [e0] | rw [K0] | rw [S0] | rw [e1] | rw [K1] | rw [S1] | rw [e2] | rw [T2] | rw [K2] | rw [S2] | rw [e3] | rw [C3] | rw [S3] | rw [hi] | exact ih);(try cbv))
theorem wL (u:Bool) (Y0:List D) (n k0:Int) (hn:o.len Y0=n) (h2:o.cmp .lss n n=false):o.loop 2400 ⟨[.arr (42,0) (31,4) none u,Ai k0,U,U,U,Ai n,U,U,U,U,U,U,U,U,U,U,U,U,U,U,U,U,U,U,U,U,U,U,U,U,U,U,U,U,U,U,U,U,U,U,U,U],[[],[],[],[],[],[],[],[],[],[],[],[],[],[],[],[],[],[],[],[],[],[],[],[],[],[],[],[],[],[],[],[],[],[],[],[],[],[],[],[],[],[],[Oq Y0]]⟩=some (.exit 0,⟨[U,Ai k0,U,U,U,U,U,U,U,U,U,U,U,U,U,U,U,U,U,U,U,U,U,U,U,U,U,U,U,U,U,U,U,U,U,U,U,U,U,U,U,U],[[],[],[],[],[],[],[],[],[],[],[],[],[],[],[],[],[],[],[],[],[],[],[],[],[],[],[],[],[],[],[],[],[],[],[],[],[],[],[],[],[],[],[Oq Y0]]⟩):=by
 refine ho.ay ?_
 cbv
 repeat ((first | rw [hn] | rw [h2]);(try cbv))
theorem yE (u:Bool) (ys zs:List D) (k k2:Int) (l:o.loop 2400 ⟨[.arr (42,0) (31,4) none u,Ai k,U,U,U,Ai 0,U,U,U,U,U,U,U,U,U,U,U,U,U,U,U,U,U,U,U,U,U,U,U,U,U,U,U,U,U,U,U,U,U,U,U,U],[[],[],[],[],[],[],[],[],[],[],[],[],[],[],[],[],[],[],[],[],[],[],[],[],[],[],[],[],[],[],[],[],[],[],[],[],[],[],[],[],[],[],[Oq ys]]⟩=some (.exit 0,⟨[U,Ai k2,U,U,U,U,U,U,U,U,U,U,U,U,U,U,U,U,U,U,U,U,U,U,U,U,U,U,U,U,U,U,U,U,U,U,U,U,U,U,U,U],[[],[],[],[],[],[],[],[],[],[],[],[],[],[],[],[],[],[],[],[],[],[],[],[],[],[],[],[],[],[],[],[],[],[],[],[],[],[],[],[],[],[],[Oq zs]]⟩)):o.call 24 [.arr (1,0) (31,4) none u,Ai k] [Oq ys]=some ⟨Ai k2,[Oq zs],[]⟩:=by
 refine ho.aq ?_
 cbv
 rw [l]
 cbv
theorem u9 (xs:List D) (n i i1 k0 k1 k2 k3 k4:Int) (t2:ByteArray) (f3:List D)
  (hn:o.len xs=n)
  (h2:o.cmp .lss i n=true)
  (e0:o.dm xs i=some (.agg [.int .i64 k0,.int .i64 k1,.str t2,.lst f3]))
  (K0:o.ar .add .i64 k0 1=k1)
  (K1:o.ar .add .i64 k1 1=k2)
  (T2:o.call 96 [Ai k2] []=Ar (As t2))
  (K2:o.ar .add .i64 k2 1=k3)
  (C3:o.call 97 [Al f3,Ai k3] []=Ar (Ai k4))
  (N3:o.cmp .lss k4 0=false)
  (hi:o.ar .add .i64 i 1=i1) (z:Vi.Out×St) (ih:o.loop 9700 ⟨[Al xs,Ai k4,U,U,U,Ai i1,U,U,U,U,U,U,U,U,U,U,U,U,U,U,U,U,U,U,U,U,U,U,U,U,U,U,U,U,U,U,U,U,U,U,U,U,U,U,U,U,U,U,U,U],Ky⟩=some z):o.loop 9700 ⟨[Al xs,Ai k0,U,U,U,Ai i,U,U,U,U,U,U,U,U,U,U,U,U,U,U,U,U,U,U,U,U,U,U,U,U,U,U,U,U,U,U,U,U,U,U,U,U,U,U,U,U,U,U,U,U],Ky⟩=some z:=by
 refine ho.ay ?_
 cbv
 repeat ((first | rw [hn] | rw [h2] | rw [e0] | rw [eq_int ho] | rw [rF ho] | rw [K0] | rw [K1] | rw [T2] | rw [K2] | rw [C3] | rw [N3] | rw [hi] | exact ih);(try cbv))
theorem wM (xs:List D) (n k0:Int) (hn:o.len xs=n) (h2:o.cmp .lss n n=false):o.loop 9700 ⟨[Al xs,Ai k0,U,U,U,Ai n,U,U,U,U,U,U,U,U,U,U,U,U,U,U,U,U,U,U,U,U,U,U,U,U,U,U,U,U,U,U,U,U,U,U,U,U,U,U,U,U,U,U,U,U],Ky⟩=some (.exit 0,⟨[U,Ai k0,U,U,U,U,U,U,U,U,U,U,U,U,U,U,U,U,U,U,U,U,U,U,U,U,U,U,U,U,U,U,U,U,U,U,U,U,U,U,U,U,U,U,U,U,U,U,U,U],Ky⟩):=by
 refine ho.ay ?_
 cbv
 repeat ((first | rw [hn] | rw [h2]);(try cbv))
theorem qx (xs:List D) (k k2:Int) (l:o.loop 9700 ⟨[Al xs,Ai k,U,U,U,Ai 0,U,U,U,U,U,U,U,U,U,U,U,U,U,U,U,U,U,U,U,U,U,U,U,U,U,U,U,U,U,U,U,U,U,U,U,U,U,U,U,U,U,U,U,U],Ky⟩=some (.exit 0,⟨[U,Ai k2,U,U,U,U,U,U,U,U,U,U,U,U,U,U,U,U,U,U,U,U,U,U,U,U,U,U,U,U,U,U,U,U,U,U,U,U,U,U,U,U,U,U,U,U,U,U,U,U],Ky⟩)):o.call 97 [Al xs,Ai k] []=Ar (Ai k2):=by
 refine ho.aq ?_
 cbv
 rw [l]
 cbv
theorem j7 (xs:List D) (n:Int) (hl:(xs.length:Int)=n) (hm:n<=4611686018427387904):∀(m:Nat) (i k k2:Int),0<=i->i+m=n->Chain (C8 o) (xs.drop i.toNat) k k2->o.loop 9700 ⟨[Al xs,Ai k,U,U,U,Ai i,U,U,U,U,U,U,U,U,U,U,U,U,U,U,U,U,U,U,U,U,U,U,U,U,U,U,U,U,U,U,U,U,U,U,U,U,U,U,U,U,U,U,U,U],Ky⟩=some (.exit 0,⟨[U,Ai k2,U,U,U,U,U,U,U,U,U,U,U,U,U,U,U,U,U,U,U,U,U,U,U,U,U,U,U,U,U,U,U,U,U,U,U,U,U,U,U,U,U,U,U,U,U,U,U,U],Ky⟩)
 | 0,i,k,k2,h0,h,hc=>by
  have hi:i=n:=by omega
  subst hi;rw [List.drop_eq_nil_of_le (by omega)]at hc;simp only [Chain]at hc;subst hc;exact wM ho xs i k2 (by rw [ho.len];exact hl) (jm ho i)
 | m+1,i,k,k2,h0,h,hc=>by
  obtain ⟨x,hx⟩:∃x,xs[i.toNat]? =some x:=⟨_,aN (by omega)⟩
  obtain ⟨g1,g2⟩:=ai.1 hx;rw [List.drop_eq_getElem_cons g1,g2]at hc;obtain ⟨k1,hr,hc⟩:=hc;obtain ⟨t2,f3,j3,rfl,c0,c1,b0,b1,b2,b3,bl,ek⟩:=hr;rw [ek]at hc;have ih:=j7 xs n hl hm m (i+1) _ k2 (by omega) (by omega) (by rw [show (i+1).toNat=i.toNat+1 by omega];exact hc);exact u9 ho xs n i (i+1) (k) (k+1) (k+1+1) (k+1+1+1) (j3) t2 f3 (by rw [ho.len];exact hl) (fX ho (by omega)) (bN ho xs i _ h0 hx) (k_ ho (by omega) (by omega)) (k_ ho (by omega) (by omega)) c0 (k_ ho (by omega) (by omega)) c1 (yD ho (by omega)) (k_ ho h0 (by omega)) _ ih
theorem yF (u:Bool) (Y0 Y1 Y2 Y3 Y4:List D) (n i i1 k0 k1 k2 k3 k4:Int) (d0 d1 d2:D) (z3:List D) (t0:ByteArray) (w3:List D)
  (hn:o.len Y0=n)
  (h2:o.cmp .lss i n=true)
  (e0:o.dm Y0 i=some (.agg [d0,d1,d2,.own (224,4) z3]))
  (T0:o.call 96 [Ai k0] []=Ar (As t0))
  (K0:o.ar .add .i64 k0 1=k1)
  (S0:o.set Y0 i (.agg [.str t0,d1,d2,.own (224,4) z3])=Y1)
  (e1:o.dm Y1 i=some (.agg [.str t0,d1,d2,.own (224,4) z3]))
  (K1:o.ar .add .i64 k1 1=k2)
  (S1:o.set Y1 i (.agg [.str t0,.int .i64 k1,d2,.own (224,4) z3])=Y2)
  (e2:o.dm Y2 i=some (.agg [.str t0,.int .i64 k1,d2,.own (224,4) z3]))
  (K2:o.ar .add .i64 k2 1=k3)
  (S2:o.set Y2 i (.agg [.str t0,.int .i64 k1,.int .i64 k2,.own (224,4) z3])=Y3)
  (e3:o.dm Y3 i=some (.agg [.str t0,.int .i64 k1,.int .i64 k2,.own (224,4) z3]))
  (C3:o.call 184 [.arr (1,0) (224,4) none false,Ai k3] [some (.orows (224,4) z3)]=some ⟨Ai k4,[some (.orows (224,4) w3)],[]⟩)
  (S3:o.set Y3 i (.agg [.str t0,.int .i64 k1,.int .i64 k2,.own (224,4) w3])=Y4)
  (hi:o.ar .add .i64 i 1=i1) (z:Vi.Out×St) (ih:o.loop 9400 ⟨[.arr (42,0) (226,4) none u,Ai k4,U,U,U,Ai i1,U,U,U,U,U,U,U,U,U,U,U,U,U,U,U,U,U,U,U,U,U,U,U,U,U,U,U,U,U,U,U,U,U,U,U,U],[[],[],[],[],[],[],[],[],[],[],[],[],[],[],[],[],[],[],[],[],[],[],[],[],[],[],[],[],[],[],[],[],[],[],[],[],[],[],[],[],[],[],[some (.orows (226,4) Y4)]]⟩=some z):o.loop 9400 ⟨[.arr (42,0) (226,4) none u,Ai k0,U,U,U,Ai i,U,U,U,U,U,U,U,U,U,U,U,U,U,U,U,U,U,U,U,U,U,U,U,U,U,U,U,U,U,U,U,U,U,U,U,U],[[],[],[],[],[],[],[],[],[],[],[],[],[],[],[],[],[],[],[],[],[],[],[],[],[],[],[],[],[],[],[],[],[],[],[],[],[],[],[],[],[],[],[some (.orows (226,4) Y0)]]⟩=some z:=by
 refine ho.ay ?_
 cbv
 repeat ((first | rw [hn] | rw [h2] | rw [e0] | rw [T0] | rw [K0] | rw [S0] | rw [e1] | rw [K1] | rw [S1] | rw [e2] | rw [K2] | rw [S2] | rw [e3] | rw [C3] | rw [S3] | rw [hi] | exact ih);(try cbv))
theorem Ao (u:Bool) (Y0:List D) (n k0:Int) (hn:o.len Y0=n) (h2:o.cmp .lss n n=false):o.loop 9400 ⟨[.arr (42,0) (226,4) none u,Ai k0,U,U,U,Ai n,U,U,U,U,U,U,U,U,U,U,U,U,U,U,U,U,U,U,U,U,U,U,U,U,U,U,U,U,U,U,U,U,U,U,U,U],[[],[],[],[],[],[],[],[],[],[],[],[],[],[],[],[],[],[],[],[],[],[],[],[],[],[],[],[],[],[],[],[],[],[],[],[],[],[],[],[],[],[],[some (.orows (226,4) Y0)]]⟩=some (.exit 0,⟨[U,Ai k0,U,U,U,U,U,U,U,U,U,U,U,U,U,U,U,U,U,U,U,U,U,U,U,U,U,U,U,U,U,U,U,U,U,U,U,U,U,U,U,U],[[],[],[],[],[],[],[],[],[],[],[],[],[],[],[],[],[],[],[],[],[],[],[],[],[],[],[],[],[],[],[],[],[],[],[],[],[],[],[],[],[],[],[some (.orows (226,4) Y0)]]⟩):=by
 refine ho.ay ?_
 cbv
 repeat ((first | rw [hn] | rw [h2]);(try cbv))
theorem BS (u:Bool) (ys zs:List D) (k k2:Int) (l:o.loop 9400 ⟨[.arr (42,0) (226,4) none u,Ai k,U,U,U,Ai 0,U,U,U,U,U,U,U,U,U,U,U,U,U,U,U,U,U,U,U,U,U,U,U,U,U,U,U,U,U,U,U,U,U,U,U,U],[[],[],[],[],[],[],[],[],[],[],[],[],[],[],[],[],[],[],[],[],[],[],[],[],[],[],[],[],[],[],[],[],[],[],[],[],[],[],[],[],[],[],[some (.orows (226,4) ys)]]⟩=some (.exit 0,⟨[U,Ai k2,U,U,U,U,U,U,U,U,U,U,U,U,U,U,U,U,U,U,U,U,U,U,U,U,U,U,U,U,U,U,U,U,U,U,U,U,U,U,U,U],[[],[],[],[],[],[],[],[],[],[],[],[],[],[],[],[],[],[],[],[],[],[],[],[],[],[],[],[],[],[],[],[],[],[],[],[],[],[],[],[],[],[],[some (.orows (226,4) zs)]]⟩)):o.call 94 [.arr (1,0) (226,4) none u,Ai k] [some (.orows (226,4) ys)]=some ⟨Ai k2,[some (.orows (226,4) zs)],[]⟩:=by
 refine ho.aq ?_
 cbv
 rw [l]
 cbv
theorem wN (u:Bool) (Y0 Y1 Y2 Y3 Y4:List D) (n i i1 k0 k1 k2 k3 k4:Int) (d0 d1 d2:D) (z3:List D) (t2:ByteArray) (w3:List D)
  (hn:o.len Y0=n)
  (h2:o.cmp .lss i n=true)
  (e0:o.dm Y0 i=some (.agg [d0,d1,d2,.own (249,4) z3]))
  (K0:o.ar .add .i64 k0 1=k1)
  (S0:o.set Y0 i (.agg [.int .i64 k0,d1,d2,.own (249,4) z3])=Y1)
  (e1:o.dm Y1 i=some (.agg [.int .i64 k0,d1,d2,.own (249,4) z3]))
  (K1:o.ar .add .i64 k1 1=k2)
  (S1:o.set Y1 i (.agg [.int .i64 k0,.int .i64 k1,d2,.own (249,4) z3])=Y2)
  (e2:o.dm Y2 i=some (.agg [.int .i64 k0,.int .i64 k1,d2,.own (249,4) z3]))
  (T2:o.call 96 [Ai k2] []=Ar (As t2))
  (K2:o.ar .add .i64 k2 1=k3)
  (S2:o.set Y2 i (.agg [.int .i64 k0,.int .i64 k1,.str t2,.own (249,4) z3])=Y3)
  (e3:o.dm Y3 i=some (.agg [.int .i64 k0,.int .i64 k1,.str t2,.own (249,4) z3]))
  (C3:o.call 95 [.arr (1,0) (249,4) none false,Ai k3] [some (.orows (249,4) z3)]=some ⟨Ai k4,[some (.orows (249,4) w3)],[]⟩)
  (S3:o.set Y3 i (.agg [.int .i64 k0,.int .i64 k1,.str t2,.own (249,4) w3])=Y4)
  (hi:o.ar .add .i64 i 1=i1) (z:Vi.Out×St) (ih:o.loop 9500 ⟨[.arr (42,0) (249,4) none u,Ai k4,U,U,U,Ai i1,U,U,U,U,U,U,U,U,U,U,U,U,U,U,U,U,U,U,U,U,U,U,U,U,U,U,U,U,U,U,U,U,U,U,U,U],[[],[],[],[],[],[],[],[],[],[],[],[],[],[],[],[],[],[],[],[],[],[],[],[],[],[],[],[],[],[],[],[],[],[],[],[],[],[],[],[],[],[],[some (.orows (249,4) Y4)]]⟩=some z):o.loop 9500 ⟨[.arr (42,0) (249,4) none u,Ai k0,U,U,U,Ai i,U,U,U,U,U,U,U,U,U,U,U,U,U,U,U,U,U,U,U,U,U,U,U,U,U,U,U,U,U,U,U,U,U,U,U,U],[[],[],[],[],[],[],[],[],[],[],[],[],[],[],[],[],[],[],[],[],[],[],[],[],[],[],[],[],[],[],[],[],[],[],[],[],[],[],[],[],[],[],[some (.orows (249,4) Y0)]]⟩=some z:=by
 refine ho.ay ?_
 cbv
 repeat ((first | rw [hn] | rw [h2] | rw [e0] | rw [K0] | rw [S0] | rw [e1] | rw [K1] | rw [S1] | rw [e2] | rw [T2] | rw [K2] | rw [S2] | rw [e3] | rw [C3] | rw [S3] | rw [hi] | exact ih);(try cbv))
theorem yG (u:Bool) (Y0:List D) (n k0:Int) (hn:o.len Y0=n) (h2:o.cmp .lss n n=false):o.loop 9500 ⟨[.arr (42,0) (249,4) none u,Ai k0,U,U,U,Ai n,U,U,U,U,U,U,U,U,U,U,U,U,U,U,U,U,U,U,U,U,U,U,U,U,U,U,U,U,U,U,U,U,U,U,U,U],[[],[],[],[],[],[],[],[],[],[],[],[],[],[],[],[],[],[],[],[],[],[],[],[],[],[],[],[],[],[],[],[],[],[],[],[],[],[],[],[],[],[],[some (.orows (249,4) Y0)]]⟩=some (.exit 0,⟨[U,Ai k0,U,U,U,U,U,U,U,U,U,U,U,U,U,U,U,U,U,U,U,U,U,U,U,U,U,U,U,U,U,U,U,U,U,U,U,U,U,U,U,U],[[],[],[],[],[],[],[],[],[],[],[],[],[],[],[],[],[],[],[],[],[],[],[],[],[],[],[],[],[],[],[],[],[],[],[],[],[],[],[],[],[],[],[some (.orows (249,4) Y0)]]⟩):=by
 refine ho.ay ?_
 cbv
 repeat ((first | rw [hn] | rw [h2]);(try cbv))
theorem Ap (u:Bool) (ys zs:List D) (k k2:Int) (l:o.loop 9500 ⟨[.arr (42,0) (249,4) none u,Ai k,U,U,U,Ai 0,U,U,U,U,U,U,U,U,U,U,U,U,U,U,U,U,U,U,U,U,U,U,U,U,U,U,U,U,U,U,U,U,U,U,U,U],[[],[],[],[],[],[],[],[],[],[],[],[],[],[],[],[],[],[],[],[],[],[],[],[],[],[],[],[],[],[],[],[],[],[],[],[],[],[],[],[],[],[],[some (.orows (249,4) ys)]]⟩=some (.exit 0,⟨[U,Ai k2,U,U,U,U,U,U,U,U,U,U,U,U,U,U,U,U,U,U,U,U,U,U,U,U,U,U,U,U,U,U,U,U,U,U,U,U,U,U,U,U],[[],[],[],[],[],[],[],[],[],[],[],[],[],[],[],[],[],[],[],[],[],[],[],[],[],[],[],[],[],[],[],[],[],[],[],[],[],[],[],[],[],[],[some (.orows (249,4) zs)]]⟩)):o.call 95 [.arr (1,0) (249,4) none u,Ai k] [some (.orows (249,4) ys)]=some ⟨Ai k2,[some (.orows (249,4) zs)],[]⟩:=by
 refine ho.aq ?_
 cbv
 rw [l]
 cbv
theorem wO (u:Bool) (Y0 Y1 Y2 Y3 Y4:List D) (n i i1 k0 k1 k2 k3 k4:Int) (d0 d1 d2 d3:D) (t2:ByteArray)
  (hn:o.len Y0=n)
  (h2:o.cmp .lss i n=true)
  (e0:o.dm Y0 i=some (.agg [d0,d1,d2,d3]))
  (K0:o.ar .add .i64 k0 1=k1)
  (S0:o.set Y0 i (.agg [.int .i64 k0,d1,d2,d3])=Y1)
  (e1:o.dm Y1 i=some (.agg [.int .i64 k0,d1,d2,d3]))
  (K1:o.ar .add .i64 k1 1=k2)
  (S1:o.set Y1 i (.agg [.int .i64 k0,.int .i64 k1,d2,d3])=Y2)
  (e2:o.dm Y2 i=some (.agg [.int .i64 k0,.int .i64 k1,d2,d3]))
  (T2:o.call 96 [Ai k2] []=Ar (As t2))
  (K2:o.ar .add .i64 k2 1=k3)
  (S2:o.set Y2 i (.agg [.int .i64 k0,.int .i64 k1,.str t2,d3])=Y3)
  (e3:o.dm Y3 i=some (.agg [.int .i64 k0,.int .i64 k1,.str t2,d3]))
  (K3:o.ar .add .i64 k3 1=k4)
  (S3:o.set Y3 i (.agg [.int .i64 k0,.int .i64 k1,.str t2,.int .i64 k3])=Y4)
  (hi:o.ar .add .i64 i 1=i1) (z:Vi.Out×St) (ih:o.loop 18400 ⟨[.arr (42,0) (224,4) none u,Ai k4,U,U,U,Ai i1,U,U,U,U,U,U,U,U,U,U,U,U,U,U,U,U,U,U,U,U,U,U,U,U,U,U,U,U,U,U,U,U,U,U,U,U],[[],[],[],[],[],[],[],[],[],[],[],[],[],[],[],[],[],[],[],[],[],[],[],[],[],[],[],[],[],[],[],[],[],[],[],[],[],[],[],[],[],[],[some (.orows (224,4) Y4)]]⟩=some z):o.loop 18400 ⟨[.arr (42,0) (224,4) none u,Ai k0,U,U,U,Ai i,U,U,U,U,U,U,U,U,U,U,U,U,U,U,U,U,U,U,U,U,U,U,U,U,U,U,U,U,U,U,U,U,U,U,U,U],[[],[],[],[],[],[],[],[],[],[],[],[],[],[],[],[],[],[],[],[],[],[],[],[],[],[],[],[],[],[],[],[],[],[],[],[],[],[],[],[],[],[],[some (.orows (224,4) Y0)]]⟩=some z:=by
 refine ho.ay ?_
 cbv
 repeat ((first | rw [hn] | rw [h2] | rw [e0] | rw [K0] | rw [S0] | rw [e1] | rw [K1] | rw [S1] | rw [e2] | rw [T2] | rw [K2] | rw [S2] | rw [e3] | rw [K3] | rw [S3] | rw [hi] | exact ih);(try cbv))
theorem yH (u:Bool) (Y0:List D) (n k0:Int) (hn:o.len Y0=n) (h2:o.cmp .lss n n=false):o.loop 18400 ⟨[.arr (42,0) (224,4) none u,Ai k0,U,U,U,Ai n,U,U,U,U,U,U,U,U,U,U,U,U,U,U,U,U,U,U,U,U,U,U,U,U,U,U,U,U,U,U,U,U,U,U,U,U],[[],[],[],[],[],[],[],[],[],[],[],[],[],[],[],[],[],[],[],[],[],[],[],[],[],[],[],[],[],[],[],[],[],[],[],[],[],[],[],[],[],[],[some (.orows (224,4) Y0)]]⟩=some (.exit 0,⟨[U,Ai k0,U,U,U,U,U,U,U,U,U,U,U,U,U,U,U,U,U,U,U,U,U,U,U,U,U,U,U,U,U,U,U,U,U,U,U,U,U,U,U,U],[[],[],[],[],[],[],[],[],[],[],[],[],[],[],[],[],[],[],[],[],[],[],[],[],[],[],[],[],[],[],[],[],[],[],[],[],[],[],[],[],[],[],[some (.orows (224,4) Y0)]]⟩):=by
 refine ho.ay ?_
 cbv
 repeat ((first | rw [hn] | rw [h2]);(try cbv))
theorem Aq (u:Bool) (ys zs:List D) (k k2:Int) (l:o.loop 18400 ⟨[.arr (42,0) (224,4) none u,Ai k,U,U,U,Ai 0,U,U,U,U,U,U,U,U,U,U,U,U,U,U,U,U,U,U,U,U,U,U,U,U,U,U,U,U,U,U,U,U,U,U,U,U],[[],[],[],[],[],[],[],[],[],[],[],[],[],[],[],[],[],[],[],[],[],[],[],[],[],[],[],[],[],[],[],[],[],[],[],[],[],[],[],[],[],[],[some (.orows (224,4) ys)]]⟩=some (.exit 0,⟨[U,Ai k2,U,U,U,U,U,U,U,U,U,U,U,U,U,U,U,U,U,U,U,U,U,U,U,U,U,U,U,U,U,U,U,U,U,U,U,U,U,U,U,U],[[],[],[],[],[],[],[],[],[],[],[],[],[],[],[],[],[],[],[],[],[],[],[],[],[],[],[],[],[],[],[],[],[],[],[],[],[],[],[],[],[],[],[some (.orows (224,4) zs)]]⟩)):o.call 184 [.arr (1,0) (224,4) none u,Ai k] [some (.orows (224,4) ys)]=some ⟨Ai k2,[some (.orows (224,4) zs)],[]⟩:=by
 refine ho.aq ?_
 cbv
 rw [l]
 cbv
theorem nP (mt:MT o) (u:Bool):∀(m:Nat) (i k:Int) (ys:List D),0<=i->i+m=ys.length->(ys.length:Int)<=4611686018427387904->(∀j,i.toNat<=j->∀y,ys[j]? =some y->C9 o y)->0<=k->k+32*(m+cL (ys.drop i.toNat))<=4611686018427387904->
  ∃zs k2,o.loop 2400 ⟨[.arr (42,0) (31,4) none u,Ai k,U,U,U,Ai i,U,U,U,U,U,U,U,U,U,U,U,U,U,U,U,U,U,U,U,U,U,U,U,U,U,U,U,U,U,U,U,U,U,U,U,U],[[],[],[],[],[],[],[],[],[],[],[],[],[],[],[],[],[],[],[],[],[],[],[],[],[],[],[],[],[],[],[],[],[],[],[],[],[],[],[],[],[],[],[Oq ys]]⟩=some (.exit 0,⟨[U,Ai k2,U,U,U,U,U,U,U,U,U,U,U,U,U,U,U,U,U,U,U,U,U,U,U,U,U,U,U,U,U,U,U,U,U,U,U,U,U,U,U,U],[[],[],[],[],[],[],[],[],[],[],[],[],[],[],[],[],[],[],[],[],[],[],[],[],[],[],[],[],[],[],[],[],[],[],[],[],[],[],[],[],[],[],[Oq zs]]⟩)/\zs.length=ys.length/\(∀j,j<i.toNat->zs[j]? =ys[j]?)/\Chain (C8 o) (aV (zs.drop i.toNat)) k k2/\k<=k2/\k2<=k+32*(m+cL (ys.drop i.toNat))
 | 0,i,k,ys,h0,h,hb,hd,g0,g1=>by
  have hi:i=(ys.length:Int):=by omega
  refine ⟨ys,k,?_,rfl,fun _ _=>rfl,?_,Int.le_refl _,?_⟩
  ·exact wL ho u ys i k (by rw [ho.len];exact hi.symm) (jm ho i)
  ·rw [List.drop_eq_nil_of_le (by omega)];simp only [aV,Chain]
  ·have:=bV (ys.drop i.toNat);omega
 | m+1,i,k,ys,h0,h,hb,hd,g0,g1=>by
  have hk:i.toNat<ys.length:=by omega
  obtain ⟨y,hyk⟩:∃y,ys[i.toNat]? =some y:=⟨_,aN hk⟩
  have hcd:=ig hyk;have hnn:=bV (ys.drop (i.toNat+1));obtain ⟨d0,d1,d2,z3,rfl,x0,x1,x2,M0⟩:=hd i.toNat (Nat.le_refl _) y hyk;simp only [cnt,cL,x0,x1,x2]at hcd;have hz3:=bV z3;obtain ⟨t2,T2⟩:=mt (k+1+1) (by omega) (by omega);obtain ⟨w3,j3,C3,H3,l3,v3⟩:=M0 (k+1+1+1) (by omega) (by simp only [cnt];omega);simp only [cnt]at v3;have hdr:(o.set ys i (.agg [.int .i64 (k),.int .i64 (k+1),.str t2,.own (31,4) w3])).drop (i+1).toNat=ys.drop (i.toNat+1):=by rw [ho.set,show (i+1).toNat=i.toNat+1 by omega,List.drop_set_of_lt (by omega)]
  obtain ⟨zs,k2,i1,i2,i3,i4,i5,i6⟩:=nP mt u m (i+1) (j3) (o.set ys i (.agg [.int .i64 (k),.int .i64 (k+1),.str t2,.own (31,4) w3])) (by omega) (by rw [cu ho];omega) (by rw [cu ho];exact hb) (fun j hj y hy=>hd j (by omega) y (by rw [ho.set,List.getElem?_set_ne (by omega)]at hy;exact hy)) (by omega) (by rw [hdr];omega);rw [hdr]at i6;rw [cu ho]at i2;refine ⟨zs,k2,u7 ho u ys (o.set ys i (.agg [.int .i64 (k),d1,d2,.own (31,4) z3])) (o.set (o.set ys i (.agg [.int .i64 (k),d1,d2,.own (31,4) z3])) i (.agg [.int .i64 (k),.int .i64 (k+1),d2,.own (31,4) z3])) (o.set (o.set (o.set ys i (.agg [.int .i64 (k),d1,d2,.own (31,4) z3])) i (.agg [.int .i64 (k),.int .i64 (k+1),d2,.own (31,4) z3])) i (.agg [.int .i64 (k),.int .i64 (k+1),.str t2,.own (31,4) z3])) (o.set ys i (.agg [.int .i64 (k),.int .i64 (k+1),.str t2,.own (31,4) w3])) _ i (i+1) (k) (k+1) (k+1+1) (k+1+1+1) (j3) d0 d1 d2 z3 t2 w3 rfl (fX ho (by rw [ho.len];omega)) (bN ho ys i _ h0 hyk) (k_ ho (by omega) (by omega)) rfl (gQ ho h0 (by first | exact hk | (simp only [cu ho];exact hk))) (k_ ho (by omega) (by omega)) rfl (gQ ho h0 (by first | exact hk | (simp only [cu ho];exact hk))) T2 (k_ ho (by omega) (by omega)) rfl (gQ ho h0 (by first | exact hk | (simp only [cu ho];exact hk))) C3 (by first | rfl | simp only [set_set ho]) (k_ ho h0 (by omega)) _ i1,i2,fun j hj=>by rw [i3 j (by omega),ho.set,List.getElem?_set_ne (by omega)],?_,by omega,by omega⟩;have hz:zs[i.toNat]? =some (.agg [.int .i64 (k),.int .i64 (k+1),.str t2,.own (31,4) w3]):=by rw [i3 _ (by omega),ho.set,List.getElem?_set_self (by omega)]
  obtain ⟨p1,p2⟩:=ai.1 hz;rw [List.drop_eq_getElem_cons p1,p2];rw [show (i+1).toNat=i.toNat+1 by omega]at i4;simp only [aV,bD];exact ⟨_,⟨t2,aV w3,j3,rfl,T2,H3,by omega,by omega,by omega,by omega,by omega,rfl⟩,i4⟩
theorem qy (mt:MT o) (u:Bool):∀(m:Nat) (i k:Int) (ys:List D),0<=i->i+m=ys.length->(ys.length:Int)<=4611686018427387904->(∀j,i.toNat<=j->∀y,ys[j]? =some y->Kj o y)->0<=k->k+32*(m+cL (ys.drop i.toNat))<=4611686018427387904->
  ∃zs k2,o.loop 9400 ⟨[.arr (42,0) (226,4) none u,Ai k,U,U,U,Ai i,U,U,U,U,U,U,U,U,U,U,U,U,U,U,U,U,U,U,U,U,U,U,U,U,U,U,U,U,U,U,U,U,U,U,U,U],[[],[],[],[],[],[],[],[],[],[],[],[],[],[],[],[],[],[],[],[],[],[],[],[],[],[],[],[],[],[],[],[],[],[],[],[],[],[],[],[],[],[],[some (.orows (226,4) ys)]]⟩=some (.exit 0,⟨[U,Ai k2,U,U,U,U,U,U,U,U,U,U,U,U,U,U,U,U,U,U,U,U,U,U,U,U,U,U,U,U,U,U,U,U,U,U,U,U,U,U,U,U],[[],[],[],[],[],[],[],[],[],[],[],[],[],[],[],[],[],[],[],[],[],[],[],[],[],[],[],[],[],[],[],[],[],[],[],[],[],[],[],[],[],[],[some (.orows (226,4) zs)]]⟩)/\zs.length=ys.length/\(∀j,j<i.toNat->zs[j]? =ys[j]?)/\True/\k<=k2/\k2<=k+32*(m+cL (ys.drop i.toNat))
 | 0,i,k,ys,h0,h,hb,hd,g0,g1=>by
  have hi:i=(ys.length:Int):=by omega
  refine ⟨ys,k,?_,rfl,fun _ _=>rfl,?_,Int.le_refl _,?_⟩
  ·exact Ao ho u ys i k (by rw [ho.len];exact hi.symm) (jm ho i)
  ·trivial
  ·have:=bV (ys.drop i.toNat);omega
 | m+1,i,k,ys,h0,h,hb,hd,g0,g1=>by
  have hk:i.toNat<ys.length:=by omega
  obtain ⟨y,hyk⟩:∃y,ys[i.toNat]? =some y:=⟨_,aN hk⟩
  have hcd:=ig hyk;have hnn:=bV (ys.drop (i.toNat+1));obtain ⟨d0,d1,d2,z3,rfl,x0,x1,x2,M0⟩:=hd i.toNat (Nat.le_refl _) y hyk;simp only [cnt,cL,x0,x1,x2]at hcd;have hz3:=bV z3;obtain ⟨t0,T0⟩:=mt (k) (by omega) (by omega);obtain ⟨w3,j3,C3,H3,l3,v3⟩:=M0 (k+1+1+1) (by omega) (by simp only [cnt];omega);simp only [cnt]at v3;have hdr:(o.set ys i (.agg [.str t0,.int .i64 (k+1),.int .i64 (k+1+1),.own (224,4) w3])).drop (i+1).toNat=ys.drop (i.toNat+1):=by rw [ho.set,show (i+1).toNat=i.toNat+1 by omega,List.drop_set_of_lt (by omega)]
  obtain ⟨zs,k2,i1,i2,i3,i4,i5,i6⟩:=qy mt u m (i+1) (j3) (o.set ys i (.agg [.str t0,.int .i64 (k+1),.int .i64 (k+1+1),.own (224,4) w3])) (by omega) (by rw [cu ho];omega) (by rw [cu ho];exact hb) (fun j hj y hy=>hd j (by omega) y (by rw [ho.set,List.getElem?_set_ne (by omega)]at hy;exact hy)) (by omega) (by rw [hdr];omega);rw [hdr]at i6;rw [cu ho]at i2;refine ⟨zs,k2,yF ho u ys (o.set ys i (.agg [.str t0,d1,d2,.own (224,4) z3])) (o.set (o.set ys i (.agg [.str t0,d1,d2,.own (224,4) z3])) i (.agg [.str t0,.int .i64 (k+1),d2,.own (224,4) z3])) (o.set (o.set (o.set ys i (.agg [.str t0,d1,d2,.own (224,4) z3])) i (.agg [.str t0,.int .i64 (k+1),d2,.own (224,4) z3])) i (.agg [.str t0,.int .i64 (k+1),.int .i64 (k+1+1),.own (224,4) z3])) (o.set ys i (.agg [.str t0,.int .i64 (k+1),.int .i64 (k+1+1),.own (224,4) w3])) _ i (i+1) (k) (k+1) (k+1+1) (k+1+1+1) (j3) d0 d1 d2 z3 t0 w3 rfl (fX ho (by rw [ho.len];omega)) (bN ho ys i _ h0 hyk) T0 (k_ ho (by omega) (by omega)) rfl (gQ ho h0 (by first | exact hk | (simp only [cu ho];exact hk))) (k_ ho (by omega) (by omega)) rfl (gQ ho h0 (by first | exact hk | (simp only [cu ho];exact hk))) (k_ ho (by omega) (by omega)) rfl (gQ ho h0 (by first | exact hk | (simp only [cu ho];exact hk))) C3 (by first | rfl | simp only [set_set ho]) (k_ ho h0 (by omega)) _ i1,i2,fun j hj=>by rw [i3 j (by omega),ho.set,List.getElem?_set_ne (by omega)],?_,by omega,by omega⟩
  trivial
theorem oX (mt:MT o) (u:Bool):∀(m:Nat) (i k:Int) (ys:List D),0<=i->i+m=ys.length->(ys.length:Int)<=4611686018427387904->(∀j,i.toNat<=j->∀y,ys[j]? =some y->Gc o y)->0<=k->k+32*(m+cL (ys.drop i.toNat))<=4611686018427387904->
  ∃zs k2,o.loop 9500 ⟨[.arr (42,0) (249,4) none u,Ai k,U,U,U,Ai i,U,U,U,U,U,U,U,U,U,U,U,U,U,U,U,U,U,U,U,U,U,U,U,U,U,U,U,U,U,U,U,U,U,U,U,U],[[],[],[],[],[],[],[],[],[],[],[],[],[],[],[],[],[],[],[],[],[],[],[],[],[],[],[],[],[],[],[],[],[],[],[],[],[],[],[],[],[],[],[some (.orows (249,4) ys)]]⟩=some (.exit 0,⟨[U,Ai k2,U,U,U,U,U,U,U,U,U,U,U,U,U,U,U,U,U,U,U,U,U,U,U,U,U,U,U,U,U,U,U,U,U,U,U,U,U,U,U,U],[[],[],[],[],[],[],[],[],[],[],[],[],[],[],[],[],[],[],[],[],[],[],[],[],[],[],[],[],[],[],[],[],[],[],[],[],[],[],[],[],[],[],[some (.orows (249,4) zs)]]⟩)/\zs.length=ys.length/\(∀j,j<i.toNat->zs[j]? =ys[j]?)/\True/\k<=k2/\k2<=k+32*(m+cL (ys.drop i.toNat))
 | 0,i,k,ys,h0,h,hb,hd,g0,g1=>by
  have hi:i=(ys.length:Int):=by omega
  refine ⟨ys,k,?_,rfl,fun _ _=>rfl,?_,Int.le_refl _,?_⟩
  ·exact yG ho u ys i k (by rw [ho.len];exact hi.symm) (jm ho i)
  ·trivial
  ·have:=bV (ys.drop i.toNat);omega
 | m+1,i,k,ys,h0,h,hb,hd,g0,g1=>by
  have hk:i.toNat<ys.length:=by omega
  obtain ⟨y,hyk⟩:∃y,ys[i.toNat]? =some y:=⟨_,aN hk⟩
  have hcd:=ig hyk;have hnn:=bV (ys.drop (i.toNat+1));obtain ⟨d0,d1,d2,z3,rfl,x0,x1,x2,M0⟩:=hd i.toNat (Nat.le_refl _) y hyk;simp only [cnt,cL,x0,x1,x2]at hcd;have hz3:=bV z3;obtain ⟨t2,T2⟩:=mt (k+1+1) (by omega) (by omega);obtain ⟨w3,j3,C3,H3,l3,v3⟩:=M0 (k+1+1+1) (by omega) (by simp only [cnt];omega);simp only [cnt]at v3;have hdr:(o.set ys i (.agg [.int .i64 (k),.int .i64 (k+1),.str t2,.own (249,4) w3])).drop (i+1).toNat=ys.drop (i.toNat+1):=by rw [ho.set,show (i+1).toNat=i.toNat+1 by omega,List.drop_set_of_lt (by omega)]
  obtain ⟨zs,k2,i1,i2,i3,i4,i5,i6⟩:=oX mt u m (i+1) (j3) (o.set ys i (.agg [.int .i64 (k),.int .i64 (k+1),.str t2,.own (249,4) w3])) (by omega) (by rw [cu ho];omega) (by rw [cu ho];exact hb) (fun j hj y hy=>hd j (by omega) y (by rw [ho.set,List.getElem?_set_ne (by omega)]at hy;exact hy)) (by omega) (by rw [hdr];omega);rw [hdr]at i6;rw [cu ho]at i2;refine ⟨zs,k2,wN ho u ys (o.set ys i (.agg [.int .i64 (k),d1,d2,.own (249,4) z3])) (o.set (o.set ys i (.agg [.int .i64 (k),d1,d2,.own (249,4) z3])) i (.agg [.int .i64 (k),.int .i64 (k+1),d2,.own (249,4) z3])) (o.set (o.set (o.set ys i (.agg [.int .i64 (k),d1,d2,.own (249,4) z3])) i (.agg [.int .i64 (k),.int .i64 (k+1),d2,.own (249,4) z3])) i (.agg [.int .i64 (k),.int .i64 (k+1),.str t2,.own (249,4) z3])) (o.set ys i (.agg [.int .i64 (k),.int .i64 (k+1),.str t2,.own (249,4) w3])) _ i (i+1) (k) (k+1) (k+1+1) (k+1+1+1) (j3) d0 d1 d2 z3 t2 w3 rfl (fX ho (by rw [ho.len];omega)) (bN ho ys i _ h0 hyk) (k_ ho (by omega) (by omega)) rfl (gQ ho h0 (by first | exact hk | (simp only [cu ho];exact hk))) (k_ ho (by omega) (by omega)) rfl (gQ ho h0 (by first | exact hk | (simp only [cu ho];exact hk))) T2 (k_ ho (by omega) (by omega)) rfl (gQ ho h0 (by first | exact hk | (simp only [cu ho];exact hk))) C3 (by first | rfl | simp only [set_set ho]) (k_ ho h0 (by omega)) _ i1,i2,fun j hj=>by rw [i3 j (by omega),ho.set,List.getElem?_set_ne (by omega)],?_,by omega,by omega⟩
  trivial
theorem oY (mt:MT o) (u:Bool):∀(m:Nat) (i k:Int) (ys:List D),0<=i->i+m=ys.length->(ys.length:Int)<=4611686018427387904->(∀j,i.toNat<=j->∀y,ys[j]? =some y->Gd o y)->0<=k->k+32*(m+cL (ys.drop i.toNat))<=4611686018427387904->
  ∃zs k2,o.loop 18400 ⟨[.arr (42,0) (224,4) none u,Ai k,U,U,U,Ai i,U,U,U,U,U,U,U,U,U,U,U,U,U,U,U,U,U,U,U,U,U,U,U,U,U,U,U,U,U,U,U,U,U,U,U,U],[[],[],[],[],[],[],[],[],[],[],[],[],[],[],[],[],[],[],[],[],[],[],[],[],[],[],[],[],[],[],[],[],[],[],[],[],[],[],[],[],[],[],[some (.orows (224,4) ys)]]⟩=some (.exit 0,⟨[U,Ai k2,U,U,U,U,U,U,U,U,U,U,U,U,U,U,U,U,U,U,U,U,U,U,U,U,U,U,U,U,U,U,U,U,U,U,U,U,U,U,U,U],[[],[],[],[],[],[],[],[],[],[],[],[],[],[],[],[],[],[],[],[],[],[],[],[],[],[],[],[],[],[],[],[],[],[],[],[],[],[],[],[],[],[],[some (.orows (224,4) zs)]]⟩)/\zs.length=ys.length/\(∀j,j<i.toNat->zs[j]? =ys[j]?)/\True/\k<=k2/\k2<=k+32*(m+cL (ys.drop i.toNat))
 | 0,i,k,ys,h0,h,hb,hd,g0,g1=>by
  have hi:i=(ys.length:Int):=by omega
  refine ⟨ys,k,?_,rfl,fun _ _=>rfl,?_,Int.le_refl _,?_⟩
  ·exact yH ho u ys i k (by rw [ho.len];exact hi.symm) (jm ho i)
  ·trivial
  ·have:=bV (ys.drop i.toNat);omega
 | m+1,i,k,ys,h0,h,hb,hd,g0,g1=>by
  have hk:i.toNat<ys.length:=by omega
  obtain ⟨y,hyk⟩:∃y,ys[i.toNat]? =some y:=⟨_,aN hk⟩
  have hcd:=ig hyk;have hnn:=bV (ys.drop (i.toNat+1));obtain ⟨d0,d1,d2,d3,rfl,x0,x1,x2,x3⟩:=hd i.toNat (Nat.le_refl _) y hyk;simp only [cnt,cL,x0,x1,x2,x3]at hcd;obtain ⟨t2,T2⟩:=mt (k+1+1) (by omega) (by omega);have hdr:(o.set ys i (.agg [.int .i64 (k),.int .i64 (k+1),.str t2,.int .i64 (k+1+1+1)])).drop (i+1).toNat=ys.drop (i.toNat+1):=by rw [ho.set,show (i+1).toNat=i.toNat+1 by omega,List.drop_set_of_lt (by omega)]
  obtain ⟨zs,k2,i1,i2,i3,i4,i5,i6⟩:=oY mt u m (i+1) (k+1+1+1+1) (o.set ys i (.agg [.int .i64 (k),.int .i64 (k+1),.str t2,.int .i64 (k+1+1+1)])) (by omega) (by rw [cu ho];omega) (by rw [cu ho];exact hb) (fun j hj y hy=>hd j (by omega) y (by rw [ho.set,List.getElem?_set_ne (by omega)]at hy;exact hy)) (by omega) (by rw [hdr];omega);rw [hdr]at i6;rw [cu ho]at i2;refine ⟨zs,k2,wO ho u ys (o.set ys i (.agg [.int .i64 (k),d1,d2,d3])) (o.set (o.set ys i (.agg [.int .i64 (k),d1,d2,d3])) i (.agg [.int .i64 (k),.int .i64 (k+1),d2,d3])) (o.set (o.set (o.set ys i (.agg [.int .i64 (k),d1,d2,d3])) i (.agg [.int .i64 (k),.int .i64 (k+1),d2,d3])) i (.agg [.int .i64 (k),.int .i64 (k+1),.str t2,d3])) (o.set ys i (.agg [.int .i64 (k),.int .i64 (k+1),.str t2,.int .i64 (k+1+1+1)])) _ i (i+1) (k) (k+1) (k+1+1) (k+1+1+1) (k+1+1+1+1) d0 d1 d2 d3 t2 rfl (fX ho (by rw [ho.len];omega)) (bN ho ys i _ h0 hyk) (k_ ho (by omega) (by omega)) rfl (gQ ho h0 (by first | exact hk | (simp only [cu ho];exact hk))) (k_ ho (by omega) (by omega)) rfl (gQ ho h0 (by first | exact hk | (simp only [cu ho];exact hk))) T2 (k_ ho (by omega) (by omega)) rfl (gQ ho h0 (by first | exact hk | (simp only [cu ho];exact hk))) (k_ ho (by omega) (by omega)) (by first | rfl | simp only [set_set ho]) (k_ ho h0 (by omega)) _ i1,i2,fun j hj=>by rw [i3 j (by omega),ho.set,List.getElem?_set_ne (by omega)],?_,by omega,by omega⟩
  trivial
theorem D2 (mt:MT o) {n:Nat} (ih:oD o n):xk o (n+1):=by
 intro ys h k u g0 g1;obtain ⟨xs,m,em,e_,hlen,hall⟩:=mP Tryz.underlying29 Ae h;injection em with em;subst em;injection e_ with e_;injection e_ with _ e_;subst e_;have hd:∀j,(0:Int).toNat<=j->∀y,ys[j]? =some y->C9 o y:=by
  intro j _ y hy;obtain ⟨f1,f2⟩:=hall y (List.mem_of_getElem? hy);rw [show cE Tryz.prog 31=true by unfold cE;rw [Tryz.underlying31]]at f2;cases n with
  | zero=>simp [Own]at f1
  | succ n=>
   obtain ⟨a_0,a_1,a_2,a_3,e,g_0,g_1,g_2,g_3⟩:=J_ f1;obtain ⟨v_0,e_,_⟩:=jL Tryz.underlying3 g_0;injection e_ with e_;subst e_;obtain ⟨v_1,e_,_⟩:=jL Tryz.underlying3 g_1;injection e_ with e_;subst e_;obtain ⟨v_2,e_,_⟩:=t9 Tryz.underlying9 g_2;injection e_ with e_;subst e_;have Qz_3:=g_3;obtain ⟨z_3,_,_,e_,_⟩:=mP Tryz.underlying29 Ae g_3;injection e_ with e_;subst e_;have Qz_3:=v7 _ _ _ Qz_3;exact ⟨_,_,_,z_3,by rw [bZ f2,e],rfl,rfl,rfl,fun k g0 g1=>(ih.1) z_3 Qz_3 k false g0 g1⟩
 simp only [cnt]at g1 |-;have hnn:=bV ys;obtain ⟨zs,k2,i1,i2,i3,i4,i5,i6⟩:=nP ho mt u ys.length 0 k ys (Int.le_refl _) (by omega) (by omega) hd g0 (by simpa using g1);refine ⟨zs,k2,yE ho u ys zs k k2 i1,qx ho _ k k2 (j7 ho _ (zs.length:Int) (by rw [cj]) (by omega) zs.length 0 k k2 (Int.le_refl _) (by omega) (by simpa using i4)),i5,by simpa using i6⟩
theorem IZ (mt:MT o) {n:Nat} (ih:oD o n):C6 o (n+1):=by
 intro ys h k u g0 g1;obtain ⟨xs,m,em,e_,hlen,hall⟩:=mP Tryz.underlying34 Af h;injection em with em;subst em;injection e_ with e_;injection e_ with _ e_;subst e_;have hd:∀j,(0:Int).toNat<=j->∀y,ys[j]? =some y->Kj o y:=by
  intro j _ y hy;obtain ⟨f1,f2⟩:=hall y (List.mem_of_getElem? hy);rw [show cE Tryz.prog 226=true by unfold cE;rw [Tryz.underlying226]]at f2;cases n with
  | zero=>simp [Own]at f1
  | succ n=>
   obtain ⟨a_0,a_1,a_2,a_3,e,g_0,g_1,g_2,g_3⟩:=Li f1;obtain ⟨v_0,e_,_⟩:=t9 Tryz.underlying9 g_0;injection e_ with e_;subst e_;obtain ⟨v_1,e_,_⟩:=jL Tryz.underlying3 g_1;injection e_ with e_;subst e_;obtain ⟨v_2,e_,_⟩:=jL Tryz.underlying3 g_2;injection e_ with e_;subst e_;have Qz_3:=g_3;obtain ⟨z_3,_,_,e_,_⟩:=mP Tryz.underlying216 xh g_3;injection e_ with e_;subst e_;have Qz_3:=v7 _ _ _ Qz_3;exact ⟨_,_,_,z_3,by rw [bZ f2,e],rfl,rfl,rfl,fun k g0 g1=>(ih.2.2.2) z_3 Qz_3 k false g0 g1⟩
 simp only [cnt]at g1 |-;have hnn:=bV ys;obtain ⟨zs,k2,i1,i2,i3,i4,i5,i6⟩:=qy ho mt u ys.length 0 k ys (Int.le_refl _) (by omega) (by omega) hd g0 (by simpa using g1);exact ⟨zs,k2,BS ho u ys zs k k2 i1,trivial,i5,by simpa using i6⟩
theorem Ge (mt:MT o) {n:Nat} (ih:oD o n):Ak o (n+1):=by
 intro ys h k u g0 g1;obtain ⟨xs,m,em,e_,hlen,hall⟩:=mP Tryz.underlying35 xj h;injection em with em;subst em;injection e_ with e_;injection e_ with _ e_;subst e_;have hd:∀j,(0:Int).toNat<=j->∀y,ys[j]? =some y->Gc o y:=by
  intro j _ y hy;obtain ⟨f1,f2⟩:=hall y (List.mem_of_getElem? hy);rw [show cE Tryz.prog 249=true by unfold cE;rw [Tryz.underlying249]]at f2;cases n with
  | zero=>simp [Own]at f1
  | succ n=>
   obtain ⟨a_0,a_1,a_2,a_3,e,g_0,g_1,g_2,g_3⟩:=Lj f1;obtain ⟨v_0,e_,_⟩:=jL Tryz.underlying3 g_0;injection e_ with e_;subst e_;obtain ⟨v_1,e_,_⟩:=jL Tryz.underlying3 g_1;injection e_ with e_;subst e_;obtain ⟨v_2,e_,_⟩:=t9 Tryz.underlying9 g_2;injection e_ with e_;subst e_;have Qz_3:=g_3;obtain ⟨z_3,_,_,e_,_⟩:=mP Tryz.underlying35 xj g_3;injection e_ with e_;subst e_;have Qz_3:=v7 _ _ _ Qz_3;exact ⟨_,_,_,z_3,by rw [bZ f2,e],rfl,rfl,rfl,fun k g0 g1=>(ih.2.2.1) z_3 Qz_3 k false g0 g1⟩
 simp only [cnt]at g1 |-;have hnn:=bV ys;obtain ⟨zs,k2,i1,i2,i3,i4,i5,i6⟩:=oX ho mt u ys.length 0 k ys (Int.le_refl _) (by omega) (by omega) hd g0 (by simpa using g1);exact ⟨zs,k2,Ap ho u ys zs k k2 i1,trivial,i5,by simpa using i6⟩
theorem Gf (mt:MT o) {n:Nat} (ih:oD o n):Am o (n+1):=by
 intro ys h k u g0 g1;obtain ⟨xs,m,em,e_,hlen,hall⟩:=mP Tryz.underlying216 xh h;injection em with em;subst em;injection e_ with e_;injection e_ with _ e_;subst e_;have hd:∀j,(0:Int).toNat<=j->∀y,ys[j]? =some y->Gd o y:=by
  intro j _ y hy;obtain ⟨f1,f2⟩:=hall y (List.mem_of_getElem? hy);rw [show cE Tryz.prog 224=true by unfold cE;rw [Tryz.underlying224]]at f2;cases n with
  | zero=>simp [Own]at f1
  | succ n=>
   obtain ⟨a_0,a_1,a_2,a_3,e,g_0,g_1,g_2,g_3⟩:=Lh f1;obtain ⟨v_0,e_,_⟩:=jL Tryz.underlying3 g_0;injection e_ with e_;subst e_;obtain ⟨v_1,e_,_⟩:=jL Tryz.underlying3 g_1;injection e_ with e_;subst e_;obtain ⟨v_2,e_,_⟩:=t9 Tryz.underlying9 g_2;injection e_ with e_;subst e_;obtain ⟨v_3,e_,_⟩:=jL Tryz.underlying3 g_3;injection e_ with e_;subst e_;exact ⟨_,_,_,_,by rw [bZ f2,e],rfl,rfl,rfl,rfl⟩
 simp only [cnt]at g1 |-;have hnn:=bV ys;obtain ⟨zs,k2,i1,i2,i3,i4,i5,i6⟩:=oY ho mt u ys.length 0 k ys (Int.le_refl _) (by omega) (by omega) hd g0 (by simpa using g1);exact ⟨zs,k2,Aq ho u ys zs k k2 i1,trivial,i5,by simpa using i6⟩
theorem qz (mt:MT o):∀n,oD o n
 | 0=>by
  unfold oD;refine ⟨?_,?_,?_,?_⟩
  ·intro ys h;simp [Own]at h
  ·intro ys h;simp [Own]at h
  ·intro ys h;simp [Own]at h
  ·intro ys h;simp [Own]at h
 | n+1=>have ih:=qz mt n;⟨D2 ho mt ih,IZ ho mt ih,Ge ho mt ih,Gf ho mt ih⟩
end T2
