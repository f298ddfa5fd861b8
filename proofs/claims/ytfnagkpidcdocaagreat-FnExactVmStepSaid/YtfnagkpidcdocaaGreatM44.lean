import Derived.Test.YtfnagkpidcdocaaGreatM43
import Derived.Test.YtfnagkpidcdocaaGreatProg
import Derived.KernelRfl
set_option linter.all false
open Go Go.Vi Go.Proofs
namespace T2
set_option maxRecDepth 100000
set_option maxHeartbeats 4000000
variable {o:aJ} (ho:aR cF bB o)
def BJ (o:aJ) (n:Nat) (t:TypeId) (k:FuncId):Prop:=∀ds left,Fits Tryz.prog n t ds->0<=left->left<=1048576->∃r,o.call k [.agg (ds.map .d),.d (.int .i64 left)] []=some ⟨.d (.int .i64 r),[],[]⟩/\(r= -1\/(0<=r/\r+cQ ds<=left/\lg 1048576 ds))
def FP (o:aJ) (n:Nat) (t:TypeId) (k:FuncId):Prop:=∀xs left,Fits Tryz.prog n t [.lst xs]->0<=left->left<=1048576->∃r,o.call k [.d (.lst xs),.d (.int .i64 left)] []=some ⟨.d (.int .i64 r),[],[]⟩/\(r= -1\/(0<=r/\r+cnt (.lst xs)<=left/\Sm 1048576 (.lst xs)))
def lH (o:aJ) (n:Nat):Prop:=BJ o n 25 14/\FP o n 26 15/\BJ o n 49 27/\FP o n 22 79/\FP o n 23 80/\BJ o n 62 81/\FP o n 47 98/\BJ o n 242 175/\BJ o n 245 176/\BJ o n 259 185/\FP o n 240 274/\BJ o n 388 341
theorem FQ {n:Int} (h0:n<0) (h1: -9223372036854775808<=n):IntKind.i64.wrap n=n:=by
 have h2:n%(18446744073709551616:Int)=n+18446744073709551616:=by omega
 show (if (true&&decide (n%(18446744073709551616:Int)>=(9223372036854775808:Int)))=true then n%(18446744073709551616:Int)-(18446744073709551616:Int)else n%(18446744073709551616:Int))=n;rw[h2];rw[if_pos (by simp;omega)];omega
theorem FR {n:Nat} {t:TypeId} {ds:List D} (h:Fits Tryz.prog n t ds):∃m,Fits Tryz.prog (m+1) t ds:=by
 cases n with
 | zero=>simp[Fits]at h
 | succ n=>exact ⟨n,h⟩
theorem C4 {x:D} (h:x.many=true):cnt x=cQ x.cells:=by cases x<;>simp_all [D.many,D.cells,cnt]
theorem LX {x:D} (h:x.many=true) (hs:lg 1048576 x.cells):Sm 1048576 x:=by cases x<;>simp_all [D.many,D.cells,Sm]
theorem z3 {n:Nat} {c:D} (h:Fits Tryz.prog n 3 [c]):cnt c=0/\Sm 1048576 c:=by
 obtain ⟨i,e,_⟩:=fits_int Tryz.underlying3 h;injection e with e;subst e;exact ⟨rfl,trivial⟩
include ho
theorem FU {a b:Int} (h0:0<=a) (h1:a<=1048576) (h2:0<=b) (h3:b<=9223372036854775807):o.ar .sub .i64 a b=a-b:=by
 rw[ho.ar];simp only[Ei];by_cases h:0<=a-b
 ·exact uS h (by omega)
 ·exact FQ (by omega) (by omega)
theorem I4 {a:Int} (h:0<=a):o.cmp .lss a 0=false:=by rw[ho.cmp];simp[qJ];omega
theorem LY {a:Int} (h:a<0):o.cmp .lss a 0=true:=by rw[ho.cmp];simp[qJ];omega
theorem C6 {x:ByteArray} {r:Int} (w:x.size<=maxLen) (g:0<=r) (u:r<=1048576):∃r1,o.ar .sub .i64 r (o.sLen x)=r1/\(o.cmp .lss r1 0=true\/o.cmp .lss r1 0=false/\0<=r1/\r1<=r/\x.size<=1048576):=by
 refine ⟨_,rfl,?_⟩;rw[ho.sLen,FU ho g u (by omega) (by unfold maxLen at w;omega)];by_cases h:r-(x.size:Int)<0
 ·exact .inl (LY ho h)
 ·exact .inr ⟨I4 ho (by omega),by omega,by omega,by omega⟩
theorem nk {r:Int} {A:Prop} (h:r= -1\/0<=r/\A):o.cmp .lss r 0=true/\r= -1\/o.cmp .lss r 0=false/\0<=r/\A:=by
 rcases h with rfl | ⟨h,a⟩
 ·exact .inl ⟨LY ho (by omega),rfl⟩
 ·exact .inr ⟨I4 ho h,h,a⟩
theorem FV {n t e k kk key:Nat} {F:List D->Int->Int->St} {X Y:Int->St} (hu:Tryz.prog.underlying t=some (.slice e)) (ha:bY Tryz.prog e=true) (hD:BJ o n e kk)
  (c1:∀xs N r0 r1,o.len xs=N->o.ar .sub .i64 r0 N=r1->o.cmp .lss r1 0=true->o.call k [Al xs,Ai r0] []=Ar (Ai (-1)))
  (c2:∀xs N r0 r1 r2,o.len xs=N->o.ar .sub .i64 r0 N=r1->o.cmp .lss r1 0=false->o.loop key (F xs 0 r1)=some (.exit 0,X r2)->o.call k [Al xs,Ai r0] []=Ar (Ai r2))
  (c3:∀xs N r0 r1 r2,o.len xs=N->o.ar .sub .i64 r0 N=r1->o.cmp .lss r1 0=false->o.loop key (F xs 0 r1)=some (.ret,Y r2)->o.call k [Al xs,Ai r0] []=Ar (Ai (-1)))
  (l1:∀xs N r,o.len xs=N->o.cmp .lss N N=false->o.loop key (F xs N r)=some (.exit 0,X r))
  (l2:∀xs N i j x r r1 z,(∃m,Fits Tryz.prog (m+1) e x)->o.len xs=N->o.cmp .lss i N=true->o.dD xs i=some (.agg x)->o.call kk [.agg (x.map .d),Ai r] []=Ar (Ai r1)->o.cmp .lss r1 0=false->o.ar .add .i64 i 1=j->o.loop key (F xs j r1)=some z->o.loop key (F xs i r)=some z)
  (l3:∀xs N i x r r1,(∃m,Fits Tryz.prog (m+1) e x)->o.len xs=N->o.cmp .lss i N=true->o.dD xs i=some (.agg x)->o.call kk [.agg (x.map .d),Ai r] []=Ar (Ai r1)->o.cmp .lss r1 0=true->o.loop key (F xs i r)=some (.ret,Y r1)):FP o (n+1) t k:=by
 intro xs r0 h g u;obtain ⟨ys,m,em,e_,w,v⟩:=aS hu h;injection e_ with e_;injection e_ with e_;subst e_;injection em with em;subst em;obtain ⟨N,hN,hn⟩:∃N:Int,N=xs.length/\o.len xs=N:=⟨_,rfl,ho.len xs⟩
 have hw:N<=9223372036854775807:=by unfold maxLen at w;omega
 have q:=FU ho g u (show 0<=N by omega) hw;generalize hr:r0-N=r1 at q;by_cases hneg:r1<0
 ·exact ⟨-1,c1 xs N r0 r1 hn q (LY ho hneg),.inl rfl⟩
 have b:=I4 ho (show 0<=r1 by omega);have loop:∀(m:Nat) (i r:Int),0<=i->i+m=N->0<=r->r<=1048576->(∃r2,o.loop key (F xs i r)=some (.exit 0,X r2)/\0<=r2/\r2+cQ (xs.drop i.toNat)<=r/\∀j,i.toNat<=j->∀x,xs[j]? =some x->Sm 1048576 x)\/∃r2,o.loop key (F xs i r)=some (.ret,Y r2):=by
  intro m;induction m with
  | zero=>
   intro i r h0 h g0 g1;obtain rfl:i=N:=by omega
   exact .inl ⟨r,l1 xs i r hn (rE ho i),g0,(by rw[GK (by omega)];omega),λj hj x hx=>by have:=(aq.1 hx).1;omega⟩
  | succ m ih=>
   intro i r h0 h g0 g1;obtain ⟨x,hx⟩:∃x,xs[i.toNat]? =some x:=⟨_,bg (by omega)⟩
   obtain ⟨f1,f2⟩:=v x (List.mem_of_getElem? hx);rw[ha]at f2;obtain ⟨r1,hc,hr⟩:=hD _ r f1 g0 g1;have h2:=nj ho (show i<N by omega);have h3:o.dD xs i=some (.agg x.cells):=by rw[dA ho xs i _ h0 hx,<-cT f2]
   rcases nk ho hr with ⟨b,rfl⟩ | ⟨b,s0,s1,s2⟩
   ·exact .inr ⟨-1,l3 xs N i _ r (-1) (FR f1) hn h2 h3 hc b⟩
   ·have hcn:=dh x.cells;have hl2:=λz=>l2 xs N i (i+1) _ r r1 z (FR f1) hn h2 h3 hc b (inc ho h0 (show i<N by omega) hw)
    rcases ih (i+1) r1 (by omega) (by omega) s0 (by omega)with ⟨r2,i1,i2,i3,i4⟩ | ⟨r2,i1⟩
    ·refine .inl ⟨r2,hl2 _ i1,i2,(by have hcd:=xZ hx;rw[show i.toNat+1=(i+1).toNat by omega,C4 f2]at hcd;omega),λj hj y hy=> ?_⟩;by_cases hj2:j=i.toNat
     ·subst hj2;rw[hx]at hy;injection hy with hy;subst hy;exact LX f2 s2
     ·exact i4 j (by omega) y hy
    ·exact .inr ⟨r2,hl2 _ i1⟩
 rcases loop xs.length 0 r1 (Int.le_refl _) (by omega) (by omega) (by omega)with ⟨r2,i1,i2,i3,i4⟩ | ⟨r2,i1⟩
 ·refine ⟨r2,c2 xs N r0 r1 r2 hn q b i1,.inr ⟨i2,by simp only[cnt];simp at i3;omega,?_⟩⟩;simp only[Sm,kq];refine ⟨by omega,λx hx=> ?_⟩;obtain ⟨j,hj⟩:=List.getElem?_of_mem hx;exact i4 j (by simp) x hj
 ·exact ⟨-1,c3 xs N r0 r1 r2 hn q b i1,.inl rfl⟩
theorem LZ {n:Nat} (ih:lH o n):BJ o (n+1) 25 14:=by
 intro ds r h g u;obtain ⟨c0,c1,rfl,f0,f1⟩:=vz h;have k0:=f0;obtain ⟨x0,_,_,e_,_⟩:=aS Tryz.underlying22 f0;injection e_ with e_;subst e_;obtain ⟨r1,q0,hr⟩:=ih.2.2.2.1 x0 r k0 g u;rcases nk ho hr with ⟨b0,rfl⟩ | ⟨b0,g0,y0,s0⟩
 ·exact ⟨-1,ho.au (by cbv;rw[q0];cbv;rw[b0];cbv),.inl rfl⟩
 have p0:=nM (.lst x0);have k1:=f1;obtain ⟨x1,_,_,e_,_⟩:=aS Tryz.underlying23 f1;injection e_ with e_;subst e_;obtain ⟨r2,q1,hr⟩:=ih.2.2.2.2.1 x1 r1 k1 g0 (by omega);rcases nk ho hr with ⟨b1,rfl⟩ | ⟨b1,g1,y1,s1⟩
 ·exact ⟨-1,ho.au (by cbv;rw[q0];cbv;rw[b0];cbv;rw[q1];cbv;rw[b1];cbv),.inl rfl⟩
 have p1:=nM (.lst x1);exact ⟨r2,ho.au (by cbv;rw[q0];cbv;rw[b0];cbv;rw[q1];cbv;rw[b1];cbv),.inr ⟨g1,(by simp only[cQ,cnt]at*;omega),(by simp only[Sm,lg]at*;simp[*])⟩⟩
theorem I5 {n:Nat} (ih:lH o n):FP o (n+1) 26 15:=FV ho (key:=1500) (F:=λxs i r=>⟨Al xs::Ai r::U::U::U::Ai i::G8,uz⟩) (X:=λr=>⟨U::Ai r::Oz,uz⟩) (Y:=λr=>⟨U::Ai r::U::U::Ai (-1)::Oy,uz⟩) Tryz.underlying26 (by unfold bY;rw[Tryz.underlying62]) ih.2.2.2.2.2.1
 (λ_ _ _ _ hn q b=>ho.au (by cbv;rw[hn];cbv;rw[q];cbv;rw[b];cbv))
 (λ_ _ _ _ _ hn q b l=>ho.au (by cbv;rw[hn];cbv;rw[q];cbv;rw[b];cbv;rw[l];cbv))
 (λ_ _ _ _ _ hn q b l=>ho.au (by cbv;rw[hn];cbv;rw[q];cbv;rw[b];cbv;rw[l];cbv))
 (λ_ _ _ hn h=>ho.aB (by cbv;rw[hn];cbv;rw[h];cbv))
 (λ_ _ _ _ _ _ _ _ ⟨_,hx⟩ hn h2 h3 hc b h4 l=>by obtain ⟨_,_,_,_,rfl,_⟩:=vB hx;simp only[List.map]at hc;exact ho.aB (by cbv;rw[hn];cbv;rw[h2];cbv;rw[h3];cbv;rw[hc];cbv;rw[b];cbv;rw[h4];cbv;exact l))
 (λ_ _ _ _ _ _ ⟨_,hx⟩ hn h2 h3 hc b=>by obtain ⟨_,_,_,_,rfl,_⟩:=vB hx;simp only[List.map]at hc;exact ho.aB (by cbv;rw[hn];cbv;rw[h2];cbv;rw[h3];cbv;rw[hc];cbv;rw[b];cbv))
theorem Pf {n:Nat} (ih:lH o n):BJ o (n+1) 49 27:=by
 intro ds r h g u;obtain ⟨c0,c1,rfl,f0,f1⟩:=vA h;have k0:=f0;obtain ⟨x0,_,_,e_,_⟩:=aS Tryz.underlying47 f0;injection e_ with e_;subst e_;obtain ⟨r1,q0,hr⟩:=ih.2.2.2.2.2.2.1 x0 r k0 g u;rcases nk ho hr with ⟨b0,rfl⟩ | ⟨b0,g0,y0,s0⟩
 ·exact ⟨-1,ho.au (by cbv;rw[q0];cbv;rw[b0];cbv),.inl rfl⟩
 have p0:=nM (.lst x0);have k1:=f1;obtain ⟨x1,_,_,e_,_⟩:=aS Tryz.underlying26 f1;injection e_ with e_;subst e_;obtain ⟨r2,q1,hr⟩:=ih.2.1 x1 r1 k1 g0 (by omega);rcases nk ho hr with ⟨b1,rfl⟩ | ⟨b1,g1,y1,s1⟩
 ·exact ⟨-1,ho.au (by cbv;rw[q0];cbv;rw[b0];cbv;rw[q1];cbv;rw[b1];cbv),.inl rfl⟩
 have p1:=nM (.lst x1);exact ⟨r2,ho.au (by cbv;rw[q0];cbv;rw[b0];cbv;rw[q1];cbv;rw[b1];cbv),.inr ⟨g1,(by simp only[cQ,cnt]at*;omega),(by simp only[Sm,lg]at*;simp[*])⟩⟩
theorem N_ {n:Nat} (ih:lH o n):FP o (n+1) 22 79:=FV ho (key:=7900) (F:=λxs i r=>⟨Al xs::Ai r::U::U::U::Ai i::G8,uz⟩) (X:=λr=>⟨U::Ai r::Oz,uz⟩) (Y:=λr=>⟨U::Ai r::U::U::Ai (-1)::Oy,uz⟩) Tryz.underlying22 (by unfold bY;rw[Tryz.underlying242]) ih.2.2.2.2.2.2.2.1
 (λ_ _ _ _ hn q b=>ho.au (by cbv;rw[hn];cbv;rw[q];cbv;rw[b];cbv))
 (λ_ _ _ _ _ hn q b l=>ho.au (by cbv;rw[hn];cbv;rw[q];cbv;rw[b];cbv;rw[l];cbv))
 (λ_ _ _ _ _ hn q b l=>ho.au (by cbv;rw[hn];cbv;rw[q];cbv;rw[b];cbv;rw[l];cbv))
 (λ_ _ _ hn h=>ho.aB (by cbv;rw[hn];cbv;rw[h];cbv))
 (λ_ _ _ _ _ _ _ _ ⟨_,hx⟩ hn h2 h3 hc b h4 l=>by obtain ⟨_,_,_,_,rfl,_⟩:=rz hx;simp only[List.map]at hc;exact ho.aB (by cbv;rw[hn];cbv;rw[h2];cbv;rw[h3];cbv;rw[hc];cbv;rw[b];cbv;rw[h4];cbv;exact l))
 (λ_ _ _ _ _ _ ⟨_,hx⟩ hn h2 h3 hc b=>by obtain ⟨_,_,_,_,rfl,_⟩:=rz hx;simp only[List.map]at hc;exact ho.aB (by cbv;rw[hn];cbv;rw[h2];cbv;rw[h3];cbv;rw[hc];cbv;rw[b];cbv))
theorem L7 {n:Nat} (ih:lH o n):FP o (n+1) 23 80:=FV ho (key:=8000) (F:=λxs i r=>⟨Al xs::Ai r::U::U::U::Ai i::G8,uz⟩) (X:=λr=>⟨U::Ai r::Oz,uz⟩) (Y:=λr=>⟨U::Ai r::U::U::Ai (-1)::Oy,uz⟩) Tryz.underlying23 (by unfold bY;rw[Tryz.underlying245]) ih.2.2.2.2.2.2.2.2.1
 (λ_ _ _ _ hn q b=>ho.au (by cbv;rw[hn];cbv;rw[q];cbv;rw[b];cbv))
 (λ_ _ _ _ _ hn q b l=>ho.au (by cbv;rw[hn];cbv;rw[q];cbv;rw[b];cbv;rw[l];cbv))
 (λ_ _ _ _ _ hn q b l=>ho.au (by cbv;rw[hn];cbv;rw[q];cbv;rw[b];cbv;rw[l];cbv))
 (λ_ _ _ hn h=>ho.aB (by cbv;rw[hn];cbv;rw[h];cbv))
 (λ_ _ _ _ _ _ _ _ ⟨_,hx⟩ hn h2 h3 hc b h4 l=>by obtain ⟨_,_,_,_,rfl,_⟩:=rC hx;simp only[List.map]at hc;exact ho.aB (by cbv;rw[hn];cbv;rw[h2];cbv;rw[h3];cbv;rw[hc];cbv;rw[b];cbv;rw[h4];cbv;exact l))
 (λ_ _ _ _ _ _ ⟨_,hx⟩ hn h2 h3 hc b=>by obtain ⟨_,_,_,_,rfl,_⟩:=rC hx;simp only[List.map]at hc;exact ho.aB (by cbv;rw[hn];cbv;rw[h2];cbv;rw[h3];cbv;rw[hc];cbv;rw[b];cbv))
theorem L8 {n:Nat} (ih:lH o n):BJ o (n+1) 62 81:=by
 intro ds r h g u;obtain ⟨c0,c1,c2,c3,rfl,f0,f1,f2,f3⟩:=vB h;have z0:=z3 f0;have z1:=z3 f1;obtain ⟨x2,e_,w⟩:=fJ Tryz.underlying9 f2;injection e_ with e_;subst e_;obtain ⟨r1,q0,b0 | ⟨b0,g0,y0,s0⟩⟩:=C6 ho w g u
 ·exact ⟨-1,ho.au (by cbv;rw[q0];cbv;rw[b0];cbv),.inl rfl⟩
 have k3:=f3;obtain ⟨x3,_,_,e_,_⟩:=aS Tryz.underlying26 f3;injection e_ with e_;subst e_;obtain ⟨r2,q1,hr⟩:=ih.2.1 x3 r1 k3 g0 (by omega);rcases nk ho hr with ⟨b1,rfl⟩ | ⟨b1,g1,y1,s1⟩
 ·exact ⟨-1,ho.au (by cbv;rw[q0];cbv;rw[b0];cbv;rw[q1];cbv;rw[b1];cbv),.inl rfl⟩
 have p1:=nM (.lst x3);exact ⟨r2,ho.au (by cbv;rw[q0];cbv;rw[b0];cbv;rw[q1];cbv;rw[b1];cbv),.inr ⟨g1,(by simp only[cQ,cnt]at*;omega),(by simp only[Sm,lg]at*;simp[*])⟩⟩
theorem FW {n:Nat} (ih:lH o n):FP o (n+1) 47 98:=FV ho (key:=9800) (F:=λxs i r=>⟨Al xs::Ai r::U::U::U::Ai i::G8,uz⟩) (X:=λr=>⟨U::Ai r::Oz,uz⟩) (Y:=λr=>⟨U::Ai r::U::U::Ai (-1)::Oy,uz⟩) Tryz.underlying47 (by unfold bY;rw[Tryz.underlying259]) ih.2.2.2.2.2.2.2.2.2.1
 (λ_ _ _ _ hn q b=>ho.au (by cbv;rw[hn];cbv;rw[q];cbv;rw[b];cbv))
 (λ_ _ _ _ _ hn q b l=>ho.au (by cbv;rw[hn];cbv;rw[q];cbv;rw[b];cbv;rw[l];cbv))
 (λ_ _ _ _ _ hn q b l=>ho.au (by cbv;rw[hn];cbv;rw[q];cbv;rw[b];cbv;rw[l];cbv))
 (λ_ _ _ hn h=>ho.aB (by cbv;rw[hn];cbv;rw[h];cbv))
 (λ_ _ _ _ _ _ _ _ ⟨_,hx⟩ hn h2 h3 hc b h4 l=>by obtain ⟨_,_,_,rfl,_⟩:=rD hx;simp only[List.map]at hc;exact ho.aB (by cbv;rw[hn];cbv;rw[h2];cbv;rw[h3];cbv;rw[hc];cbv;rw[b];cbv;rw[h4];cbv;exact l))
 (λ_ _ _ _ _ _ ⟨_,hx⟩ hn h2 h3 hc b=>by obtain ⟨_,_,_,rfl,_⟩:=rD hx;simp only[List.map]at hc;exact ho.aB (by cbv;rw[hn];cbv;rw[h2];cbv;rw[h3];cbv;rw[hc];cbv;rw[b];cbv))
theorem Pg {n:Nat} (ih:lH o n):BJ o (n+1) 242 175:=by
 intro ds r h g u;obtain ⟨c0,c1,c2,c3,rfl,f0,f1,f2,f3⟩:=rz h;obtain ⟨x0,e_,w⟩:=fJ Tryz.underlying9 f0;injection e_ with e_;subst e_;obtain ⟨r1,q0,b0 | ⟨b0,g0,y0,s0⟩⟩:=C6 ho w g u
 ·exact ⟨-1,ho.au (by cbv;rw[q0];cbv;rw[b0];cbv),.inl rfl⟩
 have z1:=z3 f1;have z2:=z3 f2;have k3:=f3;obtain ⟨x3,_,_,e_,_⟩:=aS Tryz.underlying240 f3;injection e_ with e_;subst e_;obtain ⟨r2,q1,hr⟩:=ih.2.2.2.2.2.2.2.2.2.2.1 x3 r1 k3 g0 (by omega);rcases nk ho hr with ⟨b1,rfl⟩ | ⟨b1,g1,y1,s1⟩
 ·exact ⟨-1,ho.au (by cbv;rw[q0];cbv;rw[b0];cbv;rw[q1];cbv;rw[b1];cbv),.inl rfl⟩
 have p1:=nM (.lst x3);exact ⟨r2,ho.au (by cbv;rw[q0];cbv;rw[b0];cbv;rw[q1];cbv;rw[b1];cbv),.inr ⟨g1,(by simp only[cQ,cnt]at*;omega),(by simp only[Sm,lg]at*;simp[*])⟩⟩
theorem Oa {n:Nat} (ih:lH o n):BJ o (n+1) 245 176:=by
 intro ds r h g u;obtain ⟨c0,c1,c2,c3,rfl,f0,f1,f2,f3⟩:=rC h;have z0:=z3 f0;have z1:=z3 f1;obtain ⟨x2,e_,w⟩:=fJ Tryz.underlying9 f2;injection e_ with e_;subst e_;obtain ⟨r1,q0,b0 | ⟨b0,g0,y0,s0⟩⟩:=C6 ho w g u
 ·exact ⟨-1,ho.au (by cbv;rw[q0];cbv;rw[b0];cbv),.inl rfl⟩
 have k3:=f3;obtain ⟨x3,_,_,e_,_⟩:=aS Tryz.underlying23 f3;injection e_ with e_;subst e_;obtain ⟨r2,q1,hr⟩:=ih.2.2.2.2.1 x3 r1 k3 g0 (by omega);rcases nk ho hr with ⟨b1,rfl⟩ | ⟨b1,g1,y1,s1⟩
 ·exact ⟨-1,ho.au (by cbv;rw[q0];cbv;rw[b0];cbv;rw[q1];cbv;rw[b1];cbv),.inl rfl⟩
 have p1:=nM (.lst x3);exact ⟨r2,ho.au (by cbv;rw[q0];cbv;rw[b0];cbv;rw[q1];cbv;rw[b1];cbv),.inr ⟨g1,(by simp only[cQ,cnt]at*;omega),(by simp only[Sm,lg]at*;simp[*])⟩⟩
theorem I6 {n:Nat} (ih:lH o n):BJ o (n+1) 259 185:=by
 intro ds r h g u;obtain ⟨c0,c1,c2,rfl,f0,f1,f2⟩:=rD h;have z0:=z3 f0;have z1:=z3 f1;have k2:=f2;obtain ⟨x2,_,_,e_,_⟩:=aS Tryz.underlying26 f2;injection e_ with e_;subst e_;obtain ⟨r1,q0,hr⟩:=ih.2.1 x2 r k2 g u;rcases nk ho hr with ⟨b0,rfl⟩ | ⟨b0,g0,y0,s0⟩
 ·exact ⟨-1,ho.au (by cbv;rw[q0];cbv;rw[b0];cbv),.inl rfl⟩
 have p0:=nM (.lst x2);exact ⟨r1,ho.au (by cbv;rw[q0];cbv;rw[b0];cbv),.inr ⟨g0,(by simp only[cQ,cnt]at*;omega),(by simp only[Sm,lg]at*;simp[*])⟩⟩
theorem L9 {n:Nat} (ih:lH o n):FP o (n+1) 240 274:=FV ho (key:=27400) (F:=λxs i r=>⟨Al xs::Ai r::U::U::U::Ai i::G8,uz⟩) (X:=λr=>⟨U::Ai r::Oz,uz⟩) (Y:=λr=>⟨U::Ai r::U::U::Ai (-1)::Oy,uz⟩) Tryz.underlying240 (by unfold bY;rw[Tryz.underlying388]) ih.2.2.2.2.2.2.2.2.2.2.2
 (λ_ _ _ _ hn q b=>ho.au (by cbv;rw[hn];cbv;rw[q];cbv;rw[b];cbv))
 (λ_ _ _ _ _ hn q b l=>ho.au (by cbv;rw[hn];cbv;rw[q];cbv;rw[b];cbv;rw[l];cbv))
 (λ_ _ _ _ _ hn q b l=>ho.au (by cbv;rw[hn];cbv;rw[q];cbv;rw[b];cbv;rw[l];cbv))
 (λ_ _ _ hn h=>ho.aB (by cbv;rw[hn];cbv;rw[h];cbv))
 (λ_ _ _ _ _ _ _ _ ⟨_,hx⟩ hn h2 h3 hc b h4 l=>by obtain ⟨_,_,_,_,rfl,_⟩:=uJ hx;simp only[List.map]at hc;exact ho.aB (by cbv;rw[hn];cbv;rw[h2];cbv;rw[h3];cbv;rw[hc];cbv;rw[b];cbv;rw[h4];cbv;exact l))
 (λ_ _ _ _ _ _ ⟨_,hx⟩ hn h2 h3 hc b=>by obtain ⟨_,_,_,_,rfl,_⟩:=uJ hx;simp only[List.map]at hc;exact ho.aB (by cbv;rw[hn];cbv;rw[h2];cbv;rw[h3];cbv;rw[hc];cbv;rw[b];cbv))
theorem Oc {n:Nat} (ih:lH o n):BJ o (n+1) 388 341:=by
 intro ds r h g u;obtain ⟨c0,c1,c2,c3,rfl,f0,f1,f2,f3⟩:=uJ h;have z0:=z3 f0;have z1:=z3 f1;obtain ⟨x2,e_,w⟩:=fJ Tryz.underlying9 f2;injection e_ with e_;subst e_;obtain ⟨r1,q0,b0 | ⟨b0,g0,y0,s0⟩⟩:=C6 ho w g u
 ·exact ⟨-1,ho.au (by cbv;rw[q0];cbv;rw[b0];cbv),.inl rfl⟩
 have z3:=z3 f3;exact ⟨r1,ho.au (by cbv;rw[q0];cbv;rw[b0];cbv),.inr ⟨g0,(by simp only[cQ,cnt]at*;omega),(by simp only[Sm,lg]at*;simp[*])⟩⟩
theorem FX:∀n,lH o n
 | 0=>by
  unfold lH;refine ⟨?_,?_,?_,?_,?_,?_,?_,?_,?_,?_,?_,?_⟩<;>(intro x l h;simp[Fits]at h)
 | n+1=>have ih:=FX n;⟨LZ ho ih,I5 ho ih,Pf ho ih,N_ ho ih,L7 ho ih,L8 ho ih,FW ho ih,Pg ho ih,Oa ho ih,I6 ho ih,L9 ho ih,Oc ho ih⟩
end T2
