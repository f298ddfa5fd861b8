import Derived.Test.YtfnagkpidcdocaaGreatM28
set_option linter.all false
open Go Go.Vi Go.Proofs Go.Proofs.Tryz
namespace T2
set_option maxRecDepth 100000
set_option maxHeartbeats 4000000
variable {o:aM} (ho:aQ cu bw o)
def Ev (o:aM) (n:Nat) (t:TypeId) (k:FuncId):Prop:=∀ds left,Fits prog n t ds->0<=left->left<=1048576->∃r,o.call k [.agg (ds.map .d),.d (.int .i64 left)] []=some ⟨.d (.int .i64 r),[],[]⟩/\(r= -1\/(0<=r/\r+dn ds<=left/\kN 1048576 ds))
def JA (o:aM) (n:Nat) (t:TypeId) (k:FuncId):Prop:=∀xs left,Fits prog n t [.lst xs]->0<=left->left<=1048576->∃r,o.call k [.d (.lst xs),.d (.int .i64 left)] []=some ⟨.d (.int .i64 r),[],[]⟩/\(r= -1\/(0<=r/\r+cnt (.lst xs)<=left/\Sm 1048576 (.lst xs)))
def mC (o:aM) (n:Nat):Prop:=Ev o n 25 14/\JA o n 26 15/\JA o n 60 34/\Ev o n 64 35/\JA o n 22 79/\JA o n 23 80/\Ev o n 62 81/\Ev o n 152 109/\Ev o n 242 175/\Ev o n 245 176/\JA o n 240 274/\Ev o n 388 341
theorem JB {n:Int} (j:n<0) (E: -9223372036854775808<=n):IntKind.i64.wrap n=n:=by
 have e:n%(18446744073709551616:Int)=n+18446744073709551616:=by omega
 show (if (true&&decide (n%(18446744073709551616:Int)>=(9223372036854775808:Int)))=true then n%(18446744073709551616:Int)-(18446744073709551616:Int)else n%(18446744073709551616:Int))=n;rw[e];rw[if_pos (by simp;omega)];omega
theorem JC {n:Nat} {t:TypeId} {ds:Lq} (h:Fits prog n t ds):∃m,Fits prog (m+1) t ds:=by
 cases n with
 | zero=>simp[Fits]at h
 | succ n=>exact ⟨n,h⟩
theorem F_ {x:D} (h:x.many=true):cnt x=dn x.cells:=by cases x<;>simp_all [D.many,D.cells,cnt]
theorem PJ {x:D} (h:x.many=true) (e:kN 1048576 x.cells):Sm 1048576 x:=by cases x<;>simp_all [D.many,D.cells,Sm]
theorem z3 {n:Nat} {c:D} (h:Fits prog n 3 [c]):cnt c=0/\Sm 1048576 c:=by
 obtain ⟨i,e,_⟩:=fits_int underlying3 h;injection e with e;subst e;exact ⟨rfl,trivial⟩
theorem z4 {n:Nat} {c:D} (h:Fits prog n 4 [c]):cnt c=0/\Sm 1048576 c:=by
 obtain ⟨i,e⟩:=fits_bool underlying4 h;injection e with e;subst e;exact ⟨rfl,trivial⟩
include ho
theorem JD {a b:Int} (e:0<=a) (j:a<=1048576) (E:0<=b) (h3:b<=9223372036854775807):o.ar .sub .i64 a b=a-b:=by
 rw[ho.ar];simp only[HS];by_cases h:0<=a-b
 ·exact wF h (by omega)
 exact JB (by omega) (by omega)
theorem Md {a:Int} (h:0<=a):o.cmp .lss a 0=false:=by rw[ho.cmp];simp[rV];omega
theorem PK {a:Int} (h:a<0):o.cmp .lss a 0=true:=by rw[ho.cmp];simp[rV];omega
theorem xR {x:By} {r:Int} (w:x.size<=maxLen) (g:0<=r) (u:r<=1048576):∃e,o.ar .sub .i64 r (o.sLen x)=e/\(o.cmp .lss e 0=true\/o.cmp .lss e 0=false/\0<=e/\e<=r/\x.size<=1048576):=by
 refine ⟨_,rfl,?_⟩;rw[ho.sLen,JD ho g u (by omega) (by unfold maxLen at w;omega)];by_cases h:r-(x.size:Int)<0
 ·exact .inl (PK ho h)
 exact .inr ⟨Md ho (by omega),by omega,by omega,by omega⟩
theorem m_ {r:Int} {A:Prop} (h:r= -1\/0<=r/\A):o.cmp .lss r 0=true/\r= -1\/o.cmp .lss r 0=false/\0<=r/\A:=by
 rcases h with rfl | ⟨h,a⟩
 ·exact .inl ⟨PK ho (by omega),rfl⟩
 exact .inr ⟨Md ho h,h,a⟩
theorem JE {n t e k kk key:Nat} {F:Lq->Int->Int->St} {X Y:Int->St} (hu:prog.underlying t=some (.slice e)) (ha:cV prog e=true) (hD:Ev o n e kk)
  (c1:∀xs N J E,o.len xs=N->o.ar .sub .i64 J N=E->o.cmp .lss E 0=true->o.call k [Al xs,Ai J] []=Ar (Ai (-1)))
  (c2:∀xs N J E I,o.len xs=N->o.ar .sub .i64 J N=E->o.cmp .lss E 0=false->o.loop key (F xs 0 E)=some (.exit 0,X I)->o.call k [Al xs,Ai J] []=Ar (Ai I))
  (c3:∀xs N J E I,o.len xs=N->o.ar .sub .i64 J N=E->o.cmp .lss E 0=false->o.loop key (F xs 0 E)=some (.ret,Y I)->o.call k [Al xs,Ai J] []=Ar (Ai (-1)))
  (l1:∀xs N r,o.len xs=N->o.cmp .lss N N=false->o.loop key (F xs N r)=some (.exit 0,X r))
  (l2:∀xs N i j x r E z,(∃m,Fits prog (m+1) e x)->o.len xs=N->o.cmp .lss i N=true->o.cF xs i=some (.agg x)->o.call kk [.agg (x.map .d),Ai r] []=Ar (Ai E)->o.cmp .lss E 0=false->o.ar .add .i64 i 1=j->o.loop key (F xs j E)=some z->o.loop key (F xs i r)=some z)
  (l3:∀xs N i x r E,(∃m,Fits prog (m+1) e x)->o.len xs=N->o.cmp .lss i N=true->o.cF xs i=some (.agg x)->o.call kk [.agg (x.map .d),Ai r] []=Ar (Ai E)->o.cmp .lss E 0=true->o.loop key (F xs i r)=some (.ret,Y E)):JA o (n+1) t k:=by
 intro xs J h g u;obtain ⟨ys,m,em,U,w,v⟩:=bF hu h;injection U with U;injection U with U;subst U;injection em with em;subst em;obtain ⟨N,hN,S⟩:∃N:Int,N=xs.length/\o.len xs=N:=⟨_,rfl,ho.len xs⟩
 have hw:N<=9223372036854775807:=by unfold maxLen at w;omega
 have q:=JD ho g u (show 0<=N by omega) hw;generalize hr:J-N=E at q;by_cases a1:E<0
 ·exact ⟨-1,c1 xs N J E S q (PK ho a1),.inl rfl⟩
 have b:=Md ho (show 0<=E by omega);have loop:∀(m:Nat) (i r:Int),0<=i->i+m=N->0<=r->r<=1048576->(∃I,o.loop key (F xs i r)=some (.exit 0,X I)/\0<=I/\I+dn (xs.drop i.toNat)<=r/\∀j,i.toNat<=j->∀x,xs[j]? =some x->Sm 1048576 x)\/∃I,o.loop key (F xs i r)=some (.ret,Y I):=by
  intro m;induction m with
  | zero=>
   intro i r h0 h g0 g1;obtain rfl:i=N:=by omega
   exact .inl ⟨r,l1 xs i r S (Dl ho i),g0,(by rw[Kh (by omega)];omega),λj hj x M=>by have:=(ax.1 M).1;omega⟩
  | succ m ih=>
   intro i r h0 h g0 g1;obtain ⟨x,M⟩:∃x,xs[i.toNat]? =some x:=⟨_,bA (by omega)⟩
   obtain ⟨f1,f2⟩:=v x (List.mem_of_getElem? M);rw[ha]at f2;obtain ⟨E,hc,hr⟩:=hD _ r f1 g0 g1;have h2:=xQ ho (show i<N by omega);have h3:o.cF xs i=some (.agg x.cells):=by rw[f_ ho xs i _ h0 M,<-fK f2]
   rcases m_ ho hr with ⟨b,rfl⟩ | ⟨b,s0,s1,s2⟩
   ·exact .inr ⟨-1,l3 xs N i _ r (-1) (JC f1) S h2 h3 hc b⟩
   have a5:=cH x.cells;have a0:=λz=>l2 xs N i (i+1) _ r E z (JC f1) S h2 h3 hc b (inc ho h0 (show i<N by omega) hw)
   rcases ih (i+1) E (by omega) (by omega) s0 (by omega)with ⟨I,O,i2,i3,i4⟩ | ⟨I,O⟩
   ·refine .inl ⟨I,a0 _ O,i2,(by have a3:=A9 M;rw[show i.toNat+1=(i+1).toNat by omega,F_ f2]at a3;omega),λj hj y V=> ?_⟩;by_cases a4:j=i.toNat
    ·subst a4;rw[M]at V;injection V with V;subst V;exact PJ f2 s2
    exact i4 j (by omega) y V
   exact .inr ⟨I,a0 _ O⟩
 rcases loop xs.length 0 E (Int.le_refl _) (by omega) (by omega) (by omega)with ⟨I,O,i2,i3,i4⟩ | ⟨I,O⟩
 ·refine ⟨I,c2 xs N J E I S q b O,.inr ⟨i2,by simp only[cnt];simp at i3;omega,?_⟩⟩;simp only[Sm,kX];refine ⟨by omega,λx M=> ?_⟩;obtain ⟨j,hj⟩:=List.getElem?_of_mem M;exact i4 j (by simp) x hj
 exact ⟨-1,c3 xs N J E I S q b O,.inl rfl⟩
theorem PL {n:Nat} (M:mC o n):Ev o (n+1) 25 14:=by
 intro ds r h g u;obtain ⟨c0,c1,rfl,O,S⟩:=Es h;have k0:=O;obtain ⟨U,_,_,e,_⟩:=bF underlying22 O;injection e with e;subst e;obtain ⟨r1,E,I⟩:=M.2.2.2.2.1 U r k0 g u;rcases m_ ho I with ⟨j,rfl⟩ | ⟨j,g0,y0,s0⟩
 ·exact ⟨-1,ho.aj (by cbv;rw[E];cbv;rw[j];cbv),.inl rfl⟩
 have p0:=qj (.lst U);have k1:=S;obtain ⟨V,_,_,e,_⟩:=bF underlying23 S;injection e with e;subst e;obtain ⟨r2,q1,I⟩:=M.2.2.2.2.2.1 V r1 k1 g0 (by omega);rcases m_ ho I with ⟨J,rfl⟩ | ⟨J,g1,y1,s1⟩
 ·exact ⟨-1,ho.aj (by cbv;rw[E];cbv;rw[j];cbv;rw[q1];cbv;rw[J];cbv),.inl rfl⟩
 have p1:=qj (.lst V);exact ⟨r2,ho.aj (by cbv;rw[E];cbv;rw[j];cbv;rw[q1];cbv;rw[J];cbv),.inr ⟨g1,(by simp only[dn,cnt]at*;omega),(by simp only[Sm,kN]at*;simp[*])⟩⟩
theorem Me {n:Nat} (I:mC o n):JA o (n+1) 26 15:=JE ho (key:=1500) (F:=λxs i r=>⟨Al xs::Ai r::U::U::U::Ai i::Ky,uW⟩) (X:=λr=>⟨U::Ai r::R_,uW⟩) (Y:=λr=>⟨U::Ai r::U::U::Ai (-1)::R9,uW⟩) underlying26 (by unfold cV;rw[underlying62]) I.2.2.2.2.2.2.1
 (λ_ _ _ _ e q b=>ho.aj (by cbv;rw[e];cbv;rw[q];cbv;rw[b];cbv))
 (λ_ _ _ _ _ e q b l=>ho.aj (by cbv;rw[e];cbv;rw[q];cbv;rw[b];cbv;rw[l];cbv))
 (λ_ _ _ _ _ e q b l=>ho.aj (by cbv;rw[e];cbv;rw[q];cbv;rw[b];cbv;rw[l];cbv))
 (λ_ _ _ e h=>ho.aB (by cbv;rw[e];cbv;rw[h];cbv))
 (λ_ _ _ _ _ _ _ _ ⟨_,j⟩ e E h3 hc b h4 l=>by obtain ⟨_,_,_,_,rfl,_⟩:=uj j;simp only[List.map]at hc;exact ho.aB (by cbv;rw[e];cbv;rw[E];cbv;rw[h3];cbv;rw[hc];cbv;rw[b];cbv;rw[h4];cbv;exact l))
 (λ_ _ _ _ _ _ ⟨_,j⟩ e E h3 hc b=>by obtain ⟨_,_,_,_,rfl,_⟩:=uj j;simp only[List.map]at hc;exact ho.aB (by cbv;rw[e];cbv;rw[E];cbv;rw[h3];cbv;rw[hc];cbv;rw[b];cbv))
theorem JF {n:Nat} (I:mC o n):JA o (n+1) 60 34:=JE ho (key:=3400) (F:=λxs i r=>⟨Al xs::Ai r::U::U::U::Ai i::Ky,uW⟩) (X:=λr=>⟨U::Ai r::R_,uW⟩) (Y:=λr=>⟨U::Ai r::U::U::Ai (-1)::R9,uW⟩) underlying60 (by unfold cV;rw[underlying152]) I.2.2.2.2.2.2.2.1
 (λ_ _ _ _ e q b=>ho.aj (by cbv;rw[e];cbv;rw[q];cbv;rw[b];cbv))
 (λ_ _ _ _ _ e q b l=>ho.aj (by cbv;rw[e];cbv;rw[q];cbv;rw[b];cbv;rw[l];cbv))
 (λ_ _ _ _ _ e q b l=>ho.aj (by cbv;rw[e];cbv;rw[q];cbv;rw[b];cbv;rw[l];cbv))
 (λ_ _ _ e h=>ho.aB (by cbv;rw[e];cbv;rw[h];cbv))
 (λ_ _ _ _ _ _ _ _ ⟨_,j⟩ e E h3 hc b h4 l=>by obtain ⟨_,_,_,_,_,_,_,rfl,_⟩:=sV j;simp only[List.map]at hc;exact ho.aB (by cbv;rw[e];cbv;rw[E];cbv;rw[h3];cbv;rw[hc];cbv;rw[b];cbv;rw[h4];cbv;exact l))
 (λ_ _ _ _ _ _ ⟨_,j⟩ e E h3 hc b=>by obtain ⟨_,_,_,_,_,_,_,rfl,_⟩:=sV j;simp only[List.map]at hc;exact ho.aB (by cbv;rw[e];cbv;rw[E];cbv;rw[h3];cbv;rw[hc];cbv;rw[b];cbv))
theorem JG {n:Nat} (V:mC o n):Ev o (n+1) 64 35:=by
 intro ds r h g u;obtain ⟨c0,c1,c2,c3,c4,c5,c6,c7,c8,rfl,f0,f1,f2,f3,f4,f5⟩:=Et h;have z0:=z3 f0;obtain ⟨x1,e,w⟩:=bX underlying9 f1;injection e with e;subst e;obtain ⟨r1,E,j | ⟨j,g0,y0,s0⟩⟩:=xR ho w g u
 ·exact ⟨-1,ho.aj (by cbv;rw[E];cbv;rw[j];cbv),.inl rfl⟩
 obtain ⟨x2,e,w⟩:=bX underlying9 f2;injection e with e;subst e;obtain ⟨r2,J,I | ⟨I,g1,y1,s1⟩⟩:=xR ho w g0 (by omega)
 ·exact ⟨-1,ho.aj (by cbv;rw[E];cbv;rw[j];cbv;rw[J];cbv;rw[I];cbv),.inl rfl⟩
 have z3:=z3 f3;obtain ⟨r3,M,S⟩:=V.2.2.2.2.2.2.1 _ r2 f4 g1 (by omega);simp only[List.map]at M;rcases m_ ho S with ⟨O,rfl⟩ | ⟨O,g2,y2,s2⟩
 ·exact ⟨-1,ho.aj (by cbv;rw[E];cbv;rw[j];cbv;rw[J];cbv;rw[I];cbv;rw[M];cbv;rw[O];cbv),.inl rfl⟩
 have p2:=cH [c4,c5,c6,c7];have k5:=f5;obtain ⟨x5,_,_,e,_⟩:=bF underlying26 f5;injection e with e;subst e;obtain ⟨r4,q3,S⟩:=V.2.1 x5 r3 k5 g2 (by omega);rcases m_ ho S with ⟨U,rfl⟩ | ⟨U,g3,y3,s3⟩
 ·exact ⟨-1,ho.aj (by cbv;rw[E];cbv;rw[j];cbv;rw[J];cbv;rw[I];cbv;rw[M];cbv;rw[O];cbv;rw[q3];cbv;rw[U];cbv),.inl rfl⟩
 have p3:=qj (.lst x5);exact ⟨r4,ho.aj (by cbv;rw[E];cbv;rw[j];cbv;rw[J];cbv;rw[I];cbv;rw[M];cbv;rw[O];cbv;rw[q3];cbv;rw[U];cbv),.inr ⟨g3,(by simp only[dn,cnt]at*;omega),(by simp only[Sm,kN]at*;simp[*])⟩⟩
theorem RW {n:Nat} (I:mC o n):JA o (n+1) 22 79:=JE ho (key:=7900) (F:=λxs i r=>⟨Al xs::Ai r::U::U::U::Ai i::Ky,uW⟩) (X:=λr=>⟨U::Ai r::R_,uW⟩) (Y:=λr=>⟨U::Ai r::U::U::Ai (-1)::R9,uW⟩) underlying22 (by unfold cV;rw[underlying242]) I.2.2.2.2.2.2.2.2.1
 (λ_ _ _ _ e q b=>ho.aj (by cbv;rw[e];cbv;rw[q];cbv;rw[b];cbv))
 (λ_ _ _ _ _ e q b l=>ho.aj (by cbv;rw[e];cbv;rw[q];cbv;rw[b];cbv;rw[l];cbv))
 (λ_ _ _ _ _ e q b l=>ho.aj (by cbv;rw[e];cbv;rw[q];cbv;rw[b];cbv;rw[l];cbv))
 (λ_ _ _ e h=>ho.aB (by cbv;rw[e];cbv;rw[h];cbv))
 (λ_ _ _ _ _ _ _ _ ⟨_,j⟩ e E h3 hc b h4 l=>by obtain ⟨_,_,_,_,rfl,_⟩:=sW j;simp only[List.map]at hc;exact ho.aB (by cbv;rw[e];cbv;rw[E];cbv;rw[h3];cbv;rw[hc];cbv;rw[b];cbv;rw[h4];cbv;exact l))
 (λ_ _ _ _ _ _ ⟨_,j⟩ e E h3 hc b=>by obtain ⟨_,_,_,_,rfl,_⟩:=sW j;simp only[List.map]at hc;exact ho.aB (by cbv;rw[e];cbv;rw[E];cbv;rw[h3];cbv;rw[hc];cbv;rw[b];cbv))
theorem PN {n:Nat} (I:mC o n):JA o (n+1) 23 80:=JE ho (key:=8000) (F:=λxs i r=>⟨Al xs::Ai r::U::U::U::Ai i::Ky,uW⟩) (X:=λr=>⟨U::Ai r::R_,uW⟩) (Y:=λr=>⟨U::Ai r::U::U::Ai (-1)::R9,uW⟩) underlying23 (by unfold cV;rw[underlying245]) I.2.2.2.2.2.2.2.2.2.1
 (λ_ _ _ _ e q b=>ho.aj (by cbv;rw[e];cbv;rw[q];cbv;rw[b];cbv))
 (λ_ _ _ _ _ e q b l=>ho.aj (by cbv;rw[e];cbv;rw[q];cbv;rw[b];cbv;rw[l];cbv))
 (λ_ _ _ _ _ e q b l=>ho.aj (by cbv;rw[e];cbv;rw[q];cbv;rw[b];cbv;rw[l];cbv))
 (λ_ _ _ e h=>ho.aB (by cbv;rw[e];cbv;rw[h];cbv))
 (λ_ _ _ _ _ _ _ _ ⟨_,j⟩ e E h3 hc b h4 l=>by obtain ⟨_,_,_,_,rfl,_⟩:=sX j;simp only[List.map]at hc;exact ho.aB (by cbv;rw[e];cbv;rw[E];cbv;rw[h3];cbv;rw[hc];cbv;rw[b];cbv;rw[h4];cbv;exact l))
 (λ_ _ _ _ _ _ ⟨_,j⟩ e E h3 hc b=>by obtain ⟨_,_,_,_,rfl,_⟩:=sX j;simp only[List.map]at hc;exact ho.aB (by cbv;rw[e];cbv;rw[E];cbv;rw[h3];cbv;rw[hc];cbv;rw[b];cbv))
theorem PO {n:Nat} (S:mC o n):Ev o (n+1) 62 81:=by
 intro ds r h g u;obtain ⟨c0,c1,c2,c3,rfl,U,V,f2,J⟩:=uj h;have z0:=z3 U;have z1:=z3 V;obtain ⟨x2,e,w⟩:=bX underlying9 f2;injection e with e;subst e;obtain ⟨r1,E,j | ⟨j,g0,y0,s0⟩⟩:=xR ho w g u
 ·exact ⟨-1,ho.aj (by cbv;rw[E];cbv;rw[j];cbv),.inl rfl⟩
 have k3:=J;obtain ⟨M,_,_,e,_⟩:=bF underlying26 J;injection e with e;subst e;obtain ⟨r2,O,hr⟩:=S.2.1 M r1 k3 g0 (by omega);rcases m_ ho hr with ⟨I,rfl⟩ | ⟨I,g1,y1,s1⟩
 ·exact ⟨-1,ho.aj (by cbv;rw[E];cbv;rw[j];cbv;rw[O];cbv;rw[I];cbv),.inl rfl⟩
 have p1:=qj (.lst M);exact ⟨r2,ho.aj (by cbv;rw[E];cbv;rw[j];cbv;rw[O];cbv;rw[I];cbv),.inr ⟨g1,(by simp only[dn,cnt]at*;omega),(by simp only[Sm,kN]at*;simp[*])⟩⟩
theorem Mf {n:Nat} (U:mC o n):Ev o (n+1) 152 109:=by
 intro ds r h g u;obtain ⟨c0,c1,c2,V,c4,c5,c6,rfl,f0,f1,f2,f3,f4⟩:=sV h;obtain ⟨x0,J,w⟩:=bX underlying9 f0;injection J with J;subst J;obtain ⟨r1,j,e | ⟨e,g0,y0,s0⟩⟩:=xR ho w g u
 ·exact ⟨-1,ho.aj (by cbv;rw[j];cbv;rw[e];cbv),.inl rfl⟩
 have z1:=z3 f1;obtain ⟨r2,E,M⟩:=U.1 _ r1 f2 g0 (by omega);simp only[List.map]at E;rcases m_ ho M with ⟨I,rfl⟩ | ⟨I,g1,y1,s1⟩
 ·exact ⟨-1,ho.aj (by cbv;rw[j];cbv;rw[e];cbv;rw[E];cbv;rw[I];cbv),.inl rfl⟩
 have p1:=cH [c2,V];have z3:=z4 f3;obtain ⟨r3,O,M⟩:=U.1 _ r2 f4 g1 (by omega);simp only[List.map]at O;rcases m_ ho M with ⟨S,rfl⟩ | ⟨S,g2,y2,s2⟩
 ·exact ⟨-1,ho.aj (by cbv;rw[j];cbv;rw[e];cbv;rw[E];cbv;rw[I];cbv;rw[O];cbv;rw[S];cbv),.inl rfl⟩
 have p2:=cH [c5,c6];exact ⟨r3,ho.aj (by cbv;rw[j];cbv;rw[e];cbv;rw[E];cbv;rw[I];cbv;rw[O];cbv;rw[S];cbv),.inr ⟨g2,(by simp only[dn,cnt]at*;omega),(by simp only[Sm,kN]at*;simp[*])⟩⟩
theorem SY {n:Nat} (S:mC o n):Ev o (n+1) 242 175:=by
 intro ds r h g u;obtain ⟨c0,c1,c2,c3,rfl,U,V,f2,J⟩:=sW h;obtain ⟨x0,e,w⟩:=bX underlying9 U;injection e with e;subst e;obtain ⟨r1,E,j | ⟨j,g0,y0,s0⟩⟩:=xR ho w g u
 ·exact ⟨-1,ho.aj (by cbv;rw[E];cbv;rw[j];cbv),.inl rfl⟩
 have z1:=z3 V;have z2:=z3 f2;have k3:=J;obtain ⟨M,_,_,e,_⟩:=bF underlying240 J;injection e with e;subst e;obtain ⟨r2,O,hr⟩:=S.2.2.2.2.2.2.2.2.2.2.1 M r1 k3 g0 (by omega);rcases m_ ho hr with ⟨I,rfl⟩ | ⟨I,g1,y1,s1⟩
 ·exact ⟨-1,ho.aj (by cbv;rw[E];cbv;rw[j];cbv;rw[O];cbv;rw[I];cbv),.inl rfl⟩
 have p1:=qj (.lst M);exact ⟨r2,ho.aj (by cbv;rw[E];cbv;rw[j];cbv;rw[O];cbv;rw[I];cbv),.inr ⟨g1,(by simp only[dn,cnt]at*;omega),(by simp only[Sm,kN]at*;simp[*])⟩⟩
theorem RX {n:Nat} (S:mC o n):Ev o (n+1) 245 176:=by
 intro ds r h g u;obtain ⟨c0,c1,c2,c3,rfl,U,V,f2,J⟩:=sX h;have z0:=z3 U;have z1:=z3 V;obtain ⟨x2,e,w⟩:=bX underlying9 f2;injection e with e;subst e;obtain ⟨r1,E,j | ⟨j,g0,y0,s0⟩⟩:=xR ho w g u
 ·exact ⟨-1,ho.aj (by cbv;rw[E];cbv;rw[j];cbv),.inl rfl⟩
 have k3:=J;obtain ⟨M,_,_,e,_⟩:=bF underlying23 J;injection e with e;subst e;obtain ⟨r2,O,hr⟩:=S.2.2.2.2.2.1 M r1 k3 g0 (by omega);rcases m_ ho hr with ⟨I,rfl⟩ | ⟨I,g1,y1,s1⟩
 ·exact ⟨-1,ho.aj (by cbv;rw[E];cbv;rw[j];cbv;rw[O];cbv;rw[I];cbv),.inl rfl⟩
 have p1:=qj (.lst M);exact ⟨r2,ho.aj (by cbv;rw[E];cbv;rw[j];cbv;rw[O];cbv;rw[I];cbv),.inr ⟨g1,(by simp only[dn,cnt]at*;omega),(by simp only[Sm,kN]at*;simp[*])⟩⟩
theorem PS {n:Nat} (I:mC o n):JA o (n+1) 240 274:=JE ho (key:=27400) (F:=λxs i r=>⟨Al xs::Ai r::U::U::U::Ai i::Ky,uW⟩) (X:=λr=>⟨U::Ai r::R_,uW⟩) (Y:=λr=>⟨U::Ai r::U::U::Ai (-1)::R9,uW⟩) underlying240 (by unfold cV;rw[underlying388]) I.2.2.2.2.2.2.2.2.2.2.2
 (λ_ _ _ _ e q b=>ho.aj (by cbv;rw[e];cbv;rw[q];cbv;rw[b];cbv))
 (λ_ _ _ _ _ e q b l=>ho.aj (by cbv;rw[e];cbv;rw[q];cbv;rw[b];cbv;rw[l];cbv))
 (λ_ _ _ _ _ e q b l=>ho.aj (by cbv;rw[e];cbv;rw[q];cbv;rw[b];cbv;rw[l];cbv))
 (λ_ _ _ e h=>ho.aB (by cbv;rw[e];cbv;rw[h];cbv))
 (λ_ _ _ _ _ _ _ _ ⟨_,j⟩ e E h3 hc b h4 l=>by obtain ⟨_,_,_,_,rfl,_⟩:=wo j;simp only[List.map]at hc;exact ho.aB (by cbv;rw[e];cbv;rw[E];cbv;rw[h3];cbv;rw[hc];cbv;rw[b];cbv;rw[h4];cbv;exact l))
 (λ_ _ _ _ _ _ ⟨_,j⟩ e E h3 hc b=>by obtain ⟨_,_,_,_,rfl,_⟩:=wo j;simp only[List.map]at hc;exact ho.aB (by cbv;rw[e];cbv;rw[E];cbv;rw[h3];cbv;rw[hc];cbv;rw[b];cbv))
theorem RY {n:Nat} (U:mC o n):Ev o (n+1) 388 341:=by
 intro ds r h g u;obtain ⟨V,c1,c2,c3,rfl,I,J,M,O⟩:=wo h;have z0:=z3 I;have z1:=z3 J;obtain ⟨x2,e,w⟩:=bX underlying9 M;injection e with e;subst e;obtain ⟨S,E,j | ⟨j,g0,y0,s0⟩⟩:=xR ho w g u
 ·exact ⟨-1,ho.aj (by cbv;rw[E];cbv;rw[j];cbv),.inl rfl⟩
 have z3:=z3 O;exact ⟨S,ho.aj (by cbv;rw[E];cbv;rw[j];cbv),.inr ⟨g0,(by simp only[dn,cnt]at*;omega),(by simp only[Sm,kN]at*;simp[*])⟩⟩
theorem JH:∀n,mC o n
 | 0=>by
  unfold mC;refine ⟨?_,?_,?_,?_,?_,?_,?_,?_,?_,?_,?_,?_⟩<;>(intro x l h;simp[Fits]at h)
 | n+1=>have e:=JH n;⟨PL ho e,Me ho e,JF ho e,JG ho e,RW ho e,PN ho e,PO ho e,Mf ho e,SY ho e,RX ho e,PS ho e,RY ho e⟩
end T2
open Go Go.Vi Go.Proofs Go.Proofs.Tryz
namespace T2
set_option maxRecDepth 100000
set_option maxHeartbeats 4000000
variable {o:aM} (ho:aQ cu bw o)
def Chain (R:D->Int->Int->Prop):Lq->Int->Int->Prop
 | [],k,k'=>k'=k
 | x::xs,k,k'=>∃e,R x k e/\Chain R xs e k'
def MT (o:aM):Prop:=∀k:Int,0<=k->k<=4611686018427387904->∃s,o.call 96 [.d (.int .i64 k)] []=some ⟨.d (.str s),[],[]⟩
def NY (o:aM) (h:FuncId) (xs:Lq) (k k2:Int):Prop:=o.call h [.d (.lst xs),.d (.int .i64 k)] []=some ⟨.d (.int .i64 k2),[],[]⟩
def He (o:aM) (n t e w:Nat) (f:FuncId) (H:Lq->Int->Int->Prop):Prop:=∀ys,Own prog n t [.own (e,w) ys]->∀(k:Int) (u:Bool),0<=k->k+32*cnt (.own (e,w) ys)<=4611686018427387904->∃zs k2,o.call f [.arr (1,0) (e,w) none u,.d (.int .i64 k)] [some (.orows (e,w) ys)]=some ⟨.d (.int .i64 k2),[some (.orows (e,w) zs)],[]⟩/\H (aS zs) k k2/\k<=k2/\k2<=k+32*cnt (.own (e,w) ys)
def mD (o:aM) (n:Nat):Prop:=He o n 29 31 4 24 (NY o 97)/\He o n 71 158 7 42 (λ_ _ _=>True)/\He o n 79 120 8 48 (NY o 49)/\He o n 34 226 4 94 (λ_ _ _=>True)/\He o n 35 249 4 95 (λ_ _ _=>True)/\He o n 216 224 4 184 (λ_ _ _=>True)
def Ga (o:aM) (x:D) (k k':Int):Prop:=∃(e k2 j:Int) (E:By) (I:Lq),x= .agg [.int .i64 k,.int .i64 e,.str E,.lst I]/\o.ar .add .i64 k 1=e/\o.ar .add .i64 e 1=k2/\o.call 96 [.d (.int .i64 k2)] []=some ⟨.d (.str E),[],[]⟩/\o.ar .add .i64 k2 1=j/\o.call 97 [.d (.lst I),.d (.int .i64 j)] []=some ⟨.d (.int .i64 k'),[],[]⟩/\o.cmp .lss k' 0=false
def Gb (o:aM) (x:D) (k k':Int):Prop:=∃(j k2 J:Int) (M:By) (e:Int) (O:Lq) (E I S:Int) (U:By) (V:Lq),x= .agg [.int .i64 k,.int .i64 j,.str M,.lst O,.int .i64 e,.int .i64 E,.str U,.lst V]/\o.ar .add .i64 k 1=j/\o.ar .add .i64 j 1=k2/\o.call 96 [.d (.int .i64 k2)] []=some ⟨.d (.str M),[],[]⟩/\o.ar .add .i64 k2 1=J/\o.call 97 [.d (.lst O),.d (.int .i64 J)] []=some ⟨.d (.int .i64 e),[],[]⟩/\o.cmp .lss e 0=false/\o.ar .add .i64 e 1=E/\o.ar .add .i64 E 1=I/\o.call 96 [.d (.int .i64 I)] []=some ⟨.d (.str U),[],[]⟩/\o.ar .add .i64 I 1=S/\o.call 97 [.d (.lst V),.d (.int .i64 S)] []=some ⟨.d (.int .i64 k'),[],[]⟩/\o.cmp .lss k' 0=false
include ho
theorem PU {a:Int} (e:0<=a) (h:a<=4611686018427387904):o.ar .add .i64 a 1=a+1:=inc ho e (b:=a+1) (by omega) (by omega)
theorem l_ {a:Int} (e:0<=a) (h:a<=4611686018427387904):∃b,b=a+1/\o.ar .add .i64 a 1=b:=⟨_,rfl,PU ho e h⟩
theorem s6 {a:Int} (e:0<=a):o.cmp .lss a 0=false:=Md ho e
theorem ga {Y:Lq} {i:Int} (e:0<=i) (h:i.toNat<Y.length) (x:D):∃Z,o.set Y i x=Z/\o.cF Z i=some x/\i.toNat<Z.length/\∀y,o.set Z i y=o.set Y i y:=⟨_,rfl,f_ ho _ i _ e (by rw[ho.set,List.getElem?_set_self h]),by rw[ho.set];simpa using h,λy=>by rw[ho.set,ho.set,ho.set,List.set_set]⟩
theorem RZ {h:FuncId} {key:Nat} {G:Lq->Int->Int->St} {Y:Int->St} {R:D->Int->Int->Prop}
  (c:∀xs k k2,o.loop key (G xs 0 k)=some (.exit 0,Y k2)->NY o h xs k k2)
  (l1:∀xs N k,o.len xs=N->o.cmp .lss N N=false->o.loop key (G xs N k)=some (.exit 0,Y k))
  (l2:∀x k e,R x k e->∀xs N i j z,o.len xs=N->o.cmp .lss i N=true->o.cF xs i=some x->o.ar .add .i64 i 1=j->o.loop key (G xs j e)=some z->o.loop key (G xs i k)=some z) (xs:Lq) (k k2:Int) (O:(xs.length:Int)<=4611686018427387904) (hc:Chain R xs k k2):NY o h xs k k2:=by
 have loop:∀(m:Nat) (i k:Int),0<=i->i+m=xs.length->Chain R (xs.drop i.toNat) k k2->o.loop key (G xs i k)=some (.exit 0,Y k2):=by
  intro m;induction m with
  | zero=>
   intro i k E h hc;rw[List.drop_eq_nil_of_le (by omega)]at hc;obtain rfl:k2=k:=hc;exact l1 xs i k2 (by rw[ho.len];omega) (Dl ho i)
  | succ m J=>
   intro i k E h hc;obtain ⟨x,I⟩:∃x,xs[i.toNat]? =some x:=⟨_,bA (by omega)⟩
   obtain ⟨g1,g2⟩:=ax.1 I;rw[List.drop_eq_getElem_cons g1,g2]at hc;obtain ⟨e,M,hc⟩:=hc;exact l2 x k e M xs _ i (i+1) _ (ho.len xs) (xQ ho (by omega)) (f_ ho xs i _ E I) (PU ho E (by omega)) (J (i+1) e (by omega) (by omega) (by rw[show (i+1).toNat=i.toNat+1 by omega];exact hc))
 exact c xs k k2 (loop xs.length 0 k (Int.le_refl _) (by omega) hc)
theorem Hf {n t e w key:Nat} {f:FuncId} {F:Bool->Lq->Int->Int->St} {X:Int->Lq->St} {H:Lq->Int->Int->Prop} {R:D->Int->Int->Prop} (hu:prog.underlying t=some (.slice e)) (hw:prog.cellsOf e=w) (ha:cV prog e=true)
  (hh:∀xs k k2,(xs.length:Int)<=4611686018427387904->Chain R xs k k2->H xs k k2)
  (c:∀u ys zs k k2,o.loop key (F u ys 0 k)=some (.exit 0,X k2 zs)->o.call f [.arr (1,0) (e,w) none u,Ai k] [some (.orows (e,w) ys)]=some ⟨Ai k2,[some (.orows (e,w) zs)],[]⟩)
  (l1:∀u ys N k,o.len ys=N->o.cmp .lss N N=false->o.loop key (F u ys N k)=some (.exit 0,X k ys))
  (l2:∀y,Own prog n e y->∀u Y N i j k,o.len Y=N->o.cmp .lss i N=true->o.cF Y i=some (.agg y)->0<=i->i.toNat<Y.length->o.ar .add .i64 i 1=j->0<=k->k+32*(1+dn y)<=4611686018427387904->∃y' E,(∀z,o.loop key (F u (o.set Y i (.agg y')) j E)=some z->o.loop key (F u Y i k)=some z)/\R (.agg (aS y')) k E/\k<=E/\E<=k+32*(1+dn y)):He o (n+1) t e w f H:=by
 intro ys h k u g0 g1;obtain ⟨xs,m,em,I,a3,V⟩:=iP hu hw h;injection em with em;subst em;injection I with I;injection I with _ I;subst I;have loop:∀(m:Nat) (i k:Int) (ys:Lq),0<=i->i+m=ys.length->(ys.length:Int)<=4611686018427387904->(∀j,i.toNat<=j->∀y,ys[j]? =some y->Own prog n e y.cells/\y.many=true)->0<=k->k+32*(m+dn (ys.drop i.toNat))<=4611686018427387904->
   ∃zs k2,o.loop key (F u ys i k)=some (.exit 0,X k2 zs)/\zs.length=ys.length/\(∀j,j<i.toNat->zs[j]? =ys[j]?)/\Chain R (aS (zs.drop i.toNat)) k k2/\k<=k2/\k2<=k+32*(m+dn (ys.drop i.toNat)):=by
  intro m;induction m with
  | zero=>
   intro i k ys M h hb hd g0 g1;refine ⟨ys,k,l1 u ys i k (by rw[ho.len];omega) (Dl ho i),rfl,λ_ _=>rfl,?_,Int.le_refl _,?_⟩
   ·rw[List.drop_eq_nil_of_le (by omega)];simp only[aS,Chain]
   have:=cH (ys.drop i.toNat);omega
  | succ m ih=>
   intro i k ys M h hb hd g0 g1;have hk:i.toNat<ys.length:=by omega
   obtain ⟨y,J⟩:∃y,ys[i.toNat]? =some y:=⟨_,bA hk⟩
   have a0:=A9 J;have a1:=cH (ys.drop (i.toNat+1));obtain ⟨f1,f2⟩:=hd i.toNat (Nat.le_refl _) y J;rw[F_ f2]at a0;obtain ⟨y',E,st,r,q1,q2⟩:=l2 y.cells f1 u ys _ i (i+1) k (ho.len ys) (xQ ho (by omega)) (by rw[f_ ho ys i _ M J,<-fK f2]) M hk (PU ho M (by omega)) g0 (by omega);have U:(o.set ys i (.agg y')).drop (i+1).toNat=ys.drop (i.toNat+1):=by rw[ho.set,show (i+1).toNat=i.toNat+1 by omega,List.drop_set_of_lt (by omega)]
   have a4:(o.set ys i (.agg y')).length=ys.length:=by rw[ho.set];simp
   obtain ⟨zs,k2,i1,i2,i3,O,i5,i6⟩:=ih (i+1) E (o.set ys i (.agg y')) (by omega) (by omega) (by omega) (λj hj y S=>hd j (by omega) y (by rw[ho.set,List.getElem?_set_ne (by omega)]at S;exact S)) (by omega) (by rw[U];omega);rw[U]at i6;refine ⟨zs,k2,st _ i1,by omega,λj hj=>by rw[i3 j (by omega),ho.set,List.getElem?_set_ne (by omega)],?_,by omega,by omega⟩;obtain ⟨p1,p2⟩:=ax.1 (show zs[i.toNat]? =some (.agg y') by rw[i3 _ (by omega),ho.set,List.getElem?_set_self (by omega)]);rw[List.drop_eq_getElem_cons p1,p2];rw[show (i+1).toNat=i.toNat+1 by omega]at O;exact ⟨E,r,O⟩
 simp only[cnt]at g1 |-;have a1:=cH ys;obtain ⟨zs,k2,i1,i2,i3,O,i5,i6⟩:=loop ys.length 0 k ys (Int.le_refl _) (by omega) (by omega) (λj _ y S=>by have:=V y (List.mem_of_getElem? S);rw[ha]at this;exact this) g0 (by simpa using g1);exact ⟨zs,k2,c u ys zs k k2 i1,hh _ k k2 (by rw[cG];omega) (by simpa using O),i5,by simpa using i6⟩
theorem Hg:∀xs k k2,((xs:Lq).length:Int)<=4611686018427387904->Chain (Ga o) xs k k2->NY o 97 xs k k2:=RZ ho (key:=9700) (G:=λxs i k=>⟨Al xs::Ai k::U::U::U::Ai i::Xc,V1⟩) (Y:=λk=>⟨U::Ai k::Xd,V1⟩)
 (λ_ _ _ l=>ho.aj (by cbv;rw[l];cbv))
 (λ_ _ _ e h=>ho.aB (by cbv;rw[e];cbv;rw[h];cbv))
 (λ_ k k' ⟨k1,k2,k3,t2,f3,E,I,J,T2,M,C3,O⟩ xs N i j z e S V hi l=>by subst E;exact ho.aB (by cbv;repeat ((first | rw[e] | rw[S] | rw[V] | rw[eq_int ho] | rw[m9 ho] | rw[I] | rw[J] | rw[T2] | rw[M] | rw[C3] | rw[O] | rw[hi] | exact l);(try cbv))))
theorem Hh (mt:MT o) {n:Nat} (ih:mD o n):He o (n+1) 29 31 4 24 (NY o 97):=by
 refine Hf ho (key:=2400) (F:=λu Y i k=>⟨.arr (42,0) (31,4) none u::Ai k::U::U::U::Ai i::Sn,Ow [[Oq Y]]⟩) (X:=λk Y=>⟨U::Ai k::Sq,Ow [[Oq Y]]⟩) (R:=Ga o) underlying29 oV (by unfold cV;rw[underlying31]) (Hg ho) (λ_ _ _ _ _ l=>ho.aj (by cbv;rw[l];cbv)) (λ_ _ _ _ I h=>ho.aB (by cbv;rw[I];cbv;rw[h];cbv)) ?_;intro y O u Y N i j k I h2 e0 J hl hi g0 g1;cases n with
 | zero=>simp[Own]at O
 | succ n=>
  obtain ⟨c0,c1,c2,c3,rfl,j0,j1,j2,S⟩:=AE O;obtain ⟨v0,e,_⟩:=fu underlying3 j0;injection e with e;subst e;obtain ⟨v1,e,_⟩:=fu underlying3 j1;injection e with e;subst e;obtain ⟨V,e,_⟩:=mN underlying9 j2;injection e with e;subst e;have p3:=dD _ _ _ S;obtain ⟨z3,_,_,e,_⟩:=iP underlying29 oV S;injection e with e;subst e;have:=cH z3;simp only[cnt,dn]at g1 |-;obtain ⟨E,b0,K0⟩:=l_ ho (a:=k) (by omega) (by omega);obtain ⟨Y1,S0,e1,l1,q1⟩:=ga ho J hl (.agg [.int .i64 k,.int .i64 v1,.str V,.own (31,4) z3]);obtain ⟨k2,b1,K1⟩:=l_ ho (a:=E) (by omega) (by omega);obtain ⟨Y2,S1,e2,l2,q2⟩:=ga ho J l1 (.agg [.int .i64 k,.int .i64 E,.str V,.own (31,4) z3]);obtain ⟨M,T2⟩:=mt k2 (by omega) (by omega);obtain ⟨k3,b2,K2⟩:=l_ ho (a:=k2) (by omega) (by omega);obtain ⟨Y3,S2,e3,l3,q3⟩:=ga ho J l2 (.agg [.int .i64 k,.int .i64 E,.str M,.own (31,4) z3]);obtain ⟨w3,k4,C3,H3,b3,d3⟩:=ih.1 z3 p3 k3 false (by omega) (by simp only[cnt];omega);simp only[cnt]at d3;obtain ⟨Z,hZ⟩:∃Z,o.set Y i (.agg [.int .i64 k,.int .i64 E,.str M,.own (31,4) w3])=Z:=⟨_,rfl⟩
  have S3:=((q3 _).trans ((q2 _).trans ((q1 _).trans hZ)))
  exact ⟨[.int .i64 k,.int .i64 E,.str M,.own (31,4) w3],k4,λz l=>by rw[hZ]at l;exact ho.aB (by cbv;repeat ((first | rw[I] | rw[h2] | rw[e0] | rw[K0] | rw[S0] | rw[e1] | rw[K1] | rw[S1] | rw[e2] | rw[T2] | rw[K2] | rw[S2] | rw[e3] | rw[C3] | rw[S3] | rw[hi] | exact l);(try cbv))),⟨_,_,_,_,_,rfl,K0,K1,T2,K2,H3,s6 ho (by omega)⟩,by omega,by omega⟩
theorem Ew (mt:MT o) {n:Nat} (ih:mD o n):He o (n+1) 71 158 7 42 (λ_ _ _=>True):=by
 refine Hf ho (key:=4200) (F:=λu Y i k=>⟨.arr (69,0) (158,7) none u::Ai k::U::U::U::Ai i::Xe,V3 [[some (.orows (158,7) Y)]]⟩) (X:=λk Y=>⟨U::Ai k::Xf,V3 [[some (.orows (158,7) Y)]]⟩) (R:=λ_ _ _=>True) underlying71 AA (by unfold cV;rw[underlying158]) (λ_ _ _ _ _=>trivial) (λ_ _ _ _ _ l=>ho.aj (by cbv;rw[l];cbv)) (λ_ _ _ _ hn h=>ho.aB (by cbv;rw[hn];cbv;rw[h];cbv)) ?_;intro y hy u Y N i j k hn h2 e0 O hl hi g0 g1;cases n with
 | zero=>simp[Own]at hy
 | succ n=>
  obtain ⟨c0,c1,c2,c3,c4,c5,c6,rfl,j0,j1,j2,j3,j4⟩:=Pq hy;obtain ⟨n1,rfl⟩:∃n1,n=n1+1:=by cases n with | zero=>simp[Own]at j2 | succ n=>exact ⟨n,rfl⟩
  obtain ⟨a0,a1,e,V,a3⟩:=NR j2;simp only[List.cons.injEq,and_true]at e;obtain ⟨rfl,rfl⟩:=e;obtain ⟨a0,a1,e,a4,a5⟩:=NR j4;simp only[List.cons.injEq,and_true]at e;obtain ⟨rfl,rfl⟩:=e;obtain ⟨v0,e,_⟩:=mN underlying9 j0;injection e with e;subst e;obtain ⟨v1,e,_⟩:=fu underlying3 j1;injection e with e;subst e;have p2:=dD _ _ _ (dD _ _ _ V);obtain ⟨z2,_,_,e,_⟩:=iP underlying34 xP V;injection e with e;subst e;have:=cH z2;have p3:=dD _ _ _ (dD _ _ _ a3);obtain ⟨z3,_,_,e,_⟩:=iP underlying35 u4 a3;injection e with e;subst e;have:=cH z3;obtain ⟨v4,e⟩:=Kg underlying4 j3;injection e with e;subst e;have p5:=dD _ _ _ (dD _ _ _ a4);obtain ⟨M,_,_,e,_⟩:=iP underlying34 xP a4;injection e with e;subst e;have:=cH M;have p6:=dD _ _ _ (dD _ _ _ a5);obtain ⟨E,_,_,e,_⟩:=iP underlying35 u4 a5;injection e with e;subst e;have:=cH E;simp only[cnt,dn]at g1 |-;obtain ⟨I,T0⟩:=mt k (by omega) (by omega);obtain ⟨J,b0,K0⟩:=l_ ho (a:=k) (by omega) (by omega);obtain ⟨Y1,S0,e1,l1,q1⟩:=ga ho O hl (.agg [.str I,.int .i64 v1,.own (226,4) z2,.own (249,4) z3,.bool v4,.own (226,4) M,.own (249,4) E]);obtain ⟨k2,b1,K1⟩:=l_ ho (a:=J) (by omega) (by omega);obtain ⟨Y2,S1,e2,l2,q2⟩:=ga ho O l1 (.agg [.str I,.int .i64 J,.own (226,4) z2,.own (249,4) z3,.bool v4,.own (226,4) M,.own (249,4) E]);obtain ⟨S,k3,C2,H2,b2,d2⟩:=ih.2.2.2.1 z2 p2 k2 false (by omega) (by simp only[cnt];omega);simp only[cnt]at d2;obtain ⟨Y3,S2,e3,l3,q3⟩:=ga ho O l2 (.agg [.str I,.int .i64 J,.own (226,4) S,.own (249,4) z3,.bool v4,.own (226,4) M,.own (249,4) E])
  obtain ⟨w3,k4,C3,H3,b3,d3⟩:=ih.2.2.2.2.1 z3 p3 k3 false (by omega) (by simp only[cnt];omega);simp only[cnt]at d3;obtain ⟨Y4,S3,e4,l4,q4⟩:=ga ho O l3 (.agg [.str I,.int .i64 J,.own (226,4) S,.own (249,4) w3,.bool v4,.own (226,4) M,.own (249,4) E]);have Z4:o.isZero 3=false:=by rw[ho.isZero];rfl
  obtain ⟨r4,R4⟩:∃r,o.ar .rem .i64 k4 3=r:=⟨_,rfl⟩
  obtain ⟨t4,B4⟩:∃b,o.cmp .eql r4 0=b:=⟨_,rfl⟩
  obtain ⟨k5,b4,K4⟩:=l_ ho (a:=k4) (by omega) (by omega);obtain ⟨Y5,S4,e5,l5,q5⟩:=ga ho O l4 (.agg [.str I,.int .i64 J,.own (226,4) S,.own (249,4) w3,.bool t4,.own (226,4) M,.own (249,4) E]);obtain ⟨w5,k6,C5,H5,b5,d5⟩:=ih.2.2.2.1 M p5 k5 false (by omega) (by simp only[cnt];omega);simp only[cnt]at d5;obtain ⟨Y6,S5,e6,l6,q6⟩:=ga ho O l5 (.agg [.str I,.int .i64 J,.own (226,4) S,.own (249,4) w3,.bool t4,.own (226,4) w5,.own (249,4) E]);obtain ⟨w6,k7,C6,H6,b6,d6⟩:=ih.2.2.2.2.1 E p6 k6 false (by omega) (by simp only[cnt];omega);simp only[cnt]at d6;obtain ⟨Z,hZ⟩:∃Z,o.set Y i (.agg [.str I,.int .i64 J,.own (226,4) S,.own (249,4) w3,.bool t4,.own (226,4) w5,.own (249,4) w6])=Z:=⟨_,rfl⟩
  have S6:=((q6 _).trans ((q5 _).trans ((q4 _).trans ((q3 _).trans ((q2 _).trans ((q1 _).trans hZ))))))
  exact ⟨[.str I,.int .i64 J,.own (226,4) S,.own (249,4) w3,.bool t4,.own (226,4) w5,.own (249,4) w6],k7,λz l=>by rw[hZ]at l;exact ho.aB (by cbv;repeat ((first | rw[hn] | rw[h2] | rw[e0] | rw[T0] | rw[K0] | rw[S0] | rw[e1] | rw[K1] | rw[S1] | rw[e2] | rw[C2] | rw[S2] | rw[e3] | rw[C3] | rw[S3] | rw[e4] | rw[Z4] | rw[R4] | rw[B4] | rw[K4] | rw[S4] | rw[e5] | rw[C5] | rw[S5] | rw[e6] | rw[C6] | rw[S6] | rw[hi] | exact l);(try cbv))),trivial,by omega,by omega⟩
theorem AG:∀xs k k2,((xs:Lq).length:Int)<=4611686018427387904->Chain (Gb o) xs k k2->NY o 49 xs k k2:=RZ ho (key:=4900) (G:=λxs i k=>⟨Al xs::Ai k::U::U::U::Ai i::Xi,V2⟩) (Y:=λk=>⟨U::Ai k::Xj,V2⟩)
 (λ_ _ _ l=>ho.aj (by cbv;rw[l];cbv))
 (λ_ _ _ e h=>ho.aB (by cbv;rw[e];cbv;rw[h];cbv))
 (λ_ k k' ⟨k1,k2,k3,t2,k4,f3,k5,k6,k7,t6,f7,E,I,J,T2,M,C3,O,S,V,T6,K6,C7,N7⟩ xs N i j z e h2 e0 hi l=>by subst E;exact ho.aB (by cbv;repeat ((first | rw[e] | rw[h2] | rw[e0] | rw[eq_int ho] | rw[m9 ho] | rw[I] | rw[J] | rw[T2] | rw[M] | rw[C3] | rw[O] | rw[S] | rw[V] | rw[T6] | rw[K6] | rw[C7] | rw[N7] | rw[hi] | exact l);(try cbv))))
theorem Hi (mt:MT o) {n:Nat} (ih:mD o n):He o (n+1) 79 120 8 48 (NY o 49):=by
 refine Hf ho (key:=4800) (F:=λu Y i k=>⟨.arr (79,0) (120,8) none u::Ai k::U::U::U::Ai i::Xg,V4 [[some (.orows (120,8) Y)]]⟩) (X:=λk Y=>⟨U::Ai k::Xh,V4 [[some (.orows (120,8) Y)]]⟩) (R:=Gb o) underlying79 Az (by unfold cV;rw[underlying120]) (AG ho) (λ_ _ _ _ _ l=>ho.aj (by cbv;rw[l];cbv)) (λ_ _ _ _ hn h=>ho.aB (by cbv;rw[hn];cbv;rw[h];cbv)) ?_;intro y hy u Y N i j k hn h2 e0 J hl hi g0 g1;cases n with
 | zero=>simp[Own]at hy
 | succ n=>
  obtain ⟨c0,c1,c2,c3,c4,c5,c6,c7,rfl,j0,j1⟩:=Pp hy;obtain ⟨n1,rfl⟩:∃n1,n=n1+1:=by cases n with | zero=>simp[Own]at j0 | succ n=>exact ⟨n,rfl⟩
  obtain ⟨a0,a1,a2,a3,e,a5,a6,a7,V⟩:=AE j0;simp only[List.cons.injEq,and_true]at e;obtain ⟨rfl,rfl,rfl,rfl⟩:=e;obtain ⟨a0,a1,a2,a3,e,a8,a9,aa,a4⟩:=AE j1;simp only[List.cons.injEq,and_true]at e;obtain ⟨rfl,rfl,rfl,rfl⟩:=e;obtain ⟨v0,e,_⟩:=fu underlying3 a5;injection e with e;subst e;obtain ⟨v1,e,_⟩:=fu underlying3 a6;injection e with e;subst e;obtain ⟨v2,e,_⟩:=mN underlying9 a7;injection e with e;subst e;have p3:=dD _ _ _ (dD _ _ _ V);obtain ⟨z3,_,_,e,_⟩:=iP underlying29 oV V;injection e with e;subst e;have:=cH z3;obtain ⟨v4,e,_⟩:=fu underlying3 a8;injection e with e;subst e;obtain ⟨v5,e,_⟩:=fu underlying3 a9;injection e with e;subst e;obtain ⟨v6,e,_⟩:=mN underlying9 aa;injection e with e;subst e;have p7:=dD _ _ _ (dD _ _ _ a4);obtain ⟨E,_,_,e,_⟩:=iP underlying29 oV a4;injection e with e;subst e;have:=cH E;simp only[cnt,dn]at g1 |-;obtain ⟨I,b0,K0⟩:=l_ ho (a:=k) (by omega) (by omega);obtain ⟨Y1,S0,e1,l1,q1⟩:=ga ho J hl (.agg [.int .i64 k,.int .i64 v1,.str v2,.own (31,4) z3,.int .i64 v4,.int .i64 v5,.str v6,.own (31,4) E]);obtain ⟨k2,b1,K1⟩:=l_ ho (a:=I) (by omega) (by omega);obtain ⟨Y2,S1,e2,l2,q2⟩:=ga ho J l1 (.agg [.int .i64 k,.int .i64 I,.str v2,.own (31,4) z3,.int .i64 v4,.int .i64 v5,.str v6,.own (31,4) E]);obtain ⟨M,T2⟩:=mt k2 (by omega) (by omega);obtain ⟨k3,b2,K2⟩:=l_ ho (a:=k2) (by omega) (by omega);obtain ⟨Y3,S2,e3,l3,q3⟩:=ga ho J l2 (.agg [.int .i64 k,.int .i64 I,.str M,.own (31,4) z3,.int .i64 v4,.int .i64 v5,.str v6,.own (31,4) E])
  obtain ⟨O,S,C3,H3,b3,d3⟩:=ih.1 z3 p3 k3 false (by omega) (by simp only[cnt];omega);simp only[cnt]at d3;obtain ⟨Y4,S3,e4,l4,q4⟩:=ga ho J l3 (.agg [.int .i64 k,.int .i64 I,.str M,.own (31,4) O,.int .i64 v4,.int .i64 v5,.str v6,.own (31,4) E]);obtain ⟨k5,b4,K4⟩:=l_ ho (a:=S) (by omega) (by omega);obtain ⟨Y5,S4,e5,l5,q5⟩:=ga ho J l4 (.agg [.int .i64 k,.int .i64 I,.str M,.own (31,4) O,.int .i64 S,.int .i64 v5,.str v6,.own (31,4) E]);obtain ⟨k6,b5,K5⟩:=l_ ho (a:=k5) (by omega) (by omega);obtain ⟨Y6,S5,e6,l6,q6⟩:=ga ho J l5 (.agg [.int .i64 k,.int .i64 I,.str M,.own (31,4) O,.int .i64 S,.int .i64 k5,.str v6,.own (31,4) E]);obtain ⟨t6,T6⟩:=mt k6 (by omega) (by omega);obtain ⟨k7,b6,K6⟩:=l_ ho (a:=k6) (by omega) (by omega);obtain ⟨Y7,S6,e7,l7,q7⟩:=ga ho J l6 (.agg [.int .i64 k,.int .i64 I,.str M,.own (31,4) O,.int .i64 S,.int .i64 k5,.str t6,.own (31,4) E]);obtain ⟨w7,k8,C7,H7,b7,d7⟩:=ih.1 E p7 k7 false (by omega) (by simp only[cnt];omega);simp only[cnt]at d7;obtain ⟨Z,hZ⟩:∃Z,o.set Y i (.agg [.int .i64 k,.int .i64 I,.str M,.own (31,4) O,.int .i64 S,.int .i64 k5,.str t6,.own (31,4) w7])=Z:=⟨_,rfl⟩
  have S7:=((q7 _).trans ((q6 _).trans ((q5 _).trans ((q4 _).trans ((q3 _).trans ((q2 _).trans ((q1 _).trans hZ)))))))
  exact ⟨[.int .i64 k,.int .i64 I,.str M,.own (31,4) O,.int .i64 S,.int .i64 k5,.str t6,.own (31,4) w7],k8,λz l=>by rw[hZ]at l;exact ho.aB (by cbv;repeat ((first | rw[hn] | rw[h2] | rw[e0] | rw[K0] | rw[S0] | rw[e1] | rw[K1] | rw[S1] | rw[e2] | rw[T2] | rw[K2] | rw[S2] | rw[e3] | rw[C3] | rw[S3] | rw[e4] | rw[K4] | rw[S4] | rw[e5] | rw[K5] | rw[S5] | rw[e6] | rw[T6] | rw[K6] | rw[S6] | rw[e7] | rw[C7] | rw[S7] | rw[hi] | exact l);(try cbv))),⟨_,_,_,_,_,_,_,_,_,_,_,rfl,K0,K1,T2,K2,H3,s6 ho (by omega),K4,K5,T6,K6,H7,s6 ho (by omega)⟩,by omega,by omega⟩
theorem Mh (mt:MT o) {n:Nat} (ih:mD o n):He o (n+1) 34 226 4 94 (λ_ _ _=>True):=by
 refine Hf ho (key:=9400) (F:=λu Y i k=>⟨.arr (42,0) (226,4) none u::Ai k::U::U::U::Ai i::Sn,Ow [[some (.orows (226,4) Y)]]⟩) (X:=λk Y=>⟨U::Ai k::Sq,Ow [[some (.orows (226,4) Y)]]⟩) (R:=λ_ _ _=>True) underlying34 xP (by unfold cV;rw[underlying226]) (λ_ _ _ _ _=>trivial) (λ_ _ _ _ _ l=>ho.aj (by cbv;rw[l];cbv)) (λ_ _ _ _ J h=>ho.aB (by cbv;rw[J];cbv;rw[h];cbv)) ?_;intro y O u Y N i j k J h2 e0 M hl hi g0 g1;cases n with
 | zero=>simp[Own]at O
 | succ n=>
  obtain ⟨c0,c1,c2,c3,rfl,j0,j1,j2,S⟩:=Pt O;obtain ⟨v0,e,_⟩:=mN underlying9 j0;injection e with e;subst e;obtain ⟨v1,e,_⟩:=fu underlying3 j1;injection e with e;subst e;obtain ⟨V,e,_⟩:=fu underlying3 j2;injection e with e;subst e;have p3:=dD _ _ _ S;obtain ⟨z3,_,_,e,_⟩:=iP underlying216 AB S;injection e with e;subst e;have:=cH z3;simp only[cnt,dn]at g1 |-;obtain ⟨E,T0⟩:=mt k (by omega) (by omega);obtain ⟨I,b0,K0⟩:=l_ ho (a:=k) (by omega) (by omega);obtain ⟨Y1,S0,e1,l1,q1⟩:=ga ho M hl (.agg [.str E,.int .i64 v1,.int .i64 V,.own (224,4) z3]);obtain ⟨k2,b1,K1⟩:=l_ ho (a:=I) (by omega) (by omega);obtain ⟨Y2,S1,e2,l2,q2⟩:=ga ho M l1 (.agg [.str E,.int .i64 I,.int .i64 V,.own (224,4) z3]);obtain ⟨k3,b2,K2⟩:=l_ ho (a:=k2) (by omega) (by omega);obtain ⟨Y3,S2,e3,l3,q3⟩:=ga ho M l2 (.agg [.str E,.int .i64 I,.int .i64 k2,.own (224,4) z3]);obtain ⟨w3,k4,C3,H3,b3,d3⟩:=ih.2.2.2.2.2 z3 p3 k3 false (by omega) (by simp only[cnt];omega);simp only[cnt]at d3;obtain ⟨Z,hZ⟩:∃Z,o.set Y i (.agg [.str E,.int .i64 I,.int .i64 k2,.own (224,4) w3])=Z:=⟨_,rfl⟩
  have S3:=((q3 _).trans ((q2 _).trans ((q1 _).trans hZ)))
  exact ⟨[.str E,.int .i64 I,.int .i64 k2,.own (224,4) w3],k4,λz l=>by rw[hZ]at l;exact ho.aB (by cbv;repeat ((first | rw[J] | rw[h2] | rw[e0] | rw[T0] | rw[K0] | rw[S0] | rw[e1] | rw[K1] | rw[S1] | rw[e2] | rw[K2] | rw[S2] | rw[e3] | rw[C3] | rw[S3] | rw[hi] | exact l);(try cbv))),trivial,by omega,by omega⟩
theorem JK (mt:MT o) {n:Nat} (ih:mD o n):He o (n+1) 35 249 4 95 (λ_ _ _=>True):=by
 refine Hf ho (key:=9500) (F:=λu Y i k=>⟨.arr (42,0) (249,4) none u::Ai k::U::U::U::Ai i::Sn,Ow [[some (.orows (249,4) Y)]]⟩) (X:=λk Y=>⟨U::Ai k::Sq,Ow [[some (.orows (249,4) Y)]]⟩) (R:=λ_ _ _=>True) underlying35 u4 (by unfold cV;rw[underlying249]) (λ_ _ _ _ _=>trivial) (λ_ _ _ _ _ l=>ho.aj (by cbv;rw[l];cbv)) (λ_ _ _ _ I h=>ho.aB (by cbv;rw[I];cbv;rw[h];cbv)) ?_;intro y O u Y N i j k I h2 e0 J hl hi g0 g1;cases n with
 | zero=>simp[Own]at O
 | succ n=>
  obtain ⟨c0,c1,c2,c3,rfl,j0,j1,j2,S⟩:=Pu O;obtain ⟨v0,e,_⟩:=fu underlying3 j0;injection e with e;subst e;obtain ⟨v1,e,_⟩:=fu underlying3 j1;injection e with e;subst e;obtain ⟨V,e,_⟩:=mN underlying9 j2;injection e with e;subst e;have p3:=dD _ _ _ S;obtain ⟨z3,_,_,e,_⟩:=iP underlying35 u4 S;injection e with e;subst e;have:=cH z3;simp only[cnt,dn]at g1 |-;obtain ⟨E,b0,K0⟩:=l_ ho (a:=k) (by omega) (by omega);obtain ⟨Y1,S0,e1,l1,q1⟩:=ga ho J hl (.agg [.int .i64 k,.int .i64 v1,.str V,.own (249,4) z3]);obtain ⟨k2,b1,K1⟩:=l_ ho (a:=E) (by omega) (by omega);obtain ⟨Y2,S1,e2,l2,q2⟩:=ga ho J l1 (.agg [.int .i64 k,.int .i64 E,.str V,.own (249,4) z3]);obtain ⟨M,T2⟩:=mt k2 (by omega) (by omega);obtain ⟨k3,b2,K2⟩:=l_ ho (a:=k2) (by omega) (by omega);obtain ⟨Y3,S2,e3,l3,q3⟩:=ga ho J l2 (.agg [.int .i64 k,.int .i64 E,.str M,.own (249,4) z3]);obtain ⟨w3,k4,C3,H3,b3,d3⟩:=ih.2.2.2.2.1 z3 p3 k3 false (by omega) (by simp only[cnt];omega);simp only[cnt]at d3;obtain ⟨Z,hZ⟩:∃Z,o.set Y i (.agg [.int .i64 k,.int .i64 E,.str M,.own (249,4) w3])=Z:=⟨_,rfl⟩
  have S3:=((q3 _).trans ((q2 _).trans ((q1 _).trans hZ)))
  exact ⟨[.int .i64 k,.int .i64 E,.str M,.own (249,4) w3],k4,λz l=>by rw[hZ]at l;exact ho.aB (by cbv;repeat ((first | rw[I] | rw[h2] | rw[e0] | rw[K0] | rw[S0] | rw[e1] | rw[K1] | rw[S1] | rw[e2] | rw[T2] | rw[K2] | rw[S2] | rw[e3] | rw[C3] | rw[S3] | rw[hi] | exact l);(try cbv))),trivial,by omega,by omega⟩
theorem JL (mt:MT o) {n:Nat} (ih:mD o n):He o (n+1) 216 224 4 184 (λ_ _ _=>True):=by
 refine Hf ho (key:=18400) (F:=λu Y i k=>⟨.arr (42,0) (224,4) none u::Ai k::U::U::U::Ai i::Sn,Ow [[some (.orows (224,4) Y)]]⟩) (X:=λk Y=>⟨U::Ai k::Sq,Ow [[some (.orows (224,4) Y)]]⟩) (R:=λ_ _ _=>True) underlying216 AB (by unfold cV;rw[underlying224]) (λ_ _ _ _ _=>trivial) (λ_ _ _ _ _ l=>ho.aj (by cbv;rw[l];cbv)) (λ_ _ _ _ I h=>ho.aB (by cbv;rw[I];cbv;rw[h];cbv)) ?_;intro y V u Y N i j k I h2 e0 J hl hi g0 g1;cases n with
 | zero=>simp[Own]at V
 | succ n=>
  obtain ⟨c0,c1,c2,c3,rfl,j0,j1,j2,j3⟩:=Pr V;obtain ⟨v0,e,_⟩:=fu underlying3 j0;injection e with e;subst e;obtain ⟨v1,e,_⟩:=fu underlying3 j1;injection e with e;subst e;obtain ⟨v2,e,_⟩:=mN underlying9 j2;injection e with e;subst e;obtain ⟨M,e,_⟩:=fu underlying3 j3;injection e with e;subst e;simp only[cnt,dn]at g1 |-;obtain ⟨E,b0,K0⟩:=l_ ho (a:=k) (by omega) (by omega);obtain ⟨Y1,S0,e1,l1,q1⟩:=ga ho J hl (.agg [.int .i64 k,.int .i64 v1,.str v2,.int .i64 M]);obtain ⟨k2,b1,K1⟩:=l_ ho (a:=E) (by omega) (by omega);obtain ⟨Y2,S1,e2,l2,q2⟩:=ga ho J l1 (.agg [.int .i64 k,.int .i64 E,.str v2,.int .i64 M]);obtain ⟨O,T2⟩:=mt k2 (by omega) (by omega);obtain ⟨S,b2,K2⟩:=l_ ho (a:=k2) (by omega) (by omega);obtain ⟨Y3,S2,e3,l3,q3⟩:=ga ho J l2 (.agg [.int .i64 k,.int .i64 E,.str O,.int .i64 M]);obtain ⟨k4,b3,K3⟩:=l_ ho (a:=S) (by omega) (by omega);obtain ⟨Z,hZ⟩:∃Z,o.set Y i (.agg [.int .i64 k,.int .i64 E,.str O,.int .i64 S])=Z:=⟨_,rfl⟩
  have S3:=((q3 _).trans ((q2 _).trans ((q1 _).trans hZ)))
  exact ⟨[.int .i64 k,.int .i64 E,.str O,.int .i64 S],k4,λz l=>by rw[hZ]at l;exact ho.aB (by cbv;repeat ((first | rw[I] | rw[h2] | rw[e0] | rw[K0] | rw[S0] | rw[e1] | rw[K1] | rw[S1] | rw[e2] | rw[T2] | rw[K2] | rw[S2] | rw[e3] | rw[K3] | rw[S3] | rw[hi] | exact l);(try cbv))),trivial,by omega,by omega⟩
theorem oh (mt:MT o):∀n,mD o n
 | 0=>by
  unfold mD;refine ⟨?_,?_,?_,?_,?_,?_⟩<;>(intro x h;simp[Own]at h)
 | n+1=>have e:=oh mt n;⟨Hh ho mt e,Ew ho mt e,Hi ho mt e,Mh ho mt e,JK ho mt e,JL ho mt e⟩
end T2
namespace T2
open Go Go.Vi Go.Proofs Go.Proofs.Tryz
set_option maxRecDepth 100000
set_option maxHeartbeats 4000000
section
variable {o:aM} (ho:aQ cu bw o)
include ho
def gU (i:Int) (t:By):St:=⟨E 20 [(0,Ai i),(3,As t)],O 20 []⟩
def jI (t:By):St:=⟨E 20 [(3,As t)],O 20 []⟩
theorem uw {i n1 n2 n3:Int} {s1 t s2:By} {n4:Int} (j:o.cmp .gtr i 0=true) (E:o.ar .rem .i64 i 10=n1) (I:o.ar .add .i64 48 n1=n2) (J:o.wrap .u8 n2=n3) (M:o.ofBytes [.int .u8 n3]=some s1) (O:o.s8 s1 t=true) (S:o.BR s1 t=s2) (U:o.ar .quo .i64 i 10=n4):∀z,o.loop 9600 (gU n4 s2)=some z->o.loop 9600 (gU i t)=some z:=by
 intro z e;refine ho.aB ?_;rw[<-e];clear e;have V:o.isZero 10=false:=by rw[ho.isZero];rfl
 cbv
 repeat (simp only[*];try cbv)
theorem ux {i:Int} {t:By} (e:o.cmp .gtr i 0=false):o.loop 9600 (gU i t)=some (.exit 0,jI t):=by
 refine ho.aB ?_
 cbv
 repeat (simp only[*];try cbv)
theorem xS {e:Int} (j:o.cmp .leq e 0=true):o.call 96 [Ai e] []=Ar (As ⟨#[109,48]⟩):=by
 refine ho.aj ?_
 cbv
 repeat (simp only[*];try cbv)
theorem xT {e:Int} {s1 s2:By} (E:o.cmp .leq e 0=false) (j:o.loop 9600 (gU e ⟨#[]⟩)=some (.exit 0,jI s1)) (I:o.s8 ⟨#[109]⟩ s1=true) (J:o.BR ⟨#[109]⟩ s1=s2):o.call 96 [Ai e] []=Ar (As s2):=by
 refine ho.aj ?_
 cbv at j
 cbv
 repeat (simp only[*];try cbv)
theorem xU {l:Lq} {k n1 m n:Int} {s:By} (e:o.call 97 [Al l,Ai k] []=Ar (Ai n1)) (j:o.cmp .lss n1 0=false):o.call 26 [At m n s l,Ai k] []=Ar (Ai n1):=by
 refine ho.aj ?_
 cbv
 repeat (simp only[*];try cbv)
theorem JM (c:Int):∃t,o.ofBytes [.int .u8 c]=some t/\t.size=1:=⟨⟨#[UInt8.ofNat c.toNat]⟩,by rw[ho.ofBytes];rfl,rfl⟩
theorem u5 {a b:By} (h:a.size+b.size<=2000):o.s8 a b=true:=by
 rw[ho.s8];simp only[decide_eq_true_eq];have:IntKind.i64.max=9223372036854775807:=rfl;rw[this];omega
theorem Gc:∀(q:Nat) (k:Int) (u:By),0<=k->k<=9223372036854775807->k<10^q->u.size+q<=1000->∃s,o.loop 9600 (gU k u)=some (.exit 0,jI s)/\s.size<=1000
 | q,k,
     u,E,S,j,V=>by
  rcases fB ho k 0 with ⟨e,g⟩ | ⟨e,g⟩
  ·exact ⟨u,ux ho e,by omega⟩
  cases q with
  | zero=>simp at j;omega
  | succ q=>
   obtain ⟨t,I,U⟩:=JM ho (o.wrap .u8 (o.ar .add .i64 48 (o.ar .rem .i64 k 10)));have J:o.ar .quo .i64 k 10=k/10:=by
    rw[ho.ar];simp only[HS];rw[Int.tdiv_eq_ediv_of_nonneg E];exact wF (by omega) (by omega)
   obtain ⟨s,M,O⟩:=Gc q (k/10) (o.BR t u) (by omega) (by omega) (by rw[Int.pow_succ]at j;omega) (by rw[ho.BR,ByteArray.size_append];omega);exact ⟨s,uw ho e rfl rfl rfl I (u5 ho (by omega)) rfl J _ M,O⟩
theorem mt:MT o:=by
 intro k j I;rcases iz ho k 0 with ⟨e,g⟩ | ⟨e,g⟩
 ·obtain ⟨s,E,J⟩:=Gc ho 19 k ⟨#[]⟩ j (by omega) (by omega) (by decide);exact ⟨_,xT ho e E (u5 ho (by have:ByteArray.size ⟨#[109]⟩=1:=rfl;omega)) rfl⟩
 exact ⟨_,xS ho e⟩
omit ho in
theorem PV {k m:Int} {s:By} {l:Lq} (h:jw o k m s l=true):(Lit.int .i64 k).wf=true/\(Lit.int .i64 m).wf=true:=by
 have e:∀i:Int,-1000000000000<=i->i<=1000000000000->(Lit.int .i64 i).wf=true:=λi a b=>by simp[Lit.wf,IntKind.min,IntKind.max,IntKind.signed,IntKind.bits];omega
 unfold jw at h;split at h
 ·simp only[af]at h;have:=cL h.1.1;exact ⟨e _ (by omega) (by omega),e _ (by omega) (by omega)⟩
 split at h
 ·simp only[af,decide_eq_true_eq]at h;exact ⟨e _ (by omega) (by omega),e _ (by omega) (by omega)⟩
 split at h
 ·simp only[af]at h;have:=cL h.1.1;exact ⟨e _ (by omega) (by omega),e _ (by omega) (by omega)⟩
 split at h
 ·simp only[af,decide_eq_true_eq]at h;exact ⟨e _ (by omega) (by omega),e _ (by omega) (by omega)⟩
 split at h
 ·simp only[af,decide_eq_true_eq]at h;exact ⟨e _ (by omega) (by omega),e _ (by omega) (by omega)⟩
 cases h
omit ho in
theorem xV:∀{n:Nat} {d:D},Rt o n d->Own prog (2*n) 31 (sP d).cells/\(sP d).many=true
 | 0,d,h=>h.elim
 | n+1,d,⟨k,m,s,l,e,h,hl⟩=>by
  subst e;have j:=PV h;have J:=hU h;refine ⟨?_,rfl⟩;rw[show 2*(n+1)=2*n+1+1 by omega];refine FP ⟨yV underlying3 j.1,yV underlying3 j.2,Fa underlying9 (by unfold maxLen;omega),lX underlying29 oV (by rw[pQ];unfold maxLen;omega) λx E=> ?_⟩;rw[j6]at E;obtain ⟨y,I,rfl⟩:=List.mem_map.1 E;obtain ⟨a,b⟩:=xV (hl y I);exact ⟨a,by rw[b];unfold cV;rw[underlying31]⟩
omit ho in
theorem wq {c:Int}:∀{l:Lq},(∀x∈l,cnt x<=c)->dn l<=l.length*c
 | [],_=>by simp[dn]
 | x::l,h=>by
  have:=h x (by simp);have:=wq (l:=l) λy e=>h y (by simp[e])
  simp only[dn,List.length_cons];rw[show ((l.length+1:Nat):Int)*c=l.length*c+c by rw[Int.natCast_add,Int.add_mul];simp];omega
def cB:Nat->Int
 | 0=>0
 | 1=>0
 | n+2=>60+60*cB (n+1)
omit ho in
theorem Gd:∀n,0<=cB n
 | 0=>Int.le_refl _
 | 1=>Int.le_refl _
 | n+2=>by have:=Gd (n+1);show 0<=60+60*cB (n+1);omega
omit ho in
theorem xX:∀{n:Nat} {d:D},Rt o n d->cnt d<=cB n
 | 0,d,h=>h.elim
 | 1,d,⟨k,m,s,l,e,h,hl⟩=>by
  subst e;cases l with
  | nil=>simp[cnt,dn,cB]
  | cons x l=>exact (hl x (by simp)).elim
 | n+2,d,⟨k,m,s,l,e,h,hl⟩=>by
  subst e;have j:=hU h;have:=wq λx E=>xX (hl x E)
  have I:(l.length:Int)*cB (n+1)<=60*cB (n+1):=Int.mul_le_mul_of_nonneg_right j.2 (Gd (n+1));show cnt _<=60+60*cB (n+1);simp only[cnt,dn];omega
end
end T2
