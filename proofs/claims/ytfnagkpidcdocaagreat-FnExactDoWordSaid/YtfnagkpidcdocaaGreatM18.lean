import Derived.Test.YtfnagkpidcdocaaGreatM17
set_option linter.all false
namespace T2
open Go Go.Vi
set_option maxRecDepth 100000
set_option maxHeartbeats 4000000
def sH:Lq->Lq
 | .lst l::r=>l++sH r
 | _::r=>sH r
 | []=>[]
theorem Ih {l r:Lq}:sH (.lst l::r)=l++sH r:=rfl
theorem mo {o:aM}:∀{n:Nat} {d:D},Rt o n d->Rt o (n+1) d
 | 0,_,h=>h.elim
 | n+1,_,⟨k,m,s,l,e,a,c⟩=>⟨k,m,s,l,e,a,λx j=>mo (c x j)⟩
theorem Ak {o:aM} {n m:Nat} {d:D} (h:n<=m) (r:Rt o n d):Rt o m d:=by
 induction h with
 | refl=>exact r
 | step _ e=>exact mo e
def Sd (x:D):Prop:=∃l,x= .lst l/\(l.length:Int)<=1000/\∀y∈l,y.cells.length=4
def nj (l:Lq):Option (Lq):=match l[((l.length:Int)-1).toNat]? with
 | some (.agg [.int _ k,_,_,.lst x])=>if k=5 then some (l.take ((l.length:Int)-1).toNat++x)else none
 | _=>none
def Lj (o:aM) (t:D):D×Int:=if pO o t then (t,0)else (nB,4)
def ig (o:aM) (k:Int) (l:Lq):D×Int:=
 if k=6 then (match nj l with | none=>(nB,3) | some x=>Lj o (.agg [.int .i64 5,.int .i64 0,.str ⟨#[]⟩,.lst x]))
 else Lj o (.agg [.int .i64 k,.int .i64 0,.str ⟨#[]⟩,.lst l])
def cv (r:D×Int):AV:=match r.1 with | .agg [a,b,c,d]=> .tup [.agg [.d a,.d b,.d c,.d d],.d (.int .i64 r.2)] | _=> .undef
section
variable {o:aM} (ho:aQ cu bw o)
include ho
theorem Q5 (e:Int) (h0:0<=e) (hb:e<=1048576):(∃l1,o.call 403 [.emp,Ai e] []=some ⟨.arr (0,0) (31,4) (some (0,0)) false,[],[Os l1]⟩)\/o.call 403 [.emp,Ai e] []=Ar (.emp):=by
 have j:o.cmp .lss e 0=false:=by first | assumption | exact P8 ho (by omega)
 have g1:=P_ ho j;obtain ⟨n1,E⟩:=kx (o.ar .sub .i64 0 0);try have g2:n1=0-0:=E.symm.trans (gj ho (by omega) (by omega))
 obtain ⟨n2,I⟩:=kx (o.ar .sub .i64 e n1);try have g3:n2=e-n1:=I.symm.trans (gj ho (by omega) (by omega))
 rcases fB ho n2 0 with ⟨J,S⟩|⟨J,S⟩
 ·exact .inr (ho.aj (by cbv;repeat (simp only[j,E,I,J];try cbv)):_=Ar (.emp))
 have U:o.isZero 0=true:=by rw[ho.isZero];rfl
 have V:o.fP 56 n2=true:=by rw[ho.fP];exact decide_eq_true (by omega)
 obtain ⟨l1,e7⟩:=kx (o.rm n2 (.agg [.int .i64 0,.int .i64 0,.str ⟨#[]⟩,.lst []]));obtain ⟨n3,M,e8⟩:∃n3,n3=0/\o.minus 0 0=n3:=⟨_,rfl,by rw[ho.minus];rfl⟩
 obtain ⟨l2,a0,e9⟩:∃l2,l2=[]/\o.sub l1 0 n3=some l2:=⟨_,rfl,by rw[iy ho (Int.le_refl _) (by omega) (by omega),M];rfl⟩
 refine .inl ⟨l1,?_⟩;have O:=(ho.aj (by cbv;repeat (simp only[j,E,I,J,U,V,e7,e8,e9];try cbv)):o.call 403 [.emp,Ai e] []=some ⟨.arr (0,0) (31,4) (some (0,n3)) false,[],[Os l1]⟩)
 rw[M]at O;exact O
def eC (e:Lq) (i n1 j:Int):St:=⟨E 36 [(0,Al e),(3,Ai i),(9,Al e),(10,Ai n1),(11,Ai j)],O 36 []⟩
def gO (e:Lq) (i:Int):St:=⟨E 36 [(0,Al e),(3,Ai i)],O 36 []⟩
def iQ (e:Lq) (n1 i:Int) (y:Lq):St:=⟨E 36 [(6,.arr (33,0) (31,4) none false),(25,Al e),(26,Ai n1),(27,Ai i)],O 36 [(33,[Os y])]⟩
def gP (y:Lq):St:=⟨E 36 [(6,.arr (33,0) (31,4) none false)],O 36 [(33,[Os y])]⟩
def ij (e:Lq) (n1 i:Int) (y:Lq):St:=⟨E 36 [(6,.arr (33,0) (31,4) none false),(25,Al e),(26,Ai n1),(27,Ai i)],O 36 [(24,[none]),(33,[Os y])]⟩
def gu (y:Lq):St:=⟨E 36 [(6,.arr (33,0) (31,4) none false)],O 36 [(24,[none]),(33,[Os y])]⟩
theorem Sz (j:Lq) (hE:∀x∈j,Sd x) (n1:Int) (hn:(j.length:Int)=n1) (hb:n1<=1000):∀e:Int,0<=e->e<=(n1:Int)->∀i:Int,0<=i->i<=1000*e->∃n2,o.loop 37800 (eC j i n1 e)=some (.exit 0,gO j n2)/\0<=n2/\n2<=1000*n1:=by
 refine cM (P:=λe=>∀i:Int,0<=i->i<=1000*e->∃n2,o.loop 37800 (eC j i n1 e)=some (.exit 0,gO j n2)/\0<=n2/\n2<=1000*n1) (n1:Int) ?_;intro e I h1 J;try dsimp only at J |-
 intro i b0 b1;rcases bn ho e n1 with ⟨E,g1⟩|⟨E,g1⟩
 ·exact ⟨i,(ho.aB (by cbv;repeat (simp only[E];try cbv)):_=some (.exit 0,gO j i)),b0,by omega⟩
 obtain ⟨x,M,a3,O⟩:=aF hn I g1;obtain ⟨l1,rfl,hl,hc⟩:=hE _ O;have e2:=ay ho I M;obtain ⟨n2,e3,g3⟩:=aC ho l1;obtain ⟨n3,S⟩:=kx (o.ar .add .i64 i n2);try have g4:n3=i+n2:=S.symm.trans (dm ho (by omega) (by omega))
 have U:o.cmp .lss n3 0=false:=by first | assumption | exact P8 ho (by omega)
 have g5:=P_ ho U;obtain ⟨n4,V⟩:=kx (o.ar .add .i64 e 1);try have g6:n4=e+1:=V.symm.trans (dm ho (by omega) (by omega))
 obtain ⟨a1,w1,w2,w3⟩:=J (by omega) n3 (by omega) (by omega);rw[show e+1=n4 by omega]at w1;exact ⟨a1,(λz (hz:o.loop 37800 (eC j n3 n1 n4)=some z)=>ho.aB (by rw[<-hz];cbv;repeat (simp only[E,e2,e3,S,U,V];try cbv)):∀z,o.loop 37800 (eC j n3 n1 n4)=some z->o.loop 37800 (eC j i n1 e)=some z) _ w1,w2,w3⟩
theorem SA (e:Lq) (hE:∀x∈e,Sd x) (n1:Int) (M:(e.length:Int)=n1) (hb:n1<=1000):∀i:Int,0<=i->i<=(n1:Int)->∀y:Lq,(y.length:Int)<=1000*i->(∀z∈y,z.cells.length=4)->o.loop 37801 (iQ e n1 i y)=some (.exit 2,gP (y++sH (e.drop i.toNat))):=by
 refine cM (P:=λi=>∀y:Lq,(y.length:Int)<=1000*i->(∀z∈y,z.cells.length=4)->o.loop 37801 (iQ e n1 i y)=some (.exit 2,gP (y++sH (e.drop i.toNat)))) (n1:Int) ?_;intro i O h1 S;try dsimp only at S |-
 intro y hy hz;refine ho.fA λR Q=> ?_
 conv=>lhs;cbv
 rcases bn ho i n1 with ⟨U,g1⟩|⟨U,g1⟩<;>(conv=>lhs;rw[U];cbv)
 ·subst Q;rw[bL M (by omega)];simp only[sH,List.append_nil];rfl
 obtain ⟨x,V,a1,a3⟩:=aF M O g1;obtain ⟨l1,rfl,hl,hc⟩:=hE _ a3;have e2:=ay ho O V;conv=>lhs;rw[e2];cbv
 obtain ⟨l2,j,e3⟩:∃l2,y++l1=l2/\o.app y l1=l2:=⟨_,rfl,ho.app _ _⟩
 have E:∀z∈l2,z.cells.length=4:=by
  intro z I;rw[<-j]at I;rcases List.mem_append.1 I with h | h
  ·exact hz z h
  exact hc z h
 have J:(l2.length:Int)<=1000*(i+1):=by rw[<-j,List.length_append];omega
 have e4:o.fits 4 56 l2=true:=by exact cW ho (by omega) (by decide) E
 obtain ⟨n2,e5,g5⟩:=bk ho i 1;conv=>lhs;rw[e3];cbv;rw[e4];cbv;rw[e5];cbv
 subst Q;rw[a1,Ih,<-List.append_assoc,j];rw[show n2=i+1 by omega];exact S (by omega) l2 J E
theorem Q6 (e:Lq) (hE:∀x∈e,Sd x) (n1:Int) (M:(e.length:Int)=n1) (hb:n1<=1000):∀i:Int,0<=i->i<=(n1:Int)->∀y:Lq,(y.length:Int)<=1000*i->(∀z∈y,z.cells.length=4)->o.loop 37801 (ij e n1 i y)=some (.exit 2,gu (y++sH (e.drop i.toNat))):=by
 refine cM (P:=λi=>∀y:Lq,(y.length:Int)<=1000*i->(∀z∈y,z.cells.length=4)->o.loop 37801 (ij e n1 i y)=some (.exit 2,gu (y++sH (e.drop i.toNat)))) (n1:Int) ?_;intro i O h1 S;try dsimp only at S |-
 intro y hy hz;refine ho.fA λR Q=> ?_
 conv=>lhs;cbv
 rcases bn ho i n1 with ⟨U,g1⟩|⟨U,g1⟩<;>(conv=>lhs;rw[U];cbv)
 ·subst Q;rw[bL M (by omega)];simp only[sH,List.append_nil];rfl
 obtain ⟨x,V,a1,a3⟩:=aF M O g1;obtain ⟨l1,rfl,hl,hc⟩:=hE _ a3;have e2:=ay ho O V;conv=>lhs;rw[e2];cbv
 obtain ⟨l2,j,e3⟩:∃l2,y++l1=l2/\o.app y l1=l2:=⟨_,rfl,ho.app _ _⟩
 have E:∀z∈l2,z.cells.length=4:=by
  intro z I;rw[<-j]at I;rcases List.mem_append.1 I with h | h
  ·exact hz z h
  exact hc z h
 have J:(l2.length:Int)<=1000*(i+1):=by rw[<-j,List.length_append];omega
 have e4:o.fits 4 56 l2=true:=by exact cW ho (by omega) (by decide) E
 obtain ⟨n2,e5,g5⟩:=bk ho i 1;conv=>lhs;rw[e3];cbv;rw[e4];cbv;rw[e5];cbv
 subst Q;rw[a1,Ih,<-List.append_assoc,j];rw[show n2=i+1 by omega];exact S (by omega) l2 J E
theorem Ll (e:Lq) (j:∀x∈e,Sd x) (hb:(e.length:Int)<=1000):o.call 378 [Al e] []=Ar (Al (sH e)):=by
 refine ho.aL λR Q=> ?_
 obtain ⟨n1,E,g1⟩:=aC ho e;conv=>lhs;cbv;rw[E];cbv
 obtain ⟨n2,M,w2,w3⟩:=Sz ho e j n1 g1.symm (by omega) 0 (Int.le_refl _) (by omega) 0 (Int.le_refl _) (by omega);conv at M=>lhs;cbv
 conv=>lhs;rw[M];cbv
 rcases Q5 ho n2 w2 (by omega)with ⟨l1,I⟩ | I
 ·obtain ⟨l2,O,e5⟩:∃l2,l2=[]/\o.sub l1 0 0=some l2:=⟨_,rfl,by rw[iy ho (Int.le_refl _) (by omega) (by omega)];rfl⟩
  conv=>lhs;rw[I];cbv;rw[ho.isZero];cbv;rw[e5];cbv;(try (rw[E];cbv))
  obtain ⟨l3,hl3,S⟩:∃l3,sH e=l3/\o.loop 37801 (ij e n1 0 l2)=some (.exit 2,gu l3):=⟨_,rfl,by rw[O];exact Q6 ho e j n1 g1.symm (by omega) 0 (Int.le_refl _) (by omega) [] (by simp) (λz J=>by cases J)⟩
  conv at S=>lhs;cbv
  conv=>lhs;rw[S];cbv
  subst Q;rw[hl3];try rfl
 conv=>lhs;rw[I];cbv;(try (rw[E];cbv))
 obtain ⟨l1,U,V⟩:∃l1,sH e=l1/\o.loop 37801 (iQ e n1 0 [])=some (.exit 2,gP l1):=⟨_,rfl,SA ho e j n1 g1.symm (by omega) 0 (Int.le_refl _) (by omega) [] (by simp) (λz J=>by cases J)⟩
 conv at V=>lhs;cbv
 conv=>lhs;rw[V];cbv
 subst Q;rw[U];try rfl
theorem Lm (e:Lq) (O:∀x∈e,Rt o 8 x) (h1:1<=(e.length:Int)) (hb:(e.length:Int)<=1000):(nj e=none/\o.call 351 [Al e] []=Ar (.tup [At 0 0 ⟨#[]⟩ [],Ab false]))\/(∃l,nj e=some l/\(l.length:Int)<=1060/\(∀x∈l,Rt o 8 x)/\o.call 351 [Al e] []=Ar (.tup [At 5 0 ⟨#[]⟩ l,Ab true])):=by
 obtain ⟨n1,e1,g1⟩:=aC ho e;obtain ⟨n2,S⟩:=kx (o.ar .sub .i64 n1 1);try have g2:n2=n1-1:=S.symm.trans (gj ho (by omega) (by omega))
 obtain ⟨x,J,a6,a3⟩:=aF (xs:=e) rfl (show 0<=n2 by omega) (by omega);obtain ⟨m',n3,n4,s1,l1,a7,rfl,hs,ht⟩:=fE (O _ a3);have a5:=hU hs;have e3:o.cF e n2=some (.agg [.int .i64 n3,.int .i64 n4,.str s1,.lst l1]):=ay ho (by omega) J;have M:nj e=if n3=5 then some (e.take n2.toNat++l1)else none:=by
  unfold nj;rw[show (e.length:Int)-1=n2 by omega,J]
 rcases cD ho n3 5 with ⟨U,V⟩|⟨U,V⟩
 ·obtain ⟨n5,g5,e5⟩:∃n5,n5=n2-0/\o.minus n2 0=n5:=⟨_,rfl,by rw[ho.minus]⟩
  obtain ⟨l2,j,e6⟩:∃l2,l2=e.take n2.toNat/\o.sub e 0 n5=some l2:=⟨_,rfl,by rw[iy ho (Int.le_refl _) (by omega) (by omega)];rw[show n5=n2 by omega];rfl⟩
  have a1:(l2.length:Int)<=1000:=by rw[j,List.length_take];omega
  have a4:∀z∈l2,z.cells.length=4:=λz E=>fF (O z (by rw[j]at E;exact List.mem_of_mem_take E))
  obtain ⟨l3,hl3,e7⟩:∃l3,l2++l1=l3/\o.call 378 [Al [.lst l2,.lst l1]] []=Ar (Al l3):=⟨_,rfl,(Ll ho _ (λx I=>by
   rcases List.mem_cons.1 I with h | h
   ·exact ⟨l2,h,a1,a4⟩
   rcases List.mem_cons.1 h with h | h
   ·exact ⟨l1,h,by omega,λz E=>fF (ht z E)⟩
   cases h) (by simp)).trans (by simp only[sH,List.append_nil])⟩
  refine .inr ⟨l3,by rw[M,if_pos V,<-j,hl3],by rw[<-hl3,List.length_append];omega,λx I=> ?_,(ho.aj (by cbv;repeat (simp only[e1,S,e3,U,e5,e6,e7];try cbv)):_=Ar (.tup [At 5 0 ⟨#[]⟩ l3,Ab true]))⟩;rw[<-hl3]at I;rcases List.mem_append.1 I with h | h
  ·exact O x (by rw[j]at h;exact List.mem_of_mem_take h)
  exact Ak (by omega) (ht x h)
 exact .inl ⟨by rw[M,if_neg V],(ho.aj (by cbv;repeat (simp only[e1,S,e3,U];try cbv)):_=Ar (.tup [At 0 0 ⟨#[]⟩ [],Ab false]))⟩
end
def oe (a b:Int):Int:=if a<b then-1 else if b<a then 1 else 0
def zY (o:aM) (a b:By):Int:=if o.eZ .lss a b=true then-1 else if o.eZ .gtr a b=true then 1 else 0
def ja (f:D->D->Int):Lq->Lq->Int
 | [],[]=>0
 | [],_::_=> -1
 | _::_,[]=>1
 | x::xs,y::ys=>if f x y=0 then ja f xs ys else f x y
def gR (o:aM):Nat->D->D->Int
 | d+1,.agg [.int _ k,.int _ n,.str s,.lst l],.agg [.int _ k',.int _ n',.str s',.lst l']=>
  if k≠k' then oe k k' else if k=1 then oe n n' else if k=3 then oe n n' else if k=2 then zY o s s' else if k=4/\(l.length:Int)≠(l'.length:Int)then oe l.length l'.length
  else if k=4\/k=5 then ja (gR o d) l l' else 0
 | _,_,_=>0
theorem I4 {f:D->D->Int} {x y:D} {xs ys:Lq}:ja f (x::xs) (y::ys)=if f x y=0 then ja f xs ys else f x y:=rfl
theorem Pe {o:aM} {d:Nat} {k n:Int} {s:By} {l:Lq} {k' n':Int} {s':By} {l':Lq}:gR o (d+1) (.agg [.int .i64 k,.int .i64 n,.str s,.lst l]) (.agg [.int .i64 k',.int .i64 n',.str s',.lst l'])=
 if k≠k' then oe k k' else if k=1 then oe n n' else if k=3 then oe n n' else if k=2 then zY o s s' else if k=4/\(l.length:Int)≠(l'.length:Int)then oe l.length l'.length
 else if k=4\/k=5 then ja (gR o d) l l' else 0:=rfl
theorem xJ {o:aM} {a b:By}:zY o a b<0↔o.eZ .lss a b=true:=by unfold zY;split<;>(try split)<;>simp_all
theorem NP {o:aM} {k n:Int} {s:By} {l:Lq} (h:jw o k n s l=true):k=1\/k=2\/k=3\/k=4\/k=5:=by
 unfold jw at h;by_cases e:k=1; · exact .inl e
 by_cases k2:k=2; · exact .inr (.inl k2)
 by_cases j:k=3; · exact .inr (.inr (.inl j))
 by_cases E:k=4; · exact .inr (.inr (.inr (.inl E)))
 by_cases I:k=5; · exact .inr (.inr (.inr (.inr I)))
 rw[if_neg e,if_neg k2,if_neg j,if_neg E,if_neg I]at h;cases h
theorem BN {a b:Int}:oe a b=0↔a=b:=by unfold oe;split<;>(try split)<;>omega
theorem xK {a b:Int}:oe a b<0↔a<b:=by unfold oe;split<;>(try split)<;>omega
theorem I5 {f:D->D->Int}:∀{xs ys:Lq},(∀x∈xs,∀y∈ys,f x y=0↔x=y)->(ja f xs ys=0↔xs=ys)
 | [],[],_=>by simp[ja]
 | [],_::_,_=>by simp[ja]
 | _::_,[],_=>by simp[ja]
 | x::xs,y::ys,h=>by
  have j:=h x (by simp) y (by simp);have E:=I5 (f:=f) (xs:=xs) (ys:=ys) λa I b J=>h a (by simp[I]) b (by simp[J])
  simp only[ja,List.cons.injEq];split
  ·rename_i e;rw[E];simp[j.1 e]
  rename_i e;constructor
  ·intro g;exact absurd g e
  intro g;exact absurd (j.2 g.1) e
theorem Dd {f:D->D->Int} {ys:Lq}:ja f [] ys=if 0<(ys.length:Int)then-1 else 0:=by
 cases ys with
 | nil=>rfl
 | cons y ys=>simp only[ja,List.length_cons];rw[if_pos (by omega)]
section
variable {o:aM} (ho:aQ cu bw o)
include ho
omit ho in
theorem Aq:∀l:List UInt8,Op.bytesLess l l=false
 | []=>by simp[Op.bytesLess]
 | x::l=>by have:=Aq l;simp[Op.bytesLess,this]
theorem Pf {a b:By}:zY o a b=0↔a=b:=by
 unfold zY;have E:o.eZ .lss a b=Op.bytesLess a.toList b.toList:=ho.eZ _ _ _;have c2:o.eZ .gtr a b= !(Op.bytesLess a.toList b.toList || a.toList==b.toList):=ho.eZ _ _ _;rw[E,c2];by_cases h:Op.bytesLess a.toList b.toList=true
 ·rw[if_pos h];refine ⟨λh=>by omega,λe=> ?_⟩;subst e;rw[Aq]at h;cases h
 rw[if_neg h];rw[Bool.not_eq_true]at h;by_cases j:(a.toList==b.toList)=true
 ·rw[h,j,if_neg (by decide)];simp only[true_iff];exact Fb (by simpa using j)
 rw[Bool.not_eq_true]at j;rw[h,j,if_pos (by decide)];refine ⟨λh=>by omega,λe=> ?_⟩;subst e;simp at j
theorem FL (e:Int):o.call 382 [Ai e] []=Ar (Ab false):=by
 refine ho.aL λR Q=> ?_
 conv=>lhs;cbv
 rcases cD ho e e with ⟨j,g1⟩|⟨j,g1⟩<;>(conv=>lhs;rw[j];cbv)
 all_goals
  subst Q;first | exact absurd rfl g1 | rfl
theorem FM (e:By):o.call 404 [As e] []=Ar (Ab false):=by
 refine ho.aL λR Q=> ?_
 conv=>lhs;cbv
 rcases rE ho e e with ⟨j,g1⟩|⟨j,g1⟩<;>(conv=>lhs;rw[j];cbv)
 all_goals
  subst Q;first | exact absurd rfl g1 | rfl
theorem sO (e j:Int):o.call 379 [Ai e,Ai j] []=Ar (Ai (oe e j)):=by
 refine ho.aL λR Q=> ?_
 have J:o.call 382 [Ai e] []=Ar (Ab false):=FL ho e;have M:o.call 382 [Ai j] []=Ar (Ab false):=FL ho j;conv=>lhs;cbv;rw[J];cbv;rw[M];cbv
 rcases bn ho e j with ⟨E,g3⟩|⟨E,g3⟩<;>(conv=>lhs;rw[E];cbv)
 ·rcases fB ho e j with ⟨I,O⟩|⟨I,O⟩<;>(conv=>lhs;rw[I];cbv)
  all_goals
   subst Q;unfold oe;first | rw[if_pos (by omega)] | rw[if_neg (by omega),if_pos (by omega)] | rw[if_neg (by omega),if_neg (by omega)]
 subst Q;unfold oe;first | rw[if_pos (by omega)] | rw[if_neg (by omega),if_pos (by omega)] | rw[if_neg (by omega),if_neg (by omega)]
theorem I6 (e j:By):o.call 380 [As e,As j] []=Ar (Ai (zY o e j)):=by
 refine ho.aL λR Q=> ?_
 have E:o.call 404 [As e] []=Ar (Ab false):=FM ho e;have I:o.call 404 [As j] []=Ar (Ab false):=FM ho j;conv=>lhs;cbv;rw[E];cbv;rw[I];cbv
 cases J:o.eZ .lss e j<;>(conv=>lhs;cbv)
 ·cases M:o.eZ .gtr e j<;>(conv=>lhs;cbv)
  all_goals
   subst Q;unfold zY;simp[*]
 subst Q;unfold zY;simp[*]
def aN (e j:Lq) (n1 i:Int):St:=⟨E 39 [(0,Al e),(1,Al j),(2,.fn 352 []),(11,Al e),(12,Ai n1),(13,Ai i)],O 39 []⟩
def eK (e j:Lq):St:=⟨E 39 [(0,Al e),(1,Al j),(6,Ai 1)],O 39 []⟩
def eL (e j:Lq):St:=⟨E 39 [(0,Al e),(1,Al j)],O 39 []⟩
def eM (e j:Lq) (n7:Int):St:=⟨E 39 [(0,Al e),(1,Al j),(6,Ai n7)],O 39 []⟩
def cr (a0_0 a0_1:Int) (e:By) (j:Lq) (a1_0 a1_1:Int) (a1_2:By) (a1_3:Lq) (i:Int):St:=⟨E 104 [(2,.sp [.int .i64 a0_0,.int .i64 a0_1,.str e,.lst j] 0),(3,.sp [.int .i64 a1_0,.int .i64 a1_1,.str a1_2,.lst a1_3] 0),(5,Ai i)],O 104 []⟩
def h_ (a0_0 a0_1:Int) (e:By) (j:Lq) (a1_0 a1_1:Int) (a1_2:By) (a1_3:Lq):St:=⟨E 104 [(2,.sp [.int .i64 a0_0,.int .i64 a0_1,.str e,.lst j] 0),(3,.sp [.int .i64 a1_0,.int .i64 a1_1,.str a1_2,.lst a1_3] 0)],O 104 []⟩
def jG (a0_0 a0_1:Int) (e:By) (j:Lq) (a1_0 a1_1:Int) (a1_2:By) (a1_3:Lq) (I:Bool):St:=⟨E 104 [(2,.sp [.int .i64 a0_0,.int .i64 a0_1,.str e,.lst j] 0),(3,.sp [.int .i64 a1_0,.int .i64 a1_1,.str a1_2,.lst a1_3] 0),(4,Ab I)],O 104 []⟩
omit ho in
def Sg (o:aM) (d:Nat):Prop:=∀k n s l k' n' s' l' m,Tm d (.agg [.int .i64 k,.int .i64 n,.str s,.lst l])->Tm m (.agg [.int .i64 k',.int .i64 n',.str s',.lst l'])->o.call 352 [.agg [.d (.int .i64 k),.d (.int .i64 n),.d (.str s),.d (.lst l)],.agg [.d (.int .i64 k'),.d (.int .i64 n'),.d (.str s'),.d (.lst l')]] []=some ⟨.d (.int .i64 (gR o d (.agg [.int .i64 k,.int .i64 n,.str s,.lst l]) (.agg [.int .i64 k',.int .i64 n',.str s',.lst l']))),[],[]⟩
omit ho in
def SL (o:aM) (d:Nat):Prop:=∀k n s l k' n' s' l',Rt o d (.agg [.int .i64 k,.int .i64 n,.str s,.lst l])->Rt o d (.agg [.int .i64 k',.int .i64 n',.str s',.lst l'])->o.call 348 [.agg [.d (.int .i64 k),.d (.int .i64 n),.d (.str s),.d (.lst l)],.agg [.d (.int .i64 k'),.d (.int .i64 n'),.d (.str s'),.d (.lst l')]] []=some ⟨.d (.bool (decide (gR o d (.agg [.int .i64 k,.int .i64 n,.str s,.lst l]) (.agg [.int .i64 k',.int .i64 n',.str s',.lst l'])<0))),[],[]⟩
theorem Rv (d:Nat) (IH:Sg o d) (E j:Lq) {m2:Nat} (hT:∀x∈E,Tm d x) (a3:∀x∈j,Tm m2 x) (n1:Int) (hn:(E.length:Int)=n1) (n4:Int) (M:(j.length:Int)=n4) (hl:n1<=1048576) (aa:n4<=1048576):∀i:Int,0<=i->i<=(n1:Int)->i<=n4->(o.loop 38100 (aN E j n1 i)=some (.ret,eK E j)/\ja (gR o d) (E.drop i.toNat) (j.drop i.toNat)=1)\/(o.loop 38100 (aN E j n1 i)=some (.exit 0,eL E j)/\ja (gR o d) (E.drop i.toNat) (j.drop i.toNat)=if n1<n4 then-1 else 0)\/(o.loop 38100 (aN E j n1 i)=some (.ret,eM E j (ja (gR o d) (E.drop i.toNat) (j.drop i.toNat)))):=by
 refine cM (P:=λi=>i<=n4->(o.loop 38100 (aN E j n1 i)=some (.ret,eK E j)/\ja (gR o d) (E.drop i.toNat) (j.drop i.toNat)=1)\/(o.loop 38100 (aN E j n1 i)=some (.exit 0,eL E j)/\ja (gR o d) (E.drop i.toNat) (j.drop i.toNat)=if n1<n4 then-1 else 0)\/(o.loop 38100 (aN E j n1 i)=some (.ret,eM E j (ja (gR o d) (E.drop i.toNat) (j.drop i.toNat))))) (n1:Int) ?_;intro i h0 h1 ih;try dsimp only at ih |-
 intro h2;rcases bn ho i n1 with ⟨I,g1⟩|⟨I,g1⟩
 ·refine .inr (.inl ⟨(ho.aB (by cbv;repeat (simp only[I];try cbv)):_=some (.exit 0,eL E j)),?_⟩);rw[bL hn (by omega),Dd,List.length_drop];by_cases h:n1<n4
  · rw[if_pos h,if_pos (by omega)]
  rw[if_neg h,if_neg (by omega)]
 obtain ⟨x,a8,O,a4⟩:=aF hn h0 g1;obtain ⟨m',n2,n3,s1,l1,ac,rfl,hs,hl,ht⟩:=bH (hT _ a4);have S:=ay ho h0 a8;have U:o.len j=n4:=(jA ho _).trans M;rcases jc ho i n4 with ⟨J,g4⟩|⟨J,g4⟩
 ·obtain ⟨y,a9,a5,a6⟩:=aF M h0 g4;obtain ⟨m'',n5,n6,s2,l2,rfl,rfl,ae,ag,am⟩:=bH (a3 _ a6);have e5:=ay ho h0 a9;obtain ⟨n7,V⟩:∃v,gR o d (.agg [.int .i64 n2,.int .i64 n3,.str s1,.lst l1]) (.agg [.int .i64 n5,.int .i64 n6,.str s2,.lst l2])=v:=⟨_,rfl⟩
  have e6:o.call 352 [At n2 n3 s1 l1,At n5 n6 s2 l2] []=Ar (Ai n7):=(IH _ _ _ _ _ _ _ _ _ (hT _ a4) (a3 _ a6)).trans (by rw[V]);rcases cD ho n7 0 with ⟨e7,g7⟩|⟨e7,g7⟩
  ·obtain ⟨n8,e8⟩:=kx (o.ar .add .i64 i 1);try have g8:n8=i+1:=e8.symm.trans (dm ho (by omega) (by omega))
   have a7:=ih (by omega) (by omega);rw[O,a5];simp only[ja];rw[V,if_pos g7];rw[show i+1=n8 by omega]at a7 |-;rcases a7 with ⟨h,e⟩ | ⟨h,e⟩ | h
   ·exact .inl ⟨(λz (hz:o.loop 38100 (aN E j n1 n8)=some z)=>ho.aB (by rw[<-hz];cbv;repeat (simp only[I,S,U,J,e5,e6,e7,e8];try cbv)):∀z,o.loop 38100 (aN E j n1 n8)=some z->o.loop 38100 (aN E j n1 i)=some z) _ h,e⟩
   ·exact .inr (.inl ⟨(λz (hz:o.loop 38100 (aN E j n1 n8)=some z)=>ho.aB (by rw[<-hz];cbv;repeat (simp only[I,S,U,J,e5,e6,e7,e8];try cbv)):∀z,o.loop 38100 (aN E j n1 n8)=some z->o.loop 38100 (aN E j n1 i)=some z) _ h,e⟩)
   exact .inr (.inr ((λz (hz:o.loop 38100 (aN E j n1 n8)=some z)=>ho.aB (by rw[<-hz];cbv;repeat (simp only[I,S,U,J,e5,e6,e7,e8];try cbv)):∀z,o.loop 38100 (aN E j n1 n8)=some z->o.loop 38100 (aN E j n1 i)=some z) _ h))
  refine .inr (.inr ?_);rw[O,a5];simp only[ja];rw[V,if_neg g7];exact (ho.aB (by cbv;repeat (simp only[I,S,U,J,e5,e6,e7];try cbv)):o.loop 38100 (aN E j n1 i)=some (.ret,eM E j n7))
 refine .inl ⟨(ho.aB (by cbv;repeat (simp only[I,S,U,J];try cbv)):_=some (.ret,eK E j)),?_⟩;rw[O,bL M (by omega)];rfl
theorem Dg (d:Nat) (IH:Sg o d) (j E:Lq) {V:Nat} (hT:∀x∈j,Tm d x) (M:∀x∈E,Tm V x) (hl:(j.length:Int)<=1048576) (a3:(E.length:Int)<=1048576):o.call 381 [Al j,Al E,.fn 352 []] []=Ar (Ai (ja (gR o d) j E)):=by
 refine ho.aL λR Q=> ?_
 obtain ⟨n1,O,g1⟩:=aC ho j;conv=>lhs;cbv;rw[O];cbv
 have hl:=Rv ho d IH j E hT M n1 g1.symm _ rfl (by omega) (by omega) 0 (Int.le_refl _) (by omega) (by omega);rw[show (0:Int).toNat=0 from rfl,List.drop_zero,List.drop_zero]at hl;rcases hl with ⟨e,I⟩ | ⟨e,I⟩ | e
 ·conv at e=>lhs;cbv
  conv=>lhs;rw[e];cbv
  subst Q;rw[I]
 ·conv at e=>lhs;cbv
  obtain ⟨n2,S⟩:∃v:Int,o.len E=v:=⟨_,rfl⟩
  have g3:=S.symm.trans (jA ho _);conv=>lhs;rw[e];cbv;(try (rw[O];cbv));rw[S];cbv
  rcases bn ho n1 n2 with ⟨U,g4⟩|⟨U,g4⟩<;>(conv=>lhs;rw[U];cbv)
  ·subst Q;rw[I,if_neg (by omega)]
  subst Q;rw[I,if_pos (by omega)]
 obtain ⟨n2,J⟩:∃n2,n2=ja (gR o d) j E:=⟨_,rfl⟩
 rw[<-J]at e;conv at e=>lhs;cbv
 conv=>lhs;rw[e];cbv
 subst Q;rw[<-J];try rfl
theorem SM (d:Nat) (IH:Sg o d) {m:Nat} (a0_0 a0_1:Int) (j:By) (e:Lq) (a1_0 a1_1:Int) (a1_2:By) (a1_3:Lq) (J:Tm (d+1) (.agg [.int .i64 a0_0,.int .i64 a0_1,.str j,.lst e])) (E:Tm m (.agg [.int .i64 a1_0,.int .i64 a1_1,.str a1_2,.lst a1_3])):o.call 352 [At a0_0 a0_1 j e,At a1_0 a1_1 a1_2 a1_3] []=Ar (Ai (gR o (d+1) (.agg [.int .i64 a0_0,.int .i64 a0_1,.str j,.lst e]) (.agg [.int .i64 a1_0,.int .i64 a1_1,.str a1_2,.lst a1_3]))):=by
 obtain ⟨d',hd,hs,hl,J⟩:=ji J;obtain rfl:d=d':=by omega
 obtain ⟨m,rfl,hs2,a3,E⟩:=ji E;simp only[gR];refine ho.aL λR Q=> ?_
 conv=>lhs;cbv
 rcases cD ho a0_0 a1_0 with ⟨e1,g1⟩|⟨e1,g1⟩<;>(conv=>lhs;rw[e1];cbv)
 ·rcases av ho a0_0 1 with ⟨M,g2⟩|⟨M,g2⟩<;>(conv=>lhs;rw[M];cbv)
  ·rcases av ho a0_0 3 with ⟨O,g3⟩|⟨O,g3⟩<;>(conv=>lhs;rw[O];cbv)
   ·rcases av ho a0_0 2 with ⟨S,g4⟩|⟨S,g4⟩<;>(conv=>lhs;rw[S];cbv)
    ·rcases av ho a0_0 4 with ⟨U,g5⟩|⟨U,g5⟩<;>(conv=>lhs;rw[U];cbv)
     ·rcases av ho a0_0 5 with ⟨I,g6⟩|⟨I,g6⟩<;>(conv=>lhs;rw[I];cbv)
      ·subst Q;simp_all
      obtain ⟨n1,a0⟩:∃v,ja (gR o d) e a1_3=v:=⟨_,rfl⟩
      have V:o.call 381 [Al e,Al a1_3,.fn 352 []] []=Ar (Ai n1):=(Dg ho d IH _ _ J E (by omega) (by omega)).trans (by rw[a0]);conv=>lhs;rw[V];cbv
      subst Q;simp_all
     obtain ⟨n1,I,g6⟩:=aC ho e;obtain ⟨n2,V,g7⟩:=aC ho a1_3;conv=>lhs;rw[I];cbv;rw[V];cbv
     rcases cD ho n1 n2 with ⟨e8,g8⟩|⟨e8,g8⟩<;>(conv=>lhs;rw[e8];cbv)
     ·obtain ⟨n3,a1⟩:∃v,ja (gR o d) e a1_3=v:=⟨_,rfl⟩
      have e9:o.call 381 [Al e,Al a1_3,.fn 352 []] []=Ar (Ai n3):=(Dg ho d IH _ _ J E (by omega) (by omega)).trans (by rw[a1]);conv=>lhs;rw[e9];cbv
      subst Q;simp_all
     obtain ⟨n3,e9⟩:=kx (oe n1 n2);conv=>lhs;(try (rw[I];cbv));(try (rw[V];cbv));rw[sO ho,e9];cbv
     subst Q;simp_all
    obtain ⟨n1,U⟩:=kx (zY o j a1_2);conv=>lhs;rw[I6 ho,U];cbv
    subst Q;simp_all
   obtain ⟨n1,S⟩:=kx (oe a0_1 a1_1);conv=>lhs;rw[sO ho,S];cbv
   subst Q;simp_all
  obtain ⟨n1,O⟩:=kx (oe a0_1 a1_1);conv=>lhs;rw[sO ho,O];cbv
  subst Q;simp_all
 obtain ⟨n1,M⟩:=kx (oe a0_0 a1_0);conv=>lhs;rw[sO ho,M];cbv
 subst Q;simp_all
theorem Rw:∀d,Sg o d
 | 0=>λ_ _ _ _ _ _ _ _ _ h=>h.elim
 | d+1=>λk n s l k' n' s' l' m h e=>SM ho d (Rw d) k n s l k' n' s' l' h e
theorem En:∀d a b,Rt o d a->Rt o d b->(gR o d a b=0↔a=b)
 | 0,_,_,h,_=>h.elim
 | d+1,a,b,⟨k,n,s,l,ea,e,hl⟩,⟨k',n',s',l',eb,j,M⟩=>by
  subst ea eb;have O:=I5 (f:=gR o d) (xs:=l) (ys:=l') λx V y hy=>En d x y (hl x V) (M y hy)
  simp only[D.agg.injEq,List.cons.injEq,D.int.injEq,D.str.injEq,D.lst.injEq,true_and,and_true,gR];by_cases hk:k=k'
  ·subst hk;have E:∀q:Lq,(q.length:Int)=0->q=[]:=λq h=>List.length_eq_zero_iff.1 (by omega)
   simp only[jw]at e j;by_cases I:k=1
   ·subst I;simp only[if_true,af,decide_eq_true_eq]at e j;rw[if_neg (by simp),if_pos rfl,BN,e.1.2,j.1.2,E l e.2,E l' j.2];simp
   by_cases J:k=3
   ·subst J;simp only[show¬(3:Int)=1 by decide,show¬(3:Int)=2 by decide,if_true,if_false,af,decide_eq_true_eq]at e j;rw[if_neg (by simp),if_neg (by decide),if_pos rfl,BN,e.1.2,j.1.2,E l e.2,E l' j.2];simp
   by_cases k2:k=2
   ·subst k2;simp only[show¬(2:Int)=1 by decide,if_true,if_false,af,decide_eq_true_eq]at e j;rw[if_neg (by simp),if_neg (by decide),if_neg (by decide),if_pos rfl,Pf ho,e.1.2,j.1.2,E l e.2,E l' j.2];simp
   rw[if_neg I,if_neg k2,if_neg J]at e j;by_cases S:k=4
   ·subst S;simp only[if_true,af,decide_eq_true_eq]at e j;rw[if_neg (by simp),if_neg I,if_neg J,if_neg k2,e.1.1,j.1.1,e.1.2,j.1.2];by_cases hh:(l.length:Int)=(l'.length:Int)
    ·rw[if_neg (by simp[hh]),if_pos (.inl rfl),O];simp
    rw[if_pos ⟨rfl,hh⟩,BN];refine ⟨λh=>absurd h hh,λh=> ?_⟩;rw[h.2.2.2]
   rw[if_neg S]at e j;by_cases U:k=5
   ·subst U;simp only[if_true,af,decide_eq_true_eq]at e j;rw[if_neg (by simp),if_neg I,if_neg J,if_neg k2,if_neg (by simp),if_pos (.inr rfl),O,e.1.1,j.1.1,e.1.2,j.1.2];simp
   rw[if_neg U]at e;cases e
  rw[if_pos hk,BN];simp[hk]
theorem LW {d:Nat} (a0_0 a0_1:Int) (e:By) (j:Lq) (a1_0 a1_1:Int) (a1_2:By) (a1_3:Lq) (M:Rt o d (.agg [.int .i64 a0_0,.int .i64 a0_1,.str e,.lst j])) (E:Rt o d (.agg [.int .i64 a1_0,.int .i64 a1_1,.str a1_2,.lst a1_3])):o.call 291 [.agg [.d (.int .i64 a0_0),.d (.int .i64 a0_1),.d (.str e),.d (.lst j)],.agg [.d (.int .i64 a1_0),.d (.int .i64 a1_1),.d (.str a1_2),.d (.lst a1_3)]] []=some ⟨.d (.bool (decide (gR o d (.agg [.int .i64 a0_0,.int .i64 a0_1,.str e,.lst j]) (.agg [.int .i64 a1_0,.int .i64 a1_1,.str a1_2,.lst a1_3])<0))),[],[]⟩:=by
 refine ho.aL λR Q=> ?_
 obtain ⟨n1,I⟩:∃v,gR o d (.agg [.int .i64 a0_0,.int .i64 a0_1,.str e,.lst j]) (.agg [.int .i64 a1_0,.int .i64 a1_1,.str a1_2,.lst a1_3])=v:=⟨_,rfl⟩
 have O:o.call 352 [.agg [.d (.int .i64 a0_0),.d (.int .i64 a0_1),.d (.str e),.d (.lst j)],.agg [.d (.int .i64 a1_0),.d (.int .i64 a1_1),.d (.str a1_2),.d (.lst a1_3)]] []=some ⟨.d (.int .i64 n1),[],[]⟩:=(Rw ho _ _ _ _ _ _ _ _ _ _ (fO M) (fO E)).trans (by rw[I]);conv=>lhs;cbv;rw[O];cbv
 rcases bn ho n1 0 with ⟨J,g2⟩|⟨J,g2⟩<;>(conv=>lhs;rw[J];cbv)
 all_goals
  subst Q;congr 3;congr 1;first | exact (decide_eq_false (by omega)).symm | exact (decide_eq_true (by omega)).symm
theorem Pg (d:Nat) (IH:SL o d) (a0_0 a0_1:Int) (E:By) (j:Lq) (a1_0 a1_1:Int) (a1_2:By) (a1_3:Lq) (U:∀x∈j,Rt o d x) (I:∀x∈a1_3,Rt o d x) (n1:Int) (hn:(j.length:Int)=n1) (n2:Int) (a0:(a1_3.length:Int)=n2) (hl:n1<=1048576) (a8:n2<=1048576):∀i:Int,0<=i->i<=(n1:Int)->i<=n2->(o.loop 34800 (cr a0_0 a0_1 E j a1_0 a1_1 a1_2 a1_3 i)=some (.exit 1,h_ a0_0 a0_1 E j a1_0 a1_1 a1_2 a1_3)/\decide (ja (gR o d) (j.drop i.toNat) (a1_3.drop i.toNat)<0)=decide (n1<n2))\/(o.loop 34800 (cr a0_0 a0_1 E j a1_0 a1_1 a1_2 a1_3 i)=some (.ret,jG a0_0 a0_1 E j a1_0 a1_1 a1_2 a1_3 (decide (ja (gR o d) (j.drop i.toNat) (a1_3.drop i.toNat)<0)))):=by
 refine cM (P:=λi=>i<=n2->(o.loop 34800 (cr a0_0 a0_1 E j a1_0 a1_1 a1_2 a1_3 i)=some (.exit 1,h_ a0_0 a0_1 E j a1_0 a1_1 a1_2 a1_3)/\decide (ja (gR o d) (j.drop i.toNat) (a1_3.drop i.toNat)<0)=decide (n1<n2))\/(o.loop 34800 (cr a0_0 a0_1 E j a1_0 a1_1 a1_2 a1_3 i)=some (.ret,jG a0_0 a0_1 E j a1_0 a1_1 a1_2 a1_3 (decide (ja (gR o d) (j.drop i.toNat) (a1_3.drop i.toNat)<0))))) (n1:Int) ?_;intro i h0 h1 ih;try dsimp only at ih |-
 intro h2;have e1:o.len j=n1:=(jA ho _).trans hn;rcases bn ho i n1 with ⟨V,g2⟩|⟨V,g2⟩
 ·refine .inl ⟨(ho.aB (by cbv;repeat (simp only[e1,V];try cbv)):_=some (.exit 1,h_ a0_0 a0_1 E j a1_0 a1_1 a1_2 a1_3)),?_⟩;rw[bL hn (by omega),Dd,List.length_drop];by_cases h:n1<n2
  · rw[if_pos (by omega)];simp[h]
  rw[if_neg (by omega)];simp[h]
 have e3:o.len a1_3=n2:=(jA ho _).trans a0;rcases bn ho i n2 with ⟨e4,g4⟩|⟨e4,g4⟩
 ·refine .inl ⟨(ho.aB (by cbv;repeat (simp only[e1,V,e3,e4];try cbv)):_=some (.exit 1,h_ a0_0 a0_1 E j a1_0 a1_1 a1_2 a1_3)),?_⟩;obtain ⟨x,_,O,_⟩:=aF hn h0 g2;rw[O,bL a0 (by omega)];exact (decide_eq_false (show¬(1:Int)<0 by decide)).trans (decide_eq_false (by omega)).symm
 obtain ⟨x,a5,O,J⟩:=aF hn h0 g2;obtain ⟨m',n3,n4,s1,l1,a9,rfl,hs,ht⟩:=fE (U _ J);have e5:=ay ho h0 a5;obtain ⟨y,a6,a1,M⟩:=aF a0 h0 g4;obtain ⟨m'',n5,n6,s2,l2,a7,rfl,aa,ac⟩:=fE (I _ M);have e6:=ay ho h0 a6;cases S:cE (.agg [.int .i64 n3,.int .i64 n4,.str s1,.lst l1]) (.agg [.int .i64 n5,.int .i64 n6,.str s2,.lst l2])
 ·have e7:o.call 347 [At n3 n4 s1 l1,At n5 n6 s2 l2] []=Ar (Ab false):=(BM ho _ _ _ _ _ _ _ _ _ _ (fO (U _ J)) (fO (I _ M))).trans (by rw[S]);obtain ⟨b4,a3⟩:∃b:Bool,decide (gR o d (.agg [.int .i64 n3,.int .i64 n4,.str s1,.lst l1]) (.agg [.int .i64 n5,.int .i64 n6,.str s2,.lst l2])<0)=b:=⟨_,rfl⟩
  have e8:o.call 348 [At n3 n4 s1 l1,At n5 n6 s2 l2] []=Ar (Ab b4):=(IH _ _ _ _ _ _ _ _ (U _ J) (I _ M)).trans (by rw[a3]);refine .inr ?_;rw[O,a1];rw[I4,if_neg λh=>mr S ((En ho d _ _ (U _ J) (I _ M)).1 h),a3];exact (ho.aB (by cbv;repeat (simp only[e1,V,e3,e4,e5,e6,e7,e8];try cbv)):o.loop 34800 (cr a0_0 a0_1 E j a1_0 a1_1 a1_2 a1_3 i)=some (.ret,jG a0_0 a0_1 E j a1_0 a1_1 a1_2 a1_3 b4))
 have e7:o.call 347 [At n3 n4 s1 l1,At n5 n6 s2 l2] []=Ar (Ab true):=(BM ho _ _ _ _ _ _ _ _ _ _ (fO (U _ J)) (fO (I _ M))).trans (by rw[S]);obtain ⟨n7,e8⟩:=kx (o.ar .add .i64 i 1);try have g8:n7=i+1:=e8.symm.trans (dm ho (by omega) (by omega))
 have a4:=ih (by omega) (by omega);rw[O,a1];rw[I4,if_pos ((En ho d _ _ (U _ J) (I _ M)).2 (n_ S))];rw[show i+1=n7 by omega]at a4 |-;rcases a4 with ⟨h,e⟩ | h
 ·exact .inl ⟨(λz (hz:o.loop 34800 (cr a0_0 a0_1 E j a1_0 a1_1 a1_2 a1_3 n7)=some z)=>ho.aB (by rw[<-hz];cbv;repeat (simp only[e1,V,e3,e4,e5,e6,e7,e8];try cbv)):∀z,o.loop 34800 (cr a0_0 a0_1 E j a1_0 a1_1 a1_2 a1_3 n7)=some z->o.loop 34800 (cr a0_0 a0_1 E j a1_0 a1_1 a1_2 a1_3 i)=some z) _ h,e⟩
 exact .inr ((λz (hz:o.loop 34800 (cr a0_0 a0_1 E j a1_0 a1_1 a1_2 a1_3 n7)=some z)=>ho.aB (by rw[<-hz];cbv;repeat (simp only[e1,V,e3,e4,e5,e6,e7,e8];try cbv)):∀z,o.loop 34800 (cr a0_0 a0_1 E j a1_0 a1_1 a1_2 a1_3 n7)=some z->o.loop 34800 (cr a0_0 a0_1 E j a1_0 a1_1 a1_2 a1_3 i)=some z) _ h)
theorem Rx (d:Nat) (IH:SL o d) (a0_0 a0_1:Int) (I:By) (e:Lq) (a1_0 a1_1:Int) (a1_2:By) (a1_3:Lq) (M:Rt o (d+1) (.agg [.int .i64 a0_0,.int .i64 a0_1,.str I,.lst e])) (j:Rt o (d+1) (.agg [.int .i64 a1_0,.int .i64 a1_1,.str a1_2,.lst a1_3])):o.call 348 [.agg [.d (.int .i64 a0_0),.d (.int .i64 a0_1),.d (.str I),.d (.lst e)],.agg [.d (.int .i64 a1_0),.d (.int .i64 a1_1),.d (.str a1_2),.d (.lst a1_3)]] []=some ⟨.d (.bool (decide (gR o (d+1) (.agg [.int .i64 a0_0,.int .i64 a0_1,.str I,.lst e]) (.agg [.int .i64 a1_0,.int .i64 a1_1,.str a1_2,.lst a1_3])<0))),[],[]⟩:=by
 obtain ⟨d',hd,hs,M⟩:=lI M;obtain rfl:d=d':=by omega
 obtain ⟨d'',a5,hs2,j⟩:=lI j;obtain rfl:d=d'':=by omega
 have l1:=hU hs;have l2:=hU hs2;rw[Pe];have hl:=Pg ho d IH a0_0 a0_1 I e a1_0 a1_1 a1_2 a1_3 M j _ rfl _ rfl (by omega) (by omega) 0 (Int.le_refl _) (by omega) (by omega);rw[show (0:Int).toNat=0 from rfl,List.drop_zero,List.drop_zero]at hl;refine ho.aL λR Q=> ?_
 conv=>lhs;cbv
 rcases cD ho a0_0 a1_0 with ⟨e1,g1⟩|⟨e1,g1⟩<;>(conv=>lhs;rw[e1];cbv)
 ·rcases av ho a0_0 1 with ⟨S,g2⟩|⟨S,g2⟩<;>(conv=>lhs;rw[S];cbv)
  ·rcases av ho a0_0 3 with ⟨U,g3⟩|⟨U,g3⟩<;>(conv=>lhs;rw[U];cbv)
   ·rcases av ho a0_0 2 with ⟨V,O⟩|⟨V,O⟩<;>(conv=>lhs;rw[V];cbv)
    ·rcases av ho a0_0 4 with ⟨e5,g5⟩|⟨e5,g5⟩<;>(conv=>lhs;rw[e5];cbv)
     ·rcases hl with ⟨J,h1⟩ | J
      ·conv at J=>lhs;cbv
       obtain ⟨n1,e7,g7⟩:=aC ho e;obtain ⟨n2,e8,g8⟩:=aC ho a1_3;conv=>lhs;rw[J];cbv;rw[e7];cbv;rw[e8];cbv
       rcases bn ho n1 n2 with ⟨E,g9⟩|⟨E,g9⟩<;>(conv=>lhs;rw[E];cbv)
       all_goals
        subst Q;have k5:a0_0=5:=by have:=NP hs;omega
        rw[if_neg (by omega),if_neg g2,if_neg g3,if_neg O,if_neg (by omega),if_pos (.inr k5)];rw[h1];first | exact congrArg (λb=>some (cn.mk (.d (.bool b)) [] [])) (decide_eq_false (by omega)).symm | exact congrArg (λb=>some (cn.mk (.d (.bool b)) [] [])) (decide_eq_true (by omega)).symm
      obtain ⟨b6,a0⟩:∃b,decide (ja (gR o d) e a1_3<0)=b:=⟨_,rfl⟩
      rw[a0]at J;conv at J=>lhs;cbv
      conv=>lhs;rw[J];cbv
      subst Q;have k5:a0_0=5:=by have:=NP hs;omega
      rw[if_neg (by omega),if_neg g2,if_neg g3,if_neg O,if_neg (by omega),if_pos (.inr k5)];first | rw[a0] | rw[a1]
     obtain ⟨n1,J,g6⟩:=aC ho e;obtain ⟨n2,e7,g7⟩:=aC ho a1_3;conv=>lhs;rw[J];cbv;rw[e7];cbv
     rcases cD ho n1 n2 with ⟨e8,g8⟩|⟨e8,g8⟩<;>(conv=>lhs;rw[e8];cbv)
     ·rcases hl with ⟨E,h1⟩ | E
      ·conv at E=>lhs;cbv
       conv=>lhs;rw[E];cbv;(try (rw[J];cbv));(try (rw[e7];cbv))
       rcases bn ho n1 n2 with ⟨a3,a4⟩|⟨a3,a4⟩<;>(conv=>lhs;rw[a3];cbv)
       all_goals
        subst Q;rw[if_neg (by omega),if_neg g2,if_neg g3,if_neg O,if_neg (by omega),if_pos (.inl g5)];rw[h1];first | exact congrArg (λb=>some (cn.mk (.d (.bool b)) [] [])) (decide_eq_false (by omega)).symm | exact congrArg (λb=>some (cn.mk (.d (.bool b)) [] [])) (decide_eq_true (by omega)).symm
      obtain ⟨b7,a1⟩:∃b,decide (ja (gR o d) e a1_3<0)=b:=⟨_,rfl⟩
      rw[a1]at E;conv at E=>lhs;cbv
      conv=>lhs;rw[E];cbv
      subst Q;rw[if_neg (by omega),if_neg g2,if_neg g3,if_neg O,if_neg (by omega),if_pos (.inl g5)];first | rw[a0] | rw[a1]
     conv=>lhs;(try (rw[J];cbv));(try (rw[e7];cbv))
     rcases bn ho n1 n2 with ⟨E,g9⟩|⟨E,g9⟩<;>(conv=>lhs;rw[E];cbv)
     all_goals
      subst Q;clear IH M j;simp_all [xK,xJ]
    cases e5:o.eZ .lss I a1_2<;>(conv=>lhs;cbv)
    all_goals
     subst Q;clear IH M j;simp_all [xK,xJ]
   rcases bn ho a0_1 a1_1 with ⟨V,O⟩|⟨V,O⟩<;>(conv=>lhs;rw[V];cbv)
   all_goals
    subst Q;clear IH M j;simp_all [xK,xJ]
  rcases bn ho a0_1 a1_1 with ⟨U,g3⟩|⟨U,g3⟩<;>(conv=>lhs;rw[U];cbv)
  all_goals
   subst Q;clear IH M j;simp_all [xK,xJ]
 rcases bn ho a0_0 a1_0 with ⟨S,g2⟩|⟨S,g2⟩<;>(conv=>lhs;rw[S];cbv)
 all_goals
  subst Q;clear IH M j;simp_all [xK,xJ]
theorem NQ:∀d,SL o d
 | 0=>λ_ _ _ _ _ _ _ _ h=>h.elim
 | d+1=>λk n s l k' n' s' l' h e=>Rx ho d (NQ d) k n s l k' n' s' l' h e
end
end T2
