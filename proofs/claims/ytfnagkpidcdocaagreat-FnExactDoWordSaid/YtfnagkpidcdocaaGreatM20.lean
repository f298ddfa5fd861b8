import Derived.Test.YtfnagkpidcdocaaGreatM19
set_option linter.all false
namespace T2
open Go Go.Vi
set_option maxRecDepth 100000
set_option maxHeartbeats 4000000
def Sl (o:aM) (x:D):Prop:=x=nB\/Rt o 8 x
theorem GL {o:aM} {x:D} (h:Sl o x):∃k n s l,x= .agg [.int .i64 k,.int .i64 n,.str s,.lst l]:=by
 rcases h with rfl | h
 ·exact ⟨_,_,_,_,rfl⟩
 obtain ⟨_,k,n,s,l,_,e,_⟩:=fE h;exact ⟨k,n,s,l,e⟩
theorem Q_ {o:aM} {x:D} (h:Sl o x):x.cells.length=4:=by obtain ⟨_,_,_,_,rfl⟩:=GL h;rfl
def bf (f:D->D->Lq->Bool×Lq):Lq->Lq->Lq->Bool×Lq
 | p::ps,t::ts,S=>if (f p t S).1 then bf f ps ts (f p t S).2 else (false,(f p t S).2)
 | _,_,S=>(true,S)
theorem nY {f:D->D->Lq->Bool×Lq} {p t:D} {ps ts S:Lq}:bf f (p::ps) (t::ts) S=if (f p t S).1 then bf f ps ts (f p t S).2 else (false,(f p t S).2):=rfl
theorem sJ {f:D->D->Lq->Bool×Lq} {ts S:Lq}:bf f [] ts S=(true,S):=by cases ts<;>rfl
theorem wW {f:D->D->Lq->Bool×Lq}:∀(ps ts S:Lq) (m:Nat),ps.length<=m->bf f ps (ts.take m) S=bf f ps ts S
 | [],ts,S,m,_=>by rw[sJ,sJ]
 | p::ps,[],S,m,_=>by rw[List.take_nil]
 | p::ps,t::ts,S,m+1,h=>by rw[List.take_succ_cons,nY,nY,wW ps ts _ m (by simp only[List.length_cons]at h;omega)]
 | p::ps,t::ts,S,0,h=>by simp at h
def q_ (l:Lq) (m:Int):D:= .agg [.int .i64 5,.int .i64 0,.str ⟨#[]⟩,.lst (l.drop m.toNat)]
def aH:Nat->D->D->Lq->Bool×Lq
 | d+1,.agg [.int _ k,.int _ n,.str s,.lst ps],.agg [.int _ tk,.int _ tn,.str ts,.lst tl],S=>
  if k=1 then (if tk=1 then (decide (tn=n),S)else (false,S))
  else if k=2 then (if tk=2 then (decide (ts=s),S)else (false,S))
  else if k=3 then (true,if 0<=n then S.set n.toNat (.agg [.int .i64 tk,.int .i64 tn,.str ts,.lst tl])else S)
  else if k=4 then (if tk=4 then if (tl.length:Int)=ps.length then bf (aH d) ps tl S else (false,S)else (false,S))
  else if k=5 then (if tk=5 then if (tl.length:Int)=ps.length then bf (aH d) ps tl S else (false,S)else (false,S))
  else if tk≠5 then (false,S)else if (tl.length:Int)<ps.length-1 then (false,S)
  else match ps[((ps.length:Int)-1).toNat]? with
   | none=>(false,S)
   | some p=>if (bf (aH d) (ps.take ((ps.length:Int)-1).toNat) tl S).1 then aH d p (q_ tl ((ps.length:Int)-1)) (bf (aH d) (ps.take ((ps.length:Int)-1).toNat) tl S).2
    else (false,(bf (aH d) (ps.take ((ps.length:Int)-1).toNat) tl S).2)
 | _,_,_,S=>(false,S)
theorem bP {d:Nat} {k n tk tn:Int} {s ts:By} {ps tl S:Lq}:aH (d+1) (.agg [.int .i64 k,.int .i64 n,.str s,.lst ps]) (.agg [.int .i64 tk,.int .i64 tn,.str ts,.lst tl]) S=
 if k=1 then (if tk=1 then (decide (tn=n),S)else (false,S))
 else if k=2 then (if tk=2 then (decide (ts=s),S)else (false,S))
 else if k=3 then (true,if 0<=n then S.set n.toNat (.agg [.int .i64 tk,.int .i64 tn,.str ts,.lst tl])else S)
 else if k=4 then (if tk=4 then if (tl.length:Int)=ps.length then bf (aH d) ps tl S else (false,S)else (false,S))
 else if k=5 then (if tk=5 then if (tl.length:Int)=ps.length then bf (aH d) ps tl S else (false,S)else (false,S))
 else if tk≠5 then (false,S)else if (tl.length:Int)<ps.length-1 then (false,S)
 else match ps[((ps.length:Int)-1).toNat]? with
  | none=>(false,S)
  | some p=>if (bf (aH d) (ps.take ((ps.length:Int)-1).toNat) tl S).1 then aH d p (q_ tl ((ps.length:Int)-1)) (bf (aH d) (ps.take ((ps.length:Int)-1).toNat) tl S).2
   else (false,(bf (aH d) (ps.take ((ps.length:Int)-1).toNat) tl S).2):=rfl
theorem Bo {o:aM} {k n:Int} {s:By} {l:Lq} {m:Nat} {i:Int} (h:jw o k n s l=true) (hk:k=5) (hl:∀x∈l,Rt o m x) (e:m+1<=8):Rt o 8 (q_ l i):=by
 refine Ak e ⟨_,_,_,_,rfl,?_,λx j=>hl x (List.mem_of_mem_drop j)⟩;have:=hU h;unfold jw;rw[if_neg (by omega),if_neg (by omega),if_neg (by omega),if_neg (by omega),if_pos rfl];subst hk;unfold jw at h;rw[if_neg (by omega),if_neg (by omega),if_neg (by omega),if_neg (by omega),if_pos rfl]at h;simp only[af,decide_eq_true_eq]at h |-;refine ⟨⟨trivial,trivial⟩,by rw[List.length_drop];omega⟩
def Ra (o:aM) (S:Lq) (r:Bool×Lq):Prop:=r.2.length=S.length/\∀x∈r.2,Sl o x
theorem v8 {o:aM} {f:D->D->Lq->Bool×Lq} (hf:∀p t S,Rt o 8 t->(∀x∈S,Sl o x)->Ra o S (f p t S)):∀(ps ts S:Lq),(∀t∈ts,Rt o 8 t)->(∀x∈S,Sl o x)->Ra o S (bf f ps ts S)
 | [],ts,S,_,e=>by rw[sJ];exact ⟨rfl,e⟩
 | p::ps,[],S,_,e=>⟨rfl,e⟩
 | p::ps,t::ts,S,E,e=>by
  have j:=hf p t S (E t (by simp)) e;rw[nY];split
  ·have I:=v8 hf ps ts (f p t S).2 (λx J=>E x (by simp[J])) j.2;exact ⟨I.1.trans j.1,I.2⟩
  exact j
theorem mq {o:aM}:∀(d:Nat) (p t:D) (S:Lq),Rt o 8 t->(∀x∈S,Sl o x)->Ra o S (aH d p t S)
 | 0,p,t,S,_,e=>by unfold aH;exact ⟨rfl,e⟩
 | d+1,p,t,S,M,e=>by
  have triv:∀b:Bool,Ra o S (b,S):=λb=>⟨rfl,e⟩
  unfold aH;split
  ·rename_i k1 k k2 n s ps k3 tk k4 tn ts tl E;obtain ⟨m',k',n',s',l',hm,j,hs,O⟩:=fE M;injection j with j;simp only[List.cons.injEq,D.int.injEq,D.str.injEq,D.lst.injEq,and_true]at j;obtain ⟨⟨rfl,rfl⟩,⟨rfl,rfl⟩,rfl,rfl⟩:=j;injection E with E;subst E;have U:∀t∈tl,Rt o 8 t:=λt h=>Ak (by omega) (O t h)
   have I:=λps S (e:∀x∈S,Sl o x)=>v8 (mq d) ps tl S U e
   split; · split<;>exact triv _
   split; · split<;>exact triv _
   split
   ·split
    ·refine ⟨List.length_set,λx hx=> ?_⟩;rcases List.mem_or_eq_of_mem_set hx with h | h
     ·exact e x h
     rw[h];exact .inr M
    exact triv _
   split
   ·split
    ·split
     ·exact I _ _ e
     exact triv _
    exact triv _
   split
   ·split
    ·split
     ·exact I _ _ e
     exact triv _
    exact triv _
   split; · exact triv _
   rename_i h5;split; · exact triv _
   split
   ·exact triv _
   rename_i pp a0;have J:=I (ps.take ((ps.length:Int)-1).toNat) _ e;split
   ·have V:=mq d pp (q_ tl ((ps.length:Int)-1)) _ (Bo hs (Decidable.not_not.1 h5) O (by omega)) J.2;exact ⟨V.1.trans J.1,V.2⟩
   exact J
  exact triv _
theorem eO {xs:Lq} {i:Nat} {x:D} (h:xs[i]? =some x):xs.set i x=xs:=by
 obtain ⟨e,j⟩:=ax.1 h;rw[<-j];exact List.set_getElem_self e
theorem cq {xs:Lq} {i:Nat} {x:D} (h:i<xs.length):(xs.set i x)[i]? =some x:=by rw[List.getElem?_set_self h]
theorem Il {o:aM} {sl:Int} {d:Nat} {k n:Int} {s:By} {l:Lq} (h:dM o sl (d+1) (.agg [.int .i64 k,.int .i64 n,.str s,.lst l])<=300):iD o k n s l.length sl=true/\∀x∈l,dM o sl d x<=300:=by
 rw[FO]at h;split at h
 ·rename_i e;split at h
  ·refine ⟨e,λx j=> ?_⟩;have:=qw (f:=dM o sl d) (λx=>(jm o sl d x).1) j;omega
  omega
 omega
theorem Im {o:aM} {k n:Int} {s:By} {c sl:Int} (h:iD o k n s c sl=true):(k=3->n<=sl-1)/\(k≠1->k≠2->k≠3->k≠4->k≠5->2<=c)/\(k=4\/k=5\/k=6->c<=20):=by
 unfold iD at h;split at h
 ·simp only[af]at h;have:=cL h.2;exact ⟨λ_=>this.2,by omega,by omega⟩
 unfold mZ at h;split at h; · exact ⟨by omega,by omega,by omega⟩
 split at h; · exact ⟨by omega,by omega,by omega⟩
 split at h; · simp only[af,decide_eq_true_eq]at h;exact ⟨by omega,by omega,by omega⟩
 split at h; · simp only[af,decide_eq_true_eq]at h;exact ⟨by omega,by omega,by omega⟩
 split at h; · simp only[af]at h;have:=cL h.2;exact ⟨by omega,by omega,by omega⟩
 cases h
section
variable {o:aM} (ho:aQ cu bw o)
include ho
theorem rF {xs:Lq} (h:∀x∈xs,Sl o x):o.flat xs=true:=by
 rw[ho.flat,List.all_eq_true];intro x e;obtain ⟨k,n,s,l,rfl⟩:=GL (h x e);rfl
theorem Lo (l:Lq) (j:(l.length:Int)<=1048576) (hc:∀x∈l,x.cells.length=4):o.call 289 [Al l] []=some ⟨.arr (0,0) (31,4) none false,[],[Os l]⟩:=by
 refine ho.aL λR Q=> ?_
 have e:o.fits 4 56 l=true:=by exact cW ho (by omega) (by decide) hc
 conv=>lhs;cbv;rw[e];cbv
 subst Q;rfl
theorem Lp (l:Lq) (j:(l.length:Int)<=1048576) (hc:∀x∈l,x.cells.length=4):o.call 289 [.arr (1,0) (31,4) none false] [Os l]=some ⟨.arr (0,0) (31,4) none false,[Os l],[Os l]⟩:=by
 refine ho.aL λR Q=> ?_
 have e:o.fits 4 56 l=true:=by exact cW ho (by omega) (by decide) hc
 conv=>lhs;cbv;rw[e];cbv
 subst Q;rfl
theorem Lr (l:Lq) (a n:Int) (l1:Lq) (hl:o.sub l a n=some l1) (E:(l1.length:Int)<=1048576) (hc:∀x∈l1,x.cells.length=4):o.call 289 [.arr (1,0) (31,4) (some (a,n)) false] [Os l]=some ⟨.arr (0,0) (31,4) none false,[Os l],[Os l1]⟩:=by
 refine ho.aL λR Q=> ?_
 have e:o.sub l a n=some l1:=hl;have j:o.fits 4 56 l1=true:=by exact cW ho (by omega) (by decide) hc
 conv=>lhs;cbv;rw[e];cbv;rw[j];cbv
 subst Q;rfl
def dU (i:Int) (t p:Lq) (n1 e:Int) (y:Lq):St:=⟨E 25 [(0,.prow (25,0) (192,3) i 0),(2,Al t),(9,Al p),(10,Ai n1),(11,Ai e)],O 26 [(25,[Oo y])]⟩
def gy (y:Lq):St:=⟨E 25 [],O 26 [(25,[Oo y])]⟩
def gA (l3:Lq):St:=⟨E 25 [(6,Ab false)],O 26 [(25,[Oo l3])]⟩
def iC (p t:Lq) (i:Int) (y:Lq):St:=⟨E 25 [(0,Al p),(1,Al t),(2,.arr (25,0) (31,4) none false),(7,Ai i)],O 26 [(25,[Os y])]⟩
def kq (y:Lq):St:=⟨E 25 [],O 26 [(25,[Os y])]⟩
def kr (l3:Lq):St:=⟨E 25 [(6,Ab false)],O 26 [(25,[Os l3])]⟩
omit ho in
def BD (o:aM) (sl:Int) (d:Nat):Prop:=∀m e j E I,Tm m (.agg [.int .i64 e,.int .i64 j,.str E,.lst I])->dM o sl d (.agg [.int .i64 e,.int .i64 j,.str E,.lst I])<=300->∀J M O U,Rt o 8 (.agg [.int .i64 J,.int .i64 M,.str O,.lst U])->∀(fs:Lq) (i F pc:Int) (S:Lq),0<=i->fs[i.toNat]? =some (.agg [.int .i64 F,.int .i64 pc,.own (31,4) S])->(S.length:Int)=sl->(∀x∈S,Sl o x)->o.call 293 [.prow (1,0) (192,3) i 0,.agg [.d (.int .i64 e),.d (.int .i64 j),.d (.str E),.d (.lst I)],.agg [.d (.int .i64 J),.d (.int .i64 M),.d (.str O),.d (.lst U)]] [some (.orows (192,3) fs)]=some ⟨.d (.bool (aH d (.agg [.int .i64 e,.int .i64 j,.str E,.lst I]) (.agg [.int .i64 J,.int .i64 M,.str O,.lst U]) S).1),[some (.orows (192,3) (fs.set i.toNat (.agg [.int .i64 F,.int .i64 pc,.own (31,4) (aH d (.agg [.int .i64 e,.int .i64 j,.str E,.lst I]) (.agg [.int .i64 J,.int .i64 M,.str O,.lst U]) S).2])))],[]⟩
omit ho in
def MD (o:aM) (sl:Int) (d:Nat):Prop:=∀m e j E I,Tm m (.agg [.int .i64 e,.int .i64 j,.str E,.lst I])->dM o sl d (.agg [.int .i64 e,.int .i64 j,.str E,.lst I])<=300->∀J M O U,Rt o 8 (.agg [.int .i64 J,.int .i64 M,.str O,.lst U])->∀S:Lq,(S.length:Int)=sl->(∀x∈S,Sl o x)->o.call 188 [.agg [.d (.int .i64 e),.d (.int .i64 j),.d (.str E),.d (.lst I)],.agg [.d (.int .i64 J),.d (.int .i64 M),.d (.str O),.d (.lst U)],.arr (1,0) (31,4) none false] [some (.rows (31,4) S)]=some ⟨.d (.bool (aH d (.agg [.int .i64 e,.int .i64 j,.str E,.lst I]) (.agg [.int .i64 J,.int .i64 M,.str O,.lst U]) S).1),[some (.rows (31,4) (aH d (.agg [.int .i64 e,.int .i64 j,.str E,.lst I]) (.agg [.int .i64 J,.int .i64 M,.str O,.lst U]) S).2)],[]⟩
theorem Rb (sl:Int) (d:Nat) (IH:BD o sl d) (p t:Lq) {m:Nat} (hP:∀x∈p,Tm m x) (hM:∀x∈p,dM o sl d x<=300) (hT:∀x∈t,Rt o 8 x) (a4:(p.length:Int)<=t.length) (j:(p.length:Int)<=1048576) (i:Int) (hi:0<=i) (n1:Int) (hn:(p.length:Int)=n1):∀e:Int,0<=e->e<=(n1:Int)->∀(y:Lq) (F pc:Int) (S:Lq),y[i.toNat]? =some (.agg [.int .i64 F,.int .i64 pc,.own (31,4) S])->(S.length:Int)=sl->(∀x∈S,Sl o x)->∃z,z=y.set i.toNat (.agg [.int .i64 F,.int .i64 pc,.own (31,4) (bf (aH d) (p.drop e.toNat) (t.drop e.toNat) S).2])/\o.loop 35400 (dU i t p n1 e y)=some (if (bf (aH d) (p.drop e.toNat) (t.drop e.toNat) S).1 then (.exit 0,gy z)else (.ret,gA z)):=by
 refine cM (P:=λe=>∀(y:Lq) (F pc:Int) (S:Lq),y[i.toNat]? =some (.agg [.int .i64 F,.int .i64 pc,.own (31,4) S])->(S.length:Int)=sl->(∀x∈S,Sl o x)->∃z,z=y.set i.toNat (.agg [.int .i64 F,.int .i64 pc,.own (31,4) (bf (aH d) (p.drop e.toNat) (t.drop e.toNat) S).2])/\o.loop 35400 (dU i t p n1 e y)=some (if (bf (aH d) (p.drop e.toNat) (t.drop e.toNat) S).1 then (.exit 0,gy z)else (.ret,gA z))) (n1:Int) ?_;intro e J h1 ih;try dsimp only at ih |-
 intro y F pc S hy hS hSl;rcases bn ho e n1 with ⟨M,g1⟩|⟨M,g1⟩
 ·rw[bL hn (by omega),sJ];exact ⟨y,(eO hy).symm,(ho.aB (by cbv;repeat (simp only[M];try cbv)):_=some (.exit 0,gy y))⟩
 obtain ⟨x,a0,O,E⟩:=aF hn J g1;obtain ⟨m1,n2,n3,s1,l1,a5,rfl,hs,hl,ht⟩:=bH (hP _ E);have e2:=ay ho J a0;obtain ⟨y1,a1,U,I⟩:=aF (xs:=t) rfl J (by omega);obtain ⟨m2,n4,n5,s2,l2,a6,rfl,hs2,a7⟩:=fE (hT _ I);have e3:=ay ho J a1;have hc:=IH _ _ _ _ _ (hP _ E) (hM _ E) _ _ _ _ (hT _ I) y i F pc S hi hy hS hSl;have V:=mq (o:=o) d (.agg [.int .i64 n2,.int .i64 n3,.str s1,.lst l1]) (.agg [.int .i64 n4,.int .i64 n5,.str s2,.lst l2]) S (hT _ I) hSl;obtain ⟨l3,hl3⟩:∃z,y.set i.toNat (.agg [.int .i64 F,.int .i64 pc,.own (31,4) (aH d (.agg [.int .i64 n2,.int .i64 n3,.str s1,.lst l1]) (.agg [.int .i64 n4,.int .i64 n5,.str s2,.lst l2]) S).2])=z:=⟨_,rfl⟩
 rw[hl3]at hc;cases j:(aH d (.agg [.int .i64 n2,.int .i64 n3,.str s1,.lst l1]) (.agg [.int .i64 n4,.int .i64 n5,.str s2,.lst l2]) S).1
 ·have e4:o.call 293 [.prow (1,0) (192,3) i 0,At n2 n3 s1 l1,At n4 n5 s2 l2] [Oo y]=some ⟨Ab false,[Oo l3],[]⟩:=by rw[j]at hc;exact hc
  rw[O,U,nY,j];exact ⟨l3,hl3.symm,(ho.aB (by cbv;repeat (simp only[M,e2,e3,e4];try cbv)):_=some (.ret,gA l3))⟩
 have e4:o.call 293 [.prow (1,0) (192,3) i 0,At n2 n3 s1 l1,At n4 n5 s2 l2] [Oo y]=some ⟨Ab true,[Oo l3],[]⟩:=by rw[j]at hc;exact hc
 obtain ⟨n6,e5⟩:=kx (o.ar .add .i64 e 1);try have g5:n6=e+1:=e5.symm.trans (dm ho (by omega) (by omega))
 have a3:i.toNat<y.length:=(ax.1 hy).1;rw[O,U,nY,j,if_pos rfl];obtain ⟨z,hz,hw⟩:=ih (by omega) l3 F pc _ (by rw[<-hl3];exact cq a3) (by rw[V.1];exact hS) V.2;refine ⟨z,by rw[hz,<-hl3,List.set_set],?_⟩;refine (λz (hz:o.loop 35400 (dU i t p n1 n6 l3)=some z)=>ho.aB (by rw[<-hz];cbv;repeat (simp only[M,e2,e3,e4,e5];try cbv)):∀z,o.loop 35400 (dU i t p n1 n6 l3)=some z->o.loop 35400 (dU i t p n1 e y)=some z) _ ?_;rw[show n6=e+1 by omega];exact hw
theorem wX (sl:Int) (d:Nat) (IH:BD o sl d) (p t:Lq) {m:Nat} (hP:∀x∈p,Tm m x) (I:∀x∈p,dM o sl d x<=300) (J:∀x∈t,Rt o 8 x) (j:(p.length:Int)<=t.length) (M:(p.length:Int)<=1048576) (fs:Lq) (i F pc:Int) (S:Lq) (hi:0<=i) (hf:fs[i.toNat]? =some (.agg [.int .i64 F,.int .i64 pc,.own (31,4) S])) (O:(S.length:Int)=sl) (hSl:∀x∈S,Sl o x):o.call 354 [.prow (1,0) (192,3) i 0,Al p,Al t] [Oo fs]=some ⟨Ab (bf (aH d) p t S).1,[Oo (fs.set i.toNat (.agg [.int .i64 F,.int .i64 pc,.own (31,4) (bf (aH d) p t S).2]))],[]⟩:=by
 refine ho.aL λR Q=> ?_
 obtain ⟨n1,U,g1⟩:=aC ho p;conv=>lhs;cbv;rw[U];cbv
 obtain ⟨l1,E,hl⟩:=Rb ho sl d IH p t hP I J j M i hi n1 g1.symm 0 (Int.le_refl _) (by omega) fs F pc S hf O hSl;rw[show (0:Int).toNat=0 from rfl,List.drop_zero,List.drop_zero]at E hl;conv at hl=>lhs;cbv
 cases e:(bf (aH d) p t S).1<;>(conv=>lhs;rw[hl,e];cbv)
 all_goals
  subst Q;try rw[e]
  rw[<-E];try rfl
theorem OP (sl:Int) (d:Nat) (IH:MD o sl d) (p t:Lq) {m:Nat} (hP:∀x∈p,Tm m x) (hM:∀x∈p,dM o sl d x<=300) (V:∀x∈t,Rt o 8 x) (a3:(p.length:Int)<=t.length) (E:(p.length:Int)<=1048576) (n1:Int) (hn:(p.length:Int)=n1):∀e:Int,0<=e->e<=(n1:Int)->∀(y:Lq),(y.length:Int)=sl->(∀x∈y,Sl o x)->∃z,z=(bf (aH d) (p.drop e.toNat) (t.drop e.toNat) y).2/\o.loop 28100 (iC p t e y)=some (if (bf (aH d) (p.drop e.toNat) (t.drop e.toNat) y).1 then (.exit 0,kq z)else (.ret,kr z)):=by
 refine cM (P:=λe=>∀(y:Lq),(y.length:Int)=sl->(∀x∈y,Sl o x)->∃z,z=(bf (aH d) (p.drop e.toNat) (t.drop e.toNat) y).2/\o.loop 28100 (iC p t e y)=some (if (bf (aH d) (p.drop e.toNat) (t.drop e.toNat) y).1 then (.exit 0,kq z)else (.ret,kr z))) (n1:Int) ?_;intro e M h1 ih;try dsimp only at ih |-
 intro y hS hSl;have e1:o.len p=n1:=(jA ho _).trans hn;rcases bn ho e n1 with ⟨O,g2⟩|⟨O,g2⟩
 ·rw[bL hn (by omega),sJ];exact ⟨y,rfl,(ho.aB (by cbv;repeat (simp only[e1,O];try cbv)):_=some (.exit 0,kq y))⟩
 obtain ⟨x,a0,S,I⟩:=aF hn M g2;obtain ⟨m1,n2,n3,s1,l1,a4,rfl,hs,hl,ht⟩:=bH (hP _ I);have e3:=ay ho M a0;obtain ⟨y1,a1,U,J⟩:=aF (xs:=t) rfl M (by omega);obtain ⟨m2,n4,n5,s2,l2,a5,rfl,hs2,a6⟩:=fE (V _ J);have e4:=ay ho M a1;have hc:=IH _ _ _ _ _ (hP _ I) (hM _ I) _ _ _ _ (V _ J) y hS hSl;have j:=mq (o:=o) d (.agg [.int .i64 n2,.int .i64 n3,.str s1,.lst l1]) (.agg [.int .i64 n4,.int .i64 n5,.str s2,.lst l2]) y (V _ J) hSl;obtain ⟨l3,hl3⟩:∃z,(aH d (.agg [.int .i64 n2,.int .i64 n3,.str s1,.lst l1]) (.agg [.int .i64 n4,.int .i64 n5,.str s2,.lst l2]) y).2=z:=⟨_,rfl⟩
 unfold Ra at j;rw[hl3]at hc j;cases E:(aH d (.agg [.int .i64 n2,.int .i64 n3,.str s1,.lst l1]) (.agg [.int .i64 n4,.int .i64 n5,.str s2,.lst l2]) y).1
 ·have e5:o.call 188 [At n2 n3 s1 l1,At n4 n5 s2 l2,.arr (1,0) (31,4) none false] [Os y]=some ⟨Ab false,[Os l3],[]⟩:=by rw[E]at hc;exact hc
  rw[S,U,nY,E,hl3];exact ⟨l3,rfl,(ho.aB (by cbv;repeat (simp only[e1,O,e3,e4,e5];try cbv)):_=some (.ret,kr l3))⟩
 have e5:o.call 188 [At n2 n3 s1 l1,At n4 n5 s2 l2,.arr (1,0) (31,4) none false] [Os y]=some ⟨Ab true,[Os l3],[]⟩:=by rw[E]at hc;exact hc
 obtain ⟨n6,e6⟩:=kx (o.ar .add .i64 e 1);try have g6:n6=e+1:=e6.symm.trans (dm ho (by omega) (by omega))
 rw[S,U,nY,E,if_pos rfl,hl3];obtain ⟨z,hz,hw⟩:=ih (by omega) l3 (by rw[j.1];exact hS) j.2;refine ⟨z,hz,?_⟩;refine (λz (hz:o.loop 28100 (iC p t n6 l3)=some z)=>ho.aB (by rw[<-hz];cbv;repeat (simp only[e1,O,e3,e4,e5,e6];try cbv)):∀z,o.loop 28100 (iC p t n6 l3)=some z->o.loop 28100 (iC p t e y)=some z) _ ?_;rw[show n6=e+1 by omega];exact hw
theorem t9 (sl:Int) (d:Nat) (IH:MD o sl d) (p t:Lq) {m:Nat} (hP:∀x∈p,Tm m x) (I:∀x∈p,dM o sl d x<=300) (J:∀x∈t,Rt o 8 x) (j:(p.length:Int)<=t.length) (M:(p.length:Int)<=1048576) (S:Lq) (O:(S.length:Int)=sl) (hSl:∀x∈S,Sl o x):o.call 281 [Al p,Al t,.arr (1,0) (31,4) none false] [Os S]=some ⟨Ab (bf (aH d) p t S).1,[Os (bf (aH d) p t S).2],[]⟩:=by
 refine ho.aL λR Q=> ?_
 conv=>lhs;cbv
 obtain ⟨l1,E,hl⟩:=OP ho sl d IH p t hP I J j M _ rfl 0 (Int.le_refl _) (by omega) S O hSl;rw[show (0:Int).toNat=0 from rfl,List.drop_zero,List.drop_zero]at E hl;conv at hl=>lhs;cbv
 cases e:(bf (aH d) p t S).1<;>(conv=>lhs;rw[hl,e];cbv)
 all_goals
  subst Q;try rw[e]
  rw[<-E];try rfl
end
section
variable {o:aM} (ho:aQ cu bw o)
include ho
omit ho in
def Rc (l:Lq) (m:Int):Lq:=l.drop m.toNat
theorem Rd (sl:Int) (d:Nat) (IH:BD o sl d) (m:Nat) (J E:Int) (U:By) (j:Lq) (I M:Int) (O:By) (e:Lq) (hP:Tm m (.agg [.int .i64 J,.int .i64 E,.str U,.lst j])) (hM:dM o sl (d+1) (.agg [.int .i64 J,.int .i64 E,.str U,.lst j])<=300) (hT:Rt o 8 (.agg [.int .i64 I,.int .i64 M,.str O,.lst e])) (fs:Lq) (i F pc:Int) (S:Lq) (h0:0<=i) (hf:fs[i.toNat]? =some (.agg [.int .i64 F,.int .i64 pc,.own (31,4) S])) (hS:(S.length:Int)=sl) (hSl:∀x∈S,Sl o x):o.call 293 [.prow (1,0) (192,3) i 0,At J E U j,At I M O e] [Oo fs]=some ⟨Ab (aH (d+1) (.agg [.int .i64 J,.int .i64 E,.str U,.lst j]) (.agg [.int .i64 I,.int .i64 M,.str O,.lst e]) S).1,[Oo (fs.set i.toNat (.agg [.int .i64 F,.int .i64 pc,.own (31,4) (aH (d+1) (.agg [.int .i64 J,.int .i64 E,.str U,.lst j]) (.agg [.int .i64 I,.int .i64 M,.str O,.lst e]) S).2]))],[]⟩:=by
 obtain ⟨m,rfl,hs,hl,a4⟩:=ji hP;obtain ⟨m',hm,ap,a6⟩:=lI hT;have hq:=Il hM;have b0:=Im hq.1;have bl:=hU ap;have a7:∀t∈e,Rt o 8 t:=λt h=>Ak (by omega) (a6 t h)
 refine ho.aL λR Q=> ?_
 conv=>lhs;cbv
 rcases av ho J 1 with ⟨e1,g1⟩|⟨e1,g1⟩<;>(conv=>lhs;rw[e1];cbv)
 ·rcases av ho J 2 with ⟨e2,g2⟩|⟨e2,g2⟩<;>(conv=>lhs;rw[e2];cbv)
  ·rcases av ho J 3 with ⟨e3,g3⟩|⟨e3,g3⟩<;>(conv=>lhs;rw[e3];cbv)
   ·rcases av ho J 4 with ⟨e4,g4⟩|⟨e4,g4⟩<;>(conv=>lhs;rw[e4];cbv)
    ·rcases av ho J 5 with ⟨e5,g5⟩|⟨e5,g5⟩<;>(conv=>lhs;rw[e5];cbv)
     ·obtain ⟨n1,e6,g6⟩:=aC ho j;obtain ⟨n2,e7,g7⟩:=aU ho n1 1;conv=>lhs;rw[e6];cbv;rw[e7];cbv
      rcases cD ho I 5 with ⟨e8,g8⟩|⟨e8,g8⟩<;>(conv=>lhs;rw[e8];cbv)
      ·obtain ⟨n3,e9,g9⟩:=aC ho e;conv=>lhs;rw[e9];cbv
       rcases bn ho n3 n2 with ⟨a3,b1⟩|⟨a3,b1⟩<;>(conv=>lhs;rw[a3];cbv)
       ·obtain ⟨n4,bm,V⟩:∃v,v=n2-0/\o.minus n2 0=v:=⟨_,rfl,ho.minus _ _⟩
        obtain ⟨l1,a5,b2⟩:∃z,z=j.take n2.toNat/\o.sub j 0 n4=some z:=⟨_,rfl,by rw[iy ho (Int.le_refl _) (by omega) (by omega)];rw[show n4=n2 by omega];rfl⟩
        obtain ⟨l2,aa,b3⟩:∃z,z=e.take n2.toNat/\o.sub e 0 n4=some z:=⟨_,rfl,by rw[iy ho (Int.le_refl _) (by omega) (by omega)];rw[show n4=n2 by omega];rfl⟩
        conv=>lhs;rw[V];cbv;rw[b2];cbv;(try (rw[V];cbv));(try (rw[V];cbv));rw[b3];cbv;(try (rw[V];cbv))
        have hc:=wX ho sl d IH l1 l2 (λx hx=>a4 x (by rw[a5]at hx;exact List.mem_of_mem_take hx)) (λx hx=>hq.2 x (by rw[a5]at hx;exact List.mem_of_mem_take hx)) (λx hx=>a7 x (by rw[aa]at hx;exact List.mem_of_mem_take hx)) (by rw[a5,aa,List.length_take,List.length_take];omega) (by rw[a5,List.length_take];omega) fs i F pc S h0 hf hS hSl;rw[show bf (aH d) l1 l2 S=(bf (aH d) (j.take n2.toNat) e S) by rw[a5,aa];exact wW _ _ _ _ (by rw[List.length_take];omega)]at hc;have aw:=v8 (mq (o:=o) d) (j.take n2.toNat) e S a7 hSl;obtain ⟨l3,ac⟩:∃z,z=fs.set i.toNat (.agg [.int .i64 F,.int .i64 pc,.own (31,4) (bf (aH d) (j.take n2.toNat) e S).2]):=⟨_,rfl⟩
        rw[<-ac]at hc;cases hb:(bf (aH d) (j.take n2.toNat) e S).1
        ·have ae:o.call 354 [.prow (1,0) (192,3) i 0,Al l1,Al l2] [Oo fs]=some ⟨Ab false,[Oo l3],[]⟩:=by rw[hb]at hc;exact hc
         conv=>lhs;rw[ae];cbv;(try (rw[V];cbv))
         subst Q;have hk:(j.length:Int)-1=n2:=by omega
         obtain ⟨x,a8,_,_⟩:=aF (xs:=j) rfl (show 0<=n2 by omega) (by omega);have hB:aH (d+1) (.agg [.int .i64 J,.int .i64 E,.str U,.lst j]) (.agg [.int .i64 I,.int .i64 M,.str O,.lst e]) S=(false,(bf (aH d) (j.take n2.toNat) e S).2):=by
          rw[bP,if_neg g1,if_neg g2,if_neg g3,if_neg g4,if_neg g5,if_neg (λh=>h g8),if_neg (by omega)];rw[hk,a8];show (if (bf (aH d) (j.take n2.toNat) e S).1=true then _ else _)=_;rw[hb];rfl
         rw[hB,<-ac]
        have ae:o.call 354 [.prow (1,0) (192,3) i 0,Al l1,Al l2] [Oo fs]=some ⟨Ab true,[Oo l3],[]⟩:=by rw[hb]at hc;exact hc
        obtain ⟨x,a8,bo,ag⟩:=aF (xs:=j) rfl (show 0<=n2 by omega) (by omega);obtain ⟨mm,n5,n6,s1,l4,bs,rfl,bt,bu,bv⟩:=bH (a4 _ ag);have b4:o.cF j n2=some (.agg [.int .i64 n5,.int .i64 n6,.str s1,.lst l4]):=ay ho (by omega) a8;have b5:o.fits 4 0 e=true:=by exact cW ho (by omega) (by decide) (λz hz=>fF (a6 z hz))
        obtain ⟨n7,bz,a9⟩:∃v,v=n3-n2/\o.minus n3 n2=v:=⟨_,rfl,ho.minus _ _⟩
        obtain ⟨l5,am,b6⟩:∃z,z=e.drop n2.toNat/\o.sub e n2 n7=some z:=⟨_,rfl,by rw[iy ho (by omega) (by omega) (by omega),List.take_of_length_le (by rw[List.length_drop];omega)]⟩
        obtain ⟨l6,bb,bc⟩:∃z,z=Rc e n2/\o.call 289 [Al l5] []=some ⟨.arr (0,0) (31,4) none false,[],[Os z]⟩:=⟨l5,by rw[am];rfl,Lo ho l5 (by rw[am,List.length_drop];omega) (λz hz=>fF (a6 z (by rw[am]at hz;exact List.mem_of_mem_drop hz)))⟩
        conv=>lhs;rw[ae];cbv;(try (rw[V];cbv));rw[b4];cbv;(try (rw[V];cbv));rw[b5];cbv;(try (rw[V];cbv));(try (rw[e9];cbv));rw[a9];cbv;(try (rw[V];cbv));rw[b6];cbv;(try (rw[V];cbv));(try (rw[a9];cbv));rw[bc];cbv;(try (rw[V];cbv));(try (rw[a9];cbv))
        have hr:=Bo (i:=n2) ap (by assumption) a6 (by omega);have bd:i.toNat<fs.length:=(ax.1 hf).1;have hc:=IH _ _ _ _ _ (a4 _ ag) (hq.2 _ ag) _ _ _ _ hr _ i F pc (bf (aH d) (j.take n2.toNat) e S).2 h0 (cq bd) (by rw[aw.1];exact hS) aw.2;rw[List.set_set,<-ac]at hc;obtain ⟨b9,a0⟩:∃b,(aH d (.agg [.int .i64 n5,.int .i64 n6,.str s1,.lst l4]) (q_ e n2) (bf (aH d) (j.take n2.toNat) e S).2).1=b:=⟨_,rfl⟩
        obtain ⟨l7,a1⟩:∃z,fs.set i.toNat (.agg [.int .i64 F,.int .i64 pc,.own (31,4) (aH d (.agg [.int .i64 n5,.int .i64 n6,.str s1,.lst l4]) (q_ e n2) (bf (aH d) (j.take n2.toNat) e S).2).2])=z:=⟨_,rfl⟩
        have be:o.call 293 [.prow (1,0) (192,3) i 0,At n5 n6 s1 l4,At 5 0 ⟨#[]⟩ l6] [Oo l3]=some ⟨Ab b9,[Oo l7],[]⟩:=by
         rw[<-a0,<-a1,bb];exact hc
        conv=>lhs;rw[be];cbv;(try (rw[V];cbv));(try (rw[a9];cbv))
        subst Q;have hk:(j.length:Int)-1=n2:=by omega
        have hB:aH (d+1) (.agg [.int .i64 J,.int .i64 E,.str U,.lst j]) (.agg [.int .i64 I,.int .i64 M,.str O,.lst e]) S=aH d (.agg [.int .i64 n5,.int .i64 n6,.str s1,.lst l4]) (q_ e n2) (bf (aH d) (j.take n2.toNat) e S).2:=by
         rw[bP,if_neg g1,if_neg g2,if_neg g3,if_neg g4,if_neg g5,if_neg (λh=>h g8),if_neg (by omega)];rw[hk,a8];show (if (bf (aH d) (j.take n2.toNat) e S).1=true then _ else _)=_;rw[hb,if_pos rfl]
        rw[hB];rw[a0,a1]
       subst Q;have hB:aH (d+1) (.agg [.int .i64 J,.int .i64 E,.str U,.lst j]) (.agg [.int .i64 I,.int .i64 M,.str O,.lst e]) S=(false,S):=by rw[bP,if_neg g1,if_neg g2,if_neg g3,if_neg g4,if_neg g5,if_neg (λh=>h g8),if_pos (by omega)]
       rw[hB];show _=some (cn.mk (Ab (false)) [Oo (fs.set i.toNat (.agg [.int .i64 F,.int .i64 pc,.own (31,4) (S)]))] []);rw[eO hf]
      subst Q;have hB:aH (d+1) (.agg [.int .i64 J,.int .i64 E,.str U,.lst j]) (.agg [.int .i64 I,.int .i64 M,.str O,.lst e]) S=(false,S):=by rw[bP,if_neg g1,if_neg g2,if_neg g3,if_neg g4,if_neg g5,if_pos g8]
      rw[hB];show _=some (cn.mk (Ab (false)) [Oo (fs.set i.toNat (.agg [.int .i64 F,.int .i64 pc,.own (31,4) (S)]))] []);rw[eO hf]
     rcases av ho I 5 with ⟨e6,g6⟩|⟨e6,g6⟩<;>(conv=>lhs;rw[e6];cbv)
     ·subst Q;have hB:aH (d+1) (.agg [.int .i64 J,.int .i64 E,.str U,.lst j]) (.agg [.int .i64 I,.int .i64 M,.str O,.lst e]) S=(false,S):=by rw[bP,if_neg g1,if_neg g2,if_neg g3,if_neg g4,if_pos g5,if_neg g6]
      rw[hB];show _=some (cn.mk (Ab (false)) [Oo (fs.set i.toNat (.agg [.int .i64 F,.int .i64 pc,.own (31,4) (S)]))] []);rw[eO hf]
     obtain ⟨n1,e7,g7⟩:=aC ho e;obtain ⟨n2,e8,g8⟩:=aC ho j;conv=>lhs;rw[e7];cbv;rw[e8];cbv
     rcases av ho n1 n2 with ⟨e9,g9⟩|⟨e9,g9⟩<;>(conv=>lhs;rw[e9];cbv)
     ·subst Q;have hB:aH (d+1) (.agg [.int .i64 J,.int .i64 E,.str U,.lst j]) (.agg [.int .i64 I,.int .i64 M,.str O,.lst e]) S=(false,S):=by rw[bP,if_neg g1,if_neg g2,if_neg g3,if_neg g4,if_pos g5,if_pos g6,if_neg (by omega)]
      rw[hB];show _=some (cn.mk (Ab (false)) [Oo (fs.set i.toNat (.agg [.int .i64 F,.int .i64 pc,.own (31,4) (S)]))] []);rw[eO hf]
     obtain ⟨b8,a0⟩:∃b,(bf (aH d) j e S).1=b:=⟨_,rfl⟩
     obtain ⟨l1,a1⟩:∃z,fs.set i.toNat (.agg [.int .i64 F,.int .i64 pc,.own (31,4) (bf (aH d) j e S).2])=z:=⟨_,rfl⟩
     have a3:o.call 354 [.prow (1,0) (192,3) i 0,Al j,Al e] [Oo fs]=some ⟨Ab b8,[Oo l1],[]⟩:=(wX ho sl d IH j e a4 hq.2 a7 (by omega) (by omega) fs i F pc S h0 hf hS hSl).trans (by rw[a0,a1]);conv=>lhs;rw[a3];cbv
     subst Q;have hB:aH (d+1) (.agg [.int .i64 J,.int .i64 E,.str U,.lst j]) (.agg [.int .i64 I,.int .i64 M,.str O,.lst e]) S=((bf (aH d) j e S).1,(bf (aH d) j e S).2):=by rw[bP,if_neg g1,if_neg g2,if_neg g3,if_neg g4,if_pos g5,if_pos g6,if_pos (by omega)]
     rw[hB];show _=some (cn.mk (Ab ((bf (aH d) j e S).1)) [Oo (fs.set i.toNat (.agg [.int .i64 F,.int .i64 pc,.own (31,4) ((bf (aH d) j e S).2)]))] []);rw[a0,a1]
    rcases av ho I 4 with ⟨e5,g5⟩|⟨e5,g5⟩<;>(conv=>lhs;rw[e5];cbv)
    ·subst Q;have hB:aH (d+1) (.agg [.int .i64 J,.int .i64 E,.str U,.lst j]) (.agg [.int .i64 I,.int .i64 M,.str O,.lst e]) S=(false,S):=by rw[bP,if_neg g1,if_neg g2,if_neg g3,if_pos g4,if_neg g5]
     rw[hB];show _=some (cn.mk (Ab (false)) [Oo (fs.set i.toNat (.agg [.int .i64 F,.int .i64 pc,.own (31,4) (S)]))] []);rw[eO hf]
    obtain ⟨n1,e6,g6⟩:=aC ho e;obtain ⟨n2,e7,g7⟩:=aC ho j;conv=>lhs;rw[e6];cbv;rw[e7];cbv
    rcases av ho n1 n2 with ⟨e8,g8⟩|⟨e8,g8⟩<;>(conv=>lhs;rw[e8];cbv)
    ·subst Q;have hB:aH (d+1) (.agg [.int .i64 J,.int .i64 E,.str U,.lst j]) (.agg [.int .i64 I,.int .i64 M,.str O,.lst e]) S=(false,S):=by rw[bP,if_neg g1,if_neg g2,if_neg g3,if_pos g4,if_pos g5,if_neg (by omega)]
     rw[hB];show _=some (cn.mk (Ab (false)) [Oo (fs.set i.toNat (.agg [.int .i64 F,.int .i64 pc,.own (31,4) (S)]))] []);rw[eO hf]
    obtain ⟨b7,a0⟩:∃b,(bf (aH d) j e S).1=b:=⟨_,rfl⟩
    obtain ⟨l1,a1⟩:∃z,fs.set i.toNat (.agg [.int .i64 F,.int .i64 pc,.own (31,4) (bf (aH d) j e S).2])=z:=⟨_,rfl⟩
    have e9:o.call 354 [.prow (1,0) (192,3) i 0,Al j,Al e] [Oo fs]=some ⟨Ab b7,[Oo l1],[]⟩:=(wX ho sl d IH j e a4 hq.2 a7 (by omega) (by omega) fs i F pc S h0 hf hS hSl).trans (by rw[a0,a1]);conv=>lhs;rw[e9];cbv
    subst Q;have hB:aH (d+1) (.agg [.int .i64 J,.int .i64 E,.str U,.lst j]) (.agg [.int .i64 I,.int .i64 M,.str O,.lst e]) S=((bf (aH d) j e S).1,(bf (aH d) j e S).2):=by rw[bP,if_neg g1,if_neg g2,if_neg g3,if_pos g4,if_pos g5,if_pos (by omega)]
    rw[hB];show _=some (cn.mk (Ab ((bf (aH d) j e S).1)) [Oo (fs.set i.toNat (.agg [.int .i64 F,.int .i64 pc,.own (31,4) ((bf (aH d) j e S).2)]))] []);rw[a0,a1]
   rcases jc ho E 0 with ⟨e4,g4⟩|⟨e4,g4⟩<;>(conv=>lhs;rw[e4];cbv)
   ·subst Q;have hB:aH (d+1) (.agg [.int .i64 J,.int .i64 E,.str U,.lst j]) (.agg [.int .i64 I,.int .i64 M,.str O,.lst e]) S=(true,S):=by rw[bP,if_neg g1,if_neg g2,if_pos g3,if_neg (by omega)]
    rw[hB];show _=some (cn.mk (Ab (true)) [Oo (fs.set i.toNat (.agg [.int .i64 F,.int .i64 pc,.own (31,4) (S)]))] []);rw[eO hf]
   obtain ⟨n1,n2,l2,⟨rfl,rfl,rfl⟩,e5⟩:∃a b c,(a=F/\b=pc/\c=S)/\o.cF fs i=some (.agg [.int .i64 a,.int .i64 b,.own (31,4) c]):=⟨_,_,_,⟨rfl,rfl,rfl⟩,ay ho h0 hf⟩
   have e6:o.flat l2=true:=by exact rF ho hSl
   obtain ⟨y,bi,c0,bj⟩:=aF (xs:=l2) rfl (show 0<=E by omega) (by have:=b0.1 (by assumption);omega);obtain ⟨n3,n4,s1,l3,rfl⟩:=GL (hSl _ bj);have e7:o.cF l2 E=some (.agg [.int .i64 n3,.int .i64 n4,.str s1,.lst l3]):=ay ho (by omega) bi;conv=>lhs;rw[e5];cbv;rw[e6];cbv;rw[e7];cbv;(try (rw[e7];cbv))
   obtain ⟨l4,an,e8⟩:∃z,z=l2.set E.toNat (.agg [.int .i64 I,.int .i64 M,.str O,.lst e])/\o.set l2 E (.agg [.int .i64 I,.int .i64 M,.str O,.lst e])=z:=⟨_,rfl,ho.set _ _ _⟩
   have az:∀x∈l4,Sl o x:=λx hx=>by
    rw[an]at hx;rcases List.mem_or_eq_of_mem_set hx with h | h
    · exact hSl x h
    rw[h];exact .inr hT
   have e9:o.flat l4=true:=by exact rF ho az
   obtain ⟨l5,ao,a3⟩:∃z,z=fs.set i.toNat (.agg [.int .i64 n1,.int .i64 n2,.own (31,4) l4])/\o.set fs i (.agg [.int .i64 n1,.int .i64 n2,.own (31,4) l4])=z:=⟨_,rfl,ho.set _ _ _⟩
   conv=>lhs;rw[e8];cbv;(try (rw[e5];cbv));rw[e9];cbv;rw[a3];cbv
   subst Q;have hB:aH (d+1) (.agg [.int .i64 J,.int .i64 E,.str U,.lst j]) (.agg [.int .i64 I,.int .i64 M,.str O,.lst e]) l2=(true,l2.set E.toNat (.agg [.int .i64 I,.int .i64 M,.str O,.lst e])):=by rw[bP,if_neg g1,if_neg g2,if_pos g3,if_pos g4]
   rw[hB,ao,an]
  rcases av ho I 2 with ⟨e3,g3⟩|⟨e3,g3⟩<;>(conv=>lhs;rw[e3];cbv)
  ·subst Q;have hB:aH (d+1) (.agg [.int .i64 J,.int .i64 E,.str U,.lst j]) (.agg [.int .i64 I,.int .i64 M,.str O,.lst e]) S=(false,S):=by rw[bP,if_neg g1,if_pos g2,if_neg g3]
   rw[hB];show _=some (cn.mk (Ab (false)) [Oo (fs.set i.toNat (.agg [.int .i64 F,.int .i64 pc,.own (31,4) (S)]))] []);rw[eO hf]
  rcases aR ho O U with ⟨e4,g4⟩|⟨e4,g4⟩<;>(conv=>lhs;rw[e4];cbv)
  all_goals
   subst Q;have hB:aH (d+1) (.agg [.int .i64 J,.int .i64 E,.str U,.lst j]) (.agg [.int .i64 I,.int .i64 M,.str O,.lst e]) S=(decide (O=U),S):=by rw[bP,if_neg g1,if_pos g2,if_pos g3]
   rw[hB];show _=some (cn.mk (Ab (decide (O=U))) [Oo (fs.set i.toNat (.agg [.int .i64 F,.int .i64 pc,.own (31,4) (S)]))] []);rw[eO hf];first | rw[decide_eq_true g4] | rw[decide_eq_false g4]
 rcases av ho I 1 with ⟨e2,g2⟩|⟨e2,g2⟩<;>(conv=>lhs;rw[e2];cbv)
 ·subst Q;have hB:aH (d+1) (.agg [.int .i64 J,.int .i64 E,.str U,.lst j]) (.agg [.int .i64 I,.int .i64 M,.str O,.lst e]) S=(false,S):=by rw[bP,if_pos g1,if_neg g2]
  rw[hB];show _=some (cn.mk (Ab (false)) [Oo (fs.set i.toNat (.agg [.int .i64 F,.int .i64 pc,.own (31,4) (S)]))] []);rw[eO hf]
 rcases av ho M E with ⟨e3,g3⟩|⟨e3,g3⟩<;>(conv=>lhs;rw[e3];cbv)
 all_goals
  subst Q;have hB:aH (d+1) (.agg [.int .i64 J,.int .i64 E,.str U,.lst j]) (.agg [.int .i64 I,.int .i64 M,.str O,.lst e]) S=(decide (M=E),S):=by rw[bP,if_pos g1,if_pos g2]
  rw[hB];show _=some (cn.mk (Ab (decide (M=E))) [Oo (fs.set i.toNat (.agg [.int .i64 F,.int .i64 pc,.own (31,4) (S)]))] []);rw[eO hf];first | rw[decide_eq_true g3] | rw[decide_eq_false g3]
theorem OQ (sl:Int) (d:Nat) (IH:MD o sl d) (m:Nat) (O E:Int) (U:By) (j:Lq) (I J:Int) (M:By) (e:Lq) (hP:Tm m (.agg [.int .i64 O,.int .i64 E,.str U,.lst j])) (hM:dM o sl (d+1) (.agg [.int .i64 O,.int .i64 E,.str U,.lst j])<=300) (hT:Rt o 8 (.agg [.int .i64 I,.int .i64 J,.str M,.lst e])) (S:Lq) (hS:(S.length:Int)=sl) (hSl:∀x∈S,Sl o x):o.call 188 [At O E U j,At I J M e,.arr (1,0) (31,4) none false] [Os S]=some ⟨Ab (aH (d+1) (.agg [.int .i64 O,.int .i64 E,.str U,.lst j]) (.agg [.int .i64 I,.int .i64 J,.str M,.lst e]) S).1,[Os (aH (d+1) (.agg [.int .i64 O,.int .i64 E,.str U,.lst j]) (.agg [.int .i64 I,.int .i64 J,.str M,.lst e]) S).2],[]⟩:=by
 obtain ⟨m,rfl,hs,hl,a4⟩:=ji hP;obtain ⟨m',hm,an,a9⟩:=lI hT;have hq:=Il hM;have ap:=Im hq.1;have bc:=hU an;have a6:∀t∈e,Rt o 8 t:=λt h=>Ak (by omega) (a9 t h)
 refine ho.aL λR Q=> ?_
 conv=>lhs;cbv
 rcases av ho O 1 with ⟨e1,g1⟩|⟨e1,g1⟩<;>(conv=>lhs;rw[e1];cbv)
 ·rcases av ho O 2 with ⟨e2,g2⟩|⟨e2,g2⟩<;>(conv=>lhs;rw[e2];cbv)
  ·rcases av ho O 3 with ⟨e3,g3⟩|⟨e3,g3⟩<;>(conv=>lhs;rw[e3];cbv)
   ·rcases av ho O 4 with ⟨e4,V⟩|⟨e4,V⟩<;>(conv=>lhs;rw[e4];cbv)
    ·rcases av ho O 5 with ⟨e5,g5⟩|⟨e5,g5⟩<;>(conv=>lhs;rw[e5];cbv)
     ·obtain ⟨n1,e6,g6⟩:=aC ho j;obtain ⟨n2,e7,g7⟩:=aU ho n1 1;conv=>lhs;rw[e6];cbv;rw[e7];cbv
      rcases cD ho I 5 with ⟨e8,g8⟩|⟨e8,g8⟩<;>(conv=>lhs;rw[e8];cbv)
      ·obtain ⟨n3,e9,g9⟩:=aC ho e;conv=>lhs;rw[e9];cbv
       rcases bn ho n3 n2 with ⟨a7,aw⟩|⟨a7,aw⟩<;>(conv=>lhs;rw[a7];cbv)
       ·obtain ⟨n4,bd,a0⟩:∃v,v=n2-0/\o.minus n2 0=v:=⟨_,rfl,ho.minus _ _⟩
        obtain ⟨l1,a5,az⟩:∃z,z=j.take n2.toNat/\o.sub j 0 n4=some z:=⟨_,rfl,by rw[iy ho (Int.le_refl _) (by omega) (by omega)];rw[show n4=n2 by omega];rfl⟩
        conv=>lhs;rw[a0];cbv;rw[az];cbv;(try (rw[a0];cbv))
        have hc:=t9 ho sl d IH l1 e (λx hx=>a4 x (by rw[a5]at hx;exact List.mem_of_mem_take hx)) (λx hx=>hq.2 x (by rw[a5]at hx;exact List.mem_of_mem_take hx)) (λx hx=>a6 x (by exact hx)) (by rw[a5,List.length_take];omega) (by rw[a5,List.length_take];omega) S hS hSl;rw[show bf (aH d) l1 e S=(bf (aH d) (j.take n2.toNat) e S) by rw[a5]]at hc;have ao:=v8 (mq (o:=o) d) (j.take n2.toNat) e S a6 hSl;obtain ⟨l2,aa⟩:∃z,z=(bf (aH d) (j.take n2.toNat) e S).2:=⟨_,rfl⟩
        rw[<-aa]at hc;cases hb:(bf (aH d) (j.take n2.toNat) e S).1
        ·have ac:o.call 281 [Al l1,Al e,.arr (1,0) (31,4) none false] [Os S]=some ⟨Ab false,[Os l2],[]⟩:=by rw[hb]at hc;exact hc
         conv=>lhs;rw[ac];cbv;(try (rw[a0];cbv))
         subst Q;have hk:(j.length:Int)-1=n2:=by omega
         obtain ⟨x,a8,_,_⟩:=aF (xs:=j) rfl (show 0<=n2 by omega) (by omega);have hB:aH (d+1) (.agg [.int .i64 O,.int .i64 E,.str U,.lst j]) (.agg [.int .i64 I,.int .i64 J,.str M,.lst e]) S=(false,(bf (aH d) (j.take n2.toNat) e S).2):=by
          rw[bP,if_neg g1,if_neg g2,if_neg g3,if_neg V,if_neg g5,if_neg (λh=>h g8),if_neg (by omega)];rw[hk,a8];show (if (bf (aH d) (j.take n2.toNat) e S).1=true then _ else _)=_;rw[hb];rfl
         rw[hB,<-aa]
        have ac:o.call 281 [Al l1,Al e,.arr (1,0) (31,4) none false] [Os S]=some ⟨Ab true,[Os l2],[]⟩:=by rw[hb]at hc;exact hc
        obtain ⟨x,a8,be,ae⟩:=aF (xs:=j) rfl (show 0<=n2 by omega) (by omega);obtain ⟨mm,n5,n6,s1,l3,bi,rfl,bj,bl,bm⟩:=bH (a4 _ ae);have b0:o.cF j n2=some (.agg [.int .i64 n5,.int .i64 n6,.str s1,.lst l3]):=ay ho (by omega) a8;have b1:o.fits 4 0 e=true:=by exact cW ho (by omega) (by decide) (λz hz=>fF (a9 z hz))
        obtain ⟨n7,bo,ag⟩:∃v,v=n3-n2/\o.minus n3 n2=v:=⟨_,rfl,ho.minus _ _⟩
        obtain ⟨l4,b2,b3⟩:∃z,z=e.drop n2.toNat/\o.sub e n2 n7=some z:=⟨_,rfl,by rw[iy ho (by omega) (by omega) (by omega),List.take_of_length_le (by rw[List.length_drop];omega)]⟩
        conv=>lhs;rw[ac];cbv;(try (rw[a0];cbv));rw[b0];cbv;(try (rw[a0];cbv));rw[b1];cbv;(try (rw[a0];cbv));(try (rw[e9];cbv));rw[ag];cbv;(try (rw[a0];cbv));rw[b3];cbv;(try (rw[a0];cbv));(try (rw[ag];cbv))
        have hr:=Bo (i:=n2) an (by assumption) a9 (by omega);obtain ⟨b9,a1⟩:∃b,(aH d (.agg [.int .i64 n5,.int .i64 n6,.str s1,.lst l3]) (q_ e n2) (bf (aH d) (j.take n2.toNat) e S).2).1=b:=⟨_,rfl⟩
        obtain ⟨l5,a3⟩:∃z,(aH d (.agg [.int .i64 n5,.int .i64 n6,.str s1,.lst l3]) (q_ e n2) (bf (aH d) (j.take n2.toNat) e S).2).2=z:=⟨_,rfl⟩
        have b4:o.call 188 [At n5 n6 s1 l3,At 5 0 ⟨#[]⟩ l4,.arr (1,0) (31,4) none false] [Os l2]=some ⟨Ab b9,[Os l5],[]⟩:=by
         rw[<-a1,<-a3,aa];have hc:=IH _ _ _ _ _ (a4 _ ae) (hq.2 _ ae) _ _ _ _ hr _ (by rw[ao.1];exact hS) ao.2;rw[b2];exact hc
        conv=>lhs;rw[b4];cbv;(try (rw[a0];cbv));(try (rw[ag];cbv))
        subst Q;have hk:(j.length:Int)-1=n2:=by omega
        have hB:aH (d+1) (.agg [.int .i64 O,.int .i64 E,.str U,.lst j]) (.agg [.int .i64 I,.int .i64 J,.str M,.lst e]) S=aH d (.agg [.int .i64 n5,.int .i64 n6,.str s1,.lst l3]) (q_ e n2) (bf (aH d) (j.take n2.toNat) e S).2:=by
         rw[bP,if_neg g1,if_neg g2,if_neg g3,if_neg V,if_neg g5,if_neg (λh=>h g8),if_neg (by omega)];rw[hk,a8];show (if (bf (aH d) (j.take n2.toNat) e S).1=true then _ else _)=_;rw[hb,if_pos rfl]
        rw[hB];rw[a1,a3]
       subst Q;have hB:aH (d+1) (.agg [.int .i64 O,.int .i64 E,.str U,.lst j]) (.agg [.int .i64 I,.int .i64 J,.str M,.lst e]) S=(false,S):=by rw[bP,if_neg g1,if_neg g2,if_neg g3,if_neg V,if_neg g5,if_neg (λh=>h g8),if_pos (by omega)]
       rw[hB];try (show _=some (cn.mk (Ab (false)) [Os (S)] []))
      subst Q;have hB:aH (d+1) (.agg [.int .i64 O,.int .i64 E,.str U,.lst j]) (.agg [.int .i64 I,.int .i64 J,.str M,.lst e]) S=(false,S):=by rw[bP,if_neg g1,if_neg g2,if_neg g3,if_neg V,if_neg g5,if_pos g8]
      rw[hB];try (show _=some (cn.mk (Ab (false)) [Os (S)] []))
     rcases av ho I 5 with ⟨e6,g6⟩|⟨e6,g6⟩<;>(conv=>lhs;rw[e6];cbv)
     ·subst Q;have hB:aH (d+1) (.agg [.int .i64 O,.int .i64 E,.str U,.lst j]) (.agg [.int .i64 I,.int .i64 J,.str M,.lst e]) S=(false,S):=by rw[bP,if_neg g1,if_neg g2,if_neg g3,if_neg V,if_pos g5,if_neg g6]
      rw[hB];try (show _=some (cn.mk (Ab (false)) [Os (S)] []))
     obtain ⟨n1,e7,g7⟩:=aC ho e;obtain ⟨n2,e8,g8⟩:=aC ho j;conv=>lhs;rw[e7];cbv;rw[e8];cbv
     rcases av ho n1 n2 with ⟨e9,g9⟩|⟨e9,g9⟩<;>(conv=>lhs;rw[e9];cbv)
     ·subst Q;have hB:aH (d+1) (.agg [.int .i64 O,.int .i64 E,.str U,.lst j]) (.agg [.int .i64 I,.int .i64 J,.str M,.lst e]) S=(false,S):=by rw[bP,if_neg g1,if_neg g2,if_neg g3,if_neg V,if_pos g5,if_pos g6,if_neg (by omega)]
      rw[hB];try (show _=some (cn.mk (Ab (false)) [Os (S)] []))
     obtain ⟨b8,a1⟩:∃b,(bf (aH d) j e S).1=b:=⟨_,rfl⟩
     obtain ⟨l1,a3⟩:∃z,(bf (aH d) j e S).2=z:=⟨_,rfl⟩
     have a7:o.call 281 [Al j,Al e,.arr (1,0) (31,4) none false] [Os S]=some ⟨Ab b8,[Os l1],[]⟩:=(t9 ho sl d IH j e a4 hq.2 a6 (by omega) (by omega) S hS hSl).trans (by rw[a1,a3]);conv=>lhs;rw[a7];cbv
     subst Q;have hB:aH (d+1) (.agg [.int .i64 O,.int .i64 E,.str U,.lst j]) (.agg [.int .i64 I,.int .i64 J,.str M,.lst e]) S=((bf (aH d) j e S).1,(bf (aH d) j e S).2):=by rw[bP,if_neg g1,if_neg g2,if_neg g3,if_neg V,if_pos g5,if_pos g6,if_pos (by omega)]
     rw[hB];try (show _=some (cn.mk (Ab ((bf (aH d) j e S).1)) [Os ((bf (aH d) j e S).2)] []))
     try (rw[a1,a3])
    rcases av ho I 4 with ⟨e5,g5⟩|⟨e5,g5⟩<;>(conv=>lhs;rw[e5];cbv)
    ·subst Q;have hB:aH (d+1) (.agg [.int .i64 O,.int .i64 E,.str U,.lst j]) (.agg [.int .i64 I,.int .i64 J,.str M,.lst e]) S=(false,S):=by rw[bP,if_neg g1,if_neg g2,if_neg g3,if_pos V,if_neg g5]
     rw[hB];try (show _=some (cn.mk (Ab (false)) [Os (S)] []))
    obtain ⟨n1,e6,g6⟩:=aC ho e;obtain ⟨n2,e7,g7⟩:=aC ho j;conv=>lhs;rw[e6];cbv;rw[e7];cbv
    rcases av ho n1 n2 with ⟨e8,g8⟩|⟨e8,g8⟩<;>(conv=>lhs;rw[e8];cbv)
    ·subst Q;have hB:aH (d+1) (.agg [.int .i64 O,.int .i64 E,.str U,.lst j]) (.agg [.int .i64 I,.int .i64 J,.str M,.lst e]) S=(false,S):=by rw[bP,if_neg g1,if_neg g2,if_neg g3,if_pos V,if_pos g5,if_neg (by omega)]
     rw[hB];try (show _=some (cn.mk (Ab (false)) [Os (S)] []))
    obtain ⟨b7,a1⟩:∃b,(bf (aH d) j e S).1=b:=⟨_,rfl⟩
    obtain ⟨l1,a3⟩:∃z,(bf (aH d) j e S).2=z:=⟨_,rfl⟩
    have e9:o.call 281 [Al j,Al e,.arr (1,0) (31,4) none false] [Os S]=some ⟨Ab b7,[Os l1],[]⟩:=(t9 ho sl d IH j e a4 hq.2 a6 (by omega) (by omega) S hS hSl).trans (by rw[a1,a3]);conv=>lhs;rw[e9];cbv
    subst Q;have hB:aH (d+1) (.agg [.int .i64 O,.int .i64 E,.str U,.lst j]) (.agg [.int .i64 I,.int .i64 J,.str M,.lst e]) S=((bf (aH d) j e S).1,(bf (aH d) j e S).2):=by rw[bP,if_neg g1,if_neg g2,if_neg g3,if_pos V,if_pos g5,if_pos (by omega)]
    rw[hB];try (show _=some (cn.mk (Ab ((bf (aH d) j e S).1)) [Os ((bf (aH d) j e S).2)] []))
    try (rw[a1,a3])
   rcases jc ho E 0 with ⟨e4,V⟩|⟨e4,V⟩<;>(conv=>lhs;rw[e4];cbv)
   ·subst Q;have hB:aH (d+1) (.agg [.int .i64 O,.int .i64 E,.str U,.lst j]) (.agg [.int .i64 I,.int .i64 J,.str M,.lst e]) S=(true,S):=by rw[bP,if_neg g1,if_neg g2,if_pos g3,if_neg (by omega)]
    rw[hB];try (show _=some (cn.mk (Ab (true)) [Os (S)] []))
   have e5:o.call 202 [At I J M e] []=Ar (At I J M e):=mA ho 8 _ _ _ _ (fO hT);obtain ⟨y,b5,bs,b6⟩:=aF (xs:=S) rfl (show 0<=E by omega) (by have:=ap.1 (by assumption);omega);obtain ⟨n1,n2,s1,l1,rfl⟩:=GL (hSl _ b6);have e6:o.cF S E=some (.agg [.int .i64 n1,.int .i64 n2,.str s1,.lst l1]):=ay ho (by omega) b5;conv=>lhs;rw[e5];cbv;rw[e6];cbv;(try (rw[e6];cbv))
   obtain ⟨l2,am,e7⟩:∃z,z=S.set E.toNat (.agg [.int .i64 I,.int .i64 J,.str M,.lst e])/\o.set S E (.agg [.int .i64 I,.int .i64 J,.str M,.lst e])=z:=⟨_,rfl,ho.set _ _ _⟩
   have bb:∀x∈l2,Sl o x:=λx hx=>by
    rw[am]at hx;rcases List.mem_or_eq_of_mem_set hx with h | h
    · exact hSl x h
    rw[h];exact .inr hT
   conv=>lhs;rw[e7];cbv
   subst Q;rw[bP,if_neg g1,if_neg g2,if_pos g3,if_pos V,<-am]
  rcases av ho I 2 with ⟨e3,g3⟩|⟨e3,g3⟩<;>(conv=>lhs;rw[e3];cbv)
  ·subst Q;have hB:aH (d+1) (.agg [.int .i64 O,.int .i64 E,.str U,.lst j]) (.agg [.int .i64 I,.int .i64 J,.str M,.lst e]) S=(false,S):=by rw[bP,if_neg g1,if_pos g2,if_neg g3]
   rw[hB];try (show _=some (cn.mk (Ab (false)) [Os (S)] []))
  rcases aR ho M U with ⟨e4,V⟩|⟨e4,V⟩<;>(conv=>lhs;rw[e4];cbv)
  all_goals
   subst Q;have hB:aH (d+1) (.agg [.int .i64 O,.int .i64 E,.str U,.lst j]) (.agg [.int .i64 I,.int .i64 J,.str M,.lst e]) S=(decide (M=U),S):=by rw[bP,if_neg g1,if_pos g2,if_pos g3]
   rw[hB];try (show _=some (cn.mk (Ab (decide (M=U))) [Os (S)] []))
   try (first | rw[decide_eq_true V] | rw[decide_eq_false V])
 rcases av ho I 1 with ⟨e2,g2⟩|⟨e2,g2⟩<;>(conv=>lhs;rw[e2];cbv)
 ·subst Q;have hB:aH (d+1) (.agg [.int .i64 O,.int .i64 E,.str U,.lst j]) (.agg [.int .i64 I,.int .i64 J,.str M,.lst e]) S=(false,S):=by rw[bP,if_pos g1,if_neg g2]
  rw[hB];try (show _=some (cn.mk (Ab (false)) [Os (S)] []))
 rcases av ho J E with ⟨e3,g3⟩|⟨e3,g3⟩<;>(conv=>lhs;rw[e3];cbv)
 all_goals
  subst Q;have hB:aH (d+1) (.agg [.int .i64 O,.int .i64 E,.str U,.lst j]) (.agg [.int .i64 I,.int .i64 J,.str M,.lst e]) S=(decide (J=E),S):=by rw[bP,if_pos g1,if_pos g2]
  rw[hB];try (show _=some (cn.mk (Ab (decide (J=E))) [Os (S)] []))
  try (first | rw[decide_eq_true g3] | rw[decide_eq_false g3])
theorem Nz (sl:Int):∀d,BD o sl d
 | 0=>λm k n s l _ J=>by have M:dM o sl 0 (.agg [.int .i64 k,.int .i64 n,.str s,.lst l])=301:=rfl;omega
 | d+1=>λm k n s l hP e tk tn ts tl j fs i F pc S E hf I hSl=>Rd ho sl d (Nz sl d) m k n s l tk tn ts tl hP e j fs i F pc S E hf I hSl
theorem match_ (sl:Int):∀d,MD o sl d
 | 0=>λm k n s l _ I=>by have J:dM o sl 0 (.agg [.int .i64 k,.int .i64 n,.str s,.lst l])=301:=rfl;omega
 | d+1=>λm k n s l hP e tk tn ts tl j S E hSl=>OQ ho sl d (match_ sl d) m k n s l tk tn ts tl hP e j S E hSl
end
def iL (H:List Int):Lq:=H.map (D.int .i64)
theorem OB (H:List Int):(iL H).length=H.length:=List.length_map ..
theorem OD {H:List Int} {i h:Int} (hi:H[i.toNat]? =some h):(iL H)[i.toNat]? =some (.int .i64 h):=by unfold iL;rw[List.getElem?_map,hi];rfl
theorem OG {H:List Int} {k:Nat} {h:Int}:(iL H).set k (.int .i64 h)=iL (H.set k h):=by unfold iL;rw[List.map_set]
def gt (H:List Int) (i:Int):Int:=H.getD i.toNat 0
theorem OH {H:List Int} {i n:Int} (e:(H.length:Int)=n) (j:0<=i) (h:i<n):H[i.toNat]? =some (gt H i):=by
 unfold gt;have:i.toNat<H.length:=by omega
 rw[List.getD_eq_getElem?_getD,bA this];rfl
theorem lq {H:List Int} {i j n h:Int} (E:(H.length:Int)=n) (I:0<=i) (J:i<n) (g0:0<=j):gt (H.set i.toNat h) j=if j=i then h else gt H j:=by
 unfold gt;rw[List.getD_eq_getElem?_getD,List.getD_eq_getElem?_getD,List.getElem?_set];by_cases e:j=i
 ·subst e;rw[if_pos rfl,if_pos rfl,if_pos (by omega)];rfl
 rw[if_neg (by omega),if_neg e]
def tk (op n:Int):Int:=if op=4\/op=5\/op=6\/op=8 then n else if op=7 then 2 else if op=9\/op=12 then 1 else 0
def lv (op:Int):Int:=if op=1\/op=2\/op=3\/op=4\/op=5\/op=6\/op=7\/op=8 then 1 else 0
def dR (H:List Int) (a h:Int):List Int×Bool:=if gt H a= -1 then (H.set a.toNat h,true)else (H,gt H a==h)
def bp (n:Int) (H:List Int) (a h:Int):Option (List Int):=if n<=a then none else if 300<h then none else if gt H a<0 then some (H.set a.toNat h)else if gt H a=h then some H else none
section
variable {o:aM} (ho:aQ cu bw o)
include ho
theorem pA {H:List Int} {i n:Int} (j:(H.length:Int)=n) (e:0<=i) (h:i<n):o.cF (iL H) i=some (.int .i64 (gt H i)):=ay ho e (OD (OH j e h))
theorem Bf {H:List Int} {i h:Int} (e:0<=i):o.set (iL H) i (.int .i64 h)=iL (H.set i.toNat h):=by
 rw[ho.set];exact OG
theorem wJ {H:List Int}:o.len (iL H)=H.length:=by rw[ho.len,OB]
theorem KH (a0_0 a0_1:Int) (j:By) (E:Int):o.call 318 [.agg [Ai a0_0,Ai a0_1,As j,Ai E]] []=Ar (.tup [Ai (tk a0_0 a0_1),Ai (lv a0_0)]):=by
 refine ho.aL λR Q=> ?_
 conv=>lhs;cbv
 rcases av ho a0_0 1 with ⟨I,g1⟩|⟨I,g1⟩<;>(conv=>lhs;rw[I];cbv)
 ·rcases av ho a0_0 2 with ⟨J,g2⟩|⟨J,g2⟩<;>(conv=>lhs;rw[J];cbv)
  ·rcases av ho a0_0 3 with ⟨M,g3⟩|⟨M,g3⟩<;>(conv=>lhs;rw[M];cbv)
   ·rcases av ho a0_0 4 with ⟨O,g4⟩|⟨O,g4⟩<;>(conv=>lhs;rw[O];cbv)
    ·rcases av ho a0_0 5 with ⟨S,g5⟩|⟨S,g5⟩<;>(conv=>lhs;rw[S];cbv)
     ·rcases av ho a0_0 6 with ⟨U,g6⟩|⟨U,g6⟩<;>(conv=>lhs;rw[U];cbv)
      ·rcases av ho a0_0 8 with ⟨V,g7⟩|⟨V,g7⟩<;>(conv=>lhs;rw[V];cbv)
       ·rcases av ho a0_0 7 with ⟨e8,g8⟩|⟨e8,g8⟩<;>(conv=>lhs;rw[e8];cbv)
        ·rcases av ho a0_0 9 with ⟨e9,g9⟩|⟨e9,g9⟩<;>(conv=>lhs;rw[e9];cbv)
         ·rcases av ho a0_0 12 with ⟨e,a0⟩|⟨e,a0⟩<;>(conv=>lhs;rw[e];cbv)
          all_goals
           subst Q;simp_all [tk,lv]
         subst Q;simp_all [tk,lv]
        subst Q;simp_all [tk,lv]
       subst Q;simp_all [tk,lv]
      subst Q;simp_all [tk,lv]
     subst Q;simp_all [tk,lv]
    subst Q;simp_all [tk,lv]
   subst Q;simp_all [tk,lv]
  subst Q;simp_all [tk,lv]
 subst Q;simp_all [tk,lv]
theorem KI (a0_0 a0_1:Int) (e:By) (j:Int):o.call 350 [.agg [Ai a0_0,Ai a0_1,As e,Ai j]] []=Ar (Ai (tk a0_0 a0_1)):=by
 refine ho.aL λR Q=> ?_
 conv=>lhs;cbv
 rcases av ho a0_0 4 with ⟨E,g1⟩|⟨E,g1⟩<;>(conv=>lhs;rw[E];cbv)
 ·rcases av ho a0_0 5 with ⟨I,g2⟩|⟨I,g2⟩<;>(conv=>lhs;rw[I];cbv)
  ·rcases av ho a0_0 6 with ⟨J,g3⟩|⟨J,g3⟩<;>(conv=>lhs;rw[J];cbv)
   ·rcases av ho a0_0 8 with ⟨M,V⟩|⟨M,V⟩<;>(conv=>lhs;rw[M];cbv)
    ·rcases av ho a0_0 7 with ⟨O,g5⟩|⟨O,g5⟩<;>(conv=>lhs;rw[O];cbv)
     ·rcases av ho a0_0 9 with ⟨S,g6⟩|⟨S,g6⟩<;>(conv=>lhs;rw[S];cbv)
      ·rcases av ho a0_0 12 with ⟨U,g7⟩|⟨U,g7⟩<;>(conv=>lhs;rw[U];cbv)
       all_goals
        subst Q;simp_all [tk,lv]
      subst Q;simp_all [tk,lv]
     subst Q;simp_all [tk,lv]
    subst Q;simp_all [tk,lv]
   subst Q;simp_all [tk,lv]
  subst Q;simp_all [tk,lv]
 subst Q;simp_all [tk,lv]
theorem KJ (H:List Int) (y:Lq) (M:y=iL H) (n:Int) (I:(H.length:Int)=n) (a h:Int) (j:0<=a) (J:a<n):o.call 319 [.arr (1,0) (3,1) none true,Ai a,Ai h] [some (.rows (3,1) y)]=some ⟨Ab (dR H a h).2,[some (.rows (3,1) (iL (dR H a h).1))],[]⟩:=by
 refine ho.aL λR Q=> ?_
 obtain ⟨n1,a0,e⟩:∃v,v=gt H a/\o.cF y a=some (.int .i64 v):=⟨_,rfl,by rw[M];exact pA ho I j J⟩
 conv=>lhs;cbv;rw[e];cbv;(try (rw[e];cbv))
 rcases av ho n1 (-1)with ⟨O,g2⟩|⟨O,g2⟩<;>(conv=>lhs;rw[O];cbv)
 ·conv=>lhs;(try (rw[e];cbv));(try (rw[e];cbv))
  rcases av ho n1 h with ⟨E,g3⟩|⟨E,g3⟩<;>(conv=>lhs;rw[E];cbv)
  all_goals
   subst Q;unfold dR;first | (rw[if_pos (by omega)];simp_all;done) | (rw[if_neg (by omega)];simp_all;done) | omega
 obtain ⟨l1,S,E⟩:∃l,l=iL (H.set a.toNat h)/\o.set y a (.int .i64 h)=l:=⟨_,rfl,by rw[M];exact Bf ho j⟩
 obtain ⟨n2,a1,U⟩:∃v,v=h/\o.cF l1 a=some (.int .i64 v):=⟨_,rfl,by rw[S];exact (pA ho (by rw[List.length_set];exact I) j J).trans (by rw[lq I j J j,if_pos rfl])⟩
 conv=>lhs;(try (rw[e];cbv));(try (rw[e];cbv));rw[E];cbv;rw[U];cbv;(try (rw[U];cbv))
 rcases av ho n2 h with ⟨V,g5⟩|⟨V,g5⟩<;>(conv=>lhs;rw[V];cbv)
 all_goals
  subst Q;unfold dR;first | (rw[if_pos (by omega)];simp_all;done) | (rw[if_neg (by omega)];simp_all;done) | omega
theorem KL (H:List Int) (y:Lq) (e:y=iL H) (n:Int) (I:(H.length:Int)=n) (a h:Int) (J:0<=a) (bad:Bool):o.call 286 [.ptr (1,0) 0,Ai a,Ai h] [some (.box [.arr (1,1) (3,1) none true,Ab bad]),some (.rows (3,1) y)]=some ⟨.tup [],[some (.box [.arr (1,1) (3,1) none true,Ab ((bp n H a h).isNone || bad)]),some (.rows (3,1) (iL ((bp n H a h).getD H)))],[]⟩:=by
 refine ho.aL λR Q=> ?_
 obtain ⟨n1,a0,V⟩:∃v,v=n/\o.len y=v:=⟨_,rfl,by rw[e];exact (wJ ho).trans I⟩
 conv=>lhs;cbv;rw[V];cbv
 rcases jc ho a n1 with ⟨M,g2⟩|⟨M,g2⟩<;>(conv=>lhs;rw[M];cbv)
 ·rcases fB ho h 300 with ⟨O,g3⟩|⟨O,g3⟩<;>(conv=>lhs;rw[O];cbv)
  ·obtain ⟨n2,a1,j⟩:∃v,v=gt H a/\o.cF y a=some (.int .i64 v):=⟨_,rfl,by rw[e];exact pA ho I J (by omega)⟩
   conv=>lhs;rw[j];cbv;(try (rw[j];cbv))
   rcases bn ho n2 0 with ⟨S,g5⟩|⟨S,g5⟩<;>(conv=>lhs;rw[S];cbv)
   ·conv=>lhs;(try (rw[j];cbv));(try (rw[j];cbv))
    rcases cD ho n2 h with ⟨E,g6⟩|⟨E,g6⟩<;>(conv=>lhs;rw[E];cbv)
    ·subst Q;rw[e];unfold bp;rw[if_neg (by omega),if_neg (by omega),if_neg (by omega),if_pos (by omega)];rfl
    subst Q;rw[e];unfold bp;rw[if_neg (by omega),if_neg (by omega),if_neg (by omega),if_neg (by omega)];rfl
   obtain ⟨l1,U,E⟩:∃l,l=iL (H.set a.toNat h)/\o.set y a (.int .i64 h)=l:=⟨_,rfl,by rw[e];exact Bf ho J⟩
   conv=>lhs;(try (rw[j];cbv));(try (rw[j];cbv));rw[E];cbv
   subst Q;rw[U];unfold bp;rw[if_neg (by omega),if_neg (by omega),if_pos (by omega)];rfl
  subst Q;rw[e];unfold bp;rw[if_neg (by omega),if_pos (by omega)];rfl
 subst Q;rw[e];unfold bp;rw[if_pos (by omega)];rfl
theorem Bg (H:List Int) (n:Int) (e:(H.length:Int)=n) (a h:Int) (j:0<=a) (E:a<n):o.call 319 [.arr (1,0) (3,1) none true,Ai a,Ai h] [some (.rows (3,1) (iL H))]=some ⟨Ab (dR H a h).2,[some (.rows (3,1) (iL (dR H a h).1))],[]⟩:=KJ ho H _ rfl n e a h j E
theorem wK (H:List Int) (n:Int) (e:(H.length:Int)=n) (a h:Int) (j:0<=a) (bad:Bool):o.call 286 [.ptr (1,0) 0,Ai a,Ai h] [some (.box [.arr (1,1) (3,1) none true,Ab bad]),some (.rows (3,1) (iL H))]=some ⟨.tup [],[some (.box [.arr (1,1) (3,1) none true,Ab ((bp n H a h).isNone || bad)]),some (.rows (3,1) (iL ((bp n H a h).getD H)))],[]⟩:=KL ho H _ rfl n e a h j bad
end
end T2
