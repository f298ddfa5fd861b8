import Derived.Test.YtfnagkpidcdocaaGreatM17
set_option linter.all false
namespace T2
open Go Go.Vi
set_option maxRecDepth 100000
set_option maxHeartbeats 4000000
def q9:List D->List D
 | .lst l::r=>l++q9 r
 | _::r=>q9 r
 | []=>[]
theorem EG {l r:List D}:q9 (.lst l::r)=l++q9 r:=rfl
theorem Cz {o:aJ}:∀{n:Nat} {d:D},Rt o n d->Rt o (n+1) d
 | 0,_,h=>h.elim
 | n+1,_,⟨k,m,s,l,e,a,c⟩=>⟨k,m,s,l,e,a,λx hx=>Cz (c x hx)⟩
theorem xw {o:aJ} {n m:Nat} {d:D} (h:n<=m) (r:Rt o n d):Rt o m d:=by
 induction h with
 | refl=>exact r
 | step _ ih=>exact Cz ih
def OB (x:D):Prop:=∃l,x= .lst l/\(l.length:Int)<=1000/\∀y∈l,y.cells.length=4
def mq (l:List D):Option (List D):=match l[((l.length:Int)-1).toNat]? with
 | some (.agg [.int _ k,_,_,.lst x])=>if k=5 then some (l.take ((l.length:Int)-1).toNat++x)else none
 | _=>none
def HT (o:aJ) (t:D):D×Int:=if qm o t then (t,0)else (lf,4)
def gJ (o:aJ) (k:Int) (l:List D):D×Int:=
 if k=6 then (match mq l with | none=>(lf,3) | some x=>HT o (.agg [.int .i64 5,.int .i64 0,.str ⟨#[]⟩,.lst x]))
 else HT o (.agg [.int .i64 k,.int .i64 0,.str ⟨#[]⟩,.lst l])
def cv (r:D×Int):AV:=match r.1 with | .agg [a,b,c,d]=> .tup [.agg [.d a,.d b,.d c,.d d],.d (.int .i64 r.2)] | _=> .undef
section
variable {o:aJ} (ho:aR cF bB o)
include ho
theorem Nb (a1:Int) (h0:0<=a1) (hb:a1<=1048576):(∃l1,o.call 403 [.emp,Ai a1] []=some ⟨.arr (0,0) (31,4) (some (0,0)) false,[],[Os l1]⟩)\/o.call 403 [.emp,Ai a1] []=Ar (.emp):=by
 have e1:o.cmp .lss a1 0=false:=by first | assumption | exact Ol ho (by omega)
 have g1:=Mp ho e1;obtain ⟨n1,e2⟩:=kx (o.ar .sub .i64 0 0);try have g2:n1=0-0:=e2.symm.trans (dB ho (by omega) (by omega))
 obtain ⟨n2,e3⟩:=kx (o.ar .sub .i64 a1 n1);try have g3:n2=a1-n1:=e3.symm.trans (dB ho (by omega) (by omega))
 rcases fR ho n2 0 with ⟨e4,g4⟩|⟨e4,g4⟩
 ·exact .inr (ho.au (by cbv;repeat (simp only[e1,e2,e3,e4];try cbv)):_=Ar (.emp))
 ·have e5:o.isZero 0=true:=by rw[ho.isZero];rfl
  have e6:o.fF 56 n2=true:=by rw[ho.fF];exact decide_eq_true (by omega)
  obtain ⟨l1,e7⟩:=kx (o.qz n2 (.agg [.int .i64 0,.int .i64 0,.str ⟨#[]⟩,.lst []]));obtain ⟨n3,g8,e8⟩:∃n3,n3=0/\o.minus 0 0=n3:=⟨_,rfl,by rw[ho.minus];rfl⟩
  obtain ⟨l2,hl2,e9⟩:∃l2,l2=[]/\o.sub l1 0 n3=some l2:=⟨_,rfl,by rw[iB ho (Int.le_refl _) (by omega) (by omega),g8];rfl⟩
  refine .inl ⟨l1,?_⟩;have hp:=(ho.au (by cbv;repeat (simp only[e1,e2,e3,e4,e5,e6,e7,e8,e9];try cbv)):o.call 403 [.emp,Ai a1] []=some ⟨.arr (0,0) (31,4) (some (0,n3)) false,[],[Os l1]⟩)
  rw[g8]at hp;exact hp
def dP (a0:List D) (i n1 i1:Int):St:=⟨E 36 [(0,Al a0),(3,Ai i),(9,Al a0),(10,Ai n1),(11,Ai i1)],O 36 []⟩
def f9 (a0:List D) (i:Int):St:=⟨E 36 [(0,Al a0),(3,Ai i)],O 36 []⟩
def ig (a0:List D) (n1 i:Int) (y:List D):St:=⟨E 36 [(6,.arr (33,0) (31,4) none false),(25,Al a0),(26,Ai n1),(27,Ai i)],O 36 [(33,[Os y])]⟩
def f_ (y:List D):St:=⟨E 36 [(6,.arr (33,0) (31,4) none false)],O 36 [(33,[Os y])]⟩
def gK (a0:List D) (n1 i:Int) (y:List D):St:=⟨E 36 [(6,.arr (33,0) (31,4) none false),(25,Al a0),(26,Ai n1),(27,Ai i)],O 36 [(24,[none]),(33,[Os y])]⟩
def fN (y:List D):St:=⟨E 36 [(6,.arr (33,0) (31,4) none false)],O 36 [(24,[none]),(33,[Os y])]⟩
theorem OX (a0:List D) (hE:∀x∈a0,OB x) (n1:Int) (hn:(a0.length:Int)=n1) (hb:n1<=1000):∀i1:Int,0<=i1->i1<=(n1:Int)->∀i:Int,0<=i->i<=1000*i1->∃n2,o.loop 37800 (dP a0 i n1 i1)=some (.exit 0,f9 a0 n2)/\0<=n2/\n2<=1000*n1:=by
 refine bV (P:=λi1=>∀i:Int,0<=i->i<=1000*i1->∃n2,o.loop 37800 (dP a0 i n1 i1)=some (.exit 0,f9 a0 n2)/\0<=n2/\n2<=1000*n1) (n1:Int) ?_;intro i1 h0 h1 ih;try dsimp only at ih |-
 intro i b0 b1;rcases aZ ho i1 n1 with ⟨e1,g1⟩|⟨e1,g1⟩
 ·exact ⟨i,(ho.aB (by cbv;repeat (simp only[e1];try cbv)):_=some (.exit 0,f9 a0 i)),b0,by omega⟩
 ·obtain ⟨x,hx0,hx1,hx2⟩:=ax hn h0 g1;obtain ⟨l1,rfl,hl,hc⟩:=hE _ hx2;have e2:=ak ho h0 hx0;obtain ⟨n2,e3,g3⟩:=ay ho l1;obtain ⟨n3,e4⟩:=kx (o.ar .add .i64 i n2);try have g4:n3=i+n2:=e4.symm.trans (ck ho (by omega) (by omega))
  have e5:o.cmp .lss n3 0=false:=by first | assumption | exact Ol ho (by omega)
  have g5:=Mp ho e5;obtain ⟨n4,e6⟩:=kx (o.ar .add .i64 i1 1);try have g6:n4=i1+1:=e6.symm.trans (ck ho (by omega) (by omega))
  obtain ⟨n2',w1,w2,w3⟩:=ih (by omega) n3 (by omega) (by omega);rw[show i1+1=n4 by omega]at w1;exact ⟨n2',(λz (hz:o.loop 37800 (dP a0 n3 n1 n4)=some z)=>ho.aB (by rw[<-hz];cbv;repeat (simp only[e1,e2,e3,e4,e5,e6];try cbv)):∀z,o.loop 37800 (dP a0 n3 n1 n4)=some z->o.loop 37800 (dP a0 i n1 i1)=some z) _ w1,w2,w3⟩
theorem OY (a0:List D) (hE:∀x∈a0,OB x) (n1:Int) (hn:(a0.length:Int)=n1) (hb:n1<=1000):∀i:Int,0<=i->i<=(n1:Int)->∀y:List D,(y.length:Int)<=1000*i->(∀z∈y,z.cells.length=4)->o.loop 37801 (ig a0 n1 i y)=some (.exit 2,f_ (y++q9 (a0.drop i.toNat))):=by
 refine bV (P:=λi=>∀y:List D,(y.length:Int)<=1000*i->(∀z∈y,z.cells.length=4)->o.loop 37801 (ig a0 n1 i y)=some (.exit 2,f_ (y++q9 (a0.drop i.toNat)))) (n1:Int) ?_;intro i h0 h1 ih;try dsimp only at ih |-
 intro y hy hz;refine ho.dO λR Q=> ?_
 conv=>lhs;cbv
 rcases aZ ho i n1 with ⟨e1,g1⟩|⟨e1,g1⟩<;>(conv=>lhs;rw[e1];cbv)
 ·subst Q;rw[bf hn (by omega)];simp only[q9,List.append_nil];rfl
 ·obtain ⟨x,hx0,hx1,hx2⟩:=ax hn h0 g1;obtain ⟨l1,rfl,hl,hc⟩:=hE _ hx2;have e2:=ak ho h0 hx0;conv=>lhs;rw[e2];cbv
  obtain ⟨l2,hl2,e3⟩:∃l2,y++l1=l2/\o.app y l1=l2:=⟨_,rfl,ho.app _ _⟩
  have hz2:∀z∈l2,z.cells.length=4:=by
   intro z hzz;rw[<-hl2]at hzz;rcases List.mem_append.1 hzz with h | h
   ·exact hz z h
   ·exact hc z h
  have hlen:(l2.length:Int)<=1000*(i+1):=by rw[<-hl2,List.length_append];omega
  have e4:o.fits 4 56 l2=true:=by exact cn ho (by omega) (by decide) hz2
  obtain ⟨n2,e5,g5⟩:=aW ho i 1;conv=>lhs;rw[e3];cbv;rw[e4];cbv;rw[e5];cbv
  subst Q;rw[hx1,EG,<-List.append_assoc,hl2];rw[show n2=i+1 by omega];exact ih (by omega) l2 hlen hz2
theorem Nc (a0:List D) (hE:∀x∈a0,OB x) (n1:Int) (hn:(a0.length:Int)=n1) (hb:n1<=1000):∀i:Int,0<=i->i<=(n1:Int)->∀y:List D,(y.length:Int)<=1000*i->(∀z∈y,z.cells.length=4)->o.loop 37801 (gK a0 n1 i y)=some (.exit 2,fN (y++q9 (a0.drop i.toNat))):=by
 refine bV (P:=λi=>∀y:List D,(y.length:Int)<=1000*i->(∀z∈y,z.cells.length=4)->o.loop 37801 (gK a0 n1 i y)=some (.exit 2,fN (y++q9 (a0.drop i.toNat)))) (n1:Int) ?_;intro i h0 h1 ih;try dsimp only at ih |-
 intro y hy hz;refine ho.dO λR Q=> ?_
 conv=>lhs;cbv
 rcases aZ ho i n1 with ⟨e1,g1⟩|⟨e1,g1⟩<;>(conv=>lhs;rw[e1];cbv)
 ·subst Q;rw[bf hn (by omega)];simp only[q9,List.append_nil];rfl
 ·obtain ⟨x,hx0,hx1,hx2⟩:=ax hn h0 g1;obtain ⟨l1,rfl,hl,hc⟩:=hE _ hx2;have e2:=ak ho h0 hx0;conv=>lhs;rw[e2];cbv
  obtain ⟨l2,hl2,e3⟩:∃l2,y++l1=l2/\o.app y l1=l2:=⟨_,rfl,ho.app _ _⟩
  have hz2:∀z∈l2,z.cells.length=4:=by
   intro z hzz;rw[<-hl2]at hzz;rcases List.mem_append.1 hzz with h | h
   ·exact hz z h
   ·exact hc z h
  have hlen:(l2.length:Int)<=1000*(i+1):=by rw[<-hl2,List.length_append];omega
  have e4:o.fits 4 56 l2=true:=by exact cn ho (by omega) (by decide) hz2
  obtain ⟨n2,e5,g5⟩:=aW ho i 1;conv=>lhs;rw[e3];cbv;rw[e4];cbv;rw[e5];cbv
  subst Q;rw[hx1,EG,<-List.append_assoc,hl2];rw[show n2=i+1 by omega];exact ih (by omega) l2 hlen hz2
theorem HU (a0:List D) (hE:∀x∈a0,OB x) (hb:(a0.length:Int)<=1000):o.call 378 [Al a0] []=Ar (Al (q9 a0)):=by
 refine ho.aC λR Q=> ?_
 obtain ⟨n1,e1,g1⟩:=ay ho a0;conv=>lhs;cbv;rw[e1];cbv
 obtain ⟨n2,e2,w2,w3⟩:=OX ho a0 hE n1 g1.symm (by omega) 0 (Int.le_refl _) (by omega) 0 (Int.le_refl _) (by omega);conv at e2=>lhs;cbv
 conv=>lhs;rw[e2];cbv
 rcases Nb ho n2 w2 (by omega)with ⟨l1,e3⟩ | e3
 ·obtain ⟨l2,hl2,e5⟩:∃l2,l2=[]/\o.sub l1 0 0=some l2:=⟨_,rfl,by rw[iB ho (Int.le_refl _) (by omega) (by omega)];rfl⟩
  conv=>lhs;rw[e3];cbv;rw[ho.isZero];cbv;rw[e5];cbv;(try (rw[e1];cbv))
  obtain ⟨l3,hl3,e6⟩:∃l3,q9 a0=l3/\o.loop 37801 (gK a0 n1 0 l2)=some (.exit 2,fN l3):=⟨_,rfl,by rw[hl2];exact Nc ho a0 hE n1 g1.symm (by omega) 0 (Int.le_refl _) (by omega) [] (by simp) (λz hz=>by cases hz)⟩
  conv at e6=>lhs;cbv
  conv=>lhs;rw[e6];cbv
  subst Q;rw[hl3];try rfl
 ·conv=>lhs;rw[e3];cbv;(try (rw[e1];cbv))
  obtain ⟨l1,hl1,e4⟩:∃l1,q9 a0=l1/\o.loop 37801 (ig a0 n1 0 [])=some (.exit 2,f_ l1):=⟨_,rfl,OY ho a0 hE n1 g1.symm (by omega) 0 (Int.le_refl _) (by omega) [] (by simp) (λz hz=>by cases hz)⟩
  conv at e4=>lhs;cbv
  conv=>lhs;rw[e4];cbv
  subst Q;rw[hl1];try rfl
theorem HV (a0:List D) (hT:∀x∈a0,Rt o 8 x) (h1:1<=(a0.length:Int)) (hb:(a0.length:Int)<=1000):(mq a0=none/\o.call 351 [Al a0] []=Ar (.tup [At 0 0 ⟨#[]⟩ [],Ab false]))\/(∃l,mq a0=some l/\(l.length:Int)<=1060/\(∀x∈l,Rt o 8 x)/\o.call 351 [Al a0] []=Ar (.tup [At 5 0 ⟨#[]⟩ l,Ab true])):=by
 obtain ⟨n1,e1,g1⟩:=ay ho a0;obtain ⟨n2,e2⟩:=kx (o.ar .sub .i64 n1 1);try have g2:n2=n1-1:=e2.symm.trans (dB ho (by omega) (by omega))
 obtain ⟨x,hx0,hx1,hx2⟩:=ax (xs:=a0) rfl (show 0<=n2 by omega) (by omega);obtain ⟨m',n3,n4,s1,l1,hd',rfl,hs,ht⟩:=gb (hT _ hx2);have hlen1:=hU hs;have e3:o.dD a0 n2=some (.agg [.int .i64 n3,.int .i64 n4,.str s1,.lst l1]):=ak ho (by omega) hx0;have hcs:mq a0=if n3=5 then some (a0.take n2.toNat++l1)else none:=by
  unfold mq;rw[show (a0.length:Int)-1=n2 by omega,hx0]
 rcases cE ho n3 5 with ⟨e4,g4⟩|⟨e4,g4⟩
 ·obtain ⟨n5,g5,e5⟩:∃n5,n5=n2-0/\o.minus n2 0=n5:=⟨_,rfl,by rw[ho.minus]⟩
  obtain ⟨l2,hl2,e6⟩:∃l2,l2=a0.take n2.toNat/\o.sub a0 0 n5=some l2:=⟨_,rfl,by rw[iB ho (Int.le_refl _) (by omega) (by omega)];rw[show n5=n2 by omega];rfl⟩
  have hle2:(l2.length:Int)<=1000:=by rw[hl2,List.length_take];omega
  have hc2:∀z∈l2,z.cells.length=4:=λz hz=>eU (hT z (by rw[hl2]at hz;exact List.mem_of_mem_take hz))
  obtain ⟨l3,hl3,e7⟩:∃l3,l2++l1=l3/\o.call 378 [Al [.lst l2,.lst l1]] []=Ar (Al l3):=⟨_,rfl,(HU ho _ (λx hx=>by
   rcases List.mem_cons.1 hx with h | h
   ·exact ⟨l2,h,hle2,hc2⟩
   ·rcases List.mem_cons.1 h with h | h
    ·exact ⟨l1,h,by omega,λz hz=>eU (ht z hz)⟩
    ·cases h) (by simp)).trans (by simp only[q9,List.append_nil])⟩
  refine .inr ⟨l3,by rw[hcs,if_pos g4,<-hl2,hl3],by rw[<-hl3,List.length_append];omega,λx hx=> ?_,(ho.au (by cbv;repeat (simp only[e1,e2,e3,e4,e5,e6,e7];try cbv)):_=Ar (.tup [At 5 0 ⟨#[]⟩ l3,Ab true]))⟩;rw[<-hl3]at hx;rcases List.mem_append.1 hx with h | h
  ·exact hT x (by rw[hl2]at h;exact List.mem_of_mem_take h)
  ·exact xw (by omega) (ht x h)
 ·exact .inl ⟨by rw[hcs,if_neg g4],(ho.au (by cbv;repeat (simp only[e1,e2,e3,e4];try cbv)):_=Ar (.tup [At 0 0 ⟨#[]⟩ [],Ab false]))⟩
end
def SF (a b:Int):Int:=if a<b then-1 else if b<a then 1 else 0
def wX (o:aJ) (a b:ByteArray):Int:=if o.gM .lss a b=true then-1 else if o.gM .gtr a b=true then 1 else 0
def iJ (f:D->D->Int):List D->List D->Int
 | [],[]=>0
 | [],_::_=> -1
 | _::_,[]=>1
 | x::xs,y::ys=>if f x y=0 then iJ f xs ys else f x y
def cV (o:aJ):Nat->D->D->Int
 | d+1,.agg [.int _ k,.int _ n,.str s,.lst l],.agg [.int _ k',.int _ n',.str s',.lst l']=>
  if k≠k' then SF k k' else if k=1 then SF n n' else if k=3 then SF n n' else if k=2 then wX o s s' else if k=4/\(l.length:Int)≠(l'.length:Int)then SF l.length l'.length
  else if k=4\/k=5 then iJ (cV o d) l l' else 0
 | _,_,_=>0
theorem Fg {f:D->D->Int} {x y:D} {xs ys:List D}:iJ f (x::xs) (y::ys)=if f x y=0 then iJ f xs ys else f x y:=rfl
theorem Lz {o:aJ} {d:Nat} {k n:Int} {s:ByteArray} {l:List D} {k' n':Int} {s':ByteArray} {l':List D}:cV o (d+1) (.agg [.int .i64 k,.int .i64 n,.str s,.lst l]) (.agg [.int .i64 k',.int .i64 n',.str s',.lst l'])=
 if k≠k' then SF k k' else if k=1 then SF n n' else if k=3 then SF n n' else if k=2 then wX o s s' else if k=4/\(l.length:Int)≠(l'.length:Int)then SF l.length l'.length
 else if k=4\/k=5 then iJ (cV o d) l l' else 0:=rfl
theorem vp {o:aJ} {a b:ByteArray}:wX o a b<0↔o.gM .lss a b=true:=by unfold wX;split<;>(try split)<;>simp_all
theorem Kv {o:aJ} {k n:Int} {s:ByteArray} {l:List D} (h:jf o k n s l=true):k=1\/k=2\/k=3\/k=4\/k=5:=by
 unfold jf at h;by_cases k1:k=1; · exact .inl k1
 by_cases k2:k=2; · exact .inr (.inl k2)
 by_cases k3:k=3; · exact .inr (.inr (.inl k3))
 by_cases k4:k=4; · exact .inr (.inr (.inr (.inl k4)))
 by_cases k5:k=5; · exact .inr (.inr (.inr (.inr k5)))
 rw[if_neg k1,if_neg k2,if_neg k3,if_neg k4,if_neg k5]at h;cases h
theorem yL {a b:Int}:SF a b=0↔a=b:=by unfold SF;split<;>(try split)<;>omega
theorem vq {a b:Int}:SF a b<0↔a<b:=by unfold SF;split<;>(try split)<;>omega
theorem Fh {f:D->D->Int}:∀{xs ys:List D},(∀x∈xs,∀y∈ys,f x y=0↔x=y)->(iJ f xs ys=0↔xs=ys)
 | [],[],_=>by simp[iJ]
 | [],_::_,_=>by simp[iJ]
 | _::_,[],_=>by simp[iJ]
 | x::xs,y::ys,h=>by
  have h1:=h x (by simp) y (by simp);have h2:=Fh (f:=f) (xs:=xs) (ys:=ys) λa ha b hb=>h a (by simp[ha]) b (by simp[hb])
  simp only[iJ,List.cons.injEq];split
  ·rename_i e;rw[h2];simp[h1.1 e]
  ·rename_i e;constructor
   ·intro g;exact absurd g e
   ·intro g;exact absurd (h1.2 g.1) e
theorem z8 {f:D->D->Int} {ys:List D}:iJ f [] ys=if 0<(ys.length:Int)then-1 else 0:=by
 cases ys with
 | nil=>rfl
 | cons y ys=>simp only[iJ,List.length_cons];rw[if_pos (by omega)]
section
variable {o:aJ} (ho:aR cF bB o)
include ho
omit ho in
theorem xE:∀l:List UInt8,Op.bytesLess l l=false
 | []=>by simp[Op.bytesLess]
 | x::l=>by have:=xE l;simp[Op.bytesLess,this]
theorem LA {a b:ByteArray}:wX o a b=0↔a=b:=by
 unfold wX;have c1:o.gM .lss a b=Op.bytesLess a.toList b.toList:=ho.gM _ _ _;have c2:o.gM .gtr a b= !(Op.bytesLess a.toList b.toList || a.toList==b.toList):=ho.gM _ _ _;rw[c1,c2];by_cases h:Op.bytesLess a.toList b.toList=true
 ·rw[if_pos h];refine ⟨λh=>by omega,λe=> ?_⟩;subst e;rw[xE]at h;cases h
 ·rw[if_neg h];rw[Bool.not_eq_true]at h;by_cases h2:(a.toList==b.toList)=true
  ·rw[h,h2,if_neg (by decide)];simp only[true_iff];exact Ch (by simpa using h2)
  ·rw[Bool.not_eq_true]at h2;rw[h,h2,if_pos (by decide)];refine ⟨λh=>by omega,λe=> ?_⟩;subst e;simp at h2
theorem CN (a0:Int):o.call 382 [Ai a0] []=Ar (Ab false):=by
 refine ho.aC λR Q=> ?_
 conv=>lhs;cbv
 rcases cE ho a0 a0 with ⟨e1,g1⟩|⟨e1,g1⟩<;>(conv=>lhs;rw[e1];cbv)
 all_goals
  subst Q;first | exact absurd rfl g1 | rfl
theorem CO (a0:ByteArray):o.call 404 [As a0] []=Ar (Ab false):=by
 refine ho.aC λR Q=> ?_
 conv=>lhs;cbv
 rcases qk ho a0 a0 with ⟨e1,g1⟩|⟨e1,g1⟩<;>(conv=>lhs;rw[e1];cbv)
 all_goals
  subst Q;first | exact absurd rfl g1 | rfl
theorem rm (a0 a1:Int):o.call 379 [Ai a0,Ai a1] []=Ar (Ai (SF a0 a1)):=by
 refine ho.aC λR Q=> ?_
 have e1:o.call 382 [Ai a0] []=Ar (Ab false):=CN ho a0;have e2:o.call 382 [Ai a1] []=Ar (Ab false):=CN ho a1;conv=>lhs;cbv;rw[e1];cbv;rw[e2];cbv
 rcases aZ ho a0 a1 with ⟨e3,g3⟩|⟨e3,g3⟩<;>(conv=>lhs;rw[e3];cbv)
 ·rcases fR ho a0 a1 with ⟨e4,g4⟩|⟨e4,g4⟩<;>(conv=>lhs;rw[e4];cbv)
  all_goals
   subst Q;exact (Eq.refl _).trans (by unfold SF;first | rw[if_pos (by omega)] | rw[if_neg (by omega),if_pos (by omega)] | rw[if_neg (by omega),if_neg (by omega)])
 ·subst Q;exact (Eq.refl _).trans (by unfold SF;first | rw[if_pos (by omega)] | rw[if_neg (by omega),if_pos (by omega)] | rw[if_neg (by omega),if_neg (by omega)])
theorem Fj (a0 a1:ByteArray):o.call 380 [As a0,As a1] []=Ar (Ai (wX o a0 a1)):=by
 refine ho.aC λR Q=> ?_
 have e1:o.call 404 [As a0] []=Ar (Ab false):=CO ho a0;have e2:o.call 404 [As a1] []=Ar (Ab false):=CO ho a1;conv=>lhs;cbv;rw[e1];cbv;rw[e2];cbv
 cases e3:o.gM .lss a0 a1<;>(conv=>lhs;cbv)
 ·cases e4:o.gM .gtr a0 a1<;>(conv=>lhs;cbv)
  all_goals
   subst Q;exact (Eq.refl _).trans (by unfold wX;simp[*])
 ·subst Q;exact (Eq.refl _).trans (by unfold wX;simp[*])
def aK (a0 a1:List D) (n1 i:Int):St:=⟨E 39 [(0,Al a0),(1,Al a1),(2,.fn 352 []),(11,Al a0),(12,Ai n1),(13,Ai i)],O 39 []⟩
def dY (a0 a1:List D):St:=⟨E 39 [(0,Al a0),(1,Al a1),(6,Ai 1)],O 39 []⟩
def d9 (a0 a1:List D):St:=⟨E 39 [(0,Al a0),(1,Al a1)],O 39 []⟩
def d_ (a0 a1:List D) (n7:Int):St:=⟨E 39 [(0,Al a0),(1,Al a1),(6,Ai n7)],O 39 []⟩
def cg (a0_0 a0_1:Int) (a0_2:ByteArray) (a0_3:List D) (a1_0 a1_1:Int) (a1_2:ByteArray) (a1_3:List D) (i:Int):St:=⟨E 104 [(2,.sp [.int .i64 a0_0,.int .i64 a0_1,.str a0_2,.lst a0_3] 0),(3,.sp [.int .i64 a1_0,.int .i64 a1_1,.str a1_2,.lst a1_3] 0),(5,Ai i)],O 104 []⟩
def gC (a0_0 a0_1:Int) (a0_2:ByteArray) (a0_3:List D) (a1_0 a1_1:Int) (a1_2:ByteArray) (a1_3:List D):St:=⟨E 104 [(2,.sp [.int .i64 a0_0,.int .i64 a0_1,.str a0_2,.lst a0_3] 0),(3,.sp [.int .i64 a1_0,.int .i64 a1_1,.str a1_2,.lst a1_3] 0)],O 104 []⟩
def jn (a0_0 a0_1:Int) (a0_2:ByteArray) (a0_3:List D) (a1_0 a1_1:Int) (a1_2:ByteArray) (a1_3:List D) (b4:Bool):St:=⟨E 104 [(2,.sp [.int .i64 a0_0,.int .i64 a0_1,.str a0_2,.lst a0_3] 0),(3,.sp [.int .i64 a1_0,.int .i64 a1_1,.str a1_2,.lst a1_3] 0),(4,Ab b4)],O 104 []⟩
omit ho in
def OH (o:aJ) (d:Nat):Prop:=∀k n s l k' n' s' l' m,Tm d (.agg [.int .i64 k,.int .i64 n,.str s,.lst l])->Tm m (.agg [.int .i64 k',.int .i64 n',.str s',.lst l'])->o.call 352 [.agg [.d (.int .i64 k),.d (.int .i64 n),.d (.str s),.d (.lst l)],.agg [.d (.int .i64 k'),.d (.int .i64 n'),.d (.str s'),.d (.lst l')]] []=some ⟨.d (.int .i64 (cV o d (.agg [.int .i64 k,.int .i64 n,.str s,.lst l]) (.agg [.int .i64 k',.int .i64 n',.str s',.lst l']))),[],[]⟩
omit ho in
def O2 (o:aJ) (d:Nat):Prop:=∀k n s l k' n' s' l',Rt o d (.agg [.int .i64 k,.int .i64 n,.str s,.lst l])->Rt o d (.agg [.int .i64 k',.int .i64 n',.str s',.lst l'])->o.call 348 [.agg [.d (.int .i64 k),.d (.int .i64 n),.d (.str s),.d (.lst l)],.agg [.d (.int .i64 k'),.d (.int .i64 n'),.d (.str s'),.d (.lst l')]] []=some ⟨.d (.bool (decide (cV o d (.agg [.int .i64 k,.int .i64 n,.str s,.lst l]) (.agg [.int .i64 k',.int .i64 n',.str s',.lst l'])<0))),[],[]⟩
theorem NG (d:Nat) (IH:OH o d) (a0 a1:List D) {m2:Nat} (hT:∀x∈a0,Tm d x) (hT2:∀x∈a1,Tm m2 x) (n1:Int) (hn:(a0.length:Int)=n1) (n4:Int) (hn2:(a1.length:Int)=n4) (hl:n1<=1048576) (hl2:n4<=1048576):∀i:Int,0<=i->i<=(n1:Int)->i<=n4->(o.loop 38100 (aK a0 a1 n1 i)=some (.ret,dY a0 a1)/\iJ (cV o d) (a0.drop i.toNat) (a1.drop i.toNat)=1)\/(o.loop 38100 (aK a0 a1 n1 i)=some (.exit 0,d9 a0 a1)/\iJ (cV o d) (a0.drop i.toNat) (a1.drop i.toNat)=if n1<n4 then-1 else 0)\/(o.loop 38100 (aK a0 a1 n1 i)=some (.ret,d_ a0 a1 (iJ (cV o d) (a0.drop i.toNat) (a1.drop i.toNat)))):=by
 refine bV (P:=λi=>i<=n4->(o.loop 38100 (aK a0 a1 n1 i)=some (.ret,dY a0 a1)/\iJ (cV o d) (a0.drop i.toNat) (a1.drop i.toNat)=1)\/(o.loop 38100 (aK a0 a1 n1 i)=some (.exit 0,d9 a0 a1)/\iJ (cV o d) (a0.drop i.toNat) (a1.drop i.toNat)=if n1<n4 then-1 else 0)\/(o.loop 38100 (aK a0 a1 n1 i)=some (.ret,d_ a0 a1 (iJ (cV o d) (a0.drop i.toNat) (a1.drop i.toNat))))) (n1:Int) ?_;intro i h0 h1 ih;try dsimp only at ih |-
 intro h2;rcases aZ ho i n1 with ⟨e1,g1⟩|⟨e1,g1⟩
 ·refine .inr (.inl ⟨(ho.aB (by cbv;repeat (simp only[e1];try cbv)):_=some (.exit 0,d9 a0 a1)),?_⟩);rw[bf hn (by omega),z8,List.length_drop];by_cases h:n1<n4
  · rw[if_pos h,if_pos (by omega)]
  · rw[if_neg h,if_neg (by omega)]
 ·obtain ⟨x,hx0,hx1,hx2⟩:=ax hn h0 g1;obtain ⟨m',n2,n3,s1,l1,hd',rfl,hs,hl,ht⟩:=bP (hT _ hx2);have e2:=ak ho h0 hx0;have e3:o.len a1=n4:=(iI ho _).trans hn2;rcases je ho i n4 with ⟨e4,g4⟩|⟨e4,g4⟩
  ·obtain ⟨y,hy0,hy1,hy2⟩:=ax hn2 h0 g4;obtain ⟨m'',n5,n6,s2,l2,rfl,rfl,hs',hl',ht'⟩:=bP (hT2 _ hy2);have e5:=ak ho h0 hy0;obtain ⟨n7,he6⟩:∃v,cV o d (.agg [.int .i64 n2,.int .i64 n3,.str s1,.lst l1]) (.agg [.int .i64 n5,.int .i64 n6,.str s2,.lst l2])=v:=⟨_,rfl⟩
   have e6:o.call 352 [At n2 n3 s1 l1,At n5 n6 s2 l2] []=Ar (Ai n7):=(IH _ _ _ _ _ _ _ _ _ (hT _ hx2) (hT2 _ hy2)).trans (by rw[he6]);rcases cE ho n7 0 with ⟨e7,g7⟩|⟨e7,g7⟩
   ·obtain ⟨n8,e8⟩:=kx (o.ar .add .i64 i 1);try have g8:n8=i+1:=e8.symm.trans (ck ho (by omega) (by omega))
    have ih2:=ih (by omega) (by omega);rw[hx1,hy1];simp only[iJ];rw[he6,if_pos g7];rw[show i+1=n8 by omega]at ih2 |-;rcases ih2 with ⟨h,e⟩ | ⟨h,e⟩ | h
    ·exact .inl ⟨(λz (hz:o.loop 38100 (aK a0 a1 n1 n8)=some z)=>ho.aB (by rw[<-hz];cbv;repeat (simp only[e1,e2,e3,e4,e5,e6,e7,e8];try cbv)):∀z,o.loop 38100 (aK a0 a1 n1 n8)=some z->o.loop 38100 (aK a0 a1 n1 i)=some z) _ h,e⟩
    ·exact .inr (.inl ⟨(λz (hz:o.loop 38100 (aK a0 a1 n1 n8)=some z)=>ho.aB (by rw[<-hz];cbv;repeat (simp only[e1,e2,e3,e4,e5,e6,e7,e8];try cbv)):∀z,o.loop 38100 (aK a0 a1 n1 n8)=some z->o.loop 38100 (aK a0 a1 n1 i)=some z) _ h,e⟩)
    ·exact .inr (.inr ((λz (hz:o.loop 38100 (aK a0 a1 n1 n8)=some z)=>ho.aB (by rw[<-hz];cbv;repeat (simp only[e1,e2,e3,e4,e5,e6,e7,e8];try cbv)):∀z,o.loop 38100 (aK a0 a1 n1 n8)=some z->o.loop 38100 (aK a0 a1 n1 i)=some z) _ h))
   ·refine .inr (.inr ?_);rw[hx1,hy1];simp only[iJ];rw[he6,if_neg g7];exact (ho.aB (by cbv;repeat (simp only[e1,e2,e3,e4,e5,e6,e7];try cbv)):o.loop 38100 (aK a0 a1 n1 i)=some (.ret,d_ a0 a1 n7))
  ·refine .inl ⟨(ho.aB (by cbv;repeat (simp only[e1,e2,e3,e4];try cbv)):_=some (.ret,dY a0 a1)),?_⟩;rw[hx1,bf hn2 (by omega)];rfl
theorem z9 (d:Nat) (IH:OH o d) (a0 a1:List D) {m2:Nat} (hT:∀x∈a0,Tm d x) (hT2:∀x∈a1,Tm m2 x) (hl:(a0.length:Int)<=1048576) (hl2:(a1.length:Int)<=1048576):o.call 381 [Al a0,Al a1,.fn 352 []] []=Ar (Ai (iJ (cV o d) a0 a1)):=by
 refine ho.aC λR Q=> ?_
 obtain ⟨n1,e1,g1⟩:=ay ho a0;conv=>lhs;cbv;rw[e1];cbv
 have hl:=NG ho d IH a0 a1 hT hT2 n1 g1.symm _ rfl (by omega) (by omega) 0 (Int.le_refl _) (by omega) (by omega);rw[show (0:Int).toNat=0 from rfl,List.drop_zero,List.drop_zero]at hl;rcases hl with ⟨e2,h1⟩ | ⟨e2,h1⟩ | e2
 ·conv at e2=>lhs;cbv
  conv=>lhs;rw[e2];cbv
  subst Q;exact (Eq.refl _).trans (by rw[h1])
 ·conv at e2=>lhs;cbv
  obtain ⟨n2,e3⟩:∃v:Int,o.len a1=v:=⟨_,rfl⟩
  have g3:=e3.symm.trans (iI ho _);conv=>lhs;rw[e2];cbv;(try (rw[e1];cbv));rw[e3];cbv
  rcases aZ ho n1 n2 with ⟨e4,g4⟩|⟨e4,g4⟩<;>(conv=>lhs;rw[e4];cbv)
  ·subst Q;exact (Eq.refl _).trans (by rw[h1,if_neg (by omega)])
  ·subst Q;exact (Eq.refl _).trans (by rw[h1,if_pos (by omega)])
 ·obtain ⟨n2,hn2⟩:∃n2,n2=iJ (cV o d) a0 a1:=⟨_,rfl⟩
  rw[<-hn2]at e2;conv at e2=>lhs;cbv
  conv=>lhs;rw[e2];cbv
  subst Q;rw[<-hn2];try rfl
theorem O3 (d:Nat) (IH:OH o d) {m:Nat} (a0_0 a0_1:Int) (a0_2:ByteArray) (a0_3:List D) (a1_0 a1_1:Int) (a1_2:ByteArray) (a1_3:List D) (hT:Tm (d+1) (.agg [.int .i64 a0_0,.int .i64 a0_1,.str a0_2,.lst a0_3])) (hT2:Tm m (.agg [.int .i64 a1_0,.int .i64 a1_1,.str a1_2,.lst a1_3])):o.call 352 [At a0_0 a0_1 a0_2 a0_3,At a1_0 a1_1 a1_2 a1_3] []=Ar (Ai (cV o (d+1) (.agg [.int .i64 a0_0,.int .i64 a0_1,.str a0_2,.lst a0_3]) (.agg [.int .i64 a1_0,.int .i64 a1_1,.str a1_2,.lst a1_3]))):=by
 obtain ⟨d',hd,hs,hl,hT⟩:=iC hT;obtain rfl:d=d':=by omega
 obtain ⟨m,rfl,hs2,hl2,hT2⟩:=iC hT2;simp only[cV];refine ho.aC λR Q=> ?_
 conv=>lhs;cbv
 rcases cE ho a0_0 a1_0 with ⟨e1,g1⟩|⟨e1,g1⟩<;>(conv=>lhs;rw[e1];cbv)
 ·rcases aj ho a0_0 1 with ⟨e2,g2⟩|⟨e2,g2⟩<;>(conv=>lhs;rw[e2];cbv)
  ·rcases aj ho a0_0 3 with ⟨e3,g3⟩|⟨e3,g3⟩<;>(conv=>lhs;rw[e3];cbv)
   ·rcases aj ho a0_0 2 with ⟨e4,g4⟩|⟨e4,g4⟩<;>(conv=>lhs;rw[e4];cbv)
    ·rcases aj ho a0_0 4 with ⟨e5,g5⟩|⟨e5,g5⟩<;>(conv=>lhs;rw[e5];cbv)
     ·rcases aj ho a0_0 5 with ⟨e6,g6⟩|⟨e6,g6⟩<;>(conv=>lhs;rw[e6];cbv)
      ·subst Q;exact (Eq.refl _).trans (by simp_all)
      ·obtain ⟨n1,he7⟩:∃v,iJ (cV o d) a0_3 a1_3=v:=⟨_,rfl⟩
       have e7:o.call 381 [Al a0_3,Al a1_3,.fn 352 []] []=Ar (Ai n1):=(z9 ho d IH _ _ hT hT2 (by omega) (by omega)).trans (by rw[he7]);conv=>lhs;rw[e7];cbv
       subst Q;exact (Eq.refl _).trans (by simp_all)
     ·obtain ⟨n1,e6,g6⟩:=ay ho a0_3;obtain ⟨n2,e7,g7⟩:=ay ho a1_3;conv=>lhs;rw[e6];cbv;rw[e7];cbv
      rcases cE ho n1 n2 with ⟨e8,g8⟩|⟨e8,g8⟩<;>(conv=>lhs;rw[e8];cbv)
      ·obtain ⟨n3,he9⟩:∃v,iJ (cV o d) a0_3 a1_3=v:=⟨_,rfl⟩
       have e9:o.call 381 [Al a0_3,Al a1_3,.fn 352 []] []=Ar (Ai n3):=(z9 ho d IH _ _ hT hT2 (by omega) (by omega)).trans (by rw[he9]);conv=>lhs;rw[e9];cbv
       subst Q;exact (Eq.refl _).trans (by simp_all)
      ·obtain ⟨n3,e9⟩:=kx (SF n1 n2);conv=>lhs;(try (rw[e6];cbv));(try (rw[e7];cbv));rw[rm ho,e9];cbv
       subst Q;exact (Eq.refl _).trans (by simp_all)
    ·obtain ⟨n1,e5⟩:=kx (wX o a0_2 a1_2);conv=>lhs;rw[Fj ho,e5];cbv
     subst Q;exact (Eq.refl _).trans (by simp_all)
   ·obtain ⟨n1,e4⟩:=kx (SF a0_1 a1_1);conv=>lhs;rw[rm ho,e4];cbv
    subst Q;exact (Eq.refl _).trans (by simp_all)
  ·obtain ⟨n1,e3⟩:=kx (SF a0_1 a1_1);conv=>lhs;rw[rm ho,e3];cbv
   subst Q;exact (Eq.refl _).trans (by simp_all)
 ·obtain ⟨n1,e2⟩:=kx (SF a0_0 a1_0);conv=>lhs;rw[rm ho,e2];cbv
  subst Q;exact (Eq.refl _).trans (by simp_all)
theorem NH:∀d,OH o d
 | 0=>λ_ _ _ _ _ _ _ _ _ h=>h.elim
 | d+1=>λk n s l k' n' s' l' m h h2=>O3 ho d (NH d) k n s l k' n' s' l' h h2
theorem BB:∀d a b,Rt o d a->Rt o d b->(cV o d a b=0↔a=b)
 | 0,_,_,h,_=>h.elim
 | d+1,a,b,⟨k,n,s,l,ea,ha,hl⟩,⟨k',n',s',l',eb,hb,hl'⟩=>by
  subst ea eb;have hL:=Fh (f:=cV o d) (xs:=l) (ys:=l') λx hx y hy=>BB d x y (hl x hx) (hl' y hy)
  simp only[D.agg.injEq,List.cons.injEq,D.int.injEq,D.str.injEq,D.lst.injEq,true_and,and_true,cV];by_cases hk:k=k'
  ·subst hk;have e0:∀q:List D,(q.length:Int)=0->q=[]:=λq h=>List.length_eq_zero_iff.1 (by omega)
   simp only[jf]at ha hb;by_cases k1:k=1
   ·subst k1;simp only[if_true,af,decide_eq_true_eq]at ha hb;rw[if_neg (by simp),if_pos rfl,yL,ha.1.2,hb.1.2,e0 l ha.2,e0 l' hb.2];simp
   by_cases k3:k=3
   ·subst k3;simp only[show¬(3:Int)=1 by decide,show¬(3:Int)=2 by decide,if_true,if_false,af,decide_eq_true_eq]at ha hb;rw[if_neg (by simp),if_neg (by decide),if_pos rfl,yL,ha.1.2,hb.1.2,e0 l ha.2,e0 l' hb.2];simp
   by_cases k2:k=2
   ·subst k2;simp only[show¬(2:Int)=1 by decide,if_true,if_false,af,decide_eq_true_eq]at ha hb;rw[if_neg (by simp),if_neg (by decide),if_neg (by decide),if_pos rfl,LA ho,ha.1.2,hb.1.2,e0 l ha.2,e0 l' hb.2];simp
   rw[if_neg k1,if_neg k2,if_neg k3]at ha hb;by_cases k4:k=4
   ·subst k4;simp only[if_true,af,decide_eq_true_eq]at ha hb;rw[if_neg (by simp),if_neg k1,if_neg k3,if_neg k2,ha.1.1,hb.1.1,ha.1.2,hb.1.2];by_cases hh:(l.length:Int)=(l'.length:Int)
    ·rw[if_neg (by simp[hh]),if_pos (.inl rfl),hL];simp
    ·rw[if_pos ⟨rfl,hh⟩,yL];refine ⟨λh=>absurd h hh,λh=> ?_⟩;rw[h.2.2.2]
   rw[if_neg k4]at ha hb;by_cases k5:k=5
   ·subst k5;simp only[if_true,af,decide_eq_true_eq]at ha hb;rw[if_neg (by simp),if_neg k1,if_neg k3,if_neg k2,if_neg (by simp),if_pos (.inr rfl),hL,ha.1.1,hb.1.1,ha.1.2,hb.1.2];simp
   ·rw[if_neg k5]at ha;cases ha
  ·rw[if_pos hk,yL];simp[hk]
theorem IG {d:Nat} (a0_0 a0_1:Int) (a0_2:ByteArray) (a0_3:List D) (a1_0 a1_1:Int) (a1_2:ByteArray) (a1_3:List D) (hT:Rt o d (.agg [.int .i64 a0_0,.int .i64 a0_1,.str a0_2,.lst a0_3])) (hT2:Rt o d (.agg [.int .i64 a1_0,.int .i64 a1_1,.str a1_2,.lst a1_3])):o.call 291 [.agg [.d (.int .i64 a0_0),.d (.int .i64 a0_1),.d (.str a0_2),.d (.lst a0_3)],.agg [.d (.int .i64 a1_0),.d (.int .i64 a1_1),.d (.str a1_2),.d (.lst a1_3)]] []=some ⟨.d (.bool (decide (cV o d (.agg [.int .i64 a0_0,.int .i64 a0_1,.str a0_2,.lst a0_3]) (.agg [.int .i64 a1_0,.int .i64 a1_1,.str a1_2,.lst a1_3])<0))),[],[]⟩:=by
 refine ho.aC λR Q=> ?_
 obtain ⟨n1,he1⟩:∃v,cV o d (.agg [.int .i64 a0_0,.int .i64 a0_1,.str a0_2,.lst a0_3]) (.agg [.int .i64 a1_0,.int .i64 a1_1,.str a1_2,.lst a1_3])=v:=⟨_,rfl⟩
 have e1:o.call 352 [.agg [.d (.int .i64 a0_0),.d (.int .i64 a0_1),.d (.str a0_2),.d (.lst a0_3)],.agg [.d (.int .i64 a1_0),.d (.int .i64 a1_1),.d (.str a1_2),.d (.lst a1_3)]] []=some ⟨.d (.int .i64 n1),[],[]⟩:=(NH ho _ _ _ _ _ _ _ _ _ _ (iS hT) (iS hT2)).trans (by rw[he1]);conv=>lhs;cbv;rw[e1];cbv
 rcases aZ ho n1 0 with ⟨e2,g2⟩|⟨e2,g2⟩<;>(conv=>lhs;rw[e2];cbv)
 all_goals
  subst Q;exact (Eq.refl _).trans (by congr 3;congr 1;first | exact (decide_eq_false (by omega)).symm | exact (decide_eq_true (by omega)).symm)
theorem LB (d:Nat) (IH:O2 o d) (a0_0 a0_1:Int) (a0_2:ByteArray) (a0_3:List D) (a1_0 a1_1:Int) (a1_2:ByteArray) (a1_3:List D) (hT:∀x∈a0_3,Rt o d x) (hT2:∀x∈a1_3,Rt o d x) (n1:Int) (hn:(a0_3.length:Int)=n1) (n2:Int) (hn2:(a1_3.length:Int)=n2) (hl:n1<=1048576) (hl2:n2<=1048576):∀i:Int,0<=i->i<=(n1:Int)->i<=n2->(o.loop 34800 (cg a0_0 a0_1 a0_2 a0_3 a1_0 a1_1 a1_2 a1_3 i)=some (.exit 1,gC a0_0 a0_1 a0_2 a0_3 a1_0 a1_1 a1_2 a1_3)/\decide (iJ (cV o d) (a0_3.drop i.toNat) (a1_3.drop i.toNat)<0)=decide (n1<n2))\/(o.loop 34800 (cg a0_0 a0_1 a0_2 a0_3 a1_0 a1_1 a1_2 a1_3 i)=some (.ret,jn a0_0 a0_1 a0_2 a0_3 a1_0 a1_1 a1_2 a1_3 (decide (iJ (cV o d) (a0_3.drop i.toNat) (a1_3.drop i.toNat)<0)))):=by
 refine bV (P:=λi=>i<=n2->(o.loop 34800 (cg a0_0 a0_1 a0_2 a0_3 a1_0 a1_1 a1_2 a1_3 i)=some (.exit 1,gC a0_0 a0_1 a0_2 a0_3 a1_0 a1_1 a1_2 a1_3)/\decide (iJ (cV o d) (a0_3.drop i.toNat) (a1_3.drop i.toNat)<0)=decide (n1<n2))\/(o.loop 34800 (cg a0_0 a0_1 a0_2 a0_3 a1_0 a1_1 a1_2 a1_3 i)=some (.ret,jn a0_0 a0_1 a0_2 a0_3 a1_0 a1_1 a1_2 a1_3 (decide (iJ (cV o d) (a0_3.drop i.toNat) (a1_3.drop i.toNat)<0))))) (n1:Int) ?_;intro i h0 h1 ih;try dsimp only at ih |-
 intro h2;have e1:o.len a0_3=n1:=(iI ho _).trans hn;rcases aZ ho i n1 with ⟨e2,g2⟩|⟨e2,g2⟩
 ·refine .inl ⟨(ho.aB (by cbv;repeat (simp only[e1,e2];try cbv)):_=some (.exit 1,gC a0_0 a0_1 a0_2 a0_3 a1_0 a1_1 a1_2 a1_3)),?_⟩;rw[bf hn (by omega),z8,List.length_drop];by_cases h:n1<n2
  · rw[if_pos (by omega)];simp[h]
  · rw[if_neg (by omega)];simp[h]
 ·have e3:o.len a1_3=n2:=(iI ho _).trans hn2;rcases aZ ho i n2 with ⟨e4,g4⟩|⟨e4,g4⟩
  ·refine .inl ⟨(ho.aB (by cbv;repeat (simp only[e1,e2,e3,e4];try cbv)):_=some (.exit 1,gC a0_0 a0_1 a0_2 a0_3 a1_0 a1_1 a1_2 a1_3)),?_⟩;obtain ⟨x,_,hx1,_⟩:=ax hn h0 g2;rw[hx1,bf hn2 (by omega)];exact (decide_eq_false (show¬(1:Int)<0 by decide)).trans (decide_eq_false (by omega)).symm
  ·obtain ⟨x,hx0,hx1,hx2⟩:=ax hn h0 g2;obtain ⟨m',n3,n4,s1,l1,hd',rfl,hs,ht⟩:=gb (hT _ hx2);have e5:=ak ho h0 hx0;obtain ⟨y,hy0,hy1,hy2⟩:=ax hn2 h0 g4;obtain ⟨m'',n5,n6,s2,l2,hd'',rfl,hs',ht'⟩:=gb (hT2 _ hy2);have e6:=ak ho h0 hy0;cases he7:bN (.agg [.int .i64 n3,.int .i64 n4,.str s1,.lst l1]) (.agg [.int .i64 n5,.int .i64 n6,.str s2,.lst l2])
   ·have e7:o.call 347 [At n3 n4 s1 l1,At n5 n6 s2 l2] []=Ar (Ab false):=(yK ho _ _ _ _ _ _ _ _ _ _ (iS (hT _ hx2)) (iS (hT2 _ hy2))).trans (by rw[he7]);obtain ⟨b4,he8⟩:∃b:Bool,decide (cV o d (.agg [.int .i64 n3,.int .i64 n4,.str s1,.lst l1]) (.agg [.int .i64 n5,.int .i64 n6,.str s2,.lst l2])<0)=b:=⟨_,rfl⟩
    have e8:o.call 348 [At n3 n4 s1 l1,At n5 n6 s2 l2] []=Ar (Ab b4):=(IH _ _ _ _ _ _ _ _ (hT _ hx2) (hT2 _ hy2)).trans (by rw[he8]);refine .inr ?_;rw[hx1,hy1];rw[Fg,if_neg λh=>lz he7 ((BB ho d _ _ (hT _ hx2) (hT2 _ hy2)).1 h),he8];exact (ho.aB (by cbv;repeat (simp only[e1,e2,e3,e4,e5,e6,e7,e8];try cbv)):o.loop 34800 (cg a0_0 a0_1 a0_2 a0_3 a1_0 a1_1 a1_2 a1_3 i)=some (.ret,jn a0_0 a0_1 a0_2 a0_3 a1_0 a1_1 a1_2 a1_3 b4))
   ·have e7:o.call 347 [At n3 n4 s1 l1,At n5 n6 s2 l2] []=Ar (Ab true):=(yK ho _ _ _ _ _ _ _ _ _ _ (iS (hT _ hx2)) (iS (hT2 _ hy2))).trans (by rw[he7]);obtain ⟨n7,e8⟩:=kx (o.ar .add .i64 i 1);try have g8:n7=i+1:=e8.symm.trans (ck ho (by omega) (by omega))
    have ih2:=ih (by omega) (by omega);rw[hx1,hy1];rw[Fg,if_pos ((BB ho d _ _ (hT _ hx2) (hT2 _ hy2)).2 (lu he7))];rw[show i+1=n7 by omega]at ih2 |-;rcases ih2 with ⟨h,e⟩ | h
    ·exact .inl ⟨(λz (hz:o.loop 34800 (cg a0_0 a0_1 a0_2 a0_3 a1_0 a1_1 a1_2 a1_3 n7)=some z)=>ho.aB (by rw[<-hz];cbv;repeat (simp only[e1,e2,e3,e4,e5,e6,e7,e8];try cbv)):∀z,o.loop 34800 (cg a0_0 a0_1 a0_2 a0_3 a1_0 a1_1 a1_2 a1_3 n7)=some z->o.loop 34800 (cg a0_0 a0_1 a0_2 a0_3 a1_0 a1_1 a1_2 a1_3 i)=some z) _ h,e⟩
    ·exact .inr ((λz (hz:o.loop 34800 (cg a0_0 a0_1 a0_2 a0_3 a1_0 a1_1 a1_2 a1_3 n7)=some z)=>ho.aB (by rw[<-hz];cbv;repeat (simp only[e1,e2,e3,e4,e5,e6,e7,e8];try cbv)):∀z,o.loop 34800 (cg a0_0 a0_1 a0_2 a0_3 a1_0 a1_1 a1_2 a1_3 n7)=some z->o.loop 34800 (cg a0_0 a0_1 a0_2 a0_3 a1_0 a1_1 a1_2 a1_3 i)=some z) _ h)
theorem NI (d:Nat) (IH:O2 o d) (a0_0 a0_1:Int) (a0_2:ByteArray) (a0_3:List D) (a1_0 a1_1:Int) (a1_2:ByteArray) (a1_3:List D) (hT:Rt o (d+1) (.agg [.int .i64 a0_0,.int .i64 a0_1,.str a0_2,.lst a0_3])) (hT2:Rt o (d+1) (.agg [.int .i64 a1_0,.int .i64 a1_1,.str a1_2,.lst a1_3])):o.call 348 [.agg [.d (.int .i64 a0_0),.d (.int .i64 a0_1),.d (.str a0_2),.d (.lst a0_3)],.agg [.d (.int .i64 a1_0),.d (.int .i64 a1_1),.d (.str a1_2),.d (.lst a1_3)]] []=some ⟨.d (.bool (decide (cV o (d+1) (.agg [.int .i64 a0_0,.int .i64 a0_1,.str a0_2,.lst a0_3]) (.agg [.int .i64 a1_0,.int .i64 a1_1,.str a1_2,.lst a1_3])<0))),[],[]⟩:=by
 obtain ⟨d',hd,hs,hT⟩:=tK hT;obtain rfl:d=d':=by omega
 obtain ⟨d'',hd2,hs2,hT2⟩:=tK hT2;obtain rfl:d=d'':=by omega
 have l1:=hU hs;have l2:=hU hs2;rw[Lz];have hl:=LB ho d IH a0_0 a0_1 a0_2 a0_3 a1_0 a1_1 a1_2 a1_3 hT hT2 _ rfl _ rfl (by omega) (by omega) 0 (Int.le_refl _) (by omega) (by omega);rw[show (0:Int).toNat=0 from rfl,List.drop_zero,List.drop_zero]at hl;refine ho.aC λR Q=> ?_
 conv=>lhs;cbv
 rcases cE ho a0_0 a1_0 with ⟨e1,g1⟩|⟨e1,g1⟩<;>(conv=>lhs;rw[e1];cbv)
 ·rcases aj ho a0_0 1 with ⟨e2,g2⟩|⟨e2,g2⟩<;>(conv=>lhs;rw[e2];cbv)
  ·rcases aj ho a0_0 3 with ⟨e3,g3⟩|⟨e3,g3⟩<;>(conv=>lhs;rw[e3];cbv)
   ·rcases aj ho a0_0 2 with ⟨e4,g4⟩|⟨e4,g4⟩<;>(conv=>lhs;rw[e4];cbv)
    ·rcases aj ho a0_0 4 with ⟨e5,g5⟩|⟨e5,g5⟩<;>(conv=>lhs;rw[e5];cbv)
     ·rcases hl with ⟨e6,h1⟩ | e6
      ·conv at e6=>lhs;cbv
       obtain ⟨n1,e7,g7⟩:=ay ho a0_3;obtain ⟨n2,e8,g8⟩:=ay ho a1_3;conv=>lhs;rw[e6];cbv;rw[e7];cbv;rw[e8];cbv
       rcases aZ ho n1 n2 with ⟨e9,g9⟩|⟨e9,g9⟩<;>(conv=>lhs;rw[e9];cbv)
       all_goals
        subst Q;have k5:a0_0=5:=by have:=Kv hs;omega
        rw[if_neg (by omega),if_neg g2,if_neg g3,if_neg g4,if_neg (by omega),if_pos (.inr k5)];rw[h1];first | exact congrArg (λb=>some (bW.mk (.d (.bool b)) [] [])) (decide_eq_false (by omega)).symm | exact congrArg (λb=>some (bW.mk (.d (.bool b)) [] [])) (decide_eq_true (by omega)).symm
      ·obtain ⟨b6,hb6⟩:∃b,decide (iJ (cV o d) a0_3 a1_3<0)=b:=⟨_,rfl⟩
       rw[hb6]at e6;conv at e6=>lhs;cbv
       conv=>lhs;rw[e6];cbv
       subst Q;have k5:a0_0=5:=by have:=Kv hs;omega
       rw[if_neg (by omega),if_neg g2,if_neg g3,if_neg g4,if_neg (by omega),if_pos (.inr k5)];first | rw[hb6] | rw[hb7]
     ·obtain ⟨n1,e6,g6⟩:=ay ho a0_3;obtain ⟨n2,e7,g7⟩:=ay ho a1_3;conv=>lhs;rw[e6];cbv;rw[e7];cbv
      rcases cE ho n1 n2 with ⟨e8,g8⟩|⟨e8,g8⟩<;>(conv=>lhs;rw[e8];cbv)
      ·rcases hl with ⟨e9,h1⟩ | e9
       ·conv at e9=>lhs;cbv
        conv=>lhs;rw[e9];cbv;(try (rw[e6];cbv));(try (rw[e7];cbv))
        rcases aZ ho n1 n2 with ⟨e10,g10⟩|⟨e10,g10⟩<;>(conv=>lhs;rw[e10];cbv)
        all_goals
         subst Q;rw[if_neg (by omega),if_neg g2,if_neg g3,if_neg g4,if_neg (by omega),if_pos (.inl g5)];rw[h1];first | exact congrArg (λb=>some (bW.mk (.d (.bool b)) [] [])) (decide_eq_false (by omega)).symm | exact congrArg (λb=>some (bW.mk (.d (.bool b)) [] [])) (decide_eq_true (by omega)).symm
       ·obtain ⟨b7,hb7⟩:∃b,decide (iJ (cV o d) a0_3 a1_3<0)=b:=⟨_,rfl⟩
        rw[hb7]at e9;conv at e9=>lhs;cbv
        conv=>lhs;rw[e9];cbv
        subst Q;rw[if_neg (by omega),if_neg g2,if_neg g3,if_neg g4,if_neg (by omega),if_pos (.inl g5)];first | rw[hb6] | rw[hb7]
      ·conv=>lhs;(try (rw[e6];cbv));(try (rw[e7];cbv))
       rcases aZ ho n1 n2 with ⟨e9,g9⟩|⟨e9,g9⟩<;>(conv=>lhs;rw[e9];cbv)
       all_goals
        subst Q;clear IH hT hT2;exact (Eq.refl _).trans (by simp_all [vq,vp])
    ·cases e5:o.gM .lss a0_2 a1_2<;>(conv=>lhs;cbv)
     all_goals
      subst Q;clear IH hT hT2;exact (Eq.refl _).trans (by simp_all [vq,vp])
   ·rcases aZ ho a0_1 a1_1 with ⟨e4,g4⟩|⟨e4,g4⟩<;>(conv=>lhs;rw[e4];cbv)
    all_goals
     subst Q;clear IH hT hT2;exact (Eq.refl _).trans (by simp_all [vq,vp])
  ·rcases aZ ho a0_1 a1_1 with ⟨e3,g3⟩|⟨e3,g3⟩<;>(conv=>lhs;rw[e3];cbv)
   all_goals
    subst Q;clear IH hT hT2;exact (Eq.refl _).trans (by simp_all [vq,vp])
 ·rcases aZ ho a0_0 a1_0 with ⟨e2,g2⟩|⟨e2,g2⟩<;>(conv=>lhs;rw[e2];cbv)
  all_goals
   subst Q;clear IH hT hT2;exact (Eq.refl _).trans (by simp_all [vq,vp])
theorem Kw:∀d,O2 o d
 | 0=>λ_ _ _ _ _ _ _ _ h=>h.elim
 | d+1=>λk n s l k' n' s' l' h h2=>NI ho d (Kw d) k n s l k' n' s' l' h h2
end
end T2
