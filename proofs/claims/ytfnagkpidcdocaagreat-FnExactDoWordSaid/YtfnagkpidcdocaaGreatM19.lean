import Derived.Test.YtfnagkpidcdocaaGreatM18
set_option linter.all false
namespace T2
open Go Go.Vi
set_option maxRecDepth 100000
set_option maxHeartbeats 4000000
theorem OM {o:aM} {l:Lq} {k:Int} (e:∀x∈l,Rt o 8 x) (E:(l.length:Int)<=1060):Tm 9 (.agg [.int .i64 k,.int .i64 0,.str ⟨#[]⟩,.lst l]):=⟨k,0,_,l,rfl,by decide,by omega,λx j=>fO (e x j)⟩
theorem wT {o:aM} {t:D} (h:pO o t=true):Lj o t=(t,0):=by unfold Lj;rw[if_pos h]
theorem wU {o:aM} {t:D} (h:pO o t=false):Lj o t=(nB,4):=by unfold Lj;rw[h];rfl
theorem Ed {o:aM} {l:Lq} (h:nj l=none):ig o 6 l=(nB,3):=by unfold ig;rw[if_pos rfl,h]
theorem wV {o:aM} {l x:Lq} (h:nj l=some x):ig o 6 l=Lj o (.agg [.int .i64 5,.int .i64 0,.str ⟨#[]⟩,.lst x]):=by unfold ig;rw[if_pos rfl,h]
theorem sI {o:aM} {l:Lq} {k:Int} (h:k≠6):ig o k l=Lj o (.agg [.int .i64 k,.int .i64 0,.str ⟨#[]⟩,.lst l]):=by unfold ig;rw[if_neg h]
def Ln (o:aM) (r:D×Int):Prop:=∃k n s l,r.1= .agg [.int .i64 k,.int .i64 n,.str s,.lst l]/\(r.2=0\/r.2=3\/r.2=4)/\(r.2=0->Rt o 8 r.1)
theorem Am {o:aM} {c:Int} (h:c=3\/c=4):Ln o (nB,c):=⟨0,0,⟨#[]⟩,[],rfl,by simp only;omega,λe=>by simp only at e;omega⟩
theorem Ii {o:aM} {l:Lq} {k:Int} (e:∀x∈l,Rt o 8 x) (j:(l.length:Int)<=1060):Ln o (Lj o (.agg [.int .i64 k,.int .i64 0,.str ⟨#[]⟩,.lst l])):=by
 cases h:pO o (.agg [.int .i64 k,.int .i64 0,.str ⟨#[]⟩,.lst l])
 ·rw[wU h];exact Am (.inr rfl)
 rw[wT h];exact ⟨_,_,_,_,rfl,.inl rfl,λ_=>xE (OM e j) h⟩
theorem Fx {o:aM} {l x:Lq} (E:∀x∈l,Rt o 8 x) (S:(l.length:Int)<=1000) (h:nj l=some x):(x.length:Int)<=1060/\∀y∈x,Rt o 8 y:=by
 unfold nj at h;split at h
 ·rename_i k n y I;split at h
  ·injection h with h;obtain ⟨m,q⟩:=fE (E _ (List.mem_of_getElem? I));obtain ⟨k',c',s',l',e,j,J,M⟩:=q;injection j with j;simp only[List.cons.injEq,D.lst.injEq]at j;obtain ⟨_,_,_,rfl,_⟩:=j;have:=hU J;subst h;refine ⟨by rw[List.length_append,List.length_take];omega,λz O=> ?_⟩;rcases List.mem_append.1 O with h | h
   ·exact E z (List.mem_of_mem_take h)
   exact Ak (by omega) (M z h)
  cases h
 cases h
theorem nX {o:aM} {l:Lq} {k:Int} (e:∀x∈l,Rt o 8 x) (E:(l.length:Int)<=1000):Ln o (ig o k l):=by
 by_cases j:k=6
 ·subst j;cases h:nj l with
  | none=>rw[Ed h];exact Am (.inl rfl)
  | some x=>rw[wV h];have:=Fx e E h;exact Ii this.2 this.1
 rw[sI j];exact Ii e (by omega)
def tB (b:Bool):D:= .agg [.int .i64 2,.int .i64 0,.str (if b then ⟨#[116,114,117,101]⟩else ⟨#[102,97,108,115,101]⟩),.lst []]
def ab (x:Int):Int:=if x<0 then 0-x else x
def jg (o:aM) (a b:Int):Option Int:=if a=0 then some 0 else if b=0 then some 0 else if o.ar .quo .i64 1000000000000 (ab b)<ab a then none else some (o.ar .mul .i64 a b)
def Bm (n:Int):D×Int:=if jx n (-1000000000000) 1000000000000 then (.agg [.int .i64 1,.int .i64 n,.str ⟨#[]⟩,.lst []],0)else (nB,3)
def CM (o:aM) (s:By) (a b:Int):D×Int:=if s=⟨#[43]⟩then Bm (o.ar .add .i64 a b)else if s=⟨#[45]⟩then Bm (o.ar .sub .i64 a b)else match jg o a b with | none=>(nB,3) | some n=>Bm n
theorem Ij (n:Int):∃n1 n2 s l c,Bm n=(.agg [.int .i64 n1,.int .i64 n2,.str s,.lst l],c):=by
 unfold Bm;split
 ·exact ⟨_,_,_,_,_,rfl⟩
 exact ⟨_,_,_,_,_,rfl⟩
theorem Q7 (o:aM) (s:By) (a b:Int):∃n1 n2 s' l c,CM o s a b=(.agg [.int .i64 n1,.int .i64 n2,.str s',.lst l],c):=by
 unfold CM;split
 ·exact Ij _
 split
 ·exact Ij _
 split
 ·exact ⟨_,_,_,_,_,rfl⟩
 exact Ij _
noncomputable def CN (o:aM) (s:By):D->D->D×Int
 | .agg [.int _ k,.int _ n,.str t,.lst l],.agg [.int _ k',.int _ n',.str t',.lst l']=>
  if s=⟨#[61,61]⟩then (tB (cE (.agg [.int .i64 k,.int .i64 n,.str t,.lst l]) (.agg [.int .i64 k',.int .i64 n',.str t',.lst l'])),0)
  else if s=⟨#[60]⟩then (tB (decide (gR o 8 (.agg [.int .i64 k,.int .i64 n,.str t,.lst l]) (.agg [.int .i64 k',.int .i64 n',.str t',.lst l'])<0)),0)
  else if k≠1 then (nB,3)else if k'≠1 then (nB,3)else CM o s n n'
 | _,_=>(nB,3)
theorem kK {o:aM} {s:By} {k n k' n':Int} {t t':By} {l l':Lq}:CN o s (.agg [.int .i64 k,.int .i64 n,.str t,.lst l]) (.agg [.int .i64 k',.int .i64 n',.str t',.lst l'])=
 if s=⟨#[61,61]⟩then (tB (cE (.agg [.int .i64 k,.int .i64 n,.str t,.lst l]) (.agg [.int .i64 k',.int .i64 n',.str t',.lst l'])),0)
 else if s=⟨#[60]⟩then (tB (decide (gR o 8 (.agg [.int .i64 k,.int .i64 n,.str t,.lst l]) (.agg [.int .i64 k',.int .i64 n',.str t',.lst l'])<0)),0)
 else if k≠1 then (nB,3)else if k'≠1 then (nB,3)else CM o s n n':=rfl
section
variable {o:aM} (ho:aQ cu bw o)
include ho
theorem Q8 (e:Int) (j:Lq) (hk:e=4\/e=5\/e=6) (M:∀x∈j,Rt o 8 x) (h1:e=6->1<=(j.length:Int)) (hb:(j.length:Int)<=1000):o.call 288 [Ai e,Al j] []=Ar (cv (ig o e j)):=by
 refine ho.aL λR Q=> ?_
 conv=>lhs;cbv
 rcases av ho e 5 with ⟨S,g1⟩|⟨S,g1⟩<;>(conv=>lhs;rw[S];cbv)
 ·rcases av ho e 6 with ⟨U,g2⟩|⟨U,g2⟩<;>(conv=>lhs;rw[U];cbv)
  ·cases E:pO o (.agg [.int .i64 4,.int .i64 0,.str ⟨#[]⟩,.lst j])<;>(conv=>lhs;rw[nr ho _ _ _ _ (OM M (by omega)),E];cbv)
   ·subst Q;rw[(show e=4 by omega),sI (by omega),wU E];try rfl
   subst Q;rw[(show e=4 by omega),sI (by omega),wT E];try rfl
  rcases Lm ho j M (h1 g2) hb with ⟨hc,O⟩ | ⟨l1,hc,V,a3,O⟩
  ·conv=>lhs;rw[O];cbv
   subst Q;rw[g2,Ed hc];try rfl
  conv=>lhs;rw[O];cbv
  cases I:pO o (.agg [.int .i64 5,.int .i64 0,.str ⟨#[]⟩,.lst l1])<;>(conv=>lhs;rw[nr ho _ _ _ _ (OM a3 V),I];cbv)
  ·subst Q;rw[g2,wV hc,wU I];try rfl
  subst Q;rw[g2,wV hc,wT I];try rfl
 cases J:pO o (.agg [.int .i64 5,.int .i64 0,.str ⟨#[]⟩,.lst j])<;>(conv=>lhs;rw[nr ho _ _ _ _ (OM M (by omega)),J];cbv)
 ·subst Q;rw[g1,sI (by omega),wU J];try rfl
 subst Q;rw[g1,sI (by omega),wT J];try rfl
theorem Bn (j:Int) (e:Lq) (hk:j=4\/j=5\/j=6) (I:∀x∈e,Rt o 8 x) (h1:j=6->1<=(e.length:Int)) (hb:(e.length:Int)<=1000):o.call 282 [Ai j,Al e] []=Ar (cv (ig o j e)):=by
 refine ho.aL λR Q=> ?_
 conv=>lhs;cbv
 rcases av ho j 4 with ⟨e1,g1⟩|⟨e1,g1⟩<;>(conv=>lhs;rw[e1];cbv)
 ·rcases av ho j 6 with ⟨e2,g2⟩|⟨e2,g2⟩<;>(conv=>lhs;rw[e2];cbv)
  ·cases J:pO o (.agg [.int .i64 5,.int .i64 0,.str ⟨#[]⟩,.lst e])<;>(conv=>lhs;rw[nu ho _ _ _ _ (OM I (by omega)),J];cbv)
   ·subst Q;rw[(show j=5 by omega),sI (by omega),wU J];try rfl
   subst Q;rw[(show j=5 by omega),sI (by omega),wT J];try rfl
  obtain ⟨n1,e3,g3⟩:=aC ho e;have h1:=h1 g2;obtain ⟨n2,e4⟩:=kx (o.ar .sub .i64 n1 1);have g4:n2=n1-1:=e4.symm.trans (gj ho (by omega) (by omega));conv=>lhs;rw[e3];cbv;rw[e4];cbv
  obtain ⟨x,V,ae,a6⟩:=aF (xs:=e) rfl (show 0<=n2 by omega) (by omega);obtain ⟨m',n3,n4,s1,l1,ag,rfl,hs,ht⟩:=fE (I _ a6);have aa:=hU hs;have e5:o.cF e n2=some (.agg [.int .i64 n3,.int .i64 n4,.str s1,.lst l1]):=ay ho (by omega) V;have a3:nj e=if n3=5 then some (e.take n2.toNat++l1)else none:=by
   unfold nj;rw[show (e.length:Int)-1=n2 by omega,V]
  conv=>lhs;rw[e5];cbv
  rcases cD ho n3 5 with ⟨e6,g6⟩|⟨e6,g6⟩<;>(conv=>lhs;rw[e6];cbv)
  ·obtain ⟨n5,g7,M⟩:∃n5,n5=n2-0/\o.minus n2 0=n5:=⟨_,rfl,by rw[ho.minus]⟩
   obtain ⟨l2,O,e8⟩:∃l2,l2=e.take n2.toNat/\o.sub e 0 n5=some l2:=⟨_,rfl,by rw[iy ho (Int.le_refl _) (by omega) (by omega)];rw[show n5=n2 by omega];rfl⟩
   have ac:(l2.length:Int)<=1000:=by rw[O,List.length_take];omega
   have e9:o.fits 4 56 l2=true:=by exact cW ho (by omega) (by decide) (λz U=>fF (I z (by rw[O]at U;exact List.mem_of_mem_take U)))
   obtain ⟨l3,hl3,a7⟩:∃l3,l2++l1=l3/\o.app l2 l1=l3:=⟨_,rfl,ho.app _ _⟩
   have hc:nj e=some l3:=by rw[a3,if_pos g6,<-O,hl3]
   have a4:=Fx I hb hc;have a8:=a4.1;have a5:=a4.2;have a9:o.fits 4 56 l3=true:=by exact cW ho (by omega) (by decide) (λz U=>fF (a5 z U))
   conv=>lhs;rw[M];cbv;rw[e8];cbv;(try (rw[M];cbv));(try (rw[e5];cbv));rw[e9];cbv;(try (rw[M];cbv));rw[a7];cbv;(try (rw[M];cbv));rw[a9];cbv;(try (rw[M];cbv))
   cases E:pO o (.agg [.int .i64 5,.int .i64 0,.str ⟨#[]⟩,.lst l3])<;>(conv=>lhs;rw[nu ho _ _ _ _ (OM a5 a8),E];cbv)
   ·subst Q;rw[g2,wV hc,wU E];try rfl
   subst Q;rw[g2,wV hc,wT E];try rfl
  subst Q;rw[g2,Ed (by rw[a3,if_neg g6])];try rfl
 cases S:pO o (.agg [.int .i64 4,.int .i64 0,.str ⟨#[]⟩,.lst e])<;>(conv=>lhs;rw[nu ho _ _ _ _ (OM I (by omega)),S];cbv)
 ·subst Q;rw[g1,sI (by omega),wU S];try rfl
 subst Q;rw[g1,sI (by omega),wT S];try rfl
theorem Fy (e:Bool):o.call 290 [Ab e] []=Ar (At 2 0 (if e then ⟨#[116,114,117,101]⟩else ⟨#[102,97,108,115,101]⟩) []):=by
 refine ho.aL λR Q=> ?_
 conv=>lhs;cbv
 cases j:e;all_goals
  conv=>lhs;cbv
  subst Q;first | rfl | simp_all
theorem Fz (e:Bool):o.call 346 [Ab e] []=Ar (At 2 0 (if e then ⟨#[116,114,117,101]⟩else ⟨#[102,97,108,115,101]⟩) []):=by
 refine ho.aL λR Q=> ?_
 conv=>lhs;cbv
 cases j:e;all_goals
  conv=>lhs;cbv
  subst Q;first | rfl | simp_all
theorem Q9 (e:Int) (I: -1000000000000<=e/\e<=1000000000000):o.call 349 [Ai e] []=Ar (Ai (ab e)):=by
 refine ho.aL λR Q=> ?_
 conv=>lhs;cbv
 rcases bn ho e 0 with ⟨j,g1⟩|⟨j,g1⟩<;>(conv=>lhs;rw[j];cbv)
 ·subst Q;unfold ab;first | (rw[if_pos (by assumption)];simp only[*];done) | (rw[if_neg (by omega)];done)
 obtain ⟨n1,E,g2⟩:=aU ho 0 e;conv=>lhs;rw[E];cbv
 subst Q;unfold ab;first | (rw[if_pos (by assumption)];simp only[*];done) | (rw[if_neg (by omega)];done)
theorem Ik (j e:Int) (hb: -1000000000000<=j/\j<=1000000000000) (a3: -1000000000000<=e/\e<=1000000000000):(jg o j e=none/\o.call 353 [.d (.int .i64 j),.d (.int .i64 e)] []=some ⟨.tup [.d (.int .i64 0),.d (.bool false)],[],[]⟩)\/(∃n,jg o j e=some n/\o.call 353 [.d (.int .i64 j),.d (.int .i64 e)] []=some ⟨.tup [.d (.int .i64 n),.d (.bool true)],[],[]⟩):=by
 rcases av ho j 0 with ⟨O,g1⟩|⟨O,g1⟩
 ·rcases av ho e 0 with ⟨e2,g2⟩|⟨e2,g2⟩
  ·obtain ⟨n1,e3⟩:=kx (o.ar .sub .i64 0 j);try have g3:n1=0-j:=e3.symm.trans (gj ho (by omega) (by omega))
   rcases bn ho j n1 with ⟨e4,g4⟩|⟨e4,g4⟩
   ·obtain ⟨n2,S⟩:=kx (o.ar .sub .i64 0 e);try have g5:n2=0-e:=S.symm.trans (gj ho (by omega) (by omega))
    rcases bn ho e n2 with ⟨U,g6⟩|⟨U,g6⟩
    ·have V:o.isZero e=false:=by rw[ho.isZero];exact decide_eq_false (by omega)
     obtain ⟨n3,I⟩:=kx (o.ar .quo .i64 1000000000000 e);rcases fB ho j n3 with ⟨M,g9⟩|⟨M,g9⟩
     ·obtain ⟨n4,J⟩:=kx (o.ar .mul .i64 j e);have E:jg o j e=if o.ar .quo .i64 1000000000000 (ab e)<ab j then none else some (o.ar .mul .i64 j e):=by unfold jg;rw[if_neg g1,if_neg g2]
      rw[show ab j=j by unfold ab;split<;>omega,show ab e=e by unfold ab;split<;>omega]at E;rw[I]at E;refine .inr ⟨n4,?_,(ho.aj (by cbv;repeat (simp only[O,e2,e3,e4,S,U,V,I,M,J];try cbv)):_=some ⟨.tup [.d (.int .i64 n4),.d (.bool true)],[],[]⟩)⟩;rw[E,if_neg (by omega),J]
     have E:jg o j e=if o.ar .quo .i64 1000000000000 (ab e)<ab j then none else some (o.ar .mul .i64 j e):=by unfold jg;rw[if_neg g1,if_neg g2]
     rw[show ab j=j by unfold ab;split<;>omega,show ab e=e by unfold ab;split<;>omega]at E;rw[I]at E;refine .inl ⟨?_,(ho.aj (by cbv;repeat (simp only[O,e2,e3,e4,S,U,V,I,M];try cbv)):_=some ⟨.tup [.d (.int .i64 0),.d (.bool false)],[],[]⟩)⟩;rw[E,if_pos (by omega)]
    have V:o.isZero n2=false:=by rw[ho.isZero];exact decide_eq_false (by omega)
    obtain ⟨n3,I⟩:=kx (o.ar .quo .i64 1000000000000 n2);rcases fB ho j n3 with ⟨M,g9⟩|⟨M,g9⟩
    ·obtain ⟨n4,J⟩:=kx (o.ar .mul .i64 j e);have E:jg o j e=if o.ar .quo .i64 1000000000000 (ab e)<ab j then none else some (o.ar .mul .i64 j e):=by unfold jg;rw[if_neg g1,if_neg g2]
     rw[show ab j=j by unfold ab;split<;>omega,show ab e=n2 by unfold ab;split<;>omega]at E;rw[I]at E;refine .inr ⟨n4,?_,(ho.aj (by cbv;repeat (simp only[O,e2,e3,e4,S,U,V,I,M,J];try cbv)):_=some ⟨.tup [.d (.int .i64 n4),.d (.bool true)],[],[]⟩)⟩;rw[E,if_neg (by omega),J]
    have E:jg o j e=if o.ar .quo .i64 1000000000000 (ab e)<ab j then none else some (o.ar .mul .i64 j e):=by unfold jg;rw[if_neg g1,if_neg g2]
    rw[show ab j=j by unfold ab;split<;>omega,show ab e=n2 by unfold ab;split<;>omega]at E;rw[I]at E;refine .inl ⟨?_,(ho.aj (by cbv;repeat (simp only[O,e2,e3,e4,S,U,V,I,M];try cbv)):_=some ⟨.tup [.d (.int .i64 0),.d (.bool false)],[],[]⟩)⟩;rw[E,if_pos (by omega)]
   obtain ⟨n2,S⟩:=kx (o.ar .sub .i64 0 e);try have g5:n2=0-e:=S.symm.trans (gj ho (by omega) (by omega))
   rcases bn ho e n2 with ⟨U,g6⟩|⟨U,g6⟩
   ·have V:o.isZero e=false:=by rw[ho.isZero];exact decide_eq_false (by omega)
    obtain ⟨n3,I⟩:=kx (o.ar .quo .i64 1000000000000 e);rcases fB ho n1 n3 with ⟨M,g9⟩|⟨M,g9⟩
    ·obtain ⟨n4,J⟩:=kx (o.ar .mul .i64 j e);have E:jg o j e=if o.ar .quo .i64 1000000000000 (ab e)<ab j then none else some (o.ar .mul .i64 j e):=by unfold jg;rw[if_neg g1,if_neg g2]
     rw[show ab j=n1 by unfold ab;split<;>omega,show ab e=e by unfold ab;split<;>omega]at E;rw[I]at E;refine .inr ⟨n4,?_,(ho.aj (by cbv;repeat (simp only[O,e2,e3,e4,S,U,V,I,M,J];try cbv)):_=some ⟨.tup [.d (.int .i64 n4),.d (.bool true)],[],[]⟩)⟩;rw[E,if_neg (by omega),J]
    have E:jg o j e=if o.ar .quo .i64 1000000000000 (ab e)<ab j then none else some (o.ar .mul .i64 j e):=by unfold jg;rw[if_neg g1,if_neg g2]
    rw[show ab j=n1 by unfold ab;split<;>omega,show ab e=e by unfold ab;split<;>omega]at E;rw[I]at E;refine .inl ⟨?_,(ho.aj (by cbv;repeat (simp only[O,e2,e3,e4,S,U,V,I,M];try cbv)):_=some ⟨.tup [.d (.int .i64 0),.d (.bool false)],[],[]⟩)⟩;rw[E,if_pos (by omega)]
   have V:o.isZero n2=false:=by rw[ho.isZero];exact decide_eq_false (by omega)
   obtain ⟨n3,I⟩:=kx (o.ar .quo .i64 1000000000000 n2);rcases fB ho n1 n3 with ⟨M,g9⟩|⟨M,g9⟩
   ·obtain ⟨n4,J⟩:=kx (o.ar .mul .i64 j e);have E:jg o j e=if o.ar .quo .i64 1000000000000 (ab e)<ab j then none else some (o.ar .mul .i64 j e):=by unfold jg;rw[if_neg g1,if_neg g2]
    rw[show ab j=n1 by unfold ab;split<;>omega,show ab e=n2 by unfold ab;split<;>omega]at E;rw[I]at E;refine .inr ⟨n4,?_,(ho.aj (by cbv;repeat (simp only[O,e2,e3,e4,S,U,V,I,M,J];try cbv)):_=some ⟨.tup [.d (.int .i64 n4),.d (.bool true)],[],[]⟩)⟩;rw[E,if_neg (by omega),J]
   have E:jg o j e=if o.ar .quo .i64 1000000000000 (ab e)<ab j then none else some (o.ar .mul .i64 j e):=by unfold jg;rw[if_neg g1,if_neg g2]
   rw[show ab j=n1 by unfold ab;split<;>omega,show ab e=n2 by unfold ab;split<;>omega]at E;rw[I]at E;refine .inl ⟨?_,(ho.aj (by cbv;repeat (simp only[O,e2,e3,e4,S,U,V,I,M];try cbv)):_=some ⟨.tup [.d (.int .i64 0),.d (.bool false)],[],[]⟩)⟩;rw[E,if_pos (by omega)]
  exact .inr ⟨0,by unfold jg;rw[if_neg g1,if_pos g2],(ho.aj (by cbv;repeat (simp only[O,e2];try cbv)):_=some ⟨.tup [.d (.int .i64 0),.d (.bool true)],[],[]⟩)⟩
 exact .inr ⟨0,by unfold jg;rw[if_pos g1],(ho.aj (by cbv;repeat (simp only[O];try cbv)):_=some ⟨.tup [.d (.int .i64 0),.d (.bool true)],[],[]⟩)⟩
theorem OO (I:By) (j a2:Int) (U: -1000000000000<=j/\j<=1000000000000) (O: -1000000000000<=a2/\a2<=1000000000000):o.call 292 [As I,Ai j,Ai a2] []=Ar (cv (CM o I j a2)):=by
 refine ho.aL λR Q=> ?_
 conv=>lhs;cbv
 rcases aR ho I ⟨#[43]⟩with ⟨S,g1⟩|⟨S,g1⟩<;>(conv=>lhs;rw[S];cbv)
 ·rcases aR ho I ⟨#[45]⟩with ⟨J,g2⟩|⟨J,g2⟩<;>(conv=>lhs;rw[J];cbv)
  ·rcases Ik ho j a2 U O with ⟨V,e⟩ | ⟨n1,V,e⟩
   ·conv=>lhs;rw[e];cbv
    subst Q;unfold CM;simp_all [Bm,cv,nB]
   conv=>lhs;rw[e];cbv
   rcases aX n1 (-1000000000000) 1000000000000 with ⟨E,M⟩|⟨E,M⟩
   all_goals
    conv=>lhs;rw[aD ho,E];cbv
    subst Q;unfold CM;simp_all [Bm,cv,nB]
  obtain ⟨n1,e,g3⟩:=aU ho j a2;conv=>lhs;rw[e];cbv
  rcases aX n1 (-1000000000000) 1000000000000 with ⟨E,M⟩|⟨E,M⟩
  all_goals
   conv=>lhs;rw[aD ho,E];cbv
   subst Q;unfold CM;simp_all [Bm,cv,nB]
 obtain ⟨n1,J,g2⟩:=bk ho j a2;conv=>lhs;rw[J];cbv
 rcases aX n1 (-1000000000000) 1000000000000 with ⟨e,g3⟩|⟨e,g3⟩
 all_goals
  conv=>lhs;rw[aD ho,e];cbv
  subst Q;unfold CM;simp_all [Bm,cv,nB]
omit ho in
theorem FA {k n:Int} {s:By} {l:Lq} (h:jw o k n s l=true) (hk:k=1): -1000000000000<=n/\n<=1000000000000:=by
 unfold jw at h;rw[if_pos hk]at h;simp only[af]at h;exact cL h.1.1
theorem GJ (J:By) (a1_0 a1_1:Int) (a1_2:By) (a1_3:Lq) (j e:Int) (E:By) (I:Lq) (hT:Rt o 8 (.agg [.int .i64 a1_0,.int .i64 a1_1,.str a1_2,.lst a1_3])) (O:Rt o 8 (.agg [.int .i64 j,.int .i64 e,.str E,.lst I])):o.call 198 [As J,At a1_0 a1_1 a1_2 a1_3,At j e E I] []=Ar (cv (CN o J (.agg [.int .i64 a1_0,.int .i64 a1_1,.str a1_2,.lst a1_3]) (.agg [.int .i64 j,.int .i64 e,.str E,.lst I]))):=by
 obtain ⟨m1,a6,a4,_⟩:=lI hT;obtain ⟨m2,a7,hs2,_⟩:=lI O;refine ho.aL λR Q=> ?_
 conv=>lhs;cbv
 rcases aR ho J ⟨#[61,61]⟩with ⟨e1,g1⟩|⟨e1,g1⟩<;>(conv=>lhs;rw[e1];cbv)
 ·rcases aR ho J ⟨#[60]⟩with ⟨e2,g2⟩|⟨e2,g2⟩<;>(conv=>lhs;rw[e2];cbv)
  ·rcases cD ho a1_0 1 with ⟨M,g3⟩|⟨M,g3⟩<;>(conv=>lhs;rw[M];cbv)
   ·rcases cD ho j 1 with ⟨e4,g4⟩|⟨e4,g4⟩<;>(conv=>lhs;rw[e4];cbv)
    ·have hb:=FA a4 g3;have a5:=FA hs2 g4;obtain ⟨n1,n2,s1,l1,n3,hA,e5⟩:∃n1 n2 s1 l1 n3,CM o J a1_1 e=(.agg [.int .i64 n1,.int .i64 n2,.str s1,.lst l1],n3)/\o.call 292 [As J,Ai a1_1,Ai e] []=Ar (.tup [At n1 n2 s1 l1,Ai n3]):=by
      have h:=OO ho J a1_1 e hb a5;obtain ⟨n1,n2,s1,l1,n3,hA⟩:=Q7 o J a1_1 e;exact ⟨n1,n2,s1,l1,n3,hA,by rw[h,hA];rfl⟩
     conv=>lhs;rw[e5];cbv
     subst Q;rw[kK,if_neg g1,if_neg g2,if_neg (λh=>h g3),if_neg (λh=>h g4),hA];try rfl
    subst Q;rw[kK,if_neg g1,if_neg g2,if_neg (λh=>h g3),if_pos g4];try rfl
   subst Q;rw[kK,if_neg g1,if_neg g2,if_pos g3];try rfl
  obtain ⟨S,a1⟩:∃b:Bool,decide (gR o 8 (.agg [.int .i64 a1_0,.int .i64 a1_1,.str a1_2,.lst a1_3]) (.agg [.int .i64 j,.int .i64 e,.str E,.lst I])<0)=b:=⟨_,rfl⟩
  have M:o.call 291 [At a1_0 a1_1 a1_2 a1_3,At j e E I] []=Ar (Ab S):=(LW ho _ _ _ _ _ _ _ _ hT O).trans (by rw[a1]);obtain ⟨s1,U,e4⟩:∃s1,(if S then (⟨#[116,114,117,101]⟩:By)else ⟨#[102,97,108,115,101]⟩)=s1/\o.call 290 [Ab S] []=Ar (At 2 0 s1 []):=⟨_,rfl,Fy ho S⟩
  conv=>lhs;rw[M];cbv;rw[e4];cbv
  subst Q;rw[kK,if_neg g1,if_pos g2,a1];show _=some (cn.mk (cv (tB S,0)) [] []);unfold tB;rw[U];try rfl
 obtain ⟨V,a3⟩:∃b:Bool,cE (.agg [.int .i64 a1_0,.int .i64 a1_1,.str a1_2,.lst a1_3]) (.agg [.int .i64 j,.int .i64 e,.str E,.lst I])=b:=⟨_,rfl⟩
 have e2:o.call 66 [At a1_0 a1_1 a1_2 a1_3,At j e E I] []=Ar (Ab V):=(Em ho 8 _ _ _ _ _ _ _ _ 8 (fO hT) (fO O)).trans (by rw[a3]);obtain ⟨s1,U,M⟩:∃s1,(if V then (⟨#[116,114,117,101]⟩:By)else ⟨#[102,97,108,115,101]⟩)=s1/\o.call 290 [Ab V] []=Ar (At 2 0 s1 []):=⟨_,rfl,Fy ho V⟩
 conv=>lhs;rw[e2];cbv;rw[M];cbv
 subst Q;rw[kK,if_pos g1,a3];show _=some (cn.mk (cv (tB V,0)) [] []);unfold tB;rw[U];try rfl
theorem GK (
            a0:By) (a1_0 a1_1:Int) (a1_2:By) (a1_3:Lq) (j e:Int) (E:By) (I:Lq) (hT:Rt o 8 (.agg [.int .i64 a1_0,.int .i64 a1_1,.str a1_2,.lst a1_3])) (a1:Rt o 8 (.agg [.int .i64 j,.int .i64 e,.str E,.lst I])):o.call 283 [.d (.str a0),.agg [.d (.int .i64 a1_0),.d (.int .i64 a1_1),.d (.str a1_2),.d (.lst a1_3)],.agg [.d (.int .i64 j),.d (.int .i64 e),.d (.str E),.d (.lst I)]] []=some ⟨cv (CN o a0 (.agg [.int .i64 a1_0,.int .i64 a1_1,.str a1_2,.lst a1_3]) (.agg [.int .i64 j,.int .i64 e,.str E,.lst I])),[],[]⟩:=by
 obtain ⟨m1,ap,ae,_⟩:=lI hT;obtain ⟨m2,aw,hs2,_⟩:=lI a1;refine ho.aL λR Q=> ?_
 conv=>lhs;cbv
 rcases aR ho a0 ⟨#[61,61]⟩with ⟨e1,g1⟩|⟨e1,g1⟩<;>(conv=>lhs;rw[e1];cbv)
 ·rcases aR ho a0 ⟨#[60]⟩with ⟨e2,g2⟩|⟨e2,g2⟩<;>(conv=>lhs;rw[e2];cbv)
  ·rcases cD ho a1_0 1 with ⟨e3,g3⟩|⟨e3,g3⟩<;>(conv=>lhs;rw[e3];cbv)
   ·rcases cD ho j 1 with ⟨e4,M⟩|⟨e4,M⟩<;>(conv=>lhs;rw[e4];cbv)
    ·have hb:=FA ae g3;have az:=FA hs2 M;rcases aR ho a0 ⟨#[43]⟩with ⟨e5,V⟩|⟨e5,V⟩
     ·conv=>lhs;rw[e5];cbv
      rcases aR ho a0 ⟨#[45]⟩with ⟨e6,g6⟩|⟨e6,g6⟩<;>(conv=>lhs;rw[e6];cbv)
      ·rcases cD ho a1_1 0 with ⟨O,S⟩|⟨O,S⟩<;>(conv=>lhs;rw[O];cbv)
       ·obtain ⟨n1,U⟩:=kx (o.ar .mul .i64 a1_1 e);conv=>lhs;rw[U];cbv
        rcases aX n1 (-1000000000000) 1000000000000 with ⟨J,g9⟩|⟨J,g9⟩
        all_goals
         conv=>lhs;rw[aJ ho,J];cbv
         subst Q;rw[kK,if_neg g1,if_neg g2,if_neg (λh=>h g3),if_neg (λh=>h M)];unfold CM;rw[if_neg V,if_neg g6];rw[show jg o a1_1 e=some 0 by unfold jg;rw[if_pos S]];obtain rfl:n1=0:=by
           rw[<-U,S];exact (Og ho (by rw[Int.zero_mul];omega) (by rw[Int.zero_mul];omega)).trans (Int.zero_mul _)
         show _=some (cn.mk (cv (Bm 0)) [] []);unfold Bm;rw[J];try rfl
       rcases cD ho e 0 with ⟨U,g8⟩|⟨U,g8⟩<;>(conv=>lhs;rw[U];cbv)
       ·obtain ⟨n1,J⟩:=kx (o.ar .mul .i64 a1_1 e);conv=>lhs;rw[J];cbv
        rcases aX n1 (-1000000000000) 1000000000000 with ⟨a3,ag⟩|⟨a3,ag⟩
        all_goals
         conv=>lhs;rw[aJ ho,a3];cbv
         subst Q;rw[kK,if_neg g1,if_neg g2,if_neg (λh=>h g3),if_neg (λh=>h M)];unfold CM;rw[if_neg V,if_neg g6];rw[show jg o a1_1 e=some 0 by unfold jg;rw[if_neg S,if_pos g8]];obtain rfl:n1=0:=by
           rw[<-J,g8];exact (Og ho (by rw[Int.mul_zero];omega) (by rw[Int.mul_zero];omega)).trans (Int.mul_zero _)
         show _=some (cn.mk (cv (Bm 0)) [] []);unfold Bm;rw[a3];try rfl
       obtain ⟨n1,J⟩:=kx (ab a1_1);obtain ⟨n2,a4⟩:=kx (ab e);have am:o.isZero n2=false:=by rw[ho.isZero];exact decide_eq_false (by rw[<- ‹ab e=n2›];unfold ab;split<;>omega)
       obtain ⟨n3,a5⟩:=kx (o.ar .quo .i64 1000000000000 n2);conv=>lhs;rw[Q9 ho a1_1 (by omega),J];cbv;rw[Q9 ho e (by omega),a4];cbv;rw[am];cbv;rw[a5];cbv
       rcases fB ho n1 n3 with ⟨a8,an⟩|⟨a8,an⟩<;>(conv=>lhs;rw[a8];cbv)
       ·obtain ⟨n4,a9⟩:=kx (o.ar .mul .i64 a1_1 e);conv=>lhs;rw[a9];cbv
        rcases aX n4 (-1000000000000) 1000000000000 with ⟨a6,ao⟩|⟨a6,ao⟩
        all_goals
         conv=>lhs;rw[aJ ho,a6];cbv
         subst Q;rw[kK,if_neg g1,if_neg g2,if_neg (λh=>h g3),if_neg (λh=>h M)];unfold CM;rw[if_neg V,if_neg g6];have h0:jg o a1_1 e=if o.ar .quo .i64 1000000000000 (ab e)<ab a1_1 then none else some (o.ar .mul .i64 a1_1 e):=by unfold jg;rw[if_neg S,if_neg g8]
         rw[J,a4,a5]at h0;rw[h0,if_neg (by omega),a9];show _=some (cn.mk (cv (Bm n4)) [] []);unfold Bm;rw[a6];try rfl
       subst Q;rw[kK,if_neg g1,if_neg g2,if_neg (λh=>h g3),if_neg (λh=>h M)];unfold CM;rw[if_neg V,if_neg g6];have h0:jg o a1_1 e=if o.ar .quo .i64 1000000000000 (ab e)<ab a1_1 then none else some (o.ar .mul .i64 a1_1 e):=by unfold jg;rw[if_neg S,if_neg g8]
       rw[J,a4,a5]at h0;rw[h0,if_pos (by omega)];try rfl
      obtain ⟨n1,O,S⟩:=aU ho a1_1 e;conv=>lhs;rw[O];cbv
      rcases aX n1 (-1000000000000) 1000000000000 with ⟨U,g8⟩|⟨U,g8⟩
      all_goals
       conv=>lhs;rw[aJ ho,U];cbv
       subst Q;rw[kK,if_neg g1,if_neg g2,if_neg (λh=>h g3),if_neg (λh=>h M)];unfold CM;rw[if_neg V,if_pos g6,O];unfold Bm;rw[U];try rfl
     obtain ⟨n1,e6,g6⟩:=bk ho a1_1 e;conv=>lhs;rw[e5];cbv;rw[e6];cbv
     rcases aX n1 (-1000000000000) 1000000000000 with ⟨O,S⟩|⟨O,S⟩
     all_goals
      conv=>lhs;rw[aJ ho,O];cbv
      subst Q;rw[kK,if_neg g1,if_neg g2,if_neg (λh=>h g3),if_neg (λh=>h M)];unfold CM;rw[if_pos V,e6];unfold Bm;rw[O];try rfl
    subst Q;rw[kK,if_neg g1,if_neg g2,if_neg (λh=>h g3),if_pos M];try rfl
   subst Q;rw[kK,if_neg g1,if_neg g2,if_pos g3];try rfl
  obtain ⟨b3,aa⟩:∃b:Bool,decide (gR o 8 (.agg [.int .i64 a1_0,.int .i64 a1_1,.str a1_2,.lst a1_3]) (.agg [.int .i64 j,.int .i64 e,.str E,.lst I])<0)=b:=⟨_,rfl⟩
  have e3:o.call 348 [.agg [.d (.int .i64 a1_0),.d (.int .i64 a1_1),.d (.str a1_2),.d (.lst a1_3)],.agg [.d (.int .i64 j),.d (.int .i64 e),.d (.str E),.d (.lst I)]] []=some ⟨.d (.bool b3),[],[]⟩:=(NQ ho 8 _ _ _ _ _ _ _ _ hT a1).trans (by rw[aa]);obtain ⟨s1,a7,e4⟩:∃s1,(if b3 then (⟨#[116,114,117,101]⟩:By)else ⟨#[102,97,108,115,101]⟩)=s1/\o.call 346 [.d (.bool b3)] []=some ⟨.agg [.d (.int .i64 2),.d (.int .i64 0),.d (.str s1),.d (.lst [])],[],[]⟩:=⟨_,rfl,Fz ho b3⟩
  conv=>lhs;rw[e3];cbv;rw[e4];cbv
  subst Q;rw[kK,if_neg g1,if_pos g2,aa];show _=some (cn.mk (cv (tB b3,0)) [] []);unfold tB;rw[a7];try rfl
 obtain ⟨b2,ac⟩:∃b:Bool,cE (.agg [.int .i64 a1_0,.int .i64 a1_1,.str a1_2,.lst a1_3]) (.agg [.int .i64 j,.int .i64 e,.str E,.lst I])=b:=⟨_,rfl⟩
 have e2:o.call 347 [.agg [.d (.int .i64 a1_0),.d (.int .i64 a1_1),.d (.str a1_2),.d (.lst a1_3)],.agg [.d (.int .i64 j),.d (.int .i64 e),.d (.str E),.d (.lst I)]] []=some ⟨.d (.bool b2),[],[]⟩:=(BM ho 8 _ _ _ _ _ _ _ _ 8 (fO hT) (fO a1)).trans (by rw[ac]);obtain ⟨s1,a7,e3⟩:∃s1,(if b2 then (⟨#[116,114,117,101]⟩:By)else ⟨#[102,97,108,115,101]⟩)=s1/\o.call 346 [.d (.bool b2)] []=some ⟨.agg [.d (.int .i64 2),.d (.int .i64 0),.d (.str s1),.d (.lst [])],[],[]⟩:=⟨_,rfl,Fz ho b2⟩
 conv=>lhs;rw[e2];cbv;rw[e3];cbv
 subst Q;rw[kK,if_pos g1,ac];show _=some (cn.mk (cv (tB b2,0)) [] []);unfold tB;rw[a7];try rfl
end
def Av (s:By):Bool:=decide (s=⟨#[99,97,115,101]⟩) || (decide (s=⟨#[111,102]⟩) || decide (s=⟨#[101,110,100]⟩))
def ia (o:aM) (s:By):Bool:=vY o s&& !Av s
def kS (s:By):Bool:=decide (s=⟨#[43]⟩) || (decide (s=⟨#[45]⟩) || (decide (s=⟨#[42]⟩) || (decide (s=⟨#[61,61]⟩) || decide (s=⟨#[60]⟩))))
def mZ (o:aM) (k n:Int) (s:By) (c:Int):Bool:=
 if k=1 then jx n 0 1000000000000&&decide (s=⟨#[]⟩)&&decide (c=0)
 else if k=2 then ia o s&&decide (n=0)&&decide (c=0)
 else if k=4 then decide (n=0)&&decide (s=⟨#[]⟩)&&decide (c<=20)
 else if k=5 then decide (n=0)&&decide (s=⟨#[]⟩)&&decide (c<=20)
 else if k=6 then decide (n=0)&&decide (s=⟨#[]⟩)&&jx c 2 6
 else false
def iD (o:aM) (k n:Int) (s:By) (c sl:Int):Bool:=
 if k=3 then decide (s=⟨#[]⟩)&&decide (c=0)&&jx n (-1) (sl-1)else mZ o k n s c
section
variable {o:aM} (ho:aQ cu bw o)
include ho
theorem SQ (e:By):o.call 359 [As e] []=Ar (Ab (Av e)):=by
 refine ho.aL λR Q=> ?_
 conv=>lhs;cbv
 rcases aR ho e ⟨#[99,97,115,101]⟩with ⟨j,g1⟩|⟨j,g1⟩<;>(conv=>lhs;rw[j];cbv)
 ·rcases aR ho e ⟨#[111,102]⟩with ⟨E,g2⟩|⟨E,g2⟩<;>(conv=>lhs;rw[E];cbv)
  ·rcases aR ho e ⟨#[101,110,100]⟩with ⟨I,g3⟩|⟨I,g3⟩<;>(conv=>lhs;rw[I];cbv)
   all_goals
    subst Q;simp_all [ia,Av,kS]
  subst Q;simp_all [ia,Av,kS]
 subst Q;simp_all [ia,Av,kS]
theorem wh (e:By) (S:(e.size:Int)<=9000000000000000000):o.call 278 [As e] []=Ar (Ab (ia o e)):=by
 refine ho.aL λR Q=> ?_
 conv=>lhs;cbv
 cases j:vY o e
 ·conv=>lhs;rw[mP ho e (by omega),j];cbv
  subst Q;simp_all [ia,Av,kS]
 conv=>lhs;rw[mP ho e (by omega),j];cbv
 rcases rE ho e ⟨#[99,97,115,101]⟩with ⟨E,g3⟩|⟨E,g3⟩<;>(conv=>lhs;rw[E];cbv)
 ·subst Q;simp_all [ia,Av,kS]
 rcases rE ho e ⟨#[111,102]⟩with ⟨I,M⟩|⟨I,M⟩<;>(conv=>lhs;rw[I];cbv)
 ·subst Q;simp_all [ia,Av,kS]
 rcases rE ho e ⟨#[101,110,100]⟩with ⟨J,O⟩|⟨J,O⟩<;>(conv=>lhs;rw[J];cbv)
 all_goals
  subst Q;simp_all [ia,Av,kS]
theorem qy (e:By) (I:(e.size:Int)<=9000000000000000000):o.call 316 [As e] []=Ar (Ab (ia o e)):=by
 refine ho.aL λR Q=> ?_
 conv=>lhs;cbv
 cases j:vY o e
 ·conv=>lhs;rw[mQ ho e (by omega),j];cbv
  subst Q;simp_all [ia]
 conv=>lhs;rw[mQ ho e (by omega),j];cbv
 cases E:Av e;all_goals
  conv=>lhs;rw[SQ ho,E];cbv
  subst Q;simp_all [ia]
theorem I8 (e:By):o.call 343 [As e] []=Ar (Ab (kS e)):=by
 refine ho.aL λR Q=> ?_
 conv=>lhs;cbv
 rcases aR ho e ⟨#[43]⟩with ⟨j,g1⟩|⟨j,g1⟩<;>(conv=>lhs;rw[j];cbv)
 ·rcases aR ho e ⟨#[45]⟩with ⟨E,g2⟩|⟨E,g2⟩<;>(conv=>lhs;rw[E];cbv)
  ·rcases aR ho e ⟨#[42]⟩with ⟨I,g3⟩|⟨I,g3⟩<;>(conv=>lhs;rw[I];cbv)
   ·rcases aR ho e ⟨#[61,61]⟩with ⟨J,O⟩|⟨J,O⟩<;>(conv=>lhs;rw[J];cbv)
    ·rcases aR ho e ⟨#[60]⟩with ⟨M,S⟩|⟨M,S⟩<;>(conv=>lhs;rw[M];cbv)
     all_goals
      subst Q;simp_all [ia,Av,kS]
    subst Q;simp_all [ia,Av,kS]
   subst Q;simp_all [ia,Av,kS]
  subst Q;simp_all [ia,Av,kS]
 subst Q;simp_all [ia,Av,kS]
theorem BP (e:By):o.call 360 [As e] []=Ar (Ab (kS e)):=by
 refine ho.aL λR Q=> ?_
 conv=>lhs;cbv
 rcases aR ho e ⟨#[43]⟩with ⟨j,g1⟩|⟨j,g1⟩<;>(conv=>lhs;rw[j];cbv)
 ·rcases aR ho e ⟨#[45]⟩with ⟨E,g2⟩|⟨E,g2⟩<;>(conv=>lhs;rw[E];cbv)
  ·rcases aR ho e ⟨#[42]⟩with ⟨I,g3⟩|⟨I,g3⟩<;>(conv=>lhs;rw[I];cbv)
   ·rcases aR ho e ⟨#[61,61]⟩with ⟨J,O⟩|⟨J,O⟩<;>(conv=>lhs;rw[J];cbv)
    ·rcases aR ho e ⟨#[60]⟩with ⟨M,S⟩|⟨M,S⟩<;>(conv=>lhs;rw[M];cbv)
     all_goals
      subst Q;simp_all [ia,Av,kS]
    subst Q;simp_all [ia,Av,kS]
   subst Q;simp_all [ia,Av,kS]
  subst Q;simp_all [ia,Av,kS]
 subst Q;simp_all [ia,Av,kS]
theorem wj (E M:Int) (a2:By) (O:Int) (h3:E≠3) (e:E<=6) (hs:(a2.size:Int)<=9000000000000000000):o.call 392 [Ai E,Ai M,As a2,Ai O] []=Ar (Ab (mZ o E M a2 O)):=by
 refine ho.aL λR Q=> ?_
 conv=>lhs;cbv
 rcases av ho E 1 with ⟨e1,g1⟩|⟨e1,g1⟩<;>(conv=>lhs;rw[e1];cbv)
 ·rcases av ho E 2 with ⟨U,g2⟩|⟨U,g2⟩<;>(conv=>lhs;rw[U];cbv)
  ·conv=>lhs;simp (disch:=omega) only [bN ho];cbv
   rcases av ho E 4 with ⟨V,g4⟩|⟨V,g4⟩<;>(conv=>lhs;rw[V];cbv)
   ·rcases av ho E 5 with ⟨j,S⟩|⟨j,S⟩<;>(conv=>lhs;rw[j];cbv)
    ·rcases av ho E 6 with ⟨I,g6⟩|⟨I,g6⟩<;>(conv=>lhs;rw[I];cbv)
     ·iterate 3 (conv=>lhs;simp (disch:=omega) only [bN ho];cbv)
      subst Q;clear e;simp_all [mZ]
     rcases av ho M 0 with ⟨J,g7⟩|⟨J,g7⟩<;>(conv=>lhs;rw[J];cbv)
     ·subst Q;clear e;simp_all [mZ]
     rcases aR ho a2 ⟨#[]⟩with ⟨e8,g8⟩|⟨e8,g8⟩<;>(conv=>lhs;rw[e8];cbv)
     ·subst Q;clear e;simp_all [mZ]
     rcases aX O 2 6 with ⟨e9,g9⟩|⟨e9,g9⟩
     all_goals
      conv=>lhs;rw[aD ho,e9];cbv
      subst Q;clear e;simp_all [mZ]
    rcases av ho M 0 with ⟨I,g6⟩|⟨I,g6⟩<;>(conv=>lhs;rw[I];cbv)
    ·subst Q;clear e;simp_all [mZ]
    rcases aR ho a2 ⟨#[]⟩with ⟨J,g7⟩|⟨J,g7⟩<;>(conv=>lhs;rw[J];cbv)
    ·subst Q;clear e;simp_all [mZ]
    rcases iz ho O 20 with ⟨e8,g8⟩|⟨e8,g8⟩<;>(conv=>lhs;rw[e8];cbv)
    all_goals
     subst Q;clear e;simp_all [mZ]
   rcases av ho M 0 with ⟨j,S⟩|⟨j,S⟩<;>(conv=>lhs;rw[j];cbv)
   ·subst Q;clear e;simp_all [mZ]
   rcases aR ho a2 ⟨#[]⟩with ⟨I,g6⟩|⟨I,g6⟩<;>(conv=>lhs;rw[I];cbv)
   ·subst Q;clear e;simp_all [mZ]
   rcases iz ho O 20 with ⟨J,g7⟩|⟨J,g7⟩<;>(conv=>lhs;rw[J];cbv)
   all_goals
    subst Q;clear e;simp_all [mZ]
  rcases av ho M 0 with ⟨e3,g3⟩|⟨e3,g3⟩<;>(conv=>lhs;rw[e3];cbv)
  ·subst Q;clear e;simp_all [mZ]
  cases a4:ia o a2<;>(conv=>lhs;rw[wh ho a2 (by omega),a4];cbv)
  ·subst Q;try rw[a4]
   clear e;simp_all [mZ]
  rcases av ho O 0 with ⟨j,S⟩|⟨j,S⟩<;>(conv=>lhs;rw[j];cbv)
  all_goals
   subst Q;try rw[a4]
   clear e;simp_all [mZ]
 rcases aX M 0 1000000000000 with ⟨U,g2⟩|⟨U,g2⟩
 ·conv=>lhs;rw[aD ho,U];cbv
  subst Q;clear e;simp_all [mZ]
 conv=>lhs;rw[aD ho,U];cbv
 rcases aR ho a2 ⟨#[]⟩with ⟨V,g4⟩|⟨V,g4⟩<;>(conv=>lhs;rw[V];cbv)
 ·subst Q;clear e;simp_all [mZ]
 rcases av ho O 0 with ⟨j,S⟩|⟨j,S⟩<;>(conv=>lhs;rw[j];cbv)
 all_goals
  subst Q;clear e;simp_all [mZ]
theorem FN (a0_0 a0_1:Int) (e:By) (S:Lq) (a1:Int) (j: -1000000000000<=a1/\a1<=1000000000000) (hs:(e.size:Int)<=9000000000000000000):o.call 405 [At a0_0 a0_1 e S,Ai a1] []=Ar (Ab (iD o a0_0 a0_1 e S.length a1)):=by
 refine ho.aL λR Q=> ?_
 obtain ⟨n1,e1,g1⟩:=aC ho S;conv=>lhs;cbv;rw[e1];cbv
 rcases av ho a0_0 1 with ⟨e2,g2⟩|⟨e2,g2⟩<;>(conv=>lhs;rw[e2];cbv)
 ·rcases av ho a0_0 2 with ⟨e3,g3⟩|⟨e3,g3⟩<;>(conv=>lhs;rw[e3];cbv)
  ·rcases av ho a0_0 3 with ⟨e4,g4⟩|⟨e4,g4⟩<;>(conv=>lhs;rw[e4];cbv)
   ·rcases av ho a0_0 4 with ⟨I,U⟩|⟨I,U⟩<;>(conv=>lhs;rw[I];cbv)
    ·rcases av ho a0_0 5 with ⟨E,O⟩|⟨E,O⟩<;>(conv=>lhs;rw[E];cbv)
     ·rcases av ho a0_0 6 with ⟨M,g7⟩|⟨M,g7⟩<;>(conv=>lhs;rw[M];cbv)
      ·subst Q;clear j;subst g1;simp_all [iD,mZ]
      rcases aR ho e ⟨#[]⟩with ⟨J,V⟩|⟨J,V⟩<;>(conv=>lhs;rw[J];cbv)
      ·subst Q;clear j;subst g1;simp_all [iD,mZ]
      rcases av ho a0_1 0 with ⟨e9,g9⟩|⟨e9,g9⟩<;>(conv=>lhs;rw[e9];cbv)
      ·subst Q;clear j;subst g1;simp_all [iD,mZ]
      rcases aX n1 2 6 with ⟨a3,a4⟩|⟨a3,a4⟩
      all_goals
       conv=>lhs;rw[aJ ho,a3];cbv
       subst Q;clear j;subst g1;simp_all [iD,mZ]
     rcases aR ho e ⟨#[]⟩with ⟨M,g7⟩|⟨M,g7⟩<;>(conv=>lhs;rw[M];cbv)
     ·subst Q;clear j;subst g1;simp_all [iD,mZ]
     rcases av ho a0_1 0 with ⟨J,V⟩|⟨J,V⟩<;>(conv=>lhs;rw[J];cbv)
     ·subst Q;clear j;subst g1;simp_all [iD,mZ]
     rcases iz ho n1 20 with ⟨e9,g9⟩|⟨e9,g9⟩<;>(conv=>lhs;rw[e9];cbv)
     all_goals
      subst Q;clear j;subst g1;simp_all [iD,mZ]
    rcases aR ho e ⟨#[]⟩with ⟨E,O⟩|⟨E,O⟩<;>(conv=>lhs;rw[E];cbv)
    ·subst Q;clear j;subst g1;simp_all [iD,mZ]
    rcases av ho a0_1 0 with ⟨M,g7⟩|⟨M,g7⟩<;>(conv=>lhs;rw[M];cbv)
    ·subst Q;clear j;subst g1;simp_all [iD,mZ]
    rcases iz ho n1 20 with ⟨J,V⟩|⟨J,V⟩<;>(conv=>lhs;rw[J];cbv)
    all_goals
     subst Q;clear j;subst g1;simp_all [iD,mZ]
   rcases aR ho e ⟨#[]⟩with ⟨I,U⟩|⟨I,U⟩<;>(conv=>lhs;rw[I];cbv)
   ·subst Q;clear j;subst g1;simp_all [iD,mZ]
   rcases av ho n1 0 with ⟨E,O⟩|⟨E,O⟩<;>(conv=>lhs;rw[E];cbv)
   ·subst Q;clear j;subst g1;simp_all [iD,mZ]
   obtain ⟨n2,M,g7⟩:=aU ho a1 1;conv=>lhs;rw[M];cbv
   rcases aX a0_1 (-1) n2 with ⟨J,V⟩|⟨J,V⟩
   all_goals
    conv=>lhs;rw[aJ ho,J];cbv
    subst Q;clear j;subst g1;simp_all [iD,mZ]
  cases a0:ia o e<;>(conv=>lhs;rw[qy ho e (by omega),a0];cbv)
  ·subst Q;try rw[a0]
   clear j;subst g1;simp_all [iD,mZ]
  rcases av ho a0_1 0 with ⟨I,U⟩|⟨I,U⟩<;>(conv=>lhs;rw[I];cbv)
  ·subst Q;try rw[a0]
   clear j;subst g1;simp_all [iD,mZ]
  rcases av ho n1 0 with ⟨E,O⟩|⟨E,O⟩<;>(conv=>lhs;rw[E];cbv)
  all_goals
   subst Q;try rw[a0]
   clear j;subst g1;simp_all [iD,mZ]
 rcases aX a0_1 0 1000000000000 with ⟨e3,g3⟩|⟨e3,g3⟩
 ·conv=>lhs;rw[aJ ho,e3];cbv
  subst Q;clear j;subst g1;simp_all [iD,mZ]
 conv=>lhs;rw[aJ ho,e3];cbv
 rcases aR ho e ⟨#[]⟩with ⟨I,U⟩|⟨I,U⟩<;>(conv=>lhs;rw[I];cbv)
 ·subst Q;clear j;subst g1;simp_all [iD,mZ]
 rcases av ho n1 0 with ⟨E,O⟩|⟨E,O⟩<;>(conv=>lhs;rw[E];cbv)
 all_goals
  subst Q;clear j;subst g1;simp_all [iD,mZ]
end
def dM (o:aM) (sl:Int):Nat->D->Int
 | d+1,.agg [.int _ k,.int _ n,.str s,.lst l]=>if iD o k n s l.length sl then (if 1+bT (dM o sl d) l<=300 then 1+bT (dM o sl d) l else 301)else 301
 | _,_=>301
theorem ug {f:D->Int} {x:D} {xs:Lq}:bT f (x::xs)=f x+bT f xs:=rfl
theorem jm (o:aM) (sl:Int) (d:Nat) (t:D):1<=dM o sl d t/\dM o sl d t<=301:=by
 unfold dM;split
 ·rename_i d _ k _ n s l;have:0<=bT (dM o sl d) l:=fj (λx=>(jm o sl d x).1) l;split
  ·split<;>omega
  omega
 omega
theorem FO {o:aM} {sl:Int} {d:Nat} {k n:Int} {s:By} {l:Lq}:dM o sl (d+1) (.agg [.int .i64 k,.int .i64 n,.str s,.lst l])=if iD o k n s l.length sl then (if 1+bT (dM o sl d) l<=300 then 1+bT (dM o sl d) l else 301)else 301:=rfl
def eH (f:D->Lq):Lq->Lq
 | []=>[]
 | x::xs=>f x++eH f xs
theorem xM {f:D->Lq} {x:D} {xs:Lq}:eH f (x::xs)=f x++eH f xs:=rfl
def kZ:Nat->D->Lq
 | d+1,.agg [.int _ k,.int _ n,.str s,.lst l]=>(if k=3 then [.int .i64 n]else [])++eH (kZ d) l
 | _,_=>[]
theorem nC {d:Nat} {k n:Int} {s:By} {l:Lq}:kZ (d+1) (.agg [.int .i64 k,.int .i64 n,.str s,.lst l])=(if k=3 then [.int .i64 n]else [])++eH (kZ d) l:=rfl
noncomputable def iE (v:D) (S:Lq):Bool:= @decide (v∈S) (Classical.propDecidable _)
theorem xO {v:D} {S:Lq} (h:v∈S):iE v S=true:=by unfold iE;exact @decide_eq_true _ (Classical.propDecidable _) h
theorem Ep {v:D} {S:Lq} (h:v∉S):iE v S=false:=by unfold iE;exact @decide_eq_false _ (Classical.propDecidable _) h
theorem uh {v:D} {S:Lq} (h:iE v S=true):v∈S:=by unfold iE at h;exact @of_decide_eq_true _ (Classical.propDecidable _) h
theorem Er {v:D} {S:Lq} (h:iE v S=false):v∉S:=by unfold iE at h;exact @of_decide_eq_false _ (Classical.propDecidable _) h
noncomputable def Dh (S:Lq):D->Bool
 | .int k n=>decide (n<0) || !iE (.int k n) S
 | _=>true
noncomputable def okV:Lq->Lq->Bool
 | _,[]=>true
 | S,v::vs=>Dh S v&&okV (S++[v]) vs
theorem sR:∀(a S b:Lq),okV S (a++b)=(okV S a&&okV (S++a) b)
 | [],S,b=>by simp[okV]
 | v::a,S,b=>by
  simp only[List.cons_append,okV];rw[sR a (S++[v]) b,List.append_assoc,Bool.and_assoc];rfl
def zZ (x:D):Prop:=∃n,x= .int .i64 n
theorem I9 {f:D->Lq} (h:∀x,∀y∈f x,zZ y):∀xs,∀y∈eH f xs,zZ y
 | [],_,e=>by cases e
 | x::xs,y,e=>by
  rcases List.mem_append.1 e with g | g
  ·exact h x y g
  exact I9 h xs y g
theorem Di:∀d t,∀y∈kZ d t,zZ y:=by
 intro d t;unfold kZ;split
 ·intro y e;rcases List.mem_append.1 e with g | g
  ·split at g
   ·rw[List.mem_singleton]at g;exact ⟨_,g⟩
   cases g
  exact I9 (Di _) _ y g
 intro y e;cases e
theorem k_ {x:D} (h:zZ x):x.cells.length=1:=by obtain ⟨n,rfl⟩:=h;rfl
theorem I_ {f:D->Lq} {g:D->Int} {xs:Lq} (h:∀x∈xs,((f x).length:Int)<=g x):((eH f xs).length:Int)<=bT g xs:=by
 induction xs with
 | nil=>exact Int.le_refl _
 | cons x xs e=>
  have:=h x (by simp);have:=e λy j=>h y (by simp[j])
  simp only[eH,bT,List.length_append];omega
theorem sU {o:aM} {sl:Int}:∀(d:Nat) (t:D),dM o sl d t<=300->((kZ d t).length:Int)<=dM o sl d t:=by
 intro d t;unfold dM kZ;split
 ·rename_i d _ k _ n s l;intro h;split at h
  ·rename_i j;split at h
   ·rename_i e;have I:((eH (kZ d) l).length:Int)<=bT (dM o sl d) l:=I_ λx E=>sU d x (by have:=qw (f:=dM o sl d) (λx=>(jm o sl d x).1) E;omega)
    rw[if_pos j,if_pos e,List.length_append];split
    ·simp only[List.length_cons,List.length_nil];omega
    simp only[List.length_nil];omega
   omega
  omega
 intro h;omega
theorem Ja {o:aM} {k n:Int} {s:By} {c:Int} (h:6<k):mZ o k n s c=false:=by
 unfold mZ;rw[if_neg (by omega),if_neg (by omega),if_neg (by omega),if_neg (by omega),if_neg (by omega)]
section
variable {o:aM} (ho:aQ cu bw o)
include ho
def bG (e:Lq) (j n1 i:Int):St:=⟨E 19 [(0,Al e),(1,Ai j),(7,Ai n1),(8,Ai i)],O 19 []⟩
def iR (i:Int):St:=⟨E 19 [(4,Ai i)],O 19 []⟩
def fS:St:=⟨E 19 [],O 19 []⟩
theorem Ph (e:Lq) (E:Int) (hT:∀x∈e,zZ x) (n1:Int) (hn:(e.length:Int)=n1) (hl:n1<=1048576):∀i:Int,0<=i->i<=(n1:Int)->(iE (.int .i64 E) (e.drop i.toNat)=true->∃j,0<=j/\o.loop 35800 (bG e E n1 i)=some (.ret,iR j))/\(iE (.int .i64 E) (e.drop i.toNat)=false->o.loop 35800 (bG e E n1 i)=some (.exit 0,fS)):=by
 refine cM (P:=λi=>(iE (.int .i64 E) (e.drop i.toNat)=true->∃j,0<=j/\o.loop 35800 (bG e E n1 i)=some (.ret,iR j))/\(iE (.int .i64 E) (e.drop i.toNat)=false->o.loop 35800 (bG e E n1 i)=some (.exit 0,fS))) (n1:Int) ?_;intro i S h1 ih;try dsimp only at ih |-
 rcases bn ho i n1 with ⟨I,g1⟩|⟨I,g1⟩
 ·rw[bL hn (by omega)];exact ⟨λh=>(by cases uh h),λ_=>(ho.aB (by cbv;repeat (simp only[I];try cbv)):_=some (.exit 0,fS))⟩
 obtain ⟨x,a3,O,a4⟩:=aF hn S g1;obtain ⟨n2,rfl⟩:=hT _ a4;have U:=ay ho S a3;rcases av ho E n2 with ⟨M,g3⟩|⟨M,g3⟩
 ·obtain ⟨n3,V⟩:=kx (o.ar .add .i64 i 1);try have g4:n3=i+1:=V.symm.trans (dm ho (by omega) (by omega))
  have hq:iE (.int .i64 E) (e.drop i.toNat)=iE (.int .i64 E) (e.drop (i+1).toNat):=by
   rw[O];cases h:iE (.int .i64 E) (e.drop (i+1).toNat)
   ·exact Ep λg=>by
     rcases List.mem_cons.1 g with g | g
     ·injection g with _ g;exact g3 g
     exact Er h g
   exact xO (List.mem_cons_of_mem _ (uh h))
  rw[hq];have J:=ih (by omega);rw[show i+1=n3 by omega]at J |-;exact ⟨λh=>(J.1 h).imp λj hj=>⟨hj.1,(λz (hz:o.loop 35800 (bG e E n1 n3)=some z)=>ho.aB (by rw[<-hz];cbv;repeat (simp only[I,U,M,V];try cbv)):∀z,o.loop 35800 (bG e E n1 n3)=some z->o.loop 35800 (bG e E n1 i)=some z) _ hj.2⟩,λh=>(λz (hz:o.loop 35800 (bG e E n1 n3)=some z)=>ho.aB (by rw[<-hz];cbv;repeat (simp only[I,U,M,V];try cbv)):∀z,o.loop 35800 (bG e E n1 n3)=some z->o.loop 35800 (bG e E n1 i)=some z) _ (J.2 h)⟩
 have a5:=(ho.aB (by cbv;repeat (simp only[I,U,M];try cbv)):o.loop 35800 (bG e E n1 i)=some (.ret,iR i))
 subst g3;rw[O,xO (by simp)];exact ⟨λ_=>⟨i,S,a5⟩,λh=>by cases h⟩
theorem Pj (e:Lq) (j:Int) (J:∀x∈e,zZ x) (hl:(e.length:Int)<=1048576):∃r,o.call 358 [Al e,Ai j] []=Ar (Ai r)/\decide (0<=r)=iE (.int .i64 j) e:=by
 obtain ⟨n1,I,g1⟩:=aC ho e;have hl:=Ph ho e j J n1 g1.symm (by omega) 0 (Int.le_refl _) (by omega);rw[show (0:Int).toNat=0 from rfl,List.drop_zero]at hl;cases hc:iE (.int .i64 j) e
 ·have E:o.loop 35800 (bG e j n1 0)=some (.exit 0,fS):=hl.2 hc;exact ⟨_,(ho.aj (by cbv at E;cbv;repeat (simp only[I,E];try cbv)):_=Ar (Ai (-1))),rfl⟩
 obtain ⟨n2,M,E⟩:=hl.1 hc;exact ⟨_,(ho.aj (by cbv at E;cbv;repeat (simp only[I,E];try cbv)):_=Ar (Ai n2)),decide_eq_true M⟩
theorem qz (e:Lq) (j:Int) (I:∀x∈e,zZ x) (hl:(e.length:Int)<=1048576):o.call 311 [Al e,Ai j] []=Ar (Ab (iE (.int .i64 j) e)):=by
 refine ho.aL λR Q=> ?_
 obtain ⟨n1,J,M⟩:=Pj ho e j I hl;conv=>lhs;cbv;rw[J];cbv
 rcases jc ho n1 0 with ⟨E,g2⟩|⟨E,g2⟩<;>(conv=>lhs;rw[E];cbv)
 all_goals
  subst Q;rw[<-M];first | rw[decide_eq_true (by omega)] | rw[decide_eq_false (by omega)]
def bI (a:Int) (e:Lq) (n2 i:Int) (y:Lq) (sl j:Int):St:=⟨E 103 [(0,.ptr (103,0) 0),(2,Ai a),(90,Al e),(91,Ai n2),(92,Ai i)],O 105 [(70,[some (.rows (3,1) y)]),(103,[some (.box [Ai sl,Ai j,.arr (70,0) (3,1) none false])]),(104,[none])]⟩
def fo (y:Lq) (sl e:Int):St:=⟨E 103 [],O 105 [(70,[some (.rows (3,1) y)]),(103,[some (.box [Ai sl,Ai e,.arr (70,0) (3,1) none false])]),(104,[none])]⟩
def iq (l2:Lq) (sl n5:Int):St:=⟨E 103 [(6,Ab false)],O 105 [(70,[some (.rows (3,1) l2)]),(103,[some (.box [Ai sl,Ai n5,.arr (70,0) (3,1) none false])]),(104,[none])]⟩
def bD (a:Int) (e:Lq) (n2 i:Int) (y:Lq) (sl j:Int):St:=⟨E 103 [(0,.ptr (103,0) 0),(2,Ai a),(90,Al e),(91,Ai n2),(92,Ai i)],O 104 [(70,[some (.rows (3,1) y)]),(103,[some (.box [Ai sl,Ai j,.arr (70,0) (3,1) none false])])]⟩
def eT (y:Lq) (sl e:Int):St:=⟨E 103 [],O 104 [(70,[some (.rows (3,1) y)]),(103,[some (.box [Ai sl,Ai e,.arr (70,0) (3,1) none false])])]⟩
def gT (l2:Lq) (sl n5:Int):St:=⟨E 103 [(6,Ab false)],O 104 [(70,[some (.rows (3,1) l2)]),(103,[some (.box [Ai sl,Ai n5,.arr (70,0) (3,1) none false])])]⟩
end
end T2
