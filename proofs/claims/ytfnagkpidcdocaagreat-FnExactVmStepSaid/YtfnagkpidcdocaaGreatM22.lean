import Derived.Test.YtfnagkpidcdocaaGreatM18
import Derived.Test.YtfnagkpidcdocaaGreatM19
set_option linter.all false
namespace T2
open Go Go.Vi
set_option maxRecDepth 100000
set_option maxHeartbeats 4000000
theorem K9 {o:aJ} {l:List D} {k:Int} (hT:∀x∈l,Rt o 8 x) (hb:(l.length:Int)<=1060):Tm 9 (.agg [.int .i64 k,.int .i64 0,.str ⟨#[]⟩,.lst l]):=⟨k,0,_,l,rfl,by decide,by omega,λx hx=>iS (hT x hx)⟩
theorem u7 {o:aJ} {t:D} (h:qm o t=true):HT o t=(t,0):=by unfold HT;rw[if_pos h]
theorem u9 {o:aJ} {t:D} (h:qm o t=false):HT o t=(lf,4):=by unfold HT;rw[h];rfl
theorem Bs {o:aJ} {l:List D} (h:mq l=none):gJ o 6 l=(lf,3):=by unfold gJ;rw[if_pos rfl,h]
theorem u_ {o:aJ} {l x:List D} (h:mq l=some x):gJ o 6 l=HT o (.agg [.int .i64 5,.int .i64 0,.str ⟨#[]⟩,.lst x]):=by unfold gJ;rw[if_pos rfl,h]
theorem q_ {o:aJ} {l:List D} {k:Int} (h:k≠6):gJ o k l=HT o (.agg [.int .i64 k,.int .i64 0,.str ⟨#[]⟩,.lst l]):=by unfold gJ;rw[if_neg h]
def HW (o:aJ) (r:D×Int):Prop:=∃k n s l,r.1= .agg [.int .i64 k,.int .i64 n,.str s,.lst l]/\(r.2=0\/r.2=3\/r.2=4)/\(r.2=0->Rt o 8 r.1)
theorem xA {o:aJ} {c:Int} (h:c=3\/c=4):HW o (lf,c):=⟨0,0,⟨#[]⟩,[],rfl,by simp only;omega,λe=>by simp only at e;omega⟩
theorem EH {o:aJ} {l:List D} {k:Int} (hT:∀x∈l,Rt o 8 x) (hb:(l.length:Int)<=1060):HW o (HT o (.agg [.int .i64 k,.int .i64 0,.str ⟨#[]⟩,.lst l])):=by
 cases h:qm o (.agg [.int .i64 k,.int .i64 0,.str ⟨#[]⟩,.lst l])
 ·rw[u9 h];exact xA (.inr rfl)
 ·rw[u7 h];exact ⟨_,_,_,_,rfl,.inl rfl,λ_=>Bw (K9 hT hb) h⟩
theorem CA {o:aJ} {l x:List D} (hT:∀x∈l,Rt o 8 x) (hb:(l.length:Int)<=1000) (h:mq l=some x):(x.length:Int)<=1060/\∀y∈x,Rt o 8 y:=by
 unfold mq at h;split at h
 ·rename_i k n y hx;split at h
  ·injection h with h;obtain ⟨m,q⟩:=gb (hT _ (List.mem_of_getElem? hx));obtain ⟨k',c',s',l',e,e2,hs,ht⟩:=q;injection e2 with e2;simp only[List.cons.injEq,D.lst.injEq]at e2;obtain ⟨_,_,_,rfl,_⟩:=e2;have:=hU hs;subst h;refine ⟨by rw[List.length_append,List.length_take];omega,λz hz=> ?_⟩;rcases List.mem_append.1 hz with h | h
   ·exact hT z (List.mem_of_mem_take h)
   ·exact xw (by omega) (ht z h)
  ·cases h
 ·cases h
theorem mW {o:aJ} {l:List D} {k:Int} (hT:∀x∈l,Rt o 8 x) (hb:(l.length:Int)<=1000):HW o (gJ o k l):=by
 by_cases h6:k=6
 ·subst h6;cases h:mq l with
  | none=>rw[Bs h];exact xA (.inl rfl)
  | some x=>rw[u_ h];have:=CA hT hb h;exact EH this.2 this.1
 ·rw[q_ h6];exact EH hT (by omega)
def tB (b:Bool):D:= .agg [.int .i64 2,.int .i64 0,.str (if b then ⟨#[116,114,117,101]⟩else ⟨#[102,97,108,115,101]⟩),.lst []]
def ab (x:Int):Int:=if x<0 then 0-x else x
def iQ (o:aJ) (a b:Int):Option Int:=if a=0 then some 0 else if b=0 then some 0 else if o.ar .quo .i64 1000000000000 (ab b)<ab a then none else some (o.ar .mul .i64 a b)
def yD (n:Int):D×Int:=if iK n (-1000000000000) 1000000000000 then (.agg [.int .i64 1,.int .i64 n,.str ⟨#[]⟩,.lst []],0)else (lf,3)
def zO (o:aJ) (s:ByteArray) (a b:Int):D×Int:=if s=⟨#[43]⟩then yD (o.ar .add .i64 a b)else if s=⟨#[45]⟩then yD (o.ar .sub .i64 a b)else match iQ o a b with | none=>(lf,3) | some n=>yD n
theorem EI (n:Int):∃n1 n2 s l c,yD n=(.agg [.int .i64 n1,.int .i64 n2,.str s,.lst l],c):=by
 unfold yD;split
 ·exact ⟨_,_,_,_,_,rfl⟩
 ·exact ⟨_,_,_,_,_,rfl⟩
theorem Nd (o:aJ) (s:ByteArray) (a b:Int):∃n1 n2 s' l c,zO o s a b=(.agg [.int .i64 n1,.int .i64 n2,.str s',.lst l],c):=by
 unfold zO;split
 ·exact EI _
 split
 ·exact EI _
 split
 ·exact ⟨_,_,_,_,_,rfl⟩
 ·exact EI _
noncomputable def zP (o:aJ) (s:ByteArray):D->D->D×Int
 | .agg [.int _ k,.int _ n,.str t,.lst l],.agg [.int _ k',.int _ n',.str t',.lst l']=>
  if s=⟨#[61,61]⟩then (tB (bN (.agg [.int .i64 k,.int .i64 n,.str t,.lst l]) (.agg [.int .i64 k',.int .i64 n',.str t',.lst l'])),0)
  else if s=⟨#[60]⟩then (tB (decide (cV o 8 (.agg [.int .i64 k,.int .i64 n,.str t,.lst l]) (.agg [.int .i64 k',.int .i64 n',.str t',.lst l'])<0)),0)
  else if k≠1 then (lf,3)else if k'≠1 then (lf,3)else zO o s n n'
 | _,_=>(lf,3)
theorem jU {o:aJ} {s:ByteArray} {k n k' n':Int} {t t':ByteArray} {l l':List D}:zP o s (.agg [.int .i64 k,.int .i64 n,.str t,.lst l]) (.agg [.int .i64 k',.int .i64 n',.str t',.lst l'])=
 if s=⟨#[61,61]⟩then (tB (bN (.agg [.int .i64 k,.int .i64 n,.str t,.lst l]) (.agg [.int .i64 k',.int .i64 n',.str t',.lst l'])),0)
 else if s=⟨#[60]⟩then (tB (decide (cV o 8 (.agg [.int .i64 k,.int .i64 n,.str t,.lst l]) (.agg [.int .i64 k',.int .i64 n',.str t',.lst l'])<0)),0)
 else if k≠1 then (lf,3)else if k'≠1 then (lf,3)else zO o s n n':=rfl
section
variable {o:aJ} (ho:aR cF bB o)
include ho
theorem Nf (a0:Int) (a1:List D) (hk:a0=4\/a0=5\/a0=6) (hT:∀x∈a1,Rt o 8 x) (h1:a0=6->1<=(a1.length:Int)) (hb:(a1.length:Int)<=1000):o.call 288 [Ai a0,Al a1] []=Ar (cv (gJ o a0 a1)):=by
 refine ho.aC λR Q=> ?_
 conv=>lhs;cbv
 rcases aj ho a0 5 with ⟨e1,g1⟩|⟨e1,g1⟩<;>(conv=>lhs;rw[e1];cbv)
 ·rcases aj ho a0 6 with ⟨e2,g2⟩|⟨e2,g2⟩<;>(conv=>lhs;rw[e2];cbv)
  ·cases he3:qm o (.agg [.int .i64 4,.int .i64 0,.str ⟨#[]⟩,.lst a1])<;>(conv=>lhs;rw[mr ho _ _ _ _ (K9 hT (by omega)),he3];cbv)
   ·subst Q;rw[(show a0=4 by omega),q_ (by omega),u9 he3];try rfl
   ·subst Q;rw[(show a0=4 by omega),q_ (by omega),u7 he3];try rfl
  ·rcases HV ho a1 hT (h1 g2) hb with ⟨hc,e3⟩ | ⟨l1,hc,hc1,hc2,e3⟩
   ·conv=>lhs;rw[e3];cbv
    subst Q;rw[g2,Bs hc];try rfl
   ·conv=>lhs;rw[e3];cbv
    cases he4:qm o (.agg [.int .i64 5,.int .i64 0,.str ⟨#[]⟩,.lst l1])<;>(conv=>lhs;rw[mr ho _ _ _ _ (K9 hc2 hc1),he4];cbv)
    ·subst Q;rw[g2,u_ hc,u9 he4];try rfl
    ·subst Q;rw[g2,u_ hc,u7 he4];try rfl
 ·cases he2:qm o (.agg [.int .i64 5,.int .i64 0,.str ⟨#[]⟩,.lst a1])<;>(conv=>lhs;rw[mr ho _ _ _ _ (K9 hT (by omega)),he2];cbv)
  ·subst Q;rw[g1,q_ (by omega),u9 he2];try rfl
  ·subst Q;rw[g1,q_ (by omega),u7 he2];try rfl
theorem yE (a0:Int) (a1:List D) (hk:a0=4\/a0=5\/a0=6) (hT:∀x∈a1,Rt o 8 x) (h1:a0=6->1<=(a1.length:Int)) (hb:(a1.length:Int)<=1000):o.call 282 [Ai a0,Al a1] []=Ar (cv (gJ o a0 a1)):=by
 refine ho.aC λR Q=> ?_
 conv=>lhs;cbv
 rcases aj ho a0 4 with ⟨e1,g1⟩|⟨e1,g1⟩<;>(conv=>lhs;rw[e1];cbv)
 ·rcases aj ho a0 6 with ⟨e2,g2⟩|⟨e2,g2⟩<;>(conv=>lhs;rw[e2];cbv)
  ·cases he3:qm o (.agg [.int .i64 5,.int .i64 0,.str ⟨#[]⟩,.lst a1])<;>(conv=>lhs;rw[oI ho _ _ _ _ (K9 hT (by omega)),he3];cbv)
   ·subst Q;rw[(show a0=5 by omega),q_ (by omega),u9 he3];try rfl
   ·subst Q;rw[(show a0=5 by omega),q_ (by omega),u7 he3];try rfl
  ·obtain ⟨n1,e3,g3⟩:=ay ho a1;have h1:=h1 g2;obtain ⟨n2,e4⟩:=kx (o.ar .sub .i64 n1 1);have g4:n2=n1-1:=e4.symm.trans (dB ho (by omega) (by omega));conv=>lhs;rw[e3];cbv;rw[e4];cbv
   obtain ⟨x,hx0,hx1,hx2⟩:=ax (xs:=a1) rfl (show 0<=n2 by omega) (by omega);obtain ⟨m',n3,n4,s1,l1,hd',rfl,hs,ht⟩:=gb (hT _ hx2);have hlen1:=hU hs;have e5:o.dD a1 n2=some (.agg [.int .i64 n3,.int .i64 n4,.str s1,.lst l1]):=ak ho (by omega) hx0;have hcs:mq a1=if n3=5 then some (a1.take n2.toNat++l1)else none:=by
    unfold mq;rw[show (a1.length:Int)-1=n2 by omega,hx0]
   conv=>lhs;rw[e5];cbv
   rcases cE ho n3 5 with ⟨e6,g6⟩|⟨e6,g6⟩<;>(conv=>lhs;rw[e6];cbv)
   ·obtain ⟨n5,g7,e7⟩:∃n5,n5=n2-0/\o.minus n2 0=n5:=⟨_,rfl,by rw[ho.minus]⟩
    obtain ⟨l2,hl2,e8⟩:∃l2,l2=a1.take n2.toNat/\o.sub a1 0 n5=some l2:=⟨_,rfl,by rw[iB ho (Int.le_refl _) (by omega) (by omega)];rw[show n5=n2 by omega];rfl⟩
    have hle2:(l2.length:Int)<=1000:=by rw[hl2,List.length_take];omega
    have e9:o.fits 4 56 l2=true:=by exact cn ho (by omega) (by decide) (λz hz=>eU (hT z (by rw[hl2]at hz;exact List.mem_of_mem_take hz)))
    obtain ⟨l3,hl3,e10⟩:∃l3,l2++l1=l3/\o.app l2 l1=l3:=⟨_,rfl,ho.app _ _⟩
    have hc:mq a1=some l3:=by rw[hcs,if_pos g6,<-hl2,hl3]
    have hc0:=CA hT hb hc;have hc1:=hc0.1;have hc2:=hc0.2;have e11:o.fits 4 56 l3=true:=by exact cn ho (by omega) (by decide) (λz hz=>eU (hc2 z hz))
    conv=>lhs;rw[e7];cbv;rw[e8];cbv;(try (rw[e7];cbv));(try (rw[e5];cbv));rw[e9];cbv;(try (rw[e7];cbv));rw[e10];cbv;(try (rw[e7];cbv));rw[e11];cbv;(try (rw[e7];cbv))
    cases he12:qm o (.agg [.int .i64 5,.int .i64 0,.str ⟨#[]⟩,.lst l3])<;>(conv=>lhs;rw[oI ho _ _ _ _ (K9 hc2 hc1),he12];cbv)
    ·subst Q;rw[g2,u_ hc,u9 he12];try rfl
    ·subst Q;rw[g2,u_ hc,u7 he12];try rfl
   ·subst Q;rw[g2,Bs (by rw[hcs,if_neg g6])];try rfl
 ·cases he2:qm o (.agg [.int .i64 4,.int .i64 0,.str ⟨#[]⟩,.lst a1])<;>(conv=>lhs;rw[oI ho _ _ _ _ (K9 hT (by omega)),he2];cbv)
  ·subst Q;rw[g1,q_ (by omega),u9 he2];try rfl
  ·subst Q;rw[g1,q_ (by omega),u7 he2];try rfl
theorem CB (a0:Bool):o.call 290 [Ab a0] []=Ar (At 2 0 (if a0 then ⟨#[116,114,117,101]⟩else ⟨#[102,97,108,115,101]⟩) []):=by
 refine ho.aC λR Q=> ?_
 conv=>lhs;cbv
 cases e1:a0;all_goals
  conv=>lhs;cbv
  subst Q;exact (Eq.refl _).trans (by first | rfl | simp_all)
theorem CC (a0:Bool):o.call 346 [Ab a0] []=Ar (At 2 0 (if a0 then ⟨#[116,114,117,101]⟩else ⟨#[102,97,108,115,101]⟩) []):=by
 refine ho.aC λR Q=> ?_
 conv=>lhs;cbv
 cases e1:a0;all_goals
  conv=>lhs;cbv
  subst Q;exact (Eq.refl _).trans (by first | rfl | simp_all)
theorem Ng (a0:Int) (hb: -1000000000000<=a0/\a0<=1000000000000):o.call 349 [Ai a0] []=Ar (Ai (ab a0)):=by
 refine ho.aC λR Q=> ?_
 conv=>lhs;cbv
 rcases aZ ho a0 0 with ⟨e1,g1⟩|⟨e1,g1⟩<;>(conv=>lhs;rw[e1];cbv)
 ·subst Q;exact (Eq.refl _).trans (by unfold ab;first | (rw[if_pos (by assumption)];simp only[*];done) | (rw[if_neg (by omega)];done))
 ·obtain ⟨n1,e2,g2⟩:=aO ho 0 a0;conv=>lhs;rw[e2];cbv
  subst Q;exact (Eq.refl _).trans (by unfold ab;first | (rw[if_pos (by assumption)];simp only[*];done) | (rw[if_neg (by omega)];done))
theorem EJ (a0 a1:Int) (hb: -1000000000000<=a0/\a0<=1000000000000) (hb1: -1000000000000<=a1/\a1<=1000000000000):(iQ o a0 a1=none/\o.call 353 [.d (.int .i64 a0),.d (.int .i64 a1)] []=some ⟨.tup [.d (.int .i64 0),.d (.bool false)],[],[]⟩)\/(∃n,iQ o a0 a1=some n/\o.call 353 [.d (.int .i64 a0),.d (.int .i64 a1)] []=some ⟨.tup [.d (.int .i64 n),.d (.bool true)],[],[]⟩):=by
 rcases aj ho a0 0 with ⟨e1,g1⟩|⟨e1,g1⟩
 ·rcases aj ho a1 0 with ⟨e2,g2⟩|⟨e2,g2⟩
  ·obtain ⟨n1,e3⟩:=kx (o.ar .sub .i64 0 a0);try have g3:n1=0-a0:=e3.symm.trans (dB ho (by omega) (by omega))
   rcases aZ ho a0 n1 with ⟨e4,g4⟩|⟨e4,g4⟩
   ·obtain ⟨n2,e5⟩:=kx (o.ar .sub .i64 0 a1);try have g5:n2=0-a1:=e5.symm.trans (dB ho (by omega) (by omega))
    rcases aZ ho a1 n2 with ⟨e6,g6⟩|⟨e6,g6⟩
    ·have e7:o.isZero a1=false:=by rw[ho.isZero];exact decide_eq_false (by omega)
     obtain ⟨n3,e8⟩:=kx (o.ar .quo .i64 1000000000000 a1);rcases fR ho a0 n3 with ⟨e9,g9⟩|⟨e9,g9⟩
     ·obtain ⟨n4,e10⟩:=kx (o.ar .mul .i64 a0 a1);have h0:iQ o a0 a1=if o.ar .quo .i64 1000000000000 (ab a1)<ab a0 then none else some (o.ar .mul .i64 a0 a1):=by unfold iQ;rw[if_neg g1,if_neg g2]
      rw[show ab a0=a0 by unfold ab;split<;>omega,show ab a1=a1 by unfold ab;split<;>omega]at h0;rw[e8]at h0;refine .inr ⟨n4,?_,(ho.au (by cbv;repeat (simp only[e1,e2,e3,e4,e5,e6,e7,e8,e9,e10];try cbv)):_=some ⟨.tup [.d (.int .i64 n4),.d (.bool true)],[],[]⟩)⟩;rw[h0,if_neg (by omega),e10]
     ·have h0:iQ o a0 a1=if o.ar .quo .i64 1000000000000 (ab a1)<ab a0 then none else some (o.ar .mul .i64 a0 a1):=by unfold iQ;rw[if_neg g1,if_neg g2]
      rw[show ab a0=a0 by unfold ab;split<;>omega,show ab a1=a1 by unfold ab;split<;>omega]at h0;rw[e8]at h0;refine .inl ⟨?_,(ho.au (by cbv;repeat (simp only[e1,e2,e3,e4,e5,e6,e7,e8,e9];try cbv)):_=some ⟨.tup [.d (.int .i64 0),.d (.bool false)],[],[]⟩)⟩;rw[h0,if_pos (by omega)]
    ·have e7:o.isZero n2=false:=by rw[ho.isZero];exact decide_eq_false (by omega)
     obtain ⟨n3,e8⟩:=kx (o.ar .quo .i64 1000000000000 n2);rcases fR ho a0 n3 with ⟨e9,g9⟩|⟨e9,g9⟩
     ·obtain ⟨n4,e10⟩:=kx (o.ar .mul .i64 a0 a1);have h0:iQ o a0 a1=if o.ar .quo .i64 1000000000000 (ab a1)<ab a0 then none else some (o.ar .mul .i64 a0 a1):=by unfold iQ;rw[if_neg g1,if_neg g2]
      rw[show ab a0=a0 by unfold ab;split<;>omega,show ab a1=n2 by unfold ab;split<;>omega]at h0;rw[e8]at h0;refine .inr ⟨n4,?_,(ho.au (by cbv;repeat (simp only[e1,e2,e3,e4,e5,e6,e7,e8,e9,e10];try cbv)):_=some ⟨.tup [.d (.int .i64 n4),.d (.bool true)],[],[]⟩)⟩;rw[h0,if_neg (by omega),e10]
     ·have h0:iQ o a0 a1=if o.ar .quo .i64 1000000000000 (ab a1)<ab a0 then none else some (o.ar .mul .i64 a0 a1):=by unfold iQ;rw[if_neg g1,if_neg g2]
      rw[show ab a0=a0 by unfold ab;split<;>omega,show ab a1=n2 by unfold ab;split<;>omega]at h0;rw[e8]at h0;refine .inl ⟨?_,(ho.au (by cbv;repeat (simp only[e1,e2,e3,e4,e5,e6,e7,e8,e9];try cbv)):_=some ⟨.tup [.d (.int .i64 0),.d (.bool false)],[],[]⟩)⟩;rw[h0,if_pos (by omega)]
   ·obtain ⟨n2,e5⟩:=kx (o.ar .sub .i64 0 a1);try have g5:n2=0-a1:=e5.symm.trans (dB ho (by omega) (by omega))
    rcases aZ ho a1 n2 with ⟨e6,g6⟩|⟨e6,g6⟩
    ·have e7:o.isZero a1=false:=by rw[ho.isZero];exact decide_eq_false (by omega)
     obtain ⟨n3,e8⟩:=kx (o.ar .quo .i64 1000000000000 a1);rcases fR ho n1 n3 with ⟨e9,g9⟩|⟨e9,g9⟩
     ·obtain ⟨n4,e10⟩:=kx (o.ar .mul .i64 a0 a1);have h0:iQ o a0 a1=if o.ar .quo .i64 1000000000000 (ab a1)<ab a0 then none else some (o.ar .mul .i64 a0 a1):=by unfold iQ;rw[if_neg g1,if_neg g2]
      rw[show ab a0=n1 by unfold ab;split<;>omega,show ab a1=a1 by unfold ab;split<;>omega]at h0;rw[e8]at h0;refine .inr ⟨n4,?_,(ho.au (by cbv;repeat (simp only[e1,e2,e3,e4,e5,e6,e7,e8,e9,e10];try cbv)):_=some ⟨.tup [.d (.int .i64 n4),.d (.bool true)],[],[]⟩)⟩;rw[h0,if_neg (by omega),e10]
     ·have h0:iQ o a0 a1=if o.ar .quo .i64 1000000000000 (ab a1)<ab a0 then none else some (o.ar .mul .i64 a0 a1):=by unfold iQ;rw[if_neg g1,if_neg g2]
      rw[show ab a0=n1 by unfold ab;split<;>omega,show ab a1=a1 by unfold ab;split<;>omega]at h0;rw[e8]at h0;refine .inl ⟨?_,(ho.au (by cbv;repeat (simp only[e1,e2,e3,e4,e5,e6,e7,e8,e9];try cbv)):_=some ⟨.tup [.d (.int .i64 0),.d (.bool false)],[],[]⟩)⟩;rw[h0,if_pos (by omega)]
    ·have e7:o.isZero n2=false:=by rw[ho.isZero];exact decide_eq_false (by omega)
     obtain ⟨n3,e8⟩:=kx (o.ar .quo .i64 1000000000000 n2);rcases fR ho n1 n3 with ⟨e9,g9⟩|⟨e9,g9⟩
     ·obtain ⟨n4,e10⟩:=kx (o.ar .mul .i64 a0 a1);have h0:iQ o a0 a1=if o.ar .quo .i64 1000000000000 (ab a1)<ab a0 then none else some (o.ar .mul .i64 a0 a1):=by unfold iQ;rw[if_neg g1,if_neg g2]
      rw[show ab a0=n1 by unfold ab;split<;>omega,show ab a1=n2 by unfold ab;split<;>omega]at h0;rw[e8]at h0;refine .inr ⟨n4,?_,(ho.au (by cbv;repeat (simp only[e1,e2,e3,e4,e5,e6,e7,e8,e9,e10];try cbv)):_=some ⟨.tup [.d (.int .i64 n4),.d (.bool true)],[],[]⟩)⟩;rw[h0,if_neg (by omega),e10]
     ·have h0:iQ o a0 a1=if o.ar .quo .i64 1000000000000 (ab a1)<ab a0 then none else some (o.ar .mul .i64 a0 a1):=by unfold iQ;rw[if_neg g1,if_neg g2]
      rw[show ab a0=n1 by unfold ab;split<;>omega,show ab a1=n2 by unfold ab;split<;>omega]at h0;rw[e8]at h0;refine .inl ⟨?_,(ho.au (by cbv;repeat (simp only[e1,e2,e3,e4,e5,e6,e7,e8,e9];try cbv)):_=some ⟨.tup [.d (.int .i64 0),.d (.bool false)],[],[]⟩)⟩;rw[h0,if_pos (by omega)]
  ·exact .inr ⟨0,by unfold iQ;rw[if_neg g1,if_pos g2],(ho.au (by cbv;repeat (simp only[e1,e2];try cbv)):_=some ⟨.tup [.d (.int .i64 0),.d (.bool true)],[],[]⟩)⟩
 ·exact .inr ⟨0,by unfold iQ;rw[if_pos g1],(ho.au (by cbv;repeat (simp only[e1];try cbv)):_=some ⟨.tup [.d (.int .i64 0),.d (.bool true)],[],[]⟩)⟩
theorem K_ (a0:ByteArray) (a1 a2:Int) (hb: -1000000000000<=a1/\a1<=1000000000000) (hb1: -1000000000000<=a2/\a2<=1000000000000):o.call 292 [As a0,Ai a1,Ai a2] []=Ar (cv (zO o a0 a1 a2)):=by
 refine ho.aC λR Q=> ?_
 conv=>lhs;cbv
 rcases aP ho a0 ⟨#[43]⟩with ⟨e1,g1⟩|⟨e1,g1⟩<;>(conv=>lhs;rw[e1];cbv)
 ·rcases aP ho a0 ⟨#[45]⟩with ⟨e2,g2⟩|⟨e2,g2⟩<;>(conv=>lhs;rw[e2];cbv)
  ·rcases EJ ho a1 a2 hb hb1 with ⟨hm,e3⟩ | ⟨n1,hm,e3⟩
   ·conv=>lhs;rw[e3];cbv
    subst Q;exact (Eq.refl _).trans (by unfold zO;simp_all [yD,cv,lf])
   ·conv=>lhs;rw[e3];cbv
    rcases aN n1 (-1000000000000) 1000000000000 with ⟨e4,g4⟩|⟨e4,g4⟩
    all_goals
     conv=>lhs;rw[av ho,e4];cbv
     subst Q;exact (Eq.refl _).trans (by unfold zO;simp_all [yD,cv,lf])
  ·obtain ⟨n1,e3,g3⟩:=aO ho a1 a2;conv=>lhs;rw[e3];cbv
   rcases aN n1 (-1000000000000) 1000000000000 with ⟨e4,g4⟩|⟨e4,g4⟩
   all_goals
    conv=>lhs;rw[av ho,e4];cbv
    subst Q;exact (Eq.refl _).trans (by unfold zO;simp_all [yD,cv,lf])
 ·obtain ⟨n1,e2,g2⟩:=aW ho a1 a2;conv=>lhs;rw[e2];cbv
  rcases aN n1 (-1000000000000) 1000000000000 with ⟨e3,g3⟩|⟨e3,g3⟩
  all_goals
   conv=>lhs;rw[av ho,e3];cbv
   subst Q;exact (Eq.refl _).trans (by unfold zO;simp_all [yD,cv,lf])
omit ho in
theorem CD {k n:Int} {s:ByteArray} {l:List D} (h:jf o k n s l=true) (hk:k=1): -1000000000000<=n/\n<=1000000000000:=by
 unfold jf at h;rw[if_pos hk]at h;simp only[af]at h;exact bH h.1.1
theorem DF (a0:ByteArray) (a1_0 a1_1:Int) (a1_2:ByteArray) (a1_3:List D) (a2_0 a2_1:Int) (a2_2:ByteArray) (a2_3:List D) (hT:Rt o 8 (.agg [.int .i64 a1_0,.int .i64 a1_1,.str a1_2,.lst a1_3])) (hT2:Rt o 8 (.agg [.int .i64 a2_0,.int .i64 a2_1,.str a2_2,.lst a2_3])):o.call 198 [As a0,At a1_0 a1_1 a1_2 a1_3,At a2_0 a2_1 a2_2 a2_3] []=Ar (cv (zP o a0 (.agg [.int .i64 a1_0,.int .i64 a1_1,.str a1_2,.lst a1_3]) (.agg [.int .i64 a2_0,.int .i64 a2_1,.str a2_2,.lst a2_3]))):=by
 obtain ⟨m1,hm1,hs1,_⟩:=tK hT;obtain ⟨m2,hm2,hs2,_⟩:=tK hT2;refine ho.aC λR Q=> ?_
 conv=>lhs;cbv
 rcases aP ho a0 ⟨#[61,61]⟩with ⟨e1,g1⟩|⟨e1,g1⟩<;>(conv=>lhs;rw[e1];cbv)
 ·rcases aP ho a0 ⟨#[60]⟩with ⟨e2,g2⟩|⟨e2,g2⟩<;>(conv=>lhs;rw[e2];cbv)
  ·rcases cE ho a1_0 1 with ⟨e3,g3⟩|⟨e3,g3⟩<;>(conv=>lhs;rw[e3];cbv)
   ·rcases cE ho a2_0 1 with ⟨e4,g4⟩|⟨e4,g4⟩<;>(conv=>lhs;rw[e4];cbv)
    ·have hb:=CD hs1 g3;have hb1:=CD hs2 g4;obtain ⟨n1,n2,s1,l1,n3,hA,e5⟩:∃n1 n2 s1 l1 n3,zO o a0 a1_1 a2_1=(.agg [.int .i64 n1,.int .i64 n2,.str s1,.lst l1],n3)/\o.call 292 [As a0,Ai a1_1,Ai a2_1] []=Ar (.tup [At n1 n2 s1 l1,Ai n3]):=by
      have h:=K_ ho a0 a1_1 a2_1 hb hb1;obtain ⟨n1,n2,s1,l1,n3,hA⟩:=Nd o a0 a1_1 a2_1;exact ⟨n1,n2,s1,l1,n3,hA,by rw[h,hA];rfl⟩
     conv=>lhs;rw[e5];cbv
     subst Q;rw[jU,if_neg g1,if_neg g2,if_neg (λh=>h g3),if_neg (λh=>h g4),hA];try rfl
    ·subst Q;rw[jU,if_neg g1,if_neg g2,if_neg (λh=>h g3),if_pos g4];try rfl
   ·subst Q;rw[jU,if_neg g1,if_neg g2,if_pos g3];try rfl
  ·obtain ⟨b3,he3⟩:∃b:Bool,decide (cV o 8 (.agg [.int .i64 a1_0,.int .i64 a1_1,.str a1_2,.lst a1_3]) (.agg [.int .i64 a2_0,.int .i64 a2_1,.str a2_2,.lst a2_3])<0)=b:=⟨_,rfl⟩
   have e3:o.call 291 [At a1_0 a1_1 a1_2 a1_3,At a2_0 a2_1 a2_2 a2_3] []=Ar (Ab b3):=(IG ho _ _ _ _ _ _ _ _ hT hT2).trans (by rw[he3]);obtain ⟨s1,hq1,e4⟩:∃s1,(if b3 then (⟨#[116,114,117,101]⟩:ByteArray)else ⟨#[102,97,108,115,101]⟩)=s1/\o.call 290 [Ab b3] []=Ar (At 2 0 s1 []):=⟨_,rfl,CB ho b3⟩
   conv=>lhs;rw[e3];cbv;rw[e4];cbv
   subst Q;rw[jU,if_neg g1,if_pos g2,he3];show _=some (bW.mk (cv (tB b3,0)) [] []);unfold tB;rw[hq1];try rfl
 ·obtain ⟨b2,he2⟩:∃b:Bool,bN (.agg [.int .i64 a1_0,.int .i64 a1_1,.str a1_2,.lst a1_3]) (.agg [.int .i64 a2_0,.int .i64 a2_1,.str a2_2,.lst a2_3])=b:=⟨_,rfl⟩
  have e2:o.call 66 [At a1_0 a1_1 a1_2 a1_3,At a2_0 a2_1 a2_2 a2_3] []=Ar (Ab b2):=(BA ho 8 _ _ _ _ _ _ _ _ 8 (iS hT) (iS hT2)).trans (by rw[he2]);obtain ⟨s1,hq1,e3⟩:∃s1,(if b2 then (⟨#[116,114,117,101]⟩:ByteArray)else ⟨#[102,97,108,115,101]⟩)=s1/\o.call 290 [Ab b2] []=Ar (At 2 0 s1 []):=⟨_,rfl,CB ho b2⟩
  conv=>lhs;rw[e2];cbv;rw[e3];cbv
  subst Q;rw[jU,if_pos g1,he2];show _=some (bW.mk (cv (tB b2,0)) [] []);unfold tB;rw[hq1];try rfl
theorem DG (
            a0:ByteArray) (a1_0 a1_1:Int) (a1_2:ByteArray) (a1_3:List D) (a2_0 a2_1:Int) (a2_2:ByteArray) (a2_3:List D) (hT:Rt o 8 (.agg [.int .i64 a1_0,.int .i64 a1_1,.str a1_2,.lst a1_3])) (hT2:Rt o 8 (.agg [.int .i64 a2_0,.int .i64 a2_1,.str a2_2,.lst a2_3])):o.call 283 [.d (.str a0),.agg [.d (.int .i64 a1_0),.d (.int .i64 a1_1),.d (.str a1_2),.d (.lst a1_3)],.agg [.d (.int .i64 a2_0),.d (.int .i64 a2_1),.d (.str a2_2),.d (.lst a2_3)]] []=some ⟨cv (zP o a0 (.agg [.int .i64 a1_0,.int .i64 a1_1,.str a1_2,.lst a1_3]) (.agg [.int .i64 a2_0,.int .i64 a2_1,.str a2_2,.lst a2_3])),[],[]⟩:=by
 obtain ⟨m1,hm1,hs1,_⟩:=tK hT;obtain ⟨m2,hm2,hs2,_⟩:=tK hT2;refine ho.aC λR Q=> ?_
 conv=>lhs;cbv
 rcases aP ho a0 ⟨#[61,61]⟩with ⟨e1,g1⟩|⟨e1,g1⟩<;>(conv=>lhs;rw[e1];cbv)
 ·rcases aP ho a0 ⟨#[60]⟩with ⟨e2,g2⟩|⟨e2,g2⟩<;>(conv=>lhs;rw[e2];cbv)
  ·rcases cE ho a1_0 1 with ⟨e3,g3⟩|⟨e3,g3⟩<;>(conv=>lhs;rw[e3];cbv)
   ·rcases cE ho a2_0 1 with ⟨e4,g4⟩|⟨e4,g4⟩<;>(conv=>lhs;rw[e4];cbv)
    ·have hb:=CD hs1 g3;have hb1:=CD hs2 g4;rcases aP ho a0 ⟨#[43]⟩with ⟨e5,g5⟩|⟨e5,g5⟩
     ·conv=>lhs;rw[e5];cbv
      rcases aP ho a0 ⟨#[45]⟩with ⟨e6,g6⟩|⟨e6,g6⟩<;>(conv=>lhs;rw[e6];cbv)
      ·rcases cE ho a1_1 0 with ⟨e7,g7⟩|⟨e7,g7⟩<;>(conv=>lhs;rw[e7];cbv)
       ·obtain ⟨n1,e8⟩:=kx (o.ar .mul .i64 a1_1 a2_1);conv=>lhs;rw[e8];cbv
        rcases aN n1 (-1000000000000) 1000000000000 with ⟨e9,g9⟩|⟨e9,g9⟩
        all_goals
         conv=>lhs;rw[aF ho,e9];cbv
         subst Q;rw[jU,if_neg g1,if_neg g2,if_neg (λh=>h g3),if_neg (λh=>h g4)];unfold zO;rw[if_neg g5,if_neg g6];rw[show iQ o a1_1 a2_1=some 0 by unfold iQ;rw[if_pos g7]];obtain rfl:n1=0:=by
           rw[<-e8,g7];exact (KR ho (by rw[Int.zero_mul];omega) (by rw[Int.zero_mul];omega)).trans (Int.zero_mul _)
         show _=some (bW.mk (cv (yD 0)) [] []);unfold yD;rw[e9];try rfl
       ·rcases cE ho a2_1 0 with ⟨e8,g8⟩|⟨e8,g8⟩<;>(conv=>lhs;rw[e8];cbv)
        ·obtain ⟨n1,e9⟩:=kx (o.ar .mul .i64 a1_1 a2_1);conv=>lhs;rw[e9];cbv
         rcases aN n1 (-1000000000000) 1000000000000 with ⟨e10,g10⟩|⟨e10,g10⟩
         all_goals
          conv=>lhs;rw[aF ho,e10];cbv
          subst Q;rw[jU,if_neg g1,if_neg g2,if_neg (λh=>h g3),if_neg (λh=>h g4)];unfold zO;rw[if_neg g5,if_neg g6];rw[show iQ o a1_1 a2_1=some 0 by unfold iQ;rw[if_neg g7,if_pos g8]];obtain rfl:n1=0:=by
            rw[<-e9,g8];exact (KR ho (by rw[Int.mul_zero];omega) (by rw[Int.mul_zero];omega)).trans (Int.mul_zero _)
          show _=some (bW.mk (cv (yD 0)) [] []);unfold yD;rw[e10];try rfl
        ·obtain ⟨n1,e9⟩:=kx (ab a1_1);obtain ⟨n2,e11⟩:=kx (ab a2_1);have e13:o.isZero n2=false:=by rw[ho.isZero];exact decide_eq_false (by rw[<- ‹ab a2_1=n2›];unfold ab;split<;>omega)
         obtain ⟨n3,e14⟩:=kx (o.ar .quo .i64 1000000000000 n2);conv=>lhs;rw[Ng ho a1_1 (by omega),e9];cbv;rw[Ng ho a2_1 (by omega),e11];cbv;rw[e13];cbv;rw[e14];cbv
         rcases fR ho n1 n3 with ⟨e15,g15⟩|⟨e15,g15⟩<;>(conv=>lhs;rw[e15];cbv)
         ·obtain ⟨n4,e16⟩:=kx (o.ar .mul .i64 a1_1 a2_1);conv=>lhs;rw[e16];cbv
          rcases aN n4 (-1000000000000) 1000000000000 with ⟨e17,g17⟩|⟨e17,g17⟩
          all_goals
           conv=>lhs;rw[aF ho,e17];cbv
           subst Q;rw[jU,if_neg g1,if_neg g2,if_neg (λh=>h g3),if_neg (λh=>h g4)];unfold zO;rw[if_neg g5,if_neg g6];have h0:iQ o a1_1 a2_1=if o.ar .quo .i64 1000000000000 (ab a2_1)<ab a1_1 then none else some (o.ar .mul .i64 a1_1 a2_1):=by unfold iQ;rw[if_neg g7,if_neg g8]
           rw[e9,e11,e14]at h0;rw[h0,if_neg (by omega),e16];show _=some (bW.mk (cv (yD n4)) [] []);unfold yD;rw[e17];try rfl
         ·subst Q;rw[jU,if_neg g1,if_neg g2,if_neg (λh=>h g3),if_neg (λh=>h g4)];unfold zO;rw[if_neg g5,if_neg g6];have h0:iQ o a1_1 a2_1=if o.ar .quo .i64 1000000000000 (ab a2_1)<ab a1_1 then none else some (o.ar .mul .i64 a1_1 a2_1):=by unfold iQ;rw[if_neg g7,if_neg g8]
          rw[e9,e11,e14]at h0;rw[h0,if_pos (by omega)];try rfl
      ·obtain ⟨n1,e7,g7⟩:=aO ho a1_1 a2_1;conv=>lhs;rw[e7];cbv
       rcases aN n1 (-1000000000000) 1000000000000 with ⟨e8,g8⟩|⟨e8,g8⟩
       all_goals
        conv=>lhs;rw[aF ho,e8];cbv
        subst Q;rw[jU,if_neg g1,if_neg g2,if_neg (λh=>h g3),if_neg (λh=>h g4)];unfold zO;rw[if_neg g5,if_pos g6,e7];unfold yD;rw[e8];try rfl
     ·obtain ⟨n1,e6,g6⟩:=aW ho a1_1 a2_1;conv=>lhs;rw[e5];cbv;rw[e6];cbv
      rcases aN n1 (-1000000000000) 1000000000000 with ⟨e7,g7⟩|⟨e7,g7⟩
      all_goals
       conv=>lhs;rw[aF ho,e7];cbv
       subst Q;rw[jU,if_neg g1,if_neg g2,if_neg (λh=>h g3),if_neg (λh=>h g4)];unfold zO;rw[if_pos g5,e6];unfold yD;rw[e7];try rfl
    ·subst Q;rw[jU,if_neg g1,if_neg g2,if_neg (λh=>h g3),if_pos g4];try rfl
   ·subst Q;rw[jU,if_neg g1,if_neg g2,if_pos g3];try rfl
  ·obtain ⟨b3,he3⟩:∃b:Bool,decide (cV o 8 (.agg [.int .i64 a1_0,.int .i64 a1_1,.str a1_2,.lst a1_3]) (.agg [.int .i64 a2_0,.int .i64 a2_1,.str a2_2,.lst a2_3])<0)=b:=⟨_,rfl⟩
   have e3:o.call 348 [.agg [.d (.int .i64 a1_0),.d (.int .i64 a1_1),.d (.str a1_2),.d (.lst a1_3)],.agg [.d (.int .i64 a2_0),.d (.int .i64 a2_1),.d (.str a2_2),.d (.lst a2_3)]] []=some ⟨.d (.bool b3),[],[]⟩:=(Kw ho 8 _ _ _ _ _ _ _ _ hT hT2).trans (by rw[he3]);obtain ⟨s1,hq1,e4⟩:∃s1,(if b3 then (⟨#[116,114,117,101]⟩:ByteArray)else ⟨#[102,97,108,115,101]⟩)=s1/\o.call 346 [.d (.bool b3)] []=some ⟨.agg [.d (.int .i64 2),.d (.int .i64 0),.d (.str s1),.d (.lst [])],[],[]⟩:=⟨_,rfl,CC ho b3⟩
   conv=>lhs;rw[e3];cbv;rw[e4];cbv
   subst Q;rw[jU,if_neg g1,if_pos g2,he3];show _=some (bW.mk (cv (tB b3,0)) [] []);unfold tB;rw[hq1];try rfl
 ·obtain ⟨b2,he2⟩:∃b:Bool,bN (.agg [.int .i64 a1_0,.int .i64 a1_1,.str a1_2,.lst a1_3]) (.agg [.int .i64 a2_0,.int .i64 a2_1,.str a2_2,.lst a2_3])=b:=⟨_,rfl⟩
  have e2:o.call 347 [.agg [.d (.int .i64 a1_0),.d (.int .i64 a1_1),.d (.str a1_2),.d (.lst a1_3)],.agg [.d (.int .i64 a2_0),.d (.int .i64 a2_1),.d (.str a2_2),.d (.lst a2_3)]] []=some ⟨.d (.bool b2),[],[]⟩:=(yK ho 8 _ _ _ _ _ _ _ _ 8 (iS hT) (iS hT2)).trans (by rw[he2]);obtain ⟨s1,hq1,e3⟩:∃s1,(if b2 then (⟨#[116,114,117,101]⟩:ByteArray)else ⟨#[102,97,108,115,101]⟩)=s1/\o.call 346 [.d (.bool b2)] []=some ⟨.agg [.d (.int .i64 2),.d (.int .i64 0),.d (.str s1),.d (.lst [])],[],[]⟩:=⟨_,rfl,CC ho b2⟩
  conv=>lhs;rw[e2];cbv;rw[e3];cbv
  subst Q;rw[jU,if_pos g1,he2];show _=some (bW.mk (cv (tB b2,0)) [] []);unfold tB;rw[hq1];try rfl
end
def Sl (o:aJ) (x:D):Prop:=x=lf\/Rt o 8 x
theorem DH {o:aJ} {x:D} (h:Sl o x):∃k n s l,x= .agg [.int .i64 k,.int .i64 n,.str s,.lst l]:=by
 rcases h with rfl | h
 ·exact ⟨_,_,_,_,rfl⟩
 ·obtain ⟨_,k,n,s,l,_,e,_⟩:=gb h;exact ⟨k,n,s,l,e⟩
theorem Nh {o:aJ} {x:D} (h:Sl o x):x.cells.length=4:=by obtain ⟨_,_,_,_,rfl⟩:=DH h;rfl
def aX (f:D->D->List D->Bool×List D):List D->List D->List D->Bool×List D
 | p::ps,t::ts,S=>if (f p t S).1 then aX f ps ts (f p t S).2 else (false,(f p t S).2)
 | _,_,S=>(true,S)
theorem mX {f:D->D->List D->Bool×List D} {p t:D} {ps ts S:List D}:aX f (p::ps) (t::ts) S=if (f p t S).1 then aX f ps ts (f p t S).2 else (false,(f p t S).2):=rfl
theorem rf {f:D->D->List D->Bool×List D} {ts S:List D}:aX f [] ts S=(true,S):=by cases ts<;>rfl
theorem ve {f:D->D->List D->Bool×List D}:∀(ps ts S:List D) (m:Nat),ps.length<=m->aX f ps (ts.take m) S=aX f ps ts S
 | [],ts,S,m,_=>by rw[rf,rf]
 | p::ps,[],S,m,_=>by rw[List.take_nil]
 | p::ps,t::ts,S,m+1,h=>by rw[List.take_succ_cons,mX,mX,ve ps ts _ m (by simp only[List.length_cons]at h;omega)]
 | p::ps,t::ts,S,0,h=>by simp at h
def qc (l:List D) (m:Int):D:= .agg [.int .i64 5,.int .i64 0,.str ⟨#[]⟩,.lst (l.drop m.toNat)]
def aD:Nat->D->D->List D->Bool×List D
 | d+1,.agg [.int _ k,.int _ n,.str s,.lst ps],.agg [.int _ tk,.int _ tn,.str ts,.lst tl],S=>
  if k=1 then (if tk=1 then (decide (tn=n),S)else (false,S))
  else if k=2 then (if tk=2 then (decide (ts=s),S)else (false,S))
  else if k=3 then (true,if 0<=n then S.set n.toNat (.agg [.int .i64 tk,.int .i64 tn,.str ts,.lst tl])else S)
  else if k=4 then (if tk=4 then if (tl.length:Int)=ps.length then aX (aD d) ps tl S else (false,S)else (false,S))
  else if k=5 then (if tk=5 then if (tl.length:Int)=ps.length then aX (aD d) ps tl S else (false,S)else (false,S))
  else if tk≠5 then (false,S)else if (tl.length:Int)<ps.length-1 then (false,S)
  else match ps[((ps.length:Int)-1).toNat]? with
   | none=>(false,S)
   | some p=>if (aX (aD d) (ps.take ((ps.length:Int)-1).toNat) tl S).1 then aD d p (qc tl ((ps.length:Int)-1)) (aX (aD d) (ps.take ((ps.length:Int)-1).toNat) tl S).2
    else (false,(aX (aD d) (ps.take ((ps.length:Int)-1).toNat) tl S).2)
 | _,_,_,S=>(false,S)
theorem bD {d:Nat} {k n tk tn:Int} {s ts:ByteArray} {ps tl S:List D}:aD (d+1) (.agg [.int .i64 k,.int .i64 n,.str s,.lst ps]) (.agg [.int .i64 tk,.int .i64 tn,.str ts,.lst tl]) S=
 if k=1 then (if tk=1 then (decide (tn=n),S)else (false,S))
 else if k=2 then (if tk=2 then (decide (ts=s),S)else (false,S))
 else if k=3 then (true,if 0<=n then S.set n.toNat (.agg [.int .i64 tk,.int .i64 tn,.str ts,.lst tl])else S)
 else if k=4 then (if tk=4 then if (tl.length:Int)=ps.length then aX (aD d) ps tl S else (false,S)else (false,S))
 else if k=5 then (if tk=5 then if (tl.length:Int)=ps.length then aX (aD d) ps tl S else (false,S)else (false,S))
 else if tk≠5 then (false,S)else if (tl.length:Int)<ps.length-1 then (false,S)
 else match ps[((ps.length:Int)-1).toNat]? with
  | none=>(false,S)
  | some p=>if (aX (aD d) (ps.take ((ps.length:Int)-1).toNat) tl S).1 then aD d p (qc tl ((ps.length:Int)-1)) (aX (aD d) (ps.take ((ps.length:Int)-1).toNat) tl S).2
   else (false,(aX (aD d) (ps.take ((ps.length:Int)-1).toNat) tl S).2):=rfl
theorem yF {o:aJ} {k n:Int} {s:ByteArray} {l:List D} {m:Nat} {i:Int} (h:jf o k n s l=true) (hk:k=5) (hl:∀x∈l,Rt o m x) (hm:m+1<=8):Rt o 8 (qc l i):=by
 refine xw hm ⟨_,_,_,_,rfl,?_,λx hx=>hl x (List.mem_of_mem_drop hx)⟩;have:=hU h;unfold jf;rw[if_neg (by omega),if_neg (by omega),if_neg (by omega),if_neg (by omega),if_pos rfl];subst hk;unfold jf at h;rw[if_neg (by omega),if_neg (by omega),if_neg (by omega),if_neg (by omega),if_pos rfl]at h;simp only[af,decide_eq_true_eq]at h |-;refine ⟨⟨trivial,trivial⟩,by rw[List.length_drop];omega⟩
def Ni (o:aJ) (S:List D) (r:Bool×List D):Prop:=r.2.length=S.length/\∀x∈r.2,Sl o x
theorem uF {o:aJ} {f:D->D->List D->Bool×List D} (hf:∀p t S,Rt o 8 t->(∀x∈S,Sl o x)->Ni o S (f p t S)):∀(ps ts S:List D),(∀t∈ts,Rt o 8 t)->(∀x∈S,Sl o x)->Ni o S (aX f ps ts S)
 | [],ts,S,_,hS=>by rw[rf];exact ⟨rfl,hS⟩
 | p::ps,[],S,_,hS=>⟨rfl,hS⟩
 | p::ps,t::ts,S,hT,hS=>by
  have h1:=hf p t S (hT t (by simp)) hS;rw[mX];split
  ·have h2:=uF hf ps ts (f p t S).2 (λx hx=>hT x (by simp[hx])) h1.2;exact ⟨h2.1.trans h1.1,h2.2⟩
  ·exact h1
theorem lp {o:aJ}:∀(d:Nat) (p t:D) (S:List D),Rt o 8 t->(∀x∈S,Sl o x)->Ni o S (aD d p t S)
 | 0,p,t,S,_,hS=>by unfold aD;exact ⟨rfl,hS⟩
 | d+1,p,t,S,hT,hS=>by
  have triv:∀b:Bool,Ni o S (b,S):=λb=>⟨rfl,hS⟩
  unfold aD;split
  ·rename_i k1 k k2 n s ps k3 tk k4 tn ts tl he;obtain ⟨m',k',n',s',l',hm,e2,hs,ht⟩:=gb hT;injection e2 with e2;simp only[List.cons.injEq,D.int.injEq,D.str.injEq,D.lst.injEq,and_true]at e2;obtain ⟨⟨rfl,rfl⟩,⟨rfl,rfl⟩,rfl,rfl⟩:=e2;injection he with he;subst he;have hT8:∀t∈tl,Rt o 8 t:=λt h=>xw (by omega) (ht t h)
   have hE:=λps S (hS:∀x∈S,Sl o x)=>uF (lp d) ps tl S hT8 hS
   split; · split<;>exact triv _
   split; · split<;>exact triv _
   split
   ·split
    ·refine ⟨List.length_set,λx hx=> ?_⟩;rcases List.mem_or_eq_of_mem_set hx with h | h
     ·exact hS x h
     ·rw[h];exact .inr hT
    ·exact triv _
   split
   ·split
    ·split
     ·exact hE _ _ hS
     ·exact triv _
    ·exact triv _
   split
   ·split
    ·split
     ·exact hE _ _ hS
     ·exact triv _
    ·exact triv _
   split; · exact triv _
   rename_i h5;split; · exact triv _
   split
   ·exact triv _
   ·rename_i pp hpp;have h1:=hE (ps.take ((ps.length:Int)-1).toNat) _ hS;split
    ·have h2:=lp d pp (qc tl ((ps.length:Int)-1)) _ (yF hs (Decidable.not_not.1 h5) ht (by omega)) h1.2;exact ⟨h2.1.trans h1.1,h2.2⟩
    ·exact h1
  ·exact triv _
theorem ef {xs:List D} {i:Nat} {x:D} (h:xs[i]? =some x):xs.set i x=xs:=by
 obtain ⟨h1,h2⟩:=aq.1 h;rw[<-h2];exact List.set_getElem_self h1
theorem bR {xs:List D} {i:Nat} {x:D} (h:i<xs.length):(xs.set i x)[i]? =some x:=by rw[List.getElem?_set_self h]
theorem EK {o:aJ} {sl:Int} {d:Nat} {k n:Int} {s:ByteArray} {l:List D} (h:dc o sl (d+1) (.agg [.int .i64 k,.int .i64 n,.str s,.lst l])<=300):gT o k n s l.length sl=true/\∀x∈l,dc o sl d x<=300:=by
 rw[CQ]at h;split at h
 ·rename_i hs;split at h
  ·refine ⟨hs,λx hx=> ?_⟩;have:=pD (f:=dc o sl d) (λx=>(iY o sl d x).1) hx;omega
  ·omega
 ·omega
theorem EL {o:aJ} {k n:Int} {s:ByteArray} {c sl:Int} (h:gT o k n s c sl=true):(k=3->n<=sl-1)/\(k≠1->k≠2->k≠3->k≠4->k≠5->2<=c)/\(k=4\/k=5\/k=6->c<=20):=by
 unfold gT at h;split at h
 ·simp only[af]at h;have:=bH h.2;exact ⟨λ_=>this.2,by omega,by omega⟩
 ·unfold lY at h;split at h; · exact ⟨by omega,by omega,by omega⟩
  split at h; · exact ⟨by omega,by omega,by omega⟩
  split at h; · simp only[af,decide_eq_true_eq]at h;exact ⟨by omega,by omega,by omega⟩
  split at h; · simp only[af,decide_eq_true_eq]at h;exact ⟨by omega,by omega,by omega⟩
  split at h; · simp only[af]at h;have:=bH h.2;exact ⟨by omega,by omega,by omega⟩
  cases h
section
variable {o:aJ} (ho:aR cF bB o)
include ho
theorem sJ {xs:List D} (h:∀x∈xs,Sl o x):o.flat xs=true:=by
 rw[ho.flat,List.all_eq_true];intro x hx;obtain ⟨k,n,s,l,rfl⟩:=DH (h x hx);rfl
theorem HX (l:List D) (hb:(l.length:Int)<=1048576) (hc:∀x∈l,x.cells.length=4):o.call 289 [Al l] []=some ⟨.arr (0,0) (31,4) none false,[],[Os l]⟩:=by
 refine ho.aC λR Q=> ?_
 have e1:o.fits 4 56 l=true:=by exact cn ho (by omega) (by decide) hc
 conv=>lhs;cbv;rw[e1];cbv
 subst Q;rfl
theorem HY (l:List D) (hb:(l.length:Int)<=1048576) (hc:∀x∈l,x.cells.length=4):o.call 289 [.arr (1,0) (31,4) none false] [Os l]=some ⟨.arr (0,0) (31,4) none false,[Os l],[Os l]⟩:=by
 refine ho.aC λR Q=> ?_
 have e1:o.fits 4 56 l=true:=by exact cn ho (by omega) (by decide) hc
 conv=>lhs;cbv;rw[e1];cbv
 subst Q;rfl
theorem HZ (l:List D) (a n:Int) (l1:List D) (hl:o.sub l a n=some l1) (hb:(l1.length:Int)<=1048576) (hc:∀x∈l1,x.cells.length=4):o.call 289 [.arr (1,0) (31,4) (some (a,n)) false] [Os l]=some ⟨.arr (0,0) (31,4) none false,[Os l],[Os l1]⟩:=by
 refine ho.aC λR Q=> ?_
 have e1:o.sub l a n=some l1:=hl;have e2:o.fits 4 56 l1=true:=by exact cn ho (by omega) (by decide) hc
 conv=>lhs;cbv;rw[e1];cbv;rw[e2];cbv
 subst Q;rfl
def dx (i:Int) (t p:List D) (n1 i1:Int) (y:List D):St:=⟨E 25 [(0,.prow (25,0) (192,3) i 0),(2,Al t),(9,Al p),(10,Ai n1),(11,Ai i1)],O 26 [(25,[Oo y])]⟩
def fO (y:List D):St:=⟨E 25 [],O 26 [(25,[Oo y])]⟩
def fP (l3:List D):St:=⟨E 25 [(6,Ab false)],O 26 [(25,[Oo l3])]⟩
def gQ (p t:List D) (i:Int) (y:List D):St:=⟨E 25 [(0,Al p),(1,Al t),(2,.arr (25,0) (31,4) none false),(7,Ai i)],O 26 [(25,[Os y])]⟩
def jK (y:List D):St:=⟨E 25 [],O 26 [(25,[Os y])]⟩
def jL (l3:List D):St:=⟨E 25 [(6,Ab false)],O 26 [(25,[Os l3])]⟩
omit ho in
def BD (o:aJ) (sl:Int) (d:Nat):Prop:=∀m p_0 p_1 p_2 p_3,Tm m (.agg [.int .i64 p_0,.int .i64 p_1,.str p_2,.lst p_3])->dc o sl d (.agg [.int .i64 p_0,.int .i64 p_1,.str p_2,.lst p_3])<=300->∀t_0 t_1 t_2 t_3,Rt o 8 (.agg [.int .i64 t_0,.int .i64 t_1,.str t_2,.lst t_3])->∀(fs:List D) (i F pc:Int) (S:List D),0<=i->fs[i.toNat]? =some (.agg [.int .i64 F,.int .i64 pc,.own (31,4) S])->(S.length:Int)=sl->(∀x∈S,Sl o x)->o.call 293 [.prow (1,0) (192,3) i 0,.agg [.d (.int .i64 p_0),.d (.int .i64 p_1),.d (.str p_2),.d (.lst p_3)],.agg [.d (.int .i64 t_0),.d (.int .i64 t_1),.d (.str t_2),.d (.lst t_3)]] [some (.orows (192,3) fs)]=some ⟨.d (.bool (aD d (.agg [.int .i64 p_0,.int .i64 p_1,.str p_2,.lst p_3]) (.agg [.int .i64 t_0,.int .i64 t_1,.str t_2,.lst t_3]) S).1),[some (.orows (192,3) (fs.set i.toNat (.agg [.int .i64 F,.int .i64 pc,.own (31,4) (aD d (.agg [.int .i64 p_0,.int .i64 p_1,.str p_2,.lst p_3]) (.agg [.int .i64 t_0,.int .i64 t_1,.str t_2,.lst t_3]) S).2])))],[]⟩
omit ho in
def MD (o:aJ) (sl:Int) (d:Nat):Prop:=∀m p_0 p_1 p_2 p_3,Tm m (.agg [.int .i64 p_0,.int .i64 p_1,.str p_2,.lst p_3])->dc o sl d (.agg [.int .i64 p_0,.int .i64 p_1,.str p_2,.lst p_3])<=300->∀t_0 t_1 t_2 t_3,Rt o 8 (.agg [.int .i64 t_0,.int .i64 t_1,.str t_2,.lst t_3])->∀S:List D,(S.length:Int)=sl->(∀x∈S,Sl o x)->o.call 188 [.agg [.d (.int .i64 p_0),.d (.int .i64 p_1),.d (.str p_2),.d (.lst p_3)],.agg [.d (.int .i64 t_0),.d (.int .i64 t_1),.d (.str t_2),.d (.lst t_3)],.arr (1,0) (31,4) none false] [some (.rows (31,4) S)]=some ⟨.d (.bool (aD d (.agg [.int .i64 p_0,.int .i64 p_1,.str p_2,.lst p_3]) (.agg [.int .i64 t_0,.int .i64 t_1,.str t_2,.lst t_3]) S).1),[some (.rows (31,4) (aD d (.agg [.int .i64 p_0,.int .i64 p_1,.str p_2,.lst p_3]) (.agg [.int .i64 t_0,.int .i64 t_1,.str t_2,.lst t_3]) S).2)],[]⟩
theorem Nj (sl:Int) (d:Nat) (IH:BD o sl d) (p t:List D) {m:Nat} (hP:∀x∈p,Tm m x) (hM:∀x∈p,dc o sl d x<=300) (hT:∀x∈t,Rt o 8 x) (hle:(p.length:Int)<=t.length) (hb:(p.length:Int)<=1048576) (i:Int) (hi:0<=i) (n1:Int) (hn:(p.length:Int)=n1):∀i1:Int,0<=i1->i1<=(n1:Int)->∀(y:List D) (F pc:Int) (S:List D),y[i.toNat]? =some (.agg [.int .i64 F,.int .i64 pc,.own (31,4) S])->(S.length:Int)=sl->(∀x∈S,Sl o x)->∃z,z=y.set i.toNat (.agg [.int .i64 F,.int .i64 pc,.own (31,4) (aX (aD d) (p.drop i1.toNat) (t.drop i1.toNat) S).2])/\o.loop 35400 (dx i t p n1 i1 y)=some (if (aX (aD d) (p.drop i1.toNat) (t.drop i1.toNat) S).1 then (.exit 0,fO z)else (.ret,fP z)):=by
 refine bV (P:=λi1=>∀(y:List D) (F pc:Int) (S:List D),y[i.toNat]? =some (.agg [.int .i64 F,.int .i64 pc,.own (31,4) S])->(S.length:Int)=sl->(∀x∈S,Sl o x)->∃z,z=y.set i.toNat (.agg [.int .i64 F,.int .i64 pc,.own (31,4) (aX (aD d) (p.drop i1.toNat) (t.drop i1.toNat) S).2])/\o.loop 35400 (dx i t p n1 i1 y)=some (if (aX (aD d) (p.drop i1.toNat) (t.drop i1.toNat) S).1 then (.exit 0,fO z)else (.ret,fP z))) (n1:Int) ?_;intro i1 h0 h1 ih;try dsimp only at ih |-
 intro y F pc S hy hS hSl;rcases aZ ho i1 n1 with ⟨e1,g1⟩|⟨e1,g1⟩
 ·rw[bf hn (by omega),rf];exact ⟨y,(ef hy).symm,(ho.aB (by cbv;repeat (simp only[e1];try cbv)):_=some (.exit 0,fO y))⟩
 ·obtain ⟨x,hx0,hx1,hx2⟩:=ax hn h0 g1;obtain ⟨m1,n2,n3,s1,l1,hd1,rfl,hs,hl,ht⟩:=bP (hP _ hx2);have e2:=ak ho h0 hx0;obtain ⟨y1,hy0,hy1,hy2⟩:=ax (xs:=t) rfl h0 (by omega);obtain ⟨m2,n4,n5,s2,l2,hd2,rfl,hs2,ht2⟩:=gb (hT _ hy2);have e3:=ak ho h0 hy0;have hc:=IH _ _ _ _ _ (hP _ hx2) (hM _ hx2) _ _ _ _ (hT _ hy2) y i F pc S hi hy hS hSl;have hsl:=lp (o:=o) d (.agg [.int .i64 n2,.int .i64 n3,.str s1,.lst l1]) (.agg [.int .i64 n4,.int .i64 n5,.str s2,.lst l2]) S (hT _ hy2) hSl;obtain ⟨l3,hl3⟩:∃z,y.set i.toNat (.agg [.int .i64 F,.int .i64 pc,.own (31,4) (aD d (.agg [.int .i64 n2,.int .i64 n3,.str s1,.lst l1]) (.agg [.int .i64 n4,.int .i64 n5,.str s2,.lst l2]) S).2])=z:=⟨_,rfl⟩
  rw[hl3]at hc;cases hb:(aD d (.agg [.int .i64 n2,.int .i64 n3,.str s1,.lst l1]) (.agg [.int .i64 n4,.int .i64 n5,.str s2,.lst l2]) S).1
  ·have e4:o.call 293 [.prow (1,0) (192,3) i 0,At n2 n3 s1 l1,At n4 n5 s2 l2] [Oo y]=some ⟨Ab false,[Oo l3],[]⟩:=by rw[hb]at hc;exact hc
   rw[hx1,hy1,mX,hb];exact ⟨l3,hl3.symm,(ho.aB (by cbv;repeat (simp only[e1,e2,e3,e4];try cbv)):_=some (.ret,fP l3))⟩
  ·have e4:o.call 293 [.prow (1,0) (192,3) i 0,At n2 n3 s1 l1,At n4 n5 s2 l2] [Oo y]=some ⟨Ab true,[Oo l3],[]⟩:=by rw[hb]at hc;exact hc
   obtain ⟨n6,e5⟩:=kx (o.ar .add .i64 i1 1);try have g5:n6=i1+1:=e5.symm.trans (ck ho (by omega) (by omega))
   have hlt:i.toNat<y.length:=(aq.1 hy).1;rw[hx1,hy1,mX,hb,if_pos rfl];obtain ⟨z,hz,hw⟩:=ih (by omega) l3 F pc _ (by rw[<-hl3];exact bR hlt) (by rw[hsl.1];exact hS) hsl.2;refine ⟨z,by rw[hz,<-hl3,List.set_set],?_⟩;refine (λz (hz:o.loop 35400 (dx i t p n1 n6 l3)=some z)=>ho.aB (by rw[<-hz];cbv;repeat (simp only[e1,e2,e3,e4,e5];try cbv)):∀z,o.loop 35400 (dx i t p n1 n6 l3)=some z->o.loop 35400 (dx i t p n1 i1 y)=some z) _ ?_;rw[show n6=i1+1 by omega];exact hw
theorem vg (sl:Int) (d:Nat) (IH:BD o sl d) (p t:List D) {m:Nat} (hP:∀x∈p,Tm m x) (hM:∀x∈p,dc o sl d x<=300) (hT:∀x∈t,Rt o 8 x) (hle:(p.length:Int)<=t.length) (hb:(p.length:Int)<=1048576) (fs:List D) (i F pc:Int) (S:List D) (hi:0<=i) (hf:fs[i.toNat]? =some (.agg [.int .i64 F,.int .i64 pc,.own (31,4) S])) (hS:(S.length:Int)=sl) (hSl:∀x∈S,Sl o x):o.call 354 [.prow (1,0) (192,3) i 0,Al p,Al t] [Oo fs]=some ⟨Ab (aX (aD d) p t S).1,[Oo (fs.set i.toNat (.agg [.int .i64 F,.int .i64 pc,.own (31,4) (aX (aD d) p t S).2]))],[]⟩:=by
 refine ho.aC λR Q=> ?_
 obtain ⟨n1,e1,g1⟩:=ay ho p;conv=>lhs;cbv;rw[e1];cbv
 obtain ⟨l1,hz,hl⟩:=Nj ho sl d IH p t hP hM hT hle hb i hi n1 g1.symm 0 (Int.le_refl _) (by omega) fs F pc S hf hS hSl;rw[show (0:Int).toNat=0 from rfl,List.drop_zero,List.drop_zero]at hz hl;conv at hl=>lhs;cbv
 cases hb2:(aX (aD d) p t S).1<;>(conv=>lhs;rw[hl,hb2];cbv)
 all_goals
  subst Q;try rw[hb2]
  rw[<-hz];try rfl
theorem La (sl:Int) (d:Nat) (IH:MD o sl d) (p t:List D) {m:Nat} (hP:∀x∈p,Tm m x) (hM:∀x∈p,dc o sl d x<=300) (hT:∀x∈t,Rt o 8 x) (hle:(p.length:Int)<=t.length) (hb:(p.length:Int)<=1048576) (n1:Int) (hn:(p.length:Int)=n1):∀i1:Int,0<=i1->i1<=(n1:Int)->∀(y:List D),(y.length:Int)=sl->(∀x∈y,Sl o x)->∃z,z=(aX (aD d) (p.drop i1.toNat) (t.drop i1.toNat) y).2/\o.loop 28100 (gQ p t i1 y)=some (if (aX (aD d) (p.drop i1.toNat) (t.drop i1.toNat) y).1 then (.exit 0,jK z)else (.ret,jL z)):=by
 refine bV (P:=λi1=>∀(y:List D),(y.length:Int)=sl->(∀x∈y,Sl o x)->∃z,z=(aX (aD d) (p.drop i1.toNat) (t.drop i1.toNat) y).2/\o.loop 28100 (gQ p t i1 y)=some (if (aX (aD d) (p.drop i1.toNat) (t.drop i1.toNat) y).1 then (.exit 0,jK z)else (.ret,jL z))) (n1:Int) ?_;intro i1 h0 h1 ih;try dsimp only at ih |-
 intro y hS hSl;have e1:o.len p=n1:=(iI ho _).trans hn;rcases aZ ho i1 n1 with ⟨e2,g2⟩|⟨e2,g2⟩
 ·rw[bf hn (by omega),rf];exact ⟨y,rfl,(ho.aB (by cbv;repeat (simp only[e1,e2];try cbv)):_=some (.exit 0,jK y))⟩
 ·obtain ⟨x,hx0,hx1,hx2⟩:=ax hn h0 g2;obtain ⟨m1,n2,n3,s1,l1,hd1,rfl,hs,hl,ht⟩:=bP (hP _ hx2);have e3:=ak ho h0 hx0;obtain ⟨y1,hy0,hy1,hy2⟩:=ax (xs:=t) rfl h0 (by omega);obtain ⟨m2,n4,n5,s2,l2,hd2,rfl,hs2,ht2⟩:=gb (hT _ hy2);have e4:=ak ho h0 hy0;have hc:=IH _ _ _ _ _ (hP _ hx2) (hM _ hx2) _ _ _ _ (hT _ hy2) y hS hSl;have hsl:=lp (o:=o) d (.agg [.int .i64 n2,.int .i64 n3,.str s1,.lst l1]) (.agg [.int .i64 n4,.int .i64 n5,.str s2,.lst l2]) y (hT _ hy2) hSl;obtain ⟨l3,hl3⟩:∃z,(aD d (.agg [.int .i64 n2,.int .i64 n3,.str s1,.lst l1]) (.agg [.int .i64 n4,.int .i64 n5,.str s2,.lst l2]) y).2=z:=⟨_,rfl⟩
  unfold Ni at hsl;rw[hl3]at hc hsl;cases hb:(aD d (.agg [.int .i64 n2,.int .i64 n3,.str s1,.lst l1]) (.agg [.int .i64 n4,.int .i64 n5,.str s2,.lst l2]) y).1
  ·have e5:o.call 188 [At n2 n3 s1 l1,At n4 n5 s2 l2,.arr (1,0) (31,4) none false] [Os y]=some ⟨Ab false,[Os l3],[]⟩:=by rw[hb]at hc;exact hc
   rw[hx1,hy1,mX,hb,hl3];exact ⟨l3,rfl,(ho.aB (by cbv;repeat (simp only[e1,e2,e3,e4,e5];try cbv)):_=some (.ret,jL l3))⟩
  ·have e5:o.call 188 [At n2 n3 s1 l1,At n4 n5 s2 l2,.arr (1,0) (31,4) none false] [Os y]=some ⟨Ab true,[Os l3],[]⟩:=by rw[hb]at hc;exact hc
   obtain ⟨n6,e6⟩:=kx (o.ar .add .i64 i1 1);try have g6:n6=i1+1:=e6.symm.trans (ck ho (by omega) (by omega))
   rw[hx1,hy1,mX,hb,if_pos rfl,hl3];obtain ⟨z,hz,hw⟩:=ih (by omega) l3 (by rw[hsl.1];exact hS) hsl.2;refine ⟨z,hz,?_⟩;refine (λz (hz:o.loop 28100 (gQ p t n6 l3)=some z)=>ho.aB (by rw[<-hz];cbv;repeat (simp only[e1,e2,e3,e4,e5,e6];try cbv)):∀z,o.loop 28100 (gQ p t n6 l3)=some z->o.loop 28100 (gQ p t i1 y)=some z) _ ?_;rw[show n6=i1+1 by omega];exact hw
theorem sK (sl:Int) (d:Nat) (IH:MD o sl d) (p t:List D) {m:Nat} (hP:∀x∈p,Tm m x) (hM:∀x∈p,dc o sl d x<=300) (hT:∀x∈t,Rt o 8 x) (hle:(p.length:Int)<=t.length) (hb:(p.length:Int)<=1048576) (S:List D) (hS:(S.length:Int)=sl) (hSl:∀x∈S,Sl o x):o.call 281 [Al p,Al t,.arr (1,0) (31,4) none false] [Os S]=some ⟨Ab (aX (aD d) p t S).1,[Os (aX (aD d) p t S).2],[]⟩:=by
 refine ho.aC λR Q=> ?_
 conv=>lhs;cbv
 obtain ⟨l1,hz,hl⟩:=La ho sl d IH p t hP hM hT hle hb _ rfl 0 (Int.le_refl _) (by omega) S hS hSl;rw[show (0:Int).toNat=0 from rfl,List.drop_zero,List.drop_zero]at hz hl;conv at hl=>lhs;cbv
 cases hb2:(aX (aD d) p t S).1<;>(conv=>lhs;rw[hl,hb2];cbv)
 all_goals
  subst Q;try rw[hb2]
  rw[<-hz];try rfl
end
end T2
