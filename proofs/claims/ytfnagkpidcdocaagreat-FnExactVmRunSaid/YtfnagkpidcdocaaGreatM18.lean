import Derived.Test.YtfnagkpidcdocaaGreatM17
import Derived.Test.YtfnagkpidcdocaaGreatM16
set_option linter.all false
namespace T2
open Go Go.Vi
set_option maxRecDepth 100000
set_option maxHeartbeats 4000000
theorem KO {o:aK} {l:List D} {k:Int} (hT:∀x∈l,Rt o 8 x) (hb:(l.length:Int)<=1060):Tm 9 (.agg [.int .i64 k,.int .i64 0,.str ⟨#[]⟩,.lst l]):=⟨k,0,_,l,rfl,by decide,by omega,fun x hx=>j6 (hT x hx)⟩
theorem uy {o:aK} {t:D} (h:sw o t=true):H6 o t=(t,0):=by unfold H6;rw [if_pos h]
theorem uz {o:aK} {t:D} (h:sw o t=false):H6 o t=(lD,4):=by unfold H6;rw [h];rfl
theorem Bw {o:aK} {l:List D} (h:lq l=none):gu o 6 l=(lD,3):=by unfold gu;rw [if_pos rfl,h]
theorem uD {o:aK} {l x:List D} (h:lq l=some x):gu o 6 l=H6 o (.agg [.int .i64 5,.int .i64 0,.str ⟨#[]⟩,.lst x]):=by unfold gu;rw [if_pos rfl,h]
theorem qi {o:aK} {l:List D} {k:Int} (h:k≠6):gu o k l=H6 o (.agg [.int .i64 k,.int .i64 0,.str ⟨#[]⟩,.lst l]):=by unfold gu;rw [if_neg h]
def H9 (o:aK) (r:D×Int):Prop:=∃k n s l,r.1= .agg [.int .i64 k,.int .i64 n,.str s,.lst l]/\(r.2=0\/r.2=3\/r.2=4)/\(r.2=0->Rt o 8 r.1)
theorem w7 {o:aK} {c:Int} (h:c=3\/c=4):H9 o (lD,c):=⟨0,0,⟨#[]⟩,[],rfl,by simp only;omega,fun e=>by simp only at e;omega⟩
theorem ER {o:aK} {l:List D} {k:Int} (hT:∀x∈l,Rt o 8 x) (hb:(l.length:Int)<=1060):H9 o (H6 o (.agg [.int .i64 k,.int .i64 0,.str ⟨#[]⟩,.lst l])):=by
 cases h:sw o (.agg [.int .i64 k,.int .i64 0,.str ⟨#[]⟩,.lst l])
 ·rw [uz h];exact w7 (.inr rfl)
 ·rw [uy h];exact ⟨_,_,_,_,rfl,.inl rfl,fun _=>yt (KO hT hb) h⟩
theorem CI {o:aK} {l x:List D} (hT:∀x∈l,Rt o 8 x) (hb:(l.length:Int)<=1000) (h:lq l=some x):(x.length:Int)<=1060/\∀y∈x,Rt o 8 y:=by
 unfold lq at h;split at h
 ·rename_i k n y hx;split at h
  ·injection h with h;obtain ⟨m,q⟩:=fL (hT _ (List.mem_of_getElem? hx));obtain ⟨k',c',s',l',e,e2,hs,ht⟩:=q;injection e2 with e2;simp only [List.cons.injEq,D.lst.injEq]at e2;obtain ⟨_,_,_,rfl,_⟩:=e2;have:=ga hs;subst h;refine ⟨by rw [List.length_append,List.length_take];omega,fun z hz=> ?_⟩;rcases List.mem_append.1 hz with h | h
   ·exact hT z (List.mem_of_mem_take h)
   ·exact w6 (by omega) (ht z h)
  ·cases h
 ·cases h
theorem mq {o:aK} {l:List D} {k:Int} (hT:∀x∈l,Rt o 8 x) (hb:(l.length:Int)<=1000):H9 o (gu o k l):=by
 by_cases h6:k=6
 ·subst h6;cases h:lq l with
  | none=>rw [Bw h];exact w7 (.inl rfl)
  | some x=>rw [uD h];have:=CI hT hb h;exact ER this.2 this.1
 ·rw [qi h6];exact ER hT (by omega)
def tB (b:Bool):D:= .agg [.int .i64 2,.int .i64 0,.str (if b then ⟨#[116,114,117,101]⟩else ⟨#[102,97,108,115,101]⟩),.lst []]
def ab (x:Int):Int:=if x<0 then 0-x else x
def iA (o:aK) (a b:Int):Option Int:=if a=0 then some 0 else if b=0 then some 0 else if o.ar .quo .i64 1000000000000 (ab b)<ab a then none else some (o.ar .mul .i64 a b)
def x7 (n:Int):D×Int:=if i_ n (-1000000000000) 1000000000000 then (.agg [.int .i64 1,.int .i64 n,.str ⟨#[]⟩,.lst []],0)else (lD,3)
def zE (o:aK) (s:ByteArray) (a b:Int):D×Int:=if s=⟨#[43]⟩then x7 (o.ar .add .i64 a b)else if s=⟨#[45]⟩then x7 (o.ar .sub .i64 a b)else match iA o a b with | none=>(lD,3) | some n=>x7 n
theorem ET (n:Int):∃n1 n2 s l c,x7 n=(.agg [.int .i64 n1,.int .i64 n2,.str s,.lst l],c):=by
 unfold x7;split
 ·exact ⟨_,_,_,_,_,rfl⟩
 ·exact ⟨_,_,_,_,_,rfl⟩
theorem MF (o:aK) (s:ByteArray) (a b:Int):∃n1 n2 s' l c,zE o s a b=(.agg [.int .i64 n1,.int .i64 n2,.str s',.lst l],c):=by
 unfold zE;split
 ·exact ET _
 split
 ·exact ET _
 split
 ·exact ⟨_,_,_,_,_,rfl⟩
 ·exact ET _
noncomputable def zF (o:aK) (s:ByteArray):D->D->D×Int
 | .agg [.int _ k,.int _ n,.str t,.lst l],.agg [.int _ k',.int _ n',.str t',.lst l']=>
  if s=⟨#[61,61]⟩then (tB (bY (.agg [.int .i64 k,.int .i64 n,.str t,.lst l]) (.agg [.int .i64 k',.int .i64 n',.str t',.lst l'])),0)
  else if s=⟨#[60]⟩then (tB (decide (fV o 8 (.agg [.int .i64 k,.int .i64 n,.str t,.lst l]) (.agg [.int .i64 k',.int .i64 n',.str t',.lst l'])<0)),0)
  else if k≠1 then (lD,3)else if k'≠1 then (lD,3)else zE o s n n'
 | _,_=>(lD,3)
theorem jz {o:aK} {s:ByteArray} {k n k' n':Int} {t t':ByteArray} {l l':List D}:zF o s (.agg [.int .i64 k,.int .i64 n,.str t,.lst l]) (.agg [.int .i64 k',.int .i64 n',.str t',.lst l'])=
 if s=⟨#[61,61]⟩then (tB (bY (.agg [.int .i64 k,.int .i64 n,.str t,.lst l]) (.agg [.int .i64 k',.int .i64 n',.str t',.lst l'])),0)
 else if s=⟨#[60]⟩then (tB (decide (fV o 8 (.agg [.int .i64 k,.int .i64 n,.str t,.lst l]) (.agg [.int .i64 k',.int .i64 n',.str t',.lst l'])<0)),0)
 else if k≠1 then (lD,3)else if k'≠1 then (lD,3)else zE o s n n':=rfl
section
variable {o:aK} (ho:aU cF bE o)
include ho
theorem MG (a0:Int) (a1:List D) (hk:a0=4\/a0=5\/a0=6) (hT:∀x∈a1,Rt o 8 x) (h1:a0=6->1<=(a1.length:Int)) (hb:(a1.length:Int)<=1000):o.call 288 [Ai a0,Al a1] []=Ar (cv (gu o a0 a1)):=by
 refine ho.aI fun R Q=> ?_
 conv=>lhs;cbv
 rcases ak ho a0 5 with ⟨e1,g1⟩|⟨e1,g1⟩<;>(conv=>lhs;rw [e1];cbv)
 ·rcases ak ho a0 6 with ⟨e2,g2⟩|⟨e2,g2⟩<;>(conv=>lhs;rw [e2];cbv)
  ·cases he3:sw o (.agg [.int .i64 4,.int .i64 0,.str ⟨#[]⟩,.lst a1])<;>(conv=>lhs;rw [ql ho _ _ _ _ (KO hT (by omega)),he3];cbv)
   ·subst Q;rw [(show a0=4 by omega),qi (by omega),uz he3];try rfl
   ·subst Q;rw [(show a0=4 by omega),qi (by omega),uy he3];try rfl
  ·rcases H8 ho a1 hT (h1 g2) hb with ⟨hc,e3⟩ | ⟨l1,hc,hc1,hc2,e3⟩
   ·conv=>lhs;rw [e3];cbv
    subst Q;rw [g2,Bw hc];try rfl
   ·conv=>lhs;rw [e3];cbv
    cases he4:sw o (.agg [.int .i64 5,.int .i64 0,.str ⟨#[]⟩,.lst l1])<;>(conv=>lhs;rw [ql ho _ _ _ _ (KO hc2 hc1),he4];cbv)
    ·subst Q;rw [g2,uD hc,uz he4];try rfl
    ·subst Q;rw [g2,uD hc,uy he4];try rfl
 ·cases he2:sw o (.agg [.int .i64 5,.int .i64 0,.str ⟨#[]⟩,.lst a1])<;>(conv=>lhs;rw [ql ho _ _ _ _ (KO hT (by omega)),he2];cbv)
  ·subst Q;rw [g1,qi (by omega),uz he2];try rfl
  ·subst Q;rw [g1,qi (by omega),uy he2];try rfl
theorem x9 (a0:Int) (a1:List D) (hk:a0=4\/a0=5\/a0=6) (hT:∀x∈a1,Rt o 8 x) (h1:a0=6->1<=(a1.length:Int)) (hb:(a1.length:Int)<=1000):o.call 282 [Ai a0,Al a1] []=Ar (cv (gu o a0 a1)):=by
 refine ho.aI fun R Q=> ?_
 conv=>lhs;cbv
 rcases ak ho a0 4 with ⟨e1,g1⟩|⟨e1,g1⟩<;>(conv=>lhs;rw [e1];cbv)
 ·rcases ak ho a0 6 with ⟨e2,g2⟩|⟨e2,g2⟩<;>(conv=>lhs;rw [e2];cbv)
  ·cases he3:sw o (.agg [.int .i64 5,.int .i64 0,.str ⟨#[]⟩,.lst a1])<;>(conv=>lhs;rw [qm ho _ _ _ _ (KO hT (by omega)),he3];cbv)
   ·subst Q;rw [(show a0=5 by omega),qi (by omega),uz he3];try rfl
   ·subst Q;rw [(show a0=5 by omega),qi (by omega),uy he3];try rfl
  ·obtain ⟨n1,e3,g3⟩:=aB ho a1;have h1:=h1 g2;obtain ⟨n2,e4⟩:=kx (o.ar .sub .i64 n1 1);have g4:n2=n1-1:=e4.symm.trans (fP ho (by omega) (by omega));conv=>lhs;rw [e3];cbv;rw [e4];cbv
   obtain ⟨x,hx0,hx1,hx2⟩:=aD (xs:=a1) rfl (show 0<=n2 by omega) (by omega);obtain ⟨m',n3,n4,s1,l1,hd',rfl,hs,ht⟩:=fL (hT _ hx2);have hlen1:=ga hs;have e5:o.dm a1 n2=some (.agg [.int .i64 n3,.int .i64 n4,.str s1,.lst l1]):=av ho (by omega) hx0;have hcs:lq a1=if n3=5 then some (a1.take n2.toNat++l1)else none:=by
    unfold lq;rw [show (a1.length:Int)-1=n2 by omega,hx0]
   conv=>lhs;rw [e5];cbv
   rcases cH ho n3 5 with ⟨e6,g6⟩|⟨e6,g6⟩<;>(conv=>lhs;rw [e6];cbv)
   ·obtain ⟨n5,g7,e7⟩:∃n5,n5=n2-0/\o.minus n2 0=n5:=⟨_,rfl,by rw [ho.minus]⟩
    obtain ⟨l2,hl2,e8⟩:∃l2,l2=a1.take n2.toNat/\o.sub a1 0 n5=some l2:=⟨_,rfl,by rw [gZ ho (Int.le_refl _) (by omega) (by omega)];rw [show n5=n2 by omega];rfl⟩
    have hle2:(l2.length:Int)<=1000:=by rw [hl2,List.length_take];omega
    have e9:o.fits 4 56 l2=true:=by exact cX ho (by omega) (by decide) (fun z hz=>eG (hT z (by rw [hl2]at hz;exact List.mem_of_mem_take hz)))
    obtain ⟨l3,hl3,e10⟩:∃l3,l2++l1=l3/\o.app l2 l1=l3:=⟨_,rfl,ho.app _ _⟩
    have hc:lq a1=some l3:=by rw [hcs,if_pos g6,<-hl2,hl3]
    have hc0:=CI hT hb hc;have hc1:=hc0.1;have hc2:=hc0.2;have e11:o.fits 4 56 l3=true:=by exact cX ho (by omega) (by decide) (fun z hz=>eG (hc2 z hz))
    conv=>lhs;rw [e7];cbv;rw [e8];cbv;(try (rw [e5];cbv));rw [e9];cbv;rw [e10];cbv;rw [e11];cbv
    cases he12:sw o (.agg [.int .i64 5,.int .i64 0,.str ⟨#[]⟩,.lst l3])<;>(conv=>lhs;rw [qm ho _ _ _ _ (KO hc2 hc1),he12];cbv)
    ·subst Q;rw [g2,uD hc,uz he12];try rfl
    ·subst Q;rw [g2,uD hc,uy he12];try rfl
   ·subst Q;rw [g2,Bw (by rw [hcs,if_neg g6])];try rfl
 ·cases he2:sw o (.agg [.int .i64 4,.int .i64 0,.str ⟨#[]⟩,.lst a1])<;>(conv=>lhs;rw [qm ho _ _ _ _ (KO hT (by omega)),he2];cbv)
  ·subst Q;rw [g1,qi (by omega),uz he2];try rfl
  ·subst Q;rw [g1,qi (by omega),uy he2];try rfl
theorem CJ (a0:Bool):o.call 290 [Ab a0] []=Ar (At 2 0 (if a0 then ⟨#[116,114,117,101]⟩else ⟨#[102,97,108,115,101]⟩) []):=by
 refine ho.aI fun R Q=> ?_
 conv=>lhs;cbv
 cases e1:a0;all_goals
  conv=>lhs;cbv
  subst Q;exact (Eq.refl _).trans (by first | rfl | simp_all)
theorem CK (a0:Bool):o.call 346 [Ab a0] []=Ar (At 2 0 (if a0 then ⟨#[116,114,117,101]⟩else ⟨#[102,97,108,115,101]⟩) []):=by
 refine ho.aI fun R Q=> ?_
 conv=>lhs;cbv
 cases e1:a0;all_goals
  conv=>lhs;cbv
  subst Q;exact (Eq.refl _).trans (by first | rfl | simp_all)
theorem MH (a0:Int) (hb: -1000000000000<=a0/\a0<=1000000000000):o.call 349 [Ai a0] []=Ar (Ai (ab a0)):=by
 refine ho.aI fun R Q=> ?_
 conv=>lhs;cbv
 rcases bB ho a0 0 with ⟨e1,g1⟩|⟨e1,g1⟩<;>(conv=>lhs;rw [e1];cbv)
 ·subst Q;exact (Eq.refl _).trans (by unfold ab;first | (rw [if_pos (by assumption)];simp only [*];done) | (rw [if_neg (by omega)];done))
 ·obtain ⟨n1,e2,g2⟩:=aS ho 0 a0;conv=>lhs;rw [e2];cbv
  subst Q;exact (Eq.refl _).trans (by unfold ab;first | (rw [if_pos (by assumption)];simp only [*];done) | (rw [if_neg (by omega)];done))
theorem EU (a0 a1:Int) (hb: -1000000000000<=a0/\a0<=1000000000000) (hb1: -1000000000000<=a1/\a1<=1000000000000):(iA o a0 a1=none/\o.call 353 [.d (.int .i64 a0),.d (.int .i64 a1)] []=some ⟨.tup [.d (.int .i64 0),.d (.bool false)],[],[]⟩)\/(∃n,iA o a0 a1=some n/\o.call 353 [.d (.int .i64 a0),.d (.int .i64 a1)] []=some ⟨.tup [.d (.int .i64 n),.d (.bool true)],[],[]⟩):=by
 rcases ak ho a0 0 with ⟨e1,g1⟩|⟨e1,g1⟩
 ·rcases ak ho a1 0 with ⟨e2,g2⟩|⟨e2,g2⟩
  ·obtain ⟨n1,e3⟩:=kx (o.ar .sub .i64 0 a0);try have g3:n1=0-a0:=e3.symm.trans (fP ho (by omega) (by omega))
   rcases bB ho a0 n1 with ⟨e4,g4⟩|⟨e4,g4⟩
   ·obtain ⟨n2,e5⟩:=kx (o.ar .sub .i64 0 a1);try have g5:n2=0-a1:=e5.symm.trans (fP ho (by omega) (by omega))
    rcases bB ho a1 n2 with ⟨e6,g6⟩|⟨e6,g6⟩
    ·have e7:o.isZero a1=false:=by rw [ho.isZero];exact decide_eq_false (by omega)
     obtain ⟨n3,e8⟩:=kx (o.ar .quo .i64 1000000000000 a1);rcases fe ho a0 n3 with ⟨e9,g9⟩|⟨e9,g9⟩
     ·obtain ⟨n4,e10⟩:=kx (o.ar .mul .i64 a0 a1);have h0:iA o a0 a1=if o.ar .quo .i64 1000000000000 (ab a1)<ab a0 then none else some (o.ar .mul .i64 a0 a1):=by unfold iA;rw [if_neg g1,if_neg g2]
      rw [show ab a0=a0 by unfold ab;split<;>omega,show ab a1=a1 by unfold ab;split<;>omega]at h0;rw [e8]at h0;refine .inr ⟨n4,?_,(ho.aq (by cbv;repeat (simp only [e1,e2,e3,e4,e5,e6,e7,e8,e9,e10];try cbv)):o.call 353 [.d (.int .i64 a0),.d (.int .i64 a1)] []=some ⟨.tup [.d (.int .i64 n4),.d (.bool true)],[],[]⟩)⟩;rw [h0,if_neg (by omega),e10]
     ·have h0:iA o a0 a1=if o.ar .quo .i64 1000000000000 (ab a1)<ab a0 then none else some (o.ar .mul .i64 a0 a1):=by unfold iA;rw [if_neg g1,if_neg g2]
      rw [show ab a0=a0 by unfold ab;split<;>omega,show ab a1=a1 by unfold ab;split<;>omega]at h0;rw [e8]at h0;refine .inl ⟨?_,(ho.aq (by cbv;repeat (simp only [e1,e2,e3,e4,e5,e6,e7,e8,e9];try cbv)):o.call 353 [.d (.int .i64 a0),.d (.int .i64 a1)] []=some ⟨.tup [.d (.int .i64 0),.d (.bool false)],[],[]⟩)⟩;rw [h0,if_pos (by omega)]
    ·have e7:o.isZero n2=false:=by rw [ho.isZero];exact decide_eq_false (by omega)
     obtain ⟨n3,e8⟩:=kx (o.ar .quo .i64 1000000000000 n2);rcases fe ho a0 n3 with ⟨e9,g9⟩|⟨e9,g9⟩
     ·obtain ⟨n4,e10⟩:=kx (o.ar .mul .i64 a0 a1);have h0:iA o a0 a1=if o.ar .quo .i64 1000000000000 (ab a1)<ab a0 then none else some (o.ar .mul .i64 a0 a1):=by unfold iA;rw [if_neg g1,if_neg g2]
      rw [show ab a0=a0 by unfold ab;split<;>omega,show ab a1=n2 by unfold ab;split<;>omega]at h0;rw [e8]at h0;refine .inr ⟨n4,?_,(ho.aq (by cbv;repeat (simp only [e1,e2,e3,e4,e5,e6,e7,e8,e9,e10];try cbv)):o.call 353 [.d (.int .i64 a0),.d (.int .i64 a1)] []=some ⟨.tup [.d (.int .i64 n4),.d (.bool true)],[],[]⟩)⟩;rw [h0,if_neg (by omega),e10]
     ·have h0:iA o a0 a1=if o.ar .quo .i64 1000000000000 (ab a1)<ab a0 then none else some (o.ar .mul .i64 a0 a1):=by unfold iA;rw [if_neg g1,if_neg g2]
      rw [show ab a0=a0 by unfold ab;split<;>omega,show ab a1=n2 by unfold ab;split<;>omega]at h0;rw [e8]at h0;refine .inl ⟨?_,(ho.aq (by cbv;repeat (simp only [e1,e2,e3,e4,e5,e6,e7,e8,e9];try cbv)):o.call 353 [.d (.int .i64 a0),.d (.int .i64 a1)] []=some ⟨.tup [.d (.int .i64 0),.d (.bool false)],[],[]⟩)⟩;rw [h0,if_pos (by omega)]
   ·obtain ⟨n2,e5⟩:=kx (o.ar .sub .i64 0 a1);try have g5:n2=0-a1:=e5.symm.trans (fP ho (by omega) (by omega))
    rcases bB ho a1 n2 with ⟨e6,g6⟩|⟨e6,g6⟩
    ·have e7:o.isZero a1=false:=by rw [ho.isZero];exact decide_eq_false (by omega)
     obtain ⟨n3,e8⟩:=kx (o.ar .quo .i64 1000000000000 a1);rcases fe ho n1 n3 with ⟨e9,g9⟩|⟨e9,g9⟩
     ·obtain ⟨n4,e10⟩:=kx (o.ar .mul .i64 a0 a1);have h0:iA o a0 a1=if o.ar .quo .i64 1000000000000 (ab a1)<ab a0 then none else some (o.ar .mul .i64 a0 a1):=by unfold iA;rw [if_neg g1,if_neg g2]
      rw [show ab a0=n1 by unfold ab;split<;>omega,show ab a1=a1 by unfold ab;split<;>omega]at h0;rw [e8]at h0;refine .inr ⟨n4,?_,(ho.aq (by cbv;repeat (simp only [e1,e2,e3,e4,e5,e6,e7,e8,e9,e10];try cbv)):o.call 353 [.d (.int .i64 a0),.d (.int .i64 a1)] []=some ⟨.tup [.d (.int .i64 n4),.d (.bool true)],[],[]⟩)⟩;rw [h0,if_neg (by omega),e10]
     ·have h0:iA o a0 a1=if o.ar .quo .i64 1000000000000 (ab a1)<ab a0 then none else some (o.ar .mul .i64 a0 a1):=by unfold iA;rw [if_neg g1,if_neg g2]
      rw [show ab a0=n1 by unfold ab;split<;>omega,show ab a1=a1 by unfold ab;split<;>omega]at h0;rw [e8]at h0;refine .inl ⟨?_,(ho.aq (by cbv;repeat (simp only [e1,e2,e3,e4,e5,e6,e7,e8,e9];try cbv)):o.call 353 [.d (.int .i64 a0),.d (.int .i64 a1)] []=some ⟨.tup [.d (.int .i64 0),.d (.bool false)],[],[]⟩)⟩;rw [h0,if_pos (by omega)]
    ·have e7:o.isZero n2=false:=by rw [ho.isZero];exact decide_eq_false (by omega)
     obtain ⟨n3,e8⟩:=kx (o.ar .quo .i64 1000000000000 n2);rcases fe ho n1 n3 with ⟨e9,g9⟩|⟨e9,g9⟩
     ·obtain ⟨n4,e10⟩:=kx (o.ar .mul .i64 a0 a1);have h0:iA o a0 a1=if o.ar .quo .i64 1000000000000 (ab a1)<ab a0 then none else some (o.ar .mul .i64 a0 a1):=by unfold iA;rw [if_neg g1,if_neg g2]
      rw [show ab a0=n1 by unfold ab;split<;>omega,show ab a1=n2 by unfold ab;split<;>omega]at h0;rw [e8]at h0;refine .inr ⟨n4,?_,(ho.aq (by cbv;repeat (simp only [e1,e2,e3,e4,e5,e6,e7,e8,e9,e10];try cbv)):o.call 353 [.d (.int .i64 a0),.d (.int .i64 a1)] []=some ⟨.tup [.d (.int .i64 n4),.d (.bool true)],[],[]⟩)⟩;rw [h0,if_neg (by omega),e10]
     ·have h0:iA o a0 a1=if o.ar .quo .i64 1000000000000 (ab a1)<ab a0 then none else some (o.ar .mul .i64 a0 a1):=by unfold iA;rw [if_neg g1,if_neg g2]
      rw [show ab a0=n1 by unfold ab;split<;>omega,show ab a1=n2 by unfold ab;split<;>omega]at h0;rw [e8]at h0;refine .inl ⟨?_,(ho.aq (by cbv;repeat (simp only [e1,e2,e3,e4,e5,e6,e7,e8,e9];try cbv)):o.call 353 [.d (.int .i64 a0),.d (.int .i64 a1)] []=some ⟨.tup [.d (.int .i64 0),.d (.bool false)],[],[]⟩)⟩;rw [h0,if_pos (by omega)]
  ·exact .inr ⟨0,by unfold iA;rw [if_neg g1,if_pos g2],(ho.aq (by cbv;repeat (simp only [e1,e2];try cbv)):o.call 353 [.d (.int .i64 a0),.d (.int .i64 a1)] []=some ⟨.tup [.d (.int .i64 0),.d (.bool true)],[],[]⟩)⟩
 ·exact .inr ⟨0,by unfold iA;rw [if_pos g1],(ho.aq (by cbv;repeat (simp only [e1];try cbv)):o.call 353 [.d (.int .i64 a0),.d (.int .i64 a1)] []=some ⟨.tup [.d (.int .i64 0),.d (.bool true)],[],[]⟩)⟩
theorem KP (a0:ByteArray) (a1 a2:Int) (hb: -1000000000000<=a1/\a1<=1000000000000) (hb1: -1000000000000<=a2/\a2<=1000000000000):o.call 292 [As a0,Ai a1,Ai a2] []=Ar (cv (zE o a0 a1 a2)):=by
 refine ho.aI fun R Q=> ?_
 conv=>lhs;cbv
 rcases aP ho a0 ⟨#[43]⟩with ⟨e1,g1⟩|⟨e1,g1⟩<;>(conv=>lhs;rw [e1];cbv)
 ·rcases aP ho a0 ⟨#[45]⟩with ⟨e2,g2⟩|⟨e2,g2⟩<;>(conv=>lhs;rw [e2];cbv)
  ·rcases EU ho a1 a2 hb hb1 with ⟨hm,e3⟩ | ⟨n1,hm,e3⟩
   ·conv=>lhs;rw [e3];cbv
    subst Q;exact (Eq.refl _).trans (by unfold zE;simp_all [x7,cv,lD])
   ·conv=>lhs;rw [e3];cbv
    rcases aR n1 (-1000000000000) 1000000000000 with ⟨e4,g4⟩|⟨e4,g4⟩
    all_goals
     conv=>lhs;rw [ax ho,e4];cbv
     subst Q;exact (Eq.refl _).trans (by unfold zE;simp_all [x7,cv,lD])
  ·obtain ⟨n1,e3,g3⟩:=aS ho a1 a2;conv=>lhs;rw [e3];cbv
   rcases aR n1 (-1000000000000) 1000000000000 with ⟨e4,g4⟩|⟨e4,g4⟩
   all_goals
    conv=>lhs;rw [ax ho,e4];cbv
    subst Q;exact (Eq.refl _).trans (by unfold zE;simp_all [x7,cv,lD])
 ·obtain ⟨n1,e2,g2⟩:=bA ho a1 a2;conv=>lhs;rw [e2];cbv
  rcases aR n1 (-1000000000000) 1000000000000 with ⟨e3,g3⟩|⟨e3,g3⟩
  all_goals
   conv=>lhs;rw [ax ho,e3];cbv
   subst Q;exact (Eq.refl _).trans (by unfold zE;simp_all [x7,cv,lD])
omit ho in
theorem CM {k n:Int} {s:ByteArray} {l:List D} (h:iP o k n s l=true) (hk:k=1): -1000000000000<=n/\n<=1000000000000:=by
 unfold iP at h;rw [if_pos hk]at h;simp only [ah]at h;exact cT h.1.1
theorem DH (a0:ByteArray) (a1_0 a1_1:Int) (a1_2:ByteArray) (a1_3:List D) (a2_0 a2_1:Int) (a2_2:ByteArray) (a2_3:List D) (hT:Rt o 8 (.agg [.int .i64 a1_0,.int .i64 a1_1,.str a1_2,.lst a1_3])) (hT2:Rt o 8 (.agg [.int .i64 a2_0,.int .i64 a2_1,.str a2_2,.lst a2_3])):o.call 198 [As a0,At a1_0 a1_1 a1_2 a1_3,At a2_0 a2_1 a2_2 a2_3] []=Ar (cv (zF o a0 (.agg [.int .i64 a1_0,.int .i64 a1_1,.str a1_2,.lst a1_3]) (.agg [.int .i64 a2_0,.int .i64 a2_1,.str a2_2,.lst a2_3]))):=by
 obtain ⟨m1,hm1,hs1,_⟩:=qk hT;obtain ⟨m2,hm2,hs2,_⟩:=qk hT2;refine ho.aI fun R Q=> ?_
 conv=>lhs;cbv
 rcases aP ho a0 ⟨#[61,61]⟩with ⟨e1,g1⟩|⟨e1,g1⟩<;>(conv=>lhs;rw [e1];cbv)
 ·rcases aP ho a0 ⟨#[60]⟩with ⟨e2,g2⟩|⟨e2,g2⟩<;>(conv=>lhs;rw [e2];cbv)
  ·rcases cH ho a1_0 1 with ⟨e3,g3⟩|⟨e3,g3⟩<;>(conv=>lhs;rw [e3];cbv)
   ·rcases cH ho a2_0 1 with ⟨e4,g4⟩|⟨e4,g4⟩<;>(conv=>lhs;rw [e4];cbv)
    ·have hb:=CM hs1 g3;have hb1:=CM hs2 g4;obtain ⟨n1,n2,s1,l1,n3,hA,e5⟩:∃n1 n2 s1 l1 n3,zE o a0 a1_1 a2_1=(.agg [.int .i64 n1,.int .i64 n2,.str s1,.lst l1],n3)/\o.call 292 [As a0,Ai a1_1,Ai a2_1] []=Ar (.tup [At n1 n2 s1 l1,Ai n3]):=by
      have h:=KP ho a0 a1_1 a2_1 hb hb1;obtain ⟨n1,n2,s1,l1,n3,hA⟩:=MF o a0 a1_1 a2_1;exact ⟨n1,n2,s1,l1,n3,hA,by rw [h,hA];rfl⟩
     conv=>lhs;rw [e5];cbv
     subst Q;rw [jz,if_neg g1,if_neg g2,if_neg (fun h=>h g3),if_neg (fun h=>h g4),hA];try rfl
    ·subst Q;rw [jz,if_neg g1,if_neg g2,if_neg (fun h=>h g3),if_pos g4];try rfl
   ·subst Q;rw [jz,if_neg g1,if_neg g2,if_pos g3];try rfl
  ·obtain ⟨b3,he3⟩:∃b:Bool,decide (fV o 8 (.agg [.int .i64 a1_0,.int .i64 a1_1,.str a1_2,.lst a1_3]) (.agg [.int .i64 a2_0,.int .i64 a2_1,.str a2_2,.lst a2_3])<0)=b:=⟨_,rfl⟩
   have e3:o.call 291 [At a1_0 a1_1 a1_2 a1_3,At a2_0 a2_1 a2_2 a2_3] []=Ar (Ab b3):=(IG ho _ _ _ _ _ _ _ _ hT hT2).trans (by rw [he3]);obtain ⟨s1,hq1,e4⟩:∃s1,(if b3 then (⟨#[116,114,117,101]⟩:ByteArray)else ⟨#[102,97,108,115,101]⟩)=s1/\o.call 290 [Ab b3] []=Ar (At 2 0 s1 []):=⟨_,rfl,CJ ho b3⟩
   conv=>lhs;rw [e3];cbv;rw [e4];cbv
   subst Q;rw [jz,if_neg g1,if_pos g2,he3];show _=some (bk.mk (cv (tB b3,0)) [] []);unfold tB;rw [hq1];try rfl
 ·obtain ⟨b2,he2⟩:∃b:Bool,bY (.agg [.int .i64 a1_0,.int .i64 a1_1,.str a1_2,.lst a1_3]) (.agg [.int .i64 a2_0,.int .i64 a2_1,.str a2_2,.lst a2_3])=b:=⟨_,rfl⟩
  have e2:o.call 66 [At a1_0 a1_1 a1_2 a1_3,At a2_0 a2_1 a2_2 a2_3] []=Ar (Ab b2):=(BF ho 8 _ _ _ _ _ _ _ _ 8 (j6 hT) (j6 hT2)).trans (by rw [he2]);obtain ⟨s1,hq1,e3⟩:∃s1,(if b2 then (⟨#[116,114,117,101]⟩:ByteArray)else ⟨#[102,97,108,115,101]⟩)=s1/\o.call 290 [Ab b2] []=Ar (At 2 0 s1 []):=⟨_,rfl,CJ ho b2⟩
  conv=>lhs;rw [e2];cbv;rw [e3];cbv
  subst Q;rw [jz,if_pos g1,he2];show _=some (bk.mk (cv (tB b2,0)) [] []);unfold tB;rw [hq1];try rfl
theorem DI (
            a0:ByteArray) (a1_0 a1_1:Int) (a1_2:ByteArray) (a1_3:List D) (a2_0 a2_1:Int) (a2_2:ByteArray) (a2_3:List D) (hT:Rt o 8 (.agg [.int .i64 a1_0,.int .i64 a1_1,.str a1_2,.lst a1_3])) (hT2:Rt o 8 (.agg [.int .i64 a2_0,.int .i64 a2_1,.str a2_2,.lst a2_3])):o.call 283 [.d (.str a0),.agg [.d (.int .i64 a1_0),.d (.int .i64 a1_1),.d (.str a1_2),.d (.lst a1_3)],.agg [.d (.int .i64 a2_0),.d (.int .i64 a2_1),.d (.str a2_2),.d (.lst a2_3)]] []=some ⟨cv (zF o a0 (.agg [.int .i64 a1_0,.int .i64 a1_1,.str a1_2,.lst a1_3]) (.agg [.int .i64 a2_0,.int .i64 a2_1,.str a2_2,.lst a2_3])),[],[]⟩:=by
 obtain ⟨m1,hm1,hs1,_⟩:=qk hT;obtain ⟨m2,hm2,hs2,_⟩:=qk hT2;refine ho.aI fun R Q=> ?_
 conv=>lhs;cbv
 rcases aP ho a0 ⟨#[61,61]⟩with ⟨e1,g1⟩|⟨e1,g1⟩<;>(conv=>lhs;rw [e1];cbv)
 ·rcases aP ho a0 ⟨#[60]⟩with ⟨e2,g2⟩|⟨e2,g2⟩<;>(conv=>lhs;rw [e2];cbv)
  ·rcases cH ho a1_0 1 with ⟨e3,g3⟩|⟨e3,g3⟩<;>(conv=>lhs;rw [e3];cbv)
   ·rcases cH ho a2_0 1 with ⟨e4,g4⟩|⟨e4,g4⟩<;>(conv=>lhs;rw [e4];cbv)
    ·have hb:=CM hs1 g3;have hb1:=CM hs2 g4;rcases aP ho a0 ⟨#[43]⟩with ⟨e5,g5⟩|⟨e5,g5⟩
     ·conv=>lhs;rw [e5];cbv
      rcases aP ho a0 ⟨#[45]⟩with ⟨e6,g6⟩|⟨e6,g6⟩<;>(conv=>lhs;rw [e6];cbv)
      ·rcases cH ho a1_1 0 with ⟨e7,g7⟩|⟨e7,g7⟩<;>(conv=>lhs;rw [e7];cbv)
       ·obtain ⟨n1,e8⟩:=kx (o.ar .mul .i64 a1_1 a2_1);conv=>lhs;rw [e8];cbv
        rcases aR n1 (-1000000000000) 1000000000000 with ⟨e9,g9⟩|⟨e9,g9⟩
        all_goals
         conv=>lhs;rw [aH ho,e9];cbv
         subst Q;rw [jz,if_neg g1,if_neg g2,if_neg (fun h=>h g3),if_neg (fun h=>h g4)];unfold zE;rw [if_neg g5,if_neg g6];rw [show iA o a1_1 a2_1=some 0 by unfold iA;rw [if_pos g7]];obtain rfl:n1=0:=by
           rw [<-e8,g7];exact (Kv ho (by rw [Int.zero_mul];omega) (by rw [Int.zero_mul];omega)).trans (Int.zero_mul _)
         show _=some (bk.mk (cv (x7 0)) [] []);unfold x7;rw [e9];try rfl
       ·rcases cH ho a2_1 0 with ⟨e8,g8⟩|⟨e8,g8⟩<;>(conv=>lhs;rw [e8];cbv)
        ·obtain ⟨n1,e9⟩:=kx (o.ar .mul .i64 a1_1 a2_1);conv=>lhs;rw [e9];cbv
         rcases aR n1 (-1000000000000) 1000000000000 with ⟨e10,g10⟩|⟨e10,g10⟩
         all_goals
          conv=>lhs;rw [aH ho,e10];cbv
          subst Q;rw [jz,if_neg g1,if_neg g2,if_neg (fun h=>h g3),if_neg (fun h=>h g4)];unfold zE;rw [if_neg g5,if_neg g6];rw [show iA o a1_1 a2_1=some 0 by unfold iA;rw [if_neg g7,if_pos g8]];obtain rfl:n1=0:=by
            rw [<-e9,g8];exact (Kv ho (by rw [Int.mul_zero];omega) (by rw [Int.mul_zero];omega)).trans (Int.mul_zero _)
          show _=some (bk.mk (cv (x7 0)) [] []);unfold x7;rw [e10];try rfl
        ·obtain ⟨n1,e9⟩:=kx (ab a1_1);obtain ⟨n2,e11⟩:=kx (ab a2_1);have e13:o.isZero n2=false:=by rw [ho.isZero];exact decide_eq_false (by rw [<- ‹ab a2_1=n2›];unfold ab;split<;>omega)
         obtain ⟨n3,e14⟩:=kx (o.ar .quo .i64 1000000000000 n2);conv=>lhs;rw [MH ho a1_1 (by omega),e9];cbv;rw [MH ho a2_1 (by omega),e11];cbv;rw [e13];cbv;rw [e14];cbv
         rcases fe ho n1 n3 with ⟨e15,g15⟩|⟨e15,g15⟩<;>(conv=>lhs;rw [e15];cbv)
         ·obtain ⟨n4,e16⟩:=kx (o.ar .mul .i64 a1_1 a2_1);conv=>lhs;rw [e16];cbv
          rcases aR n4 (-1000000000000) 1000000000000 with ⟨e17,g17⟩|⟨e17,g17⟩
          all_goals
           conv=>lhs;rw [aH ho,e17];cbv
           subst Q;rw [jz,if_neg g1,if_neg g2,if_neg (fun h=>h g3),if_neg (fun h=>h g4)];unfold zE;rw [if_neg g5,if_neg g6];have h0:iA o a1_1 a2_1=if o.ar .quo .i64 1000000000000 (ab a2_1)<ab a1_1 then none else some (o.ar .mul .i64 a1_1 a2_1):=by unfold iA;rw [if_neg g7,if_neg g8]
           rw [e9,e11,e14]at h0;rw [h0,if_neg (by omega),e16];show _=some (bk.mk (cv (x7 n4)) [] []);unfold x7;rw [e17];try rfl
         ·subst Q;rw [jz,if_neg g1,if_neg g2,if_neg (fun h=>h g3),if_neg (fun h=>h g4)];unfold zE;rw [if_neg g5,if_neg g6];have h0:iA o a1_1 a2_1=if o.ar .quo .i64 1000000000000 (ab a2_1)<ab a1_1 then none else some (o.ar .mul .i64 a1_1 a2_1):=by unfold iA;rw [if_neg g7,if_neg g8]
          rw [e9,e11,e14]at h0;rw [h0,if_pos (by omega)];try rfl
      ·obtain ⟨n1,e7,g7⟩:=aS ho a1_1 a2_1;conv=>lhs;rw [e7];cbv
       rcases aR n1 (-1000000000000) 1000000000000 with ⟨e8,g8⟩|⟨e8,g8⟩
       all_goals
        conv=>lhs;rw [aH ho,e8];cbv
        subst Q;rw [jz,if_neg g1,if_neg g2,if_neg (fun h=>h g3),if_neg (fun h=>h g4)];unfold zE;rw [if_neg g5,if_pos g6,e7];unfold x7;rw [e8];try rfl
     ·obtain ⟨n1,e6,g6⟩:=bA ho a1_1 a2_1;conv=>lhs;rw [e5];cbv;rw [e6];cbv
      rcases aR n1 (-1000000000000) 1000000000000 with ⟨e7,g7⟩|⟨e7,g7⟩
      all_goals
       conv=>lhs;rw [aH ho,e7];cbv
       subst Q;rw [jz,if_neg g1,if_neg g2,if_neg (fun h=>h g3),if_neg (fun h=>h g4)];unfold zE;rw [if_pos g5,e6];unfold x7;rw [e7];try rfl
    ·subst Q;rw [jz,if_neg g1,if_neg g2,if_neg (fun h=>h g3),if_pos g4];try rfl
   ·subst Q;rw [jz,if_neg g1,if_neg g2,if_pos g3];try rfl
  ·obtain ⟨b3,he3⟩:∃b:Bool,decide (fV o 8 (.agg [.int .i64 a1_0,.int .i64 a1_1,.str a1_2,.lst a1_3]) (.agg [.int .i64 a2_0,.int .i64 a2_1,.str a2_2,.lst a2_3])<0)=b:=⟨_,rfl⟩
   have e3:o.call 348 [.agg [.d (.int .i64 a1_0),.d (.int .i64 a1_1),.d (.str a1_2),.d (.lst a1_3)],.agg [.d (.int .i64 a2_0),.d (.int .i64 a2_1),.d (.str a2_2),.d (.lst a2_3)]] []=some ⟨.d (.bool b3),[],[]⟩:=(J9 ho 8 _ _ _ _ _ _ _ _ hT hT2).trans (by rw [he3]);obtain ⟨s1,hq1,e4⟩:∃s1,(if b3 then (⟨#[116,114,117,101]⟩:ByteArray)else ⟨#[102,97,108,115,101]⟩)=s1/\o.call 346 [.d (.bool b3)] []=some ⟨.agg [.d (.int .i64 2),.d (.int .i64 0),.d (.str s1),.d (.lst [])],[],[]⟩:=⟨_,rfl,CK ho b3⟩
   conv=>lhs;rw [e3];cbv;rw [e4];cbv
   subst Q;rw [jz,if_neg g1,if_pos g2,he3];show _=some (bk.mk (cv (tB b3,0)) [] []);unfold tB;rw [hq1];try rfl
 ·obtain ⟨b2,he2⟩:∃b:Bool,bY (.agg [.int .i64 a1_0,.int .i64 a1_1,.str a1_2,.lst a1_3]) (.agg [.int .i64 a2_0,.int .i64 a2_1,.str a2_2,.lst a2_3])=b:=⟨_,rfl⟩
  have e2:o.call 347 [.agg [.d (.int .i64 a1_0),.d (.int .i64 a1_1),.d (.str a1_2),.d (.lst a1_3)],.agg [.d (.int .i64 a2_0),.d (.int .i64 a2_1),.d (.str a2_2),.d (.lst a2_3)]] []=some ⟨.d (.bool b2),[],[]⟩:=(yu ho 8 _ _ _ _ _ _ _ _ 8 (j6 hT) (j6 hT2)).trans (by rw [he2]);obtain ⟨s1,hq1,e3⟩:∃s1,(if b2 then (⟨#[116,114,117,101]⟩:ByteArray)else ⟨#[102,97,108,115,101]⟩)=s1/\o.call 346 [.d (.bool b2)] []=some ⟨.agg [.d (.int .i64 2),.d (.int .i64 0),.d (.str s1),.d (.lst [])],[],[]⟩:=⟨_,rfl,CK ho b2⟩
  conv=>lhs;rw [e2];cbv;rw [e3];cbv
  subst Q;rw [jz,if_pos g1,he2];show _=some (bk.mk (cv (tB b2,0)) [] []);unfold tB;rw [hq1];try rfl
end
def w_ (s:ByteArray):Bool:=decide (s=⟨#[99,97,115,101]⟩) || (decide (s=⟨#[111,102]⟩) || decide (s=⟨#[101,110,100]⟩))
def gh (o:aK) (s:ByteArray):Bool:=Bp o s&& !w_ s
def jG (s:ByteArray):Bool:=decide (s=⟨#[43]⟩) || (decide (s=⟨#[45]⟩) || (decide (s=⟨#[42]⟩) || (decide (s=⟨#[61,61]⟩) || decide (s=⟨#[60]⟩))))
def kZ (o:aK) (k n:Int) (s:ByteArray) (c:Int):Bool:=
 if k=1 then i_ n 0 1000000000000&&decide (s=⟨#[]⟩)&&decide (c=0)
 else if k=2 then gh o s&&decide (n=0)&&decide (c=0)
 else if k=4 then decide (n=0)&&decide (s=⟨#[]⟩)&&decide (c<=20)
 else if k=5 then decide (n=0)&&decide (s=⟨#[]⟩)&&decide (c<=20)
 else if k=6 then decide (n=0)&&decide (s=⟨#[]⟩)&&i_ c 2 6
 else false
def gF (o:aK) (k n:Int) (s:ByteArray) (c sl:Int):Bool:=
 if k=3 then decide (s=⟨#[]⟩)&&decide (c=0)&&i_ n (-1) (sl-1)else kZ o k n s c
section
variable {o:aK} (ho:aU cF bE o)
include ho
theorem N0 (a0:ByteArray):o.call 359 [As a0] []=Ar (Ab (w_ a0)):=by
 refine ho.aI fun R Q=> ?_
 conv=>lhs;cbv
 rcases aP ho a0 ⟨#[99,97,115,101]⟩with ⟨e1,g1⟩|⟨e1,g1⟩<;>(conv=>lhs;rw [e1];cbv)
 ·rcases aP ho a0 ⟨#[111,102]⟩with ⟨e2,g2⟩|⟨e2,g2⟩<;>(conv=>lhs;rw [e2];cbv)
  ·rcases aP ho a0 ⟨#[101,110,100]⟩with ⟨e3,g3⟩|⟨e3,g3⟩<;>(conv=>lhs;rw [e3];cbv)
   all_goals
    subst Q;exact (Eq.refl _).trans (by simp_all [gh,w_,jG])
  ·subst Q;exact (Eq.refl _).trans (by simp_all [gh,w_,jG])
 ·subst Q;exact (Eq.refl _).trans (by simp_all [gh,w_,jG])
theorem tP (a0:ByteArray) (ha:(a0.size:Int)<=9000000000000000000):o.call 278 [As a0] []=Ar (Ab (gh o a0)):=by
 refine ho.aI fun R Q=> ?_
 conv=>lhs;cbv
 cases e1:Bp o a0
 ·conv=>lhs;rw [xS ho a0 (by omega),e1];cbv
  subst Q;exact (Eq.refl _).trans (by simp_all [gh,w_,jG])
 ·conv=>lhs;rw [xS ho a0 (by omega),e1];cbv
  rcases pu ho a0 ⟨#[99,97,115,101]⟩with ⟨e3,g3⟩|⟨e3,g3⟩<;>(conv=>lhs;rw [e3];cbv)
  ·subst Q;exact (Eq.refl _).trans (by simp_all [gh,w_,jG])
  ·rcases pu ho a0 ⟨#[111,102]⟩with ⟨e4,g4⟩|⟨e4,g4⟩<;>(conv=>lhs;rw [e4];cbv)
   ·subst Q;exact (Eq.refl _).trans (by simp_all [gh,w_,jG])
   ·rcases pu ho a0 ⟨#[101,110,100]⟩with ⟨e5,g5⟩|⟨e5,g5⟩<;>(conv=>lhs;rw [e5];cbv)
    all_goals
     subst Q;exact (Eq.refl _).trans (by simp_all [gh,w_,jG])
theorem oz (a0:ByteArray) (ha:(a0.size:Int)<=9000000000000000000):o.call 316 [As a0] []=Ar (Ab (gh o a0)):=by
 refine ho.aI fun R Q=> ?_
 conv=>lhs;cbv
 cases e1:Bp o a0
 ·conv=>lhs;rw [xT ho a0 (by omega),e1];cbv
  subst Q;exact (Eq.refl _).trans (by simp_all [gh])
 ·conv=>lhs;rw [xT ho a0 (by omega),e1];cbv
  cases e3:w_ a0;all_goals
   conv=>lhs;rw [N0 ho,e3];cbv
   subst Q;exact (Eq.refl _).trans (by simp_all [gh])
theorem Fu (a0:ByteArray):o.call 343 [As a0] []=Ar (Ab (jG a0)):=by
 refine ho.aI fun R Q=> ?_
 conv=>lhs;cbv
 rcases aP ho a0 ⟨#[43]⟩with ⟨e1,g1⟩|⟨e1,g1⟩<;>(conv=>lhs;rw [e1];cbv)
 ·rcases aP ho a0 ⟨#[45]⟩with ⟨e2,g2⟩|⟨e2,g2⟩<;>(conv=>lhs;rw [e2];cbv)
  ·rcases aP ho a0 ⟨#[42]⟩with ⟨e3,g3⟩|⟨e3,g3⟩<;>(conv=>lhs;rw [e3];cbv)
   ·rcases aP ho a0 ⟨#[61,61]⟩with ⟨e4,g4⟩|⟨e4,g4⟩<;>(conv=>lhs;rw [e4];cbv)
    ·rcases aP ho a0 ⟨#[60]⟩with ⟨e5,g5⟩|⟨e5,g5⟩<;>(conv=>lhs;rw [e5];cbv)
     all_goals
      subst Q;exact (Eq.refl _).trans (by simp_all [gh,w_,jG])
    ·subst Q;exact (Eq.refl _).trans (by simp_all [gh,w_,jG])
   ·subst Q;exact (Eq.refl _).trans (by simp_all [gh,w_,jG])
  ·subst Q;exact (Eq.refl _).trans (by simp_all [gh,w_,jG])
 ·subst Q;exact (Eq.refl _).trans (by simp_all [gh,w_,jG])
theorem yx (a0:ByteArray):o.call 360 [As a0] []=Ar (Ab (jG a0)):=by
 refine ho.aI fun R Q=> ?_
 conv=>lhs;cbv
 rcases aP ho a0 ⟨#[43]⟩with ⟨e1,g1⟩|⟨e1,g1⟩<;>(conv=>lhs;rw [e1];cbv)
 ·rcases aP ho a0 ⟨#[45]⟩with ⟨e2,g2⟩|⟨e2,g2⟩<;>(conv=>lhs;rw [e2];cbv)
  ·rcases aP ho a0 ⟨#[42]⟩with ⟨e3,g3⟩|⟨e3,g3⟩<;>(conv=>lhs;rw [e3];cbv)
   ·rcases aP ho a0 ⟨#[61,61]⟩with ⟨e4,g4⟩|⟨e4,g4⟩<;>(conv=>lhs;rw [e4];cbv)
    ·rcases aP ho a0 ⟨#[60]⟩with ⟨e5,g5⟩|⟨e5,g5⟩<;>(conv=>lhs;rw [e5];cbv)
     all_goals
      subst Q;exact (Eq.refl _).trans (by simp_all [gh,w_,jG])
    ·subst Q;exact (Eq.refl _).trans (by simp_all [gh,w_,jG])
   ·subst Q;exact (Eq.refl _).trans (by simp_all [gh,w_,jG])
  ·subst Q;exact (Eq.refl _).trans (by simp_all [gh,w_,jG])
 ·subst Q;exact (Eq.refl _).trans (by simp_all [gh,w_,jG])
theorem tQ (a0 a1:Int) (a2:ByteArray) (a3:Int) (h3:a0≠3) (h6:a0<=6) (hs:(a2.size:Int)<=9000000000000000000):o.call 392 [Ai a0,Ai a1,As a2,Ai a3] []=Ar (Ab (kZ o a0 a1 a2 a3)):=by
 refine ho.aI fun R Q=> ?_
 conv=>lhs;cbv
 rcases ak ho a0 1 with ⟨e1,g1⟩|⟨e1,g1⟩<;>(conv=>lhs;rw [e1];cbv)
 ·rcases ak ho a0 2 with ⟨e2,g2⟩|⟨e2,g2⟩<;>(conv=>lhs;rw [e2];cbv)
  ·conv=>lhs;simp (disch:=omega) only [bG ho];cbv
   rcases ak ho a0 4 with ⟨e4,g4⟩|⟨e4,g4⟩<;>(conv=>lhs;rw [e4];cbv)
   ·rcases ak ho a0 5 with ⟨e5,g5⟩|⟨e5,g5⟩<;>(conv=>lhs;rw [e5];cbv)
    ·rcases ak ho a0 6 with ⟨e6,g6⟩|⟨e6,g6⟩<;>(conv=>lhs;rw [e6];cbv)
     ·iterate 3 (conv=>lhs;simp (disch:=omega) only [bG ho];cbv)
      subst Q;exact (Eq.refl _).trans (by clear h6;simp_all [kZ])
     ·rcases ak ho a1 0 with ⟨e7,g7⟩|⟨e7,g7⟩<;>(conv=>lhs;rw [e7];cbv)
      ·subst Q;exact (Eq.refl _).trans (by clear h6;simp_all [kZ])
      ·rcases aP ho a2 ⟨#[]⟩with ⟨e8,g8⟩|⟨e8,g8⟩<;>(conv=>lhs;rw [e8];cbv)
       ·subst Q;exact (Eq.refl _).trans (by clear h6;simp_all [kZ])
       ·rcases aR a3 2 6 with ⟨e9,g9⟩|⟨e9,g9⟩
        all_goals
         conv=>lhs;rw [ax ho,e9];cbv
         subst Q;exact (Eq.refl _).trans (by clear h6;simp_all [kZ])
    ·rcases ak ho a1 0 with ⟨e6,g6⟩|⟨e6,g6⟩<;>(conv=>lhs;rw [e6];cbv)
     ·subst Q;exact (Eq.refl _).trans (by clear h6;simp_all [kZ])
     ·rcases aP ho a2 ⟨#[]⟩with ⟨e7,g7⟩|⟨e7,g7⟩<;>(conv=>lhs;rw [e7];cbv)
      ·subst Q;exact (Eq.refl _).trans (by clear h6;simp_all [kZ])
      ·rcases jy ho a3 20 with ⟨e8,g8⟩|⟨e8,g8⟩<;>(conv=>lhs;rw [e8];cbv)
       all_goals
        subst Q;exact (Eq.refl _).trans (by clear h6;simp_all [kZ])
   ·rcases ak ho a1 0 with ⟨e5,g5⟩|⟨e5,g5⟩<;>(conv=>lhs;rw [e5];cbv)
    ·subst Q;exact (Eq.refl _).trans (by clear h6;simp_all [kZ])
    ·rcases aP ho a2 ⟨#[]⟩with ⟨e6,g6⟩|⟨e6,g6⟩<;>(conv=>lhs;rw [e6];cbv)
     ·subst Q;exact (Eq.refl _).trans (by clear h6;simp_all [kZ])
     ·rcases jy ho a3 20 with ⟨e7,g7⟩|⟨e7,g7⟩<;>(conv=>lhs;rw [e7];cbv)
      all_goals
       subst Q;exact (Eq.refl _).trans (by clear h6;simp_all [kZ])
  ·rcases ak ho a1 0 with ⟨e3,g3⟩|⟨e3,g3⟩<;>(conv=>lhs;rw [e3];cbv)
   ·subst Q;exact (Eq.refl _).trans (by clear h6;simp_all [kZ])
   ·cases he4:gh o a2<;>(conv=>lhs;rw [tP ho a2 (by omega),he4];cbv)
    ·subst Q;try rw [he4]
     exact (Eq.refl _).trans (by clear h6;simp_all [kZ])
    ·rcases ak ho a3 0 with ⟨e5,g5⟩|⟨e5,g5⟩<;>(conv=>lhs;rw [e5];cbv)
     all_goals
      subst Q;try rw [he4]
      exact (Eq.refl _).trans (by clear h6;simp_all [kZ])
 ·rcases aR a1 0 1000000000000 with ⟨e2,g2⟩|⟨e2,g2⟩
  ·conv=>lhs;rw [ax ho,e2];cbv
   subst Q;exact (Eq.refl _).trans (by clear h6;simp_all [kZ])
  ·conv=>lhs;rw [ax ho,e2];cbv
   rcases aP ho a2 ⟨#[]⟩with ⟨e4,g4⟩|⟨e4,g4⟩<;>(conv=>lhs;rw [e4];cbv)
   ·subst Q;exact (Eq.refl _).trans (by clear h6;simp_all [kZ])
   ·rcases ak ho a3 0 with ⟨e5,g5⟩|⟨e5,g5⟩<;>(conv=>lhs;rw [e5];cbv)
    all_goals
     subst Q;exact (Eq.refl _).trans (by clear h6;simp_all [kZ])
theorem CS (a0_0 a0_1:Int) (a0_2:ByteArray) (a0_3:List D) (a1:Int) (h1: -1000000000000<=a1/\a1<=1000000000000) (hs:(a0_2.size:Int)<=9000000000000000000):o.call 405 [At a0_0 a0_1 a0_2 a0_3,Ai a1] []=Ar (Ab (gF o a0_0 a0_1 a0_2 a0_3.length a1)):=by
 refine ho.aI fun R Q=> ?_
 obtain ⟨n1,e1,g1⟩:=aB ho a0_3;conv=>lhs;cbv;rw [e1];cbv
 rcases ak ho a0_0 1 with ⟨e2,g2⟩|⟨e2,g2⟩<;>(conv=>lhs;rw [e2];cbv)
 ·rcases ak ho a0_0 2 with ⟨e3,g3⟩|⟨e3,g3⟩<;>(conv=>lhs;rw [e3];cbv)
  ·rcases ak ho a0_0 3 with ⟨e4,g4⟩|⟨e4,g4⟩<;>(conv=>lhs;rw [e4];cbv)
   ·rcases ak ho a0_0 4 with ⟨e5,g5⟩|⟨e5,g5⟩<;>(conv=>lhs;rw [e5];cbv)
    ·rcases ak ho a0_0 5 with ⟨e6,g6⟩|⟨e6,g6⟩<;>(conv=>lhs;rw [e6];cbv)
     ·rcases ak ho a0_0 6 with ⟨e7,g7⟩|⟨e7,g7⟩<;>(conv=>lhs;rw [e7];cbv)
      ·subst Q;clear h1;subst g1;simp_all [gF,kZ]
      ·rcases aP ho a0_2 ⟨#[]⟩with ⟨e8,g8⟩|⟨e8,g8⟩<;>(conv=>lhs;rw [e8];cbv)
       ·subst Q;clear h1;subst g1;simp_all [gF,kZ]
       ·rcases ak ho a0_1 0 with ⟨e9,g9⟩|⟨e9,g9⟩<;>(conv=>lhs;rw [e9];cbv)
        ·subst Q;clear h1;subst g1;simp_all [gF,kZ]
        ·rcases aR n1 2 6 with ⟨e10,g10⟩|⟨e10,g10⟩
         all_goals
          conv=>lhs;rw [aH ho,e10];cbv
          subst Q;clear h1;subst g1;simp_all [gF,kZ]
     ·rcases aP ho a0_2 ⟨#[]⟩with ⟨e7,g7⟩|⟨e7,g7⟩<;>(conv=>lhs;rw [e7];cbv)
      ·subst Q;clear h1;subst g1;simp_all [gF,kZ]
      ·rcases ak ho a0_1 0 with ⟨e8,g8⟩|⟨e8,g8⟩<;>(conv=>lhs;rw [e8];cbv)
       ·subst Q;clear h1;subst g1;simp_all [gF,kZ]
       ·rcases jy ho n1 20 with ⟨e9,g9⟩|⟨e9,g9⟩<;>(conv=>lhs;rw [e9];cbv)
        all_goals
         subst Q;clear h1;subst g1;simp_all [gF,kZ]
    ·rcases aP ho a0_2 ⟨#[]⟩with ⟨e6,g6⟩|⟨e6,g6⟩<;>(conv=>lhs;rw [e6];cbv)
     ·subst Q;clear h1;subst g1;simp_all [gF,kZ]
     ·rcases ak ho a0_1 0 with ⟨e7,g7⟩|⟨e7,g7⟩<;>(conv=>lhs;rw [e7];cbv)
      ·subst Q;clear h1;subst g1;simp_all [gF,kZ]
      ·rcases jy ho n1 20 with ⟨e8,g8⟩|⟨e8,g8⟩<;>(conv=>lhs;rw [e8];cbv)
       all_goals
        subst Q;clear h1;subst g1;simp_all [gF,kZ]
   ·rcases aP ho a0_2 ⟨#[]⟩with ⟨e5,g5⟩|⟨e5,g5⟩<;>(conv=>lhs;rw [e5];cbv)
    ·subst Q;clear h1;subst g1;simp_all [gF,kZ]
    ·rcases ak ho n1 0 with ⟨e6,g6⟩|⟨e6,g6⟩<;>(conv=>lhs;rw [e6];cbv)
     ·subst Q;clear h1;subst g1;simp_all [gF,kZ]
     ·obtain ⟨n2,e7,g7⟩:=aS ho a1 1;conv=>lhs;rw [e7];cbv
      rcases aR a0_1 (-1) n2 with ⟨e8,g8⟩|⟨e8,g8⟩
      all_goals
       conv=>lhs;rw [aH ho,e8];cbv
       subst Q;clear h1;subst g1;simp_all [gF,kZ]
  ·cases he4:gh o a0_2<;>(conv=>lhs;rw [oz ho a0_2 (by omega),he4];cbv)
   ·subst Q;try rw [he4]
    clear h1;subst g1;simp_all [gF,kZ]
   ·rcases ak ho a0_1 0 with ⟨e5,g5⟩|⟨e5,g5⟩<;>(conv=>lhs;rw [e5];cbv)
    ·subst Q;try rw [he4]
     clear h1;subst g1;simp_all [gF,kZ]
    ·rcases ak ho n1 0 with ⟨e6,g6⟩|⟨e6,g6⟩<;>(conv=>lhs;rw [e6];cbv)
     all_goals
      subst Q;try rw [he4]
      clear h1;subst g1;simp_all [gF,kZ]
 ·rcases aR a0_1 0 1000000000000 with ⟨e3,g3⟩|⟨e3,g3⟩
  ·conv=>lhs;rw [aH ho,e3];cbv
   subst Q;clear h1;subst g1;simp_all [gF,kZ]
  ·conv=>lhs;rw [aH ho,e3];cbv
   rcases aP ho a0_2 ⟨#[]⟩with ⟨e5,g5⟩|⟨e5,g5⟩<;>(conv=>lhs;rw [e5];cbv)
   ·subst Q;clear h1;subst g1;simp_all [gF,kZ]
   ·rcases ak ho n1 0 with ⟨e6,g6⟩|⟨e6,g6⟩<;>(conv=>lhs;rw [e6];cbv)
    all_goals
     subst Q;clear h1;subst g1;simp_all [gF,kZ]
end
def cY (o:aK) (sl:Int):Nat->D->Int
 | d+1,.agg [.int _ k,.int _ n,.str s,.lst l]=>if gF o k n s l.length sl then (if 1+bP (cY o sl d) l<=300 then 1+bP (cY o sl d) l else 301)else 301
 | _,_=>301
theorem rD {f:D->Int} {x:D} {xs:List D}:bP f (x::xs)=f x+bP f xs:=rfl
theorem iF (o:aK) (sl:Int) (d:Nat) (t:D):1<=cY o sl d t/\cY o sl d t<=301:=by
 unfold cY;split
 ·rename_i d _ k _ n s l;have:0<=bP (cY o sl d) l:=ez (fun x=>(iF o sl d x).1) l;split
  ·split<;>omega
  ·omega
 ·omega
theorem CT {o:aK} {sl:Int} {d:Nat} {k n:Int} {s:ByteArray} {l:List D}:cY o sl (d+1) (.agg [.int .i64 k,.int .i64 n,.str s,.lst l])=if gF o k n s l.length sl then (if 1+bP (cY o sl d) l<=300 then 1+bP (cY o sl d) l else 301)else 301:=rfl
def dJ (f:D->List D):List D->List D
 | []=>[]
 | x::xs=>f x++dJ f xs
theorem uY {f:D->List D} {x:D} {xs:List D}:dJ f (x::xs)=f x++dJ f xs:=rfl
def jN:Nat->D->List D
 | d+1,.agg [.int _ k,.int _ n,.str s,.lst l]=>(if k=3 then [.int .i64 n]else [])++dJ (jN d) l
 | _,_=>[]
theorem lF {d:Nat} {k n:Int} {s:ByteArray} {l:List D}:jN (d+1) (.agg [.int .i64 k,.int .i64 n,.str s,.lst l])=(if k=3 then [.int .i64 n]else [])++dJ (jN d) l:=rfl
noncomputable def gG (v:D) (S:List D):Bool:= @decide (v∈S) (Classical.propDecidable _)
theorem uZ {v:D} {S:List D} (h:v∈S):gG v S=true:=by unfold gG;exact @decide_eq_true _ (Classical.propDecidable _) h
theorem BH {v:D} {S:List D} (h:v∉S):gG v S=false:=by unfold gG;exact @decide_eq_false _ (Classical.propDecidable _) h
theorem rE {v:D} {S:List D} (h:gG v S=true):v∈S:=by unfold gG at h;exact @of_decide_eq_true _ (Classical.propDecidable _) h
theorem BI {v:D} {S:List D} (h:gG v S=false):v∉S:=by unfold gG at h;exact @of_decide_eq_false _ (Classical.propDecidable _) h
noncomputable def z_ (S:List D):D->Bool
 | .int k n=>decide (n<0) || !gG (.int k n) S
 | _=>true
noncomputable def okV:List D->List D->Bool
 | _,[]=>true
 | S,v::vs=>z_ S v&&okV (S++[v]) vs
theorem qp:∀(a S b:List D),okV S (a++b)=(okV S a&&okV (S++a) b)
 | [],S,b=>by simp [okV]
 | v::a,S,b=>by
  simp only [List.cons_append,okV];rw [qp a (S++[v]) b,List.append_assoc,Bool.and_assoc];rfl
def wK (x:D):Prop:=∃n,x= .int .i64 n
theorem Fv {f:D->List D} (h:∀x,∀y∈f x,wK y):∀xs,∀y∈dJ f xs,wK y
 | [],_,hy=>by cases hy
 | x::xs,y,hy=>by
  rcases List.mem_append.1 hy with g | g
  ·exact h x y g
  ·exact Fv h xs y g
theorem Aa:∀d t,∀y∈jN d t,wK y:=by
 intro d t;unfold jN;split
 ·intro y hy;rcases List.mem_append.1 hy with g | g
  ·split at g
   ·rw [List.mem_singleton]at g;exact ⟨_,g⟩
   ·cases g
  ·exact Fv (Aa _) _ y g
 ·intro y hy;cases hy
theorem jO {x:D} (h:wK x):x.cells.length=1:=by obtain ⟨n,rfl⟩:=h;rfl
theorem Fw {f:D->List D} {g:D->Int} {xs:List D} (h:∀x∈xs,((f x).length:Int)<=g x):((dJ f xs).length:Int)<=bP g xs:=by
 induction xs with
 | nil=>exact Int.le_refl _
 | cons x xs ih=>
  have:=h x (by simp);have:=ih fun y hy=>h y (by simp [hy])
  simp only [dJ,bP,List.length_append];omega
theorem qq {o:aK} {sl:Int}:∀(d:Nat) (t:D),cY o sl d t<=300->((jN d t).length:Int)<=cY o sl d t:=by
 intro d t;unfold cY jN;split
 ·rename_i d _ k _ n s l;intro h;split at h
  ·rename_i hs;split at h
   ·rename_i hle;have h2:((dJ (jN d) l).length:Int)<=bP (cY o sl d) l:=Fw fun x hx=>qq d x (by have:=ow (f:=cY o sl d) (fun x=>(iF o sl d x).1) hx;omega)
    rw [if_pos hs,if_pos hle,List.length_append];split
    ·simp only [List.length_cons,List.length_nil];omega
    ·simp only [List.length_nil];omega
   ·omega
  ·omega
 ·intro h;omega
theorem Fx {o:aK} {k n:Int} {s:ByteArray} {c:Int} (h:6<k):kZ o k n s c=false:=by
 unfold kZ;rw [if_neg (by omega),if_neg (by omega),if_neg (by omega),if_neg (by omega),if_neg (by omega)]
section
variable {o:aK} (ho:aU cF bE o)
include ho
def bw (a0:List D) (a1 n1 i:Int):St:=⟨E 19 [(0,Al a0),(1,Ai a1),(7,Ai n1),(8,Ai i)],O 19 []⟩
def gV (i:Int):St:=⟨E 19 [(4,Ai i)],O 19 []⟩
def eW:St:=⟨E 19 [],O 19 []⟩
theorem Lc (a0:List D) (a1:Int) (hT:∀x∈a0,wK x) (n1:Int) (hn:(a0.length:Int)=n1) (hl:n1<=1048576):∀i:Int,0<=i->i<=(n1:Int)->(gG (.int .i64 a1) (a0.drop i.toNat)=true->∃j,0<=j/\o.loop 35800 (bw a0 a1 n1 i)=some (.ret,gV j))/\(gG (.int .i64 a1) (a0.drop i.toNat)=false->o.loop 35800 (bw a0 a1 n1 i)=some (.exit 0,eW)):=by
 refine cU (P:=fun i=>(gG (.int .i64 a1) (a0.drop i.toNat)=true->∃j,0<=j/\o.loop 35800 (bw a0 a1 n1 i)=some (.ret,gV j))/\(gG (.int .i64 a1) (a0.drop i.toNat)=false->o.loop 35800 (bw a0 a1 n1 i)=some (.exit 0,eW))) (n1:Int) ?_;intro i h0 h1 ih;try dsimp only at ih |-
 rcases bB ho i n1 with ⟨e1,g1⟩|⟨e1,g1⟩
 ·rw [bR hn (by omega)];exact ⟨fun h=>(by cases rE h),fun _=>(ho.ay (by cbv;repeat (simp only [e1];try cbv)):o.loop 35800 (bw a0 a1 n1 i)=some (.exit 0,eW))⟩
 ·obtain ⟨x,hx0,hx1,hx2⟩:=aD hn h0 g1;obtain ⟨n2,rfl⟩:=hT _ hx2;have e2:=av ho h0 hx0;rcases ak ho a1 n2 with ⟨e3,g3⟩|⟨e3,g3⟩
  ·obtain ⟨n3,e4⟩:=kx (o.ar .add .i64 i 1);try have g4:n3=i+1:=e4.symm.trans (cM ho (by omega) (by omega))
   have hq:gG (.int .i64 a1) (a0.drop i.toNat)=gG (.int .i64 a1) (a0.drop (i+1).toNat):=by
    rw [hx1];cases h:gG (.int .i64 a1) (a0.drop (i+1).toNat)
    ·exact BH fun g=>by
      rcases List.mem_cons.1 g with g | g
      ·injection g with _ g;exact g3 g
      ·exact BI h g
    ·exact uZ (List.mem_cons_of_mem _ (rE h))
   rw [hq];have ih2:=ih (by omega);rw [show i+1=n3 by omega]at ih2 |-;exact ⟨fun h=>(ih2.1 h).imp fun j hj=>⟨hj.1,(fun z (hz:o.loop 35800 (bw a0 a1 n1 n3)=some z)=>ho.ay (by rw [<-hz];cbv;repeat (simp only [e1,e2,e3,e4];try cbv)):∀z,o.loop 35800 (bw a0 a1 n1 n3)=some z->o.loop 35800 (bw a0 a1 n1 i)=some z) _ hj.2⟩,fun h=>(fun z (hz:o.loop 35800 (bw a0 a1 n1 n3)=some z)=>ho.ay (by rw [<-hz];cbv;repeat (simp only [e1,e2,e3,e4];try cbv)):∀z,o.loop 35800 (bw a0 a1 n1 n3)=some z->o.loop 35800 (bw a0 a1 n1 i)=some z) _ (ih2.2 h)⟩
  ·have hp0:=(ho.ay (by cbv;repeat (simp only [e1,e2,e3];try cbv)):o.loop 35800 (bw a0 a1 n1 i)=some (.ret,gV i))
   subst g3;rw [hx1,uZ (by simp)];exact ⟨fun _=>⟨i,h0,hp0⟩,fun h=>by cases h⟩
theorem Ld (a0:List D) (a1:Int) (hT:∀x∈a0,wK x) (hl:(a0.length:Int)<=1048576):∃r,o.call 358 [Al a0,Ai a1] []=Ar (Ai r)/\decide (0<=r)=gG (.int .i64 a1) a0:=by
 obtain ⟨n1,e1,g1⟩:=aB ho a0;have hl:=Lc ho a0 a1 hT n1 g1.symm (by omega) 0 (Int.le_refl _) (by omega);rw [show (0:Int).toNat=0 from rfl,List.drop_zero]at hl;cases hc:gG (.int .i64 a1) a0
 ·have e2:o.loop 35800 (bw a0 a1 n1 0)=some (.exit 0,eW):=hl.2 hc;exact ⟨_,(ho.aq (by cbv at e2;cbv;repeat (simp only [e1,e2];try cbv)):o.call 358 [Al a0,Ai a1] []=Ar (Ai (-1))),rfl⟩
 ·obtain ⟨n2,hj,e2⟩:=hl.1 hc;exact ⟨_,(ho.aq (by cbv at e2;cbv;repeat (simp only [e1,e2];try cbv)):o.call 358 [Al a0,Ai a1] []=Ar (Ai n2)),decide_eq_true hj⟩
theorem oC (a0:List D) (a1:Int) (hT:∀x∈a0,wK x) (hl:(a0.length:Int)<=1048576):o.call 311 [Al a0,Ai a1] []=Ar (Ab (gG (.int .i64 a1) a0)):=by
 refine ho.aI fun R Q=> ?_
 obtain ⟨n1,e1,h1⟩:=Ld ho a0 a1 hT hl;conv=>lhs;cbv;rw [e1];cbv
 rcases iQ ho n1 0 with ⟨e2,g2⟩|⟨e2,g2⟩<;>(conv=>lhs;rw [e2];cbv)
 all_goals
  subst Q;exact (Eq.refl _).trans (by rw [<-h1];first | rw [decide_eq_true (by omega)] | rw [decide_eq_false (by omega)])
def bq (a:Int) (p_3:List D) (n2 i:Int) (y:List D) (sl i1:Int):St:=⟨E 103 [(0,.ptr (103,0) 0),(2,Ai a),(90,Al p_3),(91,Ai n2),(92,Ai i)],O 105 [(70,[some (.rows (3,1) y)]),(103,[some (.box [Ai sl,Ai i1,.arr (70,0) (3,1) none false])]),(104,[none])]⟩
def eC (y:List D) (sl i1:Int):St:=⟨E 103 [],O 105 [(70,[some (.rows (3,1) y)]),(103,[some (.box [Ai sl,Ai i1,.arr (70,0) (3,1) none false])]),(104,[none])]⟩
def gA (l2:List D) (sl n5:Int):St:=⟨E 103 [(6,Ab false)],O 105 [(70,[some (.rows (3,1) l2)]),(103,[some (.box [Ai sl,Ai n5,.arr (70,0) (3,1) none false])]),(104,[none])]⟩
def bg (a:Int) (p_3:List D) (n2 i:Int) (y:List D) (sl i1:Int):St:=⟨E 103 [(0,.ptr (103,0) 0),(2,Ai a),(90,Al p_3),(91,Ai n2),(92,Ai i)],O 104 [(70,[some (.rows (3,1) y)]),(103,[some (.box [Ai sl,Ai i1,.arr (70,0) (3,1) none false])])]⟩
def dU (y:List D) (sl i1:Int):St:=⟨E 103 [],O 104 [(70,[some (.rows (3,1) y)]),(103,[some (.box [Ai sl,Ai i1,.arr (70,0) (3,1) none false])])]⟩
def fW (l2:List D) (sl n5:Int):St:=⟨E 103 [(6,Ab false)],O 104 [(70,[some (.rows (3,1) l2)]),(103,[some (.box [Ai sl,Ai n5,.arr (70,0) (3,1) none false])])]⟩
end
end T2
