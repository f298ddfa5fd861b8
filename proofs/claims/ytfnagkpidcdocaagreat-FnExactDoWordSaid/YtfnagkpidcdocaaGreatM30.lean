import Derived.Test.YtfnagkpidcdocaaGreatM27
set_option linter.all false
namespace T2
open Go Go.Vi
set_option maxRecDepth 100000
set_option maxHeartbeats 4000000
def GR (x:D):Prop:=∃s n f p h g q,x= .agg [.str s,.int .i64 n,.lst f,.lst p,.bool h,.lst g,.lst q]/\(s.size:Int)<=1048576/\jZ f p/\jZ g q
noncomputable def qx (o:aM):D->Bool
 | .agg [.str s,.int _ n,.lst f,.lst p,.bool h,.lst g,.lst q]=>vY o s&&(jx n 1 10000&&(eB o f p true&&(eB o g q true&&if h then decide (2<=n)else (decide (g.length=0)&&decide (q.length=0)))))
 | _=>false
def QF (o:aM):D->D->Bool
 | .agg (.str s::_),.agg (.str t::_)=> !(o.eZ .leq t s)
 | _,_=>false
def Eg (o:aM):Lq->Bool
 | x::y::l=>QF o x y&&Eg o (y::l)
 | _=>true
noncomputable def xH (o:aM) (l:Lq):Bool:=(l.all (qx o)&&Eg o l)&&decide (l.length<=10)
theorem NJ {xs l:Lq} {s t:By} {i:Int} (h:xs[i.toNat]? =some (.agg (.str t::l))):uY xs s i=decide (t=s):=by unfold uY;rw[h]
theorem NK {o:aM} {l:Lq} {i:Int} {x y:D} (O:0<i) (e:l[(i-1).toNat]? =some x) (j:l[i.toNat]? =some y):Eg o (l.drop (i-1).toNat)=(QF o x y&&Eg o (l.drop (i+1-1).toNat)):=by
 obtain ⟨E,I⟩:=ax.1 e;obtain ⟨J,M⟩:=ax.1 j;rw[List.drop_eq_getElem_cons E,show (i-1).toNat+1=i.toNat by omega,show (i+1-1).toNat=i.toNat by omega,List.drop_eq_getElem_cons J,I,M];rfl
theorem IC:∀x y:List UInt8,(!(Op.bytesLess x y))=(Op.bytesLess y x || y==x)
 | [],[]=>by simp[Op.bytesLess]
 | x::xs,[]=>by simp[Op.bytesLess]
 | [],y::ys=>by simp[Op.bytesLess]
 | x::xs,y::ys=>by
  have E:=IC xs ys;rcases Nat.lt_trichotomy x.toNat y.toNat with h | h | h
  ·have j:x<y:=UInt8.lt_iff_toNat_lt.2 h;have e:¬y<x:=λg=>by have:=UInt8.lt_iff_toNat_lt.1 g;omega
   have h3:¬y=x:=λg=>by subst g;omega
   simp[Op.bytesLess,j,e,h3]
  ·obtain rfl:=UInt8.toNat_inj.1 h;have e:¬x<x:=λg=>by have:=UInt8.lt_iff_toNat_lt.1 g;omega
   simp only[Op.bytesLess,e,decide_false,Bool.false_or,beq_self_eq_true,Bool.true_and,List.cons_beq_cons];exact E
  have j:y<x:=UInt8.lt_iff_toNat_lt.2 h;have e:¬x<y:=λg=>by have:=UInt8.lt_iff_toNat_lt.1 g;omega
  have h3:¬x=y:=λg=>by subst g;omega
  simp[Op.bytesLess,j,e,h3]
theorem O5 (s t:By):rC .geq s t=rC .leq t s:=IC s.toList t.toList
theorem FD {o:aM} {l:Lq} {i n:Int} (e:(l.length:Int)=n) (h:n<=i):Eg o (l.drop (i-1).toNat)=true:=by
 have:(l.drop (i-1).toNat).length<=1:=by rw[List.length_drop];omega
 revert this;generalize l.drop (i-1).toNat=k;intro h
 match k,h with
 | [],_=>rfl
 | [_],_=>rfl
 | _::_::_,h=>simp at h
theorem IE {o:aM} {l:Lq} {i:Int} (h:i<=0):Eg o (l.drop (i-1).toNat)=Eg o (l.drop (i+1-1).toNat):=by rw[show (i-1).toNat=0 by omega,show (i+1-1).toNat=0 by omega]
theorem LS {o:aM} (ho:aQ cu bw o) (a b:Int):o.cmp .leq a b=decide (a<=b):=by rcases iz ho a b with ⟨e,g⟩ | ⟨e,g⟩<;>rw[e]<;>simp<;>omega
theorem LU {o:aM} (ho:aQ cu bw o) (s t:By):o.eZ .geq s t=o.eZ .leq t s:=by rw[ho.eZ,ho.eZ];exact O5 s t
section
variable {o:aM} (ho:aQ cu bw o)
include ho
theorem IG (a0_0:By) (a0_1:Int) (J M:Lq) (V:Bool) (j e:Lq) (hd:GR (.agg [.str a0_0,.int .i64 a0_1,.lst J,.lst M,.bool V,.lst j,.lst e])):o.call 208 [Ae a0_0 a0_1 J M V j e] []=Ar (Ab (qx o (.agg [.str a0_0,.int .i64 a0_1,.lst J,.lst M,.bool V,.lst j,.lst e]))):=by
 obtain ⟨s0,x1,x2,x3,x4,x5,x6,a0,a7,a1,a3⟩:=hd;injection a0 with a0;simp only[List.cons.injEq,D.int.injEq,D.str.injEq,D.lst.injEq,D.bool.injEq,true_and,and_true]at a0;obtain ⟨rfl,rfl,rfl,rfl,rfl,rfl,rfl⟩:=a0;cases E:vY o a0_0
 ·have U:o.call 173 [As a0_0] []=Ar (Ab false):=(mP ho a0_0 (by omega)).trans (by rw[E]);exact (ho.aj (by cbv;repeat (simp only[E,U];try cbv)):_=Ar (Ab false)).trans (by unfold qx;simp only[E,Bool.true_and,Bool.false_and,if_true,if_false,Bool.false_eq_true])
 have U:o.call 173 [As a0_0] []=Ar (Ab true):=(mP ho a0_0 (by omega)).trans (by rw[E]);cases I:jx a0_1 1 10000
 ·have g3:=r9 I;have e4:o.call 89 [Ai a0_1,Ai 1,Ai 10000] []=Ar (Ab false):=(aD ho a0_1 1 10000).trans (by rw[I]);exact (ho.aj (by cbv;repeat (simp only[E,U,I,e4];try cbv)):_=Ar (Ab false)).trans (by unfold qx;simp only[E,I,Bool.true_and,Bool.false_and,if_true,if_false,Bool.false_eq_true])
 have g3:=cL I;have e4:o.call 89 [Ai a0_1,Ai 1,Ai 10000] []=Ar (Ab true):=(aD ho a0_1 1 10000).trans (by rw[I]);cases O:eB o J M true
 ·have e5:o.call 90 [Ac J M] []=Ar (Ab false):=((sF ho J M a1).trans (by rw[su a1.1 ho])).trans (by rw[O]);exact (ho.aj (by cbv;repeat (simp only[E,U,I,e4,e5];try cbv)):_=Ar (Ab false)).trans (by unfold qx;simp only[E,I,O,Bool.true_and,Bool.false_and,if_true,if_false,Bool.false_eq_true])
 have e5:o.call 90 [Ac J M] []=Ar (Ab true):=((sF ho J M a1).trans (by rw[su a1.1 ho])).trans (by rw[O]);cases S:eB o j e true
 ·have e6:o.call 90 [Ac j e] []=Ar (Ab false):=((sF ho j e a3).trans (by rw[su a3.1 ho])).trans (by rw[S]);exact (ho.aj (by cbv;repeat (simp only[E,U,I,e4,e5,e6];try cbv)):_=Ar (Ab false)).trans (by unfold qx;simp only[E,I,O,S,Bool.true_and,Bool.false_and,if_true,if_false,Bool.false_eq_true])
 have e6:o.call 90 [Ac j e] []=Ar (Ab true):=((sF ho j e a3).trans (by rw[su a3.1 ho])).trans (by rw[S]);cases e7:V
 ·obtain ⟨n1,e8,g8⟩:=aC ho j;rcases av ho n1 0 with ⟨e9,g9⟩|⟨e9,g9⟩
  ·exact (ho.aj (by cbv;repeat (simp only[E,U,I,e4,e5,e6,e7,e8,e9];try cbv)):_=Ar (Ab false)).trans (by unfold qx;simp only[E,I,O,S,Bool.true_and,Bool.false_and,if_true,if_false,Bool.false_eq_true];rw[decide_eq_false (p:=j.length=0) (by omega)];rfl)
  obtain ⟨n2,a5,a8⟩:=aC ho e;rcases av ho n2 0 with ⟨a4,a6⟩|⟨a4,a6⟩
  ·exact (ho.aj (by cbv;repeat (simp only[E,U,I,e4,e5,e6,e7,e8,e9,a5,a4];try cbv)):_=Ar (Ab false)).trans (by unfold qx;simp only[E,I,O,S,Bool.true_and,Bool.false_and,if_true,if_false,Bool.false_eq_true];rw[decide_eq_true (p:=j.length=0) (by omega)];(first | rw[decide_eq_true (p:=e.length=0) (by omega)] | rw[decide_eq_false (p:=e.length=0) (by omega)]);rfl)
  exact (ho.aj (by cbv;repeat (simp only[E,U,I,e4,e5,e6,e7,e8,e9,a5,a4];try cbv)):_=Ar (Ab true)).trans (by unfold qx;simp only[E,I,O,S,Bool.true_and,Bool.false_and,if_true,if_false,Bool.false_eq_true];rw[decide_eq_true (p:=j.length=0) (by omega)];(first | rw[decide_eq_true (p:=e.length=0) (by omega)] | rw[decide_eq_false (p:=e.length=0) (by omega)]);rfl)
 rcases jc ho a0_1 2 with ⟨e8,g8⟩|⟨e8,g8⟩
 ·exact (ho.aj (by cbv;repeat (simp only[E,U,I,e4,e5,e6,e7,e8];try cbv)):_=Ar (Ab false)).trans (by unfold qx;simp only[E,I,O,S,Bool.true_and,Bool.false_and,if_true,if_false,Bool.false_eq_true];(first | rw[decide_eq_true (p:=2<=a0_1) (by omega)] | rw[decide_eq_false (p:=2<=a0_1) (by omega)]))
 exact (ho.aj (by cbv;repeat (simp only[E,U,I,e4,e5,e6,e7,e8];try cbv)):_=Ar (Ab true)).trans (by unfold qx;simp only[E,I,O,S,Bool.true_and,Bool.false_and,if_true,if_false,Bool.false_eq_true];(first | rw[decide_eq_true (p:=2<=a0_1) (by omega)] | rw[decide_eq_false (p:=2<=a0_1) (by omega)]))
theorem GU (a0_0:By) (a0_1:Int) (J M:Lq) (V:Bool) (j e:Lq) (hd:GR (.agg [.str a0_0,.int .i64 a0_1,.lst J,.lst M,.bool V,.lst j,.lst e])):o.call 203 [Ae a0_0 a0_1 J M V j e] []=Ar (Ab (qx o (.agg [.str a0_0,.int .i64 a0_1,.lst J,.lst M,.bool V,.lst j,.lst e]))):=by
 obtain ⟨s0,x1,x2,x3,x4,x5,x6,a0,a7,a3,a4⟩:=hd;injection a0 with a0;simp only[List.cons.injEq,D.int.injEq,D.str.injEq,D.lst.injEq,D.bool.injEq,true_and,and_true]at a0;obtain ⟨rfl,rfl,rfl,rfl,rfl,rfl,rfl⟩:=a0;cases E:vY o a0_0
 ·have U:o.call 204 [As a0_0] []=Ar (Ab false):=(mQ ho a0_0 (by omega)).trans (by rw[E]);exact (ho.aj (by cbv;repeat (simp only[E,U];try cbv)):_=Ar (Ab false)).trans (by unfold qx;simp only[E,Bool.true_and,Bool.false_and,if_true,if_false,Bool.false_eq_true])
 have U:o.call 204 [As a0_0] []=Ar (Ab true):=(mQ ho a0_0 (by omega)).trans (by rw[E]);cases I:jx a0_1 1 10000
 ·have g3:=r9 I;have e4:o.call 83 [Ai a0_1,Ai 1,Ai 10000] []=Ar (Ab false):=(aJ ho a0_1 1 10000).trans (by rw[I]);exact (ho.aj (by cbv;repeat (simp only[E,U,I,e4];try cbv)):_=Ar (Ab false)).trans (by unfold qx;simp only[E,I,Bool.true_and,Bool.false_and,if_true,if_false,Bool.false_eq_true])
 have g3:=cL I;have e4:o.call 83 [Ai a0_1,Ai 1,Ai 10000] []=Ar (Ab true):=(aJ ho a0_1 1 10000).trans (by rw[I]);cases O:eB o J M true
 ·have e5:o.call 145 [Ac J M] []=Ar (Ab false):=((sG ho J M a3)).trans (by rw[O]);exact (ho.aj (by cbv;repeat (simp only[E,U,I,e4,e5];try cbv)):_=Ar (Ab false)).trans (by unfold qx;simp only[E,I,O,Bool.true_and,Bool.false_and,if_true,if_false,Bool.false_eq_true])
 have e5:o.call 145 [Ac J M] []=Ar (Ab true):=((sG ho J M a3)).trans (by rw[O]);cases S:eB o j e true
 ·have e6:o.call 145 [Ac j e] []=Ar (Ab false):=((sG ho j e a4)).trans (by rw[S]);exact (ho.aj (by cbv;repeat (simp only[E,U,I,e4,e5,e6];try cbv)):_=Ar (Ab false)).trans (by unfold qx;simp only[E,I,O,S,Bool.true_and,Bool.false_and,if_true,if_false,Bool.false_eq_true])
 have e6:o.call 145 [Ac j e] []=Ar (Ab true):=((sG ho j e a4)).trans (by rw[S]);cases e7:V
 ·obtain ⟨n1,e8,g8⟩:=aC ho j;rcases av ho n1 0 with ⟨e9,g9⟩|⟨e9,g9⟩
  ·exact (ho.aj (by cbv;repeat (simp only[E,U,I,e4,e5,e6,e7,e8,e9];try cbv)):_=Ar (Ab false)).trans (by unfold qx;simp only[E,I,O,S,Bool.true_and,Bool.false_and,if_true,if_false,Bool.false_eq_true];rw[decide_eq_false (p:=j.length=0) (by omega)];rfl)
  obtain ⟨n2,a5,a8⟩:=aC ho e;rcases av ho n2 0 with ⟨a1,a6⟩|⟨a1,a6⟩
  ·exact (ho.aj (by cbv;repeat (simp only[E,U,I,e4,e5,e6,e7,e8,e9,a5,a1];try cbv)):_=Ar (Ab false)).trans (by unfold qx;simp only[E,I,O,S,Bool.true_and,Bool.false_and,if_true,if_false,Bool.false_eq_true];rw[decide_eq_true (p:=j.length=0) (by omega)];(first | rw[decide_eq_true (p:=e.length=0) (by omega)] | rw[decide_eq_false (p:=e.length=0) (by omega)]);rfl)
  exact (ho.aj (by cbv;repeat (simp only[E,U,I,e4,e5,e6,e7,e8,e9,a5,a1];try cbv)):_=Ar (Ab true)).trans (by unfold qx;simp only[E,I,O,S,Bool.true_and,Bool.false_and,if_true,if_false,Bool.false_eq_true];rw[decide_eq_true (p:=j.length=0) (by omega)];(first | rw[decide_eq_true (p:=e.length=0) (by omega)] | rw[decide_eq_false (p:=e.length=0) (by omega)]);rfl)
 rcases fB ho a0_1 1 with ⟨e8,g8⟩|⟨e8,g8⟩
 ·exact (ho.aj (by cbv;repeat (simp only[E,U,I,e4,e5,e6,e7,e8];try cbv)):_=Ar (Ab false)).trans (by unfold qx;simp only[E,I,O,S,Bool.true_and,Bool.false_and,if_true,if_false,Bool.false_eq_true];(first | rw[decide_eq_true (p:=2<=a0_1) (by omega)] | rw[decide_eq_false (p:=2<=a0_1) (by omega)]))
 exact (ho.aj (by cbv;repeat (simp only[E,U,I,e4,e5,e6,e7,e8];try cbv)):_=Ar (Ab true)).trans (by unfold qx;simp only[E,I,O,S,Bool.true_and,Bool.false_and,if_true,if_false,Bool.false_eq_true];(first | rw[decide_eq_true (p:=2<=a0_1) (by omega)] | rw[decide_eq_false (p:=2<=a0_1) (by omega)]))
def jQ (e:Lq) (n1 i:Int):St:=⟨E 34 [(0,Al e),(5,Al e),(6,Ai n1),(7,Ai i)],O 34 []⟩
def kz (e:Lq):St:=⟨E 34 [(0,Al e),(2,Ab false)],O 34 []⟩
def kA (e:Lq):St:=⟨E 34 [(0,Al e)],O 34 []⟩
theorem O6 (e:Lq) (V:∀x∈e,GR x) (n1:Int) (I:(e.length:Int)=n1) (hb:n1<=1048576):∀i:Int,0<=i->i<=(n1:Int)->o.loop 11600 (jQ e n1 i)=some (if ((e.drop i.toNat).all (qx o)&&Eg o (e.drop (i-1).toNat))then (.exit 0,kA e)else (.ret,kz e)):=by
 refine cM (P:=λi=>o.loop 11600 (jQ e n1 i)=some (if ((e.drop i.toNat).all (qx o)&&Eg o (e.drop (i-1).toNat))then (.exit 0,kA e)else (.ret,kz e))) (n1:Int) ?_;intro i h0 h1 ih;try dsimp only at ih |-
 refine ho.fA λR Q=> ?_
 conv=>lhs;cbv
 rcases bn ho i n1 with ⟨e1,g1⟩|⟨e1,g1⟩<;>(conv=>lhs;rw[e1];cbv)
 ·subst Q;rw[bL I (by omega),show Eg o (e.drop (i-1).toNat)=true from FD I (by omega)];rfl
 obtain ⟨x,J,E,M⟩:=aF I h0 (by omega);obtain ⟨s1,n2,l1,l2,b2,l3,l4,rfl,a3,a4,a5⟩:=V _ M;have e2:=ay ho h0 J;have hd:=V _ M;conv=>lhs;rw[e2];cbv
 cases j:qx o (.agg [.str s1,.int .i64 n2,.lst l1,.lst l2,.bool b2,.lst l3,.lst l4])<;>(conv=>lhs;rw[IG ho _ _ _ _ _ _ _ hd,j];cbv)
 ·subst Q;rw[E,List.all_cons,j,Bool.false_and,Bool.false_and];rfl
 rcases fB ho i 0 with ⟨e4,g4⟩|⟨e4,g4⟩<;>(conv=>lhs;rw[e4];cbv)
 ·obtain ⟨n3,e5,g5⟩:=bk ho i 1;conv=>lhs;rw[e5];cbv
  subst Q;rw[E,List.all_cons,j,Bool.true_and,IE (by omega)];rw[show n3=i+1 by omega];exact ih (by omega)
 obtain ⟨n3,e5,g5⟩:=aU ho i 1;obtain ⟨y,O,a6,a1⟩:=aF (i:=n3) I (by omega) (by omega);obtain ⟨s2,n4,l5,l6,b5,l7,l8,rfl,a7,a8,a9⟩:=V _ a1;have e6:o.cF e n3=some (.agg [.str s2,.int .i64 n4,.lst l5,.lst l6,.bool b5,.lst l7,.lst l8]):=ay ho (by omega) O;have S:=NK (o:=o) (by omega) (by rw[show i-1=n3 by omega];exact O) J;conv=>lhs;rw[e5];cbv;rw[e6];cbv
 cases U:o.eZ .leq s1 s2<;>(conv=>lhs;cbv)
 ·obtain ⟨n5,e8,g8⟩:=bk ho i 1;conv=>lhs;rw[e8];cbv
  subst Q;rw[E,List.all_cons,j,S,show QF o (.agg [.str s2,.int .i64 n4,.lst l5,.lst l6,.bool b5,.lst l7,.lst l8]) (.agg [.str s1,.int .i64 n2,.lst l1,.lst l2,.bool b2,.lst l3,.lst l4])=true by show (!(o.eZ .leq s1 s2))=_;rw[U];rfl,Bool.true_and,Bool.true_and];rw[show n5=i+1 by omega];exact ih (by omega)
 subst Q;rw[E,List.all_cons,j,S,show QF o (.agg [.str s2,.int .i64 n4,.lst l5,.lst l6,.bool b5,.lst l7,.lst l8]) (.agg [.str s1,.int .i64 n2,.lst l1,.lst l2,.bool b2,.lst l3,.lst l4])=false by show (!(o.eZ .leq s1 s2))=_;rw[U];rfl,Bool.true_and,Bool.false_and,Bool.and_false];rfl
theorem GV (e:Lq) (M:∀x∈e,GR x) (O:(e.length:Int)<=1048576):o.call 116 [Al e] []=Ar (Ab (xH o e)):=by
 obtain ⟨n1,J,g1⟩:=aC ho e;have E:=O6 ho e M _ g1.symm (by omega) 0 (Int.le_refl _) (by omega);rw[show (0:Int).toNat=0 from rfl,show ((0:Int)-1).toNat=0 from rfl,List.drop_zero]at E;cases hc:(e.all (qx o)&&Eg o e)
 ·have j:o.loop 11600 (jQ e n1 0)=some (.ret,kz e):=E.trans (by rw[hc];rfl);exact (ho.aj (by cbv at j;cbv;repeat (simp only[J,j];try cbv)):_=Ar (Ab false)).trans (by unfold xH;rw[hc];rfl)
 have j:o.loop 11600 (jQ e n1 0)=some (.exit 0,kA e):=E.trans (by rw[hc];rfl);rcases iz ho n1 10 with ⟨I,g3⟩|⟨I,g3⟩
 ·exact (ho.aj (by cbv at j;cbv;repeat (simp only[J,j,I];try cbv)):_=Ar (Ab false)).trans (by unfold xH;rw[hc,<-I,LS ho];simp;omega)
 exact (ho.aj (by cbv at j;cbv;repeat (simp only[J,j,I];try cbv)):_=Ar (Ab true)).trans (by unfold xH;rw[hc,<-I,LS ho];simp;omega)
def jR (e:Lq) (i:Int):St:=⟨E 37 [(0,Al e),(3,Ai i)],O 37 []⟩
def kB (e:Lq):St:=⟨E 37 [(0,Al e),(2,Ab false)],O 37 []⟩
def kC (e:Lq):St:=⟨E 37 [(0,Al e)],O 37 []⟩
theorem O7 (e:Lq) (V:∀x∈e,GR x) (n1:Int) (I:(e.length:Int)=n1) (hb:n1<=1048576):∀i:Int,0<=i->i<=(n1:Int)->o.loop 11100 (jR e i)=some (if ((e.drop i.toNat).all (qx o)&&Eg o (e.drop (i-1).toNat))then (.exit 0,kC e)else (.ret,kB e)):=by
 refine cM (P:=λi=>o.loop 11100 (jR e i)=some (if ((e.drop i.toNat).all (qx o)&&Eg o (e.drop (i-1).toNat))then (.exit 0,kC e)else (.ret,kB e))) (n1:Int) ?_;intro i h0 h1 ih;try dsimp only at ih |-
 refine ho.fA λR Q=> ?_
 have e1:o.len e=n1:=(jA ho _).trans I;conv=>lhs;cbv;rw[e1];cbv
 rcases bn ho i n1 with ⟨e2,g2⟩|⟨e2,g2⟩<;>(conv=>lhs;rw[e2];cbv)
 ·subst Q;rw[bL I (by omega),show Eg o (e.drop (i-1).toNat)=true from FD I (by omega)];rfl
 obtain ⟨x,M,E,O⟩:=aF I h0 (by omega);obtain ⟨s1,n2,l1,l2,b2,l3,l4,rfl,a3,a4,a5⟩:=V _ O;have e3:=ay ho h0 M;have hd:=V _ O;conv=>lhs;rw[e3];cbv
 cases j:qx o (.agg [.str s1,.int .i64 n2,.lst l1,.lst l2,.bool b2,.lst l3,.lst l4])<;>(conv=>lhs;rw[GU ho _ _ _ _ _ _ _ hd,j];cbv)
 ·subst Q;rw[E,List.all_cons,j,Bool.false_and,Bool.false_and];rfl
 rcases fB ho i 0 with ⟨e5,g5⟩|⟨e5,g5⟩<;>(conv=>lhs;rw[e5];cbv)
 ·obtain ⟨n3,e6,g6⟩:=bk ho i 1;conv=>lhs;rw[e6];cbv
  subst Q;rw[E,List.all_cons,j,Bool.true_and,IE (by omega)];rw[show n3=i+1 by omega];exact ih (by omega)
 obtain ⟨n3,e6,g6⟩:=aU ho i 1;obtain ⟨y,S,a6,a1⟩:=aF (i:=n3) I (by omega) (by omega);obtain ⟨s2,n4,l5,l6,b5,l7,l8,rfl,a7,a8,a9⟩:=V _ a1;have e7:o.cF e n3=some (.agg [.str s2,.int .i64 n4,.lst l5,.lst l6,.bool b5,.lst l7,.lst l8]):=ay ho (by omega) S;have U:=NK (o:=o) (by omega) (by rw[show i-1=n3 by omega];exact S) M;conv=>lhs;rw[e6];cbv;rw[e7];cbv;(try (rw[e3];cbv))
 cases J:o.eZ .leq s1 s2<;>(conv=>lhs;rw[LU ho,J];cbv)
 ·obtain ⟨n5,e9,g9⟩:=bk ho i 1;conv=>lhs;rw[e9];cbv
  subst Q;rw[E,List.all_cons,j,U,show QF o (.agg [.str s2,.int .i64 n4,.lst l5,.lst l6,.bool b5,.lst l7,.lst l8]) (.agg [.str s1,.int .i64 n2,.lst l1,.lst l2,.bool b2,.lst l3,.lst l4])=true by show (!(o.eZ .leq s1 s2))=_;rw[J];rfl,Bool.true_and,Bool.true_and];rw[show n5=i+1 by omega];exact ih (by omega)
 subst Q;rw[E,List.all_cons,j,U,show QF o (.agg [.str s2,.int .i64 n4,.lst l5,.lst l6,.bool b5,.lst l7,.lst l8]) (.agg [.str s1,.int .i64 n2,.lst l1,.lst l2,.bool b2,.lst l3,.lst l4])=false by show (!(o.eZ .leq s1 s2))=_;rw[J];rfl,Bool.true_and,Bool.false_and,Bool.and_false];rfl
theorem GW (e:Lq) (O:∀x∈e,GR x) (S:(e.length:Int)<=1048576):o.call 111 [Al e] []=Ar (Ab (xH o e)):=by
 have J:=S;have E:=O7 ho e O _ rfl J 0 (Int.le_refl _) (by omega);rw[show (0:Int).toNat=0 from rfl,show ((0:Int)-1).toNat=0 from rfl,List.drop_zero]at E;cases hc:(e.all (qx o)&&Eg o e)
 ·have j:o.loop 11100 (jR e 0)=some (.ret,kB e):=E.trans (by rw[hc];rfl);exact (ho.aj (by cbv at j;cbv;repeat (simp only[j];try cbv)):_=Ar (Ab false)).trans (by unfold xH;rw[hc];rfl)
 have j:o.loop 11100 (jR e 0)=some (.exit 0,kC e):=E.trans (by rw[hc];rfl);obtain ⟨n1,M,g2⟩:=aC ho e;rcases iz ho n1 10 with ⟨I,g3⟩|⟨I,g3⟩
 ·exact (ho.aj (by cbv at j;cbv;repeat (simp only[j,M,I];try cbv)):_=Ar (Ab false)).trans (by unfold xH;rw[hc,<-I,LS ho];simp;omega)
 exact (ho.aj (by cbv at j;cbv;repeat (simp only[j,M,I];try cbv)):_=Ar (Ab true)).trans (by unfold xH;rw[hc,<-I,LS ho];simp;omega)
theorem II (f_0:By) (f_1:Int) (f_2 f_3:Lq) (j:Bool) (E I:Lq) (s:By):o.call 273 [Ae f_0 f_1 f_2 f_3 j E I,.sp [.str s] 0] []=Ar (Ab (decide (f_0=s))):=by
 rcases aR ho f_0 s with ⟨e,g1⟩|⟨e,g1⟩
 ·exact (ho.aj (by cbv;repeat (simp only[e];try cbv)):_=Ar (Ab false)).trans (by simp_all)
 exact (ho.aj (by cbv;repeat (simp only[e];try cbv)):_=Ar (Ab true)).trans (by simp_all)
def dV (e:Lq) (s:By) (n1 i:Int):St:=⟨E 19 [(0,Al e),(1,.fn 273 [.sp [.str s] 0]),(7,Ai n1),(8,Ai i)],O 19 []⟩
def eV (i:Int):St:=⟨E 19 [(4,Ai i)],O 19 []⟩
def eX:St:=⟨E 19 [],O 19 []⟩
def mz (e:Lq) (s:By) (i:Int):St:=⟨E 20 [(0,Al e),(1,As s),(5,Ai i)],O 20 []⟩
def mX (i:Int):St:=⟨E 20 [(4,Ai i)],O 20 []⟩
def mY:St:=⟨E 20 [],O 20 []⟩
theorem V6 (e:Lq) (s:By) (U:∀x∈e,GR x) (n1:Int) (V:(e.length:Int)=n1) (hb:n1<=1048576):∀i:Int,0<=i->i<=(n1:Int)->o.loop 27200 (dV e s n1 i)=some (if gL (uY e s) i n1= -1 then (.exit 0,eX)else (.ret,eV (gL (uY e s) i n1))):=by
 refine cM (P:=λi=>o.loop 27200 (dV e s n1 i)=some (if gL (uY e s) i n1= -1 then (.exit 0,eX)else (.ret,eV (gL (uY e s) i n1)))) (n1:Int) ?_;intro i I h1 J;try dsimp only at J |-
 refine ho.fA λR Q=> ?_
 conv=>lhs;cbv
 rcases bn ho i n1 with ⟨M,g1⟩|⟨M,g1⟩<;>(conv=>lhs;rw[M];cbv)
 ·subst Q;rw[oY (by omega),if_pos rfl];rfl
 obtain ⟨x,E,a1,O⟩:=aF V I g1;obtain ⟨s1,n2,l1,l2,b2,l3,l4,rfl,hz⟩:=U _ O;have e2:=ay ho I E;have S:=NJ (s:=s) E;conv=>lhs;rw[e2];cbv
 cases j:decide (s1=s)<;>(conv=>lhs;rw[II ho,j];cbv)
 ·obtain ⟨n3,e4,g4⟩:=bk ho i 1;conv=>lhs;rw[e4];cbv
  subst Q;rw[wH (by omega) (S.trans j)];rw[show n3=i+1 by omega];exact J (by omega)
 subst Q;rw[wG (by omega) (S.trans j),if_neg (by omega)];rfl
theorem O8 (e:Lq) (s:By) (J:∀x∈e,GR x) (M:(e.length:Int)<=1048576):o.call 272 [Al e,.fn 273 [.sp [.str s] 0]] []=Ar (Ai (iB e s)):=by
 obtain ⟨n1,E,g1⟩:=aC ho e;have hl:=V6 ho e s J n1 g1.symm (by omega) 0 (Int.le_refl _) (by omega);have hf:iB e s=gL (uY e s) 0 n1:=by rw[g1];rfl
 rw[<-hf]at hl;by_cases hc:iB e s= -1
 ·have j:o.loop 27200 (dV e s n1 0)=some (.exit 0,eX):=hl.trans (by rw[if_pos hc]);first | (rw[hc];exact (ho.aj (by cbv at j;cbv;repeat (simp only[E,j];try cbv)):o.call 272 [Al e,.fn 273 [.sp [.str s] 0]] []=Ar (Ai (-1)))) | (rw[I];exact (ho.aj (by cbv at j;cbv;repeat (simp only[E,j];try cbv)):o.call 272 [Al e,.fn 273 [.sp [.str s] 0]] []=Ar (Ai (-1))))
 obtain ⟨n2,I,j⟩:∃n2,iB e s=n2/\o.loop 27200 (dV e s n1 0)=some (.ret,eV n2):=⟨_,rfl,hl.trans (by rw[if_neg hc])⟩
 first | (rw[hc];exact (ho.aj (by cbv at j;cbv;repeat (simp only[E,j];try cbv)):o.call 272 [Al e,.fn 273 [.sp [.str s] 0]] []=Ar (Ai n2))) | (rw[I];exact (ho.aj (by cbv at j;cbv;repeat (simp only[E,j];try cbv)):o.call 272 [Al e,.fn 273 [.sp [.str s] 0]] []=Ar (Ai n2)))
theorem IJ (e:Lq) (s:By) (E:∀x∈e,GR x) (I:(e.length:Int)<=1048576):o.call 174 [Al e,As s] []=Ar (Ai (iB e s)):=by
 refine ho.aL λR Q=> ?_
 obtain ⟨n1,j,J⟩:∃n1,iB e s=n1/\o.call 272 [Al e,.fn 273 [.sp [.str s] 0]] []=Ar (Ai n1):=⟨_,rfl,O8 ho e s E I⟩
 conv=>lhs;cbv;rw[J];cbv
 subst Q;rw[j];try rfl
theorem SD (e:Lq) (s:By) (hT:∀x∈e,GR x) (n1:Int) (I:(e.length:Int)=n1) (hb:n1<=1048576):∀i:Int,0<=i->i<=(n1:Int)->o.loop 29400 (mz e s i)=some (if gL (uY e s) i n1= -1 then (.exit 0,mY)else (.ret,mX (gL (uY e s) i n1))):=by
 refine cM (P:=λi=>o.loop 29400 (mz e s i)=some (if gL (uY e s) i n1= -1 then (.exit 0,mY)else (.ret,mX (gL (uY e s) i n1)))) (n1:Int) ?_;intro i J h1 M;try dsimp only at M |-
 refine ho.fA λR Q=> ?_
 have e1:o.len e=n1:=(jA ho _).trans I;conv=>lhs;cbv;rw[e1];cbv
 rcases bn ho i n1 with ⟨O,g2⟩|⟨O,g2⟩<;>(conv=>lhs;rw[O];cbv)
 ·subst Q;rw[oY (by omega),if_pos rfl];rfl
 obtain ⟨x,j,a1,S⟩:=aF I J g2;obtain ⟨s1,n2,l1,l2,b2,l3,l4,rfl,hz⟩:=hT _ S;have e3:=ay ho J j;have U:=NJ (s:=s) j;conv=>lhs;rw[e3];cbv
 rcases aR ho s1 s with ⟨V,E⟩|⟨V,E⟩<;>(conv=>lhs;rw[V];cbv)
 ·obtain ⟨n3,e5,g5⟩:=bk ho i 1;conv=>lhs;rw[e5];cbv
  subst Q;rw[wH (by omega) (U.trans (decide_eq_false E))];rw[show n3=i+1 by omega];exact M (by omega)
 subst Q;rw[wG (by omega) (U.trans (decide_eq_true E)),if_neg (by omega)];rfl
theorem O9 (e:Lq) (s:By) (I:∀x∈e,GR x) (J:(e.length:Int)<=1048576):o.call 294 [Al e,As s] []=Ar (Ai (iB e s)):=by
 have hl:=SD ho e s I _ rfl J 0 (Int.le_refl _) (by omega);have hf:iB e s=gL (uY e s) 0 e.length:=by rfl
 rw[<-hf]at hl;by_cases hc:iB e s= -1
 ·have j:o.loop 29400 (mz e s 0)=some (.exit 0,mY):=hl.trans (by rw[if_pos hc]);first | (rw[hc];exact (ho.aj (by cbv at j;cbv;repeat (simp only[j];try cbv)):o.call 294 [Al e,As s] []=Ar (Ai (-1)))) | (rw[E];exact (ho.aj (by cbv at j;cbv;repeat (simp only[j];try cbv)):o.call 294 [Al e,As s] []=Ar (Ai (-1))))
 obtain ⟨n1,E,j⟩:∃n1,iB e s=n1/\o.loop 29400 (mz e s 0)=some (.ret,mX n1):=⟨_,rfl,hl.trans (by rw[if_neg hc])⟩
 first | (rw[hc];exact (ho.aj (by cbv at j;cbv;repeat (simp only[j];try cbv)):o.call 294 [Al e,As s] []=Ar (Ai n1))) | (rw[E];exact (ho.aj (by cbv at j;cbv;repeat (simp only[j];try cbv)):o.call 294 [Al e,As s] []=Ar (Ai n1)))
theorem Bv {tl:Lq} {s:By} {n1 q:Int} (e:o.call 174 [Al tl,As s] []=Ar (Ai n1)) (j:o.cmp .lss n1 0=true):o.call 296 [Al tl,As s,Ai q] []=Ar (.nilp):=by
 refine ho.aj ?_
 cbv
 repeat (simp only[*];try cbv)
theorem Bx {tl:Lq} {s:By} {n1:Int} {s1:By} {n2:Int} {l1 l2:Lq} {e:Bool} {l3 j:Lq} {q:Int} (E:o.call 174 [Al tl,As s] []=Ar (Ai n1)) (I:o.cmp .lss n1 0=false) (J:o.cF tl n1=some (De s1 n2 l1 l2 e l3 j)) (M:o.cmp .eql n2 q=true):o.call 296 [Al tl,As s,Ai q] []=Ar (Sc l1 l2):=by
 refine ho.aj ?_
 cbv
 repeat (simp only[*];try cbv)
theorem Bz {tl:Lq} {s:By} {n1:Int} {s1:By} {n2:Int} {l1 l2 l3 e:Lq} {q n3:Int} (j:o.call 174 [Al tl,As s] []=Ar (Ai n1)) (E:o.cmp .lss n1 0=false) (I:o.cF tl n1=some (De s1 n2 l1 l2 true l3 e)) (J:o.cmp .eql n2 q=false) (M:o.ar .sub .i64 n2 1=n3) (O:o.cmp .eql n3 q=true):o.call 296 [Al tl,As s,Ai q] []=Ar (Sc l3 e):=by
 refine ho.aj ?_
 cbv
 repeat (simp only[*];try cbv)
theorem BA {tl:Lq} {s:By} {n1:Int} {s1:By} {n2:Int} {l1 l2 l3 e:Lq} {q:Int} (j:o.call 174 [Al tl,As s] []=Ar (Ai n1)) (E:o.cmp .lss n1 0=false) (I:o.cF tl n1=some (De s1 n2 l1 l2 false l3 e)) (J:o.cmp .eql n2 q=false):o.call 296 [Al tl,As s,Ai q] []=Ar (.nilp):=by
 refine ho.aj ?_
 cbv
 repeat (simp only[*];try cbv)
theorem BB {tl:Lq} {s:By} {n1:Int} {s1:By} {n2:Int} {l1 l2 l3 e:Lq} {q n3:Int} (j:o.call 174 [Al tl,As s] []=Ar (Ai n1)) (E:o.cmp .lss n1 0=false) (I:o.cF tl n1=some (De s1 n2 l1 l2 true l3 e)) (J:o.cmp .eql n2 q=false) (M:o.ar .sub .i64 n2 1=n3) (O:o.cmp .eql n3 q=false):o.call 296 [Al tl,As s,Ai q] []=Ar (.nilp):=by
 refine ho.aj ?_
 cbv
 repeat (simp only[*];try cbv)
theorem zB {tl:Lq} {s:By} {n1 q:Int} (e:o.call 294 [Al tl,As s] []=Ar (Ai n1)) (j:o.cmp .lss n1 0=true):o.call 295 [Al tl,As s,Ai q] []=Ar (.tup [Ac [] [],Ab false]):=by
 refine ho.aj ?_
 cbv
 repeat (simp only[*];try cbv)
theorem zC {tl:Lq} {s:By} {n1:Int} {s1:By} {n2:Int} {l1 l2:Lq} {e:Bool} {l3 j:Lq} {q:Int} (E:o.call 294 [Al tl,As s] []=Ar (Ai n1)) (I:o.cmp .lss n1 0=false) (J:o.cF tl n1=some (De s1 n2 l1 l2 e l3 j)) (M:o.cmp .eql n2 q=true):o.call 295 [Al tl,As s,Ai q] []=Ar (.tup [Ac l1 l2,Ab true]):=by
 refine ho.aj ?_
 cbv
 repeat (simp only[*];try cbv)
theorem zD {tl:Lq} {s:By} {n1:Int} {s1:By} {n2:Int} {l1 l2 l3 e:Lq} {q n3:Int} (j:o.call 294 [Al tl,As s] []=Ar (Ai n1)) (E:o.cmp .lss n1 0=false) (I:o.cF tl n1=some (De s1 n2 l1 l2 true l3 e)) (J:o.cmp .eql n2 q=false) (M:o.ar .sub .i64 n2 1=n3) (O:o.cmp .eql n3 q=true):o.call 295 [Al tl,As s,Ai q] []=Ar (.tup [Ac l3 e,Ab true]):=by
 refine ho.aj ?_
 cbv
 repeat (simp only[*];try cbv)
theorem zE {tl:Lq} {s:By} {n1:Int} {s1:By} {n2:Int} {l1 l2 l3 e:Lq} {q:Int} (j:o.call 294 [Al tl,As s] []=Ar (Ai n1)) (E:o.cmp .lss n1 0=false) (I:o.cF tl n1=some (De s1 n2 l1 l2 false l3 e)) (J:o.cmp .eql n2 q=false):o.call 295 [Al tl,As s,Ai q] []=Ar (.tup [Ac [] [],Ab false]):=by
 refine ho.aj ?_
 cbv
 repeat (simp only[*];try cbv)
theorem zF {tl:Lq} {s:By} {n1:Int} {s1:By} {n2:Int} {l1 l2 l3 e:Lq} {q n3:Int} (j:o.call 294 [Al tl,As s] []=Ar (Ai n1)) (E:o.cmp .lss n1 0=false) (I:o.cF tl n1=some (De s1 n2 l1 l2 true l3 e)) (J:o.cmp .eql n2 q=false) (M:o.ar .sub .i64 n2 1=n3) (O:o.cmp .eql n3 q=false):o.call 295 [Al tl,As s,Ai q] []=Ar (.tup [Ac [] [],Ab false]):=by
 refine ho.aj ?_
 cbv
 repeat (simp only[*];try cbv)
theorem GX {tl:Lq} (U:∀x∈tl,GR x) (V:(tl.length:Int)<=1048576) (hE:∀x∈tl,qx o x=true) (s:By) (q:Int) (h0:0<=q) (hq:q<=1000000):
  (o.call 296 [Al tl,As s,Ai q] []=Ar (.nilp)/\o.call 295 [Al tl,As s,Ai q] []=Ar (.tup [Ac [] [],Ab false]))\/
  ∃f p,jZ f p/\eB o f p true=true/\o.call 296 [Al tl,As s,Ai q] []=Ar (Sc f p)/\o.call 295 [Al tl,As s,Ai q] []=Ar (.tup [Ac f p,Ab true]):=by
 have I:=IJ ho tl s U V;have J:=O9 ho tl s U V;have a4:=pD tl s;rcases bn ho (iB tl s) 0 with ⟨e,g2⟩ | ⟨e,g2⟩
 case inr=>exact .inl ⟨Bv ho I e,zB ho J e⟩
 obtain ⟨x,a0,_,S⟩:=aF (xs:=tl) rfl g2 (by omega);have hB:=hE x S;obtain ⟨s1,n2,f,p,h,g,r,rfl,hs,a1,a3⟩:=U x S;have E:=ay ho g2 a0;unfold qx at hB;have b1:=cL (ba (ba hB).2).1;have b2:=(ba (ba (ba hB).2).2).1;have b3:=(ba (ba (ba (ba hB).2).2).2).1;rcases av ho n2 q with ⟨j,g4⟩ | ⟨j,g4⟩
 case inr=>exact .inr ⟨f,p,a1,b2,Bx ho I e E j,zC ho J e E j⟩
 have O:o.ar .sub .i64 n2 1=n2-1:=gj ho (by omega) (by omega);cases h with
 | false=>exact .inl ⟨BA ho I e E j,zE ho J e E j⟩
 | true=>
  rcases av ho (n2-1) q with ⟨M,g6⟩ | ⟨M,g6⟩
  ·exact .inl ⟨BB ho I e E j O M,zF ho J e E j O M⟩
  exact .inr ⟨g,r,a3,b3,Bz ho I e E j O M,zD ho J e E j O M⟩
end
end T2
