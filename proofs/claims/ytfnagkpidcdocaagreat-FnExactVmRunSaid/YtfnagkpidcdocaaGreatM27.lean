import Derived.Test.YtfnagkpidcdocaaGreatM26
set_option linter.all false
namespace T2
open Go Go.Vi
set_option maxRecDepth 100000
def Z4 (k n:Int) (s:ByteArray) (l:List D):Prop:=k=0/\n=0/\s=⟨#[]⟩/\l=[]
def EI (o:aK) (r:Option (Go.Vi.Out×St)) (c k n:Int) (s:ByteArray) (l:List D):Prop:=
 (c=6/\Z4 k n s l/\∃a b,r=some (.exit 0,kS a b))
 \/(c≠0/\Z4 k n s l/\∃a b,r=some (.ret,kV c a b)\/r=some (.ret,jc c a b)\/r=some (.ret,kW c a b))
 \/(c=0/\∃a b ys,aV ys=l/\Ot o 8 (.agg [.int .i64 k,.int .i64 n,.str s,.own (31,4) ys])/\(r=some (.ret,kT k n s a b ys)\/r=some (.ret,jb k n s a b ys)\/r=some (.ret,kU k n s a b ys)))
def ES (r:Option (Go.Vi.Out×St)) (c k n:Int) (s:ByteArray) (l:List D):Prop:=
 (c=6/\Z4 k n s l/\∃a b,r=some (.exit 0,j5 a b))\/(c≠0/\Z4 k n s l/\∃a b,r=some (.ret,eF c a b))\/(c=0/\∃a b,r=some (.ret,eE k n s l a b))
theorem tL {o:aK} {r r':Option (Go.Vi.Out×St)} {c k n:Int} {s:ByteArray} {l:List D} (h:∀z,r'=some z->r=some z):EI o r' c k n s l->EI o r c k n s l
 | .inl ⟨a,b,x,y,e⟩=> .inl ⟨a,b,x,y,h _ e⟩
 | .inr (.inl ⟨a,b,x,y,e⟩)=> .inr (.inl ⟨a,b,x,y,e.imp (h _) (Or.imp (h _) (h _))⟩)
 | .inr (.inr ⟨a,x,y,ys,f,g,e⟩)=> .inr (.inr ⟨a,x,y,ys,f,g,e.imp (h _) (Or.imp (h _) (h _))⟩)
theorem tM {r r':Option (Go.Vi.Out×St)} {c k n:Int} {s:ByteArray} {l:List D} (h:∀z,r'=some z->r=some z):ES r' c k n s l->ES r c k n s l
 | .inl ⟨a,b,x,y,e⟩=> .inl ⟨a,b,x,y,h _ e⟩
 | .inr (.inl ⟨a,b,x,y,e⟩)=> .inr (.inl ⟨a,b,x,y,h _ e⟩)
 | .inr (.inr ⟨a,x,y,e⟩)=> .inr (.inr ⟨a,x,y,h _ e⟩)
section
variable {o:aK} (ho:aU cF bE o) {fns ps:List D} (hK:jY fns ps) (hB:ef o fns ps true=true)
include ho hK hB
theorem Fe {n:Int} (hn:n<=100000):∀i:Int,0<=i->i<=n->∀(R:List Fr) (f:Fr) (st:List D),Inv o fns R f st->∃c k m s l,EI o (o.loop 9100 (aZ fns ps n i (gI R f) st)) c k m s l/\ES (o.loop 8400 (bh n fns ps i (gS R f) st)) c k m s l:=by
 refine cU n ?_;intro i h0 h1 ih R f st hI;by_cases hlt:i<n
 ·have e1:=GZ ho hlt;have e4:o.ar .add .i64 i 1=i+1:=cM ho (by omega) (by omega);rcases DL ho hK hB hI with ⟨R',f',st',hI',pI,pS⟩ | ⟨k,m,s,l,F,F2,st2,hrt,pI,pS⟩ | ⟨c,F,st',F2,st2,h7,hc0,pI,pS⟩
  ·obtain ⟨c,k,m,s,l,q1,q2⟩:=ih hlt R' f' st' hI';have e3:o.cmp .eql 7 7=true:=cw ho rfl;have e3':o.cmp .neq 7 7=false:=Oj ho rfl;refine ⟨c,k,m,s,l,?_,?_⟩
   ·rcases pI with e2 | e2 | e2 | e2
    ·exact tL (wA ho e1 e2 e3 e4) q1
    ·exact tL (wC ho e1 e2 e3 e4) q1
    ·exact tL (wD ho e1 e2 e3 e4) q1
    ·exact tL (wE ho e1 e2 e3 e4) q1
   ·rcases pS with e2 | e2 | e2 | e2
    ·exact tM (tr ho e1 e2 e3' e4) q2
    ·exact tM (tu ho e1 e2 e3' e4) q2
    ·exact tM (tv ho e1 e2 e3' e4) q2
    ·exact tM (tw ho e1 e2 e3' e4) q2
  ·have e3:o.cmp .eql 0 7=false:=bG ho (by omega);have e4':o.cmp .eql 0 0=true:=cw ho rfl;have e5:o.dm [(.agg [.int .i64 k,.int .i64 m,.str s,.lst l]:D)] 0=some (.agg [.int .i64 k,.int .i64 m,.str s,.lst l]):=av ho (by omega) rfl;obtain ⟨ys,e6,hf,hO⟩:=rC ho 8 k m s l hrt;refine ⟨0,k,m,s,l,.inr (.inr ⟨rfl,?_⟩),.inr (.inr ⟨rfl,?_⟩)⟩
   ·rcases pI with e2 | e2 | e2 | e2
    ·exact ⟨_,_,ys,hf,hO,.inl (wF ho e1 e2 e3 e4' e5 e6)⟩
    ·exact ⟨_,_,ys,hf,hO,.inr (.inl (wG ho e1 e2 e3 e4' e5 e6))⟩
    ·exact ⟨_,_,ys,hf,hO,.inr (.inr (wH ho e1 e2 e3 e4' e5 e6))⟩
    ·exact ⟨_,_,ys,hf,hO,.inr (.inl (wI ho e1 e2 e3 e4' e5 e6))⟩
   ·rcases pS with e2 | e2 | e2 | e2
    ·exact ⟨_,_,uM ho e1 e2⟩
    ·exact ⟨_,_,uO ho e1 e2⟩
    ·exact ⟨_,_,uP ho e1 e2⟩
    ·exact ⟨_,_,uQ ho e1 e2⟩
  ·have e3:o.cmp .eql c 7=false:=bG ho h7;have e4':o.cmp .eql c 0=false:=bG ho hc0;have e3':o.cmp .neq c 7=true:=Oi ho h7;refine ⟨c,0,0,⟨#[]⟩,[],.inr (.inl ⟨hc0,⟨rfl,rfl,rfl,rfl⟩,?_⟩),.inr (.inl ⟨hc0,⟨rfl,rfl,rfl,rfl⟩,?_⟩)⟩
   ·rcases pI with e2 | e2 | e2 | e2
    ·exact ⟨_,_,.inl (uI ho e1 e2 e3 e4')⟩
    ·exact ⟨_,_,.inr (.inl (uJ ho e1 e2 e3 e4'))⟩
    ·exact ⟨_,_,.inr (.inr (uK ho e1 e2 e3 e4'))⟩
    ·exact ⟨_,_,.inr (.inl (uL ho e1 e2 e3 e4'))⟩
   ·rcases pS with e2 | e2 | e2 | e2
    ·exact ⟨_,_,uR ho e1 e2 e3'⟩
    ·exact ⟨_,_,uS ho e1 e2 e3'⟩
    ·exact ⟨_,_,uT ho e1 e2 e3'⟩
    ·exact ⟨_,_,uU ho e1 e2 e3'⟩
 ·have e1:=LN ho (a:=i) (b:=n) (by omega);exact ⟨6,0,0,⟨#[]⟩,[],.inl ⟨rfl,⟨rfl,rfl,rfl,rfl⟩,_,_,wB ho e1⟩,.inl ⟨rfl,⟨rfl,rfl,rfl,rfl⟩,_,_,uN ho e1⟩⟩
end
end T2
namespace T2
open Go Go.Vi
set_option maxRecDepth 100000
set_option maxHeartbeats 4000000
def iC (o:aK) (fns:List D) (s:ByteArray) (l:List D):Bool:=decide (0<=ja fns s)&&(decide (g_ fns (ja fns s)=l.length)&&l.all (sw o))
section
variable {o:aK} (ho:aU cF bE o)
include ho
theorem Ff (c_0 c_1:List D) (s:ByteArray) (l:List D) (hK:jY c_0 c_1) (hB:ef o c_0 c_1 true=true) {m:Nat} (hT:∀x∈l,Tm m x) (hl:(l.length:Int)<=1048576):(iC o c_0 s l=false/\o.call 150 [.sp [.lst c_0,.lst c_1] 0,As s,Al l] []=Ar (.tup [.agg [.emp,.emp],Ab false]))\/(iC o c_0 s l=true/\∃q nm a xs,c_0[(ja c_0 s).toNat]? =some (.agg [.str nm,.int .i64 a,.int .i64 q,.lst xs])/\o.call 150 [.sp [.lst c_0,.lst c_1] 0,As s,Al l] []=some ⟨.tup [.agg [.arr (0,0) (192,3) none true,.emp],Ab true],[],[Oo (gI [] (ja c_0 s,0,cn q l))]⟩):=by
 obtain ⟨n1,hn1,e1⟩:∃n1,n1=ja c_0 s/\o.call 180 [.sp [.lst c_0,.lst c_1] 0,As s] []=Ar (Ai n1):=⟨_,rfl,uq ho c_0 c_1 s hK.1 hK.2.1⟩
 have hAb:=oT c_0 s;rcases bB ho n1 0 with ⟨e2,g2⟩|⟨e2,g2⟩
 ·obtain ⟨s1,n2,n3,l1,xF,hx0,hA,ha,hs,hlx,_⟩:=nA hK.1 ho hB (i:=ja c_0 s) (by omega) (by omega);rw [<-hn1]at hx0;have hag:g_ c_0 n1=n2:=by unfold g_;rw [hx0]
  have e3:o.dm c_0 n1=some (.agg [.str s1,.int .i64 n2,.int .i64 n3,.lst l1]):=av ho (by omega) hx0;obtain ⟨n4,e4,g4⟩:=aB ho l;rcases cH ho n2 n4 with ⟨e5,g5⟩|⟨e5,g5⟩
  ·cases he6:l.all (sw o)
   ·have e6:o.call 158 [Al l] []=Ar (Ab false):=(z7 ho l hT hl).trans (by rw [he6]);exact .inl ⟨by unfold iC;rw [he6];simp,(ho.aq (by cbv;repeat (simp only [e1,e2,e3,e4,e5,e6];try cbv)):o.call 150 [.sp [.lst c_0,.lst c_1] 0,As s,Al l] []=Ar (.tup [.agg [.emp,.emp],Ab false]))⟩
   ·have e6:o.call 158 [Al l] []=Ar (Ab true):=(z7 ho l hT hl).trans (by rw [he6]);have hRt:∀x∈l,Rt o 8 x:=fun x hx=>yt (hT x hx) (List.all_eq_true.1 he6 x hx)
    obtain ⟨l2,e7,hfz,hOt⟩:=uX ho 8 (rC ho 8) l hRt hl;obtain ⟨l3,hl3,e8⟩:∃z,z=l/\o.fk l2=z:=⟨_,rfl,(ho.fk _).trans hfz⟩
    obtain ⟨l4,hl4,e9⟩:∃z,z=cn n3 l/\o.call 247 [.sp [.lst c_0,.lst c_1] 0,Ai n1,Al l3] []=some ⟨.agg [Ai n1,Ai 0,.arr (0,0) (31,4) none true],[],[Os z]⟩:=⟨_,rfl,by rw [hl3];exact zN ho c_0 c_1 n1 l s1 n2 n3 l1 (by omega) hx0 (by omega) (by omega) hRt⟩
    have e10:o.flat l4=true:=by exact pz ho (by rw [hl4];exact oq hRt)
    refine .inr ⟨by unfold iC;rw [<-hn1,hag,decide_eq_true (by omega),decide_eq_true (p:=n2=l.length) (by omega),he6];rfl,n3,s1,n2,l1,by rw [<-hn1];exact hx0,?_⟩;rw [show gI [] (ja c_0 s,0,cn n3 l)=[.agg [.int .i64 n1,.int .i64 0,.own (31,4) l4]] by rw [<-hn1,<-hl4];rfl];exact (ho.aq (by cbv;repeat (simp only [e1,e2,e3,e4,e5,e6,e7,e8,e9,e10];try cbv)):o.call 150 [.sp [.lst c_0,.lst c_1] 0,As s,Al l] []=some ⟨.tup [.agg [.arr (0,0) (192,3) none true,.emp],Ab true],[],[Oo [.agg [.int .i64 n1,.int .i64 0,.own (31,4) l4]]]⟩)
  ·exact .inl ⟨by unfold iC;rw [<-hn1,hag,decide_eq_true (by omega),decide_eq_false (p:=n2=l.length) (by omega)];rfl,(ho.aq (by cbv;repeat (simp only [e1,e2,e3,e4,e5];try cbv)):o.call 150 [.sp [.lst c_0,.lst c_1] 0,As s,Al l] []=Ar (.tup [.agg [.emp,.emp],Ab false]))⟩
 ·exact .inl ⟨by unfold iC;rw [decide_eq_false (by omega)];rfl,(ho.aq (by cbv;repeat (simp only [e1,e2];try cbv)):o.call 150 [.sp [.lst c_0,.lst c_1] 0,As s,Al l] []=Ar (.tup [.agg [.emp,.emp],Ab false]))⟩
theorem CP (c_0 c_1:List D) (k:Int) (l:List D) (nm:ByteArray) (a q:Int) (xs:List D) (h0:0<=k) (hx:c_0[k.toNat]? =some (.agg [.str nm,.int .i64 a,.int .i64 q,.lst xs])) (hlq:(l.length:Int)<=q) (hn:q<=400) (hT:∀x∈l,Rt o 8 x):o.call 177 [.agg [Al c_0,Al c_1],Ai k,Al l] []=some ⟨.agg [.arr (0,0) (192,3) none true,.emp],[],[Op (gS [] (k,0,cn q l))]⟩:=by
 refine ho.aI fun R Q=> ?_
 obtain ⟨n1,n2,l1,⟨hw1,hw2,hw3⟩,e1⟩:∃a b c,(a=k/\b=0/\c=cn q l)/\o.call 187 [.agg [Al c_0,Al c_1],Ai k,Al l] []=Ar (.agg [Ai a,Ai b,Al c]):=⟨_,_,_,⟨rfl,rfl,rfl⟩,w8 ho c_0 c_1 k l nm a q xs h0 hx hlq hn hT⟩
 conv=>lhs;cbv;rw [e1];cbv
 subst Q;rw [show gS [] (k,0,cn q l)=[.agg [.int .i64 n1,.int .i64 n2,.lst l1]] by rw [hw1,hw2,hw3];rfl];try rfl
end
section
variable {o:aK} (ho:aU cF bE o)
include ho
def kE (l c_0 c_1:List D) (n1 i:Int):St:=⟨E 49 [(2,Al l),(3,.sp [.lst c_0,.lst c_1] 0),(6,.ptr (6,0) 0),(8,Ai n1),(9,Ai i)],O 49 [(6,[some (.box [.emp,.emp])])]⟩
def kX (l c_0 c_1:List D) (n1:Int):St:=⟨E 49 [(2,Al l),(3,.sp [.lst c_0,.lst c_1] 0),(6,.ptr (6,0) 0),(8,Ai n1)],O 49 [(6,[some (.box [.emp,.emp])])]⟩
def kY (l c_0 c_1:List D) (n1:Int):St:=⟨E 49 [(2,Al l),(3,.sp [.lst c_0,.lst c_1] 0),(6,.ptr (6,0) 0),(7,Ab false),(8,Ai n1)],O 49 [(6,[some (.box [.emp,.emp])])]⟩
theorem newL {m:Nat} (c_0 c_1 l:List D) (n1:Int) (hT:∀x∈l,Tm m x) (q:Int) (hn:(l.length:Int)=q) (hl:q<=1048576):∀i:Int,0<=i->i<=(q:Int)->o.loop 8200 (kE l c_0 c_1 n1 i)=some (if (l.drop i.toNat).all (sw o)then (.exit 0,kX l c_0 c_1 n1)else (.ret,kY l c_0 c_1 n1)):=by
 refine cU (P:=fun i=>o.loop 8200 (kE l c_0 c_1 n1 i)=some (if (l.drop i.toNat).all (sw o)then (.exit 0,kX l c_0 c_1 n1)else (.ret,kY l c_0 c_1 n1))) (q:Int) ?_;intro i h0 h1 ih;try dsimp only at ih |-
 refine ho.gC fun R Q=> ?_
 obtain ⟨n2,e1,g1⟩:=aB ho l;conv=>lhs;cbv;rw [e1];cbv
 rcases bB ho i n2 with ⟨e2,g2⟩|⟨e2,g2⟩<;>(conv=>lhs;rw [e2];cbv)
 ·subst Q;rw [bR hn (by omega)];rfl
 ·obtain ⟨x,hx0,hx1,hx2⟩:=aD hn h0 (by omega);obtain ⟨m1,n3,n4,s1,l1,hd1,rfl,hs,hll,ht⟩:=dc (hT _ hx2);have e3:=av ho h0 hx0;conv=>lhs;rw [e3];cbv
  cases he4:sw o (.agg [.int .i64 n3,.int .i64 n4,.str s1,.lst l1])<;>(conv=>lhs;rw [qm ho _ _ _ _ (hT _ hx2),he4];cbv)
  ·subst Q;rw [hx1,List.all_cons,he4];rfl
  ·obtain ⟨n5,e5,g5⟩:=bA ho i 1;conv=>lhs;rw [e5];cbv
   subst Q;rw [hx1,List.all_cons,he4,Bool.true_and];rw [show n5=i+1 by omega];exact ih (by omega)
theorem K8 (c_0 c_1:List D) (s:ByteArray) (l:List D) (hK:jY c_0 c_1) {m:Nat} (hT:∀x∈l,Tm m x) (hl:(l.length:Int)<=1048576):∃a b,o.call 82 [.agg [Al c_0,Al c_1],As s,Al l] []=Ar (.tup [.agg [Al a,Al b],Ab (ef o c_0 c_1 true&&iC o c_0 s l)]):=by
 obtain ⟨n1,hn1,e1⟩:∃n1,n1=ja c_0 s/\o.call 85 [.agg [Al c_0,Al c_1],As s] []=Ar (Ai n1):=⟨_,rfl,ru ho c_0 c_1 s hK.1 hK.2.1⟩
 have hAb:=oT c_0 s;cases he2:ef o c_0 c_1 true
 ·have e2:o.call 145 [.agg [Al c_0,Al c_1]] []=Ar (Ab false):=(zM ho c_0 c_1 hK).trans (by rw [he2]);exact ⟨_,_,(ho.aq (by cbv;repeat (simp only [e1,e2];try cbv)):o.call 82 [.agg [Al c_0,Al c_1],As s,Al l] []=Ar (.tup [.agg [Al [],Al []],Ab false]))⟩
 ·have e2:o.call 145 [.agg [Al c_0,Al c_1]] []=Ar (Ab true):=(zM ho c_0 c_1 hK).trans (by rw [he2]);rcases bB ho n1 0 with ⟨e3,g3⟩|⟨e3,g3⟩
  ·obtain ⟨s1,n2,n3,l1,xF,hx0,hA,ha,hs,hlx,_⟩:=nA hK.1 ho he2 (i:=ja c_0 s) (by omega) (by omega);rw [<-hn1]at hx0;have hag:g_ c_0 n1=n2:=by unfold g_;rw [hx0]
   have e4:o.dm c_0 n1=some (.agg [.str s1,.int .i64 n2,.int .i64 n3,.lst l1]):=av ho (by omega) hx0;obtain ⟨n4,e5,g5⟩:=aB ho l;rcases cH ho n2 n4 with ⟨e6,g6⟩|⟨e6,g6⟩
   ·have hl:=newL ho c_0 c_1 l n1 hT _ rfl hl 0 (Int.le_refl _) (by omega);rw [show (0:Int).toNat=0 from rfl,List.drop_zero]at hl;cases hc:l.all (sw o)
    ·have e7:o.loop 8200 (kE l c_0 c_1 n1 0)=some (.ret,kY l c_0 c_1 n1):=hl.trans (by rw [hc];rfl);have Q:iC o c_0 s l=false:=by unfold iC;rw [hc];simp
     rw [Q];exact ⟨_,_,(ho.aq (by cbv at e7;cbv;repeat (simp only [e1,e2,e3,e4,e5,e6,e7];try cbv)):o.call 82 [.agg [Al c_0,Al c_1],As s,Al l] []=Ar (.tup [.agg [Al [],Al []],Ab false]))⟩
    ·have e7:o.loop 8200 (kE l c_0 c_1 n1 0)=some (.exit 0,kX l c_0 c_1 n1):=hl.trans (by rw [hc];rfl);have hRt:∀x∈l,Rt o 8 x:=fun x hx=>yt (hT x hx) (List.all_eq_true.1 hc x hx)
     obtain ⟨l2,hnw,e8⟩:∃z,z=gS [] (n1,0,cn n3 l)/\o.call 177 [.agg [Al c_0,Al c_1],Ai n1,Al l] []=some ⟨.agg [.arr (0,0) (192,3) none true,.emp],[],[Op z]⟩:=⟨_,rfl,CP ho c_0 c_1 n1 l s1 n2 n3 l1 (by omega) hx0 (by omega) (by omega) hRt⟩
     have Q:iC o c_0 s l=true:=by unfold iC;rw [<-hn1,hag,decide_eq_true (by omega),decide_eq_true (p:=n2=l.length) (by omega),hc];rfl
     rw [Q];exact ⟨_,_,(ho.aq (by cbv at e7;cbv;repeat (simp only [e1,e2,e3,e4,e5,e6,e7,e8];try cbv)):o.call 82 [.agg [Al c_0,Al c_1],As s,Al l] []=Ar (.tup [.agg [Al l2,Al []],Ab true]))⟩
   ·have Q:iC o c_0 s l=false:=by unfold iC;rw [<-hn1,hag,decide_eq_false (p:=n2=l.length) (by omega)];simp
    rw [Q];exact ⟨_,_,(ho.aq (by cbv;repeat (simp only [e1,e2,e3,e4,e5,e6];try cbv)):o.call 82 [.agg [Al c_0,Al c_1],As s,Al l] []=Ar (.tup [.agg [Al [],Al []],Ab false]))⟩
  ·have Q:iC o c_0 s l=false:=by unfold iC;rw [decide_eq_false (p:=0<=ja c_0 s) (by omega)];simp
   rw [Q];exact ⟨_,_,(ho.aq (by cbv;repeat (simp only [e1,e2,e3];try cbv)):o.call 82 [.agg [Al c_0,Al c_1],As s,Al l] []=Ar (.tup [.agg [Al [],Al []],Ab false]))⟩
theorem zO {c_0 c_1:List D} {s:ByteArray} {l l1:List D} {n:Int} {l2 l3:List D} (e1:o.call 150 [.sp [.lst c_0,.lst c_1] 0,As s,Al l] []=some ⟨.tup [.agg [.arr (0,0) (192,3) none true,.emp],Ab true],[],[Oo l1]⟩) (e2:o.loop 9100 (aZ c_0 c_1 n 0 l1 [])=some (.exit 0,kS l2 l3)):o.call 91 [.sp [.lst c_0,.lst c_1] 0,As s,Al l,Ai n] []=Ar (.tup [.agg [Ai 0,Ai 0,As ⟨#[]⟩,.emp],Ai 6]):=by
 refine ho.aq ?_
 cbv at e2
 cbv
 repeat' (first | (rw [e1];try cbv) | (rw [e2];try cbv))
theorem zP {c_0 c_1:List D} {s:ByteArray} {l:List D} {n:Int} (e1:o.call 150 [.sp [.lst c_0,.lst c_1] 0,As s,Al l] []=Ar (.tup [.agg [.emp,.emp],Ab false])):o.call 91 [.sp [.lst c_0,.lst c_1] 0,As s,Al l,Ai n] []=Ar (.tup [.agg [Ai 0,Ai 0,As ⟨#[]⟩,.emp],Ai 1]):=by
 refine ho.aq ?_
 cbv
 repeat' (first | (rw [e1];try cbv))
theorem zQ {c_0 c_1:List D} {s:ByteArray} {l l1:List D} {n n1 n2:Int} {s1:ByteArray} {l2 l3 l4:List D} (e1:o.call 150 [.sp [.lst c_0,.lst c_1] 0,As s,Al l] []=some ⟨.tup [.agg [.arr (0,0) (192,3) none true,.emp],Ab true],[],[Oo l1]⟩) (e2:o.loop 9100 (aZ c_0 c_1 n 0 l1 [])=some (.ret,kT n1 n2 s1 l2 l3 l4)):o.call 91 [.sp [.lst c_0,.lst c_1] 0,As s,Al l,Ai n] []=some ⟨.tup [.agg [Ai n1,Ai n2,As s1,.arr (0,0) (31,4) none false],Ai 0],[],[Oq l4]⟩:=by
 refine ho.aq ?_
 cbv at e2
 cbv
 repeat' (first | (rw [e1];try cbv) | (rw [e2];try cbv))
theorem zR {c_0 c_1:List D} {s:ByteArray} {l l1:List D} {n n1 n2:Int} {s1:ByteArray} {l2 l3 l4:List D} (e1:o.call 150 [.sp [.lst c_0,.lst c_1] 0,As s,Al l] []=some ⟨.tup [.agg [.arr (0,0) (192,3) none true,.emp],Ab true],[],[Oo l1]⟩) (e2:o.loop 9100 (aZ c_0 c_1 n 0 l1 [])=some (.ret,jb n1 n2 s1 l2 l3 l4)):o.call 91 [.sp [.lst c_0,.lst c_1] 0,As s,Al l,Ai n] []=some ⟨.tup [.agg [Ai n1,Ai n2,As s1,.arr (0,0) (31,4) none false],Ai 0],[],[Oq l4]⟩:=by
 refine ho.aq ?_
 cbv at e2
 cbv
 repeat' (first | (rw [e1];try cbv) | (rw [e2];try cbv))
theorem zS {c_0 c_1:List D} {s:ByteArray} {l l1:List D} {n n1 n2:Int} {s1:ByteArray} {l2 l3 l4:List D} (e1:o.call 150 [.sp [.lst c_0,.lst c_1] 0,As s,Al l] []=some ⟨.tup [.agg [.arr (0,0) (192,3) none true,.emp],Ab true],[],[Oo l1]⟩) (e2:o.loop 9100 (aZ c_0 c_1 n 0 l1 [])=some (.ret,kU n1 n2 s1 l2 l3 l4)):o.call 91 [.sp [.lst c_0,.lst c_1] 0,As s,Al l,Ai n] []=some ⟨.tup [.agg [Ai n1,Ai n2,As s1,.arr (0,0) (31,4) none false],Ai 0],[],[Oq l4]⟩:=by
 refine ho.aq ?_
 cbv at e2
 cbv
 repeat' (first | (rw [e1];try cbv) | (rw [e2];try cbv))
theorem zU {c_0 c_1:List D} {s:ByteArray} {l l1:List D} {n n1:Int} {l2 l3:List D} (e1:o.call 150 [.sp [.lst c_0,.lst c_1] 0,As s,Al l] []=some ⟨.tup [.agg [.arr (0,0) (192,3) none true,.emp],Ab true],[],[Oo l1]⟩) (e2:o.loop 9100 (aZ c_0 c_1 n 0 l1 [])=some (.ret,kV n1 l2 l3)):o.call 91 [.sp [.lst c_0,.lst c_1] 0,As s,Al l,Ai n] []=Ar (.tup [.agg [Ai 0,Ai 0,As ⟨#[]⟩,.emp],Ai n1]):=by
 refine ho.aq ?_
 cbv at e2
 cbv
 repeat' (first | (rw [e1];try cbv) | (rw [e2];try cbv))
theorem zV {c_0 c_1:List D} {s:ByteArray} {l l1:List D} {n n1:Int} {l2 l3:List D} (e1:o.call 150 [.sp [.lst c_0,.lst c_1] 0,As s,Al l] []=some ⟨.tup [.agg [.arr (0,0) (192,3) none true,.emp],Ab true],[],[Oo l1]⟩) (e2:o.loop 9100 (aZ c_0 c_1 n 0 l1 [])=some (.ret,jc n1 l2 l3)):o.call 91 [.sp [.lst c_0,.lst c_1] 0,As s,Al l,Ai n] []=Ar (.tup [.agg [Ai 0,Ai 0,As ⟨#[]⟩,.emp],Ai n1]):=by
 refine ho.aq ?_
 cbv at e2
 cbv
 repeat' (first | (rw [e1];try cbv) | (rw [e2];try cbv))
theorem zW {c_0 c_1:List D} {s:ByteArray} {l l1:List D} {n n1:Int} {l2 l3:List D} (e1:o.call 150 [.sp [.lst c_0,.lst c_1] 0,As s,Al l] []=some ⟨.tup [.agg [.arr (0,0) (192,3) none true,.emp],Ab true],[],[Oo l1]⟩) (e2:o.loop 9100 (aZ c_0 c_1 n 0 l1 [])=some (.ret,kW n1 l2 l3)):o.call 91 [.sp [.lst c_0,.lst c_1] 0,As s,Al l,Ai n] []=Ar (.tup [.agg [Ai 0,Ai 0,As ⟨#[]⟩,.emp],Ai n1]):=by
 refine ho.aq ?_
 cbv at e2
 cbv
 repeat' (first | (rw [e1];try cbv) | (rw [e2];try cbv))
theorem yj {c_0 c_1:List D} {k:Int} {l l1:List D} {n n1 n2:Int} {s1:ByteArray} {l2 l3 l4:List D} (e1:o.call 177 [.agg [Al c_0,Al c_1],Ai k,Al l] []=some ⟨.agg [.arr (0,0) (192,3) none true,.emp],[],[Op l1]⟩) (e2:o.loop 8400 (bh n c_0 c_1 0 l1 [])=some (.ret,eE n1 n2 s1 l2 l3 l4)):o.call 84 [.agg [Al c_0,Al c_1],Ai k,Al l,Ai n] []=Ar (.tup [At n1 n2 s1 l2,Ai 0]):=by
 refine ho.aq ?_
 cbv at e2
 cbv
 repeat' (first | (rw [e1];try cbv) | (rw [e2];try cbv))
theorem yp {c_0 c_1:List D} {k:Int} {l l1:List D} {n:Int} {l2 l3:List D} (e1:o.call 177 [.agg [Al c_0,Al c_1],Ai k,Al l] []=some ⟨.agg [.arr (0,0) (192,3) none true,.emp],[],[Op l1]⟩) (e2:o.loop 8400 (bh n c_0 c_1 0 l1 [])=some (.exit 0,j5 l2 l3)):o.call 84 [.agg [Al c_0,Al c_1],Ai k,Al l,Ai n] []=Ar (.tup [At 0 0 ⟨#[]⟩ [],Ai 6]):=by
 refine ho.aq ?_
 cbv at e2
 cbv
 repeat' (first | (rw [e1];try cbv) | (rw [e2];try cbv))
theorem yq {c_0 c_1:List D} {k:Int} {l l1:List D} {n n1:Int} {l2 l3:List D} (e1:o.call 177 [.agg [Al c_0,Al c_1],Ai k,Al l] []=some ⟨.agg [.arr (0,0) (192,3) none true,.emp],[],[Op l1]⟩) (e2:o.loop 8400 (bh n c_0 c_1 0 l1 [])=some (.ret,eF n1 l2 l3)):o.call 84 [.agg [Al c_0,Al c_1],Ai k,Al l,Ai n] []=Ar (.tup [At 0 0 ⟨#[]⟩ [],Ai n1]):=by
 refine ho.aq ?_
 cbv at e2
 cbv
 repeat' (first | (rw [e1];try cbv) | (rw [e2];try cbv))
theorem zX {n:Int} {c_0 c_1:List D} {s:ByteArray} {l:List D} {n1 n2:Int} {s1:ByteArray} {l1:List D} (e1:i_ n 0 100000=true) (e3:o.call 90 [.agg [Al c_0,Al c_1]] []=Ar (Ab true)) (e4:o.call 91 [.sp [.lst c_0,.lst c_1] 0,As s,Al l,Ai n] []=some ⟨.tup [.agg [Ai n1,Ai n2,As s1,.arr (0,0) (31,4) none false],Ai 0],[],[Oq l1]⟩):o.call 19 [.agg [Al c_0,Al c_1],As s,Al l,Ai n] []=some ⟨.tup [.agg [Ai n1,Ai n2,As s1,.arr (0,0) (31,4) none false],Ai 0],[],[Oq l1]⟩:=by
 refine ho.aq ?_;have f2:o.call 89 [Ai n,Ai 0,Ai 100000] []=Ar (Ab true):=(ax ho n 0 100000).trans (by rw [e1])
 cbv
 repeat' (first | (rw [e1];try cbv) | (rw [f2];try cbv) | (rw [e3];try cbv) | (rw [e4];try cbv))
theorem zY {n:Int} {c_0 c_1:List D} {s:ByteArray} {l:List D} (e1:i_ n 0 100000=false):o.call 19 [.agg [Al c_0,Al c_1],As s,Al l,Ai n] []=Ar (.tup [.agg [Ai 0,Ai 0,As ⟨#[]⟩,.emp],Ai 1]):=by
 refine ho.aq ?_;have f2:o.call 89 [Ai n,Ai 0,Ai 100000] []=Ar (Ab false):=(ax ho n 0 100000).trans (by rw [e1])
 cbv
 repeat' (first | (rw [e1];try cbv) | (rw [f2];try cbv))
theorem zZ {n:Int} {c_0 c_1:List D} {s:ByteArray} {l:List D} (e1:i_ n 0 100000=true) (e3:o.call 90 [.agg [Al c_0,Al c_1]] []=Ar (Ab false)):o.call 19 [.agg [Al c_0,Al c_1],As s,Al l,Ai n] []=Ar (.tup [.agg [Ai 0,Ai 0,As ⟨#[]⟩,.emp],Ai 1]):=by
 refine ho.aq ?_;have f2:o.call 89 [Ai n,Ai 0,Ai 100000] []=Ar (Ab true):=(ax ho n 0 100000).trans (by rw [e1])
 cbv
 repeat' (first | (rw [e1];try cbv) | (rw [f2];try cbv) | (rw [e3];try cbv))
theorem sx {n:Int} {c_0 c_1:List D} {s:ByteArray} {l:List D} {n1:Int} (e1:i_ n 0 100000=true) (e3:o.call 90 [.agg [Al c_0,Al c_1]] []=Ar (Ab true)) (e4:o.call 91 [.sp [.lst c_0,.lst c_1] 0,As s,Al l,Ai n] []=Ar (.tup [.agg [Ai 0,Ai 0,As ⟨#[]⟩,.emp],Ai n1])):o.call 19 [.agg [Al c_0,Al c_1],As s,Al l,Ai n] []=Ar (.tup [.agg [Ai 0,Ai 0,As ⟨#[]⟩,.emp],Ai n1]):=by
 refine ho.aq ?_;have f2:o.call 89 [Ai n,Ai 0,Ai 100000] []=Ar (Ab true):=(ax ho n 0 100000).trans (by rw [e1])
 cbv
 repeat' (first | (rw [e1];try cbv) | (rw [f2];try cbv) | (rw [e3];try cbv) | (rw [e4];try cbv))
theorem z5 {c_0 c_1:List D} {s:ByteArray} {l l1 l2:List D} {n n1 n2 n3:Int} {s1:ByteArray} {l3:List D} {n4:Int} (e1:o.call 82 [.agg [Al c_0,Al c_1],As s,Al l] []=Ar (.tup [.agg [Al l1,Al l2],Ab true])) (e2:i_ n 0 100000=true) (e4:o.call 85 [.agg [Al c_0,Al c_1],As s] []=Ar (Ai n1)) (e5:o.call 84 [.agg [Al c_0,Al c_1],Ai n1,Al l,Ai n] []=Ar (.tup [At n2 n3 s1 l3,Ai n4])):o.call 16 [.agg [Al c_0,Al c_1],As s,Al l,Ai n] []=Ar (.tup [At n2 n3 s1 l3,Ai n4]):=by
 refine ho.aq ?_;have f3:o.call 83 [Ai n,Ai 0,Ai 100000] []=Ar (Ab true):=(aH ho n 0 100000).trans (by rw [e2])
 cbv
 repeat' (first | (rw [e1];try cbv) | (rw [e2];try cbv) | (rw [f3];try cbv) | (rw [e4];try cbv) | (rw [e5];try cbv))
theorem nH {c_0 c_1:List D} {s:ByteArray} {l l1 l2:List D} {n:Int} (e1:o.call 82 [.agg [Al c_0,Al c_1],As s,Al l] []=Ar (.tup [.agg [Al l1,Al l2],Ab false])):o.call 16 [.agg [Al c_0,Al c_1],As s,Al l,Ai n] []=Ar (.tup [At 0 0 ⟨#[]⟩ [],Ai 1]):=by
 refine ho.aq ?_
 cbv
 repeat' (first | (rw [e1];try cbv))
theorem z6 {c_0 c_1:List D} {s:ByteArray} {l l1 l2:List D} {n:Int} (e1:o.call 82 [.agg [Al c_0,Al c_1],As s,Al l] []=Ar (.tup [.agg [Al l1,Al l2],Ab true])) (e2:i_ n 0 100000=false):o.call 16 [.agg [Al c_0,Al c_1],As s,Al l,Ai n] []=Ar (.tup [At 0 0 ⟨#[]⟩ [],Ai 1]):=by
 refine ho.aq ?_;have f3:o.call 83 [Ai n,Ai 0,Ai 100000] []=Ar (Ab false):=(aH ho n 0 100000).trans (by rw [e2])
 cbv
 repeat' (first | (rw [e1];try cbv) | (rw [e2];try cbv) | (rw [f3];try cbv))
end
end T2
namespace T2
open Go Go.Vi
set_option maxRecDepth 100000
def GI (o:aK) (r:Option bk) (c k n:Int) (s:ByteArray) (l:List D):Prop:=
 (Z4 k n s l/\r=some ⟨.tup [.agg [.d (.int .i64 0),.d (.int .i64 0),.d (.str ⟨#[]⟩),.emp],.d (.int .i64 c)],[],[]⟩)
 \/(c=0/\∃ys,aV ys=l/\Ot o 8 (.agg [.int .i64 k,.int .i64 n,.str s,.own (31,4) ys])/\r=some ⟨.tup [.agg [.d (.int .i64 k),.d (.int .i64 n),.d (.str s),.arr (0,0) (31,4) none false],.d (.int .i64 0)],[],[some (.orows (31,4) ys)]⟩)
def GS (r:Option bk) (c k n:Int) (s:ByteArray) (l:List D):Prop:=r=some ⟨.tup [.agg [.d (.int .i64 k),.d (.int .i64 n),.d (.str s),.d (.lst l)],.d (.int .i64 c)],[],[]⟩
section
variable {o:aK} (ho:aU cF bE o) {fns ps:List D} (hK:jY fns ps)
include ho hK
theorem DM (hB:ef o fns ps true=true) {n:Int} (h0:0<=n) (hn:n<=100000) (s:ByteArray) (l:List D) {m:Nat} (hT:∀x∈l,Tm m x) (hl:(l.length:Int)<=1048576) (Q:iC o fns s l=true):
  ∃c k m' s' l',GI o (o.call 91 [.sp [.lst fns,.lst ps] 0,As s,Al l,Ai n] []) c k m' s' l'/\GS (o.call 84 [.agg [Al fns,Al ps],Ai (ja fns s),Al l,Ai n] []) c k m' s' l':=by
 have hR2:=Q;unfold iC at hR2;have a0:=of_decide_eq_true (ba hR2).1;have aA:=of_decide_eq_true (ba (ba hR2).2).1;have aT:=(ba (ba hR2).2).2;have hRt:∀x∈l,Rt o 8 x:=fun x hx=>yt (hT x hx) (List.all_eq_true.1 aT x hx)
 have hAb:=oT fns s;have hlt:ja fns s<fns.length:=by omega
 obtain ⟨nm,a,q,xs,F,hg,hA,ha,hs,hlx,hF,_⟩:=nA hK.1 ho hB a0 hlt;have hag:a=l.length:=by rw [<-aA];unfold g_;rw [hg]
 have hH:=BA ⟨F,hF⟩;have hfH:fH fns (ja fns s,0,cn q l)=0:=by
  show (match fns[(ja fns s).toNat]? with | some (.agg [.str _,.int _ _,.int _ _,.lst xs])=>gt (Hi xs) 0 | _=>0)=_;rw [hg];exact hH.2.1
 have hI:Inv o fns [] (ja fns s,0,cn q l) []:=⟨by simp,fun g hg=>(by cases hg),⟨a0,hlt,nm,a,q,xs,hg,Int.le_refl _,(by show (0:Int)<_;omega),uG (by omega),oq hRt⟩,(by rw [hfH];simp [wz]),fun x hx=>(by cases hx)⟩
 obtain ⟨c,k,m',s',l',eI,eS⟩:=Fe ho hK hB hn 0 (Int.le_refl _) h0 [] _ [] hI;have nS:=CP ho fns ps (ja fns s) l nm a q xs a0 hg (by omega) (by omega) hRt;rcases Ff ho fns ps s l hK hB hT hl with ⟨hb,_⟩ | ⟨_,q',nm',a',xs',hg',nI⟩
 ·rw [Q]at hb;cases hb
 rw [hg]at hg';injection hg' with hg';injection hg' with hg';simp only [List.cons.injEq,D.int.injEq,D.str.injEq,D.lst.injEq,true_and,and_true]at hg';obtain ⟨rfl,rfl,rfl,rfl⟩:=hg';refine ⟨c,k,m',s',l',?_,?_⟩
 ·rcases eI with ⟨rfl,z,x,y,e⟩ | ⟨hc,z,x,y,e | e | e⟩ | ⟨rfl,x,y,ys,hf,hO,e | e | e⟩
  ·exact .inl ⟨z,zO ho nI e⟩
  ·exact .inl ⟨z,zU ho nI e⟩
  ·exact .inl ⟨z,zV ho nI e⟩
  ·exact .inl ⟨z,zW ho nI e⟩
  ·exact .inr ⟨rfl,ys,hf,hO,zQ ho nI e⟩
  ·exact .inr ⟨rfl,ys,hf,hO,zR ho nI e⟩
  ·exact .inr ⟨rfl,ys,hf,hO,zS ho nI e⟩
 ·rcases eS with ⟨rfl,⟨rfl,rfl,rfl,rfl⟩,x,y,e⟩ | ⟨hc,⟨rfl,rfl,rfl,rfl⟩,x,y,e⟩ | ⟨rfl,x,y,e⟩
  ·exact yp ho nS e
  ·exact yq ho nS e
  ·exact yj ho nS e
theorem BB (n:Int) (s:ByteArray) (l:List D) {m:Nat} (hT:∀x∈l,Tm m x) (hl:(l.length:Int)<=1048576):
  ∃c k m' s' l',GI o (o.call 19 [.agg [Al fns,Al ps],As s,Al l,Ai n] []) c k m' s' l'/\GS (o.call 16 [.agg [Al fns,Al ps],As s,Al l,Ai n] []) c k m' s' l':=by
 have hCI:=EP ho fns ps hK;rw [EO hK.1 ho]at hCI;obtain ⟨x,y,hVN⟩:=K8 ho fns ps s l hK hT hl;cases hr:i_ n 0 100000
 ·refine ⟨1,0,0,⟨#[]⟩,[],.inl ⟨⟨rfl,rfl,rfl,rfl⟩,zY ho hr⟩,?_⟩;cases hb:(ef o fns ps true&&iC o fns s l)
  ·rw [hb]at hVN;exact nH ho hVN
  ·rw [hb]at hVN;exact z6 ho hVN hr
 cases hB:ef o fns ps true
 ·rw [hB]at hCI hVN;exact ⟨1,0,0,⟨#[]⟩,[],.inl ⟨⟨rfl,rfl,rfl,rfl⟩,zZ ho hr hCI⟩,nH ho hVN⟩
 ·rw [hB]at hCI hVN;cases Q:iC o fns s l
  ·rw [Q]at hVN;rcases Ff ho fns ps s l hK hB hT hl with ⟨_,nI⟩ | ⟨hb,_⟩
   ·exact ⟨1,0,0,⟨#[]⟩,[],.inl ⟨⟨rfl,rfl,rfl,rfl⟩,sx ho hr hCI (zP ho nI)⟩,nH ho hVN⟩
   ·rw [Q]at hb;cases hb
  ·rw [Q]at hVN;have hn:=cT hr;obtain ⟨c,k,m',s',l',eI,eS⟩:=DM ho hK hB hn.1 hn.2 s l hT hl Q;have hat:=ru ho fns ps s hK.1 hK.2.1;refine ⟨c,k,m',s',l',?_,z5 ho hVN hr hat eS⟩;rcases eI with ⟨z,e⟩ | ⟨rfl,ys,hf,hO,e⟩
   ·exact .inl ⟨z,sx ho hr hCI e⟩
   ·exact .inr ⟨rfl,ys,hf,hO,zX ho hr hCI e⟩
end
end T2
