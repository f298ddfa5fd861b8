import Derived.Test.YtfnagkpidcdocaaGreatM40
set_option linter.all false
namespace T2
open Go Go.Vi
set_option maxRecDepth 100000
set_option maxHeartbeats 4000000
noncomputable def qt (o:aJ) (t:D):Bool:=bN t lf || qm o t
noncomputable def nY (o:aJ) (fns:List D) (F p:Int) (S:List D):Bool:=iK F 0 ((fns.length:Int)-1)&&match fns[F.toNat]? with
 | some (.agg [.str _,.int _ _,.int _ sl,.lst xs])=>iK p 0 ((xs.length:Int)-1)&&(decide ((S.length:Int)=sl)&&S.all (qt o))
 | _=>false
theorem CJ {o:aJ} {fns:List D} {F p a sl:Int} {S xs:List D} {nm:ByteArray} (h:fns[F.toNat]? =some (.agg [.str nm,.int .i64 a,.int .i64 sl,.lst xs])):nY o fns F p S=(iK F 0 ((fns.length:Int)-1)&&(iK p 0 ((xs.length:Int)-1)&&(decide ((S.length:Int)=sl)&&S.all (qt o)))):=by unfold nY;rw[h]
def qO (fns:List D) (F p G:Int):Bool:=decide (p≠0)&&match fns[F.toNat]? with
 | some (.agg [.str _,.int _ _,.int _ _,.lst xs])=>(match xs[(p-1).toNat]? with | some (.agg [.int _ op,.int _ _,.str s,.int _ _])=>decide (op=8)&&decide (jJ fns s=G) | _=>false)
 | _=>false
theorem EZ {fns:List D} {F p G a sl op N to:Int} {xs:List D} {nm s:ByteArray} (h:fns[F.toNat]? =some (.agg [.str nm,.int .i64 a,.int .i64 sl,.lst xs])) (hx:xs[(p-1).toNat]? =some (.agg [.int .i64 op,.int .i64 N,.str s,.int .i64 to])):qO fns F p G=(decide (p≠0)&&(decide (op=8)&&decide (jJ fns s=G))):=by unfold qO;rw[h];simp only[hx]
noncomputable def wW (o:aJ) (fns:List D):List D->Option Int
 | []=>some 0
 | .agg [.int _ F,.int _ p,.lst S]::l=>if nY o fns F p S&&(match l with | .agg [.int _ G,.int _ _,.lst _]::_=>qO fns F p G | _=>true)then (wW o fns l).map λs=>fH o fns (F,p,S)-(if l.isEmpty then 0 else 1)+s else none
 | _::_=>none
def Kq (m:Nat) (x:D):Prop:=∃F p S,x= .agg [.int .i64 F,.int .i64 p,.lst S]/\(S.length:Int)<=1048576/\∀t∈S,Tm m t
def Iy (m:Nat) (fs st:List D):Prop:=(∀x∈fs,Kq m x)/\(fs.length:Int)<=1048576/\(∀t∈st,Tm m t)/\(st.length:Int)<=1048576
noncomputable def Em (o:aJ) (fns fs st:List D):Bool:=iK fs.length 1 40&&(st.all (qm o)&&decide (wW o fns fs=some (st.length:Int)))
theorem E_ {fns:List D} {s:ByteArray} {G:Int} (h:jJ fns s=G) (h0:0<=G):Bg fns s G=true:=by
 have hb:=En (P:=Bg fns s) (n:=(fns.length:Int)) (by omega) 0 (Int.le_refl _) (by omega);unfold jJ at h;rw[h]at hb;rcases hb with hb | hb
 ·omega
 ·exact hb.2.2
section
variable {o:aJ} (ho:aR cF bB o)
include ho
def qf (c_0 c_1:List D) (F p:Int) (S:List D) (n7 i:Int):St:=⟨E 120 [(0,.sp [.lst c_0,.lst c_1] 0),(2,.nilp),(4,.sp [.int .i64 F,.int .i64 p,.lst S] 0),(53,Al S),(54,Ai n7),(55,Ai i)],O 120 []⟩
def nT (c_0 c_1:List D) (F p:Int) (S:List D):St:=⟨E 120 [(0,.sp [.lst c_0,.lst c_1] 0),(2,.nilp),(4,.sp [.int .i64 F,.int .i64 p,.lst S] 0)],O 120 []⟩
def nU (c_0 c_1:List D) (F p:Int) (S:List D):St:=⟨E 120 [(0,.sp [.lst c_0,.lst c_1] 0),(2,.nilp),(4,.sp [.int .i64 F,.int .i64 p,.lst S] 0),(6,Ab false)],O 120 []⟩
def iT (c_0 c_1:List D) (G q:Int) (T:List D) (F p:Int) (S:List D) (n7 i:Int):St:=⟨E 120 [(0,.sp [.lst c_0,.lst c_1] 0),(2,.sp [.int .i64 G,.int .i64 q,.lst T] 0),(4,.sp [.int .i64 F,.int .i64 p,.lst S] 0),(53,Al S),(54,Ai n7),(55,Ai i)],O 120 []⟩
def jl (c_0 c_1:List D) (G q:Int) (T:List D) (F p:Int) (S:List D):St:=⟨E 120 [(0,.sp [.lst c_0,.lst c_1] 0),(2,.sp [.int .i64 G,.int .i64 q,.lst T] 0),(4,.sp [.int .i64 F,.int .i64 p,.lst S] 0)],O 120 []⟩
def jm (c_0 c_1:List D) (G q:Int) (T:List D) (F p:Int) (S:List D):St:=⟨E 120 [(0,.sp [.lst c_0,.lst c_1] 0),(2,.sp [.int .i64 G,.int .i64 q,.lst T] 0),(4,.sp [.int .i64 F,.int .i64 p,.lst S] 0),(6,Ab false)],O 120 []⟩
def gA (z:Bool) (g:Int) (c_0 c_1:List D) (F p:Int) (S:List D) (i:Int):St:=⟨E 124 [(2,Ab z),(3,Ai g),(4,.sp [.lst c_0,.lst c_1] 0),(5,.sp [.int .i64 F,.int .i64 p,.lst S] 0),(10,Ai i)],O 124 []⟩
def ij (z:Bool) (g:Int) (c_0 c_1:List D) (F p:Int) (S:List D):St:=⟨E 124 [(2,Ab z),(3,Ai g),(4,.sp [.lst c_0,.lst c_1] 0),(5,.sp [.int .i64 F,.int .i64 p,.lst S] 0)],O 124 []⟩
def iq (z:Bool) (g:Int) (c_0 c_1:List D) (F p:Int) (S:List D):St:=⟨E 124 [(2,Ab z),(3,Ai g),(4,.sp [.lst c_0,.lst c_1] 0),(5,.sp [.int .i64 F,.int .i64 p,.lst S] 0),(8,Ai 0),(9,Ab false)],O 124 []⟩
theorem RL (c_0 c_1:List D) (F p:Int) (S:List D) {m:Nat} (hT:∀t∈S,Tm m t) (n7:Int) (hn:(S.length:Int)=n7) (hl:n7<=1048576):∀i:Int,0<=i->i<=(n7:Int)->o.loop 19100 (qf c_0 c_1 F p S n7 i)=some (if (S.drop i.toNat).all (qt o)then (.exit 0,nT c_0 c_1 F p S)else (.ret,nU c_0 c_1 F p S)):=by
 refine bV (P:=λi=>o.loop 19100 (qf c_0 c_1 F p S n7 i)=some (if (S.drop i.toNat).all (qt o)then (.exit 0,nT c_0 c_1 F p S)else (.ret,nU c_0 c_1 F p S))) (n7:Int) ?_;intro i h0 h1 ih;try dsimp only at ih |-
 refine ho.dO λR Q=> ?_
 conv=>lhs;cbv
 rcases aZ ho i n7 with ⟨e1,g1⟩|⟨e1,g1⟩<;>(conv=>lhs;rw[e1];cbv)
 ·subst Q;rw[bf hn (by omega)];rfl
 ·obtain ⟨x,hx0,hx1,hx2⟩:=ax hn h0 (by omega);obtain ⟨m1,n1,n2,s1,l1,hd1,rfl,hs,hll,ht⟩:=bP (hT _ hx2);have e2:=ak ho h0 hx0;conv=>lhs;rw[e2];cbv
  cases he3:bN (.agg [.int .i64 n1,.int .i64 n2,.str s1,.lst l1]) lf<;>(conv=>lhs;rw[vo ho _ _ _ _ (hT _ hx2),he3];cbv)
  ·cases he4:qm o (.agg [.int .i64 n1,.int .i64 n2,.str s1,.lst l1])<;>(conv=>lhs;rw[mr ho _ _ _ _ (hT _ hx2),he4];cbv)
   ·subst Q;rw[hx1,List.all_cons,show qt o _=false by unfold qt;simp[he3,he4]];rfl
   ·obtain ⟨n3,e5,g5⟩:=aW ho i 1;conv=>lhs;rw[e5];cbv
    subst Q;rw[hx1,List.all_cons,show qt o _=true by unfold qt;simp[he3,he4],Bool.true_and];rw[show n3=i+1 by omega];exact ih (by omega)
  ·obtain ⟨n3,e4,g4⟩:=aW ho i 1;conv=>lhs;rw[e4];cbv
   subst Q;rw[hx1,List.all_cons,show qt o _=true by unfold qt;simp[he3],Bool.true_and];rw[show n3=i+1 by omega];exact ih (by omega)
theorem RM (c_0 c_1:List D) (G q:Int) (T:List D) (F p:Int) (S:List D) {m:Nat} (hT:∀t∈S,Tm m t) (n7:Int) (hn:(S.length:Int)=n7) (hl:n7<=1048576):∀i:Int,0<=i->i<=(n7:Int)->o.loop 19100 (iT c_0 c_1 G q T F p S n7 i)=some (if (S.drop i.toNat).all (qt o)then (.exit 0,jl c_0 c_1 G q T F p S)else (.ret,jm c_0 c_1 G q T F p S)):=by
 refine bV (P:=λi=>o.loop 19100 (iT c_0 c_1 G q T F p S n7 i)=some (if (S.drop i.toNat).all (qt o)then (.exit 0,jl c_0 c_1 G q T F p S)else (.ret,jm c_0 c_1 G q T F p S))) (n7:Int) ?_;intro i h0 h1 ih;try dsimp only at ih |-
 refine ho.dO λR Q=> ?_
 conv=>lhs;cbv
 rcases aZ ho i n7 with ⟨e1,g1⟩|⟨e1,g1⟩<;>(conv=>lhs;rw[e1];cbv)
 ·subst Q;rw[bf hn (by omega)];rfl
 ·obtain ⟨x,hx0,hx1,hx2⟩:=ax hn h0 (by omega);obtain ⟨m1,n1,n2,s1,l1,hd1,rfl,hs,hll,ht⟩:=bP (hT _ hx2);have e2:=ak ho h0 hx0;conv=>lhs;rw[e2];cbv
  cases he3:bN (.agg [.int .i64 n1,.int .i64 n2,.str s1,.lst l1]) lf<;>(conv=>lhs;rw[vo ho _ _ _ _ (hT _ hx2),he3];cbv)
  ·cases he4:qm o (.agg [.int .i64 n1,.int .i64 n2,.str s1,.lst l1])<;>(conv=>lhs;rw[mr ho _ _ _ _ (hT _ hx2),he4];cbv)
   ·subst Q;rw[hx1,List.all_cons,show qt o _=false by unfold qt;simp[he3,he4]];rfl
   ·obtain ⟨n3,e5,g5⟩:=aW ho i 1;conv=>lhs;rw[e5];cbv
    subst Q;rw[hx1,List.all_cons,show qt o _=true by unfold qt;simp[he3,he4],Bool.true_and];rw[show n3=i+1 by omega];exact ih (by omega)
  ·obtain ⟨n3,e4,g4⟩:=aW ho i 1;conv=>lhs;rw[e4];cbv
   subst Q;rw[hx1,List.all_cons,show qt o _=true by unfold qt;simp[he3],Bool.true_and];rw[show n3=i+1 by omega];exact ih (by omega)
theorem RN (z:Bool) (g:Int) (c_0 c_1:List D) (F p:Int) (S:List D) {m:Nat} (hT:∀t∈S,Tm m t) (n7:Int) (hn:(S.length:Int)=n7) (hl:n7<=1048576):∀i:Int,0<=i->i<=(n7:Int)->o.loop 14600 (gA z g c_0 c_1 F p S i)=some (if (S.drop i.toNat).all (qt o)then (.exit 0,ij z g c_0 c_1 F p S)else (.ret,iq z g c_0 c_1 F p S)):=by
 refine bV (P:=λi=>o.loop 14600 (gA z g c_0 c_1 F p S i)=some (if (S.drop i.toNat).all (qt o)then (.exit 0,ij z g c_0 c_1 F p S)else (.ret,iq z g c_0 c_1 F p S))) (n7:Int) ?_;intro i h0 h1 ih;try dsimp only at ih |-
 refine ho.dO λR Q=> ?_
 obtain ⟨n1,hn1,e1⟩:∃n,n=n7/\o.len S=n:=⟨_,rfl,(iI ho _).trans hn⟩
 conv=>lhs;cbv;rw[e1];cbv
 rcases aZ ho i n1 with ⟨e2,g2⟩|⟨e2,g2⟩<;>(conv=>lhs;rw[e2];cbv)
 ·subst Q;rw[bf hn (by omega)];rfl
 ·obtain ⟨x,hx0,hx1,hx2⟩:=ax hn h0 (by omega);obtain ⟨m1,n2,n3,s1,l1,hd1,rfl,hs,hll,ht⟩:=bP (hT _ hx2);have e3:=ak ho h0 hx0;conv=>lhs;rw[e3];cbv
  cases he4:qm o (.agg [.int .i64 n2,.int .i64 n3,.str s1,.lst l1])<;>(conv=>lhs;rw[oI ho _ _ _ _ (hT _ hx2),he4];cbv)
  ·conv=>lhs;(try (rw[e3];cbv))
   cases he5:bN (.agg [.int .i64 n2,.int .i64 n3,.str s1,.lst l1]) lf<;>(conv=>lhs;rw[z7 ho,he5];cbv)
   ·subst Q;rw[hx1,List.all_cons,show qt o _=false by unfold qt;simp[he4,he5]];rfl
   ·obtain ⟨n4,e6,g6⟩:=aW ho i 1;conv=>lhs;rw[e6];cbv
    subst Q;rw[hx1,List.all_cons,show qt o _=true by unfold qt;simp[he4,he5],Bool.true_and];rw[show n4=i+1 by omega];exact ih (by omega)
  ·obtain ⟨n4,e5,g5⟩:=aW ho i 1;conv=>lhs;rw[e5];cbv
   subst Q;rw[hx1,List.all_cons,show qt o _=true by unfold qt;simp[he4],Bool.true_and];rw[show n4=i+1 by omega];exact ih (by omega)
theorem Lp {fns xs:List D} {s t:ByteArray} {G a b:Int} (hA:jJ fns t=G) (h0:0<=G) (hx:fns[G.toNat]? =some (.agg [.str t,.int .i64 a,.int .i64 b,.lst xs])):o.gM .eql s t=decide (jJ fns s=G):=by
 rcases aP ho s t with ⟨e,g⟩ | ⟨e,g⟩
 ·rw[e,decide_eq_false (p:=jJ fns s=G)];intro h;have:=E_ h h0;rw[Et hx]at this;exact g (of_decide_eq_true this).symm
 ·subst g;rw[e,hA];simp
theorem xC (c_0 c_1:List D) (hK:f8 c_0 c_1) (hB:cJ o c_0 c_1 true=true) (F p:Int) (S:List D) {m:Nat} (hT:∀t∈S,Tm m t) (hl:(S.length:Int)<=1048576):o.call 191 [.sp [.lst c_0,.lst c_1] 0,.agg [Ai F,Ai p,Al S],.nilp] []=Ar (Ab (nY o c_0 F p S)):=by
 have hCb:=hK.2.1;refine ho.aC λR Q=> ?_
 obtain ⟨n1,e1,g1⟩:=ay ho c_0;obtain ⟨n2,e2,g2⟩:=aO ho n1 1;conv=>lhs;cbv;rw[e1];cbv;rw[e2];cbv
 rcases aN F 0 n2 with ⟨e3,g3⟩|⟨e3,g3⟩
 ·conv=>lhs;rw[av ho,e3];cbv
  subst Q;unfold nY;rw[show (c_0.length:Int)-1=n2 by omega,e3];try rfl
 ·have hq3:=bH e3;obtain ⟨s1,n3,n4,l1,hx0,hA,ha,hsl,hlx,⟨hF1,hF2,hF3,hF4,hF5,hF6⟩,hins⟩:=kK hK.1 ho hB (i:=F) (by omega) (by omega);have hG:=CJ (o:=o) (p:=p) (S:=S) hx0;have e5:o.dD c_0 F=some (.agg [.str s1,.int .i64 n3,.int .i64 n4,.lst l1]):=ak ho (by omega) hx0;obtain ⟨n5,e6,g6⟩:=ay ho l1;obtain ⟨n6,e7,g7⟩:=aO ho n5 1;conv=>lhs;rw[av ho,e3];cbv;rw[e5];cbv;rw[e6];cbv;rw[e7];cbv
  rcases aN p 0 n6 with ⟨e8,g8⟩|⟨e8,g8⟩
  ·conv=>lhs;rw[av ho,e8];cbv
   subst Q;rw[hG,show (c_0.length:Int)-1=n2 by omega,e3,show (l1.length:Int)-1=n6 by omega,e8];try rfl
  ·obtain ⟨n7,e10,g10⟩:=ay ho S;conv=>lhs;rw[av ho,e8];cbv;rw[e10];cbv;(try (rw[e5];cbv))
   rcases cE ho n7 n4 with ⟨e11,g11⟩|⟨e11,g11⟩<;>(conv=>lhs;rw[e11];cbv)
   ·conv=>lhs;(try (rw[e10];cbv))
    have hl2:=RL ho c_0 c_1 F p S hT n7 g10.symm (by omega) 0 (Int.le_refl _) (by omega);rw[show (0:Int).toNat=0 from rfl,List.drop_zero]at hl2;conv at hl2=>lhs;cbv
    cases hc:S.all (qt o)<;>(conv=>lhs;rw[hl2,hc];cbv)
    all_goals
     subst Q;rw[hG,show (c_0.length:Int)-1=n2 by omega,e3,show (l1.length:Int)-1=n6 by omega,e8,decide_eq_true (p:=(S.length:Int)=n4) (by omega),hc];try rfl
   ·subst Q;rw[hG,show (c_0.length:Int)-1=n2 by omega,e3,show (l1.length:Int)-1=n6 by omega,e8,decide_eq_false (p:=(S.length:Int)=n4) (by omega)];try rfl
theorem Kr {fns ps:List D} (hK:f8 fns ps) (hB:cJ o fns ps true=true) {F p G a sl:Int} {xs:List D} {nm:ByteArray} (hx:fns[F.toNat]? =some (.agg [.str nm,.int .i64 a,.int .i64 sl,.lst xs])) (hp:0<=p/\p<xs.length)
  (hins:∀k:Int,0<=k->k<xs.length->∃op N s to,xs[k.toNat]? =some (.agg [.int .i64 op,.int .i64 N,.str s,.int .i64 to])/\aQ o fns ps sl xs.length (k+1) op N s to=true) (h:qO fns F p G=true):
  ∃op N s to,xs[(p-1).toNat]? =some (.agg [.int .i64 op,.int .i64 N,.str s,.int .i64 to])/\p≠0/\op=8/\jJ fns s=G/\0<=G/\G<fns.length:=by
 have h0:p≠0:=by intro e;unfold qO at h;rw[decide_eq_false (by omega)]at h;cases h
 obtain ⟨op,N,s,to,hi,hq⟩:=hins (p-1) (by omega) (by omega);rw[EZ hx hi]at h;have h8:=of_decide_eq_true (ba (ba h).2).1;have hs:=of_decide_eq_true (ba (ba h).2).2;have hb:=(gP hq).2.2.2.2 h8;have hb2:=ou fns s;exact ⟨op,N,s,to,hi,h0,h8,hs,by omega,by omega⟩
theorem xD (c_0 c_1:List D) (hK:f8 c_0 c_1) (hB:cJ o c_0 c_1 true=true) (F p:Int) (S:List D) {m:Nat} (hT:∀t∈S,Tm m t) (hl:(S.length:Int)<=1048576) (G q:Int) (T:List D):o.call 191 [.sp [.lst c_0,.lst c_1] 0,.agg [Ai F,Ai p,Al S],.sp [.int .i64 G,.int .i64 q,.lst T] 0] []=Ar (Ab (nY o c_0 F p S&&qO c_0 F p G)):=by
 have hCb:=hK.2.1;obtain ⟨n1,e1,g1⟩:=ay ho c_0;obtain ⟨n2,e2⟩:=kx (o.ar .sub .i64 n1 1);try have g2:n2=n1-1:=e2.symm.trans (dB ho (by omega) (by omega))
 cases e3:iK F 0 n2
 ·have g3:=qb e3;have e4:o.call 89 [Ai F,Ai 0,Ai n2] []=Ar (Ab false):=(av ho F 0 n2).trans (by rw[e3]);refine (ho.au (by cbv;repeat (simp only[e1,e2,e3,e4];try cbv)):_=Ar (Ab false)).trans ?_;unfold nY;rw[show (c_0.length:Int)-1=n2 by omega,e3];rfl
 ·have g3:=bH e3;have e4:o.call 89 [Ai F,Ai 0,Ai n2] []=Ar (Ab true):=(av ho F 0 n2).trans (by rw[e3]);have hq3:=bH e3;obtain ⟨s1,n3,n4,l1,hx0,hA,ha,hsl,hlx,⟨hF1,hF2,hF3,hF4,hF5,hF6⟩,hins⟩:=kK hK.1 ho hB (i:=F) (by omega) (by omega);have hG:=CJ (o:=o) (p:=p) (S:=S) hx0;have e5:o.dD c_0 F=some (.agg [.str s1,.int .i64 n3,.int .i64 n4,.lst l1]):=ak ho (by omega) hx0;obtain ⟨n5,e6,g6⟩:=ay ho l1;obtain ⟨n6,e7⟩:=kx (o.ar .sub .i64 n5 1);try have g7:n6=n5-1:=e7.symm.trans (dB ho (by omega) (by omega))
  cases e8:iK p 0 n6
  ·have g8:=qb e8;have e9:o.call 89 [Ai p,Ai 0,Ai n6] []=Ar (Ab false):=(av ho p 0 n6).trans (by rw[e8]);refine (ho.au (by cbv;repeat (simp only[e1,e2,e3,e4,e5,e6,e7,e8,e9];try cbv)):_=Ar (Ab false)).trans ?_;rw[hG,show (c_0.length:Int)-1=n2 by omega,e3,show (l1.length:Int)-1=n6 by omega,e8];rfl
  ·have g8:=bH e8;have e9:o.call 89 [Ai p,Ai 0,Ai n6] []=Ar (Ab true):=(av ho p 0 n6).trans (by rw[e8]);obtain ⟨n7,e10,g10⟩:=ay ho S;rcases cE ho n7 n4 with ⟨e11,g11⟩|⟨e11,g11⟩
   ·have hl2:=RM ho c_0 c_1 G q T F p S hT n7 g10.symm (by omega) 0 (Int.le_refl _) (by omega);rw[show (0:Int).toNat=0 from rfl,List.drop_zero]at hl2;cases hc:S.all (qt o)
    ·have e12:o.loop 19100 (iT c_0 c_1 G q T F p S n7 0)=some (.ret,jm c_0 c_1 G q T F p S):=hl2.trans (by rw[hc];rfl);refine (ho.au (by cbv at e12;cbv;repeat (simp only[e1,e2,e3,e4,e5,e6,e7,e8,e9,e10,e11,e12];try cbv)):_=Ar (Ab false)).trans ?_;rw[hG,show (c_0.length:Int)-1=n2 by omega,e3,show (l1.length:Int)-1=n6 by omega,e8,decide_eq_true (p:=(S.length:Int)=n4) (by omega),hc];rfl
    ·have e12:o.loop 19100 (iT c_0 c_1 G q T F p S n7 0)=some (.exit 0,jl c_0 c_1 G q T F p S):=hl2.trans (by rw[hc];rfl);rcases aj ho p 0 with ⟨e13,g13⟩|⟨e13,g13⟩
     ·cases e14:iK G 0 n2
      ·have g14:=qb e14;have e15:o.call 89 [Ai G,Ai 0,Ai n2] []=Ar (Ab false):=(av ho G 0 n2).trans (by rw[e14]);have hq8:=bH e8;refine (ho.au (by cbv at e12;cbv;repeat (simp only[e1,e2,e3,e4,e5,e6,e7,e8,e9,e10,e11,e12,e13,e14,e15];try cbv)):_=Ar (Ab false)).trans ?_;rw[hG,show (c_0.length:Int)-1=n2 by omega,e3,show (l1.length:Int)-1=n6 by omega,e8,decide_eq_true (p:=(S.length:Int)=n4) (by omega),hc,show qO c_0 F p G=false from Bool.eq_false_iff.2 λh=>by obtain ⟨_,_,_,_,_,_,_,_,hq1,hq2⟩:=Kr ho hK hB hx0 (by omega) hins h;rw[dr ⟨hq1,by omega⟩]at e14;cases e14];rfl
      ·have g14:=bH e14;have e15:o.call 89 [Ai G,Ai 0,Ai n2] []=Ar (Ab true):=(av ho G 0 n2).trans (by rw[e14]);obtain ⟨n8,e16⟩:=kx (o.ar .sub .i64 p 1);try have g16:n8=p-1:=e16.symm.trans (dB ho (by omega) (by omega))
       have hq8:=bH e8;obtain ⟨n9,n10,s2,n11,hi,hp⟩:=hins n8 (by omega) (by omega);have hC2:=EZ (p:=p) (G:=G) hx0 (by rw[show p-1=n8 by omega];exact hi);have e17:o.dD l1 n8=some (.agg [.int .i64 n9,.int .i64 n10,.str s2,.int .i64 n11]):=ak ho (by omega) hi;rcases aj ho n9 8 with ⟨e18,g18⟩|⟨e18,g18⟩
       ·refine (ho.au (by cbv at e12;cbv;repeat (simp only[e1,e2,e3,e4,e5,e6,e7,e8,e9,e10,e11,e12,e13,e14,e15,e16,e17,e18];try cbv)):_=Ar (Ab false)).trans ?_;rw[hG,show (c_0.length:Int)-1=n2 by omega,e3,show (l1.length:Int)-1=n6 by omega,e8,decide_eq_true (p:=(S.length:Int)=n4) (by omega),hc,hC2,decide_eq_true (p:=p≠0) (by omega),decide_eq_false (p:=n9=8) (by omega)];rfl
       ·have hq14:=bH e14;obtain ⟨s3,n12,n13,l2,hy0,hyA,_⟩:=kK hK.1 ho hB (i:=G) (by omega) (by omega);have e19:o.dD c_0 G=some (.agg [.str s3,.int .i64 n12,.int .i64 n13,.lst l2]):=ak ho (by omega) hy0;obtain ⟨b7,hb7,e20⟩:∃b,decide (jJ c_0 s2=G)=b/\o.gM .eql s2 s3=b:=⟨_,rfl,Lp ho hyA (by omega) hy0⟩
        refine (ho.au (by cbv at e12;cbv;repeat (simp only[e1,e2,e3,e4,e5,e6,e7,e8,e9,e10,e11,e12,e13,e14,e15,e16,e17,e18,e19,e20];try cbv)):_=Ar (Ab b7)).trans ?_;rw[hG,show (c_0.length:Int)-1=n2 by omega,e3,show (l1.length:Int)-1=n6 by omega,e8,decide_eq_true (p:=(S.length:Int)=n4) (by omega),hc,hC2,decide_eq_true (p:=p≠0) (by omega),decide_eq_true (p:=n9=8) (by omega),hb7];rfl
     ·refine (ho.au (by cbv at e12;cbv;repeat (simp only[e1,e2,e3,e4,e5,e6,e7,e8,e9,e10,e11,e12,e13];try cbv)):_=Ar (Ab false)).trans ?_;rw[hG,show (c_0.length:Int)-1=n2 by omega,e3,show (l1.length:Int)-1=n6 by omega,e8,decide_eq_true (p:=(S.length:Int)=n4) (by omega),hc,show qO c_0 F p G=false by unfold qO;rw[decide_eq_false (by omega)];rfl];rfl
   ·refine (ho.au (by cbv;repeat (simp only[e1,e2,e3,e4,e5,e6,e7,e8,e9,e10,e11];try cbv)):_=Ar (Ab false)).trans ?_;rw[hG,show (c_0.length:Int)-1=n2 by omega,e3,show (l1.length:Int)-1=n6 by omega,e8,decide_eq_false (p:=(S.length:Int)=n4) (by omega)];rfl
omit ho in
theorem Fa {fns S xs:List D} {F p a sl:Int} {nm:ByteArray} (h:fns[F.toNat]? =some (.agg [.str nm,.int .i64 a,.int .i64 sl,.lst xs])):fH o fns (F,p,S)=gt (um o xs) p:=by unfold fH;simp only[h]
theorem CK (a b:Int):o.cmp .eql a b=decide (a=b):=by rcases aj ho a b with ⟨e,g⟩ | ⟨e,g⟩<;>rw[e]<;>simp[g]
theorem tL (
           c_0 c_1:List D) (hK:f8 c_0 c_1) (hB:cJ o c_0 c_1 true=true) (F p:Int) (S:List D) {m:Nat} (hT:∀t∈S,Tm m t) (hl:(S.length:Int)<=1048576) (z:Bool) (g:Int):∃h,o.call 146 [.agg [Al c_0,Al c_1],.agg [Ai F,Ai p,Al S],Ab z,Ai g] []=Ar (.tup [Ai h,Ab (nY o c_0 F p S&&(z || qO c_0 F p g))])/\((nY o c_0 F p S&&(z || qO c_0 F p g))=true->h=fH o c_0 (F,p,S)-(if z then 0 else 1)):=by
 have hCb:=hK.2.1;obtain ⟨n1,e1,g1⟩:=ay ho c_0;obtain ⟨n2,e2⟩:=kx (o.ar .sub .i64 n1 1);try have g2:n2=n1-1:=e2.symm.trans (dB ho (by omega) (by omega))
 cases e3:iK F 0 n2
 ·have g3:=qb e3;have e4:o.call 83 [Ai F,Ai 0,Ai n2] []=Ar (Ab false):=(aF ho F 0 n2).trans (by rw[e3]);have Q:(nY o c_0 F p S&&(z || qO c_0 F p g))=false:=by
    unfold nY;rw[show (c_0.length:Int)-1=n2 by omega,e3];rfl
  rw[Q];exact ⟨_,(ho.au (by cbv;repeat (simp only[e1,e2,e3,e4];try cbv)):_=Ar (.tup [Ai 0,Ab false])),λh=>by cases h⟩
 ·have g3:=bH e3;have e4:o.call 83 [Ai F,Ai 0,Ai n2] []=Ar (Ab true):=(aF ho F 0 n2).trans (by rw[e3]);have hq3:=bH e3;obtain ⟨s1,n3,n4,l1,hx0,hA,ha,hsl,hlx,⟨hF1,hF2,hF3,hF4,hF5,hF6⟩,hins⟩:=kK hK.1 ho hB (i:=F) (by omega) (by omega);have hG:=CJ (o:=o) (p:=p) (S:=S) hx0;have e5:o.dD c_0 F=some (.agg [.str s1,.int .i64 n3,.int .i64 n4,.lst l1]):=ak ho (by omega) hx0;obtain ⟨n5,e6,g6⟩:=ay ho l1;obtain ⟨n6,e7⟩:=kx (o.ar .sub .i64 n5 1);try have g7:n6=n5-1:=e7.symm.trans (dB ho (by omega) (by omega))
  cases e8:iK p 0 n6
  ·have g8:=qb e8;have e9:o.call 83 [Ai p,Ai 0,Ai n6] []=Ar (Ab false):=(aF ho p 0 n6).trans (by rw[e8]);have Q:(nY o c_0 F p S&&(z || qO c_0 F p g))=false:=by
     rw[hG,show (c_0.length:Int)-1=n2 by omega,e3,show (l1.length:Int)-1=n6 by omega,e8];rfl
   rw[Q];exact ⟨_,(ho.au (by cbv;repeat (simp only[e1,e2,e3,e4,e5,e6,e7,e8,e9];try cbv)):_=Ar (.tup [Ai 0,Ab false])),λh=>by cases h⟩
  ·have g8:=bH e8;have e9:o.call 83 [Ai p,Ai 0,Ai n6] []=Ar (Ab true):=(aF ho p 0 n6).trans (by rw[e8]);obtain ⟨n7,e10,g10⟩:=ay ho S;rcases cE ho n7 n4 with ⟨e11,g11⟩|⟨e11,g11⟩
   ·have hl2:=RN ho z g c_0 c_1 F p S hT n7 g10.symm (by omega) 0 (Int.le_refl _) (by omega);rw[show (0:Int).toNat=0 from rfl,List.drop_zero]at hl2;cases hc:S.all (qt o)
    ·have e12:o.loop 14600 (gA z g c_0 c_1 F p S 0)=some (.ret,iq z g c_0 c_1 F p S):=hl2.trans (by rw[hc];rfl);have Q:(nY o c_0 F p S&&(z || qO c_0 F p g))=false:=by
       rw[hG,show (c_0.length:Int)-1=n2 by omega,e3,show (l1.length:Int)-1=n6 by omega,e8,decide_eq_true (p:=(S.length:Int)=n4) (by omega),hc];rfl
     rw[Q];exact ⟨_,(ho.au (by cbv at e12;cbv;repeat (simp only[e1,e2,e3,e4,e5,e6,e7,e8,e9,e10,e11,e12];try cbv)):_=Ar (.tup [Ai 0,Ab false])),λh=>by cases h⟩
    ·have e12:o.loop 14600 (gA z g c_0 c_1 F p S 0)=some (.exit 0,ij z g c_0 c_1 F p S):=hl2.trans (by rw[hc];rfl);obtain ⟨l2,hh2,hhc⟩:=xu ho s1 n3 n4 l1 hF6 (by omega) (by omega);have hl9:=hh2 hF3;obtain ⟨b4,hb4,e13⟩:∃b,b=true/\o.call 244 [.agg [As s1,Ai n3,Ai n4,Al l1]] []=Ar (.tup [Al l2,Ab b]):=⟨_,rfl,by rw[hF3]at hhc;exact hhc⟩
     have hq8:=bH e8;cases e14:z<;>rw[e14]at e12
     ·rcases aj ho p 0 with ⟨e15,g15⟩|⟨e15,g15⟩
      ·obtain ⟨n8,e16⟩:=kx (o.ar .sub .i64 p 1);try have g16:n8=p-1:=e16.symm.trans (dB ho (by omega) (by omega))
       obtain ⟨n9,n10,s2,n11,hi,hp⟩:=hins n8 (by omega) (by omega);have hC2:=EZ (p:=p) (G:=g) hx0 (by rw[show p-1=n8 by omega];exact hi);have e17:o.dD l1 n8=some (.agg [.int .i64 n9,.int .i64 n10,.str s2,.int .i64 n11]):=ak ho (by omega) hi;obtain ⟨n12,hn12,e18⟩:∃n,n=gt (um o l1) n8/\o.dD l2 n8=some (.int .i64 n):=⟨_,rfl,by rw[hl9];exact jI ho hF1.1 (by omega) (by omega)⟩
       obtain ⟨n13,e19⟩:=kx (o.ar .sub .i64 n12 n10);rcases aj ho n9 8 with ⟨e20,g20⟩|⟨e20,g20⟩
       ·have Q:(nY o c_0 F p S&&(false || qO c_0 F p g))=false:=by
          rw[hG,show (c_0.length:Int)-1=n2 by omega,e3,show (l1.length:Int)-1=n6 by omega,e8,decide_eq_true (p:=(S.length:Int)=n4) (by omega),hc,hC2,decide_eq_true (p:=p≠0) (by omega),decide_eq_false (p:=n9=8) (by omega)];rfl
        rw[Q];exact ⟨_,(ho.au (by cbv at e12;cbv;repeat (simp only[e1,e2,e3,e4,e5,e6,e7,e8,e9,e10,e11,e12,e13,e14,e15,e16,e17,e18,e19,e20];try cbv)):_=Ar (.tup [Ai n13,Ab false])),λh=>by cases h⟩
       ·obtain ⟨n14,hn14,e21⟩:∃n,n=jJ c_0 s2/\o.call 85 [.agg [Al c_0,Al c_1],As s2] []=Ar (Ai n):=⟨_,rfl,uY ho c_0 c_1 s2 hK.1 hK.2.1⟩
        rcases aj ho n14 g with ⟨e22,g22⟩|⟨e22,g22⟩
        ·have Q:(nY o c_0 F p S&&(false || qO c_0 F p g))=o.cmp .eql n14 g:=by
           rw[hG,show (c_0.length:Int)-1=n2 by omega,e3,show (l1.length:Int)-1=n6 by omega,e8,decide_eq_true (p:=(S.length:Int)=n4) (by omega),hc,hC2,decide_eq_true (p:=p≠0) (by omega),decide_eq_true (p:=n9=8) (by omega),<-hn14,CK ho];rfl
         rw[Q,e22];have h8:n9=8:=by omega
         have hk:=(hF1.2.2 n8 n9 n10 s2 n11 (by omega) hi)
         have hk2:=hk.2.2.2.2.2 (by omega);have ht:tk n9 n10=n10:=by unfold tk;rw[if_pos (by omega)]
         have hb:=(gP hp).2.2.2.2 h8;have hb2:=ou c_0 s2;have hb3:=mo hK.1 hB (i:=jJ c_0 s2) hb.1 (by omega);have hs:=dB ho (a:=n12) (b:=n10) (by omega) (by omega);exact ⟨_,(ho.au (by cbv at e12;cbv;repeat (simp only[e1,e2,e3,e4,e5,e6,e7,e8,e9,e10,e11,e12,e13,e14,e15,e16,e17,e18,e19,e20,e21,e22];try cbv)):_=Ar (.tup [Ai n13,Ab false])),λ_=>by rw[Fa hx0,show p=n8+1 by omega,hk2.2];simp;omega⟩
        ·have Q:(nY o c_0 F p S&&(false || qO c_0 F p g))=o.cmp .eql n14 g:=by
           rw[hG,show (c_0.length:Int)-1=n2 by omega,e3,show (l1.length:Int)-1=n6 by omega,e8,decide_eq_true (p:=(S.length:Int)=n4) (by omega),hc,hC2,decide_eq_true (p:=p≠0) (by omega),decide_eq_true (p:=n9=8) (by omega),<-hn14,CK ho];rfl
         rw[Q,e22];have h8:n9=8:=by omega
         have hk:=(hF1.2.2 n8 n9 n10 s2 n11 (by omega) hi)
         have hk2:=hk.2.2.2.2.2 (by omega);have ht:tk n9 n10=n10:=by unfold tk;rw[if_pos (by omega)]
         have hb:=(gP hp).2.2.2.2 h8;have hb2:=ou c_0 s2;have hb3:=mo hK.1 hB (i:=jJ c_0 s2) hb.1 (by omega);have hs:=dB ho (a:=n12) (b:=n10) (by omega) (by omega);exact ⟨_,(ho.au (by cbv at e12;cbv;repeat (simp only[e1,e2,e3,e4,e5,e6,e7,e8,e9,e10,e11,e12,e13,e14,e15,e16,e17,e18,e19,e20,e21,e22];try cbv)):_=Ar (.tup [Ai n13,Ab true])),λ_=>by rw[Fa hx0,show p=n8+1 by omega,hk2.2];simp;omega⟩
      ·have Q:(nY o c_0 F p S&&(false || qO c_0 F p g))=false:=by
         rw[hG,show (c_0.length:Int)-1=n2 by omega,e3,show (l1.length:Int)-1=n6 by omega,e8,decide_eq_true (p:=(S.length:Int)=n4) (by omega),hc,show qO c_0 F p g=false by unfold qO;rw[decide_eq_false (by omega)];rfl];rfl
       rw[Q];exact ⟨_,(ho.au (by cbv at e12;cbv;repeat (simp only[e1,e2,e3,e4,e5,e6,e7,e8,e9,e10,e11,e12,e13,e14,e15];try cbv)):_=Ar (.tup [Ai 0,Ab false])),λh=>by cases h⟩
     ·obtain ⟨n8,hn8,e15⟩:∃n,n=gt (um o l1) p/\o.dD l2 p=some (.int .i64 n):=⟨_,rfl,by rw[hl9];exact jI ho hF1.1 (by omega) (by omega)⟩
      have Q:(nY o c_0 F p S&&(true || qO c_0 F p g))=true:=by
        rw[hG,show (c_0.length:Int)-1=n2 by omega,e3,show (l1.length:Int)-1=n6 by omega,e8,decide_eq_true (p:=(S.length:Int)=n4) (by omega),hc];rfl
      rw[Q];exact ⟨_,(ho.au (by cbv at e12;cbv;repeat (simp only[e1,e2,e3,e4,e5,e6,e7,e8,e9,e10,e11,e12,e13,e14,e15];try cbv)):_=Ar (.tup [Ai n8,Ab true])),λ_=>by rw[Fa hx0,hn8];simp⟩
   ·have Q:(nY o c_0 F p S&&(z || qO c_0 F p g))=false:=by
      rw[hG,show (c_0.length:Int)-1=n2 by omega,e3,show (l1.length:Int)-1=n6 by omega,e8,decide_eq_false (p:=(S.length:Int)=n4) (by omega)];rfl
    rw[Q];exact ⟨_,(ho.au (by cbv;repeat (simp only[e1,e2,e3,e4,e5,e6,e7,e8,e9,e10,e11];try cbv)):_=Ar (.tup [Ai 0,Ab false])),λh=>by cases h⟩
def cK (c_0 c_1 fs st:List D) (n2 i n1 i1:Int):St:=⟨E 75 [(0,.sp [.lst c_0,.lst c_1] 0),(3,.sp [.lst fs,.lst st] 0),(5,Ai n2),(6,Ai i),(26,Al fs),(27,Ai n1),(28,Ai i1)],O 75 []⟩
def j5 (fs st:List D) (i:Int):St:=⟨E 75 [(3,.sp [.lst fs,.lst st] 0),(6,Ai i)],O 75 []⟩
def j6 (fs st:List D) (i:Int):St:=⟨E 75 [(3,.sp [.lst fs,.lst st] 0),(4,Ab false),(6,Ai i)],O 75 []⟩
def cL (c_0 c_1 fs st:List D) (n1 i i1:Int):St:=⟨E 78 [(2,.sp [.lst c_0,.lst c_1] 0),(3,.sp [.lst fs,.lst st] 0),(5,Ai n1),(6,Ai i),(7,Ai i1)],O 78 []⟩
def j7 (fs st:List D) (i:Int):St:=⟨E 78 [(3,.sp [.lst fs,.lst st] 0),(6,Ai i)],O 78 []⟩
def j8 (fs st:List D) (i:Int):St:=⟨E 78 [(3,.sp [.lst fs,.lst st] 0),(4,Ab false),(6,Ai i)],O 78 []⟩
def vk (fs st:List D) (n2 i:Int):St:=⟨E 78 [(3,.sp [.lst fs,.lst st] 0),(6,Ai n2),(11,Ai i)],O 78 []⟩
def ri (fs st:List D) (n2:Int):St:=⟨E 78 [(3,.sp [.lst fs,.lst st] 0),(6,Ai n2)],O 78 []⟩
def rj (fs st:List D) (n2:Int):St:=⟨E 78 [(3,.sp [.lst fs,.lst st] 0),(4,Ab false),(6,Ai n2)],O 78 []⟩
omit ho in
theorem zX {fns l l' S T:List D} {F p G q:Int} (hl:l= .agg [.int .i64 G,.int .i64 q,.lst T]::l'):wW o fns (.agg [.int .i64 F,.int .i64 p,.lst S]::l)=if nY o fns F p S&&qO fns F p G then (wW o fns l).map λs=>fH o fns (F,p,S)-1+s else none:=by subst hl;rfl
omit ho in
theorem zY {fns S:List D} {F p:Int}:wW o fns [.agg [.int .i64 F,.int .i64 p,.lst S]]=if nY o fns F p S then some (fH o fns (F,p,S))else none:=by
 show (if (nY o fns F p S&&true)=true then some (fH o fns (F,p,S)-0+0)else none)=_;rw[Bool.and_true];simp
theorem sM {fns ps S:List D} {F p:Int} (hK:f8 fns ps) (hB:cJ o fns ps true=true) (h:nY o fns F p S=true):∃nm a sl xs,fns[F.toNat]? =some (.agg [.str nm,.int .i64 a,.int .i64 sl,.lst xs])/\(0<=F/\F<fns.length)/\(0<=p/\p<xs.length)/\(S.length:Int)=sl/\S.all (qt o)=true/\(1<=(xs.length:Int)/\(xs.length:Int)<=1500)/\sl<=400/\M9 xs (um o xs)/\Br o xs=true/\hF o xs=um o xs/\(∀y∈xs,yu y)/\(0<=fH o fns (F,p,S)/\fH o fns (F,p,S)<=300)/\fH o fns (F,p,S)=gt (um o xs) p/\
  ∀k:Int,0<=k->k<xs.length->∃op N s to,xs[k.toNat]? =some (.agg [.int .i64 op,.int .i64 N,.str s,.int .i64 to])/\aQ o fns ps sl xs.length (k+1) op N s to=true:=by
 have h0:=bH (ba (show (iK F 0 ((fns.length:Int)-1)&&_)=true from h)).1;obtain ⟨s1,n3,n4,l1,hx0,hA,ha,hsl,hlx,⟨hF1,hF2,hF3,hF4,hF5,hF6⟩,hins⟩:=kK hK.1 ho hB (i:=F) (by omega) (by omega);rw[CJ hx0]at h;have h1:=(ba h).2;have h2:=bH (ba h1).1;have h3:=(ba h1).2;obtain ⟨op,N,s,to,hi,hp⟩:=hins p (by omega) (by omega);have hk:=hF1.2.2 p op N s to (by omega) hi;have ht:0<=tk op N:=by
  by_cases h8:op=8
  ·have hb:=(gP hp).2.2.2.2 h8;have hb2:=ou fns s;have hb3:=mo hK.1 hB (i:=jJ fns s) hb.1 (by omega);unfold tk;rw[if_pos (by omega)];omega
  ·exact ((gP hp).2.2.2.1 h8).1
 exact ⟨s1,n3,n4,l1,hx0,by omega,by omega,of_decide_eq_true (ba h3).1,(ba h3).2,by omega,by omega,hF1,hF2,hF4,hF5,by rw[Fa hx0];omega,Fa hx0,hins⟩
theorem Bx {fns ps S:List D} {F p G:Int} (hK:f8 fns ps) (hB:cJ o fns ps true=true) (h:nY o fns F p S=true) (hc:qO fns F p G=true):1<=fH o fns (F,p,S)/\0<=G/\G<fns.length:=by
 obtain ⟨nm,a,sl,xs,hx,hF,hp,_,_,_,_,hH,_,_,_,_,he,hins⟩:=sM ho hK hB h;obtain ⟨op,N,s,to,hi,p0,h8,hs,g0,g1⟩:=Kr ho hK hB hx hp hins hc;have hk:=hH.2.2 (p-1) op N s to (by omega) hi;have hk2:=hk.2.2.2.2.2 (by omega);rw[show p-1+1=p by omega]at hk2;exact ⟨by rw[he];omega,g0,g1⟩
theorem RP (c_0 c_1:List D) (hK:f8 c_0 c_1) (hB:cJ o c_0 c_1 true=true) (fs st:List D) {m:Nat} (hV:∀x∈fs,Kq m x) (n1:Int) (hn:(fs.length:Int)=n1) (hb:n1<=40) (n2:Int) (hn2:n2=n1-1):∀i:Int,0<=i->i<=(n1:Int)->∀a:Int,0<=a->a<=300*i->(∀s,wW o c_0 (fs.drop i.toNat)=some s->o.loop 10200 (cK c_0 c_1 fs st n2 a n1 i)=some (.exit 0,j5 fs st (a+s)))/\(wW o c_0 (fs.drop i.toNat)=none->∃z,o.loop 10200 (cK c_0 c_1 fs st n2 a n1 i)=some (.ret,j6 fs st z)):=by
 refine bV (P:=λi=>∀a:Int,0<=a->a<=300*i->(∀s,wW o c_0 (fs.drop i.toNat)=some s->o.loop 10200 (cK c_0 c_1 fs st n2 a n1 i)=some (.exit 0,j5 fs st (a+s)))/\(wW o c_0 (fs.drop i.toNat)=none->∃z,o.loop 10200 (cK c_0 c_1 fs st n2 a n1 i)=some (.ret,j6 fs st z))) (n1:Int) ?_;intro i h0 h1 ih;try dsimp only at ih |-
 intro a ha0 ha1;rcases aZ ho i n1 with ⟨e1,g1⟩|⟨e1,g1⟩
 ·rw[bf hn (by omega)];exact ⟨λs hs=>by injection hs with hs;rw[<-hs,Int.add_zero];exact (ho.aB (by cbv;repeat (simp only[e1];try cbv)):o.loop 10200 (cK c_0 c_1 fs st n2 a n1 i)=some (.exit 0,j5 fs st a)),λhs=>by cases hs⟩
 ·obtain ⟨x,hx0,hx1,hx2⟩:=ax hn (show 0<=i by omega) (by omega);obtain ⟨n3,n4,l1,rfl,hl,hT⟩:=hV _ hx2;have e2:o.dD fs i=some (.agg [.int .i64 n3,.int .i64 n4,.lst l1]):=ak ho (by omega) hx0;rcases aZ ho i n2 with ⟨e3,g3⟩|⟨e3,g3⟩
  ·cases hf:nY o c_0 n3 n4 l1
   ·have e4:o.call 191 [.sp [.lst c_0,.lst c_1] 0,.agg [Ai n3,Ai n4,Al l1],.nilp] []=Ar (Ab false):=(xC ho c_0 c_1 hK hB n3 n4 l1 hT hl).trans (by rw[hf]);rw[hx1,bf hn (show n1<=i+1 by omega),zY,hf,if_neg Bool.false_ne_true];exact ⟨λs hs=>(by cases hs),λ_=>⟨_,(ho.aB (by cbv;repeat (simp only[e1,e2,e3,e4];try cbv)):_=some (.ret,j6 fs st a))⟩⟩
   ·have e4:o.call 191 [.sp [.lst c_0,.lst c_1] 0,.agg [Ai n3,Ai n4,Al l1],.nilp] []=Ar (Ab true):=(xC ho c_0 c_1 hK hB n3 n4 l1 hT hl).trans (by rw[hf]);obtain ⟨s1,n5,n6,l2,hz0,hzF,hzp,_,_,hzl,_,hF1,hF2,hF4,hF5,hzh,hze,_⟩:=sM ho hK hB (by first | exact hf | exact (ba hf).1);have e5:o.dD c_0 n3=some (.agg [.str s1,.int .i64 n5,.int .i64 n6,.lst l2]):=ak ho (by omega) hz0;obtain ⟨l3,hh2,hhc⟩:=sI ho s1 n5 n6 l2 hF5 (by omega) (by omega);have hl9:l3=iL (um o l2):=(hh2 hF2).trans (by rw[hF4]);obtain ⟨b4,hb4,e6⟩:∃b,b=true/\o.call 192 [.sp [.str s1,.int .i64 n5,.int .i64 n6,.lst l2] 0] []=Ar (.tup [Al l3,Ab b]):=⟨_,rfl,by rw[hF2]at hhc;exact hhc⟩
    obtain ⟨n7,hn7,e7⟩:∃n,n=gt (um o _) n4/\o.dD l3 n4=some (.int .i64 n):=⟨_,rfl,by rw[hl9];exact jI ho hF1.1 (by omega) (by omega)⟩
    rw[<-hze]at hn7;obtain ⟨n8,e8⟩:=kx (o.ar .add .i64 a n7);try have g8:n8=a+n7:=e8.symm.trans (ck ho (by omega) (by omega))
    obtain ⟨n9,e9⟩:=kx (o.ar .add .i64 i 1);try have g9:n9=i+1:=e9.symm.trans (ck ho (by omega) (by omega))
    rw[hx1,bf hn (show n1<=i+1 by omega),zY,hf,if_pos rfl];have ih2:=(ih (by omega) n8 (by omega) (by omega)).1 0 (by rw[bf hn (show n1<=i+1 by omega)];rfl);rw[<-show n9=i+1 by omega]at ih2;refine ⟨λs hs=> ?_,λhs=>by cases hs⟩;injection hs with hs;rw[show a+s=n8+0 by omega];exact (λz (hz:o.loop 10200 (cK c_0 c_1 fs st n2 n8 n1 n9)=some z)=>ho.aB (by rw[<-hz];cbv;repeat (simp only[e1,e2,e3,e4,e5,e6,e7,e8,e9];try cbv)):∀z,o.loop 10200 (cK c_0 c_1 fs st n2 n8 n1 n9)=some z->o.loop 10200 (cK c_0 c_1 fs st n2 a n1 i)=some z) _ ih2
  ·obtain ⟨n5,e4⟩:=kx (o.ar .add .i64 i 1);try have g4:n5=i+1:=e4.symm.trans (ck ho (by omega) (by omega))
   obtain ⟨y,hy0,hy1,hy2⟩:=ax hn (show 0<=n5 by omega) (by omega);obtain ⟨n6,n7,l2,rfl,hl2,hT2⟩:=hV _ hy2;have e5:o.dD fs n5=some (.agg [.int .i64 n6,.int .i64 n7,.lst l2]):=ak ho (by omega) hy0;cases hf:(nY o c_0 n3 n4 l1&&qO c_0 n3 n4 n6)
   ·have e6:o.call 191 [.sp [.lst c_0,.lst c_1] 0,.agg [Ai n3,Ai n4,Al l1],.sp [.int .i64 n6,.int .i64 n7,.lst l2] 0] []=Ar (Ab false):=(xD ho c_0 c_1 hK hB n3 n4 l1 hT hl n6 n7 l2).trans (by rw[hf]);rw[hx1,zX (o:=o) (fns:=c_0) (by rw[<-show n5=i+1 by omega];exact hy1),hf,if_neg Bool.false_ne_true];exact ⟨λs hs=>(by cases hs),λ_=>⟨_,(ho.aB (by cbv;repeat (simp only[e1,e2,e3,e4,e5,e6];try cbv)):_=some (.ret,j6 fs st a))⟩⟩
   ·have e6:o.call 191 [.sp [.lst c_0,.lst c_1] 0,.agg [Ai n3,Ai n4,Al l1],.sp [.int .i64 n6,.int .i64 n7,.lst l2] 0] []=Ar (Ab true):=(xD ho c_0 c_1 hK hB n3 n4 l1 hT hl n6 n7 l2).trans (by rw[hf]);obtain ⟨s1,n8,n9,l3,hz0,hzF,hzp,_,_,hzl,_,hF1,hF2,hF4,hF5,hzh,hze,_⟩:=sM ho hK hB (by first | exact hf | exact (ba hf).1);have e7:o.dD c_0 n3=some (.agg [.str s1,.int .i64 n8,.int .i64 n9,.lst l3]):=ak ho (by omega) hz0;obtain ⟨l4,hh2,hhc⟩:=sI ho s1 n8 n9 l3 hF5 (by omega) (by omega);have hl9:l4=iL (um o l3):=(hh2 hF2).trans (by rw[hF4]);obtain ⟨b4,hb4,e8⟩:∃b,b=true/\o.call 192 [.sp [.str s1,.int .i64 n8,.int .i64 n9,.lst l3] 0] []=Ar (.tup [Al l4,Ab b]):=⟨_,rfl,by rw[hF2]at hhc;exact hhc⟩
    obtain ⟨n10,hn10,e9⟩:∃n,n=gt (um o _) n4/\o.dD l4 n4=some (.int .i64 n):=⟨_,rfl,by rw[hl9];exact jI ho hF1.1 (by omega) (by omega)⟩
    rw[<-hze]at hn10;obtain ⟨n11,e10⟩:=kx (o.ar .add .i64 a n10);try have g10:n11=a+n10:=e10.symm.trans (ck ho (by omega) (by omega))
    obtain ⟨n12,e11⟩:=kx (o.ar .sub .i64 n11 1);try have g11:n12=n11-1:=e11.symm.trans (dB ho (by omega) (by omega))
    have hc:=Bx ho hK hB (ba hf).1 (ba hf).2;rw[hx1,zX (o:=o) (fns:=c_0) (by rw[<-show n5=i+1 by omega];exact hy1),hf,if_pos rfl];have ih2:=ih (by omega) n12 (by omega) (by omega);rw[<-show n5=i+1 by omega]at ih2 |-;refine ⟨λs hs=> ?_,λhs=> ?_⟩
    ·cases hq:wW o c_0 (fs.drop n5.toNat)with
     | none=>rw[hq]at hs;cases hs
     | some s'=>
      rw[hq]at hs;simp only[Option.map_some,Option.some.injEq]at hs;rw[show a+s=n12+s' by omega];exact (λz (hz:o.loop 10200 (cK c_0 c_1 fs st n2 n12 n1 n5)=some z)=>ho.aB (by rw[<-hz];cbv;repeat (simp only[e1,e2,e3,e4,e5,e6,e7,e8,e9,e10,e11];try cbv)):∀z,o.loop 10200 (cK c_0 c_1 fs st n2 n12 n1 n5)=some z->o.loop 10200 (cK c_0 c_1 fs st n2 a n1 i)=some z) _ (ih2.1 s' hq)
    ·cases hq:wW o c_0 (fs.drop n5.toNat)with
     | none=>obtain ⟨z,h⟩:=ih2.2 hq;exact ⟨z,(λz (hz:o.loop 10200 (cK c_0 c_1 fs st n2 n12 n1 n5)=some z)=>ho.aB (by rw[<-hz];cbv;repeat (simp only[e1,e2,e3,e4,e5,e6,e7,e8,e9,e10,e11];try cbv)):∀z,o.loop 10200 (cK c_0 c_1 fs st n2 n12 n1 n5)=some z->o.loop 10200 (cK c_0 c_1 fs st n2 a n1 i)=some z) _ h⟩
     | some s'=>rw[hq]at hs;cases hs
theorem OZ (c_0 c_1:List D) (hK:f8 c_0 c_1) (hB:cJ o c_0 c_1 true=true) (fs st:List D) {m:Nat} (hV:∀x∈fs,Kq m x) (n1:Int) (hn:(fs.length:Int)=n1) (hb:n1<=40):∀i:Int,0<=i->i<=(n1:Int)->∀a:Int,0<=a->a<=300*i->(∀s,wW o c_0 (fs.drop i.toNat)=some s->o.loop 6200 (cL c_0 c_1 fs st n1 a i)=some (.exit 0,j7 fs st (a+s)))/\(wW o c_0 (fs.drop i.toNat)=none->∃z,o.loop 6200 (cL c_0 c_1 fs st n1 a i)=some (.ret,j8 fs st z)):=by
 refine bV (P:=λi=>∀a:Int,0<=a->a<=300*i->(∀s,wW o c_0 (fs.drop i.toNat)=some s->o.loop 6200 (cL c_0 c_1 fs st n1 a i)=some (.exit 0,j7 fs st (a+s)))/\(wW o c_0 (fs.drop i.toNat)=none->∃z,o.loop 6200 (cL c_0 c_1 fs st n1 a i)=some (.ret,j8 fs st z))) (n1:Int) ?_;intro i h0 h1 ih;try dsimp only at ih |-
 intro a ha0 ha1;rcases aZ ho i n1 with ⟨e1,g1⟩|⟨e1,g1⟩
 ·rw[bf hn (by omega)];exact ⟨λs hs=>by injection hs with hs;rw[<-hs,Int.add_zero];exact (ho.aB (by cbv;repeat (simp only[e1];try cbv)):o.loop 6200 (cL c_0 c_1 fs st n1 a i)=some (.exit 0,j7 fs st a)),λhs=>by cases hs⟩
 ·obtain ⟨n2,e2⟩:=kx (o.ar .add .i64 i 1);try have g2:n2=i+1:=e2.symm.trans (ck ho (by omega) (by omega))
  rcases aZ ho n2 n1 with ⟨e3,g3⟩|⟨e3,g3⟩
  ·obtain ⟨x,hx0,hx1,hx2⟩:=ax hn (show 0<=i by omega) (by omega);obtain ⟨n3,n4,l1,rfl,hl,hT⟩:=hV _ hx2;have e4:o.dD fs i=some (.agg [.int .i64 n3,.int .i64 n4,.lst l1]):=ak ho (by omega) hx0;obtain ⟨b3,hb3,e5⟩:∃b,b=decide (n2=n1)/\o.cmp .eql n2 n1=b:=⟨_,rfl,CK ho _ _⟩
   have hbz:b3=true:=by rw[hb3];exact decide_eq_true (by omega)
   obtain ⟨n5,hcall,hval⟩:=tL ho c_0 c_1 hK hB n3 n4 l1 hT hl b3 0;rw[show (nY o c_0 n3 n4 l1&&(b3 || qO c_0 n3 n4 0))=nY o c_0 n3 n4 l1 by rw[hbz];simp]at hcall hval;cases hf:nY o c_0 n3 n4 l1
   ·have e6:o.call 146 [.agg [Al c_0,Al c_1],.agg [Ai n3,Ai n4,Al l1],Ab b3,Ai 0] []=Ar (.tup [Ai n5,Ab false]):=by rw[hf]at hcall;exact hcall
    rw[hx1,bf hn (show n1<=i+1 by omega),zY,hf,if_neg Bool.false_ne_true];exact ⟨λs hs=>(by cases hs),λ_=>⟨_,(ho.aB (by cbv;repeat (simp only[e1,e2,e3,e4,e5,e6];try cbv)):_=some (.ret,j8 fs st a))⟩⟩
   ·have e6:o.call 146 [.agg [Al c_0,Al c_1],.agg [Ai n3,Ai n4,Al l1],Ab b3,Ai 0] []=Ar (.tup [Ai n5,Ab true]):=by rw[hf]at hcall;exact hcall
    have hvl:=hval hf;rw[hbz]at hvl;have hfo:=sM ho hK hB (show nY o c_0 n3 n4 l1=true from hf);obtain ⟨_,_,_,_,_,_,_,_,_,_,_,_,_,_,_,hzh,_⟩:=hfo;obtain ⟨n6,e7⟩:=kx (o.ar .add .i64 a n5);try have g7:n6=a+n5:=e7.symm.trans (ck ho (by omega) (by omega))
    simp only[if_true]at hvl;rw[hx1,bf hn (show n1<=i+1 by omega),zY,hf,if_pos rfl];have ih2:=(ih (by omega) n6 (by omega) (by omega)).1 0 (by rw[bf hn (show n1<=i+1 by omega)];rfl);rw[<-show n2=i+1 by omega]at ih2;refine ⟨λs hs=> ?_,λhs=>by cases hs⟩;injection hs with hs;rw[show a+s=n6+0 by omega];exact (λz (hz:o.loop 6200 (cL c_0 c_1 fs st n1 n6 n2)=some z)=>ho.aB (by rw[<-hz];cbv;repeat (simp only[e1,e2,e3,e4,e5,e6,e7];try cbv)):∀z,o.loop 6200 (cL c_0 c_1 fs st n1 n6 n2)=some z->o.loop 6200 (cL c_0 c_1 fs st n1 a i)=some z) _ ih2
  ·obtain ⟨y,hy0,hy1,hy2⟩:=ax hn (show 0<=n2 by omega) (by omega);obtain ⟨n3,n4,l1,rfl,hl2,hT2⟩:=hV _ hy2;have e4:o.dD fs n2=some (.agg [.int .i64 n3,.int .i64 n4,.lst l1]):=ak ho (by omega) hy0;obtain ⟨x,hx0,hx1,hx2⟩:=ax hn (show 0<=i by omega) (by omega);obtain ⟨n5,n6,l2,rfl,hl,hT⟩:=hV _ hx2;have e5:o.dD fs i=some (.agg [.int .i64 n5,.int .i64 n6,.lst l2]):=ak ho (by omega) hx0;obtain ⟨b3,hb3,e6⟩:∃b,b=decide (n2=n1)/\o.cmp .eql n2 n1=b:=⟨_,rfl,CK ho _ _⟩
   have hbz:b3=false:=by rw[hb3];exact decide_eq_false (by omega)
   obtain ⟨n7,hcall,hval⟩:=tL ho c_0 c_1 hK hB n5 n6 l2 hT hl b3 n3;rw[show (nY o c_0 n5 n6 l2&&(b3 || qO c_0 n5 n6 n3))=(nY o c_0 n5 n6 l2&&qO c_0 n5 n6 n3) by rw[hbz];simp]at hcall hval;cases hf:(nY o c_0 n5 n6 l2&&qO c_0 n5 n6 n3)
   ·have e7:o.call 146 [.agg [Al c_0,Al c_1],.agg [Ai n5,Ai n6,Al l2],Ab b3,Ai n3] []=Ar (.tup [Ai n7,Ab false]):=by rw[hf]at hcall;exact hcall
    rw[hx1,zX (o:=o) (fns:=c_0) (by rw[<-show n2=i+1 by omega];exact hy1),hf,if_neg Bool.false_ne_true];exact ⟨λs hs=>(by cases hs),λ_=>⟨_,(ho.aB (by cbv;repeat (simp only[e1,e2,e3,e4,e5,e6,e7];try cbv)):_=some (.ret,j8 fs st a))⟩⟩
   ·have e7:o.call 146 [.agg [Al c_0,Al c_1],.agg [Ai n5,Ai n6,Al l2],Ab b3,Ai n3] []=Ar (.tup [Ai n7,Ab true]):=by rw[hf]at hcall;exact hcall
    have hvl:=hval hf;rw[hbz]at hvl;have hfo:=sM ho hK hB (show nY o c_0 n5 n6 l2=true from (ba hf).1);obtain ⟨_,_,_,_,_,_,_,_,_,_,_,_,_,_,_,hzh,_⟩:=hfo;obtain ⟨n8,e8⟩:=kx (o.ar .add .i64 a n7);try have g8:n8=a+n7:=e8.symm.trans (ck ho (by omega) (by omega))
    have hc:=Bx ho hK hB (ba hf).1 (ba hf).2;simp only[Bool.false_eq_true,if_false]at hvl;rw[hx1,zX (o:=o) (fns:=c_0) (by rw[<-show n2=i+1 by omega];exact hy1),hf,if_pos rfl];have ih2:=ih (by omega) n8 (by omega) (by omega);rw[<-show n2=i+1 by omega]at ih2 |-;refine ⟨λs hs=> ?_,λhs=> ?_⟩
    ·cases hq:wW o c_0 (fs.drop n2.toNat)with
     | none=>rw[hq]at hs;cases hs
     | some s'=>
      rw[hq]at hs;simp only[Option.map_some,Option.some.injEq]at hs;rw[show a+s=n8+s' by omega];exact (λz (hz:o.loop 6200 (cL c_0 c_1 fs st n1 n8 n2)=some z)=>ho.aB (by rw[<-hz];cbv;repeat (simp only[e1,e2,e3,e4,e5,e6,e7,e8];try cbv)):∀z,o.loop 6200 (cL c_0 c_1 fs st n1 n8 n2)=some z->o.loop 6200 (cL c_0 c_1 fs st n1 a i)=some z) _ (ih2.1 s' hq)
    ·cases hq:wW o c_0 (fs.drop n2.toNat)with
     | none=>obtain ⟨z,h⟩:=ih2.2 hq;exact ⟨z,(λz (hz:o.loop 6200 (cL c_0 c_1 fs st n1 n8 n2)=some z)=>ho.aB (by rw[<-hz];cbv;repeat (simp only[e1,e2,e3,e4,e5,e6,e7,e8];try cbv)):∀z,o.loop 6200 (cL c_0 c_1 fs st n1 n8 n2)=some z->o.loop 6200 (cL c_0 c_1 fs st n1 a i)=some z) _ h⟩
     | some s'=>rw[hq]at hs;cases hs
theorem O0 (fs st:List D) {m:Nat} (hT:∀t∈st,Tm m t) (n2 q:Int) (hn:(st.length:Int)=q) (hl:q<=1048576):∀i:Int,0<=i->i<=(q:Int)->o.loop 6201 (vk fs st n2 i)=some (if (st.drop i.toNat).all (qm o)then (.exit 2,ri fs st n2)else (.ret,rj fs st n2)):=by
 refine bV (P:=λi=>o.loop 6201 (vk fs st n2 i)=some (if (st.drop i.toNat).all (qm o)then (.exit 2,ri fs st n2)else (.ret,rj fs st n2))) (q:Int) ?_;intro i h0 h1 ih;try dsimp only at ih |-
 refine ho.dO λR Q=> ?_
 obtain ⟨n1,e1,g1⟩:=ay ho st;conv=>lhs;cbv;rw[e1];cbv
 rcases aZ ho i n1 with ⟨e2,g2⟩|⟨e2,g2⟩<;>(conv=>lhs;rw[e2];cbv)
 ·subst Q;rw[bf hn (by omega)];rfl
 ·obtain ⟨x,hx0,hx1,hx2⟩:=ax hn h0 (by omega);obtain ⟨m1,n3,n4,s1,l1,hd1,rfl,hs,hll,ht⟩:=bP (hT _ hx2);have e3:=ak ho h0 hx0;conv=>lhs;rw[e3];cbv
  cases he4:qm o (.agg [.int .i64 n3,.int .i64 n4,.str s1,.lst l1])<;>(conv=>lhs;rw[oI ho _ _ _ _ (hT _ hx2),he4];cbv)
  ·subst Q;rw[hx1,List.all_cons,he4];rfl
  ·obtain ⟨n5,e5,g5⟩:=aW ho i 1;conv=>lhs;rw[e5];cbv
   subst Q;rw[hx1,List.all_cons,he4,Bool.true_and];rw[show n5=i+1 by omega];exact ih (by omega)
theorem Lr (c_0 c_1:List D) (hK:f8 c_0 c_1) (hB:cJ o c_0 c_1 true=true) (fs st:List D) {m:Nat} (hV:Iy m fs st):o.call 102 [.sp [.lst c_0,.lst c_1] 0,.agg [Al fs,Al st]] []=Ar (Ab (Em o c_0 fs st)):=by
 obtain ⟨hF,hFl,hT,hTl⟩:=hV;refine ho.aC λR Q=> ?_
 obtain ⟨n1,e1,g1⟩:=ay ho fs;obtain ⟨n2,e2,g2⟩:=aO ho n1 1;conv=>lhs;cbv;rw[e1];cbv;rw[e2];cbv
 rcases aN n2 0 39 with ⟨e3,g3⟩|⟨e3,g3⟩
 ·conv=>lhs;rw[av ho,e3];cbv
  subst Q;unfold Em;rw[show iK (fs.length:Int) 1 40=false from jd (by have:=qb e3;omega)];try rfl
 ·conv=>lhs;rw[av ho,e3];cbv
  cases he5:st.all (qm o)<;>(conv=>lhs;rw[EY ho st hT hTl,he5];cbv)
  ·subst Q;have hq3:=bH e3;unfold Em;rw[dr (x:=(fs.length:Int)) (a:=1) (b:=40) (by omega),he5];try rfl
  ·conv=>lhs;(try (rw[e1];cbv))
   have hq3:=bH e3;have hvl:=RP ho c_0 c_1 hK hB fs st hF n1 g1.symm (by omega) n2 (by omega) 0 (Int.le_refl _) (by omega) 0 (Int.le_refl _) (by omega);rw[show (0:Int).toNat=0 from rfl,List.drop_zero]at hvl;rcases hq:wW o c_0 fs with _ | s
   ·obtain ⟨n3,e6⟩:=hvl.2 hq;conv at e6=>lhs;cbv
    conv=>lhs;rw[e6];cbv
    subst Q;unfold Em;rw[dr (x:=(fs.length:Int)) (a:=1) (b:=40) (by omega),he5,hq];try rfl
   ·obtain ⟨n3,hns,e6⟩:∃n,n=0+s/\o.loop 10200 (cK c_0 c_1 fs st n2 0 n1 0)=some (.exit 0,j5 fs st n):=⟨_,rfl,hvl.1 s hq⟩
    conv at e6=>lhs;cbv
    obtain ⟨n4,e7,g7⟩:=ay ho st;conv=>lhs;rw[e6];cbv;rw[e7];cbv
    rcases aj ho n4 n3 with ⟨e8,g8⟩|⟨e8,g8⟩<;>(conv=>lhs;rw[e8];cbv)
    all_goals
     subst Q;unfold Em;rw[dr (x:=(fs.length:Int)) (a:=1) (b:=40) (by omega),he5,hq,Bool.true_and,Bool.true_and];simp only[Option.some.injEq];first | rw[decide_eq_true (by omega)] | rw[decide_eq_false (by omega)]
theorem Ls (c_0 c_1:List D) (hK:f8 c_0 c_1) (fs st:List D) {m:Nat} (hV:Iy m fs st):o.call 62 [.agg [Al c_0,Al c_1],.agg [Al fs,Al st]] []=Ar (Ab (cJ o c_0 c_1 true&&Em o c_0 fs st)):=by
 obtain ⟨hF,hFl,hT,hTl⟩:=hV;refine ho.aC λR Q=> ?_
 obtain ⟨n1,e1,g1⟩:=ay ho fs;conv=>lhs;cbv;rw[e1];cbv
 cases he2:cJ o c_0 c_1 true<;>(conv=>lhs;rw[EF ho c_0 c_1 hK,he2];cbv)
 ·subst Q;rw[he2];try rfl
 ·rcases aN n1 1 40 with ⟨e3,g3⟩|⟨e3,g3⟩
  ·conv=>lhs;rw[aF ho,e3];cbv
   subst Q;unfold Em;rw[he2,show iK (fs.length:Int) 1 40=false from jd (by have:=qb e3;omega)];try rfl
  ·conv=>lhs;rw[aF ho,e3];cbv
   have hq3:=bH e3;have hvl:=OZ ho c_0 c_1 hK he2 fs st hF n1 g1.symm (by omega) 0 (Int.le_refl _) (by omega) 0 (Int.le_refl _) (by omega);rw[show (0:Int).toNat=0 from rfl,List.drop_zero]at hvl;rcases hq:wW o c_0 fs with _ | s
   ·obtain ⟨n2,e5⟩:=hvl.2 hq;conv at e5=>lhs;cbv
    conv=>lhs;rw[e5];cbv
    subst Q;unfold Em;rw[he2,dr (x:=(fs.length:Int)) (a:=1) (b:=40) (by omega),hq];cases st.all (qm o)<;>rfl
   ·obtain ⟨n2,hns,e5⟩:∃n,n=0+s/\o.loop 6200 (cL c_0 c_1 fs st n1 0 0)=some (.exit 0,j7 fs st n):=⟨_,rfl,hvl.1 s hq⟩
    conv at e5=>lhs;cbv
    conv=>lhs;rw[e5];cbv
    have hl2:=O0 ho fs st hT n2 _ rfl hTl 0 (Int.le_refl _) (by omega);rw[show (0:Int).toNat=0 from rfl,List.drop_zero]at hl2;conv at hl2=>lhs;cbv
    cases hc:st.all (qm o)<;>(conv=>lhs;rw[hl2,hc];cbv)
    ·subst Q;unfold Em;rw[he2,dr (x:=(fs.length:Int)) (a:=1) (b:=40) (by omega),hc];try rfl
    ·obtain ⟨n3,e7,g7⟩:=ay ho st;conv=>lhs;rw[e7];cbv
     rcases aj ho n3 n2 with ⟨e8,g8⟩|⟨e8,g8⟩<;>(conv=>lhs;rw[e8];cbv)
     all_goals
      subst Q;unfold Em;rw[he2,dr (x:=(fs.length:Int)) (a:=1) (b:=40) (by omega),hc,hq,Bool.true_and,Bool.true_and,Bool.true_and];simp only[Option.some.injEq];first | rw[decide_eq_true (by omega)] | rw[decide_eq_false (by omega)]
end
end T2
