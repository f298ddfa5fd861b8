import Derived.Test.YtfnagkpidcdocaaGreatM30
set_option linter.all false
namespace T2
open Go Go.Vi
set_option maxRecDepth 100000
set_option maxHeartbeats 4000000
def j5 (k:Int) (l:Lq) (n:Int) (s:By):Bool:=decide (k=4)&&(decide ((l.length:Int)=n)&&match l with
 | .agg [.int _ c,.int _ _,.str t,.lst _]::_=>decide (c=2)&&decide (t=s)
 | _=>false)
noncomputable def Ap (o:aM) (pid:Int) (nm md:By) (no:Int) (t:D) (bx:Lq):Bool:=jx pid 1 1000000&&(vY o nm&&(vY o md&&(jx no 1 10000&&(pO o t&&(decide ((bx.length:Int)<=20)&&bx.all (pO o))))))
def GY:D->Option D
 | .agg [.int _ k,.int _ _,.str _,.lst [.agg [.int _ e,.int _ n1,.str s1,.lst l1],.agg [.int _ k2,.int _ n2,.str s2,.lst l2]]]=>
  if k=4/\(e=2\/e=3)then some (.agg [.int .i64 e,.int .i64 n1,.str s1,.lst l1,.int .i64 k2,.int .i64 n2,.str s2,.lst l2])else none
 | _=>none
def oU:Lq->Option (Lq)
 | []=>some []
 | x::l=>match GY x with
  | some y=>match oU l with
   | some z=>some (y::z)
   | none=>none
  | none=>none
def iX:D->D
 | .agg [a,b,c,.lst l,d,e,f,.lst q]=> .agg [a,b,c,.own (31,4) (bM l),d,e,f,.own (31,4) (bM q)]
 | x=>x
theorem IK {x y:D} {l z:Lq} (h:GY x=some y) (e:oU l=some z):oU (x::l)=some (y::z):=by simp only[oU,h,e]
theorem FE {x y:D} {l:Lq} (h:GY x=some y) (e:oU l=none):oU (x::l)=none:=by simp only[oU,h,e]
theorem t_ {x:D} {l:Lq} (h:GY x=none):oU (x::l)=none:=by simp only[oU,h]
theorem IL {l:Lq} (h:(l.length:Int)=2):∃a b,l=[a,b]:=by
 match l,h with
 | [a,b],_=>exact ⟨a,b,rfl⟩
 | [],h=>simp at h
 | [_],h=>simp at h
 | _::_::_::_,h=>simp at h;omega
theorem NM {k n:Int} {s:By} {l:Lq} (h:k≠4):GY (.agg [.int .i64 k,.int .i64 n,.str s,.lst l])=none:=by unfold GY;split<;>simp_all
theorem FG {k n:Int} {s:By} {l:Lq} (h:(l.length:Int)≠2):GY (.agg [.int .i64 k,.int .i64 n,.str s,.lst l])=none:=by
 unfold GY;split
 ·rename_i e;simp only[D.agg.injEq,List.cons.injEq,D.lst.injEq]at e;obtain ⟨_,_,_,hl,_⟩:=e;rw[hl]at h;simp at h
 rfl
theorem FH {k n e n1 k2 n2:Int} {s s1 s2:By} {l1 l2:Lq}:GY (.agg [.int .i64 k,.int .i64 n,.str s,.lst [.agg [.int .i64 e,.int .i64 n1,.str s1,.lst l1],.agg [.int .i64 k2,.int .i64 n2,.str s2,.lst l2]]])=if k=4/\(e=2\/e=3)then some (.agg [.int .i64 e,.int .i64 n1,.str s1,.lst l1,.int .i64 k2,.int .i64 n2,.str s2,.lst l2])else none:=rfl
theorem NN {k n e n1 k2 n2:Int} {s s1 s2:By} {l1 l2:Lq} (h:¬(e=2\/e=3)):GY (.agg [.int .i64 k,.int .i64 n,.str s,.lst [.agg [.int .i64 e,.int .i64 n1,.str s1,.lst l1],.agg [.int .i64 k2,.int .i64 n2,.str s2,.lst l2]]])=none:=by rw[FH,if_neg (by omega)]
theorem FI {k n e n1 k2 n2:Int} {s s1 s2:By} {l1 l2:Lq} (h:k=4) (j:e=2\/e=3):GY (.agg [.int .i64 k,.int .i64 n,.str s,.lst [.agg [.int .i64 e,.int .i64 n1,.str s1,.lst l1],.agg [.int .i64 k2,.int .i64 n2,.str s2,.lst l2]]])=some (.agg [.int .i64 e,.int .i64 n1,.str s1,.lst l1,.int .i64 k2,.int .i64 n2,.str s2,.lst l2]):=by rw[FH,if_pos ⟨h,j⟩]
def Kz (m:Nat) (x:D):Prop:=∃k n s l k' n' s' l',x= .agg [.int .i64 k,.int .i64 n,.str s,.lst l,.int .i64 k',.int .i64 n',.str s',.lst l']/\Tm m (.agg [.int .i64 k,.int .i64 n,.str s,.lst l])/\Tm m (.agg [.int .i64 k',.int .i64 n',.str s',.lst l'])
theorem IQ {d:D}:∀{m n:Nat},m<=n->Tm m d->Tm n d
 | m,0,h,t=>by rw[show m=0 by omega]at t;exact t
 | m,n+1,h,t=>by
  by_cases e:m=n+1
  ·rw[e]at t;exact t
  exact sK (IQ (by omega) t)
theorem Eh {m:Nat} {x y:D} (h:GY x=some y) (I:Tm m x):Kz m y:=by
 obtain ⟨O,k,n,s,l,S,rfl,_,_,e⟩:=bH I;by_cases j:(l.length:Int)=2
 ·obtain ⟨a,b,rfl⟩:=IL j;obtain ⟨U,E,n1,s1,l1,J,rfl,_,_,_⟩:=bH (e a (by simp));obtain ⟨V,k2,n2,s2,l2,M,rfl,_,_,_⟩:=bH (e b (by simp));by_cases hk:k=4/\(E=2\/E=3)
  ·rw[FI hk.1 hk.2]at h;injection h with h;subst h;exact ⟨_,_,_,_,_,_,_,_,rfl,IQ (by omega) (e _ (by simp)),IQ (by omega) (e _ (by simp))⟩
  rw[FH,if_neg hk]at h;cases h
 rw[FG j]at h;cases h
theorem FJ {m:Nat}:∀{l z:Lq},oU l=some z->(∀x∈l,Tm m x)->(∀y∈z,Kz m y)/\z.length=l.length
 | [],z,h,_=>by injection h with h;subst h;exact ⟨λy e=>(by cases e),rfl⟩
 | x::l,z,h,E=>by
  simp only[oU]at h;split at h
  ·rename_i y e;split at h
   ·rename_i w I;injection h with h;subst h;obtain ⟨J,M⟩:=FJ I λx O=>E x (by simp[O])
    refine ⟨λq j=> ?_,by simp[M]⟩;rcases List.mem_cons.1 j with rfl | j
    ·exact Eh e (E x (by simp))
    exact J q j
   cases h
  cases h
theorem Db {m:Nat} {x:D} (h:Kz m x):x.cells.length=8/\(iX x).cells.length=8:=by
 obtain ⟨k,n,s,l,k',n',s',l',rfl,_⟩:=h;exact ⟨rfl,rfl⟩
section
variable {o:aM} (ho:aQ cu bw o)
include ho
theorem BF {m:Nat} (a0_0 a0_1:Int) (O:By) (e:Lq) (hT:∀x∈e,Tm m x) (I:Int) (ha:0<I) (a2:By):o.call 210 [At a0_0 a0_1 O e,Ai I,As a2] []=Ar (Ab (j5 a0_0 e I a2)):=by
 rcases av ho a0_0 4 with ⟨j,g1⟩|⟨j,g1⟩
 ·exact (ho.aj (by cbv;repeat (simp only[j];try cbv)):_=Ar (Ab false)).trans (by unfold j5;simp_all)
 obtain ⟨n1,J,g2⟩:=aC ho e;rcases av ho n1 I with ⟨E,g3⟩|⟨E,g3⟩
 ·exact (ho.aj (by cbv;repeat (simp only[j,J,E];try cbv)):_=Ar (Ab false)).trans (by unfold j5;simp_all)
 obtain ⟨x,V,hx⟩:∃x V,e=x::V:=by
  cases e with
  | nil=>simp at g2;omega
  | cons x l=>exact ⟨x,l,rfl⟩
 obtain ⟨m1,n2,n3,s1,l1,a0,rfl,hs,a3,ht⟩:=bH (hT x (by rw[hx];simp));have S:o.cF e 0=some (.agg [.int .i64 n2,.int .i64 n3,.str s1,.lst l1]):=ay ho (Int.le_refl _) (by rw[hx];rfl);rcases av ho n2 2 with ⟨M,g5⟩|⟨M,g5⟩
 ·exact (ho.aj (by cbv;repeat (simp only[j,J,E,S,M];try cbv)):_=Ar (Ab false)).trans (by unfold j5;simp_all)
 rcases aR ho s1 a2 with ⟨U,g6⟩|⟨U,g6⟩
 ·exact (ho.aj (by cbv;repeat (simp only[j,J,E,S,M,U];try cbv)):_=Ar (Ab false)).trans (by unfold j5;simp_all)
 exact (ho.aj (by cbv;repeat (simp only[j,J,E,S,M,U];try cbv)):_=Ar (Ab true)).trans (by unfold j5;simp_all)
theorem BG {m:Nat} (a0_0 a0_1:Int) (O:By) (e:Lq) (hT:∀x∈e,Tm m x) (I:Int) (ha:0<I) (a2:By):o.call 207 [At a0_0 a0_1 O e,Ai I,As a2] []=Ar (Ab (j5 a0_0 e I a2)):=by
 rcases av ho a0_0 4 with ⟨j,g1⟩|⟨j,g1⟩
 ·exact (ho.aj (by cbv;repeat (simp only[j];try cbv)):_=Ar (Ab false)).trans (by unfold j5;simp_all)
 obtain ⟨n1,J,g2⟩:=aC ho e;rcases av ho n1 I with ⟨E,g3⟩|⟨E,g3⟩
 ·exact (ho.aj (by cbv;repeat (simp only[j,J,E];try cbv)):_=Ar (Ab false)).trans (by unfold j5;simp_all)
 obtain ⟨x,V,hx⟩:∃x V,e=x::V:=by
  cases e with
  | nil=>simp at g2;omega
  | cons x l=>exact ⟨x,l,rfl⟩
 obtain ⟨m1,n2,n3,s1,l1,a0,rfl,hs,a3,ht⟩:=bH (hT x (by rw[hx];simp));have S:o.cF e 0=some (.agg [.int .i64 n2,.int .i64 n3,.str s1,.lst l1]):=ay ho (Int.le_refl _) (by rw[hx];rfl);rcases av ho n2 2 with ⟨M,g5⟩|⟨M,g5⟩
 ·exact (ho.aj (by cbv;repeat (simp only[j,J,E,S,M];try cbv)):_=Ar (Ab false)).trans (by unfold j5;simp_all)
 rcases aR ho s1 a2 with ⟨U,g6⟩|⟨U,g6⟩
 ·exact (ho.aj (by cbv;repeat (simp only[j,J,E,S,M,U];try cbv)):_=Ar (Ab false)).trans (by unfold j5;simp_all)
 exact (ho.aj (by cbv;repeat (simp only[j,J,E,S,M,U];try cbv)):_=Ar (Ab true)).trans (by unfold j5;simp_all)
def jk (pid:Int) (nm md:By) (no k n:Int) (s:By) (l bx:Lq) (i:Int):St:=⟨E 47 [(1,.sp [.int .i64 pid,.str nm,.str md,.int .i64 no,.int .i64 k,.int .i64 n,.str s,.lst l,.lst bx] 0),(3,Ai i)],O 47 []⟩
def jD (pid:Int) (nm md:By) (no k n:Int) (s:By) (l bx:Lq):St:=⟨E 47 [(1,.sp [.int .i64 pid,.str nm,.str md,.int .i64 no,.int .i64 k,.int .i64 n,.str s,.lst l,.lst bx] 0)],O 47 []⟩
def jE (pid:Int) (nm md:By) (no k n:Int) (s:By) (l bx:Lq):St:=⟨E 47 [(1,.sp [.int .i64 pid,.str nm,.str md,.int .i64 no,.int .i64 k,.int .i64 n,.str s,.lst l,.lst bx] 0),(2,Ab false)],O 47 []⟩
theorem Ei (pid:Int) (nm md:By) (no k n:Int) (s:By) (l bx:Lq) (a6:(nm.size:Int)<=1048576) (a7:(md.size:Int)<=1048576) {m:Nat} (hS:Tm m (.agg [.int .i64 k,.int .i64 n,.str s,.lst l])) (J:∀x∈bx,Tm m x) (hb:(bx.length:Int)<=1048576):o.call 75 [Aw pid nm md no k n s l bx] []=Ar (Ab (Ap o pid nm md no (.agg [.int .i64 k,.int .i64 n,.str s,.lst l]) bx)):=by
 cases e:jx pid 1 1000000
 ·have g1:=r9 e;have j:o.call 89 [Ai pid,Ai 1,Ai 1000000] []=Ar (Ab false):=(aD ho pid 1 1000000).trans (by rw[e]);clear J;exact (ho.aj (by cbv;repeat (simp only[e,j];try cbv)):_=Ar (Ab false)).trans (by unfold Ap;simp_all)
 have g1:=cL e;have j:o.call 89 [Ai pid,Ai 1,Ai 1000000] []=Ar (Ab true):=(aD ho pid 1 1000000).trans (by rw[e]);cases E:vY o nm
 ·have M:o.call 173 [As nm] []=Ar (Ab false):=(mP ho nm (by omega)).trans (by rw[E]);clear J;exact (ho.aj (by cbv;repeat (simp only[e,j,E,M];try cbv)):_=Ar (Ab false)).trans (by unfold Ap;simp_all)
 have M:o.call 173 [As nm] []=Ar (Ab true):=(mP ho nm (by omega)).trans (by rw[E]);cases O:vY o md
 ·have S:o.call 173 [As md] []=Ar (Ab false):=(mP ho md (by omega)).trans (by rw[O]);clear J;exact (ho.aj (by cbv;repeat (simp only[e,j,E,M,O,S];try cbv)):_=Ar (Ab false)).trans (by unfold Ap;simp_all)
 have S:o.call 173 [As md] []=Ar (Ab true):=(mP ho md (by omega)).trans (by rw[O]);cases I:jx no 1 10000
 ·have g7:=r9 I;have U:o.call 89 [Ai no,Ai 1,Ai 10000] []=Ar (Ab false):=(aD ho no 1 10000).trans (by rw[I]);clear J;exact (ho.aj (by cbv;repeat (simp only[e,j,E,M,O,S,I,U];try cbv)):_=Ar (Ab false)).trans (by unfold Ap;simp_all)
 have g7:=cL I;have U:o.call 89 [Ai no,Ai 1,Ai 10000] []=Ar (Ab true):=(aD ho no 1 10000).trans (by rw[I]);cases a0:pO o (.agg [.int .i64 k,.int .i64 n,.str s,.lst l])
 ·have e9:o.call 68 [At k n s l] []=Ar (Ab false):=(nr ho _ _ _ _ hS).trans (by rw[a0]);clear J;exact (ho.aj (by cbv;repeat (simp only[e,j,E,M,O,S,I,U,e9];try cbv)):_=Ar (Ab false)).trans (by unfold Ap;simp_all)
 have e9:o.call 68 [At k n s l] []=Ar (Ab true):=(nr ho _ _ _ _ hS).trans (by rw[a0]);obtain ⟨n1,a1,a8⟩:=aC ho bx;rcases iz ho n1 20 with ⟨V,a4⟩|⟨V,a4⟩
 ·exact (ho.aj (by cbv;repeat (simp only[e,j,E,M,O,S,I,U,e9,a1,V];try cbv)):_=Ar (Ab false)).trans (by unfold Ap;rw[decide_eq_false (p:=(bx.length:Int)<=20) (by omega)];simp)
 obtain ⟨b7,a3⟩:∃b:Bool,bx.all (pO o)=b:=⟨_,rfl⟩
 have a5:o.call 158 [Al bx] []=Ar (Ab b7):=(xG ho bx J hb).trans (by rw[a3]);clear J;exact (ho.aj (by cbv;repeat (simp only[e,j,E,M,O,S,I,U,e9,a1,V,a5];try cbv)):_=Ar (Ab b7)).trans (by unfold Ap;simp_all)
theorem V7 (pid:Int) (nm md:By) (no k n:Int) (s:By) (l bx:Lq) {m:Nat} (J:∀x∈bx,Tm m x) (q:Int) (I:(bx.length:Int)=q) (hb:q<=1048576):∀i:Int,0<=i->i<=(q:Int)->o.loop 11200 (jk pid nm md no k n s l bx i)=some (if (bx.drop i.toNat).all (pO o)then (.exit 0,jD pid nm md no k n s l bx)else (.ret,jE pid nm md no k n s l bx)):=by
 refine cM (P:=λi=>o.loop 11200 (jk pid nm md no k n s l bx i)=some (if (bx.drop i.toNat).all (pO o)then (.exit 0,jD pid nm md no k n s l bx)else (.ret,jE pid nm md no k n s l bx))) (q:Int) ?_;intro i M h1 O;try dsimp only at O |-
 refine ho.fA λR Q=> ?_
 obtain ⟨n1,a0,V⟩:∃n,n=q/\o.len bx=n:=⟨_,rfl,(jA ho _).trans I⟩
 conv=>lhs;cbv;rw[V];cbv
 rcases bn ho i n1 with ⟨S,g2⟩|⟨S,g2⟩<;>(conv=>lhs;rw[S];cbv)
 ·subst Q;rw[bL I (by omega)];rfl
 obtain ⟨x,U,j,E⟩:=aF I M (by omega);obtain ⟨m1,n2,n3,s1,l1,a1,rfl,hs,a3,ht⟩:=bH (J _ E);have e3:=ay ho M U;conv=>lhs;rw[e3];cbv
 cases e:pO o (.agg [.int .i64 n2,.int .i64 n3,.str s1,.lst l1])<;>(conv=>lhs;rw[nu ho _ _ _ _ (J _ E),e];cbv)
 ·subst Q;rw[j,List.all_cons,e];rfl
 obtain ⟨n4,e5,g5⟩:=bk ho i 1;conv=>lhs;rw[e5];cbv
 subst Q;rw[j,List.all_cons,e,Bool.true_and];rw[show n4=i+1 by omega];exact O (by omega)
theorem Ej (pid:Int) (nm md:By) (no k n:Int) (s:By) (l bx:Lq) (a5:(nm.size:Int)<=1048576) (a6:(md.size:Int)<=1048576) {m:Nat} (hS:Tm m (.agg [.int .i64 k,.int .i64 n,.str s,.lst l])) (I:∀x∈bx,Tm m x) (hb:(bx.length:Int)<=1048576):o.call 112 [Aw pid nm md no k n s l bx] []=Ar (Ab (Ap o pid nm md no (.agg [.int .i64 k,.int .i64 n,.str s,.lst l]) bx)):=by
 have e:=V7 ho pid nm md no k n s l bx I _ rfl hb 0 (Int.le_refl _) (by omega);rw[show (0:Int).toNat=0 from rfl,List.drop_zero]at e;cases hc:bx.all (pO o)
 ·have j:o.loop 11200 (jk pid nm md no k n s l bx 0)=some (.ret,jE pid nm md no k n s l bx):=e.trans (by rw[hc];rfl);clear I e;exact (ho.aj (by cbv at j;cbv;repeat (simp only[j];try cbv)):_=Ar (Ab false)).trans (by unfold Ap;simp_all)
 have j:o.loop 11200 (jk pid nm md no k n s l bx 0)=some (.exit 0,jD pid nm md no k n s l bx):=e.trans (by rw[hc];rfl);cases E:jx pid 1 1000000
 ·have g2:=r9 E;have J:o.call 83 [Ai pid,Ai 1,Ai 1000000] []=Ar (Ab false):=(aJ ho pid 1 1000000).trans (by rw[E]);clear I e;exact (ho.aj (by cbv at j;cbv;repeat (simp only[j,E,J];try cbv)):_=Ar (Ab false)).trans (by unfold Ap;simp_all)
 have g2:=cL E;have J:o.call 83 [Ai pid,Ai 1,Ai 1000000] []=Ar (Ab true):=(aJ ho pid 1 1000000).trans (by rw[E]);cases M:vY o nm
 ·have S:o.call 204 [As nm] []=Ar (Ab false):=(mQ ho nm (by omega)).trans (by rw[M]);clear I e;exact (ho.aj (by cbv at j;cbv;repeat (simp only[j,E,J,M,S];try cbv)):_=Ar (Ab false)).trans (by unfold Ap;simp_all)
 have S:o.call 204 [As nm] []=Ar (Ab true):=(mQ ho nm (by omega)).trans (by rw[M]);cases U:vY o md
 ·have e7:o.call 204 [As md] []=Ar (Ab false):=(mQ ho md (by omega)).trans (by rw[U]);clear I e;exact (ho.aj (by cbv at j;cbv;repeat (simp only[j,E,J,M,S,U,e7];try cbv)):_=Ar (Ab false)).trans (by unfold Ap;simp_all)
 have e7:o.call 204 [As md] []=Ar (Ab true):=(mQ ho md (by omega)).trans (by rw[U]);cases O:jx no 1 10000
 ·have g8:=r9 O;have e9:o.call 83 [Ai no,Ai 1,Ai 10000] []=Ar (Ab false):=(aJ ho no 1 10000).trans (by rw[O]);clear I e;exact (ho.aj (by cbv at j;cbv;repeat (simp only[j,E,J,M,S,U,e7,O,e9];try cbv)):_=Ar (Ab false)).trans (by unfold Ap;simp_all)
 have g8:=cL O;have e9:o.call 83 [Ai no,Ai 1,Ai 10000] []=Ar (Ab true):=(aJ ho no 1 10000).trans (by rw[O]);cases a0:pO o (.agg [.int .i64 k,.int .i64 n,.str s,.lst l])
 ·have V:o.call 147 [At k n s l] []=Ar (Ab false):=(nu ho _ _ _ _ hS).trans (by rw[a0]);clear I e;exact (ho.aj (by cbv at j;cbv;repeat (simp only[j,E,J,M,S,U,e7,O,e9,V];try cbv)):_=Ar (Ab false)).trans (by unfold Ap;simp_all)
 have V:o.call 147 [At k n s l] []=Ar (Ab true):=(nu ho _ _ _ _ hS).trans (by rw[a0]);obtain ⟨n1,a3,a7⟩:=aC ho bx;rcases iz ho n1 20 with ⟨a1,a4⟩|⟨a1,a4⟩
 ·clear I e;exact (ho.aj (by cbv at j;cbv;repeat (simp only[j,E,J,M,S,U,e7,O,e9,V,a3,a1];try cbv)):_=Ar (Ab false)).trans (by unfold Ap;(first | rw[decide_eq_true (p:=(bx.length:Int)<=20) (by omega)] | rw[decide_eq_false (p:=(bx.length:Int)<=20) (by omega)]);simp_all)
 clear I e;exact (ho.aj (by cbv at j;cbv;repeat (simp only[j,E,J,M,S,U,e7,O,e9,V,a3,a1];try cbv)):_=Ar (Ab true)).trans (by unfold Ap;(first | rw[decide_eq_true (p:=(bx.length:Int)<=20) (by omega)] | rw[decide_eq_false (p:=(bx.length:Int)<=20) (by omega)]);simp_all)
theorem uc {k n:Int} {s:By} {l l1 bx l2:Lq} {pid:Int} {nm md:By} {no:Int} (e:o.call 105 [At k n s l] []=some ⟨Ay k n s,[],[Oq l1]⟩) (j:o.call 193 [Al bx] []=some ⟨.arr (0,0) (31,4) none false,[],[Oq l2]⟩):o.call 115 [Aw pid nm md no k n s l bx] []=some ⟨Ax pid nm md no k n s,[],[Oq l1,Oq l2]⟩:=by
 refine ho.aj ?_
 cbv
 repeat (simp only[*];try cbv)
theorem zG {k n:Int} {s:By} {l bx:Lq} {pid:Int} {nm md:By} {no:Int} (e:o.call 202 [At k n s l] []=Ar (At k n s l)) (j:o.call 167 [Al bx] []=Ar (Al bx)):o.call 110 [Aw pid nm md no k n s l bx] []=Ar (Aw pid nm md no k n s l bx):=by
 refine ho.aj ?_
 cbv
 repeat (simp only[*];try cbv)
theorem uZ (pid:Int) (nm md:By) (no k n:Int) (s:By) (l bx:Lq) {m:Nat} (e:Tm m (.agg [.int .i64 k,.int .i64 n,.str s,.lst l])) (j:∀x∈bx,Tm m x) (E:(bx.length:Int)<=1048576):
  o.call 115 [Aw pid nm md no k n s l bx] []=some ⟨Ax pid nm md no k n s,[],[Oq (bM l),Oq (bM bx)]⟩:=
 uc ho (jH ho m k n s l e) (rL ho m (jH ho m) bx j E)
def kD (e:Lq) (i:Int) (y:Lq):St:=⟨E 21 [(0,Al e),(3,.arr (19,0) (31,4) none false),(4,Ai i)],O 21 [(19,[Os y])]⟩
def gG (y:Lq):St:=⟨E 21 [(3,.arr (19,0) (31,4) none false)],O 21 [(19,[Os y])]⟩
theorem O_ {m:Nat} (e:Lq) (J:∀x∈e,Tm m x) (n1:Int) (O:(e.length:Int)=n1) (hl:n1<=1048576):∀i:Int,0<=i->i<=(n1:Int)->∀y:Lq,y=e.take i.toNat->o.loop 16700 (kD e i y)=some (.exit 0,gG e):=by
 refine cM (P:=λi=>∀y:Lq,y=e.take i.toNat->o.loop 16700 (kD e i y)=some (.exit 0,gG e)) (n1:Int) ?_;intro i M h1 S;try dsimp only at S |-
 intro y U;refine ho.fA λR Q=> ?_
 have e1:o.len e=n1:=(jA ho _).trans O;conv=>lhs;cbv;rw[e1];cbv
 rcases bn ho i n1 with ⟨V,g2⟩|⟨V,g2⟩<;>(conv=>lhs;rw[V];cbv)
 ·subst Q;show some (Out.exit 0,gG y)=_;rw[U,List.take_of_length_le (by omega)]
 obtain ⟨x,E,a1,I⟩:=aF O M (by omega);obtain ⟨m',n2,n3,s1,l1,a3,rfl,hs,a4,ht⟩:=bH (J _ I);have e3:=ay ho M E;have e4:o.call 202 [At n2 n3 s1 l1] []=Ar (At n2 n3 s1 l1):=mA ho m _ _ _ _ (J _ I);obtain ⟨l2,j⟩:∃z,z=e.take (i+1).toNat:=⟨_,rfl⟩
 have e5:o.app y [.agg [.int .i64 n2,.int .i64 n3,.str s1,.lst l1]]=l2:=(ho.app _ _).trans (by rw[U,j,BO M E]);have e6:o.fits 4 56 l2=true:=by exact cW ho (by rw[j,List.length_take];omega) (by decide) (by rw[j];exact λz hz=>sQ (J z (List.mem_of_mem_take hz)))
 obtain ⟨n4,e7,g7⟩:=bk ho i 1;conv=>lhs;rw[e3];cbv;rw[e4];cbv;rw[e5];cbv;rw[e6];cbv;rw[e7];cbv
 subst Q;rw[show n4=i+1 by omega];exact S (by omega) _ j
theorem IU {m:Nat} (e:Lq) (E:∀x∈e,Tm m x) (hl:(e.length:Int)<=1048576):o.call 167 [Al e] []=Ar (Al e):=by
 refine ho.aL λR Q=> ?_
 conv=>lhs;cbv
 obtain ⟨l1,I,j⟩:∃z,z=e/\o.loop 16700 (kD e 0 [])=some (.exit 0,gG z):=⟨_,rfl,O_ ho e E _ rfl hl 0 (Int.le_refl _) (by omega) [] rfl⟩
 conv at j=>lhs;cbv
 conv=>lhs;rw[j];cbv
 subst Q;rw[I]
theorem IV (a0_0 a0_1:Int) (j:By) (E:Lq):o.call 297 [At a0_0 a0_1 j E] []=Ar (Ab (decide (a0_0=2\/a0_0=3))):=by
 rcases av ho a0_0 2 with ⟨e,g1⟩|⟨e,g1⟩
 ·rcases av ho a0_0 3 with ⟨I,g2⟩|⟨I,g2⟩
  ·exact (ho.aj (by cbv;repeat (simp only[e,I];try cbv)):_=Ar (Ab false)).trans (by simp_all)
  exact (ho.aj (by cbv;repeat (simp only[e,I];try cbv)):_=Ar (Ab true)).trans (by simp_all)
 exact (ho.aj (by cbv;repeat (simp only[e];try cbv)):_=Ar (Ab true)).trans (by simp_all)
def cY (l:Lq) (n1 i:Int) (y:Lq):St:=⟨E 50 [(4,.arr (47,0) (120,8) none false),(11,Al l),(12,Ai n1),(13,Ai i)],O 50 [(47,[some (.orows (120,8) y)])]⟩
def fZ (y:Lq):St:=⟨E 50 [(2,.emp),(3,Ab false),(4,.arr (47,0) (120,8) none false)],O 50 [(47,[some (.orows (120,8) y)])]⟩
def kE (y:Lq):St:=⟨E 50 [(4,.arr (47,0) (120,8) none false)],O 50 [(47,[some (.orows (120,8) y)])]⟩
def bQ (k n:Int) (s:By) (l:Lq) (i:Int) (y:Lq):St:=⟨E 65 [(1,.sp [.int .i64 k,.int .i64 n,.str s,.lst l] 0),(4,.arr (63,0) (120,8) none false),(5,Ai i)],O 65 [(63,[some (.rows (120,8) y)])]⟩
def f9 (y:Lq):St:=⟨E 65 [(2,.emp),(3,Ab false),(4,.arr (63,0) (120,8) none false)],O 65 [(63,[some (.rows (120,8) y)])]⟩
def kF (y:Lq):St:=⟨E 65 [(4,.arr (63,0) (120,8) none false)],O 65 [(63,[some (.rows (120,8) y)])]⟩
theorem zH {k n:Int} {s:By} {l:Lq} (e:o.cmp .neq k 5=true):o.call 212 [At k n s l] []=Ar (.tup [.emp,Ab false]):=by
 refine ho.aj ?_
 cbv
 repeat (simp only[*];try cbv)
theorem zI {k:Int} {l:Lq} {n1:Int} {l1:Lq} {n:Int} {s:By} (j:o.cmp .neq k 5=false) (E:o.len l=n1) (e:o.loop 21200 (cY l n1 0 [])=some (.ret,fZ l1)):o.call 212 [At k n s l] []=Ar (.tup [.emp,Ab false]):=by
 refine ho.aj ?_
 cbv at e
 cbv
 repeat (simp only[*];try cbv)
theorem zJ {k:Int} {l:Lq} {n1:Int} {l1:Lq} {n:Int} {s:By} (j:o.cmp .neq k 5=false) (E:o.len l=n1) (e:o.loop 21200 (cY l n1 0 [])=some (.exit 0,kE l1)):o.call 212 [At k n s l] []=some ⟨.tup [.arr (0,0) (120,8) none false,Ab true],[],[some (.orows (120,8) l1)]⟩:=by
 refine ho.aj ?_
 cbv at e
 cbv
 repeat (simp only[*];try cbv)
theorem zK {k n:Int} {s:By} {l:Lq} (e:o.cmp .neq k 5=true):o.call 211 [At k n s l] []=Ar (.tup [Al [],Ab false]):=by
 refine ho.aj ?_
 cbv
 repeat (simp only[*];try cbv)
theorem zL {k n:Int} {s:By} {l l1:Lq} (j:o.cmp .neq k 5=false) (e:o.loop 21100 (bQ k n s l 0 [])=some (.ret,f9 l1)):o.call 211 [At k n s l] []=Ar (.tup [Al [],Ab false]):=by
 refine ho.aj ?_
 cbv at e
 cbv
 repeat (simp only[*];try cbv)
theorem zM {k n:Int} {s:By} {l l1:Lq} (j:o.cmp .neq k 5=false) (e:o.loop 21100 (bQ k n s l 0 [])=some (.exit 0,kF l1)):o.call 211 [At k n s l] []=Ar (.tup [Al l1,Ab true]):=by
 refine ho.aj ?_
 cbv at e
 cbv
 repeat (simp only[*];try cbv)
theorem vI {i n1:Int} {l:Lq} {n2 n3:Int} {s1:By} {l1 y:Lq} (e:o.cmp .lss i n1=true) (j:o.cF l i=some (Dt n2 n3 s1 l1)) (E:o.cmp .neq n2 4=true):o.loop 21200 (cY l n1 i y)=some (.ret,fZ y):=by
 refine ho.aB ?_
 cbv
 repeat (simp only[*];try cbv)
theorem vJ {i n1:Int} {l y:Lq} (e:o.cmp .lss i n1=false):o.loop 21200 (cY l n1 i y)=some (.exit 0,kE y):=by
 refine ho.aB ?_
 cbv
 repeat (simp only[*];try cbv)
theorem vK {i n1:Int} {l:Lq} {n2 n3:Int} {s1:By} {l1:Lq} {n4:Int} {y:Lq} (e:o.cmp .lss i n1=true) (j:o.cF l i=some (Dt n2 n3 s1 l1)) (E:o.cmp .neq n2 4=false) (I:o.len l1=n4) (J:o.cmp .neq n4 2=true):o.loop 21200 (cY l n1 i y)=some (.ret,fZ y):=by
 refine ho.aB ?_
 cbv
 repeat (simp only[*];try cbv)
theorem vL {i n1:Int} {l:Lq} {n2 n3:Int} {s1:By} {l1:Lq} {n4 n5 n6:Int} {s2:By} {l2:Lq} {n7 n8:Int} {e:By} {l3 E I y j:Lq} {n9:Int} (V:o.cmp .lss i n1=true) (e2:o.cF l i=some (Dt n2 n3 s1 l1)) (e3:o.cmp .neq n2 4=false) (e4:o.len l1=n4) (e5:o.cmp .neq n4 2=false) (e6:o.cF l1 0=some (Dt n5 n6 s2 l2)) (e7:o.call 297 [At n5 n6 s2 l2] []=Ar (Ab true)) (e8:o.cF l1 1=some (Dt n7 n8 e l3)) (e9:o.call 105 [At n5 n6 s2 l2] []=some ⟨Ay n5 n6 s2,[],[Oq E]⟩) (M:o.call 105 [At n7 n8 e l3] []=some ⟨Ay n7 n8 e,[],[Oq I]⟩) (O:o.app y [.agg [.int .i64 n5,.int .i64 n6,.str s2,.own (31,4) E,.int .i64 n7,.int .i64 n8,.str e,.own (31,4) I]]=j) (S:o.fits 8 112 j=true) (U:o.ar .add .i64 i 1=n9):∀z,o.loop 21200 (cY l n1 n9 j)=some z->o.loop 21200 (cY l n1 i y)=some z:=by
 intro z J;refine ho.aB ?_;rw[<-J];clear J
 cbv
 repeat (simp only[*];try cbv)
theorem vM {i n1:Int} {l:Lq} {n2 n3:Int} {s1:By} {l1:Lq} {n4 n5 n6:Int} {s2:By} {l2 y:Lq} (e:o.cmp .lss i n1=true) (j:o.cF l i=some (Dt n2 n3 s1 l1)) (E:o.cmp .neq n2 4=false) (I:o.len l1=n4) (J:o.cmp .neq n4 2=false) (M:o.cF l1 0=some (Dt n5 n6 s2 l2)) (O:o.call 297 [At n5 n6 s2 l2] []=Ar (Ab false)):o.loop 21200 (cY l n1 i y)=some (.ret,fZ y):=by
 refine ho.aB ?_
 cbv
 repeat (simp only[*];try cbv)
theorem vN {l:Lq} {n1 i n2 n3:Int} {s1:By} {l1:Lq} {k n:Int} {s:By} {y:Lq} (e:o.len l=n1) (j:o.cmp .lss i n1=true) (E:o.cF l i=some (Dt n2 n3 s1 l1)) (I:o.cmp .neq n2 4=true):o.loop 21100 (bQ k n s l i y)=some (.ret,f9 y):=by
 refine ho.aB ?_
 cbv
 repeat (simp only[*];try cbv)
theorem vO {l:Lq} {n1 i k n:Int} {s:By} {y:Lq} (e:o.len l=n1) (j:o.cmp .lss i n1=false):o.loop 21100 (bQ k n s l i y)=some (.exit 0,kF y):=by
 refine ho.aB ?_
 cbv
 repeat (simp only[*];try cbv)
theorem vP {l:Lq} {n1 i n2 n3:Int} {s1:By} {l1:Lq} {n4 k n:Int} {s:By} {y:Lq} (e:o.len l=n1) (j:o.cmp .lss i n1=true) (E:o.cF l i=some (Dt n2 n3 s1 l1)) (I:o.cmp .neq n2 4=false) (J:o.len l1=n4) (M:o.cmp .neq n4 2=true):o.loop 21100 (bQ k n s l i y)=some (.ret,f9 y):=by
 refine ho.aB ?_
 cbv
 repeat (simp only[*];try cbv)
theorem vQ {l:Lq} {n1 i n2 n3:Int} {s1:By} {l1:Lq} {n4 n5 n6:Int} {s2:By} {l2:Lq} {k n:Int} {s:By} {y:Lq} (e:o.len l=n1) (j:o.cmp .lss i n1=true) (E:o.cF l i=some (Dt n2 n3 s1 l1)) (I:o.cmp .neq n2 4=false) (J:o.len l1=n4) (M:o.cmp .neq n4 2=false) (O:o.cF l1 0=some (Dt n5 n6 s2 l2)) (S:o.cmp .neq n5 2=true) (U:o.cmp .neq n5 3=true):o.loop 21100 (bQ k n s l i y)=some (.ret,f9 y):=by
 refine ho.aB ?_
 cbv
 repeat (simp only[*];try cbv)
theorem vR {l:Lq} {n1 i n2 n3:Int} {s1:By} {l1:Lq} {n4 n5 n6:Int} {s2:By} {l2:Lq} {n7 n8:Int} {e:By} {l3 y j:Lq} {n9 k n:Int} {s:By} (U:o.len l=n1) (V:o.cmp .lss i n1=true) (e3:o.cF l i=some (Dt n2 n3 s1 l1)) (e4:o.cmp .neq n2 4=false) (e5:o.len l1=n4) (e6:o.cmp .neq n4 2=false) (e7:o.cF l1 0=some (Dt n5 n6 s2 l2)) (e8:o.cmp .neq n5 2=false) (e9:o.call 202 [At n5 n6 s2 l2] []=Ar (At n5 n6 s2 l2)) (I:o.cF l1 1=some (Dt n7 n8 e l3)) (J:o.call 202 [At n7 n8 e l3] []=Ar (At n7 n8 e l3)) (M:o.app y [.agg [.int .i64 n5,.int .i64 n6,.str s2,.lst l2,.int .i64 n7,.int .i64 n8,.str e,.lst l3]]=j) (O:o.fits 8 112 j=true) (S:o.ar .add .i64 i 1=n9):∀z,o.loop 21100 (bQ k n s l n9 j)=some z->o.loop 21100 (bQ k n s l i y)=some z:=by
 intro z E;refine ho.aB ?_;rw[<-E];clear E
 cbv
 repeat (simp only[*];try cbv)
theorem vS {l:Lq} {n1 i n2 n3:Int} {s1:By} {l1:Lq} {n4 n5 n6:Int} {s2:By} {l2:Lq} {n7 n8:Int} {e:By} {l3 y j:Lq} {n9 k n:Int} {s:By} (V:o.len l=n1) (e2:o.cmp .lss i n1=true) (e3:o.cF l i=some (Dt n2 n3 s1 l1)) (e4:o.cmp .neq n2 4=false) (e5:o.len l1=n4) (e6:o.cmp .neq n4 2=false) (e7:o.cF l1 0=some (Dt n5 n6 s2 l2)) (e8:o.cmp .neq n5 2=true) (e9:o.cmp .neq n5 3=false) (I:o.call 202 [At n5 n6 s2 l2] []=Ar (At n5 n6 s2 l2)) (J:o.cF l1 1=some (Dt n7 n8 e l3)) (M:o.call 202 [At n7 n8 e l3] []=Ar (At n7 n8 e l3)) (O:o.app y [.agg [.int .i64 n5,.int .i64 n6,.str s2,.lst l2,.int .i64 n7,.int .i64 n8,.str e,.lst l3]]=j) (S:o.fits 8 112 j=true) (U:o.ar .add .i64 i 1=n9):∀z,o.loop 21100 (bQ k n s l n9 j)=some z->o.loop 21100 (bQ k n s l i y)=some z:=by
 intro z E;refine ho.aB ?_;rw[<-E];clear E
 cbv
 repeat (simp only[*];try cbv)
theorem IW (pid:Int) (nm md:By) (no k n:Int) (s:By) (l bx:Lq) {m:Nat} (e:Tm m (.agg [.int .i64 k,.int .i64 n,.str s,.lst l])) (j:∀x∈bx,Tm m x) (E:(bx.length:Int)<=1048576):
 o.call 110 [Aw pid nm md no k n s l bx] []=Ar (Aw pid nm md no k n s l bx):=zG ho (mA ho m k n s l e) (IU ho bx j E)
def VZ (o:aM) (l:Lq) (n:Int) (pre:Lq) (i:Int):Prop:=
 (∃z,oU (l.drop i.toNat)=some z/\o.loop 21200 (cY l n i (pre.map iX))=some (.exit 0,kE ((pre++z).map iX)))\/(oU (l.drop i.toNat)=none/\∃y,o.loop 21200 (cY l n i (pre.map iX))=some (.ret,fZ y))
theorem IX {m:Nat} (l:Lq) (hT:∀x∈l,Tm m x) (n:Int) (hn:(l.length:Int)=n) (hb:n<=1048576):∀i:Int,0<=i->i<=n->∀pre:Lq,(pre.length:Int)=i->(∀x∈pre,Kz m x)->VZ o l n pre i:=by
 refine cM (P:=λi=>∀pre:Lq,(pre.length:Int)=i->(∀x∈pre,Kz m x)->VZ o l n pre i) n ?_;intro i h0 h1 ih pre hp hc;rcases bn ho i n with ⟨I,g1⟩ | ⟨I,g1⟩
 ·exact .inl ⟨[],by rw[bL hn (by omega)];rfl,by rw[List.append_nil];exact vJ ho I⟩
 obtain ⟨x,a5,e,a6⟩:=aF hn h0 g1;have a0:=hT _ a6;obtain ⟨m1,n2,n3,s1,l1,hd,rfl,hs,a8,ht⟩:=bH a0;have O:=ay ho h0 a5;rcases cD ho n2 4 with ⟨J,g3⟩ | ⟨J,g3⟩
 case inr=>exact .inr ⟨by rw[e];exact t_ (NM g3),_,vI ho I O J⟩
 obtain ⟨n4,e4,g4⟩:=aC ho l1;rcases cD ho n4 2 with ⟨S,g5⟩ | ⟨S,g5⟩
 case inr=>exact .inr ⟨by rw[e];exact t_ (FG (by omega)),_,vK ho I O J e4 S⟩
 obtain ⟨a,b,rfl⟩:=IL (l:=l1) (by omega);have a1:=ht a (by simp);have a3:=ht b (by simp);obtain ⟨m2,n5,n6,s2,l2,a9,rfl,hs2,aa,ac⟩:=bH a1;obtain ⟨m3,n7,n8,E,l3,ae,rfl,ag,hl3,am⟩:=bH a3;have e6:=ay ho (xs:=[D.agg [.int .i64 n5,.int .i64 n6,.str s2,.lst l2],.agg [.int .i64 n7,.int .i64 n8,.str E,.lst l3]]) (i:=0) (Int.le_refl _) rfl;by_cases U:n5=2\/n5=3
 case neg=>exact .inr ⟨by rw[e];exact t_ (NN U),_,vM ho I O J e4 S e6 ((IV ho _ _ _ _).trans (by rw[decide_eq_false U]))⟩
 have e8:=ay ho (xs:=[D.agg [.int .i64 n5,.int .i64 n6,.str s2,.lst l2],.agg [.int .i64 n7,.int .i64 n8,.str E,.lst l3]]) (i:=1) (by omega) rfl;have M:=FI (n:=n3) (s:=s1) (n1:=n6) (n2:=n8) (k2:=n7) (s1:=s2) (s2:=E) (l1:=l2) (l2:=l3) g3 U;have a7:=Eh M a0;have a4:∀x∈pre++[D.agg [.int .i64 n5,.int .i64 n6,.str s2,.lst l2,.int .i64 n7,.int .i64 n8,.str E,.lst l3]],Kz m x:=λx j=>by
  rcases List.mem_append.1 j with j | j
  ·exact hc x j
  rw[List.mem_singleton]at j;rw[j];exact a7
 have ea:o.app (pre.map iX) [.agg [.int .i64 n5,.int .i64 n6,.str s2,.own (31,4) (bM l2),.int .i64 n7,.int .i64 n8,.str E,.own (31,4) (bM l3)]]=(pre++[D.agg [.int .i64 n5,.int .i64 n6,.str s2,.lst l2,.int .i64 n7,.int .i64 n8,.str E,.lst l3]]).map iX:=(ho.app _ _).trans (by rw[List.map_append];rfl);have ef:o.fits 8 112 ((pre++[D.agg [.int .i64 n5,.int .i64 n6,.str s2,.lst l2,.int .i64 n7,.int .i64 n8,.str E,.lst l3]]).map iX)=true:=cW ho (by simp;omega) (by decide) λx j=>by
  obtain ⟨y,M,rfl⟩:=List.mem_map.1 j;exact (Db (a4 y M)).2
 have ed:o.ar .add .i64 i 1=i+1:=dm ho (by omega) (by omega);have step:=vL ho I O J e4 S e6 ((IV ho _ _ _ _).trans (by rw[decide_eq_true U])) e8 (jH ho m1 _ _ _ _ a1) (jH ho m1 _ _ _ _ a3) ea ef ed;rcases ih g1 _ (by simp;omega) a4 with ⟨z,hz,V⟩ | ⟨hz,y,V⟩
 ·exact .inl ⟨_,by rw[e];exact IK M hz,by rw[List.append_assoc]at V;exact step _ V⟩
 exact .inr ⟨by rw[e];exact FE M hz,y,step _ V⟩
def SE (o:aM) (k e:Int) (s:By) (l pre:Lq) (i:Int):Prop:=
 (∃z,oU (l.drop i.toNat)=some z/\o.loop 21100 (bQ k e s l i pre)=some (.exit 0,kF (pre++z)))\/(oU (l.drop i.toNat)=none/\∃y,o.loop 21100 (bQ k e s l i pre)=some (.ret,f9 y))
theorem IY {m:Nat} (k O:Int) (s:By) (l:Lq) (hT:∀x∈l,Tm m x) (n:Int) (hn:(l.length:Int)=n) (hb:n<=1048576):∀i:Int,0<=i->i<=n->∀pre:Lq,(pre.length:Int)=i->(∀x∈pre,Kz m x)->SE o k O s l pre i:=by
 refine cM (P:=λi=>∀pre:Lq,(pre.length:Int)=i->(∀x∈pre,Kz m x)->SE o k O s l pre i) n ?_;intro i h0 h1 ih pre hp hc;have J:o.len l=n:=(jA ho _).trans hn;rcases bn ho i n with ⟨I,g1⟩ | ⟨I,g1⟩
 ·exact .inl ⟨[],by rw[bL hn (by omega)];rfl,by rw[List.append_nil];exact vO ho J I⟩
 obtain ⟨x,a6,j,a7⟩:=aF hn h0 g1;have a0:=hT _ a7;obtain ⟨m1,n2,n3,s1,l1,hd,rfl,hs,a9,ht⟩:=bH a0;have S:=ay ho h0 a6;rcases cD ho n2 4 with ⟨M,g3⟩ | ⟨M,g3⟩
 case inr=>exact .inr ⟨by rw[j];exact t_ (NM g3),_,vN ho J I S M⟩
 obtain ⟨n4,e4,g4⟩:=aC ho l1;rcases cD ho n4 2 with ⟨U,g5⟩ | ⟨U,g5⟩
 case inr=>exact .inr ⟨by rw[j];exact t_ (FG (by omega)),_,vP ho J I S M e4 U⟩
 obtain ⟨a,b,rfl⟩:=IL (l:=l1) (by omega);have a1:=ht a (by simp);have a3:=ht b (by simp);obtain ⟨m2,n5,n6,s2,l2,aa,rfl,hs2,ac,ae⟩:=bH a1;obtain ⟨m3,n7,n8,e,l3,ag,rfl,am,hl3,an⟩:=bH a3;have e6:=ay ho (xs:=[D.agg [.int .i64 n5,.int .i64 n6,.str s2,.lst l2],.agg [.int .i64 n7,.int .i64 n8,.str e,.lst l3]]) (i:=0) (Int.le_refl _) rfl;have e8:=ay ho (xs:=[D.agg [.int .i64 n5,.int .i64 n6,.str s2,.lst l2],.agg [.int .i64 n7,.int .i64 n8,.str e,.lst l3]]) (i:=1) (by omega) rfl;have a4:=mA ho m1 _ _ _ _ a1;have a5:=mA ho m1 _ _ _ _ a3;have ea:o.app pre [.agg [.int .i64 n5,.int .i64 n6,.str s2,.lst l2,.int .i64 n7,.int .i64 n8,.str e,.lst l3]]=pre++[D.agg [.int .i64 n5,.int .i64 n6,.str s2,.lst l2,.int .i64 n7,.int .i64 n8,.str e,.lst l3]]:=ho.app _ _;have ed:o.ar .add .i64 i 1=i+1:=dm ho (by omega) (by omega);have fin:(n5=2\/n5=3)->((∀x∈pre++[D.agg [.int .i64 n5,.int .i64 n6,.str s2,.lst l2,.int .i64 n7,.int .i64 n8,.str e,.lst l3]],Kz m x)->o.fits 8 112 (pre++[D.agg [.int .i64 n5,.int .i64 n6,.str s2,.lst l2,.int .i64 n7,.int .i64 n8,.str e,.lst l3]])=true->∀z,o.loop 21100 (bQ k O s l (i+1) (pre++[D.agg [.int .i64 n5,.int .i64 n6,.str s2,.lst l2,.int .i64 n7,.int .i64 n8,.str e,.lst l3]]))=some z->o.loop 21100 (bQ k O s l i pre)=some z)->SE o k O s l pre i:=λh7 step=>by
  have hy:=FI (n:=n3) (s:=s1) (n1:=n6) (n2:=n8) (k2:=n7) (s1:=s2) (s2:=e) (l1:=l2) (l2:=l3) g3 h7;have a8:=Eh hy a0;have V:∀x∈pre++[D.agg [.int .i64 n5,.int .i64 n6,.str s2,.lst l2,.int .i64 n7,.int .i64 n8,.str e,.lst l3]],Kz m x:=λx E=>by
   rcases List.mem_append.1 E with E | E
   ·exact hc x E
   rw[List.mem_singleton]at E;rw[E];exact a8
  have ef:o.fits 8 112 (pre++[D.agg [.int .i64 n5,.int .i64 n6,.str s2,.lst l2,.int .i64 n7,.int .i64 n8,.str e,.lst l3]])=true:=cW ho (by simp;omega) (by decide) λx E=>(Db (V x E)).1
  have step:=step V ef;rcases ih g1 _ (by simp;omega) V with ⟨z,hz,i1⟩ | ⟨hz,y,i1⟩
  ·exact .inl ⟨_,by rw[j];exact IK hy hz,by rw[List.append_assoc]at i1;exact step _ i1⟩
  exact .inr ⟨by rw[j];exact FE hy hz,y,step _ i1⟩
 rcases cD ho n5 2 with ⟨e7,g7⟩ | ⟨e7,g7⟩
 ·exact fin (.inl g7) λ_ ef=>vR ho J I S M e4 U e6 e7 a4 e8 a5 ea ef ed
 rcases cD ho n5 3 with ⟨e9,g9⟩ | ⟨e9,g9⟩
 ·exact fin (.inr g9) λ_ ef=>vS ho J I S M e4 U e6 e7 e9 a4 e8 a5 ea ef ed
 exact .inr ⟨by rw[j];exact t_ (NN (by omega)),_,vQ ho J I S M e4 U e6 e7 e9⟩
theorem Ek {m:Nat} (k n:Int) (s:By) (l:Lq) (J:∀x∈l,Tm m x) (V:(l.length:Int)<=1048576):
  (o.call 212 [At k n s l] []=Ar (.tup [.emp,Ab false])/\o.call 211 [At k n s l] []=Ar (.tup [Al [],Ab false]))\/
  ∃z:Lq,oU l=some z/\(z.length:Int)<=1048576/\o.call 212 [At k n s l] []=some ⟨.tup [.arr (0,0) (120,8) none false,Ab true],[],[some (.orows (120,8) (z.map iX))]⟩/\o.call 211 [At k n s l] []=Ar (.tup [Al z,Ab true]):=by
 rcases cD ho k 5 with ⟨j,g1⟩ | ⟨j,g1⟩
 case inr=>exact .inl ⟨zH ho j,zK ho j⟩
 obtain ⟨n1,S,g2⟩:=aC ho l;have hI:=IX ho l J n1 g2.symm (by omega) 0 (Int.le_refl _) (by omega) [] rfl (λx I=>by cases I);have U:=IY ho k n s l J n1 g2.symm (by omega) 0 (Int.le_refl _) (by omega) [] rfl (λx I=>by cases I);rcases hI with ⟨z,E,M⟩ | ⟨E,y,M⟩
 ·rcases U with ⟨z',e,O⟩ | ⟨e,_⟩
  ·rw[E]at e;injection e with e;subst e;obtain ⟨q1,q2⟩:=FJ E (λx I=>J x (by simpa using I));exact .inr ⟨z,by simpa using E,by rw[q2];simpa using V,zJ ho j S M,zM ho j O⟩
  rw[E]at e;cases e
 rcases U with ⟨z',e,_⟩ | ⟨_,y2,O⟩
 ·rw[E]at e;cases e
 exact .inl ⟨zI ho j S M,zL ho j O⟩
end
end T2
