import Derived.Test.YtfnagkpidcdocaaGreatM29
import Derived.Test.YtfnagkpidcdocaaGreatM32
set_option linter.all false
namespace T2
open Go Go.Vi Go.Proofs
set_option maxRecDepth 100000
set_option maxHeartbeats 4000000
section
variable {o:aM} (ho:aQ cu bw o)
include ho
theorem ul {k n:Int} {s:By} {l l1 bx l2 l3 e:Lq} {pid:Int} {nm md:By} {no:Int} (j:o.call 88 [At k n s l] []=some ⟨.agg [Ai k,Ai n,As s,.arr (0,0) (31,4) none true],[],[Oq l1]⟩) (E:o.call 18 [Al bx] []=some ⟨.arr (0,0) (31,4) none true,[],[Oq l2]⟩) (I:o.bE l1=l3) (J:o.bE l2=e):o.call 100038 [Aw pid nm md no k n s l bx] []=Ar (Aw pid nm md no k n s l3 e):=by
 refine ho.aj ?_
 cbv
 repeat (simp only[*];try cbv)
theorem um {k n:Int} {s:By} {q:Int} {l:Lq} {n1:Int} {l1 bx:Lq} {n2:Int} {l2:Lq} {pid:Int} {nm md:By} {no:Int} (e:o.call 25 [.agg [Ai k,Ai n,As s,.arr (1,0) (31,4) none true],Ai q] [Oq l]=some ⟨Ai n1,[Oq l1],[]⟩) (j:o.call 24 [.arr (1,0) (31,4) none true,Ai n1] [Oq bx]=some ⟨Ai n2,[Oq l2],[]⟩):o.call 43 [.agg [Ai pid,As nm,As md,Ai no,Ai k,Ai n,As s,.arr (1,0) (31,4) none true,.arr (1,1) (31,4) none true],Ai q] [Oq l,Oq bx]=some ⟨Ai n2,[Oq l1,Oq l2],[]⟩:=by
 refine ho.aj ?_
 cbv
 repeat (simp only[*];try cbv)
theorem vT {k:Int} {l:Lq} {n1:Int} {l1:Lq} {m n:Int} {s:By} (e:o.call 24 [.arr (1,0) (31,4) none true,Ai k] [Oq l]=some ⟨Ai n1,[Oq l1],[]⟩):o.call 25 [.agg [Ai m,Ai n,As s,.arr (1,0) (31,4) none true],Ai k] [Oq l]=some ⟨Ai n1,[Oq l1],[]⟩:=by
 refine ho.aj ?_
 cbv
 repeat (simp only[*];try cbv)
theorem sY {k n:Int} {s:By} {q:Int} {l:Lq} {n1:Int} {l1 bx:Lq} {n2:Int} {l2:Lq} {pid:Int} {nm md:By} {no:Int} (e:o.call 25 [.agg [Ai k,Ai n,As s,.arr (1,0) (31,4) none false],Ai q] [Oq l]=some ⟨Ai n1,[Oq l1],[]⟩) (j:o.call 24 [.arr (1,0) (31,4) none false,Ai n1] [Oq bx]=some ⟨Ai n2,[Oq l2],[]⟩):o.call 43 [.agg [Ai pid,As nm,As md,Ai no,Ai k,Ai n,As s,.arr (1,0) (31,4) none false,.arr (1,1) (31,4) none false],Ai q] [Oq l,Oq bx]=some ⟨Ai n2,[Oq l1,Oq l2],[]⟩:=by
 refine ho.aj ?_
 cbv
 repeat (simp only[*];try cbv)
theorem uo {k:Int} {l:Lq} {n1:Int} {l1:Lq} {m n:Int} {s:By} (e:o.call 24 [.arr (1,0) (31,4) none false,Ai k] [Oq l]=some ⟨Ai n1,[Oq l1],[]⟩):o.call 25 [.agg [Ai m,Ai n,As s,.arr (1,0) (31,4) none false],Ai k] [Oq l]=some ⟨Ai n1,[Oq l1],[]⟩:=by
 refine ho.aj ?_
 cbv
 repeat (simp only[*];try cbv)
theorem uq {k n:Int} {s:By} {l:Lq} {q n1:Int} {bx:Lq} {n2 pid:Int} {nm md:By} {no:Int} (e:o.call 26 [At k n s l,Ai q] []=Ar (Ai n1)) (j:o.cmp .lss n1 0=false) (E:o.call 97 [Al bx,Ai n1] []=Ar (Ai n2)) (I:o.cmp .lss n2 0=false):o.call 44 [Aw pid nm md no k n s l bx,Ai q] []=Ar (Ai n2):=by
 refine ho.aj ?_
 cbv
 repeat (simp only[*];try cbv)
def oR (k:Int):St:=⟨E 79 [(0,.emp),(1,Ai k),(5,Ai 0)],O 79 []⟩
def mB (k:Int):St:=⟨E 79 [(1,Ai k)],O 79 []⟩
theorem sZ {k:Int}:o.loop 4800 (oR k)=some (.exit 0,mB k):=by
 refine ho.aB ?_;have e:o.cmp .lss 0 0=false:=by rw[ho.cmp];rfl
 cbv
 repeat (simp only[*];try cbv)
theorem ur {k:Int} (e:o.loop 4800 (oR k)=some (.exit 0,mB k)):o.call 48 [.emp,Ai k] []=Ar (Ai k):=by
 refine ho.aj ?_
 cbv at e
 cbv
 repeat (simp only[*];try cbv)
theorem qY {tl:Lq} {n1 pid:Int} {nm md:By} {no k n:Int} {s:By} {l bx:Lq} (e:o.call 34 [Al tl,Ai 1048576] []=Ar (Ai n1)) (j:o.cmp .lss n1 0=true):o.call 6 [Al tl,Aw pid nm md no k n s l bx] []=Ar (Ab true):=by
 refine ho.aj ?_
 cbv
 repeat (simp only[*];try cbv)
theorem qZ {tl:Lq} {n1 pid:Int} {nm md:By} {no k n:Int} {s:By} {l bx:Lq} {n2:Int} (e:o.call 34 [Al tl,Ai 1048576] []=Ar (Ai n1)) (j:o.cmp .lss n1 0=false) (E:o.call 35 [Aw pid nm md no k n s l bx,Ai n1] []=Ar (Ai n2)) (I:o.cmp .lss n2 0=true):o.call 6 [Al tl,Aw pid nm md no k n s l bx] []=Ar (Ab true):=by
 refine ho.aj ?_
 cbv
 repeat (simp only[*];try cbv)
theorem pR {tl:Lq} {n1 pid:Int} {nm md:By} {no k n:Int} {s:By} {l bx:Lq} {n2 n3 n4:Int} {s1:By} {l1 l2 l3:Lq} {n5:Int} {l4 l5 l6 l7 l8 l9:Lq} {n6 n7:Int} {s2:By} {n8:Int} {e j E U V a0:Lq} {n9:Int} {ap:Lq} {a1:Int} {aw az:Lq} {a3:Int} {a4 a5:Lq} {a6:Int} {a7 a8 a9:Lq} {I:Int} {aa:Lq} {J ac ae:Int} {s3:By} {ag:Int} {M O S am an ao:Lq} (e1:o.call 34 [Al tl,Ai 1048576] []=Ar (Ai n1)) (e2:o.cmp .lss n1 0=false) (e3:o.call 35 [Aw pid nm md no k n s l bx,Ai n1] []=Ar (Ai n2)) (e4:o.cmp .lss n2 0=false) (e5:o.call 100037 [Al tl] []=Ar (Al tl)) (e6:o.call 100038 [Aw pid nm md no k n s l bx] []=Ar (Aw pid nm md no k n s l bx)) (e7:o.call 45 [Al tl,Aw pid nm md no k n s l bx] []=Ar (.tup [Aw pid nm md no n3 n4 s1 l1 l2,Al l3,Ai n5])) (e8:o.call 37 [Al tl] []=some ⟨.arr (0,0) (158,7) none true,[],[some (.orows (158,7) l4)]⟩) (e9:o.call 38 [Aw pid nm md no k n s l bx] []=some ⟨.agg [Ai pid,As nm,As md,Ai no,Ai k,Ai n,As s,.arr (0,0) (31,4) none true,.arr (0,1) (31,4) none true],[],[Oq l5,Oq l6]⟩) (b0:o.bE l4=l7) (b1:o.bE l5=l8) (b2:o.bE l6=l9) (b3:o.call 46 [Al l7,Aw pid nm md no k n s l8 l9] []=some ⟨.tup [Ax pid nm md no n6 n7 s2,.arr (0,2) (120,8) none false,Ai n8],[],[Oq e,Oq j,some (.orows (120,8) E)]⟩) (b4:o.closed e=true) (b5:o.closed j=true) (b6:o.closed E=true) (b7:o.bE e=U) (b8:o.bE j=V) (b9:o.call 40 [Aw pid nm md no n6 n7 s2 U V,Aw pid nm md no n3 n4 s1 l1 l2] []=Ar (Ab true)) (bb:o.bE E=a0) (bc:o.call 47 [Al a0,Al l3] []=Ar (Ab true)) (bd:o.cmp .neq n8 n5=false) (be:o.call 41 [Al l7,Al tl] []=Ar (Ab true)) (bi:o.call 40 [Aw pid nm md no k n s l8 l9,Aw pid nm md no k n s l bx] []=Ar (Ab true)) (bj:o.call 42 [.arr (1,0) (158,7) none true,Ai 1] [some (.orows (158,7) l4)]=some ⟨Ai n9,[some (.orows (158,7) ap)],[]⟩) (bl:o.call 43 [.agg [Ai pid,As nm,As md,Ai no,Ai k,Ai n,As s,.arr (1,0) (31,4) none true,.arr (1,1) (31,4) none true],Ai n9] [Oq l5,Oq l6]=some ⟨Ai a1,[Oq aw,Oq az],[]⟩) (bm:o.cmp .lss a1 0=false) (bo:o.call 43 [.agg [Ai pid,As nm,As md,Ai no,Ai n6,Ai n7,As s2,.arr (1,0) (31,4) none false,.arr (1,1) (31,4) none false],Ai 1] [Oq e,Oq j]=some ⟨Ai a3,[Oq a4,Oq a5],[]⟩) (bs:o.call 48 [.arr (1,0) (120,8) none false,Ai a3] [some (.orows (120,8) E)]=some ⟨Ai a6,[some (.orows (120,8) a7)],[]⟩) (bt:o.bE a4=a8) (bu:o.bE a5=a9) (bv:o.call 44 [Aw pid nm md no n6 n7 s2 a8 a9,Ai 1] []=Ar (Ai I)) (bz:o.cmp .lss I 0=false) (c0:o.bE a7=aa) (c1:o.call 49 [Al aa,Ai I] []=Ar (Ai J)) (c3:o.cmp .lss J 0=false) (c4:o.cmp .neq J a6=false) (c5:o.call 46 [Al tl,Aw pid nm md no k n s l bx] []=some ⟨.tup [Ax pid nm md no ac ae s3,.arr (0,2) (120,8) none false,Ai ag],[],[Oq M,Oq O,some (.orows (120,8) S)]⟩) (c6:o.closed M=true) (c7:o.closed O=true) (c8:o.closed S=true) (c9:o.bE M=am) (ch:o.bE O=an) (ci:o.call 40 [Aw pid nm md no ac ae s3 am an,Aw pid nm md no n3 n4 s1 l1 l2] []=Ar (Ab true)) (cl:o.bE S=ao) (co:o.call 47 [Al ao,Al l3] []=Ar (Ab true)) (cp:o.cmp .neq ag n5=false):o.call 6 [Al tl,Aw pid nm md no k n s l bx] []=Ar (Ab true):=by
 refine ho.aj ?_
 cbv
 repeat (simp only[*];try cbv)
theorem pT {tl:Lq} {n1 pid:Int} {nm md:By} {no k n:Int} {s:By} {l bx:Lq} {n2 n3 n4:Int} {s1:By} {l1 l2 l3:Lq} {n5:Int} {l4 l5 l6 l7 l8 l9:Lq} {n6 n7:Int} {s2:By} {n8:Int} {e j O S:Lq} {n9:Int} {ac:Lq} {U:Int} {ae ag:Lq} {V:Int} {a0 a1:Lq} {a3:Int} {a4 a5:Lq} {E I a6 a7:Int} {s3:By} {a8:Int} {J M a9 aa:Lq} (e1:o.call 34 [Al tl,Ai 1048576] []=Ar (Ai n1)) (e2:o.cmp .lss n1 0=false) (e3:o.call 35 [Aw pid nm md no k n s l bx,Ai n1] []=Ar (Ai n2)) (e4:o.cmp .lss n2 0=false) (e5:o.call 100037 [Al tl] []=Ar (Al tl)) (e6:o.call 100038 [Aw pid nm md no k n s l bx] []=Ar (Aw pid nm md no k n s l bx)) (e7:o.call 45 [Al tl,Aw pid nm md no k n s l bx] []=Ar (.tup [Aw pid nm md no n3 n4 s1 l1 l2,Al l3,Ai n5])) (e8:o.call 37 [Al tl] []=some ⟨.arr (0,0) (158,7) none true,[],[some (.orows (158,7) l4)]⟩) (e9:o.call 38 [Aw pid nm md no k n s l bx] []=some ⟨.agg [Ai pid,As nm,As md,Ai no,Ai k,Ai n,As s,.arr (0,0) (31,4) none true,.arr (0,1) (31,4) none true],[],[Oq l5,Oq l6]⟩) (am:o.bE l4=l7) (an:o.bE l5=l8) (ao:o.bE l6=l9) (ap:o.call 46 [Al l7,Aw pid nm md no k n s l8 l9] []=some ⟨.tup [Ax pid nm md no n6 n7 s2,.emp,Ai n8],[],[Oq e,Oq j]⟩) (aw:o.closed e=true) (az:o.closed j=true) (b0:o.bE e=O) (b1:o.bE j=S) (b2:o.call 40 [Aw pid nm md no n6 n7 s2 O S,Aw pid nm md no n3 n4 s1 l1 l2] []=Ar (Ab true)) (b3:o.call 47 [Al [],Al l3] []=Ar (Ab true)) (b4:o.cmp .neq n8 n5=false) (b5:o.call 41 [Al l7,Al tl] []=Ar (Ab true)) (b6:o.call 40 [Aw pid nm md no k n s l8 l9,Aw pid nm md no k n s l bx] []=Ar (Ab true)) (b7:o.call 42 [.arr (1,0) (158,7) none true,Ai 1] [some (.orows (158,7) l4)]=some ⟨Ai n9,[some (.orows (158,7) ac)],[]⟩) (b8:o.call 43 [.agg [Ai pid,As nm,As md,Ai no,Ai k,Ai n,As s,.arr (1,0) (31,4) none true,.arr (1,1) (31,4) none true],Ai n9] [Oq l5,Oq l6]=some ⟨Ai U,[Oq ae,Oq ag],[]⟩) (b9:o.cmp .lss U 0=false) (bb:o.call 43 [.agg [Ai pid,As nm,As md,Ai no,Ai n6,Ai n7,As s2,.arr (1,0) (31,4) none false,.arr (1,1) (31,4) none false],Ai 1] [Oq e,Oq j]=some ⟨Ai V,[Oq a0,Oq a1],[]⟩) (bc:o.call 48 [.emp,Ai V] []=Ar (Ai a3)) (bd:o.bE a0=a4) (be:o.bE a1=a5) (bi:o.call 44 [Aw pid nm md no n6 n7 s2 a4 a5,Ai 1] []=Ar (Ai E)) (bj:o.cmp .lss E 0=false) (bl:o.call 49 [Al [],Ai E] []=Ar (Ai I)) (bm:o.cmp .lss I 0=false) (bo:o.cmp .neq I a3=false) (bs:o.call 46 [Al tl,Aw pid nm md no k n s l bx] []=some ⟨.tup [Ax pid nm md no a6 a7 s3,.emp,Ai a8],[],[Oq J,Oq M]⟩) (bt:o.closed J=true) (bu:o.closed M=true) (bv:o.bE J=a9) (bz:o.bE M=aa) (c0:o.call 40 [Aw pid nm md no a6 a7 s3 a9 aa,Aw pid nm md no n3 n4 s1 l1 l2] []=Ar (Ab true)) (c1:o.cmp .neq a8 n5=false):o.call 6 [Al tl,Aw pid nm md no k n s l bx] []=Ar (Ab true):=by
 refine ho.aj ?_
 cbv
 repeat (simp only[*];try cbv)
end
end T2
namespace T2
open Go Go.Vi Go.Proofs Go.Proofs.Tryz
set_option maxRecDepth 100000
def twins:List (TypeId×TypeId):=[(60,71),(152,158),(25,37),(22,34),(242,226),(240,216),(388,224),(23,35),(245,249),(64,68),(26,29),(62,31),(3,3),(9,9),(4,4)]
theorem Jj:Oc prog twins=true:=by kernel_rfl
def Pv:List TypeId:=[68,79,120,29,31,3,9]
theorem Jk:uR prog Pv=true:=by kernel_rfl
theorem NS:∀(n:Nat) (ys:Lq),Own prog n 29 [.own (31,4) ys]->bM (aS ys)=ys:=by
 intro n;induction n using Nat.strongRecOn with
 | ind n V=>
  intro ys h;obtain ⟨zs,m,em,j,_,v⟩:=iP underlying29 oV h;injection j with j;injection j with _ j;subst j;rw[j6,gZ,List.map_map];refine (List.map_congr_left (g:=id) λy hy=> ?_).trans (List.map_id _);obtain ⟨O,S⟩:=v y hy;rw[show cV prog 31=true by unfold cV;rw[underlying31]]at S;cases m with
  | zero=>simp[Own]at O
  | succ m=>
   obtain ⟨d0,d1,d2,d3,e,o0,o1,o2,U⟩:=AE O;obtain ⟨i0,E,_⟩:=fu underlying3 o0;obtain ⟨i1,I,_⟩:=fu underlying3 o1;obtain ⟨s2,J,_⟩:=mN underlying9 o2;obtain ⟨l,_,_,M,_⟩:=iP underlying29 oV U;injection E with E;injection I with I;injection J with J;injection M with M;subst E I J M;rw[fK S,e];show sP (bB _)=_;simp only[bB,aS,sP,bM,V m (by omega) l U,id]
theorem pU {t:TypeId} {ds:Lq} {m:Nat}:∀{n:Nat},m<=n->Own prog m t ds->Own prog n t ds
 | 0,h,x=>by rw[Nat.le_zero.1 h]at x;exact x
 | n+1,h,x=>by
  by_cases e:m=n+1
  ·rw[e]at x;exact x
  exact dD _ _ _ (pU (by omega) x)
def SV (pid:Int) (nm md:By) (no k n:Int) (s:By) (l bx z:Lq):Prop:=
 ∃N,Own prog (N+1) 68 [.int .i64 pid,.str nm,.str md,.int .i64 no,.int .i64 k,.int .i64 n,.str s,.own (31,4) (bM l),.own (31,4) (bM bx)]/\Own prog (N+1) 79 [.own (120,8) (z.map iX)]/\
  aS (bM l)=l/\aS (bM bx)=bx/\aS (z.map iX)=z/\(l.length+dn l)+(bx.length+dn bx)+(z.length+dn z)<=140000000000000000
section
variable {o:aM} (ho:aQ cu bw o)
theorem L7 {l:Lq} (j:l.length<=maxLen) (h:∀x∈l,Rt o 8 x):Own prog 17 29 [.own (31,4) (bM l)]:=by
 refine lX underlying29 oV (by rw[pQ];exact j) λx e=> ?_
 rw[j6]at e;obtain ⟨y,E,rfl⟩:=List.mem_map.1 e;obtain ⟨a,b⟩:=xV (h y E);exact ⟨a,by rw[b];unfold cV;rw[underlying31]⟩
theorem Pw {z:Lq} (e:z.length<=maxLen) (h:∀x∈z,QG o x):Own prog 18 79 [.own (120,8) (z.map iX)]:=by
 refine lX underlying79 Az (by simpa using e) λx j=> ?_
 obtain ⟨y,E,rfl⟩:=List.mem_map.1 j;obtain ⟨k,n,s,l,k',n',s',l',rfl,a,b⟩:=h y E;exact ⟨Je ⟨(xV a).1,(xV b).1⟩,by unfold cV;rw[underlying120];rfl⟩
theorem Jl {z:Lq} (h:∀x∈z,QG o x):aS (z.map iX)=z:=by
 rw[gZ,List.map_map];refine (List.map_congr_left (g:=id) λy j=> ?_).trans (List.map_id _);obtain ⟨k,n,s,l,k',n',s',l',rfl,a,b⟩:=h y j;obtain ⟨_,_,_,E⟩:=lI a;obtain ⟨_,_,_,I⟩:=lI b;show D.agg [.int .i64 k,.int .i64 n,.str s,.lst (aS (bM l)),.int .i64 k',.int .i64 n',.str s',.lst (aS (bM l'))]=_;rw[iY λt e=>fO (E t e),iY λt e=>fO (I t e)];rfl
theorem Px {x:D} (h:QG o x):cnt x<=2*cB 8:=by
 obtain ⟨k,n,s,l,k',n',s',l',rfl,a,b⟩:=h;have ca:=xX a;have cb:=xX b;simp only[cnt,dn]at ca cb |-;omega
theorem Py {pid:Int} {nm md:By} {no k n:Int} {s:By} {l bx z:Lq} {m:Nat} {a b c d:D} {y:Lq} (O:Own prog (m+1) 68 [.int .i64 pid,.str nm,.str md,.int .i64 no,a,b,c,d,.own (31,4) y]) (h:WR o k n s l bx z):SV pid nm md no k n s l bx z:=by
 obtain ⟨Q,e,h20,j,J⟩:=h;obtain ⟨_,_,_,_,_,_,_,_,_,M,S,U,o2,V,_⟩:=Jd O;simp only[List.cons.injEq,and_true]at M;obtain ⟨rfl,rfl,rfl,rfl,_⟩:=M;obtain ⟨_,_,_,hl⟩:=lI Q;have h8:cB 8<=2847000000000:=by decide
 have hc:=xX Q;have c1:=wq λy E=>xX (e y E)
 have c2:(bx.length:Int)*cB 8<=20*cB 8:=Int.mul_le_mul_of_nonneg_right h20 (Gd 8);have c3:=wq λy E=>Px (j y E)
 have c4:(z.length:Int)*(2*cB 8)<=60*(2*cB 8):=Int.mul_le_mul_of_nonneg_right J (by have:=Gd 8;omega);simp only[cnt,dn]at hc;refine ⟨m+40,FQ ⟨pU (by omega) S,pU (by omega) U,pU (by omega) o2,pU (by omega) V,pU (m:=16) (by omega) (xV Q).1,pU (m:=17) (by omega) (L7 (by unfold maxLen;omega) e)⟩,pU (m:=18) (by omega) (Pw (by unfold maxLen;omega) j),iY λt I=>fO (hl t I),iY λt I=>fO (e t I),Jl j,by omega⟩
include ho
theorem Jm {n:Nat} {tl:Lq} (h:Fits prog n 60 [.lst tl]) (M:Sm 1048576 (.lst tl)):LV tl:=by
 obtain ⟨ys,m,em,j,w,v⟩:=bF underlying60 h;injection j with j;injection j with j;subst j em;simp only[Sm,kX]at M;refine ⟨λx O=> ?_,by omega⟩;obtain ⟨g1,g2⟩:=v x O;have gs:=kf (M.2 x O);rw[show cV prog 152=true by unfold cV;rw[underlying152]]at g2;cases m with
 | zero=>simp[Fits]at g1
 | succ m=>
  obtain ⟨c0,c1,c2,c3,c4,c5,c6,e,U,V,f2,f3,f4⟩:=sV g1;obtain ⟨s,E,_⟩:=bX underlying9 U;injection E with E;subst E;obtain ⟨i,I,_⟩:=fits_int underlying3 V;injection I with I;subst I;obtain ⟨b,J⟩:=fits_bool underlying4 f3;injection J with J;subst J;rw[e]at gs;simp only[kN]at gs;obtain ⟨f,p,ec,hK⟩:=AF ho f2 (by simp only[kN];simp[gs]);simp only[List.cons.injEq,and_true]at ec;obtain ⟨rfl,rfl⟩:=ec;obtain ⟨g,q,ec,S⟩:=AF ho f4 (by simp only[kN];simp[gs]);simp only[List.cons.injEq,and_true]at ec;obtain ⟨rfl,rfl⟩:=ec;rw[fK g2,e];exact ⟨s,i,f,p,b,g,q,rfl,by have:=gs.1;simp only[Sm]at this;omega,hK,S⟩
theorem L8 {pid:Int} {nm md:By} {no k n:Int} {s:By} {l bx z:Lq} (h:SV pid nm md no k n s l bx z):
  ∃e M E I J,o.call 43 [.agg [Ai pid,As nm,As md,Ai no,Ai k,Ai n,As s,.arr (1,0) (31,4) none false,.arr (1,1) (31,4) none false],Ai 1] [Oq (bM l),Oq (bM bx)]=some ⟨Ai e,[Oq E,Oq I],[]⟩/\
   o.call 48 [.arr (1,0) (120,8) none false,Ai e] [some (.orows (120,8) (z.map iX))]=some ⟨Ai M,[some (.orows (120,8) J)],[]⟩/\
   o.call 44 [Aw pid nm md no k n s (aS E) (aS I),Ai 1] []=Ar (Ai e)/\
   o.call 49 [Al (aS J),Ai e] []=Ar (Ai M)/\1<=e/\e<=M/\e<=4611686018427387904:=by
 obtain ⟨N,S,U,fa,fb,fc,hc⟩:=h;obtain ⟨_,_,_,_,_,_,_,_,_,j,_,_,_,_,O,V⟩:=Jd S;simp only[List.cons.injEq,and_true]at j;obtain ⟨rfl,rfl,rfl,rfl,rfl,rfl,rfl,rfl,rfl⟩:=j;cases N with
 | zero=>simp[Own]at O
 | succ N=>
 obtain ⟨_,_,_,_,j,_,_,_,o7⟩:=AE O;simp only[List.cons.injEq,and_true]at j;obtain ⟨rfl,rfl,rfl,rfl⟩:=j;have cA:dn (bM l)=dn l:=by conv=>rhs;rw[<-fa,fV]
 have cB:dn (bM bx)=dn bx:=by conv=>rhs;rw[<-fb,fV]
 have cC:dn (z.map iX)=dn z:=by conv=>rhs;rw[<-fc,fV]
 have lA:=pQ l;have lB:=pQ bx;have lC:(z.map iX).length=z.length:=by simp
 have a0:=cH l;have a1:=cH bx;have a2:=cH z;obtain ⟨E,k1,C0,H0,q0,r0⟩:=(oh ho (T2.mt ho) (N+1)).1 (bM l) (dD _ _ _ o7) 1 false (by omega) (by simp only[cnt];omega);simp only[cnt]at r0;obtain ⟨I,k2,C1,H1,q1,r1⟩:=(oh ho (T2.mt ho) (N+1)).1 (bM bx) V k1 false (by omega) (by simp only[cnt];omega);simp only[cnt]at r1;obtain ⟨J,k3,C2,H2,q2,r2⟩:=(oh ho (T2.mt ho) (N+2)).2.2.1 (z.map iX) U k2 false (by omega) (by simp only[cnt];omega);simp only[cnt]at r2;exact ⟨k2,k3,E,I,J,sY ho (uo ho C0) C1,C2,uq ho (xU ho H0 (s6 ho (by omega))) (s6 ho (by omega)) H1 (s6 ho (by omega)),H2,by omega,by omega,by omega⟩
theorem Eu {n n2:Nat} {tl ws:Lq} (hf:Fits prog n 60 [.lst tl]) (hw:Fits prog n2 64 ws):o.call 6 [Al tl,.agg (ws.map .d)] []=Ar (Ab true):=by
 obtain ⟨left,e1,hl⟩:=(JH ho n).2.2.1 tl 1048576 hf (by omega) (Int.le_refl _);obtain ⟨pid,nm,md,no,k,i,s,l,bx,j,rfl,rfl,g0,g1,g2,g3,g4,g5⟩:∃pid nm md no k i s l bx j,ws=[.int .i64 pid,.str nm,.str md,.int .i64 no,.int .i64 k,.int .i64 i,.str s,.lst l,.lst bx]/\n2=j+1/\Fits prog j 3 [.int .i64 pid]/\Fits prog j 9 [.str nm]/\Fits prog j 9 [.str md]/\Fits prog j 3 [.int .i64 no]/\Fits prog j 62 [.int .i64 k,.int .i64 i,.str s,.lst l]/\Fits prog j 26 [.lst bx]:=by
  cases n2 with
  | zero=>simp[Fits]at hw
  | succ n2=>
   obtain ⟨c0,c1,c2,c3,c4,c5,c6,c7,c8,rfl,g0,g1,g2,g3,g4,g5⟩:=Et hw;obtain ⟨_,e,_⟩:=fits_int underlying3 g0;injection e with e;subst e;obtain ⟨_,e,_⟩:=bX underlying9 g1;injection e with e;subst e;obtain ⟨_,e,_⟩:=bX underlying9 g2;injection e with e;subst e;obtain ⟨_,e,_⟩:=fits_int underlying3 g3;injection e with e;subst e;obtain ⟨_,_,_,e,_⟩:=bF underlying26 g5;injection e with e;subst e;cases n2 with
   | zero=>simp[Fits]at g4
   | succ n2=>
    obtain ⟨d0,d1,d2,d3,e,j0,I,j2,j3⟩:=uj g4;simp only[List.cons.injEq,and_true]at e;obtain ⟨rfl,rfl,rfl,rfl⟩:=e;obtain ⟨_,e,_⟩:=fits_int underlying3 j0;injection e with e;subst e;obtain ⟨_,e,_⟩:=fits_int underlying3 I;injection e with e;subst e;obtain ⟨_,e,_⟩:=bX underlying9 j2;injection e with e;subst e;obtain ⟨_,_,_,e,_⟩:=bF underlying26 j3;injection e with e;subst e;exact ⟨_,_,_,_,_,_,_,_,_,_,rfl,rfl,g0,g1,g2,g3,g4,g5⟩
 simp only[List.map_cons,List.map_nil]at e1 |-;rcases hl with rfl | ⟨ac,bb,hst⟩
 ·exact qY ho e1 (Kj ho (by omega))
 have e2:=s6 ho ac;have ct:=qj (.lst tl);obtain ⟨r2,e3,hr⟩:=(JH ho (j+1)).2.2.2.1 _ left hw ac (by omega);simp only[List.map_cons,List.map_nil]at e3;rcases hr with rfl | ⟨bc,bd,ae⟩
 ·exact qZ ho e1 e2 e3 (Kj ho (by omega))
 have e4:=s6 ho bc;have b8:=Jm ho hf hst;simp only[kN]at ae;obtain ⟨be,ag,hs2,bi,a3,a4,a5,a6,M,_⟩:=ae;have hS:=BQ ho j [.int .i64 k,.int .i64 i,.str s,.lst l] (.inl g4) (by simp only[kN];simp[a3,a4,a5,a6]);have hX:=JI ho g5 M;have q1:=ag;have q2:=hs2;have q8:=M;simp only[Sm,kX]at q1 q2 q8;obtain ⟨y4,e8,fT,bj⟩:=(pV ho n).2.2.1 tl hf hst;obtain ⟨_,e5,bl,_⟩:=G_ ho (pV ho n) tl (HN _ _ _ hf) hst;rw[ho.bE,bl]at e5;obtain ⟨_,_,_,_,_,_,_,x7,y7,x8,y8,ed,e9,am,f7,f8⟩:=(pV ho (j+1)).2.2.2.1 _ hw (by simp only[kN];simp[be,ag,hs2,bi,a3,a4,a5,a6,M]);simp only[List.cons.injEq,D.int.injEq,D.str.injEq,D.lst.injEq,true_and,and_true]at ed;obtain ⟨rfl,rfl,rfl,rfl,rfl,rfl,rfl,rfl,rfl⟩:=ed;simp only[List.map_cons,List.map_nil]at e9;have e6:o.call 100038 [Aw pid nm md no k i s l bx] []=Ar (Aw pid nm md no k i s l bx):=by
  obtain ⟨_,_,_,_,u3,ee,t1,_,t2⟩:=(pV ho j).2.2.2.2.2.2.1 _ g4 (by simp only[kN];simp[a3,a4,a5,a6]);simp only[List.cons.injEq,D.int.injEq,D.str.injEq,D.lst.injEq,true_and,and_true]at ee;obtain ⟨rfl,rfl,rfl,rfl⟩:=ee;obtain ⟨v3,t3,t4,_⟩:=(pV ho j).2.1 bx g5 M;exact ul ho t1 t3 ((ho.bE _).trans t2) ((ho.bE _).trans t4)
 have et:=(Dm ho n).2.2.2.2.1 _ (A7 Jj n 60 71 _ (by decide) hf);have ew:=(Dm ho (j+1)).2.2.2.1 _ (A7 Jj (j+1) 64 68 _ (by decide) hw);simp only[List.map_cons,List.map_nil]at ew;have a7:=am;obtain ⟨_,_,_,_,_,_,_,_,_,e,_,_,_,_,o4,o5⟩:=Jd am;simp only[List.cons.injEq,and_true]at e;obtain ⟨rfl,rfl,rfl,rfl,rfl,rfl,rfl,rfl,rfl⟩:=e;have u8:bM bx=y8:=by rw[<-f8];exact NS _ _ o5
 have u7:bM l=y7/\Own prog j 29 [.own (31,4) y7]:=by
  cases j with
  | zero=>simp[Own]at o4
  | succ j=>
   obtain ⟨_,_,_,_,e,_,_,_,o7⟩:=AE o4;simp only[List.cons.injEq,and_true]at e;obtain ⟨rfl,rfl,rfl,rfl⟩:=e;exact ⟨by rw[<-f7];exact NS _ _ o7,dD _ _ _ o7⟩
 have cT:dn y4=dn tl:=by rw[<-fT,fV]
 have lT:y4.length=tl.length:=by rw[<-fT,cG]
 have c7:dn y7=dn l:=by rw[<-f7,fV]
 have l7:y7.length=l.length:=by rw[<-f7,cG]
 have c8:dn y8=dn bx:=by rw[<-f8,fV]
 have l8:y8.length=bx.length:=by rw[<-f8,cG]
 have a0:=cH tl;have a1:=cH l;have a2:=cH bx;simp only[dn,cnt]at bb bd;obtain ⟨z0,k0,C0,_,r0,s0⟩:=(oh ho (T2.mt ho) n).2.1 y4 bj 1 true (by omega) (by simp only[cnt];omega);simp only[cnt]at s0;obtain ⟨z1,k1,C1,_,r1,s1⟩:=(oh ho (T2.mt ho) j).1 y7 u7.2 k0 true (by omega) (by simp only[cnt];omega);simp only[cnt]at s1;obtain ⟨z2,k2,C2,_,bu,s2⟩:=(oh ho (T2.mt ho) j).1 y8 o5 k1 true (by omega) (by simp only[cnt];omega);simp only[cnt]at s2;have an:=um ho (pid:=pid) (nm:=nm) (md:=md) (no:=no) (vT ho (m:=k) (n:=i) (s:=s) C1) C2;obtain ⟨c,k',n',s',l',a8,z,J,eS,hr⟩:=Dc ho tl b8 pid nm md no k i s l bx (by omega) (by omega) hS hX (by omega);have hO:SV pid nm md no k' n' s' l' a8 z:=by
  rcases hr with ⟨rfl,rfl,rfl,rfl,rfl,rfl⟩ | hr
  ·exact ⟨j,by rw[u7.1,u8];exact a7,lX underlying79 Az (by decide) (λx hx=>by cases hx),by rw[u7.1];exact f7,by rw[u8];exact f8,rfl,by simp only[List.length_nil,dn];omega⟩
  exact Py a7 hr
 have bm:=hO;obtain ⟨N,ao,hZ,fa,fb,fc,hc⟩:=bm;obtain ⟨I,j2,w0,w1,w2,ap,bo,aw,bs,b1,b2,b3⟩:=L8 ho hO;have hq:=DX _ _ _ ao;simp only[aS,bB,fa,fb]at hq;have E:=(Dm ho _).2.2.2.1 _ hq;simp only[List.map_cons,List.map_nil]at E;have hz:=DX _ _ _ hZ;simp only[aS,bB,fc]at hz;have a9:=(Dm ho _).2.2.2.2.2.1 _ hz;have aa:=yU Jk _ _ _ (by decide) ao;have az:=yU Jk _ _ _ (by decide) hZ;simp only[cJ,fw,af,Bool.and_true,Bool.true_and]at aa az;have b0:=(ho.bE y4).trans fT;have b4:=(ho.bE y7).trans f7;have b5:=(ho.bE y8).trans f8;have O:o.closed (bM l')=true:=by rw[ho.closed];exact aa.1
 have S:o.closed (bM a8)=true:=by rw[ho.closed];exact aa.2
 have U:=(ho.bE (bM l')).trans fa;have V:=(ho.bE (bM a8)).trans fb;rcases J with ⟨rfl,J⟩ | J
 ·have bt:=ur ho (sZ ho (k:=I));have b9:o.call 49 [Al [],Ai I] []=Ar (Ai I):=AG ho [] I I (by decide) rfl;exact pT ho e1 e2 e3 e4 e5 e6 eS e8 e9 b0 b4 b5 J O S U V E a9 (eq_int ho _) et ew C0 an (s6 ho (by omega)) ap bt (ho.bE w0) (ho.bE w1) aw (s6 ho (by omega)) b9 (s6 ho (by omega)) (eq_int ho _) J O S U V E (eq_int ho _)
 have b6:o.closed (z.map iX)=true:=by rw[ho.closed];exact az
 have b7:=(ho.bE (z.map iX)).trans fc;exact pR ho e1 e2 e3 e4 e5 e6 eS e8 e9 b0 b4 b5 J O S b6 U V E b7 a9 (eq_int ho _) et ew C0 an (s6 ho (by omega)) ap bo (ho.bE w0) (ho.bE w1) aw (s6 ho (by omega)) (ho.bE w2) bs (s6 ho (by omega)) (eq_int ho _) J O S b6 U V E b7 a9 (eq_int ho _)
end
end T2
