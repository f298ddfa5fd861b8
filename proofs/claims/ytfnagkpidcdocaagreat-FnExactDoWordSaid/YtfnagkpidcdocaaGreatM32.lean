import Derived.Test.YtfnagkpidcdocaaGreatM31
set_option linter.all false
namespace T2
open Go Go.Vi
set_option maxRecDepth 100000
set_option maxHeartbeats 4000000
theorem rK:∀{l:Lq},(∀x∈l,fw (sP x)=true)->cJ (bM l)=true
 | [],_=>rfl
 | x::l,h=>by
  simp only[bM,cJ,af];exact ⟨h x (by simp),rK λy e=>h y (by simp[e])⟩
theorem xI:∀{m:Nat} {d:D},Tm m d->fw (sP d)=true
 | 0,_,h=>h.elim
 | m+1,d,⟨k,n,s,l,e,_,_,h⟩=>by
  subst e;have:=rK λx j=>xI (h x j)
  simp[bM,sP,fw,cJ,this]
theorem GZ {m:Nat} {l:Lq} (h:∀x∈l,Tm m x):cJ (bM l)=true:=rK λx e=>xI (h x e)
theorem SF {o:aM} {m:Nat} {k n:Int} {s:By} {l:Lq} (h:Rt o m (.agg [.int .i64 k,.int .i64 n,.str s,.lst l])) (hk:k=0):False:=by
 obtain ⟨_,_,h,_⟩:=lI h;unfold jw at h;rw[if_neg (by omega),if_neg (by omega),if_neg (by omega),if_neg (by omega),if_neg (by omega)]at h;cases h
theorem Rq {o:aM} (ho:aQ cu bw o) (a b:Int):o.cmp .eql a b=decide (a=b):=by rcases av ho a b with ⟨e,g⟩ | ⟨e,g⟩<;>rw[e]<;>simp[g]
def QG (o:aM) (x:D):Prop:=∃k n s l k' n' s' l',x= .agg [.int .i64 k,.int .i64 n,.str s,.lst l,.int .i64 k',.int .i64 n',.str s',.lst l']/\Rt o 8 (.agg [.int .i64 k,.int .i64 n,.str s,.lst l])/\Rt o 8 (.agg [.int .i64 k',.int .i64 n',.str s',.lst l'])
theorem Pa {o:aM} {x y:D} (h:GY x=some y) (M:Rt o 8 x):QG o y:=by
 obtain ⟨O,k,n,s,l,V,rfl,_,e⟩:=fE M;obtain rfl:O=7:=by omega
 by_cases j:(l.length:Int)=2
 ·obtain ⟨a,b,rfl⟩:=IL j;have E:=e a (by simp);have I:=e b (by simp);obtain ⟨m2,J,n1,s1,l1,S,rfl,_,_⟩:=fE E;obtain ⟨m3,k2,n2,s2,l2,U,rfl,_,_⟩:=fE I;by_cases hk:k=4/\(J=2\/J=3)
  ·rw[FI hk.1 hk.2]at h;injection h with h;subst h;exact ⟨_,_,_,_,_,_,_,_,rfl,mo E,mo I⟩
  rw[FH,if_neg hk]at h;cases h
 rw[FG j]at h;cases h
theorem FK {o:aM}:∀{l z:Lq},oU l=some z->(∀x∈l,Rt o 8 x)->(∀y∈z,QG o y)/\z.length=l.length
 | [],z,h,_=>by injection h with h;subst h;exact ⟨λy e=>(by cases e),rfl⟩
 | x::l,z,h,E=>by
  simp only[oU]at h;split at h
  ·rename_i y e;split at h
   ·rename_i w I;injection h with h;subst h;obtain ⟨J,M⟩:=FK I λx O=>E x (by simp[O])
    refine ⟨λq j=> ?_,by simp[M]⟩;rcases List.mem_cons.1 j with rfl | j
    ·exact Pa e (E x (by simp))
    exact J q j
   cases h
  cases h
theorem Pb {k:Int} {l:Lq} {n:Int} {s t:By} (h:s≠t) (e:j5 k l n s=true):j5 k l n t=false:=by
 unfold j5 at e |-;simp only[af,decide_eq_true_eq]at e;obtain ⟨_,_,h3⟩:=e;split at h3
 ·simp only[af,decide_eq_true_eq]at h3;simp[h3.2,h]
 cases h3
theorem SG {k:Int} {l:Lq} {s:By} {m:Nat} (h:j5 k l 2 s=true) (j:∀x∈l,Tm m x):∃u e n1 s1 l1,l=[u,.agg [.int .i64 e,.int .i64 n1,.str s1,.lst l1]]:=by
 unfold j5 at h;simp only[af,decide_eq_true_eq]at h;obtain ⟨a,b,rfl⟩:=IL h.2.1;obtain ⟨_,e,n1,s1,l1,_,rfl,_⟩:=bH (j b (by simp));exact ⟨a,_,_,_,_,rfl⟩
theorem SH {k:Int} {l:Lq} {s:By} {m:Nat} (h:j5 k l 3 s=true) (e:∀x∈l,Tm m x):∃u j n1 s1 l1 k2 n2 s2 l2,l=[u,.agg [.int .i64 j,.int .i64 n1,.str s1,.lst l1],.agg [.int .i64 k2,.int .i64 n2,.str s2,.lst l2]]:=by
 unfold j5 at h;simp only[af,decide_eq_true_eq]at h;obtain ⟨a,b,c,rfl⟩:∃a b c,l=[a,b,c]:=by
  match l,h.2.1 with
  | [a,b,c],_=>exact ⟨a,b,c,rfl⟩
  | [],h=>simp at h
  | [_],h=>simp at h
  | [_,_],h=>simp at h
  | _::_::_::_::_,h=>simp at h;omega
 obtain ⟨_,j,n1,s1,l1,_,rfl,_⟩:=bH (e b (by simp));obtain ⟨_,k2,n2,s2,l2,_,rfl,_⟩:=bH (e c (by simp));exact ⟨a,_,_,_,_,_,_,_,_,rfl⟩
theorem Pc {o:aM} (ho:aQ cu bw o) (n:Int) (h:n≠0):o.cmp .eql n 0=false:=by rcases av ho n 0 with ⟨e,_⟩ | ⟨_,g⟩;exact e;exact (h g).elim
section
variable {o:aM} (ho:aQ cu bw o)
include ho
theorem ud {tl:Lq} {md:By} {q:Int} {l1 l2:Lq} {t:By} {al:Lq} {n1 n2:Int} {s1:By} {l3:Lq} {pid:Int} {nm:By} {no k n:Int} {s:By} {l bx:Lq} (e:o.call 296 [Al tl,As md,Ai q] []=Ar (Sc l1 l2)) (j:o.call 91 [Sc l1 l2,As t,Al al,Ai 3000] []=some ⟨.tup [Ay n1 n2 s1,Ai 0],[],[Oq l3]⟩):o.call 209 [.sp [.int .i64 pid,.str nm,.str md,.int .i64 no,.int .i64 k,.int .i64 n,.str s,.lst l,.lst bx] 0,Al tl,Ai q,As t,Al al] []=some ⟨Ay n1 n2 s1,[],[Oq l3]⟩:=by
 refine ho.aj ?_
 cbv
 repeat (simp only[*];try cbv)
theorem uf {tl:Lq} {md:By} {q pid:Int} {nm:By} {no k n:Int} {s:By} {l bx:Lq} {t:By} {al:Lq} (e:o.call 296 [Al tl,As md,Ai q] []=Ar (.nilp)):o.call 209 [.sp [.int .i64 pid,.str nm,.str md,.int .i64 no,.int .i64 k,.int .i64 n,.str s,.lst l,.lst bx] 0,Al tl,Ai q,As t,Al al] []=Ar (.agg [Ai 0,Ai 0,As ⟨#[]⟩,.emp]):=by
 refine ho.aj ?_
 cbv
 repeat (simp only[*];try cbv)
theorem jF {tl:Lq} {md:By} {q:Int} {l1 l2:Lq} {t:By} {al:Lq} {n1 pid:Int} {nm:By} {no k n:Int} {s:By} {l bx:Lq} (e:o.call 296 [Al tl,As md,Ai q] []=Ar (Sc l1 l2)) (j:o.call 91 [Sc l1 l2,As t,Al al,Ai 3000] []=Ar (.tup [.agg [Ai 0,Ai 0,As ⟨#[]⟩,.emp],Ai n1])):o.call 209 [.sp [.int .i64 pid,.str nm,.str md,.int .i64 no,.int .i64 k,.int .i64 n,.str s,.lst l,.lst bx] 0,Al tl,Ai q,As t,Al al] []=Ar (.agg [Ai 0,Ai 0,As ⟨#[]⟩,.emp]):=by
 refine ho.aj ?_
 cbv
 repeat (simp only[*];try cbv)
theorem zN {tl:Lq} {md:By} {q:Int} {l1 l2:Lq} {t:By} {n1:Int} {al:Lq} (e:o.call 295 [Al tl,As md,Ai q] []=Ar (.tup [Ac l1 l2,Ab true])) (j:o.call 85 [Ac l1 l2,As t] []=Ar (Ai n1)) (E:o.cmp .lss n1 0=true):o.call 206 [Al tl,As md,Ai q,As t,Al al] []=Ar (.tup [At 0 0 ⟨#[]⟩ [],Ab false]):=by
 refine ho.aj ?_
 cbv
 repeat (simp only[*];try cbv)
theorem zO {tl:Lq} {md:By} {q:Int} {l1 l2:Lq} {t:By} {n1:Int} {al:Lq} (e:o.call 295 [Al tl,As md,Ai q] []=Ar (.tup [Ac l1 l2,Ab false])) (j:o.call 85 [Ac l1 l2,As t] []=Ar (Ai n1)):o.call 206 [Al tl,As md,Ai q,As t,Al al] []=Ar (.tup [At 0 0 ⟨#[]⟩ [],Ab false]):=by
 refine ho.aj ?_
 cbv
 repeat (simp only[*];try cbv)
theorem zP {tl:Lq} {md:By} {q:Int} {l1 l2:Lq} {t:By} {n1:Int} {s1:By} {n2 n3:Int} {l3 al:Lq} {n4:Int} (e:o.call 295 [Al tl,As md,Ai q] []=Ar (.tup [Ac l1 l2,Ab true])) (j:o.call 85 [Ac l1 l2,As t] []=Ar (Ai n1)) (E:o.cmp .lss n1 0=false) (I:o.cF l1 n1=some (Df s1 n2 n3 l3)) (J:o.len al=n4) (M:o.cmp .neq n2 n4=true):o.call 206 [Al tl,As md,Ai q,As t,Al al] []=Ar (.tup [At 0 0 ⟨#[]⟩ [],Ab false]):=by
 refine ho.aj ?_
 cbv
 repeat (simp only[*];try cbv)
theorem zQ {tl:Lq} {md:By} {q:Int} {l1 l2:Lq} {t:By} {n1:Int} {s1:By} {n2 n3:Int} {l3 al:Lq} {n4 n5 n6:Int} {s2:By} {e:Lq} {n7:Int} {j:Bool} (E:o.call 295 [Al tl,As md,Ai q] []=Ar (.tup [Ac l1 l2,Ab true])) (I:o.call 85 [Ac l1 l2,As t] []=Ar (Ai n1)) (J:o.cmp .lss n1 0=false) (M:o.cF l1 n1=some (Df s1 n2 n3 l3)) (O:o.len al=n4) (S:o.cmp .neq n2 n4=false) (U:o.call 84 [Ac l1 l2,Ai n1,Al al,Ai 3000] []=Ar (.tup [At n5 n6 s2 e,Ai n7])) (V:o.cmp .eql n7 0=j):o.call 206 [Al tl,As md,Ai q,As t,Al al] []=Ar (.tup [At n5 n6 s2 e,Ab j]):=by
 refine ho.aj ?_
 cbv
 repeat (simp only[*];try cbv)
theorem qP {bx:Lq} {n1 n2:Int} {s1:By} {l1:Lq} {n3 n4:Int} {l2:Lq} {pid:Int} {nm md:By} {no k n:Int} {s:By} {l tl:Lq} {n5 n6:Int} {s2:By} {l3 e:Lq} {n7 n8:Int} {j:By} {E:Lq} (J:o.cF bx 0=some (Dt n1 n2 s1 l1)) (M:o.fits 4 0 bx=true) (O:o.len bx=n3) (S:o.minus n3 1=n4) (U:o.sub bx 1 n4=some l2) (V:o.call 209 [.sp [.int .i64 pid,.str nm,.str md,.int .i64 no,.int .i64 k,.int .i64 n,.str s,.lst l,.lst l2] 0,Al tl,Ai no,As ⟨#[104,97,110,100,108,101]⟩,Al [Dt k n s l,Dt n1 n2 s1 l1]] []=some ⟨Ay n5 n6 s2,[],[Oq l3]⟩) (e7:o.closed l3=true) (e8:o.bE l3=e) (e9:o.call 210 [At n5 n6 s2 e,Ai 2,As ⟨#[111,107]⟩] []=Ar (Ab true)) (I:o.cF e 1=some (Dt n7 n8 j E)):o.call 120 [.ptr (1,0) 0,Al tl] [some (Bw pid nm md no k n s l bx)]=some ⟨.tup [.emp,Ai 1],[some (Bw pid nm md no n7 n8 j E l2)],[]⟩:=by
 refine ho.aj ?_
 cbv
 repeat (simp only[*];try cbv)
theorem qQ {bx:Lq} {n1 n2:Int} {s1:By} {l1:Lq} {n3 n4:Int} {l2:Lq} {pid:Int} {nm md:By} {no k n:Int} {s:By} {l tl:Lq} {n5 n6:Int} {s2:By} {l3 e:Lq} (E:o.cF bx 0=some (Dt n1 n2 s1 l1)) (I:o.fits 4 0 bx=true) (J:o.len bx=n3) (M:o.minus n3 1=n4) (O:o.sub bx 1 n4=some l2) (S:o.call 209 [.sp [.int .i64 pid,.str nm,.str md,.int .i64 no,.int .i64 k,.int .i64 n,.str s,.lst l,.lst l2] 0,Al tl,Ai no,As ⟨#[104,97,110,100,108,101]⟩,Al [Dt k n s l,Dt n1 n2 s1 l1]] []=some ⟨Ay n5 n6 s2,[],[Oq l3]⟩) (U:o.closed l3=true) (V:o.bE l3=e) (e9:o.call 210 [At n5 n6 s2 e,Ai 2,As ⟨#[111,107]⟩] []=Ar (Ab false)) (j:o.call 210 [At n5 n6 s2 e,Ai 2,As ⟨#[115,116,111,112]⟩] []=Ar (Ab true)):o.call 120 [.ptr (1,0) 0,Al tl] [some (Bw pid nm md no k n s l bx)]=some ⟨.tup [.emp,Ai 2],[some (Bw pid nm md no k n s l l2)],[]⟩:=by
 refine ho.aj ?_
 cbv
 repeat (simp only[*];try cbv)
theorem qR {bx:Lq} {n1 n2:Int} {s1:By} {l1:Lq} {n3 n4:Int} {l2:Lq} {pid:Int} {nm md:By} {no k n:Int} {s:By} {l tl:Lq} {n5 n6:Int} {s2:By} {l3 e:Lq} {n7 n8:Int} {E:By} {I J:Lq} {n9 j:Int} {M:By} {O:Lq} (e1:o.cF bx 0=some (Dt n1 n2 s1 l1)) (e2:o.fits 4 0 bx=true) (e3:o.len bx=n3) (e4:o.minus n3 1=n4) (e5:o.sub bx 1 n4=some l2) (e6:o.call 209 [.sp [.int .i64 pid,.str nm,.str md,.int .i64 no,.int .i64 k,.int .i64 n,.str s,.lst l,.lst l2] 0,Al tl,Ai no,As ⟨#[104,97,110,100,108,101]⟩,Al [Dt k n s l,Dt n1 n2 s1 l1]] []=some ⟨Ay n5 n6 s2,[],[Oq l3]⟩) (e7:o.closed l3=true) (e8:o.bE l3=e) (e9:o.call 210 [At n5 n6 s2 e,Ai 2,As ⟨#[111,107]⟩] []=Ar (Ab false)) (S:o.call 210 [At n5 n6 s2 e,Ai 2,As ⟨#[115,116,111,112]⟩] []=Ar (Ab false)) (U:o.call 210 [At n5 n6 s2 e,Ai 3,As ⟨#[111,107]⟩] []=Ar (Ab true)) (V:o.cF e 2=some (Dt n7 n8 E I)) (a0:o.call 212 [At n7 n8 E I] []=some ⟨.tup [.arr (0,0) (120,8) none false,Ab true],[],[some (.orows (120,8) J)]⟩) (a1:o.cF e 1=some (Dt n9 j M O)):o.call 120 [.ptr (1,0) 0,Al tl] [some (Bw pid nm md no k n s l bx)]=some ⟨.tup [.arr (0,0) (120,8) none false,Ai 1],[some (Bw pid nm md no n9 j M O l2)],[some (.orows (120,8) J)]⟩:=by
 refine ho.aj ?_
 cbv
 repeat (simp only[*];try cbv)
theorem qU {bx:Lq} {n1 n2:Int} {s1:By} {l1:Lq} {n3 n4:Int} {l2:Lq} {pid:Int} {nm md:By} {no k n:Int} {s:By} {l tl:Lq} {n5 n6:Int} {s2:By} {l3 e:Lq} (I:o.cF bx 0=some (Dt n1 n2 s1 l1)) (J:o.fits 4 0 bx=true) (M:o.len bx=n3) (O:o.minus n3 1=n4) (S:o.sub bx 1 n4=some l2) (U:o.call 209 [.sp [.int .i64 pid,.str nm,.str md,.int .i64 no,.int .i64 k,.int .i64 n,.str s,.lst l,.lst l2] 0,Al tl,Ai no,As ⟨#[104,97,110,100,108,101]⟩,Al [Dt k n s l,Dt n1 n2 s1 l1]] []=some ⟨Ay n5 n6 s2,[],[Oq l3]⟩) (V:o.closed l3=true) (e8:o.bE l3=e) (e9:o.call 210 [At n5 n6 s2 e,Ai 2,As ⟨#[111,107]⟩] []=Ar (Ab false)) (j:o.call 210 [At n5 n6 s2 e,Ai 2,As ⟨#[115,116,111,112]⟩] []=Ar (Ab false)) (E:o.call 210 [At n5 n6 s2 e,Ai 3,As ⟨#[111,107]⟩] []=Ar (Ab false)):o.call 120 [.ptr (1,0) 0,Al tl] [some (Bw pid nm md no k n s l bx)]=some ⟨.tup [.emp,Ai 3],[some (Bw pid nm md no k n s l l2)],[]⟩:=by
 refine ho.aj ?_
 cbv
 repeat (simp only[*];try cbv)
theorem qV {bx:Lq} {n1 n2:Int} {s1:By} {l1:Lq} {n3 n4:Int} {l2:Lq} {pid:Int} {nm md:By} {no k n:Int} {s:By} {l tl:Lq} {n5 n6:Int} {s2:By} {l3 e:Lq} {n7 n8:Int} {j:By} {E:Lq} (S:o.cF bx 0=some (Dt n1 n2 s1 l1)) (U:o.fits 4 0 bx=true) (V:o.len bx=n3) (e4:o.minus n3 1=n4) (e5:o.sub bx 1 n4=some l2) (e6:o.call 209 [.sp [.int .i64 pid,.str nm,.str md,.int .i64 no,.int .i64 k,.int .i64 n,.str s,.lst l,.lst l2] 0,Al tl,Ai no,As ⟨#[104,97,110,100,108,101]⟩,Al [Dt k n s l,Dt n1 n2 s1 l1]] []=some ⟨Ay n5 n6 s2,[],[Oq l3]⟩) (e7:o.closed l3=true) (e8:o.bE l3=e) (e9:o.call 210 [At n5 n6 s2 e,Ai 2,As ⟨#[111,107]⟩] []=Ar (Ab false)) (I:o.call 210 [At n5 n6 s2 e,Ai 2,As ⟨#[115,116,111,112]⟩] []=Ar (Ab false)) (J:o.call 210 [At n5 n6 s2 e,Ai 3,As ⟨#[111,107]⟩] []=Ar (Ab true)) (M:o.cF e 2=some (Dt n7 n8 j E)) (O:o.call 212 [At n7 n8 j E] []=Ar (.tup [.emp,Ab false])):o.call 120 [.ptr (1,0) 0,Al tl] [some (Bw pid nm md no k n s l bx)]=some ⟨.tup [.emp,Ai 3],[some (Bw pid nm md no k n s l l2)],[]⟩:=by
 refine ho.aj ?_
 cbv
 repeat (simp only[*];try cbv)
theorem qX {bx:Lq} {n1 n2:Int} {s1:By} {l1:Lq} {n3 n4:Int} {l2:Lq} {pid:Int} {nm md:By} {no k n:Int} {s:By} {l tl:Lq} (e:o.cF bx 0=some (Dt n1 n2 s1 l1)) (j:o.fits 4 0 bx=true) (E:o.len bx=n3) (I:o.minus n3 1=n4) (J:o.sub bx 1 n4=some l2) (M:o.call 209 [.sp [.int .i64 pid,.str nm,.str md,.int .i64 no,.int .i64 k,.int .i64 n,.str s,.lst l,.lst l2] 0,Al tl,Ai no,As ⟨#[104,97,110,100,108,101]⟩,Al [Dt k n s l,Dt n1 n2 s1 l1]] []=Ar (.agg [Ai 0,Ai 0,As ⟨#[]⟩,.emp])) (O:o.call 210 [At 0 0 ⟨#[]⟩ [],Ai 2,As ⟨#[111,107]⟩] []=Ar (Ab false)) (S:o.call 210 [At 0 0 ⟨#[]⟩ [],Ai 2,As ⟨#[115,116,111,112]⟩] []=Ar (Ab false)) (U:o.call 210 [At 0 0 ⟨#[]⟩ [],Ai 3,As ⟨#[111,107]⟩] []=Ar (Ab false)):o.call 120 [.ptr (1,0) 0,Al tl] [some (Bw pid nm md no k n s l bx)]=some ⟨.tup [.emp,Ai 3],[some (Bw pid nm md no k n s l l2)],[]⟩:=by
 refine ho.aj ?_
 cbv
 repeat (simp only[*];try cbv)
theorem zR {bx:Lq} {n1 pid:Int} {nm md:By} {no k n:Int} {s:By} {l tl:Lq} (e:o.len bx=n1) (j:o.cmp .eql n1 0=true):o.call 119 [Al tl,.ptr (1,0) 0] [some (Bw pid nm md no k n s l bx)]=some ⟨.tup [Al [],Ai 0],[some (Bw pid nm md no k n s l bx)],[]⟩:=by
 refine ho.aj ?_
 cbv
 repeat (simp only[*];try cbv)
theorem zS {bx:Lq} {n1 n2 n3:Int} {s1:By} {l1:Lq} {n4:Int} {l2 tl:Lq} {md:By} {no k n:Int} {s:By} {l:Lq} {n5 n6:Int} {s2:By} {l3:Lq} {pid:Int} {nm:By} (e:o.len bx=n1) (j:o.cmp .eql n1 0=false) (E:o.cF bx 0=some (Dt n2 n3 s1 l1)) (I:o.fits 4 0 bx=true) (J:o.minus n1 1=n4) (M:o.sub bx 1 n4=some l2) (O:o.fits 4 56 l2=true) (S:o.call 206 [Al tl,As md,Ai no,As ⟨#[104,97,110,100,108,101]⟩,Al [Dt k n s l,Dt n2 n3 s1 l1]] []=Ar (.tup [At n5 n6 s2 l3,Ab true])) (U:o.call 207 [At n5 n6 s2 l3,Ai 2,As ⟨#[115,116,111,112]⟩] []=Ar (Ab true)):o.call 119 [Al tl,.ptr (1,0) 0] [some (Bw pid nm md no k n s l bx)]=some ⟨.tup [Al [],Ai 2],[some (Bw pid nm md no k n s l l2)],[]⟩:=by
 refine ho.aj ?_
 cbv
 repeat (simp only[*];try cbv)
theorem zU {bx:Lq} {n1 n2 n3:Int} {s1:By} {l1:Lq} {n4:Int} {l2 tl:Lq} {md:By} {no k n:Int} {s:By} {l:Lq} {n5 n6:Int} {s2:By} {l3:Lq} {pid:Int} {nm:By} (e:o.len bx=n1) (j:o.cmp .eql n1 0=false) (E:o.cF bx 0=some (Dt n2 n3 s1 l1)) (I:o.fits 4 0 bx=true) (J:o.minus n1 1=n4) (M:o.sub bx 1 n4=some l2) (O:o.fits 4 56 l2=true) (S:o.call 206 [Al tl,As md,Ai no,As ⟨#[104,97,110,100,108,101]⟩,Al [Dt k n s l,Dt n2 n3 s1 l1]] []=Ar (.tup [At n5 n6 s2 l3,Ab false])):o.call 119 [Al tl,.ptr (1,0) 0] [some (Bw pid nm md no k n s l bx)]=some ⟨.tup [Al [],Ai 3],[some (Bw pid nm md no k n s l l2)],[]⟩:=by
 refine ho.aj ?_
 cbv
 repeat (simp only[*];try cbv)
theorem zV {bx:Lq} {n1 n2 n3:Int} {s1:By} {l1:Lq} {n4:Int} {l2 tl:Lq} {md:By} {no k n:Int} {s:By} {l:Lq} {n5 n6:Int} {s2:By} {l3:Lq} {n7 n8:Int} {e:By} {j:Lq} {pid:Int} {nm:By} (J:o.len bx=n1) (M:o.cmp .eql n1 0=false) (O:o.cF bx 0=some (Dt n2 n3 s1 l1)) (S:o.fits 4 0 bx=true) (U:o.minus n1 1=n4) (V:o.sub bx 1 n4=some l2) (e7:o.fits 4 56 l2=true) (e8:o.call 206 [Al tl,As md,Ai no,As ⟨#[104,97,110,100,108,101]⟩,Al [Dt k n s l,Dt n2 n3 s1 l1]] []=Ar (.tup [At n5 n6 s2 l3,Ab true])) (e9:o.call 207 [At n5 n6 s2 l3,Ai 2,As ⟨#[115,116,111,112]⟩] []=Ar (Ab false)) (E:o.call 207 [At n5 n6 s2 l3,Ai 2,As ⟨#[111,107]⟩] []=Ar (Ab true)) (I:o.cF l3 1=some (Dt n7 n8 e j)):o.call 119 [Al tl,.ptr (1,0) 0] [some (Bw pid nm md no k n s l bx)]=some ⟨.tup [Al [],Ai 1],[some (Bw pid nm md no n7 n8 e j l2)],[]⟩:=by
 refine ho.aj ?_
 cbv
 repeat (simp only[*];try cbv)
theorem zW {bx:Lq} {n1 n2 n3:Int} {s1:By} {l1:Lq} {n4:Int} {l2 tl:Lq} {md:By} {no k n:Int} {s:By} {l:Lq} {n5 n6:Int} {s2:By} {l3:Lq} {n7 n8:Int} {j:By} {E I:Lq} {n9 e:Int} {J:By} {M:Lq} {pid:Int} {nm:By} (e1:o.len bx=n1) (e2:o.cmp .eql n1 0=false) (e3:o.cF bx 0=some (Dt n2 n3 s1 l1)) (e4:o.fits 4 0 bx=true) (e5:o.minus n1 1=n4) (e6:o.sub bx 1 n4=some l2) (e7:o.fits 4 56 l2=true) (e8:o.call 206 [Al tl,As md,Ai no,As ⟨#[104,97,110,100,108,101]⟩,Al [Dt k n s l,Dt n2 n3 s1 l1]] []=Ar (.tup [At n5 n6 s2 l3,Ab true])) (e9:o.call 207 [At n5 n6 s2 l3,Ai 2,As ⟨#[115,116,111,112]⟩] []=Ar (Ab false)) (O:o.call 207 [At n5 n6 s2 l3,Ai 2,As ⟨#[111,107]⟩] []=Ar (Ab false)) (S:o.call 207 [At n5 n6 s2 l3,Ai 3,As ⟨#[111,107]⟩] []=Ar (Ab true)) (U:o.cF l3 2=some (Dt n7 n8 j E)) (V:o.call 211 [At n7 n8 j E] []=Ar (.tup [Al I,Ab true])) (a0:o.cF l3 1=some (Dt n9 e J M)):o.call 119 [Al tl,.ptr (1,0) 0] [some (Bw pid nm md no k n s l bx)]=some ⟨.tup [Al I,Ai 1],[some (Bw pid nm md no n9 e J M l2)],[]⟩:=by
 refine ho.aj ?_
 cbv
 repeat (simp only[*];try cbv)
theorem rj {bx:Lq} {n1 n2 n3:Int} {s1:By} {l1:Lq} {n4:Int} {l2 tl:Lq} {md:By} {no k n:Int} {s:By} {l:Lq} {n5 n6:Int} {s2:By} {l3:Lq} {pid:Int} {nm:By} (E:o.len bx=n1) (I:o.cmp .eql n1 0=false) (J:o.cF bx 0=some (Dt n2 n3 s1 l1)) (M:o.fits 4 0 bx=true) (O:o.minus n1 1=n4) (S:o.sub bx 1 n4=some l2) (U:o.fits 4 56 l2=true) (V:o.call 206 [Al tl,As md,Ai no,As ⟨#[104,97,110,100,108,101]⟩,Al [Dt k n s l,Dt n2 n3 s1 l1]] []=Ar (.tup [At n5 n6 s2 l3,Ab true])) (e9:o.call 207 [At n5 n6 s2 l3,Ai 2,As ⟨#[115,116,111,112]⟩] []=Ar (Ab false)) (e:o.call 207 [At n5 n6 s2 l3,Ai 2,As ⟨#[111,107]⟩] []=Ar (Ab false)) (j:o.call 207 [At n5 n6 s2 l3,Ai 3,As ⟨#[111,107]⟩] []=Ar (Ab false)):o.call 119 [Al tl,.ptr (1,0) 0] [some (Bw pid nm md no k n s l bx)]=some ⟨.tup [Al [],Ai 3],[some (Bw pid nm md no k n s l l2)],[]⟩:=by
 refine ho.aj ?_
 cbv
 repeat (simp only[*];try cbv)
theorem zX {bx:Lq} {n1 n2 n3:Int} {s1:By} {l1:Lq} {n4:Int} {l2 tl:Lq} {md:By} {no k n:Int} {s:By} {l:Lq} {n5 n6:Int} {s2:By} {l3:Lq} {n7 n8:Int} {e:By} {j E:Lq} {pid:Int} {nm:By} (S:o.len bx=n1) (U:o.cmp .eql n1 0=false) (V:o.cF bx 0=some (Dt n2 n3 s1 l1)) (e4:o.fits 4 0 bx=true) (e5:o.minus n1 1=n4) (e6:o.sub bx 1 n4=some l2) (e7:o.fits 4 56 l2=true) (e8:o.call 206 [Al tl,As md,Ai no,As ⟨#[104,97,110,100,108,101]⟩,Al [Dt k n s l,Dt n2 n3 s1 l1]] []=Ar (.tup [At n5 n6 s2 l3,Ab true])) (e9:o.call 207 [At n5 n6 s2 l3,Ai 2,As ⟨#[115,116,111,112]⟩] []=Ar (Ab false)) (I:o.call 207 [At n5 n6 s2 l3,Ai 2,As ⟨#[111,107]⟩] []=Ar (Ab false)) (J:o.call 207 [At n5 n6 s2 l3,Ai 3,As ⟨#[111,107]⟩] []=Ar (Ab true)) (M:o.cF l3 2=some (Dt n7 n8 e j)) (O:o.call 211 [At n7 n8 e j] []=Ar (.tup [Al E,Ab false])):o.call 119 [Al tl,.ptr (1,0) 0] [some (Bw pid nm md no k n s l bx)]=some ⟨.tup [Al [],Ai 3],[some (Bw pid nm md no k n s l l2)],[]⟩:=by
 refine ho.aj ?_
 cbv
 repeat (simp only[*];try cbv)
theorem BH {pid:Int} {nm md:By} {no k n:Int} {s:By} {l bx l1 l2:Lq} {n1:Int} {tl:Lq} (e:o.call 115 [Aw pid nm md no k n s l bx] []=some ⟨Ax pid nm md no k n s,[],[Oq l1,Oq l2]⟩) (j:o.len bx=n1) (E:o.cmp .eql n1 0=true):o.call 46 [Al tl,Aw pid nm md no k n s l bx] []=some ⟨.tup [Ax pid nm md no k n s,.emp,Ai 0],[],[Oq l1,Oq l2]⟩:=by
 refine ho.aj ?_
 cbv
 repeat (simp only[*];try cbv)
theorem BI {pid:Int} {nm md:By} {no k n:Int} {s:By} {l bx l1 l2:Lq} {n1:Int} {tl l3 e:Lq} {n2 n3 n4:Int} {s1:By} {j E I J M:Lq} (O:o.call 115 [Aw pid nm md no k n s l bx] []=some ⟨Ax pid nm md no k n s,[],[Oq l1,Oq l2]⟩) (S:o.len bx=n1) (U:o.cmp .eql n1 0=false) (V:o.call 116 [Al tl] []=Ar (Ab true)) (e5:o.call 75 [Aw pid nm md no k n s l bx] []=Ar (Ab true)) (e6:o.bE l1=l3) (e7:o.bE l2=e) (e8:o.call 120 [.ptr (1,0) 0,Al tl] [some (Bw pid nm md no k n s l3 e)]=some ⟨.tup [.arr (0,0) (120,8) none false,Ai n2],[some (Bw pid nm md no n3 n4 s1 j E)],[some (.orows (120,8) I)]⟩) (e9:o.call 115 [Aw pid nm md no n3 n4 s1 j E] []=some ⟨Ax pid nm md no n3 n4 s1,[],[Oq J,Oq M]⟩):o.call 46 [Al tl,Aw pid nm md no k n s l bx] []=some ⟨.tup [Ax pid nm md no n3 n4 s1,.arr (0,2) (120,8) none false,Ai n2],[],[Oq J,Oq M,some (.orows (120,8) I)]⟩:=by
 refine ho.aj ?_
 cbv
 repeat (simp only[*];try cbv)
theorem BJ {pid:Int} {nm md:By} {no k n:Int} {s:By} {l bx l1 l2:Lq} {n1:Int} {tl:Lq} (e:o.call 115 [Aw pid nm md no k n s l bx] []=some ⟨Ax pid nm md no k n s,[],[Oq l1,Oq l2]⟩) (j:o.len bx=n1) (E:o.cmp .eql n1 0=false) (I:o.call 116 [Al tl] []=Ar (Ab false)):o.call 46 [Al tl,Aw pid nm md no k n s l bx] []=some ⟨.tup [Ax pid nm md no k n s,.emp,Ai 0],[],[Oq l1,Oq l2]⟩:=by
 refine ho.aj ?_
 cbv
 repeat (simp only[*];try cbv)
theorem BK {pid:Int} {nm md:By} {no k n:Int} {s:By} {l bx l1 l2:Lq} {n1:Int} {tl:Lq} (e:o.call 115 [Aw pid nm md no k n s l bx] []=some ⟨Ax pid nm md no k n s,[],[Oq l1,Oq l2]⟩) (j:o.len bx=n1) (E:o.cmp .eql n1 0=false) (I:o.call 116 [Al tl] []=Ar (Ab true)) (J:o.call 75 [Aw pid nm md no k n s l bx] []=Ar (Ab false)):o.call 46 [Al tl,Aw pid nm md no k n s l bx] []=some ⟨.tup [Ax pid nm md no k n s,.emp,Ai 0],[],[Oq l1,Oq l2]⟩:=by
 refine ho.aj ?_
 cbv
 repeat (simp only[*];try cbv)
theorem BL {pid:Int} {nm md:By} {no k n:Int} {s:By} {l bx l1 l2:Lq} {n1:Int} {tl l3 e:Lq} {n2 n3 n4:Int} {s1:By} {j E I J:Lq} (M:o.call 115 [Aw pid nm md no k n s l bx] []=some ⟨Ax pid nm md no k n s,[],[Oq l1,Oq l2]⟩) (O:o.len bx=n1) (S:o.cmp .eql n1 0=false) (U:o.call 116 [Al tl] []=Ar (Ab true)) (V:o.call 75 [Aw pid nm md no k n s l bx] []=Ar (Ab true)) (e6:o.bE l1=l3) (e7:o.bE l2=e) (e8:o.call 120 [.ptr (1,0) 0,Al tl] [some (Bw pid nm md no k n s l3 e)]=some ⟨.tup [.emp,Ai n2],[some (Bw pid nm md no n3 n4 s1 j E)],[]⟩) (e9:o.call 115 [Aw pid nm md no n3 n4 s1 j E] []=some ⟨Ax pid nm md no n3 n4 s1,[],[Oq I,Oq J]⟩):o.call 46 [Al tl,Aw pid nm md no k n s l bx] []=some ⟨.tup [Ax pid nm md no n3 n4 s1,.emp,Ai n2],[],[Oq I,Oq J]⟩:=by
 refine ho.aj ?_
 cbv
 repeat (simp only[*];try cbv)
theorem sL {pid:Int} {nm md:By} {no k n:Int} {s:By} {l bx tl l1:Lq} {n1 n2 n3:Int} {s1:By} {l2 l3:Lq} (e:o.call 110 [Aw pid nm md no k n s l bx] []=Ar (Aw pid nm md no k n s l bx)) (j:o.call 111 [Al tl] []=Ar (Ab true)) (E:o.call 112 [Aw pid nm md no k n s l bx] []=Ar (Ab true)) (I:o.call 119 [Al tl,.ptr (1,0) 0] [some (Bw pid nm md no k n s l bx)]=some ⟨.tup [Al l1,Ai n1],[some (Bw pid nm md no n2 n3 s1 l2 l3)],[]⟩):o.call 45 [Al tl,Aw pid nm md no k n s l bx] []=Ar (.tup [Aw pid nm md no n2 n3 s1 l2 l3,Al l1,Ai n1]):=by
 refine ho.aj ?_
 cbv
 repeat (simp only[*];try cbv)
theorem sM {pid:Int} {nm md:By} {no k n:Int} {s:By} {l bx tl:Lq} (e:o.call 110 [Aw pid nm md no k n s l bx] []=Ar (Aw pid nm md no k n s l bx)) (j:o.call 111 [Al tl] []=Ar (Ab false)):o.call 45 [Al tl,Aw pid nm md no k n s l bx] []=Ar (.tup [Aw pid nm md no k n s l bx,Al [],Ai 0]):=by
 refine ho.aj ?_
 cbv
 repeat (simp only[*];try cbv)
theorem sN {pid:Int} {nm md:By} {no k n:Int} {s:By} {l bx tl:Lq} (e:o.call 110 [Aw pid nm md no k n s l bx] []=Ar (Aw pid nm md no k n s l bx)) (j:o.call 111 [Al tl] []=Ar (Ab true)) (E:o.call 112 [Aw pid nm md no k n s l bx] []=Ar (Ab false)):o.call 45 [Al tl,Aw pid nm md no k n s l bx] []=Ar (.tup [Aw pid nm md no k n s l bx,Al [],Ai 0]):=by
 refine ho.aj ?_
 cbv
 repeat (simp only[*];try cbv)
def LV (tl:Lq):Prop:=(∀x∈tl,GR x)/\(tl.length:Int)<=1048576
def V8 (o:aM) (r:Option cn) (k n:Int) (s:By) (l:Lq):Prop:=
 (Z4 k n s l/\r=some ⟨.agg [.d (.int .i64 0),.d (.int .i64 0),.d (.str ⟨#[]⟩),.emp],[],[]⟩)\/(Rt o 8 (.agg [.int .i64 k,.int .i64 n,.str s,.lst l])/\r=some ⟨.agg [.d (.int .i64 k),.d (.int .i64 n),.d (.str s),.arr (0,0) (31,4) none false],[],[some (.orows (31,4) (bM l))]⟩)
def V9 (r:Option cn) (b:Bool) (k n:Int) (s:By) (l:Lq):Prop:=r=some ⟨.tup [.agg [.d (.int .i64 k),.d (.int .i64 n),.d (.str s),.d (.lst l)],.d (.bool b)],[],[]⟩
theorem IZ (pid:Int) (nm md:By) (no k0 n0:Int) (s0:By) (l0 bx tl:Lq) (hT:LV tl) (hE:∀x∈tl,qx o x=true) (q:Int) (h0:0<=q) (hq:q<=1000000) (t:By) (al:Lq) {m:Nat} (hA:∀x∈al,Tm m x) (M:(al.length:Int)<=1048576) (U:al.all (pO o)=true):
  ∃b k n s l,V8 o (o.call 209 [.sp [.int .i64 pid,.str nm,.str md,.int .i64 no,.int .i64 k0,.int .i64 n0,.str s0,.lst l0,.lst bx] 0,Al tl,Ai q,As t,Al al] []) k n s l/\V9 (o.call 206 [Al tl,As md,Ai q,As t,Al al] []) b k n s l/\(b=false->Z4 k n s l):=by
 rcases GX ho hT.1 hT.2 hE md q h0 hq with ⟨j,E⟩ | ⟨f,p,hK,hB,j,E⟩
 ·have e:=tZ ho [] [] t (λx hx=>by cases hx) (by decide);exact ⟨false,0,0,⟨#[]⟩,[],.inl ⟨⟨rfl,rfl,rfl,rfl⟩,uf ho j⟩,zO ho E e,λ_=>⟨rfl,rfl,rfl,rfl⟩⟩
 have e:=tZ ho f p t hK.1 hK.2.1;have a0:=pD f t;have bad:nk o f t al=false->∃c,o.call 91 [Sc f p,As t,Al al,Ai 3000] []=Ar (.tup [.agg [Ai 0,Ai 0,As ⟨#[]⟩,.emp],Ai c]):=λhr=>by
  rcases Iz ho f p t al hK hB hA M with ⟨_,nI⟩ | ⟨hb,_⟩
  ·exact ⟨_,CY ho nI⟩
  rw[hr]at hb;cases hb
 rcases bn ho (iB f t) 0 with ⟨J,g3⟩ | ⟨J,g3⟩
 case inr=>
  obtain ⟨c,hc⟩:=bad (by unfold nk;rw[decide_eq_false (by omega)];rfl);exact ⟨false,0,0,⟨#[]⟩,[],.inl ⟨⟨rfl,rfl,rfl,rfl⟩,jF ho j hc⟩,zN ho E e J,λ_=>⟨rfl,rfl,rfl,rfl⟩⟩
 obtain ⟨s1,n2,n3,l1,O,a1,ha,hs,a3,_⟩:=pF hK.1 ho hB (i:=iB f t) g3 (by omega);have S:iU f (iB f t)=n2:=by unfold iU;rw[O]
 have e4:=ay ho g3 O;obtain ⟨n4,e5,g5⟩:=aC ho al;rcases cD ho n2 n4 with ⟨V,g6⟩ | ⟨V,g6⟩
 case inr=>
  obtain ⟨c,hc⟩:=bad (by unfold nk;rw[S,decide_eq_false (p:=n2=al.length) (by omega),Bool.false_and,Bool.and_false]);exact ⟨false,0,0,⟨#[]⟩,[],.inl ⟨⟨rfl,rfl,rfl,rfl⟩,jF ho j hc⟩,zP ho E e J e4 e5 V,λ_=>⟨rfl,rfl,rfl,rfl⟩⟩
 have Q:nk o f t al=true:=by unfold nk;rw[S,decide_eq_true (by omega),decide_eq_true (p:=n2=al.length) (by omega),U];rfl
 obtain ⟨c,k,n,s,l,I,eS⟩:=GQ ho hK hB (n:=3000) (by omega) (by omega) t al hA M Q;have hS:=zQ ho E e J e4 e5 V eS (Rq ho c 0);rcases I with ⟨hz,I⟩ | ⟨rfl,U,I⟩
 ·exact ⟨_,k,n,s,l,.inl ⟨hz,jF ho j I⟩,hS,λ_=>hz⟩
 exact ⟨_,k,n,s,l,.inr ⟨U,ud ho j I⟩,hS,λh=>by simp at h⟩
def SI (pid:Int) (nm md:By) (no:Int) (r:Option cn) (c k n:Int) (s:By) (l bx z:Lq):Prop:=
 (z=[]/\r=some ⟨.tup [.emp,.d (.int .i64 c)],[some (.box [.d (.int .i64 pid),.d (.str nm),.d (.str md),.d (.int .i64 no),.d (.int .i64 k),.d (.int .i64 n),.d (.str s),.d (.lst l),.d (.lst bx)])],[]⟩)\/r=some ⟨.tup [.arr (0,0) (120,8) none false,.d (.int .i64 c)],[some (.box [.d (.int .i64 pid),.d (.str nm),.d (.str md),.d (.int .i64 no),.d (.int .i64 k),.d (.int .i64 n),.d (.str s),.d (.lst l),.d (.lst bx)])],[some (.orows (120,8) (z.map iX))]⟩
def WR (o:aM) (k n:Int) (s:By) (l bx z:Lq):Prop:=Rt o 8 (.agg [.int .i64 k,.int .i64 n,.str s,.lst l])/\(∀x∈bx,Rt o 8 x)/\(bx.length:Int)<=20/\(∀y∈z,QG o y)/\(z.length:Int)<=60
theorem G0 (pid:Int) (nm md:By) (no k n:Int) (s:By) (l bx tl:Lq) (hT:LV tl) (hE:∀x∈tl,qx o x=true) (h0:0<=no) (hq:no<=1000000) (ao:Rt o 8 (.agg [.int .i64 k,.int .i64 n,.str s,.lst l])) (ap:∀x∈bx,Rt o 8 x) (b1:(bx.length:Int)<=20) (h1:0<(bx.length:Int)) (b2:pO o (.agg [.int .i64 k,.int .i64 n,.str s,.lst l])=true) (aw:bx.all (pO o)=true):
  ∃c k' n' s' l' a3 z,SI pid nm md no (o.call 120 [.ptr (1,0) 0,Al tl] [some (Bw pid nm md no k n s l bx)]) c k' n' s' l' a3 z/\o.call 119 [Al tl,.ptr (1,0) 0] [some (Bw pid nm md no k n s l bx)]=some ⟨.tup [Al z,Ai c],[some (Bw pid nm md no k' n' s' l' a3)],[]⟩/\WR o k' n' s' l' a3 z:=by
 have hS:=fO ao;have hX:∀x∈bx,Tm 8 x:=λx hx=>fO (ap x hx)
 have hb:(bx.length:Int)<=1048576:=by omega
 obtain ⟨x,e,rfl⟩:∃x q,bx=x::q:=by
  cases bx with
  | nil=>simp at h1
  | cons x q=>exact ⟨x,q,rfl⟩
 have az:=hX x (by simp);obtain ⟨m1,n1,n2,s1,l1,hd,rfl,hs,b8,ht⟩:=bH az;have M:=ay ho (xs:=D.agg [.int .i64 n1,.int .i64 n2,.str s1,.lst l1]::e) (i:=0) (Int.le_refl _) rfl;have O:o.fits 4 0 (D.agg [.int .i64 n1,.int .i64 n2,.str s1,.lst l1]::e)=true:=cW ho (by omega) (by decide) λy j=>sQ (hX y j)
 obtain ⟨n3,S,g3⟩:=aC ho (D.agg [.int .i64 n1,.int .i64 n2,.str s1,.lst l1]::e);have U:o.minus n3 1=n3-1:=by rw[ho.minus]
 have V:o.sub (D.agg [.int .i64 n1,.int .i64 n2,.str s1,.lst l1]::e) 1 (n3-1)=some e:=by
  rw[iy ho (by omega) (by omega) (by omega)];have:(n3-1).toNat=e.length:=by simp at g3;omega
  rw[this];simp
 have a4:o.fits 4 56 e=true:=cW ho (by simp at hb;omega) (by decide) λy j=>sQ (hX y (by simp[j]))
 have hA:∀y∈[D.agg [.int .i64 k,.int .i64 n,.str s,.lst l],.agg [.int .i64 n1,.int .i64 n2,.str s1,.lst l1]],Tm 8 y:=λy j=>by
  simp only[List.mem_cons,List.not_mem_nil,or_false]at j;rcases j with rfl | rfl
  ·exact hS
  exact az
 have hO:[D.agg [.int .i64 k,.int .i64 n,.str s,.lst l],.agg [.int .i64 n1,.int .i64 n2,.str s1,.lst l1]].all (pO o)=true:=by
  simp only[List.all_cons,af]at aw;simp[b2,aw.1]
 obtain ⟨b,ka,na,sa,la,rI,rS,b3⟩:=IZ ho pid nm md no k n s l e tl hT hE no h0 hq ⟨#[104,97,110,100,108,101]⟩ _ hA (by simp) hO;have b9:(e.length:Int)<=1048576:=by simp at hb;omega
 have bb:∀y∈e,Tm 8 y:=λy j=>hX y (by simp[j])
 have a9:∀y∈e,Rt o 8 y:=λy j=>ap y (by simp[j])
 have ac:(e.length:Int)<=20:=by simp at b1;omega
 have c0:=Pc ho n3 (by simp at g3;omega);have E:∀y∈la,Tm 7 y:=by
  rcases rI with ⟨⟨_,_,_,rfl⟩,_⟩ | ⟨Q,_⟩
  ·intro y j;cases j
  obtain ⟨m2,h2,_,h3⟩:=lI Q;obtain rfl:m2=7:=by omega
  exact λy j=>fO (h3 y j)
 have I:=BF ho ka na sa la E 2 (by decide) ⟨#[111,107]⟩;have a0:=BF ho ka na sa la E 2 (by decide) ⟨#[115,116,111,112]⟩;have a5:=BF ho ka na sa la E 3 (by decide) ⟨#[111,107]⟩;have a1:=BG ho ka na sa la E 2 (by decide) ⟨#[111,107]⟩;have J:=BG ho ka na sa la E 2 (by decide) ⟨#[115,116,111,112]⟩;have a6:=BG ho ka na sa la E 3 (by decide) ⟨#[111,107]⟩;have keep:∀{c:Int},SI pid nm md no (o.call 120 [.ptr (1,0) 0,Al tl] [some (Bw pid nm md no k n s l (D.agg [.int .i64 n1,.int .i64 n2,.str s1,.lst l1]::e))]) c k n s l e []->o.call 119 [Al tl,.ptr (1,0) 0] [some (Bw pid nm md no k n s l (D.agg [.int .i64 n1,.int .i64 n2,.str s1,.lst l1]::e))]=some ⟨.tup [Al [],Ai c],[some (Bw pid nm md no k n s l e)],[]⟩->∃c k' n' s' l' a3 z,SI pid nm md no (o.call 120 [.ptr (1,0) 0,Al tl] [some (Bw pid nm md no k n s l (D.agg [.int .i64 n1,.int .i64 n2,.str s1,.lst l1]::e))]) c k' n' s' l' a3 z/\o.call 119 [Al tl,.ptr (1,0) 0] [some (Bw pid nm md no k n s l (D.agg [.int .i64 n1,.int .i64 n2,.str s1,.lst l1]::e))]=some ⟨.tup [Al z,Ai c],[some (Bw pid nm md no k' n' s' l' a3)],[]⟩/\WR o k' n' s' l' a3 z:=
  λhi hs=>⟨_,_,_,_,_,_,_,hi,hs,ao,a9,ac,λy j=>(by cases j),by decide⟩
 rcases rI with ⟨⟨rfl,rfl,rfl,rfl⟩,rI⟩ | ⟨Q,rI⟩
 ·have f1:j5 0 [] 2 ⟨#[111,107]⟩=false:=rfl;have f2:j5 0 [] 2 ⟨#[115,116,111,112]⟩=false:=rfl;have f3:j5 0 [] 3 ⟨#[111,107]⟩=false:=rfl;rw[f1]at I a1;rw[f2]at a0 J;rw[f3]at a5 a6;refine keep (.inl ⟨rfl,qX ho M O S U V rI I a0 a5⟩) ?_;cases b with
  | false=>exact zU ho S c0 M O U V a4 rS
  | true=>exact rj ho S c0 M O U V a4 rS J a1 a6
 have b4:b=true:=by
  cases b with
  | true=>rfl
  | false=>exact (SF Q (b3 rfl).1).elim
 subst b4;have ae:∀y∈la,Rt o 7 y:=by
  obtain ⟨m2,h2,_,h3⟩:=lI Q;obtain rfl:m2=7:=by omega
  exact h3
 have e7:o.closed (bM la)=true:=by rw[ho.closed];exact GZ E
 have e8:o.bE (bM la)=la:=(ho.bE _).trans (iY E);cases ag:j5 ka la 2 ⟨#[115,116,111,112]⟩
 case true=>
  have a7:j5 ka la 2 ⟨#[111,107]⟩=false:=Pb (by decide) ag;rw[ag]at a0 J;rw[a7]at I;exact keep (.inl ⟨rfl,qQ ho M O S U V rI e7 e8 I a0⟩) (zS ho S c0 M O U V a4 rS J)
 rw[ag]at a0 J;cases a7:j5 ka la 2 ⟨#[111,107]⟩
 case true=>
  rw[a7]at I a1;obtain ⟨u,kb,nb,sb,lb,rfl⟩:=SG a7 E;have am:=ae _ (List.mem_cons_of_mem _ (List.mem_cons_self ..));have a8:=ay ho (xs:=[u,D.agg [.int .i64 kb,.int .i64 nb,.str sb,.lst lb]]) (i:=1) (by omega) rfl;exact ⟨_,_,_,_,_,_,[],.inl ⟨rfl,qP ho M O S U V rI e7 e8 I a8⟩,zV ho S c0 M O U V a4 rS J a1 a8,mo am,a9,ac,λy j=>(by cases j),by decide⟩
 rw[a7]at I a1;cases an:j5 ka la 3 ⟨#[111,107]⟩
 case false=>
  rw[an]at a5 a6;exact keep (.inl ⟨rfl,qU ho M O S U V rI e7 e8 I a0 a5⟩) (rj ho S c0 M O U V a4 rS J a1 a6)
 rw[an]at a5 a6;obtain ⟨u,kb,nb,sb,lb,kc,nc,sc,lc,rfl⟩:=SH an E;have am:=ae _ (List.mem_cons_of_mem _ (List.mem_cons_self ..));have b5:=ae _ (List.mem_cons_of_mem _ (List.mem_cons_of_mem _ (List.mem_cons_self ..)));have a8:=ay ho (xs:=[u,D.agg [.int .i64 kb,.int .i64 nb,.str sb,.lst lb],D.agg [.int .i64 kc,.int .i64 nc,.str sc,.lst lc]]) (i:=1) (by omega) rfl;have aa:=ay ho (xs:=[u,D.agg [.int .i64 kb,.int .i64 nb,.str sb,.lst lb],D.agg [.int .i64 kc,.int .i64 nc,.str sc,.lst lc]]) (i:=2) (by omega) rfl;obtain ⟨mc,bc,b6,b0⟩:=lI b5;obtain rfl:mc=6:=by omega
 have bd:=(hU b6).2;have b7:∀y∈lc,Tm 6 y:=λy j=>fO (b0 y j)
 rcases Ek ho kc nc sc lc b7 (by omega)with ⟨dI,dS⟩ | ⟨z,hz,be,dI,dS⟩
 ·exact keep (.inl ⟨rfl,qV ho M O S U V rI e7 e8 I a0 a5 aa dI⟩) (zX ho S c0 M O U V a4 rS J a1 a6 aa dS)
 obtain ⟨r1,r2⟩:=FK hz λy j=>mo (mo (b0 y j))
 exact ⟨_,_,_,_,_,_,z,.inr (qR ho M O S U V rI e7 e8 I a0 a5 aa dI a8),zW ho S c0 M O U V a4 rS J a1 a6 aa dS a8,mo am,a9,ac,r1,by omega⟩
def SJ (pid:Int) (nm md:By) (no:Int) (r:Option cn) (c k' n':Int) (s':By) (l' bx z:Lq):Prop:=
 (z=[]/\r=some ⟨.tup [.agg [.d (.int .i64 pid),.d (.str nm),.d (.str md),.d (.int .i64 no),.d (.int .i64 k'),.d (.int .i64 n'),.d (.str s'),.arr (0,0) (31,4) none false,.arr (0,1) (31,4) none false],.emp,.d (.int .i64 c)],[],[some (.orows (31,4) (bM l')),some (.orows (31,4) (bM bx))]⟩)\/r=some ⟨.tup [.agg [.d (.int .i64 pid),.d (.str nm),.d (.str md),.d (.int .i64 no),.d (.int .i64 k'),.d (.int .i64 n'),.d (.str s'),.arr (0,0) (31,4) none false,.arr (0,1) (31,4) none false],.arr (0,2) (120,8) none false,.d (.int .i64 c)],[],[some (.orows (31,4) (bM l')),some (.orows (31,4) (bM bx)),some (.orows (120,8) (z.map iX))]⟩
theorem Dc (tl:Lq) (hT:LV tl) (pid:Int) (nm md:By) (no k n:Int) (s:By) (l bx:Lq) (a0:(nm.size:Int)<=1048576) (a1:(md.size:Int)<=1048576) {m:Nat} (S:Tm m (.agg [.int .i64 k,.int .i64 n,.str s,.lst l])) (U:∀x∈bx,Tm m x) (hb:(bx.length:Int)<=1048576):
  ∃c k' n' s' l' e z,SJ pid nm md no (o.call 46 [Al tl,Aw pid nm md no k n s l bx] []) c k' n' s' l' e z/\o.call 45 [Al tl,Aw pid nm md no k n s l bx] []=Ar (.tup [Aw pid nm md no k' n' s' l' e,Al z,Ai c])/\((k'=k/\n'=n/\s'=s/\l'=l/\e=bx/\z=[])\/WR o k' n' s' l' e z):=by
 have e1:=uZ ho pid nm md no k n s l bx S U hb;have V:=IW ho pid nm md no k n s l bx S U hb;have tI:=GV ho tl hT.1 hT.2;have j:=GW ho tl hT.1 hT.2;have wI:=Ei ho pid nm md no k n s l bx a0 a1 S U hb;have I:=Ej ho pid nm md no k n s l bx a0 a1 S U hb;obtain ⟨n1,e2,g2⟩:=aC ho bx;have keep:∀(hi:SJ pid nm md no (o.call 46 [Al tl,Aw pid nm md no k n s l bx] []) 0 k n s l bx []) (hs:o.call 45 [Al tl,Aw pid nm md no k n s l bx] []=Ar (.tup [Aw pid nm md no k n s l bx,Al [],Ai 0])),_:=λhi hs=>(⟨_,_,_,_,_,_,[],hi,hs,.inl ⟨rfl,rfl,rfl,rfl,rfl,rfl⟩⟩:∃c k' n' s' l' e z,SJ pid nm md no (o.call 46 [Al tl,Aw pid nm md no k n s l bx] []) c k' n' s' l' e z/\o.call 45 [Al tl,Aw pid nm md no k n s l bx] []=Ar (.tup [Aw pid nm md no k' n' s' l' e,Al z,Ai c])/\((k'=k/\n'=n/\s'=s/\l'=l/\e=bx/\z=[])\/WR o k' n' s' l' e z))
 rcases av ho n1 0 with ⟨J,g3⟩ | ⟨J,g3⟩
 case inr=>
  refine keep (.inl ⟨rfl,BH ho e1 e2 J⟩) ?_;cases M:xH o tl
  ·rw[M]at j;exact sM ho V j
  rw[M]at j;cases E:Ap o pid nm md no (.agg [.int .i64 k,.int .i64 n,.str s,.lst l]) bx
  ·rw[E]at I;exact sN ho V j I
  rw[E]at I;exact sL ho V j I (zR ho e2 J)
 cases M:xH o tl
 case false=>
  rw[M]at tI j;exact keep (.inl ⟨rfl,BJ ho e1 e2 J tI⟩) (sM ho V j)
 rw[M]at tI j;cases E:Ap o pid nm md no (.agg [.int .i64 k,.int .i64 n,.str s,.lst l]) bx
 case false=>
  rw[E]at wI I;exact keep (.inl ⟨rfl,BK ho e1 e2 J tI wI⟩) (sN ho V j I)
 rw[E]at wI I;have hE:∀x∈tl,qx o x=true:=λx hx=>by
  unfold xH at M;exact List.all_eq_true.1 (ba (ba M).1).1 x hx
 unfold Ap at E;have w4:=cL (ba (ba (ba (ba E).2).2).2).1;have w5:=(ba (ba (ba (ba (ba E).2).2).2).2).1;have w6:=(ba (ba (ba (ba (ba (ba E).2).2).2).2).2).2;have a3:=of_decide_eq_true (ba (ba (ba (ba (ba (ba E).2).2).2).2).2).1;obtain ⟨c,k',n',s',l',e,z,hI,a4,O⟩:=G0 ho pid nm md no k n s l bx tl hT hE (by omega) (by omega) (xE S w5) (λx hx=>xE (U x hx) (List.all_eq_true.1 w6 x hx)) a3 (by omega) w5 w6;obtain ⟨mm,a6,_,a7,a5⟩:=ji S;have f1:o.bE (bM l)=l:=(ho.bE _).trans (iY a5);have f2:o.bE (bM bx)=bx:=(ho.bE _).trans (iY U);have e9:=uZ ho pid nm md no k' n' s' l' e (fO O.1) (λx hx=>fO (O.2.1 x hx)) (by have:=O.2.2.1;omega);refine ⟨c,k',n',s',l',e,z,?_,sL ho V j I a4,.inr O⟩;rcases hI with ⟨rfl,hI⟩ | hI
 ·exact .inl ⟨rfl,BL ho e1 e2 J tI wI f1 f2 hI e9⟩
 exact .inr (BI ho e1 e2 J tI wI f1 f2 hI e9)
end
end T2
