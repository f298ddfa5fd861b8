import Derived.Test.YtfnagkpidcdocaaGreatM31
import Derived.Test.YtfnagkpidcdocaaGreatM32
import Derived.Test.YtfnagkpidcdocaaGreatM33
import Derived.Test.YtfnagkpidcdocaaGreatM34
import Derived.Test.YtfnagkpidcdocaaGreatM35
import Derived.Test.YtfnagkpidcdocaaGreatM36
import Derived.Test.YtfnagkpidcdocaaGreatM37
import Derived.Test.YtfnagkpidcdocaaGreatM38
set_option linter.all false
namespace T2
open Go Go.Vi
set_option maxRecDepth 100000
set_option maxHeartbeats 4000000
section
variable {o:aJ} (ho:aR cF bB o)
include ho
theorem Hp (c_0 c_1:List D) (f_0:ByteArray) (f_1 f_2:Int) (f_3:List D) (x_0 x_1:Int) (x_2:ByteArray) (x_3:Int) (hC:∀x∈c_0,uE x) (hCb:(c_0.length:Int)<=1048576) {m:Nat} (hP:∀x∈c_1,Tm m x) (hPb:(c_1.length:Int)<=1048576) (hs2:(x_2.size:Int)<=1048576) (hf:0<=f_2/\f_2<=400) (hl3:(f_3.length:Int)<=1048576):o.call 279 [.sp [.lst c_0,.lst c_1] 0,.sp [.str f_0,.int .i64 f_1,.int .i64 f_2,.lst f_3] 0,.agg [Ai x_0,Ai x_1,As x_2,Ai x_3]] []=Ar (Ab (aQ o c_0 c_1 f_2 f_3.length 0 x_0 x_1 x_2 x_3)):=by
 by_cases h1:x_0=1
 ·exact Hr ho c_0 c_1 f_0 f_1 f_2 f_3 x_0 x_1 x_2 x_3 hC hCb hP hPb hs2 hf hl3 h1
 by_cases h2:x_0=2
 ·exact Hs ho c_0 c_1 f_0 f_1 f_2 f_3 x_0 x_1 x_2 x_3 hC hCb hP hPb hs2 hf hl3 h2
 by_cases h3:x_0=3
 ·exact Ht ho c_0 c_1 f_0 f_1 f_2 f_3 x_0 x_1 x_2 x_3 hC hCb hP hPb hs2 hf hl3 h3
 by_cases h4:x_0=4
 ·exact Hu ho c_0 c_1 f_0 f_1 f_2 f_3 x_0 x_1 x_2 x_3 hC hCb hP hPb hs2 hf hl3 h4
 by_cases h5:x_0=5
 ·exact Hv ho c_0 c_1 f_0 f_1 f_2 f_3 x_0 x_1 x_2 x_3 hC hCb hP hPb hs2 hf hl3 h5
 by_cases h6:x_0=6
 ·exact Hw ho c_0 c_1 f_0 f_1 f_2 f_3 x_0 x_1 x_2 x_3 hC hCb hP hPb hs2 hf hl3 h6
 by_cases h7:x_0=7
 ·exact Hx ho c_0 c_1 f_0 f_1 f_2 f_3 x_0 x_1 x_2 x_3 hC hCb hP hPb hs2 hf hl3 h7
 by_cases h8:x_0=8
 ·exact Hy ho c_0 c_1 f_0 f_1 f_2 f_3 x_0 x_1 x_2 x_3 hC hCb hP hPb hs2 hf hl3 h8
 by_cases h9:x_0=9
 ·exact Hz ho c_0 c_1 f_0 f_1 f_2 f_3 x_0 x_1 x_2 x_3 hC hCb hP hPb hs2 hf hl3 h9
 by_cases h10:x_0=10
 ·exact Eu ho c_0 c_1 f_0 f_1 f_2 f_3 x_0 x_1 x_2 x_3 hC hCb hP hPb hs2 hf hl3 h10
 by_cases h11:x_0=11
 ·exact Ev ho c_0 c_1 f_0 f_1 f_2 f_3 x_0 x_1 x_2 x_3 hC hCb hP hPb hs2 hf hl3 h11
 by_cases h12:x_0=12
 ·exact Ew ho c_0 c_1 f_0 f_1 f_2 f_3 x_0 x_1 x_2 x_3 hC hCb hP hPb hs2 hf hl3 h12
 exact Hq ho c_0 c_1 f_0 f_1 f_2 f_3 x_0 x_1 x_2 x_3 hC hCb hP hPb hs2 hf hl3 (by omega)
end
section
variable {o:aJ} (ho:aR cF bB o)
include ho
theorem K7 (a0_0 a0_1:List D) (a1_0:ByteArray) (a1_1 a1_2:Int) (a1_3:List D) (a2 n1 n2:Int) (s1:ByteArray) (n3:Int) (hI:a1_3[a2.toNat]? =some (.agg [.int .i64 n1,.int .i64 n2,.str s1,.int .i64 n3])) (h20:0<=a2) (h21:a2<a1_3.length) (hC:∀x∈a0_0,uE x) (hCb:(a0_0.length:Int)<=1048576) {m:Nat} (hP:∀x∈a0_1,Tm m x) (hPb:(a0_1.length:Int)<=1048576) (hs2:(s1.size:Int)<=1048576) (hf:0<=a1_2/\a1_2<=400) (hl3:(a1_3.length:Int)<=1048576):o.call 317 [.agg [Al a0_0,Al a0_1],.agg [As a1_0,Ai a1_1,Ai a1_2,Al a1_3],Ai a2] []=Ar (Ab (aQ o a0_0 a0_1 a1_2 a1_3.length (a2+1) n1 n2 s1 n3)):=by
 by_cases h1:n1=1
 ·exact HB ho a0_0 a0_1 a1_0 a1_1 a1_2 a1_3 a2 n1 n2 s1 n3 hI h20 h21 hC hCb hP hPb hs2 hf hl3 h1
 by_cases h2:n1=2
 ·exact HC ho a0_0 a0_1 a1_0 a1_1 a1_2 a1_3 a2 n1 n2 s1 n3 hI h20 h21 hC hCb hP hPb hs2 hf hl3 h2
 by_cases h3:n1=3
 ·exact HE ho a0_0 a0_1 a1_0 a1_1 a1_2 a1_3 a2 n1 n2 s1 n3 hI h20 h21 hC hCb hP hPb hs2 hf hl3 h3
 by_cases h4:n1=4
 ·exact HF ho a0_0 a0_1 a1_0 a1_1 a1_2 a1_3 a2 n1 n2 s1 n3 hI h20 h21 hC hCb hP hPb hs2 hf hl3 h4
 by_cases h5:n1=5
 ·exact HG ho a0_0 a0_1 a1_0 a1_1 a1_2 a1_3 a2 n1 n2 s1 n3 hI h20 h21 hC hCb hP hPb hs2 hf hl3 h5
 by_cases h6:n1=6
 ·exact HI ho a0_0 a0_1 a1_0 a1_1 a1_2 a1_3 a2 n1 n2 s1 n3 hI h20 h21 hC hCb hP hPb hs2 hf hl3 h6
 by_cases h7:n1=7
 ·exact HJ ho a0_0 a0_1 a1_0 a1_1 a1_2 a1_3 a2 n1 n2 s1 n3 hI h20 h21 hC hCb hP hPb hs2 hf hl3 h7
 by_cases h8:n1=8
 ·exact HK ho a0_0 a0_1 a1_0 a1_1 a1_2 a1_3 a2 n1 n2 s1 n3 hI h20 h21 hC hCb hP hPb hs2 hf hl3 h8
 by_cases h9:n1=9
 ·exact HL ho a0_0 a0_1 a1_0 a1_1 a1_2 a1_3 a2 n1 n2 s1 n3 hI h20 h21 hC hCb hP hPb hs2 hf hl3 h9
 by_cases h10:n1=10
 ·exact Ey ho a0_0 a0_1 a1_0 a1_1 a1_2 a1_3 a2 n1 n2 s1 n3 hI h20 h21 hC hCb hP hPb hs2 hf hl3 h10
 exact HA ho a0_0 a0_1 a1_0 a1_1 a1_2 a1_3 a2 n1 n2 s1 n3 hI h20 h21 hC hCb hP hPb hs2 hf hl3 (by omega)
end
end T2
namespace T2
open Go Go.Vi
theorem gP {o:aJ} {fns ps:List D} {sl n lo op N to:Int} {s:ByteArray} (h:aQ o fns ps sl n lo op N s to=true):
  1<=op/\op<=12/\((op=9\/op=10)->lo<=to/\to<=n-1)/\(op≠8->0<=tk op N/\tk op N<=20)/\(op=8->0<=jJ fns s/\lm fns (jJ fns s)=N):=by
 unfold aQ at h;have t:∀{a b:Bool},(a&&b)=true->a=true/\b=true:=λh=>by simpa using h
 by_cases h1:op=1
 ·subst h1;exact ⟨by omega,by omega,by omega,λ_=>by simp[tk],by omega⟩
 rw[if_neg h1]at h;by_cases h2:op=2
 ·subst h2;exact ⟨by omega,by omega,by omega,λ_=>by simp[tk],by omega⟩
 rw[if_neg h2]at h;by_cases h3:op=3
 ·subst h3;exact ⟨by omega,by omega,by omega,λ_=>by simp[tk],by omega⟩
 rw[if_neg h3]at h;by_cases h4:op=4
 ·subst h4;rw[if_pos rfl]at h;have:=bH (t h).2;exact ⟨by omega,by omega,by omega,λ_=>by simp[tk];omega,by omega⟩
 rw[if_neg h4]at h;by_cases h5:op=5
 ·subst h5;rw[if_pos rfl]at h;have:=bH (t h).2;exact ⟨by omega,by omega,by omega,λ_=>by simp[tk];omega,by omega⟩
 rw[if_neg h5]at h;by_cases h6:op=6
 ·subst h6;rw[if_pos rfl]at h;have:=bH (t h).2;exact ⟨by omega,by omega,by omega,λ_=>by simp[tk];omega,by omega⟩
 rw[if_neg h6]at h;by_cases h7:op=7
 ·subst h7;exact ⟨by omega,by omega,by omega,λ_=>by simp[tk],by omega⟩
 rw[if_neg h7]at h;by_cases h8:op=8
 ·subst h8;rw[if_pos rfl]at h;exact ⟨by omega,by omega,by omega,λh=>absurd rfl h,λ_=>⟨of_decide_eq_true (t (t h).1).1,of_decide_eq_true (t (t h).1).2⟩⟩
 rw[if_neg h8]at h;by_cases h9:op=9
 ·subst h9;rw[if_pos rfl]at h;exact ⟨by omega,by omega,λ_=>bH (t (t (t h).1).1).2,λ_=>by simp[tk],by omega⟩
 rw[if_neg h9]at h;by_cases h10:op=10
 ·subst h10;rw[if_pos rfl]at h;exact ⟨by omega,by omega,λ_=>bH (t (t h).1).2,λ_=>by simp[tk],by omega⟩
 rw[if_neg h10]at h;by_cases h11:op=11
 ·subst h11;exact ⟨by omega,by omega,by omega,λ_=>by simp[tk],by omega⟩
 rw[if_neg h11]at h;by_cases h12:op=12
 ·subst h12;exact ⟨by omega,by omega,by omega,λ_=>by simp[tk],by omega⟩
 rw[if_neg h12]at h;cases h
theorem HM {o:aJ} {fns ps:List D} {sl n lo lo' op N to:Int} {s:ByteArray} (h:aQ o fns ps sl n lo op N s to=true) (h2:(op=9\/op=10)->lo'<=to):aQ o fns ps sl n lo' op N s to=true:=by
 have ho:=gP h;by_cases h9:op=9\/op=10
 ·have e:iK to lo (n-1)=iK to lo' (n-1):=by rw[dr (ho.2.2.1 h9),dr ⟨h2 h9,(ho.2.2.1 h9).2⟩]
  unfold aQ at h |-;rw[<-e];exact h
 ·unfold aQ at h |-;rw[if_neg (by omega:¬op=9),if_neg (by omega:¬op=10)]at h |-;exact h
noncomputable def uo (o:aJ) (fns ps:List D) (sl:Int) (xs:List D) (z:Bool) (i:Int):Bool:=match xs[i.toNat]? with
 | some (.agg [.int _ op,.int _ N,.str s,.int _ to])=>aQ o fns ps sl xs.length (if z then i+1 else 0) op N s to
 | _=>false
theorem yA {o:aJ} {fns ps xs:List D} {sl i op N to:Int} {s:ByteArray} {z:Bool} (h:xs[i.toNat]? =some (.agg [.int .i64 op,.int .i64 N,.str s,.int .i64 to])):uo o fns ps sl xs z i=aQ o fns ps sl xs.length (if z then i+1 else 0) op N s to:=by unfold uo;rw[h]
def Kk (n:Int) (xs:List D) (i:Int):Prop:=∀k:Nat,∀x,xs[k]? =some x->M5 n (i+k) x
theorem zW {n:Int}:∀(xs:List D) (i:Int),Kk n xs i->oo n xs i
 | [],_,_=>trivial
 | x::xs,i,h=>⟨by have:=h 0 x rfl;simpa using this,zW xs (i+1) λk y hy=>by have:=h (k+1) y hy;rw[show i+1+(k:Int)=i+(k+1:Nat) by omega];exact this⟩
theorem uZ {n:Int}:∀(xs:List D) (i:Int),oo n xs i->Kk n xs i
 | [],_,_,k,x,hx=>by simp at hx
 | y::xs,i,h,0,x,hx=>by simp at hx;subst hx;simpa using h.1
 | y::xs,i,h,k+1,x,hx=>by have:=uZ xs (i+1) h.2 k x hx;rw[show i+1+(k:Int)=i+(k+1:Nat) by omega]at this;exact this
theorem yB {o:aJ} {n:Int}:∀(xs:List D) (i:Int) (H:List Int),pW o n xs i H=true->∀k:Nat,∀op N s to,xs[k]? =some (.agg [.int .i64 op,.int .i64 N,.str s,.int .i64 to])->(op=9\/op=10)->i+k<to
 | [],_,_,_,k,op,N,s,to,hx,_=>by simp at hx
 | y::xs,i,H,h,k,op,N,s,to,hx,hop=>by
  unfold pW at h;split at h
  ·rename_i he;cases he
  ·rename_i xs' i' H' k1 op' k2 N' s' k3 to' xs2 he;injection he with he1 he2;subst he1 he2;split at h
   ·cases h
   split at h
   ·cases h
   rename_i K hK;cases k with
   | zero=>
    simp at hx;obtain ⟨⟨_,rfl⟩,⟨_,rfl⟩,rfl,_,rfl⟩:=hx;unfold b_ at hK;split at hK
    ·cases hK
    rcases hop with rfl | rfl
    ·rw[if_pos rfl]at hK;split at hK
     ·cases hK
     ·simp;omega
    ·rw[if_neg (by omega),if_pos rfl]at hK;split at hK
     ·cases hK
     ·simp;omega
   | succ k=>
    have:=yB _ _ K h k op N s to hx hop;omega
  ·cases h
theorem Ez {o:aJ} (ho:aR cF bB o) {n:Int}:∀(xs:List D) (i:Int) (H:List Int),0<=i->(H.length:Int)=n->i+xs.length=n->oo n xs i->pX o n xs i H=true->
  ∃F:List Int,F=wU o n xs i H/\(F.length:Int)=n/\(∀j,0<=j->gt H j≠ -1->gt F j=gt H j)/\∀k:Nat,∀op N s to,xs[k]? =some (.agg [.int .i64 op,.int .i64 N,.str s,.int .i64 to])->
   tk op N<=gt F (i+k)/\gt F (i+k)<=300/\(op=12->gt F (i+k)=1)/\(op=10->gt F to=gt F (i+k))/\(op=9->gt F to=gt F (i+k)/\i+k+1<n/\gt F (i+k+1)=gt F (i+k)-1)/\(op<=8->i+k+1<n/\gt F (i+k+1)=gt F (i+k)-tk op N+1):=by
 intro xs;induction xs with
 | nil=>intro i H h0 hn hl _ _;exact ⟨H,rfl,hn,λ_ _ _=>rfl,λk op N s to hx=>by simp at hx⟩
 | cons x xs ih=>
  intro i H h0 hn hl hok hr;obtain ⟨⟨op,N,s,to,rfl,o1,o2,t1,t2,hto⟩,hok2⟩:=hok;rw[f7]at hr;simp only[List.length_cons]at hl;cases e:bK o n H op N to i with
  | none=>rw[e]at hr;cases hr
  | some K=>
   rw[e]at hr;obtain ⟨k1,k2⟩:=uX hn h0 hto e;obtain ⟨F,f0,f1,f2,f3⟩:=ih (i+1) K (by omega) k1 (by omega) hok2 hr;refine ⟨F,by rw[f0,gH,e],f1,λj g0 g1=>by rw[f2 j g0 (by rw[k2 j g0 g1];exact g1),k2 j g0 g1],?_⟩;intro k op' N' s' to' hx;cases k with
   | succ k=>
    have:=f3 k op' N' s' to' hx;rw[show i+1+(k:Int)=i+(k+1:Nat) by omega]at this;exact this
   | zero=>
    simp only[List.getElem?_cons_zero,Option.some.injEq,D.agg.injEq,List.cons.injEq,D.int.injEq,D.str.injEq,true_and,and_true]at hx;obtain ⟨rfl,rfl,rfl,rfl⟩:=hx;simp only[Int.natCast_zero,Int.add_zero];unfold bK at e;by_cases c1:gt H i<tk op N
    ·rw[if_pos c1]at e;cases e
    rw[if_neg c1]at e;by_cases c2:300<gt H i
    ·rw[if_pos c2]at e;cases e
    rw[if_neg c2]at e;have hF:gt F i=gt H i:=by rw[f2 i h0 (by rw[k2 i h0 (by omega)];omega),k2 i h0 (by omega)]
    have come:∀{J M:List Int} {a h:Int},(J.length:Int)=n->0<=a->a<n->0<=h->cm (dw J a h)=some M->gt M a=h:=by
     intro J M a h hJ a0 a1 hh hc;obtain ⟨c1,rfl⟩:=mV hc;unfold dw at c1 |-;split
     ·rw[kG hJ a0 a1 a0,if_pos rfl]
     ·rename_i hne;rw[if_neg hne]at c1;simpa using c1
    have pick:∀{a h:Int},0<=a->0<=h->gt K a=h->gt F a=h:=λa0 hh e=>by rw[f2 _ a0 (by omega),e]
    rw[hF];have hs1:o.ar .sub .i64 (gt H i) 1=gt H i-1:=dB ho (by omega) (by omega);have hs2:o.ar .sub .i64 (gt H i) (tk op N)=gt H i-tk op N:=dB ho (by omega) (by omega);have hs3:o.ar .add .i64 (gt H i-tk op N) 1=gt H i-tk op N+1:=ck ho (by omega) (by omega);refine ⟨by omega,by omega,?_⟩;by_cases h12:op=12
    ·subst h12;rw[if_pos rfl]at e;split at e
     ·refine ⟨λ_=>by assumption,by omega,by omega,by omega⟩
     ·cases e
    rw[if_neg h12]at e;by_cases h11:op=11
    ·exact ⟨by omega,by omega,by omega,by omega⟩
    rw[if_neg h11]at e;by_cases h10:op=10
    ·subst h10;rw[if_pos rfl]at e;have hb:=hto (.inr rfl);exact ⟨by omega,λ_=>pick (by omega) (by omega) (come hn (by omega) (by omega) (by omega) e),by omega,by omega⟩
    rw[if_neg h10]at e;by_cases h9:op=9
    ·subst h9;rw[if_pos rfl]at e;have hb:=hto (.inl rfl);have tk9:tk 9 N=1:=by unfold tk;simp
     cases c:cm (dw H to (gt H i))with
     | none=>rw[c]at e;cases e
     | some J=>
      rw[c,Option.bind_some]at e;have l2:(J.length:Int)=n:=by obtain ⟨_,rfl⟩:=mV c;rw[fK];exact hn
      by_cases hin:i+1<n
      ·rw[if_pos hin,hs1]at e;have j1:gt J to=gt H i:=come hn (by omega) (by omega) (by omega) c;have j2:gt K to=gt H i:=by
        obtain ⟨_,rfl⟩:=mV e;rw[kH l2 (by omega) hin (by omega) (by omega),j1]
       exact ⟨by omega,by omega,λ_=>⟨pick (by omega) (by omega) j2,hin,pick (by omega) (by omega) (come l2 (by omega) hin (by omega) e)⟩,by omega⟩
      ·rw[if_neg hin]at e;cases e
    rw[if_neg h9]at e;have hlv:lv op=1:=by unfold lv;rw[if_pos (by omega)]
    rw[hs2,hlv,hs3]at e;by_cases hin:i+1<n
    ·rw[if_pos hin]at e;exact ⟨by omega,by omega,by omega,λ_=>⟨hin,pick (by omega) (by omega) (come hn (by omega) hin (by omega) e)⟩⟩
    ·rw[if_neg hin]at e;cases e
def M9 (xs:List D) (F:List Int):Prop:=(F.length:Int)=xs.length/\gt F 0=0/\∀i op N s to,0<=i->xs[i.toNat]? =some (.agg [.int .i64 op,.int .i64 N,.str s,.int .i64 to])->
 tk op N<=gt F i/\gt F i<=300/\(op=12->gt F i=1)/\(op=10->gt F to=gt F i)/\(op=9->gt F to=gt F i/\i+1<xs.length/\gt F (i+1)=gt F i-1)/\(op<=8->i+1<xs.length/\gt F (i+1)=gt F i-tk op N+1)
theorem Cu {o:aJ} (ho:aR cF bB o) {xs:List D} (h1:1<=(xs.length:Int)) (hok:oo xs.length xs 0) (h:Bf o xs=true):M9 xs (um o xs):=by
 have hH:=uW (n:=(xs.length:Int)) (by omega);obtain ⟨F,f0,f1,f2,f3⟩:=Ez ho xs 0 _ (Int.le_refl _) (by rw[List.length_set];exact hH) (by omega) hok h;rw[show um o xs=F from f0.symm];refine ⟨f1,?_,λi op N s to h0 hx=> ?_⟩
 ·have e:gt ((H0 (xs.length:Int)).set 0 0) 0=0:=by
   rw[show ((0:Nat))=(0:Int).toNat from rfl,kG hH (Int.le_refl _) (by omega) (Int.le_refl _),if_pos rfl]
  rw[f2 0 (Int.le_refl _) (by rw[e];omega),e]
 ·have:=f3 i.toNat op N s to hx;rw[show (0:Int)+(i.toNat:Int)=i by omega]at this;exact this
theorem EA {xs:List D} {F:List Int} (h:M9 xs F) {op N to:Int} {s:ByteArray} (h1:1<=(xs.length:Int)) (hok:oo xs.length xs 0) (hx:xs[((xs.length:Int)-1).toNat]? =some (.agg [.int .i64 op,.int .i64 N,.str s,.int .i64 to])):op=12\/op=11:=by
 obtain ⟨op',N',s',to',e,o1,o2,t1,t2,hto⟩:=uZ xs 0 hok _ _ hx;injection e with e;simp only[List.cons.injEq,D.int.injEq,D.str.injEq,true_and,and_true]at e;obtain ⟨rfl,rfl,rfl,rfl⟩:=e;have hq:=h.2.2 ((xs.length:Int)-1) op N s to (by omega) hx;rcases Decidable.em (op=9)with h9 | h9
 ·have:=(hq.2.2.2.2.1 h9).2.1;omega
 rcases Decidable.em (op=10)with h10 | h10
 ·have:=hto (.inr h10);omega
 rcases Decidable.em (op<=8)with h8 | h8
 ·have:=(hq.2.2.2.2.2 h8).1;omega
 omega
theorem Cv {P:Int->Bool} {n:Int} (hn:0<=n) (h:∀i,0<=i->i<n->P i=true):fe P 0 n=true:=by
 rw[KV (Q:=λ_=>true) (λi h0 h1=>h i h0 h1) 0 (Int.le_refl _) hn];have:∀i,0<=i->i<=n->fe (λ_=>true) i n=true:=down n (iM (Int.le_refl _)) λi h0 h1 ih=>by rw[sH h1,ih];rfl
 exact this 0 (Int.le_refl _) hn
def u4 (xs:List D):Bool:=match xs[((xs.length:Int)-1).toNat]? with | some (.agg (.int _ op::_))=>decide (op=12) || decide (op=11) | _=>false
noncomputable def wV (o:aJ) (fns ps:List D) (z:Bool) (nm:ByteArray) (a sl:Int) (xs:List D):Bool:=
 gD o nm&&(iK a 0 4&&(iK sl a 400&&(iK xs.length 1 1500&&(fe (uo o fns ps sl xs z) 0 xs.length&&if z then Bf o xs&&u4 xs else Br o xs))))
noncomputable def EB (o:aJ) (fns ps:List D) (z:Bool) (i:Int):Bool:=match fns[i.toNat]? with | some (.agg [.str nm,.int _ a,.int _ sl,.lst xs])=>decide (jJ fns nm=i)&&wV o fns ps z nm a sl xs | _=>false
theorem Cw {o:aJ} {fns ps xs:List D} {z:Bool} {i a sl:Int} {nm:ByteArray} (h:fns[i.toNat]? =some (.agg [.str nm,.int .i64 a,.int .i64 sl,.lst xs])):EB o fns ps z i=(decide (jJ fns nm=i)&&wV o fns ps z nm a sl xs):=by unfold EB;rw[h]
noncomputable def cJ (o:aJ) (fns ps:List D) (z:Bool):Bool:=decide ((fns.length:Int)<=12)&&(decide ((ps.length:Int)<=2000)&&fe (EB o fns ps z) 0 fns.length)
theorem ba {a b:Bool} (h:(a&&b)=true):a=true/\b=true:=by simpa using h
section
variable {o:aJ} {fns ps:List D} (hC:∀x∈fns,uE x)
include hC
theorem yC {z:Bool} (h:cJ o fns ps z=true) {i:Int} (h0:0<=i) (h1:i<fns.length):
  ∃nm a sl xs,fns[i.toNat]? =some (.agg [.str nm,.int .i64 a,.int .i64 sl,.lst xs])/\(∀y∈xs,yu y)/\jJ fns nm=i/\gD o nm=true/\(0<=a/\a<=4)/\(a<=sl/\sl<=400)/\(1<=(xs.length:Int)/\(xs.length:Int)<=1500)/\fe (uo o fns ps sl xs z) 0 xs.length=true/\(if z then Bf o xs&&u4 xs else Br o xs)=true:=by
 have hg:=zR (ba (ba h).2).2 i h0 h1;have hx:i.toNat<fns.length:=by omega
 obtain ⟨nm,a,sl,xs,e,_,_,hy⟩:=hC _ (List.getElem_mem hx);have hg0:fns[i.toNat]? =some (.agg [.str nm,.int .i64 a,.int .i64 sl,.lst xs]):=by rw[bg hx,e]
 rw[Cw hg0]at hg;have ⟨g1,g2⟩:=ba hg;unfold wV at g2;have ⟨g3,g4⟩:=ba g2;have ⟨g5,g6⟩:=ba g4;have ⟨g7,g8⟩:=ba g6;have ⟨g9,g10⟩:=ba g8;have ⟨g11,g12⟩:=ba g10;exact ⟨nm,a,sl,xs,hg0,λy hy'=>(hy y hy').1,of_decide_eq_true g1,g3,bH g5,bH g7,bH g9,g11,g12⟩
theorem mo {z:Bool} (h:cJ o fns ps z=true) {i:Int} (h0:0<=i) (h1:i<fns.length):0<=lm fns i/\lm fns i<=4:=by
 obtain ⟨nm,a,sl,xs,hg,_,_,_,ha,_⟩:=yC hC h h0 h1;unfold lm;rw[hg];exact ha
omit hC in
theorem u5 {xs:List D} {z:Bool} {sl:Int} (hd:∀y∈xs,yu y) (ha:fe (uo o fns ps sl xs z) 0 xs.length=true) {k:Nat} {x:D} (hk:xs[k]? =some x):
  ∃op N s to,x= .agg [.int .i64 op,.int .i64 N,.str s,.int .i64 to]/\aQ o fns ps sl xs.length (if z then (k:Int)+1 else 0) op N s to=true:=by
 obtain ⟨op,N,s,to,rfl⟩:=hd x (List.mem_of_getElem? hk);obtain ⟨hlt,_⟩:=aq.1 hk;have:=zR ha k (by omega) (by omega);rw[yA (by rw[Int.toNat_natCast];exact hk)]at this;exact ⟨op,N,s,to,rfl,this⟩
theorem Cy {z:Bool} (h:cJ o fns ps z=true) {xs:List D} {sl:Int} (hd:∀y∈xs,yu y) (ha:fe (uo o fns ps sl xs z) 0 xs.length=true) (hz:z=false->Br o xs=true):oo xs.length xs 0:=by
 refine zW _ _ λk x hk=> ?_
 obtain ⟨op,N,s,to,rfl,hp⟩:=u5 hd ha hk;have hq:=gP hp;have htk:0<=tk op N/\tk op N<=400:=by
  by_cases h8:op=8
  ·have h9:=hq.2.2.2.2 h8;have hb:=ou fns s;have:=mo hC h (i:=jJ fns s) h9.1 (by omega);have e:tk op N=N:=by unfold tk;rw[if_pos (by omega)]
   omega
  ·have:=hq.2.2.2.1 h8;omega
 refine ⟨op,N,s,to,rfl,hq.1,hq.2.1,htk.1,htk.2,λh9=> ?_⟩;have:=hq.2.2.1 h9;cases z
 ·have h2:=yB xs 0 _ (hz rfl) k op N s to hk h9;exact ⟨h2,by omega⟩
 ·rw[if_pos rfl]at this;exact ⟨by omega,by omega⟩
theorem EC (ho:aR cF bB o):cJ o fns ps false=cJ o fns ps true:=by
 have key:∀z w,cJ o fns ps z=true->cJ o fns ps w=true:=by
  intro z w h;have ⟨h1,h2⟩:=ba h;have ⟨h3,h4⟩:=ba h2;unfold cJ;rw[h1,h3,Bool.true_and,Bool.true_and];refine Cv (by omega) λi i0 i1=> ?_
  obtain ⟨nm,a,sl,xs,hg,hd,hA,hX,ha,hs,hl,hI,hH⟩:=yC hC h i0 i1;have hok:=Cy hC h hd hI (λe=>by subst e;exact hH);have he:=M6 ho hl.1 (by omega) hok;have hI2:Br o xs=true:=by
   cases z
   ·exact hH
   ·rw[he];exact (ba hH).1
  have hS:Bf o xs=true:=by rw[<-he];exact hI2
  rw[Cw hg,hA,decide_eq_true rfl,Bool.true_and];unfold wV;rw[hX,dr ha,dr hs,dr hl];simp only[Bool.true_and,af];constructor
  ·refine Cv (by omega) λk k0 k1=> ?_
   obtain ⟨op,N,s,to,e,hp⟩:=u5 hd hI (k:=k.toNat) (bg (by omega));have hk:xs[k.toNat]? =some (.agg [.int .i64 op,.int .i64 N,.str s,.int .i64 to]):=by rw[bg (by omega),e]
   rw[yA hk];refine HM hp λh9=> ?_
   have:=yB xs 0 _ hI2 k.toNat op N s to hk h9;have h2:=(gP hp).2.2.1 h9;cases w
   ·simp;omega
   ·simp;omega
  ·cases w
   ·exact hI2
   ·simp only[if_true,af];refine ⟨hS,?_⟩;have hF:=Cu ho hl.1 hok hS;obtain ⟨op,N,s,to,e,hp⟩:=u5 hd hI (k:=((xs.length:Int)-1).toNat) (bg (by omega));have hk:xs[((xs.length:Int)-1).toNat]? =some (.agg [.int .i64 op,.int .i64 N,.str s,.int .i64 to]):=by rw[bg (by omega),e]
    have:=EA hF hl.1 hok hk;unfold u4;rw[hk];rcases this with rfl | rfl<;>rfl
 cases h1:cJ o fns ps false
 ·cases h2:cJ o fns ps true
  ·rfl
  ·rw[key true false h2]at h1;cases h1
 ·rw[key false true h1]
theorem kK (ho:aR cF bB o) (h:cJ o fns ps true=true) {i:Int} (h0:0<=i) (h1:i<fns.length):
  ∃nm a sl xs,fns[i.toNat]? =some (.agg [.str nm,.int .i64 a,.int .i64 sl,.lst xs])/\jJ fns nm=i/\(0<=a/\a<=4)/\(a<=sl/\sl<=400)/\(1<=(xs.length:Int)/\(xs.length:Int)<=1500)/\(M9 xs (um o xs)/\Br o xs=true/\Bf o xs=true/\hF o xs=um o xs/\(∀y∈xs,yu y)/\∀y∈xs,Ho xs.length y)/\
   ∀k:Int,0<=k->k<xs.length->∃op N s to,xs[k.toNat]? =some (.agg [.int .i64 op,.int .i64 N,.str s,.int .i64 to])/\aQ o fns ps sl xs.length (k+1) op N s to=true:=by
 obtain ⟨nm,a,sl,xs,hg,hd,hA,hX,ha,hs,hl,hI,hH⟩:=yC hC h h0 h1;have hok:=Cy hC h hd hI (λe=>by cases e);have hS:=(ba hH).1;have hb:=Ct ho hl.1 (by omega) hok;refine ⟨nm,a,sl,xs,hg,hA,ha,hs,hl,⟨Cu ho hl.1 hok hS,hb.1.trans hS,hS,hb.2 hS,hd,λy hy=> ?_⟩,λk k0 k1=> ?_⟩
 ·obtain ⟨k,hk⟩:=List.mem_iff_getElem?.1 hy;obtain ⟨op,N,s,to,e,_,_,_,_,hto⟩:=uZ xs 0 hok k y hk;exact ⟨op,N,s,to,e,λh=>by have:=hto h;omega⟩
 obtain ⟨op,N,s,to,e,hp⟩:=u5 hd hI (k:=k.toNat) (bg (by omega));rw[if_pos rfl,show ((k.toNat:Nat):Int)+1=k+1 by omega]at hp;exact ⟨op,N,s,to,by rw[bg (by omega),e],hp⟩
end
end T2
namespace T2
open Go Go.Vi
set_option maxRecDepth 100000
set_option maxHeartbeats 4000000
def f8 (fns ps:List D):Prop:=(∀x∈fns,uE x)/\(fns.length:Int)<=1048576/\(∃m,∀x∈ps,Tm m x)/\(ps.length:Int)<=1048576
section
variable {o:aJ} (ho:aR cF bB o)
include ho
def u6 (c_0 c_1:List D) (f_0:ByteArray) (f_1 f_2:Int) (f_3:List D) (n1 i:Int):St:=⟨E 65 [(0,.sp [.lst c_0,.lst c_1] 0),(1,.sp [.str f_0,.int .i64 f_1,.int .i64 f_2,.lst f_3] 0),(47,Al f_3),(48,Ai n1),(49,Ai i)],O 65 []⟩
def qV (f_0:ByteArray) (f_1 f_2:Int) (f_3:List D):St:=⟨E 65 [(1,.sp [.str f_0,.int .i64 f_1,.int .i64 f_2,.lst f_3] 0)],O 65 []⟩
def qW (f_0:ByteArray) (f_1 f_2:Int) (f_3:List D):St:=⟨E 65 [(1,.sp [.str f_0,.int .i64 f_1,.int .i64 f_2,.lst f_3] 0),(4,Ab false)],O 65 []⟩
def qX (a0_0 a0_1:List D) (n1 i:Int):St:=⟨E 38 [(1,.sp [.lst a0_0,.lst a0_1] 0),(16,Ai n1),(17,Ai i)],O 38 []⟩
def ow:St:=⟨E 38 [(2,Ab false)],O 38 []⟩
def oz:St:=⟨E 38 [],O 38 []⟩
def qY (a0_0 a0_1:List D) (i:Int) (s1:ByteArray) (n1 n2:Int) (l1:List D):St:=⟨E 83 [(2,.sp [.lst a0_0,.lst a0_1] 0),(5,.ptr (5,0) 0),(6,Ai i)],O 83 [(5,[some (.box [As s1,Ai n1,Ai n2,Al l1])])]⟩
def oE (s1:ByteArray) (n1 n2:Int) (l1:List D):St:=⟨E 83 [(5,.ptr (5,0) 0)],O 83 [(5,[some (.box [As s1,Ai n1,Ai n2,Al l1])])]⟩
def oF (s1:ByteArray) (n1 n2:Int) (l1:List D):St:=⟨E 83 [(4,Ab false),(5,.ptr (5,0) 0)],O 83 [(5,[some (.box [As s1,Ai n1,Ai n2,Al l1])])]⟩
def qZ (a0_0 a0_1:List D) (i:Int):St:=⟨E 25 [(1,.sp [.lst a0_0,.lst a0_1] 0),(3,Ai i)],O 25 []⟩
def oG:St:=⟨E 25 [],O 25 []⟩
def oH:St:=⟨E 25 [(2,Ab false)],O 25 []⟩
theorem M_ (c_0 c_1:List D) (hK:f8 c_0 c_1) (f_0:ByteArray) (f_1 f_2:Int) (f_3:List D) (hd:uE (.agg [.str f_0,.int .i64 f_1,.int .i64 f_2,.lst f_3])) (hf:0<=f_2/\f_2<=400) (n1:Int) (hn:(f_3.length:Int)=n1):∀i:Int,0<=i->i<=(n1:Int)->o.loop 18100 (u6 c_0 c_1 f_0 f_1 f_2 f_3 n1 i)=some (if fe (uo o c_0 c_1 f_2 f_3 false) i n1 then (.exit 0,qV f_0 f_1 f_2 f_3)else (.ret,qW f_0 f_1 f_2 f_3)):=by
 refine bV (P:=λi=>o.loop 18100 (u6 c_0 c_1 f_0 f_1 f_2 f_3 n1 i)=some (if fe (uo o c_0 c_1 f_2 f_3 false) i n1 then (.exit 0,qV f_0 f_1 f_2 f_3)else (.ret,qW f_0 f_1 f_2 f_3))) (n1:Int) ?_;intro i h0 h1 ih;try dsimp only at ih |-
 obtain ⟨hC,hCb,⟨m,hP⟩,hPb⟩:=hK;obtain ⟨s0,a0,b0,xs0,he0,hz1,hz2,hz3⟩:=hd;injection he0 with he0;simp only[List.cons.injEq,D.int.injEq,D.str.injEq,D.lst.injEq,true_and,and_true]at he0;obtain ⟨rfl,rfl,rfl,rfl⟩:=he0;refine ho.dO λR Q=> ?_
 conv=>lhs;cbv
 rcases aZ ho i n1 with ⟨e1,g1⟩|⟨e1,g1⟩<;>(conv=>lhs;rw[e1];cbv)
 ·subst Q;rw[iM (by omega),if_pos rfl];rfl
 ·obtain ⟨x,hx0,hx1,hx2⟩:=ax hn h0 g1;obtain ⟨⟨n2,n3,s1,n4,rfl⟩,hs⟩:=hz3 _ hx2;have hs:=hs _ _ _ _ rfl;have hA:=yA (o:=o) (fns:=c_0) (ps:=c_1) (sl:=f_2) (z:=false) hx0;have e2:=ak ho h0 hx0;conv=>lhs;rw[e2];cbv
  cases he3:aQ o c_0 c_1 f_2 f_3.length 0 n2 n3 s1 n4<;>(conv=>lhs;rw[Hp ho c_0 c_1 f_0 f_1 f_2 f_3 n2 n3 s1 n4 hC hCb hP hPb hs hf hz2,he3];cbv)
  ·subst Q;rw[mT (by omega) (hA.trans he3)];rfl
  ·obtain ⟨n5,e4,g4⟩:=aW ho i 1;conv=>lhs;rw[e4];cbv
   subst Q;rw[lW (by omega) (hA.trans he3)];rw[show n5=i+1 by omega];exact ih (by omega)
theorem K8 (c_0 c_1:List D) (hK:f8 c_0 c_1) (f_0:ByteArray) (f_1 f_2:Int) (f_3:List D) (hd:uE (.agg [.str f_0,.int .i64 f_1,.int .i64 f_2,.lst f_3])):o.call 181 [.sp [.lst c_0,.lst c_1] 0,.sp [.str f_0,.int .i64 f_1,.int .i64 f_2,.lst f_3] 0] []=Ar (Ab (wV o c_0 c_1 false f_0 f_1 f_2 f_3)):=by
 have hd0:=hd;obtain ⟨s0,a0,b0,xs0,he0,hz1,hz2,hz3⟩:=hd;injection he0 with he0;simp only[List.cons.injEq,D.int.injEq,D.str.injEq,D.lst.injEq,true_and,and_true]at he0;obtain ⟨rfl,rfl,rfl,rfl⟩:=he0;refine ho.aC λR Q=> ?_
 conv=>lhs;cbv
 cases he1:gD o f_0<;>(conv=>lhs;rw[uH ho f_0 (by omega),he1];cbv)
 ·subst Q;try rw[he1]
  clear hz3 hd0 hK;exact (Eq.refl _).trans (by unfold wV;simp_all)
 ·rcases aN f_1 0 4 with ⟨e2,g2⟩|⟨e2,g2⟩
  ·conv=>lhs;rw[av ho,e2];cbv
   subst Q;try rw[he1]
   clear hz3 hd0 hK;exact (Eq.refl _).trans (by unfold wV;simp_all)
  ·conv=>lhs;rw[av ho,e2];cbv
   rcases aN f_2 f_1 400 with ⟨e4,g4⟩|⟨e4,g4⟩
   ·conv=>lhs;rw[av ho,e4];cbv
    subst Q;try rw[he1]
    clear hz3 hd0 hK;exact (Eq.refl _).trans (by unfold wV;simp_all)
   ·obtain ⟨n1,e6,g6⟩:=ay ho f_3;conv=>lhs;rw[av ho,e4];cbv;rw[e6];cbv
    rcases aN n1 1 1500 with ⟨e7,g7⟩|⟨e7,g7⟩
    ·conv=>lhs;rw[av ho,e7];cbv
     subst Q;try rw[he1]
     clear hz3 hd0 hK;exact (Eq.refl _).trans (by unfold wV;simp_all)
    ·conv=>lhs;rw[av ho,e7];cbv;(try (rw[e6];cbv))
     have g2:=bH e2;have g4:=bH e4;have g7:=bH e7;have hl:=M_ ho c_0 c_1 hK f_0 f_1 f_2 f_3 hd0 (by omega) n1 g6.symm 0 (Int.le_refl _) (by omega);conv at hl=>lhs;cbv
     cases hc:fe (uo o c_0 c_1 f_2 f_3 false) 0 n1<;>(conv=>lhs;rw[hl,hc];cbv)
     ·subst Q;try rw[he1]
      try rw[hc]
      clear hz3 hd0 hK;exact (Eq.refl _).trans (by unfold wV;simp_all)
     ·obtain ⟨l1,_,hge10⟩:=sI ho f_0 f_1 f_2 f_3 (λx hx=>(hz3 x hx).1) (by omega) (by omega);obtain ⟨b5,hbe10⟩:∃b,Br o f_3=b:=⟨_,rfl⟩
      have e10:o.call 192 [.sp [.str f_0,.int .i64 f_1,.int .i64 f_2,.lst f_3] 0] []=Ar (.tup [Al l1,Ab b5]):=hge10.trans (by rw[hbe10]);conv=>lhs;rw[e10];cbv
      subst Q;try rw[he1]
      try rw[hc]
      clear hz3 hd0 hK;exact (Eq.refl _).trans (by unfold wV;simp_all)
theorem HN (a0_0 a0_1:List D) (hK:f8 a0_0 a0_1) (n1:Int) (hn:(a0_0.length:Int)=n1):∀i:Int,0<=i->i<=(n1:Int)->o.loop 9000 (qX a0_0 a0_1 n1 i)=some (if fe (EB o a0_0 a0_1 false) i n1 then (.exit 0,oz)else (.ret,ow)):=by
 refine bV (P:=λi=>o.loop 9000 (qX a0_0 a0_1 n1 i)=some (if fe (EB o a0_0 a0_1 false) i n1 then (.exit 0,oz)else (.ret,ow))) (n1:Int) ?_;intro i h0 h1 ih;try dsimp only at ih |-
 have hK0:=hK;obtain ⟨hC,hCb,⟨m,hP⟩,hPb⟩:=hK;refine ho.dO λR Q=> ?_
 conv=>lhs;cbv
 rcases aZ ho i n1 with ⟨e1,g1⟩|⟨e1,g1⟩<;>(conv=>lhs;rw[e1];cbv)
 ·subst Q;rw[iM (by omega),if_pos rfl];rfl
 ·obtain ⟨x,hx0,hx1,hx2⟩:=ax hn h0 g1;obtain ⟨s1,n2,n3,l1,rfl,hz1,hz2,hz3⟩:=hC _ hx2;have hG:=Cw (o:=o) (ps:=a0_1) (z:=false) hx0;have e2:=ak ho h0 hx0;obtain ⟨n4,hn4,e3⟩:∃n4,jJ a0_0 s1=n4/\o.call 180 [.sp [.lst a0_0,.lst a0_1] 0,As s1] []=Ar (Ai n4):=⟨_,rfl,yx ho a0_0 a0_1 s1 hC hCb⟩
  conv=>lhs;rw[e2];cbv;rw[e3];cbv
  rcases cE ho n4 i with ⟨e4,g4⟩|⟨e4,g4⟩<;>(conv=>lhs;rw[e4];cbv)
  ·conv=>lhs;(try (rw[e2];cbv))
   cases he5:wV o a0_0 a0_1 false s1 n2 n3 l1<;>(conv=>lhs;rw[K8 ho a0_0 a0_1 hK0 s1 n2 n3 l1 ⟨_,_,_,_,rfl,hz1,hz2,hz3⟩,he5];cbv)
   ·subst Q;rw[mT (by omega) (by rw[hG,he5,Bool.and_false])];rfl
   ·obtain ⟨n5,e6,g6⟩:=aW ho i 1;conv=>lhs;rw[e6];cbv
    subst Q;rw[lW (by omega) (by rw[hG,hn4,decide_eq_true g4,he5];rfl)];rw[show n5=i+1 by omega];exact ih (by omega)
  ·subst Q;rw[mT (by omega) (by rw[hG,hn4,decide_eq_false g4];rfl)];rfl
theorem ED (a0_0 a0_1:List D) (hK:f8 a0_0 a0_1):o.call 90 [.agg [Al a0_0,Al a0_1]] []=Ar (Ab (cJ o a0_0 a0_1 false)):=by
 refine ho.aC λR Q=> ?_
 obtain ⟨n1,e1,g1⟩:=ay ho a0_0;conv=>lhs;cbv;rw[e1];cbv
 rcases fR ho n1 12 with ⟨e2,g2⟩|⟨e2,g2⟩<;>(conv=>lhs;rw[e2];cbv)
 ·obtain ⟨n2,e3,g3⟩:=ay ho a0_1;conv=>lhs;rw[e3];cbv
  rcases fR ho n2 2000 with ⟨e4,g4⟩|⟨e4,g4⟩<;>(conv=>lhs;rw[e4];cbv)
  ·conv=>lhs;(try (rw[e1];cbv))
   have hl:=HN ho a0_0 a0_1 hK _ g1.symm 0 (Int.le_refl _) (by omega);conv at hl=>lhs;cbv
   cases hc:fe (EB o a0_0 a0_1 false) 0 n1<;>(conv=>lhs;rw[hl,hc];cbv)
   all_goals
    subst Q;clear hK;exact (Eq.refl _).trans (by subst g1;unfold cJ;first | (rw[decide_eq_false (by omega)];rfl) | (rw[decide_eq_true (by omega),decide_eq_false (by omega)];rfl) | (rw[decide_eq_true (by omega),decide_eq_true (by omega),hc];rfl))
  ·subst Q;clear hK;exact (Eq.refl _).trans (by subst g1;unfold cJ;first | (rw[decide_eq_false (by omega)];rfl) | (rw[decide_eq_true (by omega),decide_eq_false (by omega)];rfl) | (rw[decide_eq_true (by omega),decide_eq_true (by omega),hc];rfl))
 ·subst Q;clear hK;exact (Eq.refl _).trans (by subst g1;unfold cJ;first | (rw[decide_eq_false (by omega)];rfl) | (rw[decide_eq_true (by omega),decide_eq_false (by omega)];rfl) | (rw[decide_eq_true (by omega),decide_eq_true (by omega),hc];rfl))
theorem Na (a0_0 a0_1:List D) (hK:f8 a0_0 a0_1) (s1:ByteArray) (n1 n2:Int) (l1:List D) (hd:uE (.agg [.str s1,.int .i64 n1,.int .i64 n2,.lst l1])) (hf:0<=n2/\n2<=400) (q:Int) (hn:(l1.length:Int)=q):∀i:Int,0<=i->i<=(q:Int)->o.loop 24200 (qY a0_0 a0_1 i s1 n1 n2 l1)=some (if fe (uo o a0_0 a0_1 n2 l1 true) i q then (.exit 0,oE s1 n1 n2 l1)else (.ret,oF s1 n1 n2 l1)):=by
 refine bV (P:=λi=>o.loop 24200 (qY a0_0 a0_1 i s1 n1 n2 l1)=some (if fe (uo o a0_0 a0_1 n2 l1 true) i q then (.exit 0,oE s1 n1 n2 l1)else (.ret,oF s1 n1 n2 l1))) (q:Int) ?_;intro i h0 h1 ih;try dsimp only at ih |-
 obtain ⟨hC,hCb,⟨m,hP⟩,hPb⟩:=hK;obtain ⟨s0,a0,b0,xs0,he0,hz1,hz2,hz3⟩:=hd;injection he0 with he0;simp only[List.cons.injEq,D.int.injEq,D.str.injEq,D.lst.injEq,true_and,and_true]at he0;obtain ⟨rfl,rfl,rfl,rfl⟩:=he0;refine ho.dO λR Q=> ?_
 obtain ⟨n3,e1,g1⟩:=ay ho l1;conv=>lhs;cbv;rw[e1];cbv
 rcases aZ ho i n3 with ⟨e2,g2⟩|⟨e2,g2⟩<;>(conv=>lhs;rw[e2];cbv)
 ·subst Q;rw[iM (by omega),if_pos rfl];rfl
 ·obtain ⟨x,hx0,hx1,hx2⟩:=ax hn h0 (by omega);obtain ⟨⟨op,N,s,to,rfl⟩,hs⟩:=hz3 _ hx2;have hs:=hs _ _ _ _ rfl;have hA:=yA (o:=o) (fns:=a0_0) (ps:=a0_1) (sl:=n2) (z:=true) hx0;cases he3:aQ o a0_0 a0_1 n2 l1.length (i+1) op N s to<;>(conv=>lhs;rw[K7 ho a0_0 a0_1 s1 n1 n2 l1 i _ _ _ _ hx0 h0 (by omega) hC hCb hP hPb hs hf hz2,he3];cbv)
  ·subst Q;rw[mT (by omega) (hA.trans he3)];rfl
  ·obtain ⟨n4,e4,g4⟩:=aW ho i 1;conv=>lhs;rw[e4];cbv
   subst Q;rw[lW (by omega) (hA.trans he3)];rw[show n4=i+1 by omega];exact ih (by omega)
theorem HO (a0_0 a0_1:List D) (hK:f8 a0_0 a0_1) (a1:Int) (h0:0<=a1) (h1:a1<a0_0.length):o.call 242 [.agg [Al a0_0,Al a0_1],Ai a1] []=Ar (Ab (EB o a0_0 a0_1 true a1)):=by
 have hK0:=hK;obtain ⟨hC,hCb,⟨m,hP⟩,hPb⟩:=hK;refine ho.aC λR Q=> ?_
 obtain ⟨x,hx0,hx1,hx2⟩:=ax rfl h0 h1;obtain ⟨s1,n1,n2,l1,rfl,hz1,hz2,hz3⟩:=hC _ hx2;have hG:=Cw (o:=o) (ps:=a0_1) (z:=true) hx0;have e1:=ak ho h0 hx0;conv=>lhs;cbv;rw[e1];cbv
 cases he2:gD o s1<;>(conv=>lhs;rw[pG ho s1 (by omega),he2];cbv)
 ·subst Q;try rw[he2]
  clear hz3 hK0 hC hP;exact (Eq.refl _).trans (by rw[hG];unfold wV;simp_all)
 ·obtain ⟨
          n3,hn3,e3⟩:∃n3,jJ a0_0 s1=n3/\o.call 85 [.agg [Al a0_0,Al a0_1],As s1] []=Ar (Ai n3):=⟨_,rfl,uY ho a0_0 a0_1 s1 hC hCb⟩
  conv=>lhs;rw[e3];cbv
  rcases cE ho n3 a1 with ⟨e4,g4⟩|⟨e4,g4⟩<;>(conv=>lhs;rw[e4];cbv)
  ·rcases aN n1 0 4 with ⟨e5,g5⟩|⟨e5,g5⟩
   ·conv=>lhs;rw[aF ho,e5];cbv
    subst Q;try rw[he2]
    clear hz3 hK0 hC hP;exact (Eq.refl _).trans (by rw[hG];unfold wV;simp_all)
   ·conv=>lhs;rw[aF ho,e5];cbv
    rcases aN n2 n1 400 with ⟨e7,g7⟩|⟨e7,g7⟩
    ·conv=>lhs;rw[aF ho,e7];cbv
     subst Q;try rw[he2]
     clear hz3 hK0 hC hP;exact (Eq.refl _).trans (by rw[hG];unfold wV;simp_all)
    ·obtain ⟨n4,e9,g9⟩:=ay ho l1;conv=>lhs;rw[aF ho,e7];cbv;rw[e9];cbv
     rcases aN n4 1 1500 with ⟨e10,g10⟩|⟨e10,g10⟩
     ·conv=>lhs;rw[aF ho,e10];cbv
      subst Q;try rw[he2]
      clear hz3 hK0 hC hP;exact (Eq.refl _).trans (by rw[hG];unfold wV;simp_all)
     ·conv=>lhs;rw[aF ho,e10];cbv
      have g5:=bH e5;have g7:=bH e7;have g10:=bH e10;have hl:=Na ho a0_0 a0_1 hK0 s1 n1 n2 l1 ⟨_,_,_,_,rfl,hz1,hz2,hz3⟩ (by omega) n4 g9.symm 0 (Int.le_refl _) (by omega);conv at hl=>lhs;cbv
      cases hc:fe (uo o a0_0 a0_1 n2 l1 true) 0 n4<;>(conv=>lhs;rw[hl,hc];cbv)
      ·subst Q;try rw[he2]
       try rw[hc]
       clear hz3 hK0 hC hP;exact (Eq.refl _).trans (by rw[hG];unfold wV;simp_all)
      ·have hI:∀y∈l1,Ho l1.length y:=by
        intro y hy;obtain ⟨k,hk⟩:=List.mem_iff_getElem?.1 hy;obtain ⟨op,N,s,to,rfl,hp⟩:=u5 (λy hy=>(hz3 y hy).1) (by rw[<-g9];exact hc) hk;have:=(gP hp).2.2.1;exact ⟨op,N,s,to,rfl,λh=>by have:=this h;rw[if_pos rfl]at this;omega⟩
       obtain ⟨l2,_,hg⟩:=xu ho s1 n1 n2 l1 hI (by omega) (by omega);cases hb:Bf o l1
       ·have e13:o.call 244 [.agg [As s1,Ai n1,Ai n2,Al l1]] []=Ar (.tup [Al l2,Ab false]):=hg.trans (by rw[hb]);obtain ⟨n5,e14,g14⟩:=aO ho n4 1;conv=>lhs;rw[e13];cbv;(try (rw[e9];cbv));rw[e14];cbv
        obtain ⟨y,hy0,hy1,hy2⟩:=ax g9.symm (show 0<=n5 by omega) (by omega);obtain ⟨⟨n6,n7,s2,n8,rfl⟩,hs⟩:=hz3 _ hy2;have hB:u4 l1=(decide (n6=12) || decide (n6=11)):=by
         unfold u4;rw[show (l1.length:Int)-1=n5 by omega,hy0]
        have e15:o.dD l1 n5=some (.agg [.int .i64 n6,.int .i64 n7,.str s2,.int .i64 n8]):=ak ho (by omega) hy0;conv=>lhs;rw[e15];cbv
        subst Q;try rw[he2]
        try rw[hc]
        try rw[hb]
        clear hz3 hK0 hC hP;exact (Eq.refl _).trans (by rw[hG];unfold wV;simp_all)
       ·have e13:o.call 244 [.agg [As s1,Ai n1,Ai n2,Al l1]] []=Ar (.tup [Al l2,Ab true]):=hg.trans (by rw[hb]);obtain ⟨n5,e14,g14⟩:=aO ho n4 1;conv=>lhs;rw[e13];cbv;(try (rw[e9];cbv));rw[e14];cbv
        obtain ⟨y,hy0,hy1,hy2⟩:=ax g9.symm (show 0<=n5 by omega) (by omega);obtain ⟨⟨n6,n7,s2,n8,rfl⟩,hs⟩:=hz3 _ hy2;have hB:u4 l1=(decide (n6=12) || decide (n6=11)):=by
         unfold u4;rw[show (l1.length:Int)-1=n5 by omega,hy0]
        have e15:o.dD l1 n5=some (.agg [.int .i64 n6,.int .i64 n7,.str s2,.int .i64 n8]):=ak ho (by omega) hy0;conv=>lhs;rw[e15];cbv
        rcases aj ho n6 12 with ⟨e16,g16⟩|⟨e16,g16⟩<;>(conv=>lhs;rw[e16];cbv)
        ·rcases aj ho n6 11 with ⟨e17,g17⟩|⟨e17,g17⟩<;>(conv=>lhs;rw[e17];cbv)
         all_goals
          subst Q;try rw[he2]
          try rw[hc]
          try rw[hb]
          clear hz3 hK0 hC hP;exact (Eq.refl _).trans (by rw[hG];unfold wV;simp_all)
        ·subst Q;try rw[he2]
         try rw[hc]
         try rw[hb]
         clear hz3 hK0 hC hP;exact (Eq.refl _).trans (by rw[hG];unfold wV;simp_all)
  ·subst Q;try rw[he2]
   clear hz3 hK0 hC hP;exact (Eq.refl _).trans (by rw[hG];unfold wV;simp_all)
theorem HS (a0_0 a0_1:List D) (hK:f8 a0_0 a0_1) (q:Int) (hn:(a0_0.length:Int)=q):∀i:Int,0<=i->i<=(q:Int)->o.loop 14500 (qZ a0_0 a0_1 i)=some (if fe (EB o a0_0 a0_1 true) i q then (.exit 0,oG)else (.ret,oH)):=by
 refine bV (P:=λi=>o.loop 14500 (qZ a0_0 a0_1 i)=some (if fe (EB o a0_0 a0_1 true) i q then (.exit 0,oG)else (.ret,oH))) (q:Int) ?_;intro i h0 h1 ih;try dsimp only at ih |-
 have hKb:=hK.2.1;refine ho.dO λR Q=> ?_
 obtain ⟨n1,e1,g1⟩:=ay ho a0_0;conv=>lhs;cbv;rw[e1];cbv
 rcases aZ ho i n1 with ⟨e2,g2⟩|⟨e2,g2⟩<;>(conv=>lhs;rw[e2];cbv)
 ·subst Q;rw[iM (by omega),if_pos rfl];rfl
 ·cases he3:EB o a0_0 a0_1 true i<;>(conv=>lhs;rw[HO ho a0_0 a0_1 hK i h0 (by omega),he3];cbv)
  ·subst Q;rw[mT (by omega) he3];rfl
  ·obtain ⟨n2,e4,g4⟩:=aW ho i 1;conv=>lhs;rw[e4];cbv
   subst Q;rw[lW (by omega) he3];rw[show n2=i+1 by omega];exact ih (by omega)
theorem EF (a0_0 a0_1:List D) (hK:f8 a0_0 a0_1):o.call 145 [.agg [Al a0_0,Al a0_1]] []=Ar (Ab (cJ o a0_0 a0_1 true)):=by
 refine ho.aC λR Q=> ?_
 obtain ⟨n1,e1,g1⟩:=ay ho a0_0;conv=>lhs;cbv;rw[e1];cbv
 rcases fR ho n1 12 with ⟨e2,g2⟩|⟨e2,g2⟩<;>(conv=>lhs;rw[e2];cbv)
 ·obtain ⟨n2,e3,g3⟩:=ay ho a0_1;conv=>lhs;rw[e3];cbv
  rcases fR ho n2 2000 with ⟨e4,g4⟩|⟨e4,g4⟩<;>(conv=>lhs;rw[e4];cbv)
  ·have hl:=HS ho a0_0 a0_1 hK _ g1.symm 0 (Int.le_refl _) (by omega);conv at hl=>lhs;cbv
   cases hc:fe (EB o a0_0 a0_1 true) 0 n1<;>(conv=>lhs;rw[hl,hc];cbv)
   all_goals
    subst Q;clear hK;exact (Eq.refl _).trans (by subst g1;unfold cJ;first | (rw[decide_eq_false (by omega)];rfl) | (rw[decide_eq_true (by omega),decide_eq_false (by omega)];rfl) | (rw[decide_eq_true (by omega),decide_eq_true (by omega),hc];rfl))
  ·subst Q;clear hK;exact (Eq.refl _).trans (by subst g1;unfold cJ;first | (rw[decide_eq_false (by omega)];rfl) | (rw[decide_eq_true (by omega),decide_eq_false (by omega)];rfl) | (rw[decide_eq_true (by omega),decide_eq_true (by omega),hc];rfl))
 ·subst Q;clear hK;exact (Eq.refl _).trans (by subst g1;unfold cJ;first | (rw[decide_eq_false (by omega)];rfl) | (rw[decide_eq_true (by omega),decide_eq_false (by omega)];rfl) | (rw[decide_eq_true (by omega),decide_eq_true (by omega),hc];rfl))
end
end T2
