import Derived.Test.YtfnagkpidcdocaaGreatM23
import Derived.Test.YtfnagkpidcdocaaGreatM26
set_option linter.all false
namespace T2
open Go Go.Vi
set_option maxRecDepth 100000
set_option maxHeartbeats 4000000
def dQ (n:Int) (l:List D):List D:=l++List.replicate (n.toNat-l.length) lf
theorem Bt {n:Int} {l:List D} (h:(l.length:Int)<=n):((dQ n l).length:Int)=n:=by unfold dQ;rw[List.length_append,List.length_replicate];omega
theorem xB {o:aJ} {n:Int} {l:List D} (h:∀x∈l,Rt o 8 x):∀x∈dQ n l,Sl o x:=by
 intro x hx;rcases List.mem_append.1 hx with h1 | h1
 ·exact .inr (h x h1)
 ·exact .inl (List.eq_of_mem_replicate h1)
def stk (o:aJ) (st:List D):Prop:=(st.length:Int)<=100000/\∀x∈st,Rt o 8 x
theorem kL {o:aJ} {st:List D} {n:Nat} (h:stk o st):stk o (st.take n):=⟨by have:=h.1;rw[List.length_take];omega,λx hx=>h.2 x (List.mem_of_mem_take hx)⟩
theorem iR {o:aJ} {st:List D} {n:Nat} (h:stk o st):stk o (st.drop n):=⟨by have:=h.1;rw[List.length_drop];omega,λx hx=>h.2 x (List.mem_of_mem_drop hx)⟩
theorem H6 {xs:List D} {x y:D} {n:Int} (h:n=xs.length):(xs++[x]).set n.toNat y=xs++[y]:=by
 subst h;rw[Int.toNat_natCast,List.set_append_right _ _ (Nat.le_refl _),Nat.sub_self];rfl
theorem H7 {xs:List D} {x:D} {n:Int} (h:n=xs.length):(xs++[x])[n.toNat]? =some x:=by
 subst h;rw[Int.toNat_natCast,List.getElem?_append_right (Nat.le_refl _),Nat.sub_self];rfl
section
variable {o:aJ} (ho:aR cF bB o)
include ho
theorem H8 (fs st:List D) (n:Int) (hst:stk o st) (hn0:0<=n) (hn1:n<=st.length) (k:Int) (hk:k=st.length-n):o.call 197 [.ptr (1,0) 0,Ai n] [some (Ob (1,1) (1,2)),Oo fs,Os st]=some ⟨.arr (0,0) (31,4) none false,[some (Ob (1,1) (0,1)),Oo fs,none],[Os (st.drop k.toNat),Os (st.take k.toNat)]⟩:=by
 have hb:=hst.1;refine ho.aC λR Q=> ?_
 obtain ⟨n1,e1,g1⟩:=ay ho st;obtain ⟨n2,e2,g2⟩:=aO ho n1 n;obtain ⟨n3,g3,e3⟩:∃v,v=n1-n2/\o.minus n1 n2=v:=⟨_,rfl,ho.minus _ _⟩
 obtain ⟨l1,hl1,e4⟩:∃z,z=st.drop n2.toNat/\o.sub st n2 n3=some z:=⟨_,rfl,by rw[iB ho (by omega) (by omega) (by omega),List.take_of_length_le (by rw[List.length_drop];omega)]⟩
 obtain ⟨l2,hl2,e5⟩:∃l2,l2=st.drop n2.toNat/\o.call 289 [.arr (1,0) (31,4) (some (n2,n3)) false] [Os st]=some ⟨.arr (0,0) (31,4) none false,[Os st],[Os l2]⟩:=⟨l1,hl1,HZ ho st n2 n3 l1 (by assumption) (by rw[hl1,List.length_drop];omega) (λz hz=>eU (hst.2 z (by rw[hl1]at hz;exact List.mem_of_mem_drop hz)))⟩
 obtain ⟨n4,g6,e6⟩:∃v,v=n2-0/\o.minus n2 0=v:=⟨_,rfl,ho.minus _ _⟩
 obtain ⟨l3,hl3,e7⟩:∃z,z=st.take n2.toNat/\o.sub st 0 n4=some z:=⟨_,rfl,by rw[iB ho (Int.le_refl _) (by omega) (by omega)];rw[show n4=n2 by omega];rfl⟩
 conv=>lhs;cbv;rw[e1];cbv;rw[e2];cbv;(try (rw[e1];cbv));rw[e3];cbv;rw[e4];cbv;(try (rw[e3];cbv));rw[e5];cbv;(try (rw[e3];cbv));rw[e6];cbv;(try (rw[e3];cbv));rw[e7];cbv;(try (rw[e3];cbv));(try (rw[e6];cbv));rw[ho.isZero];cbv;(try (rw[e7];cbv))
 subst Q;rw[show k=n2 by omega,<-hl2,<-hl3];try rfl
theorem Bu (fs st:List D) (n:Int) (hst:stk o st) (hn0:0<=n) (hn1:n<=st.length) (k:Int) (hk:k=st.length-n):o.call 186 [.ptr (1,0) 0,Ai n] [some (Ob (1,1) (1,2)),Op fs,Os st]=some ⟨.arr (0,0) (31,4) none false,[some (Ob (1,1) (0,1)),Op fs,none],[Os (st.drop k.toNat),Os (st.take k.toNat)]⟩:=by
 have hb:=hst.1;refine ho.aC λR Q=> ?_
 obtain ⟨n1,e1,g1⟩:=ay ho st;obtain ⟨n2,e2,g2⟩:=aO ho n1 n;obtain ⟨n3,g3,e3⟩:∃v,v=n1-n2/\o.minus n1 n2=v:=⟨_,rfl,ho.minus _ _⟩
 obtain ⟨l1,hl1,e4⟩:∃z,z=st.drop n2.toNat/\o.sub st n2 n3=some z:=⟨_,rfl,by rw[iB ho (by omega) (by omega) (by omega),List.take_of_length_le (by rw[List.length_drop];omega)]⟩
 have e5:o.fits 4 56 l1=true:=by exact cn ho (by rw[hl1,List.length_drop];omega) (by decide) (λz hz=>eU (hst.2 z (by rw[hl1]at hz;exact List.mem_of_mem_drop hz)))
 obtain ⟨n4,g6,e6⟩:∃v,v=n2-0/\o.minus n2 0=v:=⟨_,rfl,ho.minus _ _⟩
 obtain ⟨l2,hl2,e7⟩:∃z,z=st.take n2.toNat/\o.sub st 0 n4=some z:=⟨_,rfl,by rw[iB ho (Int.le_refl _) (by omega) (by omega)];rw[show n4=n2 by omega];rfl⟩
 conv=>lhs;cbv;rw[e1];cbv;rw[e2];cbv;(try (rw[e1];cbv));rw[e3];cbv;rw[e4];cbv;(try (rw[e3];cbv));(try (rw[e4];cbv));rw[e5];cbv;(try (rw[e3];cbv));rw[e6];cbv;(try (rw[e3];cbv));rw[e7];cbv;(try (rw[e3];cbv));(try (rw[e6];cbv));rw[ho.isZero];cbv;(try (rw[e7];cbv))
 subst Q;rw[show k=n2 by omega,<-hl1,<-hl2];try rfl
theorem vh (fs st:List D) (t_0 t_1:Int) (t_2:ByteArray) (t_3:List D) (code:Int) (hst:stk o st):o.call 194 [.ptr (1,0) 0,At t_0 t_1 t_2 t_3,Ai code] [some (Ob (1,1) (1,2)),Oo fs,Os st]=some (if code=0 then ⟨Ai 7,[some (Ob (1,1) (0,0)),Oo fs,none],[Os (st++[(.agg [.int .i64 t_0,.int .i64 t_1,.str t_2,.lst t_3])])]⟩else ⟨Ai code,[some (Ob (1,1) (1,2)),Oo fs,Os st],[]⟩):=by
 have hb:=hst.1;refine ho.aC λR Q=> ?_
 conv=>lhs;cbv
 rcases cE ho code 0 with ⟨e1,g1⟩|⟨e1,g1⟩<;>(conv=>lhs;rw[e1];cbv)
 ·obtain ⟨n1,e2,g2⟩:=ay ho st;obtain ⟨l1,hl1,e3⟩:∃z,st++[lf]=z/\o.app st [.agg [.int .i64 0,.int .i64 0,.str ⟨#[]⟩,.lst []]]=z:=⟨_,rfl,ho.app _ _⟩
  conv=>lhs;rw[e2];cbv;rw[e3];cbv
  have e4:o.fits 4 56 l1=true:=by exact cn ho (by rw[<-hl1,List.length_append];simp only[List.length_cons,List.length_nil];omega) (by decide) (λz hz=>by
   rw[<-hl1]at hz;rcases List.mem_append.1 hz with h | h
   ·exact eU (hst.2 z h)
   ·rw[List.mem_singleton.1 h];rfl)
  obtain ⟨n2,n3,s1,l2,hz,e5⟩:∃n2 n3 s1 l2,lf=(.agg [.int .i64 n2,.int .i64 n3,.str s1,.lst l2])/\o.dD l1 n1=some (.agg [.int .i64 n2,.int .i64 n3,.str s1,.lst l2]):=⟨0,0,⟨#[]⟩,[],rfl,by rw[<-hl1];exact ak ho (by omega) (H7 (by omega))⟩
  obtain ⟨l3,hl3,e6⟩:∃z,st++[(.agg [.int .i64 t_0,.int .i64 t_1,.str t_2,.lst t_3])]=z/\o.set l1 n1 (.agg [.int .i64 t_0,.int .i64 t_1,.str t_2,.lst t_3])=z:=⟨_,rfl,by rw[ho.set,<-hl1];exact H6 (by omega)⟩
  conv=>lhs;rw[e4];cbv;rw[e5];cbv;(try (rw[e5];cbv));rw[e6];cbv
  subst Q;rw[if_pos g1,hl3];try rfl
 ·subst Q;rw[if_neg g1];try rfl
theorem ql (fs st:List D) (t_0 t_1:Int) (t_2:ByteArray) (t_3:List D) (hst:stk o st):o.call 284 [.ptr (1,0) 0,At t_0 t_1 t_2 t_3] [some (Ob (1,1) (1,2)),Op fs,Os st]=some ⟨.tup [],[some (Ob (1,1) (0,0)),Op fs,none],[Os (st++[(.agg [.int .i64 t_0,.int .i64 t_1,.str t_2,.lst t_3])])]⟩:=by
 have hb:=hst.1;refine ho.aC λR Q=> ?_
 have e1:o.fits 4 56 st=true:=by exact cn ho (by omega) (by decide) (λz hz=>eU (hst.2 z hz))
 obtain ⟨l1,hl1,e2⟩:∃z,st++[(.agg [.int .i64 t_0,.int .i64 t_1,.str t_2,.lst t_3])]=z/\o.app st [.agg [.int .i64 t_0,.int .i64 t_1,.str t_2,.lst t_3]]=z:=⟨_,rfl,ho.app _ _⟩
 conv=>lhs;cbv;rw[e1];cbv;rw[e2];cbv
 have e3:o.fits 4 56 l1=true:=by exact cn ho (by rw[<-hl1,List.length_append];simp only[List.length_cons,List.length_nil];omega) (by decide) (λz hz=>by
  rw[<-hl1]at hz;rcases List.mem_append.1 hz with h | h
  ·exact eU (hst.2 z h)
  ·rw[List.mem_singleton.1 h];rfl)
 conv=>lhs;rw[e3];cbv
 subst Q;rw[hl1];try rfl
theorem load_ (fs st:List D) (t_0 t_1:Int) (t_2:ByteArray) (t_3:List D) (hst:stk o st) (hT:Tm 8 (.agg [.int .i64 t_0,.int .i64 t_1,.str t_2,.lst t_3])):o.call 195 [.ptr (1,0) 0,At t_0 t_1 t_2 t_3] [some (Ob (1,1) (1,2)),Oo fs,Os st]=some (if bN (.agg [.int .i64 t_0,.int .i64 t_1,.str t_2,.lst t_3]) lf=true then ⟨Ai 1,[some (Ob (1,1) (1,2)),Oo fs,Os st],[]⟩else ⟨Ai 7,[some (Ob (1,1) (0,0)),Oo fs,none],[Os (st++[(.agg [.int .i64 t_0,.int .i64 t_1,.str t_2,.lst t_3])])]⟩):=by
 refine ho.aC λR Q=> ?_
 conv=>lhs;cbv
 cases he1:bN (.agg [.int .i64 t_0,.int .i64 t_1,.str t_2,.lst t_3]) lf<;>(conv=>lhs;rw[vo ho _ _ _ _ hT,he1];cbv)
 ·obtain ⟨l1,hl1,e2⟩:∃z,st++[(.agg [.int .i64 t_0,.int .i64 t_1,.str t_2,.lst t_3])]=z/\o.call 194 [.ptr (1,0) 0,At t_0 t_1 t_2 t_3,Ai 0] [some (Ob (1,1) (1,2)),Oo fs,Os st]=some ⟨Ai 7,[some (Ob (1,1) (0,0)),Oo fs,none],[Os z]⟩:=⟨_,rfl,vh ho fs st _ _ _ _ 0 hst⟩
  conv=>lhs;rw[e2];cbv
  subst Q;try rw[he1]
  rw[if_neg Bool.false_ne_true,hl1];try rfl
 ·subst Q;try rw[he1]
  rw[if_pos rfl];try rfl
end
theorem pC {o:aJ} {r:D×Int} (h:HW o r):∃k n s l c,r=(.agg [.int .i64 k,.int .i64 n,.str s,.lst l],c)/\(c=0\/c=3\/c=4)/\(c=0->Rt o 8 (.agg [.int .i64 k,.int .i64 n,.str s,.lst l])):=by
 obtain ⟨k,n,s,l,e,h1,h2⟩:=h;obtain ⟨a,c⟩:=r;simp only at e h1 h2;subst e;exact ⟨k,n,s,l,c,rfl,h1,h2⟩
theorem Lc {a r:List D} {i:Nat} {x:D} (h:a[i]? =some x) (hr:i<r.length):(a.take i++r.drop i).set i x=a.take (i+1)++r.drop (i+1):=by
 have hl:i<a.length:=(aq.1 h).1;rw[List.set_append_right _ _ (by rw[List.length_take];omega),List.length_take,show i-min i a.length=0 by omega,List.drop_eq_getElem_cons hr,List.set_cons_zero,List.take_add_one,h,List.append_assoc];rfl
section
variable {o:aJ} (ho:aR cF bB o)
include ho
theorem Bv (fs st:List D) (k n:Int) (hst:stk o st) (hn0:0<=n) (hn1:n<=st.length) (hk:k=4\/k=5\/k=6) (hk6:k=6->1<=n) (hn2:n<=400):o.call 196 [.ptr (1,0) 0,Ai k,Ai n] [some (Ob (1,1) (1,2)),Oo fs,Os st]=some ⟨Ai (if (gJ o k (st.drop ((st.length:Int)-n).toNat)).2=0 then 7 else (gJ o k (st.drop ((st.length:Int)-n).toNat)).2),[some (Ob (1,1) (0,0)),Oo fs,none],[Os (if (gJ o k (st.drop ((st.length:Int)-n).toNat)).2=0 then st.take ((st.length:Int)-n).toNat++[(gJ o k (st.drop ((st.length:Int)-n).toNat)).1]else st.take ((st.length:Int)-n).toNat)]⟩:=by
 refine ho.aC λR Q=> ?_
 obtain ⟨l1,l2,hl1,hl2,e1⟩:∃l1 l2,l1=st.drop ((st.length:Int)-n).toNat/\l2=st.take ((st.length:Int)-n).toNat/\o.call 197 [.ptr (1,0) 0,Ai n] [some (Ob (1,1) (1,2)),Oo fs,Os st]=some ⟨.arr (0,0) (31,4) none false,[some (Ob (1,1) (0,1)),Oo fs,none],[Os l1,Os l2]⟩:=⟨_,_,rfl,rfl,H8 ho fs st n hst hn0 hn1 _ rfl⟩
 have hs1:stk o l1:=by rw[hl1];exact iR hst
 have hs2:stk o l2:=by rw[hl2];exact kL hst
 have hlen1:(l1.length:Int)=n:=by rw[hl1,List.length_drop];omega
 obtain ⟨n1,n2,s1,l3,n3,hA,hA2,hA3⟩:=pC (mW (k:=k) hs1.2 (by omega));have e2:o.call 288 [Ai k,Al l1] []=Ar (.tup [At n1 n2 s1 l3,Ai n3]):=(Nf ho k l1 hk hs1.2 (by omega) (by omega)).trans (by rw[hA];rfl);conv=>lhs;cbv;rw[e1];cbv;rw[e2];cbv
 by_cases hq:n3=0
 ·obtain ⟨l4,hl4,e3⟩:∃l4,l2++[(.agg [.int .i64 n1,.int .i64 n2,.str s1,.lst l3])]=l4/\o.call 194 [.ptr (1,0) 0,At n1 n2 s1 l3,Ai n3] [some (Ob (1,1) (1,2)),Oo fs,Os l2]=some ⟨Ai 7,[some (Ob (1,1) (0,0)),Oo fs,none],[Os l4]⟩:=⟨_,rfl,(vh ho fs l2 _ _ _ _ n3 hs2).trans (by rw[if_pos hq])⟩
  conv=>lhs;rw[e3];cbv
  subst Q;rw[<-hl1,<-hl2,hA];show _=some (bW.mk (Ai (if n3=0 then 7 else n3)) _ [Os (if n3=0 then l2++[(.agg [.int .i64 n1,.int .i64 n2,.str s1,.lst l3])]else l2)]);rw[if_pos hq,if_pos hq,hl4];try rfl
 ·have e3:o.call 194 [.ptr (1,0) 0,At n1 n2 s1 l3,Ai n3] [some (Ob (1,1) (1,2)),Oo fs,Os l2]=some ⟨Ai n3,[some (Ob (1,1) (1,2)),Oo fs,Os l2],[]⟩:=(vh ho fs l2 _ _ _ _ n3 hs2).trans (by rw[if_neg hq]);conv=>lhs;rw[e3];cbv
  subst Q;rw[<-hl1,<-hl2,hA];show _=some (bW.mk (Ai (if n3=0 then 7 else n3)) _ [Os (if n3=0 then l2++[(.agg [.int .i64 n1,.int .i64 n2,.str s1,.lst l3])]else l2)]);rw[if_neg hq,if_neg hq];try rfl
theorem EM (c_0 c_1:List D) (at':Int) (l:List D) (s1:ByteArray) (n1 n2:Int) (l1:List D) (h0:0<=at') (hx:c_0[at'.toNat]? =some (.agg [.str s1,.int .i64 n1,.int .i64 n2,.lst l1])) (hl:(l.length:Int)<=n2) (hn:n2<=400) (hT:∀x∈l,Rt o 8 x):o.call 247 [.sp [.lst c_0,.lst c_1] 0,Ai at',Al l] []=some ⟨.agg [Ai at',Ai 0,.arr (0,0) (31,4) none true],[],[Os (dQ n2 l)]⟩:=by
 refine ho.aC λR Q=> ?_
 have e1:=ak ho h0 hx;have e2:o.cmp .eql n2 n2=true:=cw ho rfl;have e3:o.fF 56 n2=true:=by rw[ho.fF];exact decide_eq_true (by omega)
 obtain ⟨l2,hl2,e4⟩:∃z,z=List.replicate n2.toNat lf/\o.qz n2 (.agg [.int .i64 0,.int .i64 0,.str ⟨#[]⟩,.lst []])=z:=⟨_,rfl,ho.qz _ _⟩
 have e5:o.fits 4 0 l=true:=by exact cn ho (by omega) (by decide) (λz hz=>eU (hT z hz))
 conv=>lhs;cbv;rw[e1];cbv;rw[e2];cbv;rw[e3];cbv;rw[e4];cbv;rw[e5];cbv
 obtain ⟨l3,hl3,e6⟩:∃z,dQ n2 l=z/\o.over l2 l=z:=by
  refine ⟨_,rfl,?_⟩;have h:o.over l2 l=l.take l2.length++l2.drop l.length:=by rw[ho];rfl
  rw[h,hl2,List.length_replicate,List.take_of_length_le (by omega),List.drop_replicate];rfl
 conv=>lhs;rw[e6];cbv
 subst Q;rw[hl3];try rfl
def kM (a2:List D) (i a1:Int) (y:List D):St:=⟨E 34 [(2,Al a2),(6,.ptr (6,0) 0),(7,.ptr (7,0) 0),(8,Ai i)],O 34 [(6,[some (.box [Ai 0,Ai 0,.emp])]),(7,[some (.box [Ai a1,Ai 0,.arr (16,0) (31,4) none true])]),(16,[Os y])]⟩
def jk (a1:Int) (y:List D):St:=⟨E 34 [(6,.ptr (6,0) 0),(7,.ptr (7,0) 0)],O 34 [(6,[some (.box [Ai 0,Ai 0,.emp])]),(7,[some (.box [Ai a1,Ai 0,.arr (16,0) (31,4) none true])]),(16,[Os y])]⟩
theorem Ld (a2:List D) (a1 n:Int) (hl:(a2.length:Int)<=n) (hn:n<=400) (hT:∀x∈a2,Rt o 8 x):∀i:Int,0<=i->i<=(a2.length:Int)->∀y:List D,y=a2.take i.toNat++(List.replicate n.toNat lf).drop i.toNat->o.loop 18700 (kM a2 i a1 y)=some (.exit 0,jk a1 (dQ n a2)):=by
 refine bV (P:=λi=>∀y:List D,y=a2.take i.toNat++(List.replicate n.toNat lf).drop i.toNat->o.loop 18700 (kM a2 i a1 y)=some (.exit 0,jk a1 (dQ n a2))) (a2.length:Int) ?_;intro i h0 h1 ih;try dsimp only at ih |-
 intro y hy;have hyl:(y.length:Int)=n:=by rw[hy,List.length_append,List.length_take,List.length_drop,List.length_replicate];omega
 have hyS:∀x∈y,Sl o x:=by
   intro x hx;rw[hy]at hx;rcases List.mem_append.1 hx with h | h
   ·exact .inr (hT x (List.mem_of_mem_take h))
   ·exact .inl (List.eq_of_mem_replicate (List.mem_of_mem_drop h))
 refine ho.dO λR Q=> ?_
 obtain ⟨n1,e1,g1⟩:=ay ho a2;conv=>lhs;cbv;rw[e1];cbv
 rcases aZ ho i n1 with ⟨e2,g2⟩|⟨e2,g2⟩<;>(conv=>lhs;rw[e2];cbv)
 ·subst Q;have hE:y=dQ n a2:=by
   rw[hy,List.take_of_length_le (by omega),List.drop_replicate];unfold dQ;rw[show n.toNat-i.toNat=n.toNat-a2.length by omega]
  rw[<-hE];rfl
 ·obtain ⟨x,hx0,hx1,hx2⟩:=ax (xs:=a2) rfl h0 (by omega);obtain ⟨m1,n2,n3,s1,l1,hd1,rfl,hs,ht⟩:=gb (hT _ hx2);have e3:=ak ho h0 hx0;have e4:o.call 202 [At n2 n3 s1 l1] []=Ar (At n2 n3 s1 l1):=pF ho 8 _ _ _ _ (iS (hT _ hx2));obtain ⟨y1,hy0,hy1,hy2⟩:=ax hyl h0 (by omega);obtain ⟨n4,n5,s2,l2,rfl⟩:=DH (hyS _ hy2);have e5:=ak ho h0 hy0;obtain ⟨l3,hset,e6⟩:∃z,z=a2.take (i.toNat+1)++(List.replicate n.toNat lf).drop (i.toNat+1)/\o.set y i (.agg [.int .i64 n2,.int .i64 n3,.str s1,.lst l1])=z:=⟨_,rfl,by rw[ho.set,hy];exact Lc hx0 (by rw[List.length_replicate];omega)⟩
  obtain ⟨n6,e7,g7⟩:=aW ho i 1;conv=>lhs;rw[e3];cbv;rw[e4];cbv;rw[e5];cbv;(try (rw[e5];cbv));rw[e6];cbv;rw[e7];cbv
  subst Q;rw[show n6=i+1 by omega];exact ih (by omega) _ (by rw[hset,show (i+1).toNat=i.toNat+1 by omega])
theorem DI (a0_0 a0_1:List D) (a1:Int) (a2:List D) (s1:ByteArray) (n1 n2:Int) (l1:List D) (h0:0<=a1) (hx:a0_0[a1.toNat]? =some (.agg [.str s1,.int .i64 n1,.int .i64 n2,.lst l1])) (hl:(a2.length:Int)<=n2) (hn:n2<=400) (hT:∀x∈a2,Rt o 8 x):o.call 187 [.agg [Al a0_0,Al a0_1],Ai a1,Al a2] []=Ar (.agg [Ai a1,Ai 0,Al (dQ n2 a2)]):=by
 refine ho.aC λR Q=> ?_
 have e1:=ak ho h0 hx;have e2:o.cmp .eql n2 n2=true:=cw ho rfl;have e3:o.fF 56 n2=true:=by rw[ho.fF];exact decide_eq_true (by omega)
 obtain ⟨l2,hl2,e4⟩:∃z,z=List.replicate n2.toNat lf/\o.qz n2 (.agg [.int .i64 0,.int .i64 0,.str ⟨#[]⟩,.lst []])=z:=⟨_,rfl,ho.qz _ _⟩
 conv=>lhs;cbv;rw[e1];cbv;rw[e2];cbv;rw[e3];cbv;rw[e4];cbv
 obtain ⟨l3,hl3,e5⟩:∃l3,dQ n2 a2=l3/\o.loop 18700 (kM a2 0 a1 l2)=some (.exit 0,jk a1 l3):=⟨_,rfl,Ld ho a2 a1 n2 hl hn hT 0 (Int.le_refl _) (by omega) l2 hl2⟩
 conv at e5=>lhs;cbv
 conv=>lhs;rw[e5];cbv
 subst Q;rw[hl3];try rfl
theorem call_ (fs st c_0 c_1:List D) (x_0 x_1:Int) (x_2:ByteArray) (x_3:Int) (hC:∀x∈c_0,uE x) (hCb:(c_0.length:Int)<=1048576) (at':Int) (hat:jJ c_0 x_2=at') (s1:ByteArray) (m1 m2:Int) (q1:List D) (h0:0<=at') (hx:c_0[at'.toNat]? =some (.agg [.str s1,.int .i64 m1,.int .i64 m2,.lst q1])) (hm1:x_1<=m2) (hm2:m2<=400) (hst:stk o st) (hn0:0<=x_1) (hn1:x_1<=st.length) (hf:∀x∈fs,x.cells.length=3) (hfl:(fs.length:Int)<=40):o.call 199 [.ptr (1,0) 0,.sp [.lst c_0,.lst c_1] 0,.agg [Ai x_0,Ai x_1,As x_2,Ai x_3]] [some (Ob (1,1) (1,2)),Oo fs,Os st]=some (if (fs.length:Int)=40 then ⟨Ai 5,[some (Ob (1,1) (1,2)),Oo fs,Os st],[]⟩else ⟨Ai 7,[some (Ob (0,0) (0,1)),none,none],[Oo (fs++[(.agg [.int .i64 at',.int .i64 0,.own (31,4) (dQ m2 (st.drop ((st.length:Int)-x_1).toNat))])]),Os (st.take ((st.length:Int)-x_1).toNat)]⟩):=by
 obtain ⟨n1,e1,g1⟩:=ay ho fs;rcases aj ho n1 40 with ⟨e2,g2⟩|⟨e2,g2⟩
 ·obtain ⟨l1,l2,hl1,hl2,e3⟩:∃l1 l2,l1=st.drop ((st.length:Int)-x_1).toNat/\l2=st.take ((st.length:Int)-x_1).toNat/\o.call 197 [.ptr (1,0) 0,Ai x_1] [some (Ob (1,1) (1,2)),Oo fs,Os st]=some ⟨.arr (0,0) (31,4) none false,[some (Ob (1,1) (0,1)),Oo fs,none],[Os l1,Os l2]⟩:=⟨_,_,rfl,rfl,H8 ho fs st x_1 hst hn0 hn1 _ rfl⟩
  have hs1:stk o l1:=by rw[hl1];exact iR hst
  have hs2:stk o l2:=by rw[hl2];exact kL hst
  have hlen1:(l1.length:Int)=x_1:=by rw[hl1,List.length_drop];omega
  obtain ⟨n2,hn2,e4⟩:∃n2,n2=at'/\o.call 180 [.sp [.lst c_0,.lst c_1] 0,As x_2] []=Ar (Ai n2):=⟨_,rfl,(yx ho c_0 c_1 x_2 hC hCb).trans (by rw[hat])⟩
  obtain ⟨l3,hl3,e5⟩:∃l3,dQ m2 l1=l3/\o.call 247 [.sp [.lst c_0,.lst c_1] 0,Ai n2,Al l1] []=some ⟨.agg [Ai n2,Ai 0,.arr (0,0) (31,4) none true],[],[Os l3]⟩:=⟨_,rfl,by rw[hn2];exact EM ho c_0 c_1 at' l1 s1 m1 m2 q1 h0 hx (by omega) hm2 hs1.2⟩
  obtain ⟨n3,n4,l5,⟨hn3,hn4,hl5⟩,e6⟩:∃n3 n4 l5,(n3=n2/\n4=0/\l5=([]:List D))/\o.dD [.agg [.int .i64 n2,.int .i64 0,.own (31,4) []]] 0=some (.agg [.int .i64 n3,.int .i64 n4,.own (31,4) l5]):=⟨_,_,_,⟨rfl,rfl,rfl⟩,ak ho (Int.le_refl _) rfl⟩
  have e7:o.flat l3=true:=by exact sJ ho (by rw[<-hl3];exact xB hs1.2)
  obtain ⟨l6,hl6,e8⟩:∃z,[(.agg [.int .i64 n3,.int .i64 n4,.own (31,4) l3])]=z/\o.set [.agg [.int .i64 n2,.int .i64 0,.own (31,4) []]] 0 (.agg [.int .i64 n3,.int .i64 n4,.own (31,4) l3])=z:=⟨_,rfl,by rw[ho.set];rfl⟩
  obtain ⟨l7,hl7,e9⟩:∃z,fs++l6=z/\o.app fs l6=z:=⟨_,rfl,ho.app _ _⟩
  have e10:o.fits 3 40 l7=true:=by exact cn ho (by rw[<-hl7,<-hl6,List.length_append];simp only[List.length_cons,List.length_nil];omega) (by decide) (λz hz=>by
   rw[<-hl7,<-hl6]at hz;rcases List.mem_append.1 hz with h | h
   ·exact hf z h
   ·rw[List.mem_singleton.1 h];rfl)
  rw[<-hl6]at e8 e9 hl7;rw[if_neg (by omega),<-hl1,<-hl2,hl3,<-hn2,<-hn3,<-hn4,hl7];exact (ho.au (by cbv;repeat (simp only[e1,e2,e3,e4,e5,e6,e7,e8,e9,e10];try cbv)):o.call 199 [.ptr (1,0) 0,.sp [.lst c_0,.lst c_1] 0,.agg [Ai x_0,Ai x_1,As x_2,Ai x_3]] [some (Ob (1,1) (1,2)),Oo fs,Os st]=some ⟨Ai 7,[some (Ob (0,0) (0,1)),none,none],[Oo l7,Os l2]⟩)
 ·rw[if_pos (by omega)];exact (ho.au (by cbv;repeat (simp only[e1,e2];try cbv)):o.call 199 [.ptr (1,0) 0,.sp [.lst c_0,.lst c_1] 0,.agg [Ai x_0,Ai x_1,As x_2,Ai x_3]] [some (Ob (1,1) (1,2)),Oo fs,Os st]=some ⟨Ai 5,[some (Ob (1,1) (1,2)),Oo fs,Os st],[]⟩)
end
end T2
