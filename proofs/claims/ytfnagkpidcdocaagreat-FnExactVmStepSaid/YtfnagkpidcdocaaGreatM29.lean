import Derived.Test.YtfnagkpidcdocaaGreatM28
set_option linter.all false
namespace T2
open Go Go.Vi
set_option maxRecDepth 100000
set_option maxHeartbeats 4000000
section
variable {o:aJ} (ho:aR cF bB o)
include ho
theorem Lo (fs st c_0 c_1:List D) (hst:stk o st) (k:Int) (hk:k=(fs.length:Int)-1) (hk0:0<=k) (hkb:k<=100) (n3 n4:Int) (l2:List D) (hf:fs[k.toNat]? =some (.agg [.int .i64 n3,.int .i64 n4,.own (31,4) l2])) (hSl:∀x∈l2,Sl o x) (h3:0<=n3) (s1:ByteArray) (n5 n6:Int) (l3:List D) (hc:c_0[n3.toNat]? =some (.agg [.str s1,.int .i64 n5,.int .i64 n6,.lst l3])) (h4:0<=n4) (h4b:n4<=5000) (n7 n8:Int) (s2:ByteArray) (n9:Int) (hi:l3[n4.toNat]? =some (.agg [.int .i64 n7,.int .i64 n8,.str s2,.int .i64 n9])) (p1:Int) (hp1:p1=n4+1) (L4:List D) (hL4:L4=fs.set k.toNat (.agg [.int .i64 n3,.int .i64 p1,.own (31,4) l2])) (hop:n7=9) (h1:1<=(st.length:Int)) (t_0 t_1:Int) (t_2:ByteArray) (t_3:List D) (ht:st[((st.length:Int)-1).toNat]? =some (.agg [.int .i64 t_0,.int .i64 t_1,.str t_2,.lst t_3])) (sl:Int) (hS:(l2.length:Int)=sl) (hsl:sl<=400) (hx1:0<=n8) (p_0 p_1:Int) (p_2:ByteArray) (p_3:List D) (hp:c_1[n8.toNat]? =some (.agg [.int .i64 p_0,.int .i64 p_1,.str p_2,.lst p_3])) {m:Nat} (hP:Tm m (.agg [.int .i64 p_0,.int .i64 p_1,.str p_2,.lst p_3])) (hM:dc o sl 10 (.agg [.int .i64 p_0,.int .i64 p_1,.str p_2,.lst p_3])<=300):o.call 104 [.ptr (1,0) 0,.sp [.lst c_0,.lst c_1] 0] [some (Ob (1,1) (1,2)),Oo fs,Os st]=some (if (aD 10 (.agg [.int .i64 p_0,.int .i64 p_1,.str p_2,.lst p_3]) (.agg [.int .i64 t_0,.int .i64 t_1,.str t_2,.lst t_3]) l2).1=true then ⟨Ai 7,[some (Ob (1,1) (0,0)),Oo (L4.set k.toNat (.agg [.int .i64 n3,.int .i64 p1,.own (31,4) (aD 10 (.agg [.int .i64 p_0,.int .i64 p_1,.str p_2,.lst p_3]) (.agg [.int .i64 t_0,.int .i64 t_1,.str t_2,.lst t_3]) l2).2])),none],[Os (st.take ((st.length:Int)-1).toNat)]⟩else ⟨Ai 7,[some (Ob (1,1) (1,2)),Oo (L4.set k.toNat (.agg [.int .i64 n3,.int .i64 n9,.own (31,4) l2])),Os st],[]⟩):=by
 have hb:=hst.1;refine ho.aC λR Q=> ?_
 obtain ⟨n1,e1,g1⟩:=ay ho fs;obtain ⟨n2,e2,g2⟩:=aO ho n1 1;obtain rfl:n2=k:=by omega
 have hlk:n2.toNat<fs.length:=(aq.1 hf).1;have e3:=ak ho hk0 hf;have e4:=ak ho h3 hc;have e5:=ak ho h4 hi;obtain ⟨n10,e6,g6⟩:=aW ho n4 1;obtain ⟨l4,rfl,e7⟩:∃z,z=L4/\o.set fs n2 (.agg [.int .i64 n3,.int .i64 n10,.own (31,4) l2])=z:=⟨_,rfl,by rw[ho.set,hL4,show n10=p1 by omega]⟩
 have hg4:l4[n2.toNat]? =some (.agg [.int .i64 n3,.int .i64 p1,.own (31,4) l2]):=by rw[hL4];exact bR hlk
 conv=>lhs;cbv;rw[e1];cbv;rw[e2];cbv;rw[e3];cbv;(try (rw[e3];cbv));rw[e4];cbv;(try (rw[e3];cbv));rw[e5];cbv;(try (rw[e3];cbv));rw[e6];cbv;(try (rw[e3];cbv));rw[e7];cbv
 iterate 9 (conv=>lhs;simp (disch:=omega) only [bC ho,cw ho];cbv)
 have hch:=H9 ho l4 st c_0 c_1 n2 n7 n8 s2 n9 hst h1 _ _ _ _ ht hk0 n3 p1 l2 hg4 sl hS hsl hSl hx1 _ _ _ _ hp hP hM;cases hb2:(aD 10 (.agg [.int .i64 p_0,.int .i64 p_1,.str p_2,.lst p_3]) (.agg [.int .i64 t_0,.int .i64 t_1,.str t_2,.lst t_3]) l2).1
 ·obtain ⟨l5,hl5,e17⟩:∃z,l4.set n2.toNat (.agg [.int .i64 n3,.int .i64 n9,.own (31,4) l2])=z/\o.call 200 [.ptr (1,0) 0,.sp [.lst c_0,.lst c_1] 0,.prow (1,1) (192,3) n2 0,.agg [Ai n7,Ai n8,As s2,Ai n9]] [some (Ob (1,1) (1,2)),Oo l4,Os st]=some ⟨Ai 7,[some (Ob (1,1) (1,2)),Oo z,Os st],[]⟩:=⟨_,rfl,by rw[hb2,if_neg Bool.false_ne_true]at hch;exact hch⟩
  conv=>lhs;rw[e17];cbv
  subst Q;try rw[hb2]
  first | (rw[if_pos rfl,hl5,hl6];try rfl) | (rw[if_neg Bool.false_ne_true,hl5];try rfl)
 ·obtain ⟨l5,l6,hl5,hl6,e17⟩:∃z w,l4.set n2.toNat (.agg [.int .i64 n3,.int .i64 p1,.own (31,4) (aD 10 (.agg [.int .i64 p_0,.int .i64 p_1,.str p_2,.lst p_3]) (.agg [.int .i64 t_0,.int .i64 t_1,.str t_2,.lst t_3]) l2).2])=z/\st.take ((st.length:Int)-1).toNat=w/\o.call 200 [.ptr (1,0) 0,.sp [.lst c_0,.lst c_1] 0,.prow (1,1) (192,3) n2 0,.agg [Ai n7,Ai n8,As s2,Ai n9]] [some (Ob (1,1) (1,2)),Oo l4,Os st]=some ⟨Ai 7,[some (Ob (1,1) (0,0)),Oo z,none],[Os w]⟩:=⟨_,_,rfl,rfl,by rw[hb2,if_pos rfl]at hch;exact hch⟩
  conv=>lhs;rw[e17];cbv
  subst Q;try rw[hb2]
  first | (rw[if_pos rfl,hl5,hl6];try rfl) | (rw[if_neg Bool.false_ne_true,hl5];try rfl)
theorem Np (fs st:List D) (hst:stk o st) (i x_0 x_1:Int) (x_2:ByteArray) (x_3:Int) (hop:x_0=1):o.call 189 [.ptr (1,0) 0,.prow (1,1) (192,3) i 0,.agg [Ai x_0,Ai x_1,As x_2,Ai x_3]] [some (Ob (1,1) (1,2)),Op fs,Os st]=some ⟨Ai 0,[some (Ob (1,1) (0,0)),Op fs,none],[Os (st++[(.agg [.int .i64 1,.int .i64 x_1,.str ⟨#[]⟩,.lst []])])]⟩:=by
 have hb:=hst.1;refine ho.aC λR Q=> ?_
 obtain ⟨l1,hl9,e3⟩:∃z,st++[(.agg [.int .i64 1,.int .i64 x_1,.str ⟨#[]⟩,.lst []])]=z/\o.call 284 [.ptr (1,0) 0,At 1 x_1 ⟨#[]⟩ []] [some (Ob (1,1) (1,2)),Op fs,Os st]=some ⟨.tup [],[some (Ob (1,1) (0,0)),Op fs,none],[Os z]⟩:=⟨_,rfl,ql ho fs st _ _ _ _ hst⟩
 conv=>lhs;cbv;simp (disch:=omega) only [cw ho];cbv;rw[ho.cmp];cbv;rw[e3];cbv
 subst Q;rw[hl9];try rfl
theorem Nq (fs st:List D) (hst:stk o st) (i x_0 x_1:Int) (x_2:ByteArray) (x_3:Int) (hop:x_0=2):o.call 189 [.ptr (1,0) 0,.prow (1,1) (192,3) i 0,.agg [Ai x_0,Ai x_1,As x_2,Ai x_3]] [some (Ob (1,1) (1,2)),Op fs,Os st]=some ⟨Ai 0,[some (Ob (1,1) (0,0)),Op fs,none],[Os (st++[(.agg [.int .i64 2,.int .i64 0,.str x_2,.lst []])])]⟩:=by
 have hb:=hst.1;refine ho.aC λR Q=> ?_
 conv=>lhs;cbv
 iterate 2 (conv=>lhs;simp (disch:=omega) only [bC ho,cw ho];cbv)
 obtain ⟨l1,hl9,e4⟩:∃z,st++[(.agg [.int .i64 2,.int .i64 0,.str x_2,.lst []])]=z/\o.call 284 [.ptr (1,0) 0,At 2 0 x_2 []] [some (Ob (1,1) (1,2)),Op fs,Os st]=some ⟨.tup [],[some (Ob (1,1) (0,0)),Op fs,none],[Os z]⟩:=⟨_,rfl,ql ho fs st _ _ _ _ hst⟩
 conv=>lhs;rw[ho.cmp];cbv;rw[e4];cbv
 subst Q;rw[hl9];try rfl
theorem Nr (fs st:List D) (hst:stk o st) (i x_0 x_1:Int) (x_2:ByteArray) (x_3:Int) (hop:x_0=3) (h0:0<=i) (n1 n2:Int) (l1:List D) (hf:fs[i.toNat]? =some (.agg [.int .i64 n1,.int .i64 n2,.lst l1])) (h8:0<=x_1) (n3 n4:Int) (s1:ByteArray) (l2:List D) (hx:l1[x_1.toNat]? =some (.agg [.int .i64 n3,.int .i64 n4,.str s1,.lst l2])) (hSl:Sl o (.agg [.int .i64 n3,.int .i64 n4,.str s1,.lst l2])):o.call 189 [.ptr (1,0) 0,.prow (1,1) (192,3) i 0,.agg [Ai x_0,Ai x_1,As x_2,Ai x_3]] [some (Ob (1,1) (1,2)),Op fs,Os st]=some (if bN (.agg [.int .i64 n3,.int .i64 n4,.str s1,.lst l2]) lf=true then ⟨Ai 1,[some (Ob (1,1) (1,2)),Op fs,Os st],[]⟩else ⟨Ai 0,[some (Ob (1,1) (0,0)),Op fs,none],[Os (st++[(.agg [.int .i64 n3,.int .i64 n4,.str s1,.lst l2])])]⟩):=by
 have hb:=hst.1;refine ho.aC λR Q=> ?_
 conv=>lhs;cbv
 iterate 3 (conv=>lhs;simp (disch:=omega) only [bC ho,cw ho];cbv)
 have e4:=ak ho h0 hf;have e5:=ak ho h8 hx;have e6:o.call 202 [At n3 n4 s1 l2] []=Ar (At n3 n4 s1 l2):=pF ho 8 _ _ _ _ (CF hSl);conv=>lhs;rw[e4];cbv;rw[e5];cbv;rw[e6];cbv
 cases he7:bN (.agg [.int .i64 n3,.int .i64 n4,.str s1,.lst l2]) lf<;>(conv=>lhs;rw[z7 ho,he7];cbv)
 ·obtain ⟨l3,hl9,e9⟩:∃z,st++[(.agg [.int .i64 n3,.int .i64 n4,.str s1,.lst l2])]=z/\o.call 284 [.ptr (1,0) 0,At n3 n4 s1 l2] [some (Ob (1,1) (1,2)),Op fs,Os st]=some ⟨.tup [],[some (Ob (1,1) (0,0)),Op fs,none],[Os z]⟩:=⟨_,rfl,ql ho fs st _ _ _ _ hst⟩
  conv=>lhs;rw[ho.cmp];cbv;rw[e9];cbv
  subst Q;try rw[he7]
  first | (rw[if_pos rfl];try rfl) | (rw[if_neg Bool.false_ne_true,hl9];try rfl)
 ·subst Q;try rw[he7]
  first | (rw[if_pos rfl];try rfl) | (rw[if_neg Bool.false_ne_true,hl9];try rfl)
theorem Ns (fs st:List D) (hst:stk o st) (i x_0 x_1:Int) (x_2:ByteArray) (x_3:Int) (hop:x_0=4) (h80:0<=x_1) (h81:x_1<=20) (h82:x_1<=st.length):o.call 189 [.ptr (1,0) 0,.prow (1,1) (192,3) i 0,.agg [Ai x_0,Ai x_1,As x_2,Ai x_3]] [some (Ob (1,1) (1,2)),Op fs,Os st]=some ⟨Ai (gJ o 4 (st.drop ((st.length:Int)-x_1).toNat)).2,[some (Ob (1,1) (0,0)),Op fs,none],[Os (if (gJ o 4 (st.drop ((st.length:Int)-x_1).toNat)).2=0 then st.take ((st.length:Int)-x_1).toNat++[(gJ o 4 (st.drop ((st.length:Int)-x_1).toNat)).1]else st.take ((st.length:Int)-x_1).toNat)]⟩:=by
 have hb:=hst.1;refine ho.aC λR Q=> ?_
 conv=>lhs;cbv
 iterate 4 (conv=>lhs;simp (disch:=omega) only [bC ho,cw ho];cbv)
 obtain ⟨l1,l2,hl5,hl6,e5⟩:∃a b,a=st.drop ((st.length:Int)-x_1).toNat/\b=st.take ((st.length:Int)-x_1).toNat/\o.call 186 [.ptr (1,0) 0,Ai x_1] [some (Ob (1,1) (1,2)),Op fs,Os st]=some ⟨.arr (0,0) (31,4) none false,[some (Ob (1,1) (0,1)),Op fs,none],[Os a,Os b]⟩:=⟨_,_,rfl,rfl,Bu ho fs st x_1 hst (by omega) h82 _ rfl⟩
 have hs5:stk o l1:=by rw[hl5];exact iR hst
 have hs6:stk o l2:=by rw[hl6];exact kL hst
 have hlen5:(l1.length:Int)=x_1:=by rw[hl5,List.length_drop];omega
 conv=>lhs;rw[e5];cbv
 obtain ⟨n1,n2,s1,l3,n3,hA,hA2,hA3⟩:=pC (mW (k:=4) hs5.2 (by omega));have e6:o.call 282 [Ai 4,Al l1] []=Ar (.tup [At n1 n2 s1 l3,Ai n3]):=(yE ho 4 l1 (by omega) hs5.2 (by omega) (by omega)).trans (by rw[hA];rfl);rw[hl5]at hA;conv=>lhs;rw[e6];cbv
 rcases aj ho n3 0 with ⟨e7,g7⟩|⟨e7,g7⟩<;>(conv=>lhs;rw[e7];cbv)
 ·subst Q;rw[hA];show _=some (bW.mk (Ai n3) [some (Ob (1,1) (0,0)),Op fs,none] [Os (if n3=0 then st.take ((st.length:Int)-x_1).toNat++[(.agg [.int .i64 n1,.int .i64 n2,.str s1,.lst l3])]else st.take ((st.length:Int)-x_1).toNat)]);rw[if_neg g7,<-hl6];try rfl
 ·obtain ⟨l4,hl9,e8⟩:∃z,l2++[(.agg [.int .i64 n1,.int .i64 n2,.str s1,.lst l3])]=z/\o.call 284 [.ptr (1,0) 0,At n1 n2 s1 l3] [some (Ob (1,1) (1,2)),Op fs,Os l2]=some ⟨.tup [],[some (Ob (1,1) (0,0)),Op fs,none],[Os z]⟩:=⟨_,rfl,ql ho fs l2 _ _ _ _ hs6⟩
  conv=>lhs;rw[e8];cbv
  subst Q;rw[hA];show _=some (bW.mk (Ai n3) [some (Ob (1,1) (0,0)),Op fs,none] [Os (if n3=0 then st.take ((st.length:Int)-x_1).toNat++[(.agg [.int .i64 n1,.int .i64 n2,.str s1,.lst l3])]else st.take ((st.length:Int)-x_1).toNat)]);rw[if_pos g7,<-hl6,hl9];try rfl
theorem Nt (fs st:List D) (hst:stk o st) (i x_0 x_1:Int) (x_2:ByteArray) (x_3:Int) (hop:x_0=5) (h80:0<=x_1) (h81:x_1<=20) (h82:x_1<=st.length):o.call 189 [.ptr (1,0) 0,.prow (1,1) (192,3) i 0,.agg [Ai x_0,Ai x_1,As x_2,Ai x_3]] [some (Ob (1,1) (1,2)),Op fs,Os st]=some ⟨Ai (gJ o 5 (st.drop ((st.length:Int)-x_1).toNat)).2,[some (Ob (1,1) (0,0)),Op fs,none],[Os (if (gJ o 5 (st.drop ((st.length:Int)-x_1).toNat)).2=0 then st.take ((st.length:Int)-x_1).toNat++[(gJ o 5 (st.drop ((st.length:Int)-x_1).toNat)).1]else st.take ((st.length:Int)-x_1).toNat)]⟩:=by
 have hb:=hst.1;refine ho.aC λR Q=> ?_
 conv=>lhs;cbv
 iterate 5 (conv=>lhs;simp (disch:=omega) only [bC ho,cw ho];cbv)
 obtain ⟨l1,l2,hl5,hl6,e6⟩:∃a b,a=st.drop ((st.length:Int)-x_1).toNat/\b=st.take ((st.length:Int)-x_1).toNat/\o.call 186 [.ptr (1,0) 0,Ai x_1] [some (Ob (1,1) (1,2)),Op fs,Os st]=some ⟨.arr (0,0) (31,4) none false,[some (Ob (1,1) (0,1)),Op fs,none],[Os a,Os b]⟩:=⟨_,_,rfl,rfl,Bu ho fs st x_1 hst (by omega) h82 _ rfl⟩
 have hs5:stk o l1:=by rw[hl5];exact iR hst
 have hs6:stk o l2:=by rw[hl6];exact kL hst
 have hlen5:(l1.length:Int)=x_1:=by rw[hl5,List.length_drop];omega
 conv=>lhs;rw[e6];cbv
 obtain ⟨n1,n2,s1,l3,n3,hA,hA2,hA3⟩:=pC (mW (k:=5) hs5.2 (by omega));have e7:o.call 282 [Ai 5,Al l1] []=Ar (.tup [At n1 n2 s1 l3,Ai n3]):=(yE ho 5 l1 (by omega) hs5.2 (by omega) (by omega)).trans (by rw[hA];rfl);rw[hl5]at hA;conv=>lhs;rw[e7];cbv
 rcases aj ho n3 0 with ⟨e8,g8⟩|⟨e8,g8⟩<;>(conv=>lhs;rw[e8];cbv)
 ·subst Q;rw[hA];show _=some (bW.mk (Ai n3) [some (Ob (1,1) (0,0)),Op fs,none] [Os (if n3=0 then st.take ((st.length:Int)-x_1).toNat++[(.agg [.int .i64 n1,.int .i64 n2,.str s1,.lst l3])]else st.take ((st.length:Int)-x_1).toNat)]);rw[if_neg g8,<-hl6];try rfl
 ·obtain ⟨l4,hl9,e9⟩:∃z,l2++[(.agg [.int .i64 n1,.int .i64 n2,.str s1,.lst l3])]=z/\o.call 284 [.ptr (1,0) 0,At n1 n2 s1 l3] [some (Ob (1,1) (1,2)),Op fs,Os l2]=some ⟨.tup [],[some (Ob (1,1) (0,0)),Op fs,none],[Os z]⟩:=⟨_,rfl,ql ho fs l2 _ _ _ _ hs6⟩
  conv=>lhs;rw[e9];cbv
  subst Q;rw[hA];show _=some (bW.mk (Ai n3) [some (Ob (1,1) (0,0)),Op fs,none] [Os (if n3=0 then st.take ((st.length:Int)-x_1).toNat++[(.agg [.int .i64 n1,.int .i64 n2,.str s1,.lst l3])]else st.take ((st.length:Int)-x_1).toNat)]);rw[if_pos g8,<-hl6,hl9];try rfl
theorem Nu (fs st:List D) (hst:stk o st) (i x_0 x_1:Int) (x_2:ByteArray) (x_3:Int) (hop:x_0=6) (h80:1<=x_1) (h81:x_1<=20) (h82:x_1<=st.length):o.call 189 [.ptr (1,0) 0,.prow (1,1) (192,3) i 0,.agg [Ai x_0,Ai x_1,As x_2,Ai x_3]] [some (Ob (1,1) (1,2)),Op fs,Os st]=some ⟨Ai (gJ o 6 (st.drop ((st.length:Int)-x_1).toNat)).2,[some (Ob (1,1) (0,0)),Op fs,none],[Os (if (gJ o 6 (st.drop ((st.length:Int)-x_1).toNat)).2=0 then st.take ((st.length:Int)-x_1).toNat++[(gJ o 6 (st.drop ((st.length:Int)-x_1).toNat)).1]else st.take ((st.length:Int)-x_1).toNat)]⟩:=by
 have hb:=hst.1;refine ho.aC λR Q=> ?_
 conv=>lhs;cbv
 iterate 6 (conv=>lhs;simp (disch:=omega) only [bC ho,cw ho];cbv)
 obtain ⟨l1,l2,hl5,hl6,e7⟩:∃a b,a=st.drop ((st.length:Int)-x_1).toNat/\b=st.take ((st.length:Int)-x_1).toNat/\o.call 186 [.ptr (1,0) 0,Ai x_1] [some (Ob (1,1) (1,2)),Op fs,Os st]=some ⟨.arr (0,0) (31,4) none false,[some (Ob (1,1) (0,1)),Op fs,none],[Os a,Os b]⟩:=⟨_,_,rfl,rfl,Bu ho fs st x_1 hst (by omega) h82 _ rfl⟩
 have hs5:stk o l1:=by rw[hl5];exact iR hst
 have hs6:stk o l2:=by rw[hl6];exact kL hst
 have hlen5:(l1.length:Int)=x_1:=by rw[hl5,List.length_drop];omega
 conv=>lhs;rw[e7];cbv
 obtain ⟨n1,n2,s1,l3,n3,hA,hA2,hA3⟩:=pC (mW (k:=6) hs5.2 (by omega));have e8:o.call 282 [Ai 6,Al l1] []=Ar (.tup [At n1 n2 s1 l3,Ai n3]):=(yE ho 6 l1 (by omega) hs5.2 (by omega) (by omega)).trans (by rw[hA];rfl);rw[hl5]at hA;conv=>lhs;rw[e8];cbv
 rcases aj ho n3 0 with ⟨e9,g9⟩|⟨e9,g9⟩<;>(conv=>lhs;rw[e9];cbv)
 ·subst Q;rw[hA];show _=some (bW.mk (Ai n3) [some (Ob (1,1) (0,0)),Op fs,none] [Os (if n3=0 then st.take ((st.length:Int)-x_1).toNat++[(.agg [.int .i64 n1,.int .i64 n2,.str s1,.lst l3])]else st.take ((st.length:Int)-x_1).toNat)]);rw[if_neg g9,<-hl6];try rfl
 ·obtain ⟨l4,hl9,e10⟩:∃z,l2++[(.agg [.int .i64 n1,.int .i64 n2,.str s1,.lst l3])]=z/\o.call 284 [.ptr (1,0) 0,At n1 n2 s1 l3] [some (Ob (1,1) (1,2)),Op fs,Os l2]=some ⟨.tup [],[some (Ob (1,1) (0,0)),Op fs,none],[Os z]⟩:=⟨_,rfl,ql ho fs l2 _ _ _ _ hs6⟩
  conv=>lhs;rw[e10];cbv
  subst Q;rw[hA];show _=some (bW.mk (Ai n3) [some (Ob (1,1) (0,0)),Op fs,none] [Os (if n3=0 then st.take ((st.length:Int)-x_1).toNat++[(.agg [.int .i64 n1,.int .i64 n2,.str s1,.lst l3])]else st.take ((st.length:Int)-x_1).toNat)]);rw[if_pos g9,<-hl6,hl9];try rfl
theorem Nv (fs st:List D) (hst:stk o st) (i x_0 x_1:Int) (x_2:ByteArray) (x_3:Int) (hop:x_0=7) (h82:2<=(st.length:Int)) (n1 n2:Int) (s1:ByteArray) (l3:List D) (hA:(st.drop ((st.length:Int)-2).toNat)[0]? =some (.agg [.int .i64 n1,.int .i64 n2,.str s1,.lst l3])) (n3 n4:Int) (s2:ByteArray) (l4:List D) (hB:(st.drop ((st.length:Int)-2).toNat)[1]? =some (.agg [.int .i64 n3,.int .i64 n4,.str s2,.lst l4])):o.call 189 [.ptr (1,0) 0,.prow (1,1) (192,3) i 0,.agg [Ai x_0,Ai x_1,As x_2,Ai x_3]] [some (Ob (1,1) (1,2)),Op fs,Os st]=some ⟨Ai (zP o x_2 (.agg [.int .i64 n1,.int .i64 n2,.str s1,.lst l3]) (.agg [.int .i64 n3,.int .i64 n4,.str s2,.lst l4])).2,[some (Ob (1,1) (0,0)),Op fs,none],[Os (if (zP o x_2 (.agg [.int .i64 n1,.int .i64 n2,.str s1,.lst l3]) (.agg [.int .i64 n3,.int .i64 n4,.str s2,.lst l4])).2=0 then st.take ((st.length:Int)-2).toNat++[(zP o x_2 (.agg [.int .i64 n1,.int .i64 n2,.str s1,.lst l3]) (.agg [.int .i64 n3,.int .i64 n4,.str s2,.lst l4])).1]else st.take ((st.length:Int)-2).toNat)]⟩:=by
 have hb:=hst.1;refine ho.aC λR Q=> ?_
 conv=>lhs;cbv
 iterate 6 (conv=>lhs;simp (disch:=omega) only [bC ho];cbv)
 obtain ⟨l1,l2,hl5,hl6,e7⟩:∃a b,a=st.drop ((st.length:Int)-2).toNat/\b=st.take ((st.length:Int)-2).toNat/\o.call 186 [.ptr (1,0) 0,Ai 2] [some (Ob (1,1) (1,2)),Op fs,Os st]=some ⟨.arr (0,0) (31,4) none false,[some (Ob (1,1) (0,1)),Op fs,none],[Os a,Os b]⟩:=⟨_,_,rfl,rfl,Bu ho fs st 2 hst (by omega) h82 _ rfl⟩
 have hs5:stk o l1:=by rw[hl5];exact iR hst
 have hs6:stk o l2:=by rw[hl6];exact kL hst
 have hlen5:(l1.length:Int)=2:=by rw[hl5,List.length_drop];omega
 have e8:o.dD l1 0=some (.agg [.int .i64 n1,.int .i64 n2,.str s1,.lst l3]):=ak ho (by omega) (by rw[hl5];exact hA);have e9:o.dD l1 1=some (.agg [.int .i64 n3,.int .i64 n4,.str s2,.lst l4]):=ak ho (by omega) (by rw[hl5];exact hB);have hRA:Rt o 8 (.agg [.int .i64 n1,.int .i64 n2,.str s1,.lst l3]):=hst.2 _ (List.mem_of_mem_drop (List.mem_of_getElem? hA));have hRB:Rt o 8 (.agg [.int .i64 n3,.int .i64 n4,.str s2,.lst l4]):=hst.2 _ (List.mem_of_mem_drop (List.mem_of_getElem? hB));obtain ⟨n5,n6,s3,l5,n7,hO,hO2,hO3⟩:=pC (yI ho x_2 hRA hRB);have e10:o.call 283 [As x_2,At n1 n2 s1 l3,At n3 n4 s2 l4] []=Ar (.tup [At n5 n6 s3 l5,Ai n7]):=(DG ho x_2 _ _ _ _ _ _ _ _ hRA hRB).trans (by rw[hO];rfl);conv=>lhs;rw[e7];cbv;rw[e8];cbv;(try (rw[e8];cbv));rw[e9];cbv;(try (rw[e9];cbv));rw[e10];cbv
 rcases aj ho n7 0 with ⟨e11,g11⟩|⟨e11,g11⟩<;>(conv=>lhs;rw[e11];cbv)
 ·subst Q;rw[hO];show _=some (bW.mk (Ai n7) [some (Ob (1,1) (0,0)),Op fs,none] [Os (if n7=0 then st.take ((st.length:Int)-2).toNat++[(.agg [.int .i64 n5,.int .i64 n6,.str s3,.lst l5])]else st.take ((st.length:Int)-2).toNat)]);rw[if_neg g11,<-hl6];try rfl
 ·obtain ⟨l6,hl9,e12⟩:∃z,l2++[(.agg [.int .i64 n5,.int .i64 n6,.str s3,.lst l5])]=z/\o.call 284 [.ptr (1,0) 0,At n5 n6 s3 l5] [some (Ob (1,1) (1,2)),Op fs,Os l2]=some ⟨.tup [],[some (Ob (1,1) (0,0)),Op fs,none],[Os z]⟩:=⟨_,rfl,ql ho fs l2 _ _ _ _ hs6⟩
  conv=>lhs;rw[e12];cbv
  subst Q;rw[hO];show _=some (bW.mk (Ai n7) [some (Ob (1,1) (0,0)),Op fs,none] [Os (if n7=0 then st.take ((st.length:Int)-2).toNat++[(.agg [.int .i64 n5,.int .i64 n6,.str s3,.lst l5])]else st.take ((st.length:Int)-2).toNat)]);rw[if_pos g11,<-hl6,hl9];try rfl
end
section
variable {o:aJ} (ho:aR cF bB o)
include ho
section
variable (fs st c_0 c_1:List D) (hst:stk o st) (k:Int) (hk:k=(fs.length:Int)-1) (hk0:0<=k) (hkb:k<=100) (n3 n4:Int) (l1:List D) (hf:fs[k.toNat]? =some (.agg [.int .i64 n3,.int .i64 n4,.lst l1])) (hSl:∀x∈l1,Sl o x) (h3:0<=n3) (s1:ByteArray) (n5 n6:Int) (l2:List D) (hc:c_0[n3.toNat]? =some (.agg [.str s1,.int .i64 n5,.int .i64 n6,.lst l2])) (h4:0<=n4) (h4b:n4<=5000) (n7 n8:Int) (s2:ByteArray) (n9:Int) (hi:l2[n4.toNat]? =some (.agg [.int .i64 n7,.int .i64 n8,.str s2,.int .i64 n9])) (p1:Int) (hp1:p1=n4+1) (L4:List D) (hL4:L4=fs.set k.toNat (.agg [.int .i64 n3,.int .i64 p1,.lst l1]))
include fs st c_0 c_1 hst k hk hk0 hkb n3 n4 l1 hf hSl h3 s1 n5 n6 l2 hc h4 h4b n7 n8 s2 n9 hi p1 hp1 L4 hL4
theorem Ih (hop:n7=1):o.call 100 [.agg [Al c_0,Al c_1],.ptr (1,0) 0] [some (Ob (1,1) (1,2)),Op fs,Os st]=some ⟨.tup [.agg [Ai 0,Ai 0,As ⟨#[]⟩,.emp],Ai 7],[some (Ob (1,1) (0,0)),Op L4,none],[Os (st++[(.agg [.int .i64 1,.int .i64 n8,.str ⟨#[]⟩,.lst []])])]⟩:=by
 have hb:=hst.1;obtain ⟨n1,e1,g1⟩:=ay ho fs;obtain ⟨n2,e2⟩:=kx (o.ar .sub .i64 n1 1);try have g2:n2=n1-1:=e2.symm.trans (dB ho (by omega) (by omega))
 obtain rfl:n2=k:=by omega
 have hlk:n2.toNat<fs.length:=(aq.1 hf).1;have e3:=ak ho hk0 hf;have e4:=ak ho h3 hc;have e5:=ak ho h4 hi;obtain ⟨n10,e6⟩:=kx (o.ar .add .i64 n4 1);try have g6:n10=n4+1:=e6.symm.trans (ck ho (by omega) (by omega))
 obtain ⟨l3,rfl,e7⟩:∃z,z=L4/\o.set fs n2 (.agg [.int .i64 n3,.int .i64 n10,.lst l1])=z:=⟨_,rfl,by rw[ho.set,hL4,show n10=p1 by omega]⟩
 have hg4:l3[n2.toNat]? =some (.agg [.int .i64 n3,.int .i64 p1,.lst l1]):=by rw[hL4];exact bR hlk
 have hlen4:l3.length=fs.length:=by rw[hL4,List.length_set]
 have e8:o.cmp .eql n7 8=false:=by first | assumption | exact bC ho (by omega)
 have g8:=k_ ho e8;have e9:o.cmp .eql n7 9=false:=by first | assumption | exact bC ho (by omega)
 have g9:=k_ ho e9;have e10:o.cmp .eql n7 10=false:=by first | assumption | exact bC ho (by omega)
 have g10:=k_ ho e10;have e11:o.cmp .eql n7 11=false:=by first | assumption | exact bC ho (by omega)
 have g11:=k_ ho e11;have e12:o.cmp .eql n7 12=false:=by first | assumption | exact bC ho (by omega)
 have g12:=k_ ho e12;obtain ⟨n11,l4,ha,hl9,e13⟩:∃a b,(0:Int)=a/\st++[(.agg [.int .i64 1,.int .i64 n8,.str ⟨#[]⟩,.lst []])]=b/\o.call 189 [.ptr (1,0) 0,.prow (1,1) (192,3) n2 0,.agg [Ai n7,Ai n8,As s2,Ai n9]] [some (Ob (1,1) (1,2)),Op l3,Os st]=some ⟨Ai a,[some (Ob (1,1) (0,0)),Op l3,none],[Os b]⟩:=⟨_,_,rfl,rfl,Np ho l3 st hst n2 n7 n8 s2 n9 hop⟩
 rcases cE ho n11 0 with ⟨e14,g14⟩|⟨e14,g14⟩
 ·rw[hl9];exact (ho.au (by cbv;repeat (simp only[e1,e2,e3,e4,e5,e6,e7,e8,e9,e10,e11,e12,e13,e14];try cbv)):o.call 100 [.agg [Al c_0,Al c_1],.ptr (1,0) 0] [some (Ob (1,1) (1,2)),Op fs,Os st]=some ⟨.tup [.agg [Ai 0,Ai 0,As ⟨#[]⟩,.emp],Ai 7],[some (Ob (1,1) (0,0)),Op l3,none],[Os l4]⟩)
 ·exact absurd ha.symm g14
theorem Ii (hop:n7=2):o.call 100 [.agg [Al c_0,Al c_1],.ptr (1,0) 0] [some (Ob (1,1) (1,2)),Op fs,Os st]=some ⟨.tup [.agg [Ai 0,Ai 0,As ⟨#[]⟩,.emp],Ai 7],[some (Ob (1,1) (0,0)),Op L4,none],[Os (st++[(.agg [.int .i64 2,.int .i64 0,.str s2,.lst []])])]⟩:=by
 have hb:=hst.1;obtain ⟨n1,e1,g1⟩:=ay ho fs;obtain ⟨n2,e2⟩:=kx (o.ar .sub .i64 n1 1);try have g2:n2=n1-1:=e2.symm.trans (dB ho (by omega) (by omega))
 obtain rfl:n2=k:=by omega
 have hlk:n2.toNat<fs.length:=(aq.1 hf).1;have e3:=ak ho hk0 hf;have e4:=ak ho h3 hc;have e5:=ak ho h4 hi;obtain ⟨n10,e6⟩:=kx (o.ar .add .i64 n4 1);try have g6:n10=n4+1:=e6.symm.trans (ck ho (by omega) (by omega))
 obtain ⟨l3,rfl,e7⟩:∃z,z=L4/\o.set fs n2 (.agg [.int .i64 n3,.int .i64 n10,.lst l1])=z:=⟨_,rfl,by rw[ho.set,hL4,show n10=p1 by omega]⟩
 have hg4:l3[n2.toNat]? =some (.agg [.int .i64 n3,.int .i64 p1,.lst l1]):=by rw[hL4];exact bR hlk
 have hlen4:l3.length=fs.length:=by rw[hL4,List.length_set]
 have e8:o.cmp .eql n7 8=false:=by first | assumption | exact bC ho (by omega)
 have g8:=k_ ho e8;have e9:o.cmp .eql n7 9=false:=by first | assumption | exact bC ho (by omega)
 have g9:=k_ ho e9;have e10:o.cmp .eql n7 10=false:=by first | assumption | exact bC ho (by omega)
 have g10:=k_ ho e10;have e11:o.cmp .eql n7 11=false:=by first | assumption | exact bC ho (by omega)
 have g11:=k_ ho e11;have e12:o.cmp .eql n7 12=false:=by first | assumption | exact bC ho (by omega)
 have g12:=k_ ho e12;obtain ⟨n11,l4,ha,hl9,e13⟩:∃a b,(0:Int)=a/\st++[(.agg [.int .i64 2,.int .i64 0,.str s2,.lst []])]=b/\o.call 189 [.ptr (1,0) 0,.prow (1,1) (192,3) n2 0,.agg [Ai n7,Ai n8,As s2,Ai n9]] [some (Ob (1,1) (1,2)),Op l3,Os st]=some ⟨Ai a,[some (Ob (1,1) (0,0)),Op l3,none],[Os b]⟩:=⟨_,_,rfl,rfl,Nq ho l3 st hst n2 n7 n8 s2 n9 hop⟩
 rcases cE ho n11 0 with ⟨e14,g14⟩|⟨e14,g14⟩
 ·rw[hl9];exact (ho.au (by cbv;repeat (simp only[e1,e2,e3,e4,e5,e6,e7,e8,e9,e10,e11,e12,e13,e14];try cbv)):o.call 100 [.agg [Al c_0,Al c_1],.ptr (1,0) 0] [some (Ob (1,1) (1,2)),Op fs,Os st]=some ⟨.tup [.agg [Ai 0,Ai 0,As ⟨#[]⟩,.emp],Ai 7],[some (Ob (1,1) (0,0)),Op l3,none],[Os l4]⟩)
 ·exact absurd ha.symm g14
theorem Ij (hop:n7=3) (h8:0<=n8) (t_0 t_1:Int) (t_2:ByteArray) (t_3:List D) (hx:l1[n8.toNat]? =some (.agg [.int .i64 t_0,.int .i64 t_1,.str t_2,.lst t_3])):o.call 100 [.agg [Al c_0,Al c_1],.ptr (1,0) 0] [some (Ob (1,1) (1,2)),Op fs,Os st]=some (if bN (.agg [.int .i64 t_0,.int .i64 t_1,.str t_2,.lst t_3]) lf=true then ⟨.tup [.agg [Ai 0,Ai 0,As ⟨#[]⟩,.emp],Ai 1],[some (Ob (1,1) (1,2)),Op L4,Os st],[]⟩else ⟨.tup [.agg [Ai 0,Ai 0,As ⟨#[]⟩,.emp],Ai 7],[some (Ob (1,1) (0,0)),Op L4,none],[Os (st++[(.agg [.int .i64 t_0,.int .i64 t_1,.str t_2,.lst t_3])])]⟩):=by
 have hb:=hst.1;obtain ⟨n1,e1,g1⟩:=ay ho fs;obtain ⟨n2,e2⟩:=kx (o.ar .sub .i64 n1 1);try have g2:n2=n1-1:=e2.symm.trans (dB ho (by omega) (by omega))
 obtain rfl:n2=k:=by omega
 have hlk:n2.toNat<fs.length:=(aq.1 hf).1;have e3:=ak ho hk0 hf;have e4:=ak ho h3 hc;have e5:=ak ho h4 hi;obtain ⟨n10,e6⟩:=kx (o.ar .add .i64 n4 1);try have g6:n10=n4+1:=e6.symm.trans (ck ho (by omega) (by omega))
 obtain ⟨l3,rfl,e7⟩:∃z,z=L4/\o.set fs n2 (.agg [.int .i64 n3,.int .i64 n10,.lst l1])=z:=⟨_,rfl,by rw[ho.set,hL4,show n10=p1 by omega]⟩
 have hg4:l3[n2.toNat]? =some (.agg [.int .i64 n3,.int .i64 p1,.lst l1]):=by rw[hL4];exact bR hlk
 have hlen4:l3.length=fs.length:=by rw[hL4,List.length_set]
 have e8:o.cmp .eql n7 8=false:=by first | assumption | exact bC ho (by omega)
 have g8:=k_ ho e8;have e9:o.cmp .eql n7 9=false:=by first | assumption | exact bC ho (by omega)
 have g9:=k_ ho e9;have e10:o.cmp .eql n7 10=false:=by first | assumption | exact bC ho (by omega)
 have g10:=k_ ho e10;have e11:o.cmp .eql n7 11=false:=by first | assumption | exact bC ho (by omega)
 have g11:=k_ ho e11;have e12:o.cmp .eql n7 12=false:=by first | assumption | exact bC ho (by omega)
 have g12:=k_ ho e12;have hv:=Nr ho l3 st hst n2 n7 n8 s2 n9 hop hk0 n3 p1 l1 hg4 h8 t_0 t_1 t_2 t_3 hx (hSl _ (List.mem_of_getElem? hx));cases hz:bN (.agg [.int .i64 t_0,.int .i64 t_1,.str t_2,.lst t_3]) lf
 ·obtain ⟨n11,l4,ha,hl9,e13⟩:∃a b,(0:Int)=a/\st++[(.agg [.int .i64 t_0,.int .i64 t_1,.str t_2,.lst t_3])]=b/\o.call 189 [.ptr (1,0) 0,.prow (1,1) (192,3) n2 0,.agg [Ai n7,Ai n8,As s2,Ai n9]] [some (Ob (1,1) (1,2)),Op l3,Os st]=some ⟨Ai a,[some (Ob (1,1) (0,0)),Op l3,none],[Os b]⟩:=⟨_,_,rfl,rfl,by rw[hz]at hv;exact hv⟩
  rcases cE ho n11 0 with ⟨e14,g14⟩|⟨e14,g14⟩
  ·rw[if_neg Bool.false_ne_true,hl9];exact (ho.au (by cbv;repeat (simp only[e1,e2,e3,e4,e5,e6,e7,e8,e9,e10,e11,e12,e13,e14];try cbv)):o.call 100 [.agg [Al c_0,Al c_1],.ptr (1,0) 0] [some (Ob (1,1) (1,2)),Op fs,Os st]=some ⟨.tup [.agg [Ai 0,Ai 0,As ⟨#[]⟩,.emp],Ai 7],[some (Ob (1,1) (0,0)),Op l3,none],[Os l4]⟩)
  ·exact absurd ha.symm g14
 ·obtain ⟨n11,ha,e13⟩:∃a,(1:Int)=a/\o.call 189 [.ptr (1,0) 0,.prow (1,1) (192,3) n2 0,.agg [Ai n7,Ai n8,As s2,Ai n9]] [some (Ob (1,1) (1,2)),Op l3,Os st]=some ⟨Ai a,[some (Ob (1,1) (1,2)),Op l3,Os st],[]⟩:=⟨_,rfl,by rw[hz]at hv;exact hv⟩
  rcases cE ho n11 0 with ⟨e14,g14⟩|⟨e14,g14⟩
  ·omega
  ·rw[if_pos rfl,ha];exact (ho.au (by cbv;repeat (simp only[e1,e2,e3,e4,e5,e6,e7,e8,e9,e10,e11,e12,e13,e14];try cbv)):o.call 100 [.agg [Al c_0,Al c_1],.ptr (1,0) 0] [some (Ob (1,1) (1,2)),Op fs,Os st]=some ⟨.tup [.agg [Ai 0,Ai 0,As ⟨#[]⟩,.emp],Ai n11],[some (Ob (1,1) (1,2)),Op l3,Os st],[]⟩)
theorem Ik (hop:n7=4) (h80:0<=n8) (h81:n8<=20) (h82:n8<=st.length):o.call 100 [.agg [Al c_0,Al c_1],.ptr (1,0) 0] [some (Ob (1,1) (1,2)),Op fs,Os st]=some ⟨.tup [.agg [Ai 0,Ai 0,As ⟨#[]⟩,.emp],Ai (if (gJ o 4 (st.drop ((st.length:Int)-n8).toNat)).2=0 then 7 else (gJ o 4 (st.drop ((st.length:Int)-n8).toNat)).2)],[some (Ob (1,1) (0,0)),Op L4,none],[Os (if (gJ o 4 (st.drop ((st.length:Int)-n8).toNat)).2=0 then st.take ((st.length:Int)-n8).toNat++[(gJ o 4 (st.drop ((st.length:Int)-n8).toNat)).1]else st.take ((st.length:Int)-n8).toNat)]⟩:=by
 have hb:=hst.1;refine ho.aC λR Q=> ?_
 obtain ⟨n1,e1,g1⟩:=ay ho fs;obtain ⟨n2,e2,g2⟩:=aO ho n1 1;obtain rfl:n2=k:=by omega
 have hlk:n2.toNat<fs.length:=(aq.1 hf).1;have e3:=ak ho hk0 hf;have e4:=ak ho h3 hc;have e5:=ak ho h4 hi;obtain ⟨n10,e6,g6⟩:=aW ho n4 1;obtain ⟨l3,rfl,e7⟩:∃z,z=L4/\o.set fs n2 (.agg [.int .i64 n3,.int .i64 n10,.lst l1])=z:=⟨_,rfl,by rw[ho.set,hL4,show n10=p1 by omega]⟩
 have hg4:l3[n2.toNat]? =some (.agg [.int .i64 n3,.int .i64 p1,.lst l1]):=by rw[hL4];exact bR hlk
 have hlen4:l3.length=fs.length:=by rw[hL4,List.length_set]
 conv=>lhs;cbv;rw[e1];cbv;rw[e2];cbv;rw[e3];cbv;(try (rw[e3];cbv));rw[e4];cbv;(try (rw[e3];cbv));rw[e5];cbv;(try (rw[e3];cbv));rw[e6];cbv;(try (rw[e3];cbv));rw[e7];cbv
 iterate 5 (conv=>lhs;simp (disch:=omega) only [bC ho];cbv)
 obtain ⟨n11,l4,ha,hl9,e13⟩:∃a b,(gJ o 4 (st.drop ((st.length:Int)-n8).toNat)).2=a/\(if (gJ o 4 (st.drop ((st.length:Int)-n8).toNat)).2=0 then st.take ((st.length:Int)-n8).toNat++[(gJ o 4 (st.drop ((st.length:Int)-n8).toNat)).1]else st.take ((st.length:Int)-n8).toNat)=b/\o.call 189 [.ptr (1,0) 0,.prow (1,1) (192,3) n2 0,.agg [Ai n7,Ai n8,As s2,Ai n9]] [some (Ob (1,1) (1,2)),Op l3,Os st]=some ⟨Ai a,[some (Ob (1,1) (0,0)),Op l3,none],[Os b]⟩:=⟨_,_,rfl,rfl,Ns ho l3 st hst n2 n7 n8 s2 n9 hop h80 h81 h82⟩
 conv=>lhs;rw[e13];cbv
 rcases cE ho n11 0 with ⟨e14,g14⟩|⟨e14,g14⟩<;>(conv=>lhs;rw[e14];cbv)
 ·subst Q;rw[hl9,ha];rw[if_pos g14];try rfl
 ·subst Q;rw[hl9,ha];rw[if_neg g14];try rfl
theorem Il (hop:n7=5) (h80:0<=n8) (h81:n8<=20) (h82:n8<=st.length):o.call 100 [.agg [Al c_0,Al c_1],.ptr (1,0) 0] [some (Ob (1,1) (1,2)),Op fs,Os st]=some ⟨.tup [.agg [Ai 0,Ai 0,As ⟨#[]⟩,.emp],Ai (if (gJ o 5 (st.drop ((st.length:Int)-n8).toNat)).2=0 then 7 else (gJ o 5 (st.drop ((st.length:Int)-n8).toNat)).2)],[some (Ob (1,1) (0,0)),Op L4,none],[Os (if (gJ o 5 (st.drop ((st.length:Int)-n8).toNat)).2=0 then st.take ((st.length:Int)-n8).toNat++[(gJ o 5 (st.drop ((st.length:Int)-n8).toNat)).1]else st.take ((st.length:Int)-n8).toNat)]⟩:=by
 have hb:=hst.1;refine ho.aC λR Q=> ?_
 obtain ⟨n1,e1,g1⟩:=ay ho fs;obtain ⟨n2,e2,g2⟩:=aO ho n1 1;obtain rfl:n2=k:=by omega
 have hlk:n2.toNat<fs.length:=(aq.1 hf).1;have e3:=ak ho hk0 hf;have e4:=ak ho h3 hc;have e5:=ak ho h4 hi;obtain ⟨n10,e6,g6⟩:=aW ho n4 1;obtain ⟨l3,rfl,e7⟩:∃z,z=L4/\o.set fs n2 (.agg [.int .i64 n3,.int .i64 n10,.lst l1])=z:=⟨_,rfl,by rw[ho.set,hL4,show n10=p1 by omega]⟩
 have hg4:l3[n2.toNat]? =some (.agg [.int .i64 n3,.int .i64 p1,.lst l1]):=by rw[hL4];exact bR hlk
 have hlen4:l3.length=fs.length:=by rw[hL4,List.length_set]
 conv=>lhs;cbv;rw[e1];cbv;rw[e2];cbv;rw[e3];cbv;(try (rw[e3];cbv));rw[e4];cbv;(try (rw[e3];cbv));rw[e5];cbv;(try (rw[e3];cbv));rw[e6];cbv;(try (rw[e3];cbv));rw[e7];cbv
 iterate 5 (conv=>lhs;simp (disch:=omega) only [bC ho];cbv)
 obtain ⟨n11,l4,ha,hl9,e13⟩:∃a b,(gJ o 5 (st.drop ((st.length:Int)-n8).toNat)).2=a/\(if (gJ o 5 (st.drop ((st.length:Int)-n8).toNat)).2=0 then st.take ((st.length:Int)-n8).toNat++[(gJ o 5 (st.drop ((st.length:Int)-n8).toNat)).1]else st.take ((st.length:Int)-n8).toNat)=b/\o.call 189 [.ptr (1,0) 0,.prow (1,1) (192,3) n2 0,.agg [Ai n7,Ai n8,As s2,Ai n9]] [some (Ob (1,1) (1,2)),Op l3,Os st]=some ⟨Ai a,[some (Ob (1,1) (0,0)),Op l3,none],[Os b]⟩:=⟨_,_,rfl,rfl,Nt ho l3 st hst n2 n7 n8 s2 n9 hop h80 h81 h82⟩
 conv=>lhs;rw[e13];cbv
 rcases cE ho n11 0 with ⟨e14,g14⟩|⟨e14,g14⟩<;>(conv=>lhs;rw[e14];cbv)
 ·subst Q;rw[hl9,ha];rw[if_pos g14];try rfl
 ·subst Q;rw[hl9,ha];rw[if_neg g14];try rfl
theorem Im (hop:n7=6) (h80:1<=n8) (h81:n8<=20) (h82:n8<=st.length):o.call 100 [.agg [Al c_0,Al c_1],.ptr (1,0) 0] [some (Ob (1,1) (1,2)),Op fs,Os st]=some ⟨.tup [.agg [Ai 0,Ai 0,As ⟨#[]⟩,.emp],Ai (if (gJ o 6 (st.drop ((st.length:Int)-n8).toNat)).2=0 then 7 else (gJ o 6 (st.drop ((st.length:Int)-n8).toNat)).2)],[some (Ob (1,1) (0,0)),Op L4,none],[Os (if (gJ o 6 (st.drop ((st.length:Int)-n8).toNat)).2=0 then st.take ((st.length:Int)-n8).toNat++[(gJ o 6 (st.drop ((st.length:Int)-n8).toNat)).1]else st.take ((st.length:Int)-n8).toNat)]⟩:=by
 have hb:=hst.1;refine ho.aC λR Q=> ?_
 obtain ⟨n1,e1,g1⟩:=ay ho fs;obtain ⟨n2,e2,g2⟩:=aO ho n1 1;obtain rfl:n2=k:=by omega
 have hlk:n2.toNat<fs.length:=(aq.1 hf).1;have e3:=ak ho hk0 hf;have e4:=ak ho h3 hc;have e5:=ak ho h4 hi;obtain ⟨n10,e6,g6⟩:=aW ho n4 1;obtain ⟨l3,rfl,e7⟩:∃z,z=L4/\o.set fs n2 (.agg [.int .i64 n3,.int .i64 n10,.lst l1])=z:=⟨_,rfl,by rw[ho.set,hL4,show n10=p1 by omega]⟩
 have hg4:l3[n2.toNat]? =some (.agg [.int .i64 n3,.int .i64 p1,.lst l1]):=by rw[hL4];exact bR hlk
 have hlen4:l3.length=fs.length:=by rw[hL4,List.length_set]
 conv=>lhs;cbv;rw[e1];cbv;rw[e2];cbv;rw[e3];cbv;(try (rw[e3];cbv));rw[e4];cbv;(try (rw[e3];cbv));rw[e5];cbv;(try (rw[e3];cbv));rw[e6];cbv;(try (rw[e3];cbv));rw[e7];cbv
 iterate 5 (conv=>lhs;simp (disch:=omega) only [bC ho];cbv)
 obtain ⟨n11,l4,ha,hl9,e13⟩:∃a b,(gJ o 6 (st.drop ((st.length:Int)-n8).toNat)).2=a/\(if (gJ o 6 (st.drop ((st.length:Int)-n8).toNat)).2=0 then st.take ((st.length:Int)-n8).toNat++[(gJ o 6 (st.drop ((st.length:Int)-n8).toNat)).1]else st.take ((st.length:Int)-n8).toNat)=b/\o.call 189 [.ptr (1,0) 0,.prow (1,1) (192,3) n2 0,.agg [Ai n7,Ai n8,As s2,Ai n9]] [some (Ob (1,1) (1,2)),Op l3,Os st]=some ⟨Ai a,[some (Ob (1,1) (0,0)),Op l3,none],[Os b]⟩:=⟨_,_,rfl,rfl,Nu ho l3 st hst n2 n7 n8 s2 n9 hop h80 h81 h82⟩
 conv=>lhs;rw[e13];cbv
 rcases cE ho n11 0 with ⟨e14,g14⟩|⟨e14,g14⟩<;>(conv=>lhs;rw[e14];cbv)
 ·subst Q;rw[hl9,ha];rw[if_pos g14];try rfl
 ·subst Q;rw[hl9,ha];rw[if_neg g14];try rfl
theorem Io (hop:n7=7) (h82:2<=(st.length:Int)) (a_0 a_1:Int) (a_2:ByteArray) (a_3:List D) (hA:(st.drop ((st.length:Int)-2).toNat)[0]? =some (.agg [.int .i64 a_0,.int .i64 a_1,.str a_2,.lst a_3])) (b_0 b_1:Int) (b_2:ByteArray) (b_3:List D) (hB:(st.drop ((st.length:Int)-2).toNat)[1]? =some (.agg [.int .i64 b_0,.int .i64 b_1,.str b_2,.lst b_3])):o.call 100 [.agg [Al c_0,Al c_1],.ptr (1,0) 0] [some (Ob (1,1) (1,2)),Op fs,Os st]=some ⟨.tup [.agg [Ai 0,Ai 0,As ⟨#[]⟩,.emp],Ai (if (zP o s2 (.agg [.int .i64 a_0,.int .i64 a_1,.str a_2,.lst a_3]) (.agg [.int .i64 b_0,.int .i64 b_1,.str b_2,.lst b_3])).2=0 then 7 else (zP o s2 (.agg [.int .i64 a_0,.int .i64 a_1,.str a_2,.lst a_3]) (.agg [.int .i64 b_0,.int .i64 b_1,.str b_2,.lst b_3])).2)],[some (Ob (1,1) (0,0)),Op L4,none],[Os (if (zP o s2 (.agg [.int .i64 a_0,.int .i64 a_1,.str a_2,.lst a_3]) (.agg [.int .i64 b_0,.int .i64 b_1,.str b_2,.lst b_3])).2=0 then st.take ((st.length:Int)-2).toNat++[(zP o s2 (.agg [.int .i64 a_0,.int .i64 a_1,.str a_2,.lst a_3]) (.agg [.int .i64 b_0,.int .i64 b_1,.str b_2,.lst b_3])).1]else st.take ((st.length:Int)-2).toNat)]⟩:=by
 have hb:=hst.1;refine ho.aC λR Q=> ?_
 obtain ⟨n1,e1,g1⟩:=ay ho fs;obtain ⟨n2,e2,g2⟩:=aO ho n1 1;obtain rfl:n2=k:=by omega
 have hlk:n2.toNat<fs.length:=(aq.1 hf).1;have e3:=ak ho hk0 hf;have e4:=ak ho h3 hc;have e5:=ak ho h4 hi;obtain ⟨n10,e6,g6⟩:=aW ho n4 1;obtain ⟨l3,rfl,e7⟩:∃z,z=L4/\o.set fs n2 (.agg [.int .i64 n3,.int .i64 n10,.lst l1])=z:=⟨_,rfl,by rw[ho.set,hL4,show n10=p1 by omega]⟩
 have hg4:l3[n2.toNat]? =some (.agg [.int .i64 n3,.int .i64 p1,.lst l1]):=by rw[hL4];exact bR hlk
 have hlen4:l3.length=fs.length:=by rw[hL4,List.length_set]
 conv=>lhs;cbv;rw[e1];cbv;rw[e2];cbv;rw[e3];cbv;(try (rw[e3];cbv));rw[e4];cbv;(try (rw[e3];cbv));rw[e5];cbv;(try (rw[e3];cbv));rw[e6];cbv;(try (rw[e3];cbv));rw[e7];cbv
 iterate 5 (conv=>lhs;simp (disch:=omega) only [bC ho];cbv)
 obtain ⟨n11,l4,ha,hl9,e13⟩:∃a b,(zP o s2 (.agg [.int .i64 a_0,.int .i64 a_1,.str a_2,.lst a_3]) (.agg [.int .i64 b_0,.int .i64 b_1,.str b_2,.lst b_3])).2=a/\(if (zP o s2 (.agg [.int .i64 a_0,.int .i64 a_1,.str a_2,.lst a_3]) (.agg [.int .i64 b_0,.int .i64 b_1,.str b_2,.lst b_3])).2=0 then st.take ((st.length:Int)-2).toNat++[(zP o s2 (.agg [.int .i64 a_0,.int .i64 a_1,.str a_2,.lst a_3]) (.agg [.int .i64 b_0,.int .i64 b_1,.str b_2,.lst b_3])).1]else st.take ((st.length:Int)-2).toNat)=b/\o.call 189 [.ptr (1,0) 0,.prow (1,1) (192,3) n2 0,.agg [Ai n7,Ai n8,As s2,Ai n9]] [some (Ob (1,1) (1,2)),Op l3,Os st]=some ⟨Ai a,[some (Ob (1,1) (0,0)),Op l3,none],[Os b]⟩:=⟨_,_,rfl,rfl,Nv ho l3 st hst n2 n7 n8 s2 n9 hop h82 _ _ _ _ hA _ _ _ _ hB⟩
 conv=>lhs;rw[e13];cbv
 rcases cE ho n11 0 with ⟨e14,g14⟩|⟨e14,g14⟩<;>(conv=>lhs;rw[e14];cbv)
 ·subst Q;rw[hl9,ha];rw[if_pos g14];try rfl
 ·subst Q;rw[hl9,ha];rw[if_neg g14];try rfl
theorem Ip (hop:n7=8) (hC:∀x∈c_0,uE x) (hCb:(c_0.length:Int)<=1048576) (at':Int) (hat:jJ c_0 s2=at') (q0:ByteArray) (m1 m2:Int) (q1:List D) (ha0:0<=at') (hx:c_0[at'.toNat]? =some (.agg [.str q0,.int .i64 m1,.int .i64 m2,.lst q1])) (hm1:n8<=m2) (hm2:m2<=400) (h80:0<=n8) (h82:n8<=st.length) (hf3:∀x∈fs,x.cells.length=3) (hfl:(fs.length:Int)<=40):o.call 100 [.agg [Al c_0,Al c_1],.ptr (1,0) 0] [some (Ob (1,1) (1,2)),Op fs,Os st]=some (if (fs.length:Int)=40 then ⟨.tup [.agg [Ai 0,Ai 0,As ⟨#[]⟩,.emp],Ai 5],[some (Ob (1,1) (1,2)),Op L4,Os st],[]⟩else ⟨.tup [.agg [Ai 0,Ai 0,As ⟨#[]⟩,.emp],Ai 7],[some (Ob (0,0) (0,1)),none,none],[Op (L4++[(.agg [.int .i64 at',.int .i64 0,.lst (dQ m2 (st.drop ((st.length:Int)-n8).toNat))])]),Os (st.take ((st.length:Int)-n8).toNat)]⟩):=by
 have hb:=hst.1;refine ho.aC λR Q=> ?_
 obtain ⟨n1,e1,g1⟩:=ay ho fs;obtain ⟨n2,e2,g2⟩:=aO ho n1 1;obtain rfl:n2=k:=by omega
 have hlk:n2.toNat<fs.length:=(aq.1 hf).1;have e3:=ak ho hk0 hf;have e4:=ak ho h3 hc;have e5:=ak ho h4 hi;obtain ⟨n10,e6,g6⟩:=aW ho n4 1;obtain ⟨l3,rfl,e7⟩:∃z,z=L4/\o.set fs n2 (.agg [.int .i64 n3,.int .i64 n10,.lst l1])=z:=⟨_,rfl,by rw[ho.set,hL4,show n10=p1 by omega]⟩
 have hg4:l3[n2.toNat]? =some (.agg [.int .i64 n3,.int .i64 p1,.lst l1]):=by rw[hL4];exact bR hlk
 have hlen4:l3.length=fs.length:=by rw[hL4,List.length_set]
 obtain ⟨n11,e9,g9⟩:=ay ho l3;conv=>lhs;cbv;rw[e1];cbv;rw[e2];cbv;rw[e3];cbv;(try (rw[e3];cbv));rw[e4];cbv;(try (rw[e3];cbv));rw[e5];cbv;(try (rw[e3];cbv));rw[e6];cbv;(try (rw[e3];cbv));rw[e7];cbv;simp (disch:=omega) only [cw ho];cbv;rw[e9];cbv
 rcases aj ho n11 40 with ⟨e10,g10⟩|⟨e10,g10⟩<;>(conv=>lhs;rw[e10];cbv)
 ·obtain ⟨l4,l5,hl5,hl6,e11⟩:∃a b,a=st.drop ((st.length:Int)-n8).toNat/\b=st.take ((st.length:Int)-n8).toNat/\o.call 186 [.ptr (1,0) 0,Ai n8] [some (Ob (1,1) (1,2)),Op l3,Os st]=some ⟨.arr (0,0) (31,4) none false,[some (Ob (1,1) (0,1)),Op l3,none],[Os a,Os b]⟩:=⟨_,_,rfl,rfl,Bu ho l3 st n8 hst (by omega) (by omega) _ rfl⟩
  have hs5:stk o l4:=by rw[hl5];exact iR hst
  conv=>lhs;rw[e11];cbv
  have e12:o.fits 3 40 l3=true:=by exact cn ho (by omega) (by decide) (λz hz=>by
   rw[hL4]at hz;rcases List.mem_or_eq_of_mem_set hz with h | h
   ·exact hf3 z h
   ·rw[h];rfl)
  obtain ⟨n12,hn12,e13⟩:∃n12,n12=at'/\o.call 85 [.agg [Al c_0,Al c_1],As s2] []=Ar (Ai n12):=⟨_,rfl,(uY ho c_0 c_1 s2 hC hCb).trans (by rw[hat])⟩
  have hla:(l4.length:Int)<=m2:=by rw[hl5,List.length_drop];omega
  obtain ⟨n13,n14,l6,⟨hw1,hw2,hw3⟩,e14⟩:∃a b c,(a=at'/\b=0/\c=dQ m2 l4)/\o.call 187 [.agg [Al c_0,Al c_1],Ai n12,Al l4] []=Ar (.agg [Ai a,Ai b,Al c]):=⟨_,_,_,⟨rfl,rfl,rfl⟩,by rw[hn12];exact DI ho c_0 c_1 at' l4 q0 m1 m2 q1 ha0 hx hla hm2 hs5.2⟩
  obtain ⟨l7,happ,e15⟩:∃z,z=l3++[(.agg [.int .i64 at',.int .i64 0,.lst (dQ m2 l4)])]/\o.app l3 [.agg [.int .i64 n13,.int .i64 n14,.lst l6]]=z:=⟨_,rfl,(ho.app _ _).trans (by rw[hw1,hw2,hw3])⟩
  conv=>lhs;rw[e12];cbv;rw[e13];cbv;rw[e14];cbv;rw[e15];cbv
  have e16:o.fits 3 40 l7=true:=cn ho (by rw[happ,List.length_append];simp only[List.length_cons,List.length_nil];omega) (by decide) (λz hz=>by
   rw[happ]at hz;rcases List.mem_append.1 hz with h | h
   ·rw[hL4]at h;rcases List.mem_or_eq_of_mem_set h with h | h
    ·exact hf3 z h
    ·rw[h];rfl
   ·rw[List.mem_singleton.1 h];rfl)
  conv=>lhs;rw[e16];cbv
  subst Q;rw[if_neg (by omega),<-hl5,<-hl6,<-happ];try rfl
 ·subst Q;rw[if_pos (by omega)];try rfl
theorem Iq (hop:n7=9) (h1:1<=(st.length:Int)) (t_0 t_1:Int) (t_2:ByteArray) (t_3:List D) (ht:st[((st.length:Int)-1).toNat]? =some (.agg [.int .i64 t_0,.int .i64 t_1,.str t_2,.lst t_3])) (sl:Int) (hS:(l1.length:Int)=sl) (hsl:sl<=400) (hx1:0<=n8) (p_0 p_1:Int) (p_2:ByteArray) (p_3:List D) (hp:c_1[n8.toNat]? =some (.agg [.int .i64 p_0,.int .i64 p_1,.str p_2,.lst p_3])) {m:Nat} (hP:Tm m (.agg [.int .i64 p_0,.int .i64 p_1,.str p_2,.lst p_3])) (hM:dc o sl 10 (.agg [.int .i64 p_0,.int .i64 p_1,.str p_2,.lst p_3])<=300):o.call 100 [.agg [Al c_0,Al c_1],.ptr (1,0) 0] [some (Ob (1,1) (1,2)),Op fs,Os st]=some (if (aD 10 (.agg [.int .i64 p_0,.int .i64 p_1,.str p_2,.lst p_3]) (.agg [.int .i64 t_0,.int .i64 t_1,.str t_2,.lst t_3]) l1).1=true then ⟨.tup [.agg [Ai 0,Ai 0,As ⟨#[]⟩,.emp],Ai 7],[some (Ob (1,1) (0,0)),Op (fs.set k.toNat (.agg [.int .i64 n3,.int .i64 p1,.lst (aD 10 (.agg [.int .i64 p_0,.int .i64 p_1,.str p_2,.lst p_3]) (.agg [.int .i64 t_0,.int .i64 t_1,.str t_2,.lst t_3]) l1).2])),none],[Os (st.take ((st.length:Int)-1).toNat)]⟩else ⟨.tup [.agg [Ai 0,Ai 0,As ⟨#[]⟩,.emp],Ai 7],[some (Ob (1,1) (1,2)),Op (fs.set k.toNat (.agg [.int .i64 n3,.int .i64 n9,.lst l1])),Os st],[]⟩):=by
 have hb:=hst.1;refine ho.aC λR Q=> ?_
 obtain ⟨n1,e1,g1⟩:=ay ho fs;obtain ⟨n2,e2,g2⟩:=aO ho n1 1;obtain rfl:n2=k:=by omega
 have hlk:n2.toNat<fs.length:=(aq.1 hf).1;have e3:=ak ho hk0 hf;have e4:=ak ho h3 hc;have e5:=ak ho h4 hi;obtain ⟨n10,e6,g6⟩:=aW ho n4 1;obtain ⟨l3,rfl,e7⟩:∃z,z=L4/\o.set fs n2 (.agg [.int .i64 n3,.int .i64 n10,.lst l1])=z:=⟨_,rfl,by rw[ho.set,hL4,show n10=p1 by omega]⟩
 have hg4:l3[n2.toNat]? =some (.agg [.int .i64 n3,.int .i64 p1,.lst l1]):=by rw[hL4];exact bR hlk
 have hlen4:l3.length=fs.length:=by rw[hL4,List.length_set]
 conv=>lhs;cbv;rw[e1];cbv;rw[e2];cbv;rw[e3];cbv;(try (rw[e3];cbv));rw[e4];cbv;(try (rw[e3];cbv));rw[e5];cbv;(try (rw[e3];cbv));rw[e6];cbv;(try (rw[e3];cbv));rw[e7];cbv
 iterate 2 (conv=>lhs;simp (disch:=omega) only [bC ho,cw ho];cbv)
 obtain ⟨n11,n12,l4,⟨hq1,hq2,hq3⟩,e10⟩:∃a b c,(a=n3/\b=p1/\c=l1)/\o.dD l3 n2=some (.agg [.int .i64 a,.int .i64 b,.lst c]):=⟨_,_,_,⟨rfl,rfl,rfl⟩,ak ho hk0 hg4⟩
 have e11:o.fits 4 56 l4=true:=by rw[hq3];exact cn ho (by omega) (by decide) (λz hz=>Nh (hSl z hz))
 obtain ⟨n13,n14,s3,l5,⟨hu1,hu2,hu3,hu4⟩,e12⟩:∃a b c d,(a=p_0/\b=p_1/\c=p_2/\d=p_3)/\o.dD c_1 n8=some (.agg [.int .i64 a,.int .i64 b,.str c,.lst d]):=⟨_,_,_,_,⟨rfl,rfl,rfl,rfl⟩,ak ho hx1 hp⟩
 obtain ⟨n15,e13,g13⟩:=ay ho st;obtain ⟨n16,e14,g14⟩:=aO ho n15 1;obtain ⟨n17,n18,s4,l6,⟨hv1,hv2,hv3,hv4⟩,e15⟩:∃a b c d,(a=t_0/\b=t_1/\c=t_2/\d=t_3)/\o.dD st n16=some (.agg [.int .i64 a,.int .i64 b,.str c,.lst d]):=⟨_,_,_,_,⟨rfl,rfl,rfl,rfl⟩,ak ho (by omega) (by rw[show n16=(st.length:Int)-1 by omega];exact ht)⟩
 conv=>lhs;rw[e10];cbv;rw[e11];cbv;rw[e12];cbv;rw[e13];cbv;rw[e14];cbv;rw[e15];cbv;(try (rw[e15];cbv))
 have hRT:Rt o 8 (.agg [.int .i64 t_0,.int .i64 t_1,.str t_2,.lst t_3]):=hst.2 _ (List.mem_of_getElem? ht);have hch:=match_ ho sl 10 _ _ _ _ _ hP hM _ _ _ _ hRT l1 hS hSl;obtain ⟨l7,hl7,hch⟩:∃z,z=(aD 10 (.agg [.int .i64 p_0,.int .i64 p_1,.str p_2,.lst p_3]) (.agg [.int .i64 t_0,.int .i64 t_1,.str t_2,.lst t_3]) l1).2/\o.call 188 [At n13 n14 s3 l5,At n17 n18 s4 l6,.arr (1,0) (31,4) none false] [Os l4]=some ⟨Ab (aD 10 (.agg [.int .i64 p_0,.int .i64 p_1,.str p_2,.lst p_3]) (.agg [.int .i64 t_0,.int .i64 t_1,.str t_2,.lst t_3]) l1).1,[Os z],[]⟩:=⟨_,rfl,by rw[hv1,hv2,hv3,hv4,hu1,hu2,hu3,hu4,hq3];exact hch⟩
 cases hb2:(aD 10 (.agg [.int .i64 p_0,.int .i64 p_1,.str p_2,.lst p_3]) (.agg [.int .i64 t_0,.int .i64 t_1,.str t_2,.lst t_3]) l1).1
 ·have e16:o.call 188 [At n13 n14 s3 l5,At n17 n18 s4 l6,.arr (1,0) (31,4) none false] [Os l4]=some ⟨Ab false,[Os l7],[]⟩:=by rw[hb2]at hch;exact hch
  obtain ⟨l8,hset,e17⟩:∃z,z=fs.set n2.toNat (.agg [.int .i64 n3,.int .i64 n9,.lst l1])/\o.set l3 n2 (.agg [.int .i64 n11,.int .i64 n9,.lst l4])=z:=⟨_,rfl,by rw[ho.set,hL4,List.set_set,hq1,hq3]⟩
  conv=>lhs;rw[e16];cbv;(try (rw[e10];cbv));rw[e17];cbv
  subst Q;try rw[hb2]
  rw[if_neg Bool.false_ne_true,<-hset];try rfl
 ·have e16:o.call 188 [At n13 n14 s3 l5,At n17 n18 s4 l6,.arr (1,0) (31,4) none false] [Os l4]=some ⟨Ab true,[Os l7],[]⟩:=by rw[hb2]at hch;exact hch
  obtain ⟨l8,hset,e17⟩:∃z,z=fs.set n2.toNat (.agg [.int .i64 n3,.int .i64 p1,.lst l7])/\o.set l3 n2 (.agg [.int .i64 n11,.int .i64 n12,.lst l7])=z:=⟨_,rfl,by rw[ho.set,hL4,List.set_set,hq1,hq2]⟩
  obtain ⟨l9,l10,hl5,hl6,e18⟩:∃a b,a=st.drop ((st.length:Int)-1).toNat/\b=st.take ((st.length:Int)-1).toNat/\o.call 186 [.ptr (1,0) 0,Ai 1] [some (Ob (1,1) (1,2)),Op l8,Os st]=some ⟨.arr (0,0) (31,4) none false,[some (Ob (1,1) (0,1)),Op l8,none],[Os a,Os b]⟩:=⟨_,_,rfl,rfl,Bu ho l8 st 1 hst (by omega) (by omega) _ rfl⟩
  have hs5:stk o l9:=by rw[hl5];exact iR hst
  conv=>lhs;rw[e16];cbv;(try (rw[e10];cbv));rw[e17];cbv;rw[e18];cbv
  subst Q;try rw[hb2]
  rw[if_pos rfl,<-hl7,<-hset,<-hl6];try rfl
theorem EP (hop:n7=10):o.call 100 [.agg [Al c_0,Al c_1],.ptr (1,0) 0] [some (Ob (1,1) (1,2)),Op fs,Os st]=some ⟨.tup [.agg [Ai 0,Ai 0,As ⟨#[]⟩,.emp],Ai 7],[some (Ob (1,1) (1,2)),Op (fs.set k.toNat (.agg [.int .i64 n3,.int .i64 n9,.lst l1])),Os st],[]⟩:=by
 have hb:=hst.1;refine ho.aC λR Q=> ?_
 obtain ⟨n1,e1,g1⟩:=ay ho fs;obtain ⟨n2,e2,g2⟩:=aO ho n1 1;obtain rfl:n2=k:=by omega
 have hlk:n2.toNat<fs.length:=(aq.1 hf).1;have e3:=ak ho hk0 hf;have e4:=ak ho h3 hc;have e5:=ak ho h4 hi;obtain ⟨n10,e6,g6⟩:=aW ho n4 1;obtain ⟨l3,rfl,e7⟩:∃z,z=L4/\o.set fs n2 (.agg [.int .i64 n3,.int .i64 n10,.lst l1])=z:=⟨_,rfl,by rw[ho.set,hL4,show n10=p1 by omega]⟩
 have hg4:l3[n2.toNat]? =some (.agg [.int .i64 n3,.int .i64 p1,.lst l1]):=by rw[hL4];exact bR hlk
 have hlen4:l3.length=fs.length:=by rw[hL4,List.length_set]
 conv=>lhs;cbv;rw[e1];cbv;rw[e2];cbv;rw[e3];cbv;(try (rw[e3];cbv));rw[e4];cbv;(try (rw[e3];cbv));rw[e5];cbv;(try (rw[e3];cbv));rw[e6];cbv;(try (rw[e3];cbv));rw[e7];cbv
 iterate 3 (conv=>lhs;simp (disch:=omega) only [bC ho,cw ho];cbv)
 obtain ⟨n11,n12,l4,⟨hq1,hq2,hq3⟩,e11⟩:∃a b c,(a=n3/\b=p1/\c=l1)/\o.dD l3 n2=some (.agg [.int .i64 a,.int .i64 b,.lst c]):=⟨_,_,_,⟨rfl,rfl,rfl⟩,ak ho hk0 hg4⟩
 obtain ⟨l5,hset,e12⟩:∃z,z=fs.set n2.toNat (.agg [.int .i64 n3,.int .i64 n9,.lst l1])/\o.set l3 n2 (.agg [.int .i64 n11,.int .i64 n9,.lst l4])=z:=⟨_,rfl,by rw[ho.set,hL4,List.set_set,hq1,hq3]⟩
 conv=>lhs;rw[e11];cbv;rw[e12];cbv
 subst Q;rw[<-hset];try rfl
theorem EQ (hop:n7=11):o.call 100 [.agg [Al c_0,Al c_1],.ptr (1,0) 0] [some (Ob (1,1) (1,2)),Op fs,Os st]=some ⟨.tup [.agg [Ai 0,Ai 0,As ⟨#[]⟩,.emp],Ai 2],[some (Ob (1,1) (1,2)),Op L4,Os st],[]⟩:=by
 have hb:=hst.1;refine ho.aC λR Q=> ?_
 obtain ⟨n1,e1,g1⟩:=ay ho fs;obtain ⟨n2,e2,g2⟩:=aO ho n1 1;obtain rfl:n2=k:=by omega
 have hlk:n2.toNat<fs.length:=(aq.1 hf).1;have e3:=ak ho hk0 hf;have e4:=ak ho h3 hc;have e5:=ak ho h4 hi;obtain ⟨n10,e6,g6⟩:=aW ho n4 1;obtain ⟨l3,rfl,e7⟩:∃z,z=L4/\o.set fs n2 (.agg [.int .i64 n3,.int .i64 n10,.lst l1])=z:=⟨_,rfl,by rw[ho.set,hL4,show n10=p1 by omega]⟩
 have hg4:l3[n2.toNat]? =some (.agg [.int .i64 n3,.int .i64 p1,.lst l1]):=by rw[hL4];exact bR hlk
 have hlen4:l3.length=fs.length:=by rw[hL4,List.length_set]
 conv=>lhs;cbv;rw[e1];cbv;rw[e2];cbv;rw[e3];cbv;(try (rw[e3];cbv));rw[e4];cbv;(try (rw[e3];cbv));rw[e5];cbv;(try (rw[e3];cbv));rw[e6];cbv;(try (rw[e3];cbv));rw[e7];cbv
 iterate 4 (conv=>lhs;simp (disch:=omega) only [bC ho,cw ho];cbv)
 subst Q;rfl
theorem ER (hop:n7=12) (h1:1<=(st.length:Int)) (t_0 t_1:Int) (t_2:ByteArray) (t_3:List D) (ht:st[((st.length:Int)-1).toNat]? =some (.agg [.int .i64 t_0,.int .i64 t_1,.str t_2,.lst t_3])):o.call 100 [.agg [.d (.lst c_0),.d (.lst c_1)],.ptr (1,0) 0] [some (.box [.arr (1,1) (192,3) none false,.arr (1,2) (31,4) none false]),some (.rows (192,3) fs),some (.rows (31,4) st)]=some (if k=0 then ⟨.tup [.agg [.d (.int .i64 t_0),.d (.int .i64 t_1),.d (.str t_2),.d (.lst t_3)],.d (.int .i64 0)],[some (.box [.arr (0,0) (192,3) none false,.arr (0,1) (31,4) none false]),none,none],[some (.rows (192,3) (fs.take k.toNat)),some (.rows (31,4) (st.take ((st.length:Int)-1).toNat))]⟩else ⟨.tup [.agg [.d (.int .i64 0),.d (.int .i64 0),.d (.str ⟨#[]⟩),.emp],.d (.int .i64 7)],[some (.box [.arr (0,0) (192,3) none false,.arr (1,2) (31,4) none false]),none,some (.rows (31,4) st)],[some (.rows (192,3) (fs.take k.toNat))]⟩):=by
 have hb:=hst.1;refine ho.aC λR Q=> ?_
 obtain ⟨n1,e1,g1⟩:=ay ho fs;obtain ⟨n2,e2,g2⟩:=aO ho n1 1;obtain rfl:n2=k:=by omega
 have hlk:n2.toNat<fs.length:=(aq.1 hf).1;have e3:=ak ho hk0 hf;have e4:=ak ho h3 hc;have e5:=ak ho h4 hi;obtain ⟨n10,e6,g6⟩:=aW ho n4 1;obtain ⟨l3,rfl,e7⟩:∃z,z=L4/\o.set fs n2 (.agg [.int .i64 n3,.int .i64 n10,.lst l1])=z:=⟨_,rfl,by rw[ho.set,hL4,show n10=p1 by omega]⟩
 have hg4:l3[n2.toNat]? =some (.agg [.int .i64 n3,.int .i64 p1,.lst l1]):=by rw[hL4];exact bR hlk
 have hlen4:l3.length=fs.length:=by rw[hL4,List.length_set]
 conv=>lhs;cbv;rw[e1];cbv;rw[e2];cbv;rw[e3];cbv;(try (rw[e3];cbv));rw[e4];cbv;(try (rw[e3];cbv));rw[e5];cbv;(try (rw[e3];cbv));rw[e6];cbv;(try (rw[e3];cbv));rw[e7];cbv
 iterate 5 (conv=>lhs;simp (disch:=omega) only [bC ho,cw ho];cbv)
 obtain ⟨n11,e13,g13⟩:=ay ho l3;obtain ⟨n12,e14,g14⟩:=aO ho n11 1;obtain ⟨n13,g15,e15⟩:∃v,v=n12-0/\o.minus n12 0=v:=⟨_,rfl,ho.minus _ _⟩
 obtain ⟨l4,hl4,e16⟩:∃z,z=fs.take n2.toNat/\o.sub l3 0 n13=some z:=⟨_,rfl,by rw[iB ho (Int.le_refl _) (by omega) (by omega),show n13=n2 by omega,hL4];exact congrArg some (by rw[show (0:Int).toNat=0 from rfl,List.drop_zero,List.take_set_of_le (Nat.le_refl _)])⟩
 have hlen5:(l4.length:Int)=n2:=by rw[hl4,List.length_take];omega
 obtain ⟨n14,e18,g18⟩:=ay ho l4;conv=>lhs;rw[e13];cbv;rw[e14];cbv;rw[e15];cbv;rw[e16];cbv;(try (rw[e15];cbv));rw[ho.isZero];cbv;(try (rw[e16];cbv));rw[e18];cbv;(try (rw[e15];cbv))
 rcases aj ho n14 0 with ⟨e19,g19⟩|⟨e19,g19⟩<;>(conv=>lhs;rw[e19];cbv)
 ·subst Q;rw[if_neg (by omega),<-hl4];try rfl
 ·obtain ⟨l5,l6,hl5,hl6,e20⟩:∃a b,a=st.drop ((st.length:Int)-1).toNat/\b=st.take ((st.length:Int)-1).toNat/\o.call 186 [.ptr (1,0) 0,.d (.int .i64 1)] [some (.box [.arr (1,1) (192,3) none false,.arr (1,2) (31,4) none false]),some (.rows (192,3) l4),some (.rows (31,4) st)]=some ⟨.arr (0,0) (31,4) none false,[some (.box [.arr (1,1) (192,3) none false,.arr (0,1) (31,4) none false]),some (.rows (192,3) l4),none],[some (.rows (31,4) a),some (.rows (31,4) b)]⟩:=⟨_,_,rfl,rfl,Bu ho l4 st 1 hst (by omega) (by omega) _ rfl⟩
  have hs5:stk o l5:=by rw[hl5];exact iR hst
  obtain ⟨n15,n16,s3,l7,⟨hv1,hv2,hv3,hv4⟩,e21⟩:∃a b c d,(a=t_0/\b=t_1/\c=t_2/\d=t_3)/\o.dD l5 0=some (.agg [.int .i64 a,.int .i64 b,.str c,.lst d]):=⟨_,_,_,_,⟨rfl,rfl,rfl,rfl⟩,ak ho (Int.le_refl _) (by rw[hl5,show (0:Int).toNat=0 from rfl,List.getElem?_drop,Nat.add_zero];exact ht)⟩
  conv=>lhs;rw[e20];cbv;(try (rw[e15];cbv));rw[e21];cbv;(try (rw[e15];cbv));(try (rw[e21];cbv))
  subst Q;rw[if_pos (by omega),<-hl4,<-hl6,<-hv1,<-hv2,<-hv3,<-hv4];try rfl
end
end
end T2
