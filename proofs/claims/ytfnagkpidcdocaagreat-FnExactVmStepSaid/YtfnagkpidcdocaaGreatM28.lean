import Derived.Test.YtfnagkpidcdocaaGreatM27
import Derived.Test.YtfnagkpidcdocaaGreatM21
set_option linter.all false
namespace T2
open Go Go.Vi
set_option maxRecDepth 100000
set_option maxHeartbeats 4000000
section
variable {o:aJ} (ho:aR cF bB o)
include ho
theorem H9 (fs st c_0 c_1:List D) (i x_0 x_1:Int) (x_2:ByteArray) (x_3:Int) (hst:stk o st) (h1:1<=(st.length:Int)) (n3 n4:Int) (s1:ByteArray) (l1:List D) (ht:st[((st.length:Int)-1).toNat]? =some (.agg [.int .i64 n3,.int .i64 n4,.str s1,.lst l1])) (h0:0<=i) (n5 n6:Int) (l3:List D) (hf:fs[i.toNat]? =some (.agg [.int .i64 n5,.int .i64 n6,.own (31,4) l3])) (sl:Int) (hS:(l3.length:Int)=sl) (hsl:sl<=400) (hSl:∀x∈l3,Sl o x) (hx1:0<=x_1) (n7 n8:Int) (s2:ByteArray) (l6:List D) (hp:c_1[x_1.toNat]? =some (.agg [.int .i64 n7,.int .i64 n8,.str s2,.lst l6])) {m:Nat} (hP:Tm m (.agg [.int .i64 n7,.int .i64 n8,.str s2,.lst l6])) (hM:dc o sl 10 (.agg [.int .i64 n7,.int .i64 n8,.str s2,.lst l6])<=300):o.call 200 [.ptr (1,0) 0,.sp [.lst c_0,.lst c_1] 0,.prow (1,1) (192,3) i 0,.agg [Ai x_0,Ai x_1,As x_2,Ai x_3]] [some (Ob (1,1) (1,2)),Oo fs,Os st]=some (if (aD 10 (.agg [.int .i64 n7,.int .i64 n8,.str s2,.lst l6]) (.agg [.int .i64 n3,.int .i64 n4,.str s1,.lst l1]) l3).1=true then ⟨Ai 7,[some (Ob (1,1) (0,0)),Oo (fs.set i.toNat (.agg [.int .i64 n5,.int .i64 n6,.own (31,4) (aD 10 (.agg [.int .i64 n7,.int .i64 n8,.str s2,.lst l6]) (.agg [.int .i64 n3,.int .i64 n4,.str s1,.lst l1]) l3).2])),none],[Os (st.take ((st.length:Int)-1).toNat)]⟩else ⟨Ai 7,[some (Ob (1,1) (1,2)),Oo (fs.set i.toNat (.agg [.int .i64 n5,.int .i64 x_3,.own (31,4) l3])),Os st],[]⟩):=by
 have hb:=hst.1;have hlf:i.toNat<fs.length:=(aq.1 hf).1;have hRT:Rt o 8 (.agg [.int .i64 n3,.int .i64 n4,.str s1,.lst l1]):=hst.2 _ (List.mem_of_getElem? ht);have hsb:=lp (o:=o) 10 (.agg [.int .i64 n7,.int .i64 n8,.str s2,.lst l6]) (.agg [.int .i64 n3,.int .i64 n4,.str s1,.lst l1]) l3 hRT hSl;refine ho.aC λR Q=> ?_
 obtain ⟨n1,e1,g1⟩:=ay ho st;obtain ⟨n2,e2,g2⟩:=aO ho n1 1;have e3:o.dD st n2=some (.agg [.int .i64 n3,.int .i64 n4,.str s1,.lst l1]):=ak ho (by omega) (by rw[show n2=(st.length:Int)-1 by omega];exact ht);have e4:=ak ho h0 hf;have e5:o.flat l3=true:=by exact sJ ho hSl
 obtain ⟨l4,hl4,e6⟩:∃l4,l3=l4/\o.call 289 [.arr (1,0) (31,4) none false] [Os l3]=some ⟨.arr (0,0) (31,4) none false,[Os l3],[Os l4]⟩:=⟨_,rfl,HY ho l3 (by omega) (λz hz=>Nh (hSl z hz))⟩
 obtain ⟨l5,hl5,e7⟩:∃z,z=fs/\o.set fs i (.agg [.int .i64 n5,.int .i64 n6,.own (31,4) l3])=z:=⟨_,rfl,by rw[ho.set];exact ef hf⟩
 have e8:=ak ho hx1 hp;conv=>lhs;cbv;rw[e1];cbv;rw[e2];cbv;rw[e3];cbv;(try (rw[e3];cbv));rw[e4];cbv;rw[e5];cbv;rw[e6];cbv;(try (rw[e4];cbv));(try (rw[e5];cbv));rw[e7];cbv;rw[e8];cbv
 have hc:=Kl ho sl 10 _ _ _ _ _ hP hM _ _ _ _ hRT fs i n5 n6 l3 h0 hf hS hSl;obtain ⟨l7,hl7⟩:∃z,fs.set i.toNat (.agg [.int .i64 n5,.int .i64 n6,.own (31,4) (aD 10 (.agg [.int .i64 n7,.int .i64 n8,.str s2,.lst l6]) (.agg [.int .i64 n3,.int .i64 n4,.str s1,.lst l1]) l3).2])=z:=⟨_,rfl⟩
 rw[hl7,<-hl5]at hc;cases hb2:(aD 10 (.agg [.int .i64 n7,.int .i64 n8,.str s2,.lst l6]) (.agg [.int .i64 n3,.int .i64 n4,.str s1,.lst l1]) l3).1
 ·have e9:o.call 293 [.prow (1,0) (192,3) i 0,At n7 n8 s2 l6,At n3 n4 s1 l1] [Oo l5]=some ⟨Ab false,[Oo l7],[]⟩:=by rw[hb2]at hc;exact hc
  have e10:o.flat l4=true:=by exact sJ ho (by rw[<-hl4];exact hSl)
  obtain ⟨n9,n10,l9,⟨hq1,hq2,hq3⟩,e11⟩:∃n9 n10 l9,(n9=n5/\n10=n6/\l9=(aD 10 (.agg [.int .i64 n7,.int .i64 n8,.str s2,.lst l6]) (.agg [.int .i64 n3,.int .i64 n4,.str s1,.lst l1]) l3).2)/\o.dD l7 i=some (.agg [.int .i64 n9,.int .i64 n10,.own (31,4) l9]):=⟨_,_,_,⟨rfl,rfl,rfl⟩,ak ho h0 (by rw[<-hl7];exact bR hlf)⟩
  obtain ⟨l10,hl10,e12⟩:∃z,z=fs.set i.toNat (.agg [.int .i64 n5,.int .i64 n6,.own (31,4) l3])/\o.set l7 i (.agg [.int .i64 n9,.int .i64 n10,.own (31,4) l4])=z:=⟨_,rfl,by rw[ho.set,<-hl7,List.set_set,hq1,hq2,<-hl4]⟩
  obtain ⟨n11,n12,l12,⟨hq4,hq5,hq6⟩,e13⟩:∃n11 n12 l12,(n11=n5/\n12=n6/\l12=l3)/\o.dD l10 i=some (.agg [.int .i64 n11,.int .i64 n12,.own (31,4) l12]):=⟨_,_,_,⟨rfl,rfl,rfl⟩,ak ho h0 (by rw[hl10];exact bR hlf)⟩
  obtain ⟨l13,hl13,e14⟩:∃z,fs.set i.toNat (.agg [.int .i64 n5,.int .i64 x_3,.own (31,4) l3])=z/\o.set l10 i (.agg [.int .i64 n11,.int .i64 x_3,.own (31,4) l12])=z:=⟨_,rfl,by rw[ho.set,hl10,List.set_set,hq4,hq6]⟩
  conv=>lhs;rw[e9];cbv;rw[e10];cbv;rw[e11];cbv;rw[e12];cbv;rw[e13];cbv;rw[e14];cbv
  subst Q;try rw[hb2]
  rw[if_neg Bool.false_ne_true,hl13];try rfl
 ·have e9:o.call 293 [.prow (1,0) (192,3) i 0,At n7 n8 s2 l6,At n3 n4 s1 l1] [Oo l5]=some ⟨Ab true,[Oo l7],[]⟩:=by rw[hb2]at hc;exact hc
  obtain ⟨l8,l9,hl8,hl9,e10⟩:∃l8 l9,l8=st.drop ((st.length:Int)-1).toNat/\l9=st.take ((st.length:Int)-1).toNat/\o.call 197 [.ptr (1,0) 0,Ai 1] [some (Ob (1,1) (1,2)),Oo l7,Os st]=some ⟨.arr (0,0) (31,4) none false,[some (Ob (1,1) (0,1)),Oo l7,none],[Os l8,Os l9]⟩:=⟨_,_,rfl,rfl,H8 ho l7 st 1 hst (by omega) h1 _ rfl⟩
  conv=>lhs;rw[e9];cbv;rw[e10];cbv
  subst Q;try rw[hb2]
  rw[if_pos rfl,hl7,<-hl9];try rfl
end
theorem CF {o:aJ} {x:D} (h:Sl o x):Tm 8 x:=by
 rcases h with rfl | h
 ·exact ⟨0,0,⟨#[]⟩,[],rfl,by decide,by decide,λx hx=>by cases hx⟩
 ·exact iS h
section
variable {o:aJ} (ho:aR cF bB o)
include ho
theorem Nm:Bl o ⟨#[116,114,117,101]⟩=true:=by
 have h:o=_:=ho;rw[h];rfl
theorem Nn:Bl o ⟨#[102,97,108,115,101]⟩=true:=by
 have h:o=_:=ho;rw[h];rfl
theorem Km (b:Bool):Rt o 8 (tB b):=by
 refine ⟨_,_,_,_,rfl,?_,λx hx=>by cases hx⟩;unfold jf;rw[if_neg (by omega),if_pos rfl];cases b
 ·rw[show (if (false:Bool)=true then (⟨#[116,114,117,101]⟩:ByteArray)else ⟨#[102,97,108,115,101]⟩)=⟨#[102,97,108,115,101]⟩from rfl,Nn ho];rfl
 ·rw[show (if (true:Bool)=true then (⟨#[116,114,117,101]⟩:ByteArray)else ⟨#[102,97,108,115,101]⟩)=⟨#[116,114,117,101]⟩from rfl,Nm ho];rfl
theorem yH (n:Int):HW o (yD n):=by
 unfold yD;split
 ·rename_i h;exact ⟨_,_,_,_,rfl,.inl rfl,λ_=>⟨_,_,_,_,rfl,by unfold jf;rw[if_pos rfl,h];rfl,λx hx=>by cases hx⟩⟩
 ·exact xA (.inl rfl)
theorem Ib (s:ByteArray) (a b:Int):HW o (zO o s a b):=by
 unfold zO;split
 ·exact yH ho _
 split
 ·exact yH ho _
 split
 ·exact xA (.inl rfl)
 ·exact yH ho _
theorem yI (s:ByteArray) {A B:D} (hA:Rt o 8 A) (hB:Rt o 8 B):HW o (zP o s A B):=by
 obtain ⟨_,k,n,t,l,_,rfl,_⟩:=gb hA;obtain ⟨_,k',n',t',l',_,rfl,_⟩:=gb hB;rw[jU];split
 ·exact ⟨_,_,_,_,rfl,.inl rfl,λ_=>Km ho _⟩
 split
 ·exact ⟨_,_,_,_,rfl,.inl rfl,λ_=>Km ho _⟩
 split
 ·exact xA (.inl rfl)
 split
 ·exact xA (.inl rfl)
 ·exact Ib ho s n n'
section
variable (fs st c_0 c_1:List D) (hst:stk o st) (k:Int) (hk:k=(fs.length:Int)-1) (hk0:0<=k) (hkb:k<=100) (n3 n4:Int) (l2:List D) (hf:fs[k.toNat]? =some (.agg [.int .i64 n3,.int .i64 n4,.own (31,4) l2])) (hSl:∀x∈l2,Sl o x) (h3:0<=n3) (s1:ByteArray) (n5 n6:Int) (l3:List D) (hc:c_0[n3.toNat]? =some (.agg [.str s1,.int .i64 n5,.int .i64 n6,.lst l3])) (h4:0<=n4) (h4b:n4<=5000) (n7 n8:Int) (s2:ByteArray) (n9:Int) (hi:l3[n4.toNat]? =some (.agg [.int .i64 n7,.int .i64 n8,.str s2,.int .i64 n9])) (p1:Int) (hp1:p1=n4+1) (L4:List D) (hL4:L4=fs.set k.toNat (.agg [.int .i64 n3,.int .i64 p1,.own (31,4) l2]))
include fs st c_0 c_1 hst k hk hk0 hkb n3 n4 l2 hf hSl h3 s1 n5 n6 l3 hc h4 h4b n7 n8 s2 n9 hi p1 hp1 L4 hL4
theorem Lf (hop:n7=1):o.call 104 [.ptr (1,0) 0,.sp [.lst c_0,.lst c_1] 0] [some (Ob (1,1) (1,2)),Oo fs,Os st]=some ⟨Ai 7,[some (Ob (1,1) (0,0)),Oo L4,none],[Os (st++[(.agg [.int .i64 1,.int .i64 n8,.str ⟨#[]⟩,.lst []])])]⟩:=by
 have hb:=hst.1;refine ho.aC λR Q=> ?_
 obtain ⟨n1,e1,g1⟩:=ay ho fs;obtain ⟨n2,e2,g2⟩:=aO ho n1 1;obtain rfl:n2=k:=by omega
 have hlk:n2.toNat<fs.length:=(aq.1 hf).1;have e3:=ak ho hk0 hf;have e4:=ak ho h3 hc;have e5:=ak ho h4 hi;obtain ⟨n10,e6,g6⟩:=aW ho n4 1;obtain ⟨l4,rfl,e7⟩:∃z,z=L4/\o.set fs n2 (.agg [.int .i64 n3,.int .i64 n10,.own (31,4) l2])=z:=⟨_,rfl,by rw[ho.set,hL4,show n10=p1 by omega]⟩
 have hg4:l4[n2.toNat]? =some (.agg [.int .i64 n3,.int .i64 p1,.own (31,4) l2]):=by rw[hL4];exact bR hlk
 obtain ⟨l5,hl9,e9⟩:∃z,st++[(.agg [.int .i64 1,.int .i64 n8,.str ⟨#[]⟩,.lst []])]=z/\o.call 194 [.ptr (1,0) 0,At 1 n8 ⟨#[]⟩ [],Ai 0] [some (Ob (1,1) (1,2)),Oo l4,Os st]=some ⟨Ai 7,[some (Ob (1,1) (0,0)),Oo l4,none],[Os z]⟩:=⟨_,rfl,vh ho l4 st _ _ _ _ 0 hst⟩
 conv=>lhs;cbv;rw[e1];cbv;rw[e2];cbv;rw[e3];cbv;(try (rw[e3];cbv));rw[e4];cbv;(try (rw[e3];cbv));rw[e5];cbv;(try (rw[e3];cbv));rw[e6];cbv;(try (rw[e3];cbv));rw[e7];cbv;simp (disch:=omega) only [cw ho];cbv;rw[e9];cbv
 subst Q;rw[hl9];try rfl
theorem Lg (hop:n7=2):o.call 104 [.ptr (1,0) 0,.sp [.lst c_0,.lst c_1] 0] [some (Ob (1,1) (1,2)),Oo fs,Os st]=some ⟨Ai 7,[some (Ob (1,1) (0,0)),Oo L4,none],[Os (st++[(.agg [.int .i64 2,.int .i64 0,.str s2,.lst []])])]⟩:=by
 have hb:=hst.1;refine ho.aC λR Q=> ?_
 obtain ⟨n1,e1,g1⟩:=ay ho fs;obtain ⟨n2,e2,g2⟩:=aO ho n1 1;obtain rfl:n2=k:=by omega
 have hlk:n2.toNat<fs.length:=(aq.1 hf).1;have e3:=ak ho hk0 hf;have e4:=ak ho h3 hc;have e5:=ak ho h4 hi;obtain ⟨n10,e6,g6⟩:=aW ho n4 1;obtain ⟨l4,rfl,e7⟩:∃z,z=L4/\o.set fs n2 (.agg [.int .i64 n3,.int .i64 n10,.own (31,4) l2])=z:=⟨_,rfl,by rw[ho.set,hL4,show n10=p1 by omega]⟩
 have hg4:l4[n2.toNat]? =some (.agg [.int .i64 n3,.int .i64 p1,.own (31,4) l2]):=by rw[hL4];exact bR hlk
 conv=>lhs;cbv;rw[e1];cbv;rw[e2];cbv;rw[e3];cbv;(try (rw[e3];cbv));rw[e4];cbv;(try (rw[e3];cbv));rw[e5];cbv;(try (rw[e3];cbv));rw[e6];cbv;(try (rw[e3];cbv));rw[e7];cbv
 iterate 2 (conv=>lhs;simp (disch:=omega) only [bC ho,cw ho];cbv)
 obtain ⟨l5,hl9,e10⟩:∃z,st++[(.agg [.int .i64 2,.int .i64 0,.str s2,.lst []])]=z/\o.call 194 [.ptr (1,0) 0,At 2 0 s2 [],Ai 0] [some (Ob (1,1) (1,2)),Oo l4,Os st]=some ⟨Ai 7,[some (Ob (1,1) (0,0)),Oo l4,none],[Os z]⟩:=⟨_,rfl,vh ho l4 st _ _ _ _ 0 hst⟩
 conv=>lhs;rw[e10];cbv
 subst Q;rw[hl9];try rfl
theorem Lh (hop:n7=3) (h8:0<=n8) (n13 n14:Int) (s3:ByteArray) (l7:List D) (hx:l2[n8.toNat]? =some (.agg [.int .i64 n13,.int .i64 n14,.str s3,.lst l7])):o.call 104 [.ptr (1,0) 0,.sp [.lst c_0,.lst c_1] 0] [some (Ob (1,1) (1,2)),Oo fs,Os st]=some (if bN (.agg [.int .i64 n13,.int .i64 n14,.str s3,.lst l7]) lf=true then ⟨Ai 1,[some (Ob (1,1) (1,2)),Oo L4,Os st],[]⟩else ⟨Ai 7,[some (Ob (1,1) (0,0)),Oo L4,none],[Os (st++[(.agg [.int .i64 n13,.int .i64 n14,.str s3,.lst l7])])]⟩):=by
 have hb:=hst.1;refine ho.aC λR Q=> ?_
 obtain ⟨n1,e1,g1⟩:=ay ho fs;obtain ⟨n2,e2,g2⟩:=aO ho n1 1;obtain rfl:n2=k:=by omega
 have hlk:n2.toNat<fs.length:=(aq.1 hf).1;have e3:=ak ho hk0 hf;have e4:=ak ho h3 hc;have e5:=ak ho h4 hi;obtain ⟨n10,e6,g6⟩:=aW ho n4 1;obtain ⟨l4,rfl,e7⟩:∃z,z=L4/\o.set fs n2 (.agg [.int .i64 n3,.int .i64 n10,.own (31,4) l2])=z:=⟨_,rfl,by rw[ho.set,hL4,show n10=p1 by omega]⟩
 have hg4:l4[n2.toNat]? =some (.agg [.int .i64 n3,.int .i64 p1,.own (31,4) l2]):=by rw[hL4];exact bR hlk
 conv=>lhs;cbv;rw[e1];cbv;rw[e2];cbv;rw[e3];cbv;(try (rw[e3];cbv));rw[e4];cbv;(try (rw[e3];cbv));rw[e5];cbv;(try (rw[e3];cbv));rw[e6];cbv;(try (rw[e3];cbv));rw[e7];cbv
 iterate 3 (conv=>lhs;simp (disch:=omega) only [bC ho,cw ho];cbv)
 obtain ⟨n11,n12,l6,⟨hq1,hq2,hq3⟩,e11⟩:∃a b c,(a=n3/\b=p1/\c=l2)/\o.dD l4 n2=some (.agg [.int .i64 a,.int .i64 b,.own (31,4) c]):=⟨_,_,_,⟨rfl,rfl,rfl⟩,ak ho hk0 hg4⟩
 have e12:o.flat l6=true:=by rw[hq3];exact sJ ho hSl
 have e13:o.dD l6 n8=some (.agg [.int .i64 n13,.int .i64 n14,.str s3,.lst l7]):=ak ho h8 (by rw[hq3];exact hx);obtain ⟨l8,hset,e14⟩:∃z,z=l4/\o.set l4 n2 (.agg [.int .i64 n11,.int .i64 n12,.own (31,4) l6])=z:=⟨_,rfl,by rw[ho.set];rw[hq1,hq2,hq3];exact ef hg4⟩
 conv=>lhs;rw[e11];cbv;rw[e12];cbv;rw[e13];cbv;(try (rw[e13];cbv));(try (rw[e11];cbv));(try (rw[e12];cbv));rw[e14];cbv
 have hld:=load_ ho l8 st _ _ _ _ hst (CF (hSl _ (List.mem_of_getElem? hx)));cases hz:bN (.agg [.int .i64 n13,.int .i64 n14,.str s3,.lst l7]) lf
 ·obtain ⟨l9,hl9,e15⟩:∃z,st++[(.agg [.int .i64 n13,.int .i64 n14,.str s3,.lst l7])]=z/\o.call 195 [.ptr (1,0) 0,At n13 n14 s3 l7] [some (Ob (1,1) (1,2)),Oo l8,Os st]=some ⟨Ai 7,[some (Ob (1,1) (0,0)),Oo l8,none],[Os z]⟩:=⟨_,rfl,by rw[hz]at hld;exact hld⟩
  conv=>lhs;rw[e15];cbv
  subst Q;try rw[hz]
  rw[if_neg Bool.false_ne_true,hl9,<-hset];try rfl
 ·have e15:o.call 195 [.ptr (1,0) 0,At n13 n14 s3 l7] [some (Ob (1,1) (1,2)),Oo l8,Os st]=some ⟨Ai 1,[some (Ob (1,1) (1,2)),Oo l8,Os st],[]⟩:=by rw[hz]at hld;exact hld
  conv=>lhs;rw[e15];cbv
  subst Q;try rw[hz]
  rw[if_pos rfl,<-hset];try rfl
theorem Li (hop:n7=4) (h80:0<=n8) (h81:n8<=20) (h82:n8<=st.length):o.call 104 [.ptr (1,0) 0,.sp [.lst c_0,.lst c_1] 0] [some (Ob (1,1) (1,2)),Oo fs,Os st]=some ⟨Ai (if (gJ o 4 (st.drop ((st.length:Int)-n8).toNat)).2=0 then 7 else (gJ o 4 (st.drop ((st.length:Int)-n8).toNat)).2),[some (Ob (1,1) (0,0)),Oo L4,none],[Os (if (gJ o 4 (st.drop ((st.length:Int)-n8).toNat)).2=0 then st.take ((st.length:Int)-n8).toNat++[(gJ o 4 (st.drop ((st.length:Int)-n8).toNat)).1]else st.take ((st.length:Int)-n8).toNat)]⟩:=by
 have hb:=hst.1;refine ho.aC λR Q=> ?_
 obtain ⟨n1,e1,g1⟩:=ay ho fs;obtain ⟨n2,e2,g2⟩:=aO ho n1 1;obtain rfl:n2=k:=by omega
 have hlk:n2.toNat<fs.length:=(aq.1 hf).1;have e3:=ak ho hk0 hf;have e4:=ak ho h3 hc;have e5:=ak ho h4 hi;obtain ⟨n10,e6,g6⟩:=aW ho n4 1;obtain ⟨l4,rfl,e7⟩:∃z,z=L4/\o.set fs n2 (.agg [.int .i64 n3,.int .i64 n10,.own (31,4) l2])=z:=⟨_,rfl,by rw[ho.set,hL4,show n10=p1 by omega]⟩
 have hg4:l4[n2.toNat]? =some (.agg [.int .i64 n3,.int .i64 p1,.own (31,4) l2]):=by rw[hL4];exact bR hlk
 conv=>lhs;cbv;rw[e1];cbv;rw[e2];cbv;rw[e3];cbv;(try (rw[e3];cbv));rw[e4];cbv;(try (rw[e3];cbv));rw[e5];cbv;(try (rw[e3];cbv));rw[e6];cbv;(try (rw[e3];cbv));rw[e7];cbv
 iterate 4 (conv=>lhs;simp (disch:=omega) only [bC ho,cw ho];cbv)
 obtain ⟨n11,l5,ha,hbb,e12⟩:∃a b,(if (gJ o 4 (st.drop ((st.length:Int)-n8).toNat)).2=0 then 7 else (gJ o 4 (st.drop ((st.length:Int)-n8).toNat)).2)=a/\(if (gJ o 4 (st.drop ((st.length:Int)-n8).toNat)).2=0 then st.take ((st.length:Int)-n8).toNat++[(gJ o 4 (st.drop ((st.length:Int)-n8).toNat)).1]else st.take ((st.length:Int)-n8).toNat)=b/\o.call 196 [.ptr (1,0) 0,Ai 4,Ai n8] [some (Ob (1,1) (1,2)),Oo l4,Os st]=some ⟨Ai a,[some (Ob (1,1) (0,0)),Oo l4,none],[Os b]⟩:=⟨_,_,rfl,rfl,Bv ho l4 st 4 n8 hst (by omega) h82 (by omega) (by omega) (by omega)⟩
 conv=>lhs;rw[e12];cbv
 subst Q;rw[ha,hbb];try rfl
theorem Lj (hop:n7=5) (h80:0<=n8) (h81:n8<=20) (h82:n8<=st.length):o.call 104 [.ptr (1,0) 0,.sp [.lst c_0,.lst c_1] 0] [some (Ob (1,1) (1,2)),Oo fs,Os st]=some ⟨Ai (if (gJ o 5 (st.drop ((st.length:Int)-n8).toNat)).2=0 then 7 else (gJ o 5 (st.drop ((st.length:Int)-n8).toNat)).2),[some (Ob (1,1) (0,0)),Oo L4,none],[Os (if (gJ o 5 (st.drop ((st.length:Int)-n8).toNat)).2=0 then st.take ((st.length:Int)-n8).toNat++[(gJ o 5 (st.drop ((st.length:Int)-n8).toNat)).1]else st.take ((st.length:Int)-n8).toNat)]⟩:=by
 have hb:=hst.1;refine ho.aC λR Q=> ?_
 obtain ⟨n1,e1,g1⟩:=ay ho fs;obtain ⟨n2,e2,g2⟩:=aO ho n1 1;obtain rfl:n2=k:=by omega
 have hlk:n2.toNat<fs.length:=(aq.1 hf).1;have e3:=ak ho hk0 hf;have e4:=ak ho h3 hc;have e5:=ak ho h4 hi;obtain ⟨n10,e6,g6⟩:=aW ho n4 1;obtain ⟨l4,rfl,e7⟩:∃z,z=L4/\o.set fs n2 (.agg [.int .i64 n3,.int .i64 n10,.own (31,4) l2])=z:=⟨_,rfl,by rw[ho.set,hL4,show n10=p1 by omega]⟩
 have hg4:l4[n2.toNat]? =some (.agg [.int .i64 n3,.int .i64 p1,.own (31,4) l2]):=by rw[hL4];exact bR hlk
 conv=>lhs;cbv;rw[e1];cbv;rw[e2];cbv;rw[e3];cbv;(try (rw[e3];cbv));rw[e4];cbv;(try (rw[e3];cbv));rw[e5];cbv;(try (rw[e3];cbv));rw[e6];cbv;(try (rw[e3];cbv));rw[e7];cbv
 iterate 5 (conv=>lhs;simp (disch:=omega) only [bC ho,cw ho];cbv)
 obtain ⟨n11,l5,ha,hbb,e13⟩:∃a b,(if (gJ o 5 (st.drop ((st.length:Int)-n8).toNat)).2=0 then 7 else (gJ o 5 (st.drop ((st.length:Int)-n8).toNat)).2)=a/\(if (gJ o 5 (st.drop ((st.length:Int)-n8).toNat)).2=0 then st.take ((st.length:Int)-n8).toNat++[(gJ o 5 (st.drop ((st.length:Int)-n8).toNat)).1]else st.take ((st.length:Int)-n8).toNat)=b/\o.call 196 [.ptr (1,0) 0,Ai 5,Ai n8] [some (Ob (1,1) (1,2)),Oo l4,Os st]=some ⟨Ai a,[some (Ob (1,1) (0,0)),Oo l4,none],[Os b]⟩:=⟨_,_,rfl,rfl,Bv ho l4 st 5 n8 hst (by omega) h82 (by omega) (by omega) (by omega)⟩
 conv=>lhs;rw[e13];cbv
 subst Q;rw[ha,hbb];try rfl
theorem Ll (hop:n7=6) (h80:1<=n8) (h81:n8<=20) (h82:n8<=st.length):o.call 104 [.ptr (1,0) 0,.sp [.lst c_0,.lst c_1] 0] [some (Ob (1,1) (1,2)),Oo fs,Os st]=some ⟨Ai (if (gJ o 6 (st.drop ((st.length:Int)-n8).toNat)).2=0 then 7 else (gJ o 6 (st.drop ((st.length:Int)-n8).toNat)).2),[some (Ob (1,1) (0,0)),Oo L4,none],[Os (if (gJ o 6 (st.drop ((st.length:Int)-n8).toNat)).2=0 then st.take ((st.length:Int)-n8).toNat++[(gJ o 6 (st.drop ((st.length:Int)-n8).toNat)).1]else st.take ((st.length:Int)-n8).toNat)]⟩:=by
 have hb:=hst.1;refine ho.aC λR Q=> ?_
 obtain ⟨n1,e1,g1⟩:=ay ho fs;obtain ⟨n2,e2,g2⟩:=aO ho n1 1;obtain rfl:n2=k:=by omega
 have hlk:n2.toNat<fs.length:=(aq.1 hf).1;have e3:=ak ho hk0 hf;have e4:=ak ho h3 hc;have e5:=ak ho h4 hi;obtain ⟨n10,e6,g6⟩:=aW ho n4 1;obtain ⟨l4,rfl,e7⟩:∃z,z=L4/\o.set fs n2 (.agg [.int .i64 n3,.int .i64 n10,.own (31,4) l2])=z:=⟨_,rfl,by rw[ho.set,hL4,show n10=p1 by omega]⟩
 have hg4:l4[n2.toNat]? =some (.agg [.int .i64 n3,.int .i64 p1,.own (31,4) l2]):=by rw[hL4];exact bR hlk
 conv=>lhs;cbv;rw[e1];cbv;rw[e2];cbv;rw[e3];cbv;(try (rw[e3];cbv));rw[e4];cbv;(try (rw[e3];cbv));rw[e5];cbv;(try (rw[e3];cbv));rw[e6];cbv;(try (rw[e3];cbv));rw[e7];cbv
 iterate 6 (conv=>lhs;simp (disch:=omega) only [bC ho,cw ho];cbv)
 obtain ⟨n11,l5,ha,hbb,e14⟩:∃a b,(if (gJ o 6 (st.drop ((st.length:Int)-n8).toNat)).2=0 then 7 else (gJ o 6 (st.drop ((st.length:Int)-n8).toNat)).2)=a/\(if (gJ o 6 (st.drop ((st.length:Int)-n8).toNat)).2=0 then st.take ((st.length:Int)-n8).toNat++[(gJ o 6 (st.drop ((st.length:Int)-n8).toNat)).1]else st.take ((st.length:Int)-n8).toNat)=b/\o.call 196 [.ptr (1,0) 0,Ai 6,Ai n8] [some (Ob (1,1) (1,2)),Oo l4,Os st]=some ⟨Ai a,[some (Ob (1,1) (0,0)),Oo l4,none],[Os b]⟩:=⟨_,_,rfl,rfl,Bv ho l4 st 6 n8 hst (by omega) h82 (by omega) (by omega) (by omega)⟩
 conv=>lhs;rw[e14];cbv
 subst Q;rw[ha,hbb];try rfl
theorem Lm (hop:n7=7) (h82:2<=(st.length:Int)) (n11 n12:Int) (s3:ByteArray) (l7:List D) (hA:(st.drop ((st.length:Int)-2).toNat)[0]? =some (.agg [.int .i64 n11,.int .i64 n12,.str s3,.lst l7])) (n13 n14:Int) (s4:ByteArray) (l8:List D) (hB:(st.drop ((st.length:Int)-2).toNat)[1]? =some (.agg [.int .i64 n13,.int .i64 n14,.str s4,.lst l8])):o.call 104 [.ptr (1,0) 0,.sp [.lst c_0,.lst c_1] 0] [some (Ob (1,1) (1,2)),Oo fs,Os st]=some ⟨Ai (if (zP o s2 (.agg [.int .i64 n11,.int .i64 n12,.str s3,.lst l7]) (.agg [.int .i64 n13,.int .i64 n14,.str s4,.lst l8])).2=0 then 7 else (zP o s2 (.agg [.int .i64 n11,.int .i64 n12,.str s3,.lst l7]) (.agg [.int .i64 n13,.int .i64 n14,.str s4,.lst l8])).2),[some (Ob (1,1) (0,0)),Oo L4,none],[Os (if (zP o s2 (.agg [.int .i64 n11,.int .i64 n12,.str s3,.lst l7]) (.agg [.int .i64 n13,.int .i64 n14,.str s4,.lst l8])).2=0 then st.take ((st.length:Int)-2).toNat++[(zP o s2 (.agg [.int .i64 n11,.int .i64 n12,.str s3,.lst l7]) (.agg [.int .i64 n13,.int .i64 n14,.str s4,.lst l8])).1]else st.take ((st.length:Int)-2).toNat)]⟩:=by
 have hb:=hst.1;obtain ⟨n1,e1,g1⟩:=ay ho fs;obtain ⟨n2,e2⟩:=kx (o.ar .sub .i64 n1 1);try have g2:n2=n1-1:=e2.symm.trans (dB ho (by omega) (by omega))
 obtain rfl:n2=k:=by omega
 have hlk:n2.toNat<fs.length:=(aq.1 hf).1;have e3:=ak ho hk0 hf;have e4:=ak ho h3 hc;have e5:=ak ho h4 hi;obtain ⟨n10,e6⟩:=kx (o.ar .add .i64 n4 1);try have g6:n10=n4+1:=e6.symm.trans (ck ho (by omega) (by omega))
 obtain ⟨l4,rfl,e7⟩:∃z,z=L4/\o.set fs n2 (.agg [.int .i64 n3,.int .i64 n10,.own (31,4) l2])=z:=⟨_,rfl,by rw[ho.set,hL4,show n10=p1 by omega]⟩
 have hg4:l4[n2.toNat]? =some (.agg [.int .i64 n3,.int .i64 p1,.own (31,4) l2]):=by rw[hL4];exact bR hlk
 have e8:o.cmp .eql n7 1=false:=by first | assumption | exact bC ho (by omega)
 have g8:=k_ ho e8;have e9:o.cmp .eql n7 2=false:=by first | assumption | exact bC ho (by omega)
 have g9:=k_ ho e9;have e10:o.cmp .eql n7 3=false:=by first | assumption | exact bC ho (by omega)
 have g10:=k_ ho e10;have e11:o.cmp .eql n7 4=false:=by first | assumption | exact bC ho (by omega)
 have g11:=k_ ho e11;have e12:o.cmp .eql n7 5=false:=by first | assumption | exact bC ho (by omega)
 have g12:=k_ ho e12;have e13:o.cmp .eql n7 6=false:=by first | assumption | exact bC ho (by omega)
 have g13:=k_ ho e13;have e14:o.cmp .eql n7 7=true:=by first | assumption | exact cw ho (by omega)
 have g14:=Mq ho e14;obtain ⟨l5,l6,hl5,hl6,e15⟩:∃a b,a=st.drop ((st.length:Int)-2).toNat/\b=st.take ((st.length:Int)-2).toNat/\o.call 197 [.ptr (1,0) 0,Ai 2] [some (Ob (1,1) (1,2)),Oo l4,Os st]=some ⟨.arr (0,0) (31,4) none false,[some (Ob (1,1) (0,1)),Oo l4,none],[Os a,Os b]⟩:=⟨_,_,rfl,rfl,H8 ho l4 st 2 hst (by omega) h82 _ rfl⟩
 have hs6:stk o l6:=by rw[hl6];exact kL hst
 have e16:o.dD l5 0=some (.agg [.int .i64 n11,.int .i64 n12,.str s3,.lst l7]):=ak ho (by omega) (by rw[hl5];exact hA);have e17:o.dD l5 1=some (.agg [.int .i64 n13,.int .i64 n14,.str s4,.lst l8]):=ak ho (by omega) (by rw[hl5];exact hB);have hRA:Rt o 8 (.agg [.int .i64 n11,.int .i64 n12,.str s3,.lst l7]):=hst.2 _ (List.mem_of_mem_drop (List.mem_of_getElem? hA));have hRB:Rt o 8 (.agg [.int .i64 n13,.int .i64 n14,.str s4,.lst l8]):=hst.2 _ (List.mem_of_mem_drop (List.mem_of_getElem? hB));obtain ⟨n15,n16,s5,l9,n17,hO,hO2,hO3⟩:=pC (yI ho s2 hRA hRB);have e18:o.call 198 [As s2,At n11 n12 s3 l7,At n13 n14 s4 l8] []=Ar (.tup [At n15 n16 s5 l9,Ai n17]):=(DF ho s2 _ _ _ _ _ _ _ _ hRA hRB).trans (by rw[hO];rfl);by_cases hq:n17=0
 ·obtain ⟨l10,hl9,e19⟩:∃z,l6++[(.agg [.int .i64 n15,.int .i64 n16,.str s5,.lst l9])]=z/\o.call 194 [.ptr (1,0) 0,At n15 n16 s5 l9,Ai n17] [some (Ob (1,1) (1,2)),Oo l4,Os l6]=some ⟨Ai 7,[some (Ob (1,1) (0,0)),Oo l4,none],[Os z]⟩:=⟨_,rfl,(vh ho l4 l6 _ _ _ _ n17 hs6).trans (by rw[if_pos hq])⟩
  rw[hO];show _=some (bW.mk (Ai (if n17=0 then 7 else n17)) _ [Os (if n17=0 then _ else _)]);first | rw[if_pos hq,if_pos hq,<-hl6] | rw[if_neg hq,if_neg hq,<-hl6]
  first | (show _=some (bW.mk (Ai 7) [some (Ob (1,1) (0,0)),Oo l4,none] [Os (l6++[(.agg [.int .i64 n15,.int .i64 n16,.str s5,.lst l9])])]);rw[hl9];exact (ho.au (by cbv;repeat (simp only[e1,e2,e3,e4,e5,e6,e7,e8,e9,e10,e11,e12,e13,e14,e15,e16,e17,e18,e19];try cbv)):o.call 104 [.ptr (1,0) 0,.sp [.lst c_0,.lst c_1] 0] [some (Ob (1,1) (1,2)),Oo fs,Os st]=some ⟨Ai 7,[some (Ob (1,1) (0,0)),Oo l4,none],[Os l10]⟩)) | exact (ho.au (by cbv;repeat (simp only[e1,e2,e3,e4,e5,e6,e7,e8,e9,e10,e11,e12,e13,e14,e15,e16,e17,e18,e19];try cbv)):o.call 104 [.ptr (1,0) 0,.sp [.lst c_0,.lst c_1] 0] [some (Ob (1,1) (1,2)),Oo fs,Os st]=some ⟨Ai 7,[some (Ob (1,1) (0,0)),Oo l4,none],[Os l10]⟩)
 ·have e19:o.call 194 [.ptr (1,0) 0,At n15 n16 s5 l9,Ai n17] [some (Ob (1,1) (1,2)),Oo l4,Os l6]=some ⟨Ai n17,[some (Ob (1,1) (1,2)),Oo l4,Os l6],[]⟩:=(vh ho l4 l6 _ _ _ _ n17 hs6).trans (by rw[if_neg hq]);rw[hO];show _=some (bW.mk (Ai (if n17=0 then 7 else n17)) _ [Os (if n17=0 then _ else _)]);first | rw[if_pos hq,if_pos hq,<-hl6] | rw[if_neg hq,if_neg hq,<-hl6]
  first | (show _=some (bW.mk (Ai 7) [some (Ob (1,1) (0,0)),Oo l4,none] [Os (l6++[(.agg [.int .i64 n15,.int .i64 n16,.str s5,.lst l9])])]);rw[hl9];exact (ho.au (by cbv;repeat (simp only[e1,e2,e3,e4,e5,e6,e7,e8,e9,e10,e11,e12,e13,e14,e15,e16,e17,e18,e19];try cbv)):o.call 104 [.ptr (1,0) 0,.sp [.lst c_0,.lst c_1] 0] [some (Ob (1,1) (1,2)),Oo fs,Os st]=some ⟨Ai n17,[some (Ob (1,1) (0,0)),Oo l4,none],[Os l6]⟩)) | exact (ho.au (by cbv;repeat (simp only[e1,e2,e3,e4,e5,e6,e7,e8,e9,e10,e11,e12,e13,e14,e15,e16,e17,e18,e19];try cbv)):o.call 104 [.ptr (1,0) 0,.sp [.lst c_0,.lst c_1] 0] [some (Ob (1,1) (1,2)),Oo fs,Os st]=some ⟨Ai n17,[some (Ob (1,1) (0,0)),Oo l4,none],[Os l6]⟩)
theorem Ln (hop:n7=8) (hC:∀x∈c_0,uE x) (hCb:(c_0.length:Int)<=1048576) (at':Int) (hat:jJ c_0 s2=at') (q0:ByteArray) (m1 m2:Int) (q1:List D) (ha0:0<=at') (hx:c_0[at'.toNat]? =some (.agg [.str q0,.int .i64 m1,.int .i64 m2,.lst q1])) (hm1:n8<=m2) (hm2:m2<=400) (h80:0<=n8) (h82:n8<=st.length) (hf3:∀x∈fs,x.cells.length=3) (hfl:(fs.length:Int)<=40):o.call 104 [.ptr (1,0) 0,.sp [.lst c_0,.lst c_1] 0] [some (Ob (1,1) (1,2)),Oo fs,Os st]=some (if (fs.length:Int)=40 then ⟨Ai 5,[some (Ob (1,1) (1,2)),Oo L4,Os st],[]⟩else ⟨Ai 7,[some (Ob (0,0) (0,1)),none,none],[Oo (L4++[(.agg [.int .i64 at',.int .i64 0,.own (31,4) (dQ m2 (st.drop ((st.length:Int)-n8).toNat))])]),Os (st.take ((st.length:Int)-n8).toNat)]⟩):=by
 have hb:=hst.1;refine ho.aC λR Q=> ?_
 obtain ⟨n1,e1,g1⟩:=ay ho fs;obtain ⟨n2,e2,g2⟩:=aO ho n1 1;obtain rfl:n2=k:=by omega
 have hlk:n2.toNat<fs.length:=(aq.1 hf).1;have e3:=ak ho hk0 hf;have e4:=ak ho h3 hc;have e5:=ak ho h4 hi;obtain ⟨n10,e6,g6⟩:=aW ho n4 1;obtain ⟨l4,rfl,e7⟩:∃z,z=L4/\o.set fs n2 (.agg [.int .i64 n3,.int .i64 n10,.own (31,4) l2])=z:=⟨_,rfl,by rw[ho.set,hL4,show n10=p1 by omega]⟩
 have hg4:l4[n2.toNat]? =some (.agg [.int .i64 n3,.int .i64 p1,.own (31,4) l2]):=by rw[hL4];exact bR hlk
 conv=>lhs;cbv;rw[e1];cbv;rw[e2];cbv;rw[e3];cbv;(try (rw[e3];cbv));rw[e4];cbv;(try (rw[e3];cbv));rw[e5];cbv;(try (rw[e3];cbv));rw[e6];cbv;(try (rw[e3];cbv));rw[e7];cbv
 iterate 8 (conv=>lhs;simp (disch:=omega) only [bC ho,cw ho];cbv)
 have hlen4:l4.length=fs.length:=by rw[hL4,List.length_set]
 have hcl:=call_ ho l4 st c_0 c_1 n7 n8 s2 n9 hC hCb at' hat q0 m1 m2 q1 ha0 hx hm1 hm2 hst h80 h82 (by
  intro x hx;rw[hL4]at hx;rcases List.mem_or_eq_of_mem_set hx with h | h
  ·exact hf3 x h
  ·rw[h];rfl) (by omega)
 rw[hlen4]at hcl;by_cases h40:(fs.length:Int)=40
 ·have e16:o.call 199 [.ptr (1,0) 0,.sp [.lst c_0,.lst c_1] 0,.agg [Ai n7,Ai n8,As s2,Ai n9]] [some (Ob (1,1) (1,2)),Oo l4,Os st]=some ⟨Ai 5,[some (Ob (1,1) (1,2)),Oo l4,Os st],[]⟩:=by rw[if_pos h40]at hcl;exact hcl
  conv=>lhs;rw[e16];cbv
  subst Q;rw[if_pos h40];try rfl
 ·obtain ⟨l5,l6,hl5,hl6,e16⟩:∃a b,a=l4++[(.agg [.int .i64 at',.int .i64 0,.own (31,4) (dQ m2 (st.drop ((st.length:Int)-n8).toNat))])]/\b=st.take ((st.length:Int)-n8).toNat/\o.call 199 [.ptr (1,0) 0,.sp [.lst c_0,.lst c_1] 0,.agg [Ai n7,Ai n8,As s2,Ai n9]] [some (Ob (1,1) (1,2)),Oo l4,Os st]=some ⟨Ai 7,[some (Ob (0,0) (0,1)),none,none],[Oo a,Os b]⟩:=⟨_,_,rfl,rfl,by rw[if_neg h40]at hcl;exact hcl⟩
  conv=>lhs;rw[e16];cbv
  subst Q;rw[if_neg h40,<-hl5,<-hl6];try rfl
theorem Ic (hop:n7=10):o.call 104 [.ptr (1,0) 0,.sp [.lst c_0,.lst c_1] 0] [some (Ob (1,1) (1,2)),Oo fs,Os st]=some ⟨Ai 7,[some (Ob (1,1) (1,2)),Oo (fs.set k.toNat (.agg [.int .i64 n3,.int .i64 n9,.own (31,4) l2])),Os st],[]⟩:=by
 have hb:=hst.1;refine ho.aC λR Q=> ?_
 obtain ⟨n1,e1,g1⟩:=ay ho fs;obtain ⟨n2,e2,g2⟩:=aO ho n1 1;obtain rfl:n2=k:=by omega
 have hlk:n2.toNat<fs.length:=(aq.1 hf).1;have e3:=ak ho hk0 hf;have e4:=ak ho h3 hc;have e5:=ak ho h4 hi;obtain ⟨n10,e6,g6⟩:=aW ho n4 1;obtain ⟨l4,rfl,e7⟩:∃z,z=L4/\o.set fs n2 (.agg [.int .i64 n3,.int .i64 n10,.own (31,4) l2])=z:=⟨_,rfl,by rw[ho.set,hL4,show n10=p1 by omega]⟩
 have hg4:l4[n2.toNat]? =some (.agg [.int .i64 n3,.int .i64 p1,.own (31,4) l2]):=by rw[hL4];exact bR hlk
 conv=>lhs;cbv;rw[e1];cbv;rw[e2];cbv;rw[e3];cbv;(try (rw[e3];cbv));rw[e4];cbv;(try (rw[e3];cbv));rw[e5];cbv;(try (rw[e3];cbv));rw[e6];cbv;(try (rw[e3];cbv));rw[e7];cbv
 iterate 10 (conv=>lhs;simp (disch:=omega) only [bC ho,cw ho];cbv)
 obtain ⟨n11,n12,l6,⟨hq1,hq2,hq3⟩,e18⟩:∃a b c,(a=n3/\b=p1/\c=l2)/\o.dD l4 n2=some (.agg [.int .i64 a,.int .i64 b,.own (31,4) c]):=⟨_,_,_,⟨rfl,rfl,rfl⟩,ak ho hk0 hg4⟩
 obtain ⟨l7,hset,e19⟩:∃z,z=fs.set n2.toNat (.agg [.int .i64 n3,.int .i64 n9,.own (31,4) l2])/\o.set l4 n2 (.agg [.int .i64 n11,.int .i64 n9,.own (31,4) l6])=z:=⟨_,rfl,by rw[ho.set];rw[hL4,List.set_set,hq1,hq3]⟩
 conv=>lhs;rw[e18];cbv;rw[e19];cbv
 subst Q;rw[<-hset];try rfl
theorem Ie (hop:n7=11):o.call 104 [.ptr (1,0) 0,.sp [.lst c_0,.lst c_1] 0] [some (Ob (1,1) (1,2)),Oo fs,Os st]=some ⟨Ai 2,[some (Ob (1,1) (1,2)),Oo L4,Os st],[]⟩:=by
 have hb:=hst.1;refine ho.aC λR Q=> ?_
 obtain ⟨n1,e1,g1⟩:=ay ho fs;obtain ⟨n2,e2,g2⟩:=aO ho n1 1;obtain rfl:n2=k:=by omega
 have hlk:n2.toNat<fs.length:=(aq.1 hf).1;have e3:=ak ho hk0 hf;have e4:=ak ho h3 hc;have e5:=ak ho h4 hi;obtain ⟨n10,e6,g6⟩:=aW ho n4 1;obtain ⟨l4,rfl,e7⟩:∃z,z=L4/\o.set fs n2 (.agg [.int .i64 n3,.int .i64 n10,.own (31,4) l2])=z:=⟨_,rfl,by rw[ho.set,hL4,show n10=p1 by omega]⟩
 have hg4:l4[n2.toNat]? =some (.agg [.int .i64 n3,.int .i64 p1,.own (31,4) l2]):=by rw[hL4];exact bR hlk
 conv=>lhs;cbv;rw[e1];cbv;rw[e2];cbv;rw[e3];cbv;(try (rw[e3];cbv));rw[e4];cbv;(try (rw[e3];cbv));rw[e5];cbv;(try (rw[e3];cbv));rw[e6];cbv;(try (rw[e3];cbv));rw[e7];cbv
 iterate 11 (conv=>lhs;simp (disch:=omega) only [bC ho];cbv)
 subst Q;rfl
theorem Ig (hop:n7=12):o.call 104 [.ptr (1,0) 0,.sp [.lst c_0,.lst c_1] 0] [some (.box [.arr (1,1) (192,3) none false,.arr (1,2) (31,4) none false]),some (.orows (192,3) fs),some (.rows (31,4) st)]=some ⟨.d (.int .i64 (if k=0 then 0 else 7)),[some (.box [.arr (0,0) (192,3) none false,.arr (1,2) (31,4) none false]),none,some (.rows (31,4) st)],[some (.orows (192,3) (fs.take k.toNat))]⟩:=by
 have hb:=hst.1;refine ho.aC λR Q=> ?_
 obtain ⟨n1,e1,g1⟩:=ay ho fs;obtain ⟨n2,e2,g2⟩:=aO ho n1 1;obtain rfl:n2=k:=by omega
 have hlk:n2.toNat<fs.length:=(aq.1 hf).1;have e3:=ak ho hk0 hf;have e4:=ak ho h3 hc;have e5:=ak ho h4 hi;obtain ⟨n10,e6,g6⟩:=aW ho n4 1;obtain ⟨l4,rfl,e7⟩:∃z,z=L4/\o.set fs n2 (.agg [.int .i64 n3,.int .i64 n10,.own (31,4) l2])=z:=⟨_,rfl,by rw[ho.set,hL4,show n10=p1 by omega]⟩
 have hg4:l4[n2.toNat]? =some (.agg [.int .i64 n3,.int .i64 p1,.own (31,4) l2]):=by rw[hL4];exact bR hlk
 conv=>lhs;cbv;rw[e1];cbv;rw[e2];cbv;rw[e3];cbv;(try (rw[e3];cbv));rw[e4];cbv;(try (rw[e3];cbv));rw[e5];cbv;(try (rw[e3];cbv));rw[e6];cbv;(try (rw[e3];cbv));rw[e7];cbv
 iterate 11 (conv=>lhs;simp (disch:=omega) only [bC ho,cw ho];cbv)
 obtain ⟨n11,e19,g19⟩:=ay ho l4;have hlen4:l4.length=fs.length:=by rw[hL4,List.length_set]
 obtain ⟨n12,e20,g20⟩:=aO ho n11 1;obtain ⟨n13,g21,e21⟩:∃v,v=n12-0/\o.minus n12 0=v:=⟨_,rfl,ho.minus _ _⟩
 obtain ⟨l5,hl5,e22⟩:∃z,z=fs.take n2.toNat/\o.sub l4 0 n13=some z:=⟨_,rfl,by rw[iB ho (Int.le_refl _) (by omega) (by omega),show n13=n2 by omega,hL4];exact congrArg some (by rw[show (0:Int).toNat=0 from rfl,List.drop_zero,List.take_set_of_le (Nat.le_refl _)])⟩
 have hlen5:(l5.length:Int)=n2:=by rw[hl5,List.length_take];omega
 obtain ⟨n14,e24,g24⟩:=ay ho l5;conv=>lhs;rw[e19];cbv;rw[e20];cbv;rw[e21];cbv;rw[e22];cbv;(try (rw[e21];cbv));rw[ho.isZero];cbv;(try (rw[e22];cbv));rw[e24];cbv;(try (rw[e21];cbv))
 rcases aj ho n14 0 with ⟨e25,g25⟩|⟨e25,g25⟩<;>(conv=>lhs;rw[e25];cbv)
 ·subst Q;rw[if_neg (by omega),<-hl5];try rfl
 ·subst Q;rw[if_pos (by omega),<-hl5];try rfl
end
end
end T2
