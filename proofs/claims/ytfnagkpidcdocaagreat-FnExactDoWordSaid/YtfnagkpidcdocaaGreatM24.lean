import Derived.Test.YtfnagkpidcdocaaGreatM23
set_option linter.all false
namespace T2
open Go Go.Vi
set_option maxRecDepth 100000
set_option maxHeartbeats 4000000
theorem NA {o:aM} {x:D} (h:Sl o x):Tm 8 x:=by
 rcases h with rfl | h
 ·exact ⟨0,0,⟨#[]⟩,[],rfl,by decide,by decide,λx e=>by cases e⟩
 exact fO h
section
variable {o:aM} (ho:aQ cu bw o)
include ho
theorem Rf:vY o ⟨#[116,114,117,101]⟩=true:=by
 have h:o=_:=ho;rw[h];rfl
theorem Rg:vY o ⟨#[102,97,108,115,101]⟩=true:=by
 have h:o=_:=ho;rw[h];rfl
theorem NC (b:Bool):Rt o 8 (tB b):=by
 refine ⟨_,_,_,_,rfl,?_,λx e=>by cases e⟩;unfold jw;rw[if_neg (by omega),if_pos rfl];cases b
 ·rw[show (if (false:Bool)=true then (⟨#[116,114,117,101]⟩:By)else ⟨#[102,97,108,115,101]⟩)=⟨#[102,97,108,115,101]⟩from rfl,Rg ho];rfl
 rw[show (if (true:Bool)=true then (⟨#[116,114,117,101]⟩:By)else ⟨#[102,97,108,115,101]⟩)=⟨#[116,114,117,101]⟩from rfl,Rf ho];rfl
theorem Bq (n:Int):Ln o (Bm n):=by
 unfold Bm;split
 ·rename_i h;exact ⟨_,_,_,_,rfl,.inl rfl,λ_=>⟨_,_,_,_,rfl,by unfold jw;rw[if_pos rfl,h];rfl,λx e=>by cases e⟩⟩
 exact Am (.inl rfl)
theorem Lz (s:By) (a b:Int):Ln o (CM o s a b):=by
 unfold CM;split
 ·exact Bq ho _
 split
 ·exact Bq ho _
 split
 ·exact Am (.inl rfl)
 exact Bq ho _
theorem Br (s:By) {A B:D} (e:Rt o 8 A) (hB:Rt o 8 B):Ln o (CN o s A B):=by
 obtain ⟨_,k,n,t,l,_,rfl,_⟩:=fE e;obtain ⟨_,k',n',t',l',_,rfl,_⟩:=fE hB;rw[kK];split
 ·exact ⟨_,_,_,_,rfl,.inl rfl,λ_=>NC ho _⟩
 split
 ·exact ⟨_,_,_,_,rfl,.inl rfl,λ_=>NC ho _⟩
 split
 ·exact Am (.inl rfl)
 split
 ·exact Am (.inl rfl)
 exact Lz ho s n n'
section
variable (fs st c_0 c_1:Lq) (hst:stk o st) (k:Int) (hk:k=(fs.length:Int)-1) (hk0:0<=k) (hkb:k<=100) (n3 n4:Int) (l2:Lq) (hf:fs[k.toNat]? =some (.agg [.int .i64 n3,.int .i64 n4,.own (31,4) l2])) (hSl:∀x∈l2,Sl o x) (h3:0<=n3) (s1:By) (n5 n6:Int) (l3:Lq) (hc:c_0[n3.toNat]? =some (.agg [.str s1,.int .i64 n5,.int .i64 n6,.lst l3])) (h4:0<=n4) (h4b:n4<=5000) (n7 n8:Int) (s2:By) (n9:Int) (hi:l3[n4.toNat]? =some (.agg [.int .i64 n7,.int .i64 n8,.str s2,.int .i64 n9])) (p1:Int) (hp1:p1=n4+1) (L4:Lq) (hL4:L4=fs.set k.toNat (.agg [.int .i64 n3,.int .i64 p1,.own (31,4) l2]))
include fs st c_0 c_1 hst k hk hk0 hkb n3 n4 l2 hf hSl h3 s1 n5 n6 l3 hc h4 h4b n7 n8 s2 n9 hi p1 hp1 L4 hL4
theorem OW (a0:n7=1):o.call 104 [.ptr (1,0) 0,Sc c_0 c_1] [some (Ob (1,1) (1,2)),Oo fs,Os st]=some ⟨Ai 7,[some (Ob (1,1) (0,0)),Oo L4,none],[Os (st++[(.agg [.int .i64 1,.int .i64 n8,.str ⟨#[]⟩,.lst []])])]⟩:=by
 have hb:=hst.1;refine ho.aL λR Q=> ?_
 obtain ⟨n1,M,g1⟩:=aC ho fs;obtain ⟨n2,O,g2⟩:=aU ho n1 1;obtain rfl:n2=k:=by omega
 have I:n2.toNat<fs.length:=(ax.1 hf).1;have e:=ay ho hk0 hf;have S:=ay ho h3 hc;have U:=ay ho h4 hi;obtain ⟨E,V,g6⟩:=bk ho n4 1;obtain ⟨j,rfl,e7⟩:∃z,z=L4/\o.set fs n2 (.agg [.int .i64 n3,.int .i64 E,.own (31,4) l2])=z:=⟨_,rfl,by rw[ho.set,hL4,show E=p1 by omega]⟩
 have a1:j[n2.toNat]? =some (.agg [.int .i64 n3,.int .i64 p1,.own (31,4) l2]):=by rw[hL4];exact cq I
 obtain ⟨l5,J,e9⟩:∃z,st++[(.agg [.int .i64 1,.int .i64 n8,.str ⟨#[]⟩,.lst []])]=z/\o.call 194 [.ptr (1,0) 0,At 1 n8 ⟨#[]⟩ [],Ai 0] [some (Ob (1,1) (1,2)),Oo j,Os st]=some ⟨Ai 7,[some (Ob (1,1) (0,0)),Oo j,none],[Os z]⟩:=⟨_,rfl,wZ ho j st _ _ _ _ 0 hst⟩
 conv=>lhs;cbv;rw[M];cbv;rw[O];cbv;rw[e];cbv;(try (rw[e];cbv));rw[S];cbv;(try (rw[e];cbv));rw[U];cbv;(try (rw[e];cbv));rw[V];cbv;(try (rw[e];cbv));rw[e7];cbv;simp (disch:=omega) only [cX ho];cbv;rw[e9];cbv
 subst Q;rw[J];try rfl
theorem OX (a0:n7=2):o.call 104 [.ptr (1,0) 0,Sc c_0 c_1] [some (Ob (1,1) (1,2)),Oo fs,Os st]=some ⟨Ai 7,[some (Ob (1,1) (0,0)),Oo L4,none],[Os (st++[(.agg [.int .i64 2,.int .i64 0,.str s2,.lst []])])]⟩:=by
 have hb:=hst.1;refine ho.aL λR Q=> ?_
 obtain ⟨n1,O,g1⟩:=aC ho fs;obtain ⟨n2,S,g2⟩:=aU ho n1 1;obtain rfl:n2=k:=by omega
 have I:n2.toNat<fs.length:=(ax.1 hf).1;have e:=ay ho hk0 hf;have U:=ay ho h3 hc;have V:=ay ho h4 hi;obtain ⟨E,e6,g6⟩:=bk ho n4 1;obtain ⟨j,rfl,e7⟩:∃z,z=L4/\o.set fs n2 (.agg [.int .i64 n3,.int .i64 E,.own (31,4) l2])=z:=⟨_,rfl,by rw[ho.set,hL4,show E=p1 by omega]⟩
 have a1:j[n2.toNat]? =some (.agg [.int .i64 n3,.int .i64 p1,.own (31,4) l2]):=by rw[hL4];exact cq I
 conv=>lhs;cbv;rw[O];cbv;rw[S];cbv;rw[e];cbv;(try (rw[e];cbv));rw[U];cbv;(try (rw[e];cbv));rw[V];cbv;(try (rw[e];cbv));rw[e6];cbv;(try (rw[e];cbv));rw[e7];cbv
 iterate 2 (conv=>lhs;simp (disch:=omega) only [bN ho,cX ho];cbv)
 obtain ⟨l5,J,M⟩:∃z,st++[(.agg [.int .i64 2,.int .i64 0,.str s2,.lst []])]=z/\o.call 194 [.ptr (1,0) 0,At 2 0 s2 [],Ai 0] [some (Ob (1,1) (1,2)),Oo j,Os st]=some ⟨Ai 7,[some (Ob (1,1) (0,0)),Oo j,none],[Os z]⟩:=⟨_,rfl,wZ ho j st _ _ _ _ 0 hst⟩
 conv=>lhs;rw[M];cbv
 subst Q;rw[J];try rfl
theorem OY (ag:n7=3) (h8:0<=n8) (e j:Int) (E:By) (I:Lq) (hx:l2[n8.toNat]? =some (.agg [.int .i64 e,.int .i64 j,.str E,.lst I])):o.call 104 [.ptr (1,0) 0,Sc c_0 c_1] [some (Ob (1,1) (1,2)),Oo fs,Os st]=some (if cE (.agg [.int .i64 e,.int .i64 j,.str E,.lst I]) nB=true then ⟨Ai 1,[some (Ob (1,1) (1,2)),Oo L4,Os st],[]⟩else ⟨Ai 7,[some (Ob (1,1) (0,0)),Oo L4,none],[Os (st++[(.agg [.int .i64 e,.int .i64 j,.str E,.lst I])])]⟩):=by
 have hb:=hst.1;refine ho.aL λR Q=> ?_
 obtain ⟨n1,e1,g1⟩:=aC ho fs;obtain ⟨n2,e2,g2⟩:=aU ho n1 1;obtain rfl:n2=k:=by omega
 have a6:n2.toNat<fs.length:=(ax.1 hf).1;have M:=ay ho hk0 hf;have e4:=ay ho h3 hc;have e5:=ay ho h4 hi;obtain ⟨a0,e6,g6⟩:=bk ho n4 1;obtain ⟨l4,rfl,e7⟩:∃z,z=L4/\o.set fs n2 (.agg [.int .i64 n3,.int .i64 a0,.own (31,4) l2])=z:=⟨_,rfl,by rw[ho.set,hL4,show a0=p1 by omega]⟩
 have a1:l4[n2.toNat]? =some (.agg [.int .i64 n3,.int .i64 p1,.own (31,4) l2]):=by rw[hL4];exact cq a6
 conv=>lhs;cbv;rw[e1];cbv;rw[e2];cbv;rw[M];cbv;(try (rw[M];cbv));rw[e4];cbv;(try (rw[M];cbv));rw[e5];cbv;(try (rw[M];cbv));rw[e6];cbv;(try (rw[M];cbv));rw[e7];cbv
 iterate 3 (conv=>lhs;simp (disch:=omega) only [bN ho,cX ho];cbv)
 obtain ⟨a7,a8,l6,⟨a9,aa,O⟩,a3⟩:∃a b c,(a=n3/\b=p1/\c=l2)/\o.cF l4 n2=some (.agg [.int .i64 a,.int .i64 b,.own (31,4) c]):=⟨_,_,_,⟨rfl,rfl,rfl⟩,ay ho hk0 a1⟩
 have a4:o.flat l6=true:=by rw[O];exact rF ho hSl
 have a5:o.cF l6 n8=some (.agg [.int .i64 e,.int .i64 j,.str E,.lst I]):=ay ho h8 (by rw[O];exact hx);obtain ⟨S,U,ac⟩:∃z,z=l4/\o.set l4 n2 (.agg [.int .i64 a7,.int .i64 a8,.own (31,4) l6])=z:=⟨_,rfl,by rw[ho.set];rw[a9,aa,O];exact eO a1⟩
 conv=>lhs;rw[a3];cbv;rw[a4];cbv;rw[a5];cbv;(try (rw[a5];cbv));(try (rw[a3];cbv));(try (rw[a4];cbv));rw[ac];cbv
 have J:=load_ ho S st _ _ _ _ hst (NA (hSl _ (List.mem_of_getElem? hx)));cases hz:cE (.agg [.int .i64 e,.int .i64 j,.str E,.lst I]) nB
 ·obtain ⟨l9,ae,V⟩:∃z,st++[(.agg [.int .i64 e,.int .i64 j,.str E,.lst I])]=z/\o.call 195 [.ptr (1,0) 0,At e j E I] [some (Ob (1,1) (1,2)),Oo S,Os st]=some ⟨Ai 7,[some (Ob (1,1) (0,0)),Oo S,none],[Os z]⟩:=⟨_,rfl,by rw[hz]at J;exact J⟩
  conv=>lhs;rw[V];cbv
  subst Q;try rw[hz]
  rw[if_neg Bool.false_ne_true,ae,<-U];try rfl
 have V:o.call 195 [.ptr (1,0) 0,At e j E I] [some (Ob (1,1) (1,2)),Oo S,Os st]=some ⟨Ai 1,[some (Ob (1,1) (1,2)),Oo S,Os st],[]⟩:=by rw[hz]at J;exact J
 conv=>lhs;rw[V];cbv
 subst Q;try rw[hz]
 rw[if_pos rfl,<-U];try rfl
theorem OZ (a0:n7=4) (a1:0<=n8) (a3:n8<=20) (I:n8<=st.length):o.call 104 [.ptr (1,0) 0,Sc c_0 c_1] [some (Ob (1,1) (1,2)),Oo fs,Os st]=some ⟨Ai (if (ig o 4 (st.drop ((st.length:Int)-n8).toNat)).2=0 then 7 else (ig o 4 (st.drop ((st.length:Int)-n8).toNat)).2),[some (Ob (1,1) (0,0)),Oo L4,none],[Os (if (ig o 4 (st.drop ((st.length:Int)-n8).toNat)).2=0 then st.take ((st.length:Int)-n8).toNat++[(ig o 4 (st.drop ((st.length:Int)-n8).toNat)).1]else st.take ((st.length:Int)-n8).toNat)]⟩:=by
 have hb:=hst.1;refine ho.aL λR Q=> ?_
 obtain ⟨n1,S,g1⟩:=aC ho fs;obtain ⟨n2,U,g2⟩:=aU ho n1 1;obtain rfl:n2=k:=by omega
 have J:n2.toNat<fs.length:=(ax.1 hf).1;have e:=ay ho hk0 hf;have V:=ay ho h3 hc;have e5:=ay ho h4 hi;obtain ⟨E,e6,g6⟩:=bk ho n4 1;obtain ⟨j,rfl,e7⟩:∃z,z=L4/\o.set fs n2 (.agg [.int .i64 n3,.int .i64 E,.own (31,4) l2])=z:=⟨_,rfl,by rw[ho.set,hL4,show E=p1 by omega]⟩
 have a4:j[n2.toNat]? =some (.agg [.int .i64 n3,.int .i64 p1,.own (31,4) l2]):=by rw[hL4];exact cq J
 conv=>lhs;cbv;rw[S];cbv;rw[U];cbv;rw[e];cbv;(try (rw[e];cbv));rw[V];cbv;(try (rw[e];cbv));rw[e5];cbv;(try (rw[e];cbv));rw[e6];cbv;(try (rw[e];cbv));rw[e7];cbv
 iterate 4 (conv=>lhs;simp (disch:=omega) only [bN ho,cX ho];cbv)
 obtain ⟨a5,l5,ha,M,O⟩:∃a b,(if (ig o 4 (st.drop ((st.length:Int)-n8).toNat)).2=0 then 7 else (ig o 4 (st.drop ((st.length:Int)-n8).toNat)).2)=a/\(if (ig o 4 (st.drop ((st.length:Int)-n8).toNat)).2=0 then st.take ((st.length:Int)-n8).toNat++[(ig o 4 (st.drop ((st.length:Int)-n8).toNat)).1]else st.take ((st.length:Int)-n8).toNat)=b/\o.call 196 [.ptr (1,0) 0,Ai 4,Ai n8] [some (Ob (1,1) (1,2)),Oo j,Os st]=some ⟨Ai a,[some (Ob (1,1) (0,0)),Oo j,none],[Os b]⟩:=⟨_,_,rfl,rfl,Ef ho j st 4 n8 hst (by omega) I (by omega) (by omega) (by omega)⟩
 conv=>lhs;rw[O];cbv
 subst Q;rw[ha,M];try rfl
theorem O0 (a0:n7=5) (a1:0<=n8) (a3:n8<=20) (I:n8<=st.length):o.call 104 [.ptr (1,0) 0,Sc c_0 c_1] [some (Ob (1,1) (1,2)),Oo fs,Os st]=some ⟨Ai (if (ig o 5 (st.drop ((st.length:Int)-n8).toNat)).2=0 then 7 else (ig o 5 (st.drop ((st.length:Int)-n8).toNat)).2),[some (Ob (1,1) (0,0)),Oo L4,none],[Os (if (ig o 5 (st.drop ((st.length:Int)-n8).toNat)).2=0 then st.take ((st.length:Int)-n8).toNat++[(ig o 5 (st.drop ((st.length:Int)-n8).toNat)).1]else st.take ((st.length:Int)-n8).toNat)]⟩:=by
 have hb:=hst.1;refine ho.aL λR Q=> ?_
 obtain ⟨n1,S,g1⟩:=aC ho fs;obtain ⟨n2,U,g2⟩:=aU ho n1 1;obtain rfl:n2=k:=by omega
 have J:n2.toNat<fs.length:=(ax.1 hf).1;have e:=ay ho hk0 hf;have V:=ay ho h3 hc;have e5:=ay ho h4 hi;obtain ⟨E,e6,g6⟩:=bk ho n4 1;obtain ⟨j,rfl,e7⟩:∃z,z=L4/\o.set fs n2 (.agg [.int .i64 n3,.int .i64 E,.own (31,4) l2])=z:=⟨_,rfl,by rw[ho.set,hL4,show E=p1 by omega]⟩
 have a4:j[n2.toNat]? =some (.agg [.int .i64 n3,.int .i64 p1,.own (31,4) l2]):=by rw[hL4];exact cq J
 conv=>lhs;cbv;rw[S];cbv;rw[U];cbv;rw[e];cbv;(try (rw[e];cbv));rw[V];cbv;(try (rw[e];cbv));rw[e5];cbv;(try (rw[e];cbv));rw[e6];cbv;(try (rw[e];cbv));rw[e7];cbv
 iterate 5 (conv=>lhs;simp (disch:=omega) only [bN ho,cX ho];cbv)
 obtain ⟨a5,l5,ha,M,O⟩:∃a b,(if (ig o 5 (st.drop ((st.length:Int)-n8).toNat)).2=0 then 7 else (ig o 5 (st.drop ((st.length:Int)-n8).toNat)).2)=a/\(if (ig o 5 (st.drop ((st.length:Int)-n8).toNat)).2=0 then st.take ((st.length:Int)-n8).toNat++[(ig o 5 (st.drop ((st.length:Int)-n8).toNat)).1]else st.take ((st.length:Int)-n8).toNat)=b/\o.call 196 [.ptr (1,0) 0,Ai 5,Ai n8] [some (Ob (1,1) (1,2)),Oo j,Os st]=some ⟨Ai a,[some (Ob (1,1) (0,0)),Oo j,none],[Os b]⟩:=⟨_,_,rfl,rfl,Ef ho j st 5 n8 hst (by omega) I (by omega) (by omega) (by omega)⟩
 conv=>lhs;rw[O];cbv
 subst Q;rw[ha,M];try rfl
theorem O1 (a0:n7=6) (a1:1<=n8) (a3:n8<=20) (I:n8<=st.length):o.call 104 [.ptr (1,0) 0,Sc c_0 c_1] [some (Ob (1,1) (1,2)),Oo fs,Os st]=some ⟨Ai (if (ig o 6 (st.drop ((st.length:Int)-n8).toNat)).2=0 then 7 else (ig o 6 (st.drop ((st.length:Int)-n8).toNat)).2),[some (Ob (1,1) (0,0)),Oo L4,none],[Os (if (ig o 6 (st.drop ((st.length:Int)-n8).toNat)).2=0 then st.take ((st.length:Int)-n8).toNat++[(ig o 6 (st.drop ((st.length:Int)-n8).toNat)).1]else st.take ((st.length:Int)-n8).toNat)]⟩:=by
 have hb:=hst.1;refine ho.aL λR Q=> ?_
 obtain ⟨n1,S,g1⟩:=aC ho fs;obtain ⟨n2,U,g2⟩:=aU ho n1 1;obtain rfl:n2=k:=by omega
 have J:n2.toNat<fs.length:=(ax.1 hf).1;have e:=ay ho hk0 hf;have V:=ay ho h3 hc;have e5:=ay ho h4 hi;obtain ⟨E,e6,g6⟩:=bk ho n4 1;obtain ⟨j,rfl,e7⟩:∃z,z=L4/\o.set fs n2 (.agg [.int .i64 n3,.int .i64 E,.own (31,4) l2])=z:=⟨_,rfl,by rw[ho.set,hL4,show E=p1 by omega]⟩
 have a4:j[n2.toNat]? =some (.agg [.int .i64 n3,.int .i64 p1,.own (31,4) l2]):=by rw[hL4];exact cq J
 conv=>lhs;cbv;rw[S];cbv;rw[U];cbv;rw[e];cbv;(try (rw[e];cbv));rw[V];cbv;(try (rw[e];cbv));rw[e5];cbv;(try (rw[e];cbv));rw[e6];cbv;(try (rw[e];cbv));rw[e7];cbv
 iterate 6 (conv=>lhs;simp (disch:=omega) only [bN ho,cX ho];cbv)
 obtain ⟨a5,l5,ha,M,O⟩:∃a b,(if (ig o 6 (st.drop ((st.length:Int)-n8).toNat)).2=0 then 7 else (ig o 6 (st.drop ((st.length:Int)-n8).toNat)).2)=a/\(if (ig o 6 (st.drop ((st.length:Int)-n8).toNat)).2=0 then st.take ((st.length:Int)-n8).toNat++[(ig o 6 (st.drop ((st.length:Int)-n8).toNat)).1]else st.take ((st.length:Int)-n8).toNat)=b/\o.call 196 [.ptr (1,0) 0,Ai 6,Ai n8] [some (Ob (1,1) (1,2)),Oo j,Os st]=some ⟨Ai a,[some (Ob (1,1) (0,0)),Oo j,none],[Os b]⟩:=⟨_,_,rfl,rfl,Ef ho j st 6 n8 hst (by omega) I (by omega) (by omega) (by omega)⟩
 conv=>lhs;rw[O];cbv
 subst Q;rw[ha,M];try rfl
theorem O2 (b1:n7=7) (az:2<=(st.length:Int)) (E I:Int) (s3:By) (l7:Lq) (hA:(st.drop ((st.length:Int)-2).toNat)[0]? =some (.agg [.int .i64 E,.int .i64 I,.str s3,.lst l7])) (J M:Int) (s4:By) (l8:Lq) (hB:(st.drop ((st.length:Int)-2).toNat)[1]? =some (.agg [.int .i64 J,.int .i64 M,.str s4,.lst l8])):o.call 104 [.ptr (1,0) 0,Sc c_0 c_1] [some (Ob (1,1) (1,2)),Oo fs,Os st]=some ⟨Ai (if (CN o s2 (.agg [.int .i64 E,.int .i64 I,.str s3,.lst l7]) (.agg [.int .i64 J,.int .i64 M,.str s4,.lst l8])).2=0 then 7 else (CN o s2 (.agg [.int .i64 E,.int .i64 I,.str s3,.lst l7]) (.agg [.int .i64 J,.int .i64 M,.str s4,.lst l8])).2),[some (Ob (1,1) (0,0)),Oo L4,none],[Os (if (CN o s2 (.agg [.int .i64 E,.int .i64 I,.str s3,.lst l7]) (.agg [.int .i64 J,.int .i64 M,.str s4,.lst l8])).2=0 then st.take ((st.length:Int)-2).toNat++[(CN o s2 (.agg [.int .i64 E,.int .i64 I,.str s3,.lst l7]) (.agg [.int .i64 J,.int .i64 M,.str s4,.lst l8])).1]else st.take ((st.length:Int)-2).toNat)]⟩:=by
 have hb:=hst.1;obtain ⟨n1,e1,g1⟩:=aC ho fs;obtain ⟨n2,e2⟩:=kx (o.ar .sub .i64 n1 1);try have g2:n2=n1-1:=e2.symm.trans (gj ho (by omega) (by omega))
 obtain rfl:n2=k:=by omega
 have b0:n2.toNat<fs.length:=(ax.1 hf).1;have e3:=ay ho hk0 hf;have e4:=ay ho h3 hc;have e5:=ay ho h4 hi;obtain ⟨ae,e6⟩:=kx (o.ar .add .i64 n4 1);try have g6:ae=n4+1:=e6.symm.trans (dm ho (by omega) (by omega))
 obtain ⟨j,rfl,e7⟩:∃z,z=L4/\o.set fs n2 (.agg [.int .i64 n3,.int .i64 ae,.own (31,4) l2])=z:=⟨_,rfl,by rw[ho.set,hL4,show ae=p1 by omega]⟩
 have b2:j[n2.toNat]? =some (.agg [.int .i64 n3,.int .i64 p1,.own (31,4) l2]):=by rw[hL4];exact cq b0
 have e8:o.cmp .eql n7 1=false:=by first | assumption | exact bN ho (by omega)
 have g8:=lY ho e8;have e9:o.cmp .eql n7 2=false:=by first | assumption | exact bN ho (by omega)
 have g9:=lY ho e9;have a0:o.cmp .eql n7 3=false:=by first | assumption | exact bN ho (by omega)
 have b3:=lY ho a0;have a1:o.cmp .eql n7 4=false:=by first | assumption | exact bN ho (by omega)
 have b4:=lY ho a1;have a3:o.cmp .eql n7 5=false:=by first | assumption | exact bN ho (by omega)
 have b5:=lY ho a3;have a4:o.cmp .eql n7 6=false:=by first | assumption | exact bN ho (by omega)
 have b6:=lY ho a4;have a5:o.cmp .eql n7 7=true:=by first | assumption | exact cX ho (by omega)
 have b7:=Qa ho a5;obtain ⟨l5,O,ag,a6,a8⟩:∃a b,a=st.drop ((st.length:Int)-2).toNat/\b=st.take ((st.length:Int)-2).toNat/\o.call 197 [.ptr (1,0) 0,Ai 2] [some (Ob (1,1) (1,2)),Oo j,Os st]=some ⟨.arr (0,0) (31,4) none false,[some (Ob (1,1) (0,1)),Oo j,none],[Os a,Os b]⟩:=⟨_,_,rfl,rfl,Lv ho j st 2 hst (by omega) az _ rfl⟩
 have am:stk o O:=by rw[a6];exact lF hst
 have a9:o.cF l5 0=some (.agg [.int .i64 E,.int .i64 I,.str s3,.lst l7]):=ay ho (by omega) (by rw[ag];exact hA);have aa:o.cF l5 1=some (.agg [.int .i64 J,.int .i64 M,.str s4,.lst l8]):=ay ho (by omega) (by rw[ag];exact hB);have an:Rt o 8 (.agg [.int .i64 E,.int .i64 I,.str s3,.lst l7]):=hst.2 _ (List.mem_of_mem_drop (List.mem_of_getElem? hA));have ao:Rt o 8 (.agg [.int .i64 J,.int .i64 M,.str s4,.lst l8]):=hst.2 _ (List.mem_of_mem_drop (List.mem_of_getElem? hB));obtain ⟨U,V,s5,l9,e,hO,b8,b9⟩:=qu (Br ho s2 an ao);have ac:o.call 198 [As s2,At E I s3 l7,At J M s4 l8] []=Ar (.tup [At U V s5 l9,Ai e]):=(GJ ho s2 _ _ _ _ _ _ _ _ an ao).trans (by rw[hO];rfl);by_cases S:e=0
 ·obtain ⟨ap,aw,a7⟩:∃z,O++[(.agg [.int .i64 U,.int .i64 V,.str s5,.lst l9])]=z/\o.call 194 [.ptr (1,0) 0,At U V s5 l9,Ai e] [some (Ob (1,1) (1,2)),Oo j,Os O]=some ⟨Ai 7,[some (Ob (1,1) (0,0)),Oo j,none],[Os z]⟩:=⟨_,rfl,(wZ ho j O _ _ _ _ e am).trans (by rw[if_pos S])⟩
  rw[hO];show _=some (cn.mk (Ai (if e=0 then 7 else e)) _ [Os (if e=0 then _ else _)]);first | rw[if_pos S,if_pos S,<-a6] | rw[if_neg S,if_neg S,<-a6]
  first | (show _=some (cn.mk (Ai 7) [some (Ob (1,1) (0,0)),Oo j,none] [Os (O++[(.agg [.int .i64 U,.int .i64 V,.str s5,.lst l9])])]);rw[aw];exact (ho.aj (by cbv;repeat (simp only[e1,e2,e3,e4,e5,e6,e7,e8,e9,a0,a1,a3,a4,a5,a8,a9,aa,ac,a7];try cbv)):o.call 104 [.ptr (1,0) 0,Sc c_0 c_1] [some (Ob (1,1) (1,2)),Oo fs,Os st]=some ⟨Ai 7,[some (Ob (1,1) (0,0)),Oo j,none],[Os ap]⟩)) | exact (ho.aj (by cbv;repeat (simp only[e1,e2,e3,e4,e5,e6,e7,e8,e9,a0,a1,a3,a4,a5,a8,a9,aa,ac,a7];try cbv)):o.call 104 [.ptr (1,0) 0,Sc c_0 c_1] [some (Ob (1,1) (1,2)),Oo fs,Os st]=some ⟨Ai 7,[some (Ob (1,1) (0,0)),Oo j,none],[Os ap]⟩)
 have a7:o.call 194 [.ptr (1,0) 0,At U V s5 l9,Ai e] [some (Ob (1,1) (1,2)),Oo j,Os O]=some ⟨Ai e,[some (Ob (1,1) (1,2)),Oo j,Os O],[]⟩:=(wZ ho j O _ _ _ _ e am).trans (by rw[if_neg S]);rw[hO];show _=some (cn.mk (Ai (if e=0 then 7 else e)) _ [Os (if e=0 then _ else _)]);first | rw[if_pos S,if_pos S,<-a6] | rw[if_neg S,if_neg S,<-a6]
 first | (show _=some (cn.mk (Ai 7) [some (Ob (1,1) (0,0)),Oo j,none] [Os (O++[(.agg [.int .i64 U,.int .i64 V,.str s5,.lst l9])])]);rw[aw];exact (ho.aj (by cbv;repeat (simp only[e1,e2,e3,e4,e5,e6,e7,e8,e9,a0,a1,a3,a4,a5,a8,a9,aa,ac,a7];try cbv)):o.call 104 [.ptr (1,0) 0,Sc c_0 c_1] [some (Ob (1,1) (1,2)),Oo fs,Os st]=some ⟨Ai e,[some (Ob (1,1) (0,0)),Oo j,none],[Os O]⟩)) | exact (ho.aj (by cbv;repeat (simp only[e1,e2,e3,e4,e5,e6,e7,e8,e9,a0,a1,a3,a4,a5,a8,a9,aa,ac,a7];try cbv)):o.call 104 [.ptr (1,0) 0,Sc c_0 c_1] [some (Ob (1,1) (1,2)),Oo fs,Os st]=some ⟨Ai e,[some (Ob (1,1) (0,0)),Oo j,none],[Os O]⟩)
theorem O3 (aa:n7=8) (hC:∀x∈c_0,v7 x) (hCb:(c_0.length:Int)<=1048576) (at':Int) (V:iB c_0 s2=at') (q0:By) (m1 I:Int) (q1:Lq) (a0:0<=at') (O:c_0[at'.toNat]? =some (.agg [.str q0,.int .i64 m1,.int .i64 I,.lst q1])) (a1:n8<=I) (a3:I<=400) (a4:0<=n8) (a5:n8<=st.length) (a6:∀x∈fs,x.cells.length=3) (ac:(fs.length:Int)<=40):o.call 104 [.ptr (1,0) 0,Sc c_0 c_1] [some (Ob (1,1) (1,2)),Oo fs,Os st]=some (if (fs.length:Int)=40 then ⟨Ai 5,[some (Ob (1,1) (1,2)),Oo L4,Os st],[]⟩else ⟨Ai 7,[some (Ob (0,0) (0,1)),none,none],[Oo (L4++[(.agg [.int .i64 at',.int .i64 0,.own (31,4) (cU I (st.drop ((st.length:Int)-n8).toNat))])]),Os (st.take ((st.length:Int)-n8).toNat)]⟩):=by
 have hb:=hst.1;refine ho.aL λR Q=> ?_
 obtain ⟨n1,e1,g1⟩:=aC ho fs;obtain ⟨n2,e2,g2⟩:=aU ho n1 1;obtain rfl:n2=k:=by omega
 have a7:n2.toNat<fs.length:=(ax.1 hf).1;have J:=ay ho hk0 hf;have e4:=ay ho h3 hc;have e5:=ay ho h4 hi;obtain ⟨U,e6,g6⟩:=bk ho n4 1;obtain ⟨j,rfl,e7⟩:∃z,z=L4/\o.set fs n2 (.agg [.int .i64 n3,.int .i64 U,.own (31,4) l2])=z:=⟨_,rfl,by rw[ho.set,hL4,show U=p1 by omega]⟩
 have ae:j[n2.toNat]? =some (.agg [.int .i64 n3,.int .i64 p1,.own (31,4) l2]):=by rw[hL4];exact cq a7
 conv=>lhs;cbv;rw[e1];cbv;rw[e2];cbv;rw[J];cbv;(try (rw[J];cbv));rw[e4];cbv;(try (rw[J];cbv));rw[e5];cbv;(try (rw[J];cbv));rw[e6];cbv;(try (rw[J];cbv));rw[e7];cbv
 iterate 8 (conv=>lhs;simp (disch:=omega) only [bN ho,cX ho];cbv)
 have S:j.length=fs.length:=by rw[hL4,List.length_set]
 have e:=call_ ho j st c_0 c_1 n7 n8 s2 n9 hC hCb at' V q0 m1 I q1 a0 O a1 a3 hst a4 a5 (by
  intro x O;rw[hL4]at O;rcases List.mem_or_eq_of_mem_set O with h | h
  ·exact a6 x h
  rw[h];rfl) (by omega)
 rw[S]at e;by_cases E:(fs.length:Int)=40
 ·have M:o.call 199 [.ptr (1,0) 0,Sc c_0 c_1,.agg [Ai n7,Ai n8,As s2,Ai n9]] [some (Ob (1,1) (1,2)),Oo j,Os st]=some ⟨Ai 5,[some (Ob (1,1) (1,2)),Oo j,Os st],[]⟩:=by rw[if_pos E]at e;exact e
  conv=>lhs;rw[M];cbv
  subst Q;rw[if_pos E];try rfl
 obtain ⟨l5,l6,a8,a9,M⟩:∃a b,a=j++[(.agg [.int .i64 at',.int .i64 0,.own (31,4) (cU I (st.drop ((st.length:Int)-n8).toNat))])]/\b=st.take ((st.length:Int)-n8).toNat/\o.call 199 [.ptr (1,0) 0,Sc c_0 c_1,.agg [Ai n7,Ai n8,As s2,Ai n9]] [some (Ob (1,1) (1,2)),Oo j,Os st]=some ⟨Ai 7,[some (Ob (0,0) (0,1)),none,none],[Oo a,Os b]⟩:=⟨_,_,rfl,rfl,by rw[if_neg E]at e;exact e⟩
 conv=>lhs;rw[M];cbv
 subst Q;rw[if_neg E,<-a8,<-a9];try rfl
theorem LA (a1:n7=10):o.call 104 [.ptr (1,0) 0,Sc c_0 c_1] [some (Ob (1,1) (1,2)),Oo fs,Os st]=some ⟨Ai 7,[some (Ob (1,1) (1,2)),Oo (fs.set k.toNat (.agg [.int .i64 n3,.int .i64 n9,.own (31,4) l2])),Os st],[]⟩:=by
 have hb:=hst.1;refine ho.aL λR Q=> ?_
 obtain ⟨n1,e1,g1⟩:=aC ho fs;obtain ⟨n2,e2,g2⟩:=aU ho n1 1;obtain rfl:n2=k:=by omega
 have J:n2.toNat<fs.length:=(ax.1 hf).1;have e:=ay ho hk0 hf;have e4:=ay ho h3 hc;have e5:=ay ho h4 hi;obtain ⟨j,e6,g6⟩:=bk ho n4 1;obtain ⟨E,rfl,e7⟩:∃z,z=L4/\o.set fs n2 (.agg [.int .i64 n3,.int .i64 j,.own (31,4) l2])=z:=⟨_,rfl,by rw[ho.set,hL4,show j=p1 by omega]⟩
 have M:E[n2.toNat]? =some (.agg [.int .i64 n3,.int .i64 p1,.own (31,4) l2]):=by rw[hL4];exact cq J
 conv=>lhs;cbv;rw[e1];cbv;rw[e2];cbv;rw[e];cbv;(try (rw[e];cbv));rw[e4];cbv;(try (rw[e];cbv));rw[e5];cbv;(try (rw[e];cbv));rw[e6];cbv;(try (rw[e];cbv));rw[e7];cbv
 iterate 10 (conv=>lhs;simp (disch:=omega) only [bN ho,cX ho];cbv)
 obtain ⟨O,a3,l6,⟨S,a4,U⟩,V⟩:∃a b c,(a=n3/\b=p1/\c=l2)/\o.cF E n2=some (.agg [.int .i64 a,.int .i64 b,.own (31,4) c]):=⟨_,_,_,⟨rfl,rfl,rfl⟩,ay ho hk0 M⟩
 obtain ⟨l7,I,a0⟩:∃z,z=fs.set n2.toNat (.agg [.int .i64 n3,.int .i64 n9,.own (31,4) l2])/\o.set E n2 (.agg [.int .i64 O,.int .i64 n9,.own (31,4) l6])=z:=⟨_,rfl,by rw[ho.set];rw[hL4,List.set_set,S,U]⟩
 conv=>lhs;rw[V];cbv;rw[a0];cbv
 subst Q;rw[<-I];try rfl
theorem LB (a0:n7=11):o.call 104 [.ptr (1,0) 0,Sc c_0 c_1] [some (Ob (1,1) (1,2)),Oo fs,Os st]=some ⟨Ai 2,[some (Ob (1,1) (1,2)),Oo L4,Os st],[]⟩:=by
 have hb:=hst.1;refine ho.aL λR Q=> ?_
 obtain ⟨n1,I,g1⟩:=aC ho fs;obtain ⟨n2,J,g2⟩:=aU ho n1 1;obtain rfl:n2=k:=by omega
 have E:n2.toNat<fs.length:=(ax.1 hf).1;have e:=ay ho hk0 hf;have M:=ay ho h3 hc;have O:=ay ho h4 hi;obtain ⟨j,S,g6⟩:=bk ho n4 1;obtain ⟨U,rfl,V⟩:∃z,z=L4/\o.set fs n2 (.agg [.int .i64 n3,.int .i64 j,.own (31,4) l2])=z:=⟨_,rfl,by rw[ho.set,hL4,show j=p1 by omega]⟩
 have a1:U[n2.toNat]? =some (.agg [.int .i64 n3,.int .i64 p1,.own (31,4) l2]):=by rw[hL4];exact cq E
 conv=>lhs;cbv;rw[I];cbv;rw[J];cbv;rw[e];cbv;(try (rw[e];cbv));rw[M];cbv;(try (rw[e];cbv));rw[O];cbv;(try (rw[e];cbv));rw[S];cbv;(try (rw[e];cbv));rw[V];cbv
 iterate 11 (conv=>lhs;simp (disch:=omega) only [bN ho];cbv)
 subst Q;rfl
theorem LC (a9:n7=12):o.call 104 [.ptr (1,0) 0,.sp [.lst c_0,.lst c_1] 0] [some (.box [.arr (1,1) (192,3) none false,.arr (1,2) (31,4) none false]),some (.orows (192,3) fs),some (.rows (31,4) st)]=some ⟨.d (.int .i64 (if k=0 then 0 else 7)),[some (.box [.arr (0,0) (192,3) none false,.arr (1,2) (31,4) none false]),none,some (.rows (31,4) st)],[some (.orows (192,3) (fs.take k.toNat))]⟩:=by
 have hb:=hst.1;refine ho.aL λR Q=> ?_
 obtain ⟨n1,e1,g1⟩:=aC ho fs;obtain ⟨n2,e2,g2⟩:=aU ho n1 1;obtain rfl:n2=k:=by omega
 have V:n2.toNat<fs.length:=(ax.1 hf).1;have e:=ay ho hk0 hf;have e4:=ay ho h3 hc;have e5:=ay ho h4 hi;obtain ⟨J,e6,g6⟩:=bk ho n4 1;obtain ⟨I,rfl,e7⟩:∃z,z=L4/\o.set fs n2 (.agg [.int .i64 n3,.int .i64 J,.own (31,4) l2])=z:=⟨_,rfl,by rw[ho.set,hL4,show J=p1 by omega]⟩
 have aa:I[n2.toNat]? =some (.agg [.int .i64 n3,.int .i64 p1,.own (31,4) l2]):=by rw[hL4];exact cq V
 conv=>lhs;cbv;rw[e1];cbv;rw[e2];cbv;rw[e];cbv;(try (rw[e];cbv));rw[e4];cbv;(try (rw[e];cbv));rw[e5];cbv;(try (rw[e];cbv));rw[e6];cbv;(try (rw[e];cbv));rw[e7];cbv
 iterate 11 (conv=>lhs;simp (disch:=omega) only [bN ho,cX ho];cbv)
 obtain ⟨a0,a1,ac⟩:=aC ho I;have a7:I.length=fs.length:=by rw[hL4,List.length_set]
 obtain ⟨M,a3,ae⟩:=aU ho a0 1;obtain ⟨O,ag,j⟩:∃v,v=M-0/\o.minus M 0=v:=⟨_,rfl,ho.minus _ _⟩
 obtain ⟨l5,E,S⟩:∃z,z=fs.take n2.toNat/\o.sub I 0 O=some z:=⟨_,rfl,by rw[iy ho (Int.le_refl _) (by omega) (by omega),show O=n2 by omega,hL4];exact congrArg some (by rw[show (0:Int).toNat=0 from rfl,List.drop_zero,List.take_set_of_le (Nat.le_refl _)])⟩
 have a8:(l5.length:Int)=n2:=by rw[E,List.length_take];omega
 obtain ⟨a4,a5,am⟩:=aC ho l5;conv=>lhs;rw[a1];cbv;rw[a3];cbv;rw[j];cbv;rw[S];cbv;(try (rw[j];cbv));rw[ho.isZero];cbv;(try (rw[S];cbv));rw[a5];cbv;(try (rw[j];cbv))
 rcases av ho a4 0 with ⟨U,a6⟩|⟨U,a6⟩<;>(conv=>lhs;rw[U];cbv)
 ·subst Q;rw[if_neg (by omega),<-E];try rfl
 subst Q;rw[if_pos (by omega),<-E];try rfl
end
end
section
variable {o:aM} (ho:aQ cu bw o)
include ho
theorem O4 (fs st c_0 c_1:Lq) (hst:stk o st) (k:Int) (hk:k=(fs.length:Int)-1) (hk0:0<=k) (hkb:k<=100) (n3 n4:Int) (l2:Lq) (hf:fs[k.toNat]? =some (.agg [.int .i64 n3,.int .i64 n4,.own (31,4) l2])) (hSl:∀x∈l2,Sl o x) (h3:0<=n3) (s1:By) (n5 n6:Int) (l3:Lq) (hc:c_0[n3.toNat]? =some (.agg [.str s1,.int .i64 n5,.int .i64 n6,.lst l3])) (h4:0<=n4) (h4b:n4<=5000) (n7 n8:Int) (s2:By) (n9:Int) (hi:l3[n4.toNat]? =some (.agg [.int .i64 n7,.int .i64 n8,.str s2,.int .i64 n9])) (p1:Int) (hp1:p1=n4+1) (L4:Lq) (hL4:L4=fs.set k.toNat (.agg [.int .i64 n3,.int .i64 p1,.own (31,4) l2])) (a9:n7=9) (h1:1<=(st.length:Int)) (J M:Int) (O:By) (S:Lq) (ht:st[((st.length:Int)-1).toNat]? =some (.agg [.int .i64 J,.int .i64 M,.str O,.lst S])) (sl:Int) (hS:(l2.length:Int)=sl) (a5:sl<=400) (a6:0<=n8) (e j:Int) (E:By) (I:Lq) (hp:c_1[n8.toNat]? =some (.agg [.int .i64 e,.int .i64 j,.str E,.lst I])) {m:Nat} (hP:Tm m (.agg [.int .i64 e,.int .i64 j,.str E,.lst I])) (hM:dM o sl 10 (.agg [.int .i64 e,.int .i64 j,.str E,.lst I])<=300):o.call 104 [.ptr (1,0) 0,Sc c_0 c_1] [some (Ob (1,1) (1,2)),Oo fs,Os st]=some (if (aH 10 (.agg [.int .i64 e,.int .i64 j,.str E,.lst I]) (.agg [.int .i64 J,.int .i64 M,.str O,.lst S]) l2).1=true then ⟨Ai 7,[some (Ob (1,1) (0,0)),Oo (L4.set k.toNat (.agg [.int .i64 n3,.int .i64 p1,.own (31,4) (aH 10 (.agg [.int .i64 e,.int .i64 j,.str E,.lst I]) (.agg [.int .i64 J,.int .i64 M,.str O,.lst S]) l2).2])),none],[Os (st.take ((st.length:Int)-1).toNat)]⟩else ⟨Ai 7,[some (Ob (1,1) (1,2)),Oo (L4.set k.toNat (.agg [.int .i64 n3,.int .i64 n9,.own (31,4) l2])),Os st],[]⟩):=by
 have hb:=hst.1;refine ho.aL λR Q=> ?_
 obtain ⟨n1,e1,g1⟩:=aC ho fs;obtain ⟨n2,e2,g2⟩:=aU ho n1 1;obtain rfl:n2=k:=by omega
 have a7:n2.toNat<fs.length:=(ax.1 hf).1;have e3:=ay ho hk0 hf;have e4:=ay ho h3 hc;have e5:=ay ho h4 hi;obtain ⟨a3,e6,g6⟩:=bk ho n4 1;obtain ⟨l4,rfl,e7⟩:∃z,z=L4/\o.set fs n2 (.agg [.int .i64 n3,.int .i64 a3,.own (31,4) l2])=z:=⟨_,rfl,by rw[ho.set,hL4,show a3=p1 by omega]⟩
 have a8:l4[n2.toNat]? =some (.agg [.int .i64 n3,.int .i64 p1,.own (31,4) l2]):=by rw[hL4];exact cq a7
 conv=>lhs;cbv;rw[e1];cbv;rw[e2];cbv;rw[e3];cbv;(try (rw[e3];cbv));rw[e4];cbv;(try (rw[e3];cbv));rw[e5];cbv;(try (rw[e3];cbv));rw[e6];cbv;(try (rw[e3];cbv));rw[e7];cbv
 iterate 9 (conv=>lhs;simp (disch:=omega) only [bN ho,cX ho];cbv)
 have V:=Lw ho l4 st c_0 c_1 n2 n7 n8 s2 n9 hst h1 _ _ _ _ ht hk0 n3 p1 l2 a8 sl hS a5 hSl a6 _ _ _ _ hp hP hM;cases a0:(aH 10 (.agg [.int .i64 e,.int .i64 j,.str E,.lst I]) (.agg [.int .i64 J,.int .i64 M,.str O,.lst S]) l2).1
 ·obtain ⟨l5,U,a1⟩:∃z,l4.set n2.toNat (.agg [.int .i64 n3,.int .i64 n9,.own (31,4) l2])=z/\o.call 200 [.ptr (1,0) 0,Sc c_0 c_1,.prow (1,1) (192,3) n2 0,.agg [Ai n7,Ai n8,As s2,Ai n9]] [some (Ob (1,1) (1,2)),Oo l4,Os st]=some ⟨Ai 7,[some (Ob (1,1) (1,2)),Oo z,Os st],[]⟩:=⟨_,rfl,by rw[a0,if_neg Bool.false_ne_true]at V;exact V⟩
  conv=>lhs;rw[a1];cbv
  subst Q;try rw[a0]
  first | (rw[if_pos rfl,U,a4];try rfl) | (rw[if_neg Bool.false_ne_true,U];try rfl)
 obtain ⟨l5,l6,U,a4,a1⟩:∃z w,l4.set n2.toNat (.agg [.int .i64 n3,.int .i64 p1,.own (31,4) (aH 10 (.agg [.int .i64 e,.int .i64 j,.str E,.lst I]) (.agg [.int .i64 J,.int .i64 M,.str O,.lst S]) l2).2])=z/\st.take ((st.length:Int)-1).toNat=w/\o.call 200 [.ptr (1,0) 0,Sc c_0 c_1,.prow (1,1) (192,3) n2 0,.agg [Ai n7,Ai n8,As s2,Ai n9]] [some (Ob (1,1) (1,2)),Oo l4,Os st]=some ⟨Ai 7,[some (Ob (1,1) (0,0)),Oo z,none],[Os w]⟩:=⟨_,_,rfl,rfl,by rw[a0,if_pos rfl]at V;exact V⟩
 conv=>lhs;rw[a1];cbv
 subst Q;try rw[a0]
 first | (rw[if_pos rfl,U,a4];try rfl) | (rw[if_neg Bool.false_ne_true,U];try rfl)
theorem Rh (fs st:Lq) (hst:stk o st) (i x_0 x_1:Int) (x_2:By) (x_3:Int) (E:x_0=1):o.call 189 [.ptr (1,0) 0,.prow (1,1) (192,3) i 0,.agg [Ai x_0,Ai x_1,As x_2,Ai x_3]] [some (Ob (1,1) (1,2)),Op fs,Os st]=some ⟨Ai 0,[some (Ob (1,1) (0,0)),Op fs,none],[Os (st++[(.agg [.int .i64 1,.int .i64 x_1,.str ⟨#[]⟩,.lst []])])]⟩:=by
 have I:=hst.1;refine ho.aL λR Q=> ?_
 obtain ⟨l1,e,j⟩:∃z,st++[(.agg [.int .i64 1,.int .i64 x_1,.str ⟨#[]⟩,.lst []])]=z/\o.call 284 [.ptr (1,0) 0,At 1 x_1 ⟨#[]⟩ []] [some (Ob (1,1) (1,2)),Op fs,Os st]=some ⟨.tup [],[some (Ob (1,1) (0,0)),Op fs,none],[Os z]⟩:=⟨_,rfl,rG ho fs st _ _ _ _ hst⟩
 conv=>lhs;cbv;simp (disch:=omega) only [cX ho];cbv;rw[ho.cmp];cbv;rw[j];cbv
 subst Q;rw[e];try rfl
theorem Ri (fs st:Lq) (hst:stk o st) (i x_0 x_1:Int) (x_2:By) (x_3:Int) (E:x_0=2):o.call 189 [.ptr (1,0) 0,.prow (1,1) (192,3) i 0,.agg [Ai x_0,Ai x_1,As x_2,Ai x_3]] [some (Ob (1,1) (1,2)),Op fs,Os st]=some ⟨Ai 0,[some (Ob (1,1) (0,0)),Op fs,none],[Os (st++[(.agg [.int .i64 2,.int .i64 0,.str x_2,.lst []])])]⟩:=by
 have I:=hst.1;refine ho.aL λR Q=> ?_
 conv=>lhs;cbv
 iterate 2 (conv=>lhs;simp (disch:=omega) only [bN ho,cX ho];cbv)
 obtain ⟨l1,e,j⟩:∃z,st++[(.agg [.int .i64 2,.int .i64 0,.str x_2,.lst []])]=z/\o.call 284 [.ptr (1,0) 0,At 2 0 x_2 []] [some (Ob (1,1) (1,2)),Op fs,Os st]=some ⟨.tup [],[some (Ob (1,1) (0,0)),Op fs,none],[Os z]⟩:=⟨_,rfl,rG ho fs st _ _ _ _ hst⟩
 conv=>lhs;rw[ho.cmp];cbv;rw[j];cbv
 subst Q;rw[e];try rfl
theorem Rj (fs st:Lq) (hst:stk o st) (i x_0 x_1:Int) (x_2:By) (x_3:Int) (V:x_0=3) (E:0<=i) (n1 n2:Int) (l1:Lq) (hf:fs[i.toNat]? =some (.agg [.int .i64 n1,.int .i64 n2,.lst l1])) (I:0<=x_1) (n3 n4:Int) (s1:By) (l2:Lq) (J:l1[x_1.toNat]? =some (.agg [.int .i64 n3,.int .i64 n4,.str s1,.lst l2])) (hSl:Sl o (.agg [.int .i64 n3,.int .i64 n4,.str s1,.lst l2])):o.call 189 [.ptr (1,0) 0,.prow (1,1) (192,3) i 0,.agg [Ai x_0,Ai x_1,As x_2,Ai x_3]] [some (Ob (1,1) (1,2)),Op fs,Os st]=some (if cE (.agg [.int .i64 n3,.int .i64 n4,.str s1,.lst l2]) nB=true then ⟨Ai 1,[some (Ob (1,1) (1,2)),Op fs,Os st],[]⟩else ⟨Ai 0,[some (Ob (1,1) (0,0)),Op fs,none],[Os (st++[(.agg [.int .i64 n3,.int .i64 n4,.str s1,.lst l2])])]⟩):=by
 have hb:=hst.1;refine ho.aL λR Q=> ?_
 conv=>lhs;cbv
 iterate 3 (conv=>lhs;simp (disch:=omega) only [bN ho,cX ho];cbv)
 have M:=ay ho E hf;have O:=ay ho I J;have S:o.call 202 [At n3 n4 s1 l2] []=Ar (At n3 n4 s1 l2):=mA ho 8 _ _ _ _ (NA hSl);conv=>lhs;rw[M];cbv;rw[O];cbv;rw[S];cbv
 cases e:cE (.agg [.int .i64 n3,.int .i64 n4,.str s1,.lst l2]) nB<;>(conv=>lhs;rw[I3 ho,e];cbv)
 ·obtain ⟨l3,j,U⟩:∃z,st++[(.agg [.int .i64 n3,.int .i64 n4,.str s1,.lst l2])]=z/\o.call 284 [.ptr (1,0) 0,At n3 n4 s1 l2] [some (Ob (1,1) (1,2)),Op fs,Os st]=some ⟨.tup [],[some (Ob (1,1) (0,0)),Op fs,none],[Os z]⟩:=⟨_,rfl,rG ho fs st _ _ _ _ hst⟩
  conv=>lhs;rw[ho.cmp];cbv;rw[U];cbv
  subst Q;try rw[e]
  first | (rw[if_pos rfl];try rfl) | (rw[if_neg Bool.false_ne_true,j];try rfl)
 subst Q;try rw[e]
 first | (rw[if_pos rfl];try rfl) | (rw[if_neg Bool.false_ne_true,j];try rfl)
theorem Rk (fs st:Lq) (hst:stk o st) (i x_0 x_1:Int) (x_2:By) (x_3:Int) (a0:x_0=4) (a1:0<=x_1) (a3:x_1<=20) (M:x_1<=st.length):o.call 189 [.ptr (1,0) 0,.prow (1,1) (192,3) i 0,.agg [Ai x_0,Ai x_1,As x_2,Ai x_3]] [some (Ob (1,1) (1,2)),Op fs,Os st]=some ⟨Ai (ig o 4 (st.drop ((st.length:Int)-x_1).toNat)).2,[some (Ob (1,1) (0,0)),Op fs,none],[Os (if (ig o 4 (st.drop ((st.length:Int)-x_1).toNat)).2=0 then st.take ((st.length:Int)-x_1).toNat++[(ig o 4 (st.drop ((st.length:Int)-x_1).toNat)).1]else st.take ((st.length:Int)-x_1).toNat)]⟩:=by
 have hb:=hst.1;refine ho.aL λR Q=> ?_
 conv=>lhs;cbv
 iterate 4 (conv=>lhs;simp (disch:=omega) only [bN ho,cX ho];cbv)
 obtain ⟨l1,l2,e,j,e5⟩:∃a b,a=st.drop ((st.length:Int)-x_1).toNat/\b=st.take ((st.length:Int)-x_1).toNat/\o.call 186 [.ptr (1,0) 0,Ai x_1] [some (Ob (1,1) (1,2)),Op fs,Os st]=some ⟨.arr (0,0) (31,4) none false,[some (Ob (1,1) (0,1)),Op fs,none],[Os a,Os b]⟩:=⟨_,_,rfl,rfl,Ee ho fs st x_1 hst (by omega) M _ rfl⟩
 have I:stk o l1:=by rw[e];exact jh hst
 have O:stk o l2:=by rw[j];exact lF hst
 have V:(l1.length:Int)=x_1:=by rw[e,List.length_drop];omega
 conv=>lhs;rw[e5];cbv
 obtain ⟨n1,n2,s1,l3,n3,E,a4,a5⟩:=qu (nX (k:=4) I.2 (by omega));have e6:o.call 282 [Ai 4,Al l1] []=Ar (.tup [At n1 n2 s1 l3,Ai n3]):=(Bn ho 4 l1 (by omega) I.2 (by omega) (by omega)).trans (by rw[E];rfl);rw[e]at E;conv=>lhs;rw[e6];cbv
 rcases av ho n3 0 with ⟨S,J⟩|⟨S,J⟩<;>(conv=>lhs;rw[S];cbv)
 ·subst Q;rw[E];show _=some (cn.mk (Ai n3) [some (Ob (1,1) (0,0)),Op fs,none] [Os (if n3=0 then st.take ((st.length:Int)-x_1).toNat++[(.agg [.int .i64 n1,.int .i64 n2,.str s1,.lst l3])]else st.take ((st.length:Int)-x_1).toNat)]);rw[if_neg J,<-j];try rfl
 obtain ⟨l4,U,e8⟩:∃z,l2++[(.agg [.int .i64 n1,.int .i64 n2,.str s1,.lst l3])]=z/\o.call 284 [.ptr (1,0) 0,At n1 n2 s1 l3] [some (Ob (1,1) (1,2)),Op fs,Os l2]=some ⟨.tup [],[some (Ob (1,1) (0,0)),Op fs,none],[Os z]⟩:=⟨_,rfl,rG ho fs l2 _ _ _ _ O⟩
 conv=>lhs;rw[e8];cbv
 subst Q;rw[E];show _=some (cn.mk (Ai n3) [some (Ob (1,1) (0,0)),Op fs,none] [Os (if n3=0 then st.take ((st.length:Int)-x_1).toNat++[(.agg [.int .i64 n1,.int .i64 n2,.str s1,.lst l3])]else st.take ((st.length:Int)-x_1).toNat)]);rw[if_pos J,<-j,U];try rfl
theorem Rm (fs st:Lq) (hst:stk o st) (i x_0 x_1:Int) (x_2:By) (x_3:Int) (a0:x_0=5) (a1:0<=x_1) (a3:x_1<=20) (M:x_1<=st.length):o.call 189 [.ptr (1,0) 0,.prow (1,1) (192,3) i 0,.agg [Ai x_0,Ai x_1,As x_2,Ai x_3]] [some (Ob (1,1) (1,2)),Op fs,Os st]=some ⟨Ai (ig o 5 (st.drop ((st.length:Int)-x_1).toNat)).2,[some (Ob (1,1) (0,0)),Op fs,none],[Os (if (ig o 5 (st.drop ((st.length:Int)-x_1).toNat)).2=0 then st.take ((st.length:Int)-x_1).toNat++[(ig o 5 (st.drop ((st.length:Int)-x_1).toNat)).1]else st.take ((st.length:Int)-x_1).toNat)]⟩:=by
 have hb:=hst.1;refine ho.aL λR Q=> ?_
 conv=>lhs;cbv
 iterate 5 (conv=>lhs;simp (disch:=omega) only [bN ho,cX ho];cbv)
 obtain ⟨l1,l2,e,j,e6⟩:∃a b,a=st.drop ((st.length:Int)-x_1).toNat/\b=st.take ((st.length:Int)-x_1).toNat/\o.call 186 [.ptr (1,0) 0,Ai x_1] [some (Ob (1,1) (1,2)),Op fs,Os st]=some ⟨.arr (0,0) (31,4) none false,[some (Ob (1,1) (0,1)),Op fs,none],[Os a,Os b]⟩:=⟨_,_,rfl,rfl,Ee ho fs st x_1 hst (by omega) M _ rfl⟩
 have I:stk o l1:=by rw[e];exact jh hst
 have O:stk o l2:=by rw[j];exact lF hst
 have V:(l1.length:Int)=x_1:=by rw[e,List.length_drop];omega
 conv=>lhs;rw[e6];cbv
 obtain ⟨n1,n2,s1,l3,n3,E,a4,a5⟩:=qu (nX (k:=5) I.2 (by omega));have e7:o.call 282 [Ai 5,Al l1] []=Ar (.tup [At n1 n2 s1 l3,Ai n3]):=(Bn ho 5 l1 (by omega) I.2 (by omega) (by omega)).trans (by rw[E];rfl);rw[e]at E;conv=>lhs;rw[e7];cbv
 rcases av ho n3 0 with ⟨S,J⟩|⟨S,J⟩<;>(conv=>lhs;rw[S];cbv)
 ·subst Q;rw[E];show _=some (cn.mk (Ai n3) [some (Ob (1,1) (0,0)),Op fs,none] [Os (if n3=0 then st.take ((st.length:Int)-x_1).toNat++[(.agg [.int .i64 n1,.int .i64 n2,.str s1,.lst l3])]else st.take ((st.length:Int)-x_1).toNat)]);rw[if_neg J,<-j];try rfl
 obtain ⟨l4,U,e9⟩:∃z,l2++[(.agg [.int .i64 n1,.int .i64 n2,.str s1,.lst l3])]=z/\o.call 284 [.ptr (1,0) 0,At n1 n2 s1 l3] [some (Ob (1,1) (1,2)),Op fs,Os l2]=some ⟨.tup [],[some (Ob (1,1) (0,0)),Op fs,none],[Os z]⟩:=⟨_,rfl,rG ho fs l2 _ _ _ _ O⟩
 conv=>lhs;rw[e9];cbv
 subst Q;rw[E];show _=some (cn.mk (Ai n3) [some (Ob (1,1) (0,0)),Op fs,none] [Os (if n3=0 then st.take ((st.length:Int)-x_1).toNat++[(.agg [.int .i64 n1,.int .i64 n2,.str s1,.lst l3])]else st.take ((st.length:Int)-x_1).toNat)]);rw[if_pos J,<-j,U];try rfl
theorem Rn (fs st:Lq) (hst:stk o st) (i x_0 x_1:Int) (x_2:By) (x_3:Int) (a1:x_0=6) (a3:1<=x_1) (a4:x_1<=20) (M:x_1<=st.length):o.call 189 [.ptr (1,0) 0,.prow (1,1) (192,3) i 0,.agg [Ai x_0,Ai x_1,As x_2,Ai x_3]] [some (Ob (1,1) (1,2)),Op fs,Os st]=some ⟨Ai (ig o 6 (st.drop ((st.length:Int)-x_1).toNat)).2,[some (Ob (1,1) (0,0)),Op fs,none],[Os (if (ig o 6 (st.drop ((st.length:Int)-x_1).toNat)).2=0 then st.take ((st.length:Int)-x_1).toNat++[(ig o 6 (st.drop ((st.length:Int)-x_1).toNat)).1]else st.take ((st.length:Int)-x_1).toNat)]⟩:=by
 have hb:=hst.1;refine ho.aL λR Q=> ?_
 conv=>lhs;cbv
 iterate 6 (conv=>lhs;simp (disch:=omega) only [bN ho,cX ho];cbv)
 obtain ⟨l1,l2,e,j,e7⟩:∃a b,a=st.drop ((st.length:Int)-x_1).toNat/\b=st.take ((st.length:Int)-x_1).toNat/\o.call 186 [.ptr (1,0) 0,Ai x_1] [some (Ob (1,1) (1,2)),Op fs,Os st]=some ⟨.arr (0,0) (31,4) none false,[some (Ob (1,1) (0,1)),Op fs,none],[Os a,Os b]⟩:=⟨_,_,rfl,rfl,Ee ho fs st x_1 hst (by omega) M _ rfl⟩
 have I:stk o l1:=by rw[e];exact jh hst
 have O:stk o l2:=by rw[j];exact lF hst
 have a0:(l1.length:Int)=x_1:=by rw[e,List.length_drop];omega
 conv=>lhs;rw[e7];cbv
 obtain ⟨n1,n2,s1,l3,n3,E,a5,a6⟩:=qu (nX (k:=6) I.2 (by omega));have e8:o.call 282 [Ai 6,Al l1] []=Ar (.tup [At n1 n2 s1 l3,Ai n3]):=(Bn ho 6 l1 (by omega) I.2 (by omega) (by omega)).trans (by rw[E];rfl);rw[e]at E;conv=>lhs;rw[e8];cbv
 rcases av ho n3 0 with ⟨S,J⟩|⟨S,J⟩<;>(conv=>lhs;rw[S];cbv)
 ·subst Q;rw[E];show _=some (cn.mk (Ai n3) [some (Ob (1,1) (0,0)),Op fs,none] [Os (if n3=0 then st.take ((st.length:Int)-x_1).toNat++[(.agg [.int .i64 n1,.int .i64 n2,.str s1,.lst l3])]else st.take ((st.length:Int)-x_1).toNat)]);rw[if_neg J,<-j];try rfl
 obtain ⟨l4,U,V⟩:∃z,l2++[(.agg [.int .i64 n1,.int .i64 n2,.str s1,.lst l3])]=z/\o.call 284 [.ptr (1,0) 0,At n1 n2 s1 l3] [some (Ob (1,1) (1,2)),Op fs,Os l2]=some ⟨.tup [],[some (Ob (1,1) (0,0)),Op fs,none],[Os z]⟩:=⟨_,rfl,rG ho fs l2 _ _ _ _ O⟩
 conv=>lhs;rw[V];cbv
 subst Q;rw[E];show _=some (cn.mk (Ai n3) [some (Ob (1,1) (0,0)),Op fs,none] [Os (if n3=0 then st.take ((st.length:Int)-x_1).toNat++[(.agg [.int .i64 n1,.int .i64 n2,.str s1,.lst l3])]else st.take ((st.length:Int)-x_1).toNat)]);rw[if_pos J,<-j,U];try rfl
theorem Ro (fs st:Lq) (hst:stk o st) (i x_0 x_1:Int) (x_2:By) (x_3:Int) (a7:x_0=7) (a0:2<=(st.length:Int)) (n1 n2:Int) (s1:By) (l3:Lq) (hA:(st.drop ((st.length:Int)-2).toNat)[0]? =some (.agg [.int .i64 n1,.int .i64 n2,.str s1,.lst l3])) (n3 n4:Int) (s2:By) (e:Lq) (hB:(st.drop ((st.length:Int)-2).toNat)[1]? =some (.agg [.int .i64 n3,.int .i64 n4,.str s2,.lst e])):o.call 189 [.ptr (1,0) 0,.prow (1,1) (192,3) i 0,.agg [Ai x_0,Ai x_1,As x_2,Ai x_3]] [some (Ob (1,1) (1,2)),Op fs,Os st]=some ⟨Ai (CN o x_2 (.agg [.int .i64 n1,.int .i64 n2,.str s1,.lst l3]) (.agg [.int .i64 n3,.int .i64 n4,.str s2,.lst e])).2,[some (Ob (1,1) (0,0)),Op fs,none],[Os (if (CN o x_2 (.agg [.int .i64 n1,.int .i64 n2,.str s1,.lst l3]) (.agg [.int .i64 n3,.int .i64 n4,.str s2,.lst e])).2=0 then st.take ((st.length:Int)-2).toNat++[(CN o x_2 (.agg [.int .i64 n1,.int .i64 n2,.str s1,.lst l3]) (.agg [.int .i64 n3,.int .i64 n4,.str s2,.lst e])).1]else st.take ((st.length:Int)-2).toNat)]⟩:=by
 have hb:=hst.1;refine ho.aL λR Q=> ?_
 conv=>lhs;cbv
 iterate 6 (conv=>lhs;simp (disch:=omega) only [bN ho];cbv)
 obtain ⟨l1,l2,j,E,e7⟩:∃a b,a=st.drop ((st.length:Int)-2).toNat/\b=st.take ((st.length:Int)-2).toNat/\o.call 186 [.ptr (1,0) 0,Ai 2] [some (Ob (1,1) (1,2)),Op fs,Os st]=some ⟨.arr (0,0) (31,4) none false,[some (Ob (1,1) (0,1)),Op fs,none],[Os a,Os b]⟩:=⟨_,_,rfl,rfl,Ee ho fs st 2 hst (by omega) a0 _ rfl⟩
 have a8:stk o l1:=by rw[j];exact jh hst
 have a1:stk o l2:=by rw[E];exact lF hst
 have a6:(l1.length:Int)=2:=by rw[j,List.length_drop];omega
 have e8:o.cF l1 0=some (.agg [.int .i64 n1,.int .i64 n2,.str s1,.lst l3]):=ay ho (by omega) (by rw[j];exact hA);have e9:o.cF l1 1=some (.agg [.int .i64 n3,.int .i64 n4,.str s2,.lst e]):=ay ho (by omega) (by rw[j];exact hB);have O:Rt o 8 (.agg [.int .i64 n1,.int .i64 n2,.str s1,.lst l3]):=hst.2 _ (List.mem_of_mem_drop (List.mem_of_getElem? hA));have S:Rt o 8 (.agg [.int .i64 n3,.int .i64 n4,.str s2,.lst e]):=hst.2 _ (List.mem_of_mem_drop (List.mem_of_getElem? hB));obtain ⟨n5,n6,I,J,n7,V,a9,aa⟩:=qu (Br ho x_2 O S);have a3:o.call 283 [As x_2,At n1 n2 s1 l3,At n3 n4 s2 e] []=Ar (.tup [At n5 n6 I J,Ai n7]):=(GK ho x_2 _ _ _ _ _ _ _ _ O S).trans (by rw[V];rfl);conv=>lhs;rw[e7];cbv;rw[e8];cbv;(try (rw[e8];cbv));rw[e9];cbv;(try (rw[e9];cbv));rw[a3];cbv
 rcases av ho n7 0 with ⟨U,M⟩|⟨U,M⟩<;>(conv=>lhs;rw[U];cbv)
 ·subst Q;rw[V];show _=some (cn.mk (Ai n7) [some (Ob (1,1) (0,0)),Op fs,none] [Os (if n7=0 then st.take ((st.length:Int)-2).toNat++[(.agg [.int .i64 n5,.int .i64 n6,.str I,.lst J])]else st.take ((st.length:Int)-2).toNat)]);rw[if_neg M,<-E];try rfl
 obtain ⟨l6,a4,a5⟩:∃z,l2++[(.agg [.int .i64 n5,.int .i64 n6,.str I,.lst J])]=z/\o.call 284 [.ptr (1,0) 0,At n5 n6 I J] [some (Ob (1,1) (1,2)),Op fs,Os l2]=some ⟨.tup [],[some (Ob (1,1) (0,0)),Op fs,none],[Os z]⟩:=⟨_,rfl,rG ho fs l2 _ _ _ _ a1⟩
 conv=>lhs;rw[a5];cbv
 subst Q;rw[V];show _=some (cn.mk (Ai n7) [some (Ob (1,1) (0,0)),Op fs,none] [Os (if n7=0 then st.take ((st.length:Int)-2).toNat++[(.agg [.int .i64 n5,.int .i64 n6,.str I,.lst J])]else st.take ((st.length:Int)-2).toNat)]);rw[if_pos M,<-E,a4];try rfl
end
end T2
