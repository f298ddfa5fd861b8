import Derived.Test.YtfnagkpidcdocaaGreatM41
set_option linter.all false
namespace T2
open Go Go.Vi
set_option maxRecDepth 100000
set_option maxHeartbeats 4000000
def iU (a0:List D) (n1 i:Int) (y:List D):St:=⟨E 19 [(3,.arr (16,0) (31,4) none false),(6,Al a0),(7,Ai n1),(8,Ai i)],O 19 [(16,[Os y])]⟩
def eO (y:List D):St:=⟨E 19 [(3,.arr (16,0) (31,4) none false)],O 19 [(16,[Os y])]⟩
def jN (a0:List D) (i:Int) (y:List D):St:=⟨E 21 [(0,Al a0),(3,.arr (19,0) (31,4) none false),(4,Ai i)],O 21 [(19,[Os y])]⟩
def fV (y:List D):St:=⟨E 21 [(3,.arr (19,0) (31,4) none false)],O 21 [(19,[Os y])]⟩
def iV (a0:List D) (i:Int) (y:List D):St:=⟨E 21 [(0,Al a0),(3,.arr (19,0) (31,4) none false),(4,Ai i)],O 21 [(19,[Os y])]⟩
def eP (y:List D):St:=⟨E 21 [(3,.arr (19,0) (31,4) none false)],O 21 [(19,[Os y])]⟩
section
variable {o:aJ} (ho:aR cF bB o)
include ho
def mZ (fs:List D) (n1 i:Int) (l1 y:List D):St:=⟨E 32 [(2,.ptr (2,0) 0),(3,.ptr (3,0) 0),(11,Al fs),(12,Ai n1),(13,Ai i)],O 32 [(2,[some (.box [.emp,.emp])]),(3,[some (Ob (28,0) (8,0))]),(8,[Oq l1]),(28,[Oo y])]⟩
def iW (l1 y:List D):St:=⟨E 32 [(2,.ptr (2,0) 0),(3,.ptr (3,0) 0)],O 32 [(2,[some (.box [.emp,.emp])]),(3,[some (Ob (28,0) (8,0))]),(8,[Oq l1]),(28,[Oo y])]⟩
def kN (fs:List D) (n1 i:Int) (l1 y:List D):St:=⟨E 32 [(2,.ptr (2,0) 0),(3,.ptr (3,0) 0),(11,Al fs),(12,Ai n1),(13,Ai i)],O 32 [(2,[some (.box [.emp,.emp])]),(3,[some (Ob (28,0) (8,0))]),(8,[Os l1]),(28,[Oo y])]⟩
def gB (l1 y:List D):St:=⟨E 32 [(2,.ptr (2,0) 0),(3,.ptr (3,0) 0)],O 32 [(2,[some (.box [.emp,.emp])]),(3,[some (Ob (28,0) (8,0))]),(8,[Os l1]),(28,[Oo y])]⟩
def lX (fs st:List D) (i:Int) (l1 y:List D):St:=⟨E 33 [(1,.sp [.lst fs,.lst st] 0),(2,.ptr (2,0) 0),(3,.ptr (3,0) 0),(4,Ai i)],O 33 [(2,[some (.box [.emp,.emp])]),(3,[some (Ob (30,0) (8,0))]),(8,[Os l1]),(30,[Op y])]⟩
def h_ (l1 y:List D):St:=⟨E 33 [(2,.ptr (2,0) 0),(3,.ptr (3,0) 0)],O 33 [(2,[some (.box [.emp,.emp])]),(3,[some (Ob (30,0) (8,0))]),(8,[Os l1]),(30,[Op y])]⟩
omit ho in
theorem Iz (ho:aR cF bB o) {m:Nat} {xs:List D} (h:∀x∈xs,Tm m x):o.flat xs=true:=by
 rw[ho.flat,List.all_eq_true];intro x hx;obtain ⟨_,k,n,s,l,_,rfl,_⟩:=bP (h x hx);rfl
def G5:D->D
 | .agg [a,b,.lst S]=> .agg [a,b,.own (31,4) S]
 | x=>x
omit ho in
theorem sN {m:Nat} {fs:List D} (h:∀x∈fs,Kq m x):(∀z∈fs,z.cells.length=3)/\(∀z∈bQ fs,z.cells.length=3)/\∀z∈fs.map G5,z.cells.length=3:=by
 refine ⟨λz hz=> ?_,λz hz=> ?_,λz hz=> ?_⟩
 ·obtain ⟨F,p,S,rfl,_⟩:=h z hz;rfl
 ·rw[gh]at hz;obtain ⟨x,hx,rfl⟩:=List.mem_map.1 hz;obtain ⟨F,p,S,rfl,_⟩:=h x hx;rfl
 ·obtain ⟨x,hx,rfl⟩:=List.mem_map.1 hz;obtain ⟨F,p,S,rfl,_⟩:=h x hx;rfl
theorem Bz {d:Nat} (a0_0 a0_1:Int) (a0_2:ByteArray) (a0_3:List D) (hT:Tm d (.agg [.int .i64 a0_0,.int .i64 a0_1,.str a0_2,.lst a0_3])):o.call 100105 [At a0_0 a0_1 a0_2 a0_3] []=Ar (At a0_0 a0_1 a0_2 a0_3):=by
 obtain ⟨d',hd,hs,hl,hT⟩:=iC hT;refine ho.aC λR Q=> ?_
 obtain ⟨l1,hw,e1⟩:∃z,z=bQ a0_3/\o.call 193 [Al a0_3] []=some ⟨.arr (0,0) (31,4) none false,[],[Oq z]⟩:=⟨_,rfl,ng ho d' (mB ho d') a0_3 hT hl⟩
 obtain ⟨l2,hw2,e2⟩:∃z,z=a0_3/\o.bS l1=z:=⟨_,rfl,(ho.bS _).trans (by rw[hw];exact pE hT)⟩
 conv=>lhs;cbv;rw[e1];cbv;rw[e2];cbv
 subst Q;rw[hw2]
theorem Lu {m:Nat} (a0:List D) (hT:∀x∈a0,Tm m x) (n1:Int) (hn:(a0.length:Int)=n1) (hl:n1<=1048576):∀i:Int,0<=i->i<=(n1:Int)->∀y:List D,y=a0.take i.toNat->o.loop 10019300 (iU a0 n1 i y)=some (.exit 0,eO a0):=by
 refine bV (P:=λi=>∀y:List D,y=a0.take i.toNat->o.loop 10019300 (iU a0 n1 i y)=some (.exit 0,eO a0)) (n1:Int) ?_;intro i h0 h1 ih;try dsimp only at ih |-
 intro y hy;refine ho.dO λR Q=> ?_
 conv=>lhs;cbv
 rcases aZ ho i n1 with ⟨e1,g1⟩|⟨e1,g1⟩<;>(conv=>lhs;rw[e1];cbv)
 ·subst Q;show some (Out.exit 0,eO y)=_;rw[hy,List.take_of_length_le (by omega)]
 ·obtain ⟨x,hx0,hx1,hx2⟩:=ax hn h0 (by omega);obtain ⟨m',n2,n3,s1,l1,hd',rfl,hs,hl1,ht⟩:=bP (hT _ hx2);have e2:=ak ho h0 hx0;have e3:o.call 100105 [At n2 n3 s1 l1] []=Ar (At n2 n3 s1 l1):=Bz ho _ _ _ _ (hT _ hx2);obtain ⟨l2,hap⟩:∃z,z=a0.take (i+1).toNat:=⟨_,rfl⟩
  have e4:o.app y [.agg [.int .i64 n2,.int .i64 n3,.str s1,.lst l1]]=l2:=(ho.app _ _).trans (by rw[hy,hap,m9 h0 hx0]);have e5:o.fits 4 56 l2=true:=by exact cn ho (by rw[hap,List.length_take];omega) (by decide) (by rw[hap];exact λz hz=>rp (hT z (List.mem_of_mem_take hz)))
  obtain ⟨n4,e6,g6⟩:=aW ho i 1;conv=>lhs;rw[e2];cbv;rw[e3];cbv;rw[e4];cbv;rw[e5];cbv;rw[e6];cbv
  subst Q;rw[show n4=i+1 by omega];exact ih (by omega) _ hap
theorem Lv {m:Nat} (a0:List D) (hT:∀x∈a0,Tm m x) (n1:Int) (hn:(a0.length:Int)=n1) (hl:n1<=1048576):∀i:Int,0<=i->i<=(n1:Int)->∀y:List D,y=a0.take i.toNat->o.loop 16700 (jN a0 i y)=some (.exit 0,fV a0):=by
 refine bV (P:=λi=>∀y:List D,y=a0.take i.toNat->o.loop 16700 (jN a0 i y)=some (.exit 0,fV a0)) (n1:Int) ?_;intro i h0 h1 ih;try dsimp only at ih |-
 intro y hy;refine ho.dO λR Q=> ?_
 have e1:o.len a0=n1:=(iI ho _).trans hn;conv=>lhs;cbv;rw[e1];cbv
 rcases aZ ho i n1 with ⟨e2,g2⟩|⟨e2,g2⟩<;>(conv=>lhs;rw[e2];cbv)
 ·subst Q;show some (Out.exit 0,fV y)=_;rw[hy,List.take_of_length_le (by omega)]
 ·obtain ⟨x,hx0,hx1,hx2⟩:=ax hn h0 (by omega);obtain ⟨m',n2,n3,s1,l1,hd',rfl,hs,hl1,ht⟩:=bP (hT _ hx2);have e3:=ak ho h0 hx0;have e4:o.call 202 [At n2 n3 s1 l1] []=Ar (At n2 n3 s1 l1):=pF ho m _ _ _ _ (hT _ hx2);obtain ⟨l2,hap⟩:∃z,z=a0.take (i+1).toNat:=⟨_,rfl⟩
  have e5:o.app y [.agg [.int .i64 n2,.int .i64 n3,.str s1,.lst l1]]=l2:=(ho.app _ _).trans (by rw[hy,hap,m9 h0 hx0]);have e6:o.fits 4 56 l2=true:=by exact cn ho (by rw[hap,List.length_take];omega) (by decide) (by rw[hap];exact λz hz=>rp (hT z (List.mem_of_mem_take hz)))
  obtain ⟨n4,e7,g7⟩:=aW ho i 1;conv=>lhs;rw[e3];cbv;rw[e4];cbv;rw[e5];cbv;rw[e6];cbv;rw[e7];cbv
  subst Q;rw[show n4=i+1 by omega];exact ih (by omega) _ hap
theorem IA {m:Nat} (a0:List D) (hT:∀x∈a0,Tm m x) (n1:Int) (hn:(a0.length:Int)=n1) (hl:n1<=1048576):∀i:Int,0<=i->i<=(n1:Int)->∀y:List D,y=a0.take i.toNat->o.loop 10016700 (iV a0 i y)=some (.exit 0,eP a0):=by
 refine bV (P:=λi=>∀y:List D,y=a0.take i.toNat->o.loop 10016700 (iV a0 i y)=some (.exit 0,eP a0)) (n1:Int) ?_;intro i h0 h1 ih;try dsimp only at ih |-
 intro y hy;refine ho.dO λR Q=> ?_
 have e1:o.len a0=n1:=(iI ho _).trans hn;conv=>lhs;cbv;rw[e1];cbv
 rcases aZ ho i n1 with ⟨e2,g2⟩|⟨e2,g2⟩<;>(conv=>lhs;rw[e2];cbv)
 ·subst Q;show some (Out.exit 0,eP y)=_;rw[hy,List.take_of_length_le (by omega)]
 ·obtain ⟨x,hx0,hx1,hx2⟩:=ax hn h0 (by omega);obtain ⟨m',n2,n3,s1,l1,hd',rfl,hs,hl1,ht⟩:=bP (hT _ hx2);have e3:=ak ho h0 hx0;have e4:o.call 202 [At n2 n3 s1 l1] []=Ar (At n2 n3 s1 l1):=pF ho m _ _ _ _ (hT _ hx2);obtain ⟨l2,hap⟩:∃z,z=a0.take (i+1).toNat:=⟨_,rfl⟩
  have e5:o.app y [.agg [.int .i64 n2,.int .i64 n3,.str s1,.lst l1]]=l2:=(ho.app _ _).trans (by rw[hy,hap,m9 h0 hx0]);have e6:o.fits 4 56 l2=true:=by exact cn ho (by rw[hap,List.length_take];omega) (by decide) (by rw[hap];exact λz hz=>rp (hT z (List.mem_of_mem_take hz)))
  obtain ⟨n4,e7,g7⟩:=aW ho i 1;conv=>lhs;rw[e3];cbv;rw[e4];cbv;rw[e5];cbv;rw[e6];cbv;rw[e7];cbv
  subst Q;rw[show n4=i+1 by omega];exact ih (by omega) _ hap
theorem tM {m:Nat} (a0:List D) (hT:∀x∈a0,Tm m x) (hl:(a0.length:Int)<=1048576):o.call 100193 [Al a0] []=some ⟨.arr (0,0) (31,4) none false,[],[Os a0]⟩:=by
 refine ho.aC λR Q=> ?_
 obtain ⟨n1,e1,g1⟩:∃n,o.len a0=n/\n=a0.length:=⟨_,iI ho _,rfl⟩
 conv=>lhs;cbv;rw[e1];cbv
 obtain ⟨l1,hw,e2⟩:∃z,z=a0/\o.loop 10019300 (iU a0 n1 0 [])=some (.exit 0,eO z):=⟨_,rfl,Lu ho a0 hT _ (by omega) (by omega) 0 (Int.le_refl _) (by omega) [] rfl⟩
 conv at e2=>lhs;cbv
 conv=>lhs;rw[e2];cbv
 subst Q;rw[hw]
theorem Fb {m:Nat} (a0:List D) (hT:∀x∈a0,Tm m x) (hl:(a0.length:Int)<=1048576):o.call 167 [Al a0] []=Ar (Al a0):=by
 refine ho.aC λR Q=> ?_
 conv=>lhs;cbv
 obtain ⟨l1,hw,e1⟩:∃z,z=a0/\o.loop 16700 (jN a0 0 [])=some (.exit 0,fV z):=⟨_,rfl,Lv ho a0 hT _ rfl hl 0 (Int.le_refl _) (by omega) [] rfl⟩
 conv at e1=>lhs;cbv
 conv=>lhs;rw[e1];cbv
 subst Q;rw[hw]
theorem DK {m:Nat} (a0:List D) (hT:∀x∈a0,Tm m x) (hl:(a0.length:Int)<=1048576):o.call 100167 [Al a0] []=some ⟨.arr (0,0) (31,4) none false,[],[Os a0]⟩:=by
 refine ho.aC λR Q=> ?_
 conv=>lhs;cbv
 obtain ⟨l1,hw,e1⟩:∃z,z=a0/\o.loop 10016700 (iV a0 0 [])=some (.exit 0,eP z):=⟨_,rfl,IA ho a0 hT _ rfl hl 0 (Int.le_refl _) (by omega) [] rfl⟩
 conv at e1=>lhs;cbv
 conv=>lhs;rw[e1];cbv
 subst Q;rw[hw]
theorem Nx {m:Nat} (fs:List D) (hV:∀x∈fs,Kq m x) (n1:Int) (hn:(fs.length:Int)=n1) (hl:n1<=1048576) (l1:List D):∀i:Int,0<=i->i<=(n1:Int)->∀y:List D,y=bQ (fs.take i.toNat)->o.loop 10300 (mZ fs n1 i l1 y)=some (.exit 0,iW l1 (bQ fs)):=by
 refine bV (P:=λi=>∀y:List D,y=bQ (fs.take i.toNat)->o.loop 10300 (mZ fs n1 i l1 y)=some (.exit 0,iW l1 (bQ fs))) (n1:Int) ?_;intro i h0 h1 ih;try dsimp only at ih |-
 intro y hy;refine ho.dO λR Q=> ?_
 conv=>lhs;cbv
 rcases aZ ho i n1 with ⟨e1,g1⟩|⟨e1,g1⟩<;>(conv=>lhs;rw[e1];cbv)
 ·subst Q;show some (Out.exit 0,iW l1 y)=_;rw[hy,List.take_of_length_le (by omega)]
 ·obtain ⟨x,hx0,hx1,hx2⟩:=ax hn h0 (by omega);obtain ⟨n2,n3,l2,rfl,hl2,hT2⟩:=hV _ hx2;have e2:=ak ho h0 hx0;obtain ⟨l3,hw,e3⟩:∃z,z=bQ l2/\o.call 193 [Al l2] []=some ⟨.arr (0,0) (31,4) none false,[],[Oq z]⟩:=⟨_,rfl,ng ho m (mB ho m) l2 hT2 hl2⟩
  obtain ⟨n4,n5,l5,⟨hz1,hz2,hz3⟩,e4⟩:∃a b c,(a=n2/\b=n3/\c=([]:List D))/\o.dD [.agg [.int .i64 n2,.int .i64 n3,.own (31,4) []]] 0=some (.agg [.int .i64 a,.int .i64 b,.own (31,4) c]):=⟨_,_,_,⟨rfl,rfl,rfl⟩,ak ho (Int.le_refl _) rfl⟩
  obtain ⟨l6,hz4,e5⟩:∃z,z=[.agg [.int .i64 n4,.int .i64 n5,.own (31,4) l3]]/\o.set [.agg [.int .i64 n2,.int .i64 n3,.own (31,4) []]] 0 (.agg [.int .i64 n4,.int .i64 n5,.own (31,4) l3])=z:=⟨_,rfl,by rw[ho.set];rfl⟩
  obtain ⟨l7,hap⟩:∃z,z=bQ (fs.take (i+1).toNat):=⟨_,rfl⟩
  have e6:o.app y l6=l7:=(ho.app _ _).trans (by rw[hy,hap,m9 h0 hx0,z_,hz4,hz1,hz2,hw];rfl);subst hz4;have e7:o.fits 3 40 l7=true:=by exact cn ho (by rw[hap];simp only[gR,List.length_map,List.length_take];omega) (by decide) (by rw[hap];exact (sN λz hz=>hV z (List.mem_of_mem_take hz)).2.1)
  obtain ⟨n6,e8,g8⟩:=aW ho i 1;conv=>lhs;rw[e2];cbv;rw[e3];cbv;rw[e4];cbv;rw[e5];cbv;rw[e6];cbv;rw[e7];cbv;rw[e8];cbv
  subst Q;rw[show n6=i+1 by omega];exact ih (by omega) _ hap
theorem Ny {m:Nat} (fs:List D) (hV:∀x∈fs,Kq m x) (n1:Int) (hn:(fs.length:Int)=n1) (hl:n1<=1048576) (l1:List D):∀i:Int,0<=i->i<=(n1:Int)->∀y:List D,y=(fs.take i.toNat).map G5->o.loop 10010300 (kN fs n1 i l1 y)=some (.exit 0,gB l1 (fs.map G5)):=by
 refine bV (P:=λi=>∀y:List D,y=(fs.take i.toNat).map G5->o.loop 10010300 (kN fs n1 i l1 y)=some (.exit 0,gB l1 (fs.map G5))) (n1:Int) ?_;intro i h0 h1 ih;try dsimp only at ih |-
 intro y hy;refine ho.dO λR Q=> ?_
 conv=>lhs;cbv
 rcases aZ ho i n1 with ⟨e1,g1⟩|⟨e1,g1⟩<;>(conv=>lhs;rw[e1];cbv)
 ·subst Q;show some (Out.exit 0,gB l1 y)=_;rw[hy,List.take_of_length_le (by omega)]
 ·obtain ⟨x,hx0,hx1,hx2⟩:=ax hn h0 (by omega);obtain ⟨n2,n3,l2,rfl,hl2,hT2⟩:=hV _ hx2;have e2:=ak ho h0 hx0;obtain ⟨l3,hw,e3⟩:∃z,z=l2/\o.call 100193 [Al l2] []=some ⟨.arr (0,0) (31,4) none false,[],[Os z]⟩:=⟨_,rfl,tM ho l2 hT2 hl2⟩
  obtain ⟨n4,n5,l5,⟨hz1,hz2,hz3⟩,e4⟩:∃a b c,(a=n2/\b=n3/\c=([]:List D))/\o.dD [.agg [.int .i64 n2,.int .i64 n3,.own (31,4) []]] 0=some (.agg [.int .i64 a,.int .i64 b,.own (31,4) c]):=⟨_,_,_,⟨rfl,rfl,rfl⟩,ak ho (Int.le_refl _) rfl⟩
  have e5:o.flat l3=true:=by exact Iz ho (by rw[hw];exact hT2)
  obtain ⟨l6,hz4,e6⟩:∃z,z=[.agg [.int .i64 n4,.int .i64 n5,.own (31,4) l3]]/\o.set [.agg [.int .i64 n2,.int .i64 n3,.own (31,4) []]] 0 (.agg [.int .i64 n4,.int .i64 n5,.own (31,4) l3])=z:=⟨_,rfl,by rw[ho.set];rfl⟩
  obtain ⟨l7,hap⟩:∃z,z=(fs.take (i+1).toNat).map G5:=⟨_,rfl⟩
  have e7:o.app y l6=l7:=(ho.app _ _).trans (by rw[hy,hap,m9 h0 hx0,List.map_append,hz4,hz1,hz2,hw];rfl);subst hz4;have e8:o.fits 3 40 l7=true:=by exact cn ho (by rw[hap];simp only[gR,List.length_map,List.length_take];omega) (by decide) (by rw[hap];exact (sN λz hz=>hV z (List.mem_of_mem_take hz)).2.2)
  obtain ⟨n6,e9,g9⟩:=aW ho i 1;conv=>lhs;rw[e2];cbv;rw[e3];cbv;rw[e4];cbv;rw[e5];cbv;rw[e6];cbv;rw[e7];cbv;rw[e8];cbv;rw[e9];cbv
  subst Q;rw[show n6=i+1 by omega];exact ih (by omega) _ hap
theorem Nz {m:Nat} (fs:List D) (hV:∀x∈fs,Kq m x) (n1:Int) (hn:(fs.length:Int)=n1) (hl:n1<=1048576) (st l1:List D):∀i:Int,0<=i->i<=(n1:Int)->∀y:List D,y=(fs.take i.toNat)->o.loop 9900 (lX fs st i l1 y)=some (.exit 0,h_ l1 (fs)):=by
 refine bV (P:=λi=>∀y:List D,y=(fs.take i.toNat)->o.loop 9900 (lX fs st i l1 y)=some (.exit 0,h_ l1 (fs))) (n1:Int) ?_;intro i h0 h1 ih;try dsimp only at ih |-
 intro y hy;refine ho.dO λR Q=> ?_
 have e1:o.len fs=n1:=(iI ho _).trans hn;conv=>lhs;cbv;rw[e1];cbv
 rcases aZ ho i n1 with ⟨e2,g2⟩|⟨e2,g2⟩<;>(conv=>lhs;rw[e2];cbv)
 ·subst Q;show some (Out.exit 0,h_ l1 y)=_;rw[hy,List.take_of_length_le (by omega)]
 ·obtain ⟨x,hx0,hx1,hx2⟩:=ax hn h0 (by omega);obtain ⟨n2,n3,l2,rfl,hl2,hT2⟩:=hV _ hx2;have e3:=ak ho h0 hx0;have e4:o.call 167 [Al l2] []=Ar (Al l2):=Fb ho l2 hT2 hl2;obtain ⟨l3,hap⟩:∃z,z=(fs.take (i+1).toNat):=⟨_,rfl⟩
  have e5:o.app y [.agg [.int .i64 n2,.int .i64 n3,.lst l2]]=l3:=(ho.app _ _).trans (by rw[hy,hap,m9 h0 hx0]);have e6:o.fits 3 40 l3=true:=by exact cn ho (by rw[hap];simp only[gR,List.length_map,List.length_take];omega) (by decide) (by rw[hap];exact (sN λz hz=>hV z (List.mem_of_mem_take hz)).1)
  obtain ⟨n4,e7,g7⟩:=aW ho i 1;conv=>lhs;rw[e3];cbv;rw[e4];cbv;rw[e5];cbv;rw[e6];cbv;rw[e7];cbv
  subst Q;rw[show n4=i+1 by omega];exact ih (by omega) _ hap
theorem CM {m:Nat} (fs st:List D) (hV:Iy m fs st):o.call 103 [.agg [Al fs,Al st]] []=some ⟨.agg [.arr (0,0) (192,3) none false,.arr (0,1) (31,4) none false],[],[Oo (bQ fs),Oq (bQ st)]⟩:=by
 obtain ⟨hF,hFl,hT,hTl⟩:=hV;refine ho.aC λR Q=> ?_
 obtain ⟨l1,hw,e1⟩:∃z,z=bQ st/\o.call 193 [Al st] []=some ⟨.arr (0,0) (31,4) none false,[],[Oq z]⟩:=⟨_,rfl,ng ho m (mB ho m) st hT hTl⟩
 obtain ⟨n1,e2,g2⟩:∃n,o.len fs=n/\n=fs.length:=⟨_,iI ho _,rfl⟩
 conv=>lhs;cbv;rw[e1];cbv;rw[e2];cbv
 obtain ⟨l2,hw2,e3⟩:∃z,z=bQ fs/\o.loop 10300 (mZ fs n1 0 l1 [])=some (.exit 0,iW l1 z):=⟨_,rfl,Nx ho fs hF n1 g2.symm (by omega) l1 0 (Int.le_refl _) (by omega) [] rfl⟩
 conv at e3=>lhs;cbv
 conv=>lhs;rw[e3];cbv
 subst Q;rw[hw,hw2]
theorem Fc {m:Nat} (fs st:List D) (hV:Iy m fs st):o.call 100103 [.agg [Al fs,Al st]] []=some ⟨.agg [.arr (0,0) (192,3) none false,.arr (0,1) (31,4) none false],[],[Oo (fs.map G5),Os (st)]⟩:=by
 obtain ⟨hF,hFl,hT,hTl⟩:=hV;refine ho.aC λR Q=> ?_
 obtain ⟨l1,hw,e1⟩:∃z,z=st/\o.call 100193 [Al st] []=some ⟨.arr (0,0) (31,4) none false,[],[Os z]⟩:=⟨_,rfl,tM ho st hT hTl⟩
 obtain ⟨n1,e2,g2⟩:∃n,o.len fs=n/\n=fs.length:=⟨_,iI ho _,rfl⟩
 conv=>lhs;cbv;rw[e1];cbv;rw[e2];cbv
 obtain ⟨l2,hw2,e3⟩:∃z,z=fs.map G5/\o.loop 10010300 (kN fs n1 0 l1 [])=some (.exit 0,gB l1 z):=⟨_,rfl,Ny ho fs hF n1 g2.symm (by omega) l1 0 (Int.le_refl _) (by omega) [] rfl⟩
 conv at e3=>lhs;cbv
 conv=>lhs;rw[e3];cbv
 subst Q;rw[hw,hw2]
theorem Fe {m:Nat} (fs st:List D) (hV:Iy m fs st):o.call 99 [.agg [Al fs,Al st]] []=some ⟨.agg [.arr (0,0) (192,3) none false,.arr (0,1) (31,4) none false],[],[Op (fs),Os (st)]⟩:=by
 obtain ⟨hF,hFl,hT,hTl⟩:=hV;refine ho.aC λR Q=> ?_
 obtain ⟨l1,hw,e1⟩:∃z,z=st/\o.call 100167 [Al st] []=some ⟨.arr (0,0) (31,4) none false,[],[Os z]⟩:=⟨_,rfl,DK ho st hT hTl⟩
 conv=>lhs;cbv;rw[e1];cbv
 obtain ⟨l2,hw2,e2⟩:∃z,z=fs/\o.loop 9900 (lX fs st 0 l1 [])=some (.exit 0,h_ l1 z):=⟨_,rfl,Nz ho fs hF _ rfl hFl st l1 0 (Int.le_refl _) (by omega) [] rfl⟩
 conv at e2=>lhs;cbv
 conv=>lhs;rw[e2];cbv
 subst Q;rw[hw,hw2]
end
def Z4 (k n:Int) (s:ByteArray) (l:List D):Prop:=k=0/\n=0/\s=⟨#[]⟩/\l=[]
def GV (o:aJ) (r:Option bW) (c k n:Int) (s:ByteArray) (l fs st:List D):Prop:=
 (c≠0/\Z4 k n s l/\r=some ⟨.tup [.agg [.arr (0,0) (192,3) none false,.arr (0,1) (31,4) none false],zT,.d (.int .i64 c)],[],[some (.orows (192,3) (bQ fs)),some (.orows (31,4) (bQ st))]⟩)
 \/(c=0/\fs=[]/\st=[]/\Rt o 8 (.agg [.int .i64 k,.int .i64 n,.str s,.lst l])/\r=some ⟨.tup [.agg [.emp,.emp],.agg [.d (.int .i64 k),.d (.int .i64 n),.d (.str s),.arr (0,0) (31,4) none false],.d (.int .i64 0)],[],[some (.orows (31,4) (bQ l))]⟩)
def SV (r:Option bW) (c k n:Int) (s:ByteArray) (l fs st:List D):Prop:=r=some ⟨.tup [.agg [.d (.lst fs),.d (.lst st)],.agg [.d (.int .i64 k),.d (.int .i64 n),.d (.str s),.d (.lst l)],.d (.int .i64 c)],[],[]⟩
theorem zZ {o:aJ} {fns:List D}:∀(R:List Fr) (g:Fr),qp o fns (R++[g])=qp o fns R+(fH o fns g-1)
 | [],g=>by simp[qp]
 | h::R,g=>by simp only[List.cons_append,qp,zZ R g];omega
theorem Ff {R:List Fr} {f:Fr}:(gS R f).map G5=gI R f:=by
 simp only[gS,gI,List.map_append,List.map_map,List.map_cons,List.map_nil];rfl
section
variable {o:aJ} (ho:aR cF bB o) {fns ps:List D} (hK:f8 fns ps)
include ho hK
theorem Ks (hB:cJ o fns ps true=true) {m:Nat} {F p:Int} {S:List D} (hT:∀t∈S,Tm m t) (h:nY o fns F p S=true):sL o fns (F,p,S):=by
 obtain ⟨nm,a,sl,xs,hx,hF,hp,hl,hs,_⟩:=sM ho hK hB h;refine ⟨hF.1,hF.2,nm,a,sl,xs,hx,hp.1,hp.2,hl,λt ht=> ?_⟩;have:=List.all_eq_true.1 hs t ht;unfold qt at this;rw[Bool.or_eq_true]at this;rcases this with h | h
 ·exact .inl (lu h)
 ·exact .inr (Bw (hT t ht) h)
theorem DL (hB:cJ o fns ps true=true) {m:Nat}:∀(l:List D) (x:D) (s:Int),(∀y∈x::l,Kq m y)->wW o fns (x::l)=some s->∃R f,x::l=gS R f/\(∀g∈R,sL o fns g/\1<=fH o fns g)/\sL o fns f/\s=fH o fns f+qp o fns R:=by
 intro l;induction l with
 | nil=>
  intro x s hV h;obtain ⟨F,p,S,rfl,hl,hT⟩:=hV x (by simp);rw[zY]at h;by_cases hf:nY o fns F p S=true
  ·rw[if_pos hf]at h;injection h with h;exact ⟨[],(F,p,S),rfl,λg hg=>(by cases hg),Ks ho hK hB hT hf,by simp[qp,h]⟩
  ·rw[if_neg hf]at h;cases h
 | cons y l ih=>
  intro x s hV h;obtain ⟨F,p,S,rfl,hl,hT⟩:=hV x (by simp);obtain ⟨G,q,T,hy,hl2,hT2⟩:=hV y (by simp);rw[zX (by rw[hy])]at h;by_cases hf:(nY o fns F p S&&qO fns F p G)=true
  ·rw[if_pos hf]at h;cases hq:wW o fns (y::l)with
   | none=>rw[hq]at h;cases h
   | some s'=>
    rw[hq]at h;simp only[Option.map_some,Option.some.injEq]at h;obtain ⟨R,f,e,Q,hfo,hs⟩:=ih y s' (λz hz=>hV z (List.mem_cons_of_mem _ hz)) hq;have hc:=Bx ho hK hB (ba hf).1 (ba hf).2;refine ⟨R++[(F,p,S)],f,?_,λg hg=> ?_,hfo,?_⟩
    ·rw[e];simp[gS,dS]
    ·rcases List.mem_append.1 hg with h1 | h1
     ·exact Q g h1
     ·rw[List.mem_singleton.1 h1];exact ⟨Ks ho hK hB hT (ba hf).1,hc.1⟩
    ·rw[zZ,<-h,hs];omega
  ·rw[if_neg hf]at h;cases h
theorem inv_of (hB:cJ o fns ps true=true) {m:Nat} {fs st:List D} (hV:Iy m fs st) (h:Em o fns fs st=true):∃R f,fs=gS R f/\Inv o fns R f st:=by
 have h1:=bH (ba h).1;have h2:=(ba (ba h).2).1;have h3:=of_decide_eq_true (ba (ba h).2).2;cases fs with
 | nil=>simp at h1
 | cons x l=>
  obtain ⟨R,f,e,Q,hf,hs⟩:=DL ho hK hB l x _ hV.1 h3;refine ⟨R,f,e,?_,Q,hf,hs,λt ht=>Bw (hV.2.2.1 t ht) (List.all_eq_true.1 h2 t ht)⟩;rw[e,show gS R f=R.reverse.map dS++[dS f]from rfl,ES]at h1;omega
omit hK
section
variable {fs st:List D}
theorem Kt {F S:List D} (e1:o.call 90 [.agg [Al fns,Al ps]] []=Ar (Ab false)\/o.call 90 [.agg [Al fns,Al ps]] []=Ar (Ab true)/\o.call 102 [.sp [.lst fns,.lst ps] 0,.agg [Al fs,Al st]] []=Ar (Ab false))
  (e2:o.call 103 [.agg [Al fs,Al st]] []=some ⟨.agg [.arr (0,0) (192,3) none false,.arr (0,1) (31,4) none false],[],[Oo F,Oq S]⟩):
  o.call 30 [.agg [Al fns,Al ps],.agg [Al fs,Al st]] []=some ⟨.tup [.agg [.arr (0,0) (192,3) none false,.arr (0,1) (31,4) none false],zT,Ai 1],[],[Oo F,Oq S]⟩:=by
 refine ho.aC λR Q=> ?_
 rcases e1 with e1 | ⟨e1,e3⟩
 ·conv=>lhs;cbv;rw[e1];cbv;rw[e2];cbv
  exact Q
 ·conv=>lhs;cbv;rw[e1];cbv;rw[e3];cbv;rw[e2];cbv
  exact Q
variable (e1:o.call 90 [.agg [Al fns,Al ps]] []=Ar (Ab true)) (e2:o.call 102 [.sp [.lst fns,.lst ps] 0,.agg [Al fs,Al st]] []=Ar (Ab true)) {l1 l2 F S:List D} (e3:o.call 100103 [.agg [Al fs,Al st]] []=some ⟨.agg [.arr (0,0) (192,3) none false,.arr (0,1) (31,4) none false],[],[Oo l1,Os l2]⟩)
include e1 e2 e3
theorem Lw {F' A B:List D} (hp:Ir (o.call 104 [.ptr (1,0) 0,.sp [.lst fns,.lst ps] 0] [bx (1,1) (1,2),Oo l1,Os l2]) 7 F S) (e5:o.bS F=F') (e6:o.call 103 [.agg [Al F',Al S]] []=some ⟨.agg [.arr (0,0) (192,3) none false,.arr (0,1) (31,4) none false],[],[Oo A,Oq B]⟩):
  o.call 30 [.agg [Al fns,Al ps],.agg [Al fs,Al st]] []=some ⟨.tup [.agg [.arr (0,0) (192,3) none false,.arr (0,1) (31,4) none false],zT,Ai 7],[],[Oo A,Oq B]⟩:=by
 refine ho.aC λR Q=> ?_
 have e4:o.cmp .eql 7 7=true:=cw ho rfl;conv=>lhs;cbv;rw[e1];cbv;rw[e2];cbv;rw[e3];cbv
 unfold Ir bx at hp;rcases hp with e | e | e | e<;>(conv=>lhs;rw[e];cbv;rw[e4];cbv;rw[e5];cbv;rw[e6];cbv)
 all_goals exact Q
theorem NA {k n:Int} {s:ByteArray} {l A:List D} (hp:Ir (o.call 104 [.ptr (1,0) 0,.sp [.lst fns,.lst ps] 0] [bx (1,1) (1,2),Oo l1,Os l2]) 0 F [.agg [.int .i64 k,.int .i64 n,.str s,.lst l]])
  (e7:o.call 105 [At k n s l] []=some ⟨.agg [Ai k,Ai n,As s,.arr (0,0) (31,4) none false],[],[Oq A]⟩):
  o.call 30 [.agg [Al fns,Al ps],.agg [Al fs,Al st]] []=some ⟨.tup [.agg [.emp,.emp],.agg [Ai k,Ai n,As s,.arr (0,0) (31,4) none false],Ai 0],[],[Oq A]⟩:=by
 refine ho.aC λR Q=> ?_
 have e4:o.cmp .eql 0 7=false:=bC ho (by omega);have e5:o.cmp .eql 0 0=true:=cw ho rfl;have e6:o.dD [(.agg [.int .i64 k,.int .i64 n,.str s,.lst l]:D)] 0=some (.agg [.int .i64 k,.int .i64 n,.str s,.lst l]):=ak ho (by omega) rfl;conv=>lhs;cbv;rw[e1];cbv;rw[e2];cbv;rw[e3];cbv
 unfold Ir bx at hp;rcases hp with e | e | e | e<;>(conv=>lhs;rw[e];cbv;rw[e4];cbv;rw[e5];cbv;rw[e6];cbv;rw[e6];cbv;rw[e7];cbv)
 all_goals exact Q
theorem IB {c:Int} {A B:List D} (hp:Ir (o.call 104 [.ptr (1,0) 0,.sp [.lst fns,.lst ps] 0] [bx (1,1) (1,2),Oo l1,Os l2]) c F S) (h7:c≠7) (h0:c≠0) (e6:o.call 103 [.agg [Al fs,Al st]] []=some ⟨.agg [.arr (0,0) (192,3) none false,.arr (0,1) (31,4) none false],[],[Oo A,Oq B]⟩):
  o.call 30 [.agg [Al fns,Al ps],.agg [Al fs,Al st]] []=some ⟨.tup [.agg [.arr (0,0) (192,3) none false,.arr (0,1) (31,4) none false],zT,Ai c],[],[Oo A,Oq B]⟩:=by
 refine ho.aC λR Q=> ?_
 have e4:o.cmp .eql c 7=false:=bC ho h7;have e5:o.cmp .eql c 0=false:=bC ho h0;conv=>lhs;cbv;rw[e1];cbv;rw[e2];cbv;rw[e3];cbv
 unfold Ir bx at hp;rcases hp with e | e | e | e<;>(conv=>lhs;rw[e];cbv;rw[e4];cbv;rw[e5];cbv;rw[e6];cbv)
 all_goals exact Q
end
section
variable {fs st l1 l2 F S:List D} (e2:o.call 99 [.agg [Al fs,Al st]] []=some ⟨.agg [.arr (0,0) (192,3) none false,.arr (0,1) (31,4) none false],[],[Op l1,Os l2]⟩)
include e2
theorem Ku (e1:o.call 62 [.agg [Al fns,Al ps],.agg [Al fs,Al st]] []=Ar (Ab false)):SV (o.call 28 [.agg [Al fns,Al ps],.agg [Al fs,Al st]] []) 1 0 0 ⟨#[]⟩ [] l1 l2:=by
 refine ho.aC λR Q=> ?_
 conv=>lhs;cbv;rw[e1];cbv;rw[e2];cbv
 exact Q
variable (e1:o.call 62 [.agg [Al fns,Al ps],.agg [Al fs,Al st]] []=Ar (Ab true))
include e1
theorem Lx (hp:Iu (o.call 100 [.agg [Al fns,Al ps],.ptr (1,0) 0] [bx (1,1) (1,2),Op l1,Os l2]) zT 7 F S):SV (o.call 28 [.agg [Al fns,Al ps],.agg [Al fs,Al st]] []) 7 0 0 ⟨#[]⟩ [] F S:=by
 refine ho.aC λR Q=> ?_
 have e4:o.cmp .neq 7 7=false:=Ot ho rfl;conv=>lhs;cbv;rw[e1];cbv;rw[e2];cbv
 unfold Iu bx zT at hp;rcases hp with e | e | e | e<;>(conv=>lhs;rw[e];cbv;rw[e4];cbv)
 all_goals exact Q
theorem NC {k n:Int} {s:ByteArray} {l:List D} (hp:Iu (o.call 100 [.agg [Al fns,Al ps],.ptr (1,0) 0] [bx (1,1) (1,2),Op l1,Os l2]) (At k n s l) 0 F S):SV (o.call 28 [.agg [Al fns,Al ps],.agg [Al fs,Al st]] []) 0 k n s l F S:=by
 refine ho.aC λR Q=> ?_
 have e4:o.cmp .neq 0 7=true:=Ml ho (by omega);have e5:o.cmp .neq 0 0=false:=Ot ho rfl;conv=>lhs;cbv;rw[e1];cbv;rw[e2];cbv
 unfold Iu bx at hp;rcases hp with e | e | e | e<;>(conv=>lhs;rw[e];cbv;rw[e4];cbv;rw[e5];cbv)
 all_goals exact Q
theorem IC {c:Int} (hp:Iu (o.call 100 [.agg [Al fns,Al ps],.ptr (1,0) 0] [bx (1,1) (1,2),Op l1,Os l2]) zT c F S) (h7:c≠7) (h0:c≠0):SV (o.call 28 [.agg [Al fns,Al ps],.agg [Al fs,Al st]] []) c 0 0 ⟨#[]⟩ [] l1 l2:=by
 refine ho.aC λR Q=> ?_
 have e4:o.cmp .neq c 7=true:=Ml ho h7;have e5:o.cmp .neq c 0=true:=Ml ho h0;conv=>lhs;cbv;rw[e1];cbv;rw[e2];cbv
 unfold Iu bx zT at hp;rcases hp with e | e | e | e<;>(conv=>lhs;rw[e];cbv;rw[e4];cbv;rw[e5];cbv;rw[e2];cbv)
 all_goals exact Q
end
include hK
theorem IE (hB:cJ o fns ps true=true) {R:List Fr} {f:Fr} {st:List D} (h:Inv o fns R f st):Iy 8 (gS R f) st/\aT (gI R f)=gS R f:=by
 have key:∀g:Fr,sL o fns g->(g.2.2.length:Int)<=400/\∀t∈g.2.2,Tm 8 t:=λg hg=>by
  obtain ⟨nm,a,sl,xs,op,N,s,to,_,_,_,_,_,_,_,_,hS,hsl,hSl,_⟩:=CH ho hK hB hg;exact ⟨by omega,λt ht=>CF (hSl t ht)⟩
 have hstk:=CI ho hK hB h;have hall:∀g∈f::R,sL o fns g:=λg hg=>by
  rcases List.mem_cons.1 hg with h1 | h1
  ·rw[h1];exact h.2.2.1
  ·exact (h.2.1 g h1).1
 have hmem:∀x∈gS R f,∃g∈f::R,x=dS g:=λx hx=>by
  rcases List.mem_append.1 hx with h1 | h1
  ·obtain ⟨g,hg,rfl⟩:=List.mem_map.1 h1;exact ⟨g,List.mem_cons_of_mem _ (List.mem_reverse.1 hg),rfl⟩
  ·rw[List.mem_singleton.1 h1];exact ⟨f,by simp,rfl⟩
 have hn:(gS R f).length=R.length+1:=by simp[gS]
 have h40:=h.1;have hst:=hstk.1.1;refine ⟨⟨λx hx=> ?_,by omega,λt ht=>iS (h.2.2.2.2 t ht),by omega⟩,?_⟩
 ·obtain ⟨g,hg,rfl⟩:=hmem x hx;have hk:=key g (hall g hg);exact ⟨_,_,_,rfl,by omega,hk.2⟩
 ·rw[eG,<-Ff,List.map_map];refine (List.map_congr_left (g:=id) λx hx=> ?_).trans (List.map_id _);obtain ⟨g,hg,rfl⟩:=hmem x hx;have hS:∀t∈g.2.2,bn t=t:=λt ht=>by
   obtain ⟨_,k,n,s,l,_,rfl,_⟩:=bP ((key g (hall g hg)).2 t ht);rfl
  show D.agg [.int .i64 g.1,.int .i64 g.2.1,.lst (aT g.2.2)]=dS g;rw[eG,(List.map_congr_left (g:=id) λt ht=>hS t ht).trans (List.map_id _)];rfl
theorem z6 {m:Nat} {fs st:List D} (hV:Iy m fs st):∃c k n s l fs' st',GV o (o.call 30 [.agg [Al fns,Al ps],.agg [Al fs,Al st]] []) c k n s l fs' st'/\SV (o.call 28 [.agg [Al fns,Al ps],.agg [Al fs,Al st]] []) c k n s l fs' st'/\((fs'=fs/\st'=st)\/(fs'=[]/\st'=[])\/cJ o fns ps true=true/\∃R f,fs'=gS R f/\Inv o fns R f st'):=by
 have hC:=ED ho fns ps hK;rw[EC hK.1 ho]at hC;have hSV:=Ls ho fns ps hK fs st hV;have hcp:=CM ho fs st hV;have hlc:=Fe ho fs st hV;cases hB:cJ o fns ps true
 ·rw[hB]at hC hSV;exact ⟨1,0,0,⟨#[]⟩,[],fs,st,.inl ⟨by omega,⟨rfl,rfl,rfl,rfl⟩,Kt ho (.inl hC) hcp⟩,Ku ho hlc hSV,.inl ⟨rfl,rfl⟩⟩
 rw[hB]at hC hSV;have hIV:=Lr ho fns ps hK hB fs st hV;cases hM:Em o fns fs st
 ·rw[hM]at hIV hSV;exact ⟨1,0,0,⟨#[]⟩,[],fs,st,.inl ⟨by omega,⟨rfl,rfl,rfl,rfl⟩,Kt ho (.inr ⟨hC,hIV⟩) hcp⟩,Ku ho hlc hSV,.inl ⟨rfl,rfl⟩⟩
 rw[hM]at hIV hSV;obtain ⟨R,f,e,hI⟩:=inv_of ho hK hB hV hM;have hc1:=Fc ho fs st hV;have hfO:fs.map G5=gI R f:=by rw[e];exact Ff
 rw[hfO]at hc1;rcases DJ ho hK hB hI with ⟨R',f',st',hI',pI,pS⟩ | ⟨k,n,s,l,F,hrt,pI,pS⟩ | ⟨c,F,st',F2,st2,h7,h0,pI,pS⟩
 ·obtain ⟨hV',hfz⟩:=IE ho hK hB hI';refine ⟨7,0,0,⟨#[]⟩,[],gS R' f',st',.inl ⟨by omega,⟨rfl,rfl,rfl,rfl⟩,Lw ho hC hIV hc1 pI ((ho.bS _).trans hfz) (CM ho _ _ hV')⟩,Lx ho hlc hSV (by rw[e];exact pS),.inr (.inr ⟨rfl,R',f',rfl,hI'⟩)⟩
 ·exact ⟨0,k,n,s,l,[],[],.inr ⟨rfl,rfl,rfl,hrt,NA ho hC hIV hc1 pI (mB ho 8 k n s l (iS hrt))⟩,NC ho hlc hSV (by rw[e];exact pS),.inr (.inl ⟨rfl,rfl⟩)⟩
 ·exact ⟨c,0,0,⟨#[]⟩,[],fs,st,.inl ⟨h0,⟨rfl,rfl,rfl,rfl⟩,IB ho hC hIV hc1 pI h7 h0 hcp⟩,IC ho hlc hSV (by rw[e];exact pS) h7 h0,.inl ⟨rfl,rfl⟩⟩
end
end T2
