import Derived.Test.YtfnagkpidcdocaaGreatM20
import Derived.Test.YtfnagkpidcdocaaGreatM17
set_option linter.all false
namespace T2
open Go Go.Vi
set_option maxRecDepth 100000
set_option maxHeartbeats 4000000
def El:D->Bool
 | .int _ n=>n != -1
 | _=>true
def Cr (d:Nat) (t:D):List D:=(kz d t).filter El
theorem tJ {p:D->Bool} {f:D->List D}:∀xs:List D,(dX f xs).filter p=dX (λx=>(f x).filter p) xs
 | []=>rfl
 | x::xs=>by simp only[dX,List.filter_append,tJ xs]
theorem Eo {d:Nat} {k n:Int} {s:ByteArray} {l:List D}:Cr (d+1) (.agg [.int .i64 k,.int .i64 n,.str s,.lst l])=(if k=3 then [.int .i64 n]else []).filter El++dX (Cr d) l:=by
 unfold Cr;rw[mC,List.filter_append,tJ]
theorem Kg {o:aJ} {sl:Int}:∀(d:Nat) (t:D),dc o sl d t<=300->∀y∈kz d t,∃n,y= .int .i64 n/\ -1<=n/\n<=sl-1:=by
 intro d t;unfold dc kz;split
 ·rename_i d _ k _ n s l;intro h;split at h
  ·rename_i hs;split at h
   ·rename_i hle;intro y hy;rcases List.mem_append.1 hy with g | g
    ·split at g
     ·rename_i hk;subst hk;rw[kF,af,af]at hs;have:=bH hs.2;rw[List.mem_singleton]at g;exact ⟨n,g,by omega⟩
     ·cases g
    ·have hq:∀xs:List D,(∀x∈xs,∀y∈kz d x,∃n,y= .int .i64 n/\ -1<=n/\n<=sl-1)->∀y∈dX (kz d) xs,∃n,y= .int .i64 n/\ -1<=n/\n<=sl-1:=by
      intro xs;induction xs with
      | nil=>intro _ y hy;cases hy
      | cons x xs ih=>
       intro hx y hy;rcases List.mem_append.1 hy with g | g
       ·exact hx x (by simp) y g
       ·exact ih (λz hz=>hx z (by simp[hz])) y g
     exact hq l (λx hx=>Kg (o:=o) (sl:=sl) d x (by have:=pD (f:=dc o sl d) (λx=>(iY o sl d x).1) hx;omega)) y g
   ·omega
  ·omega
 ·intro h;omega
noncomputable def okW:List D->List D->Bool
 | _,[]=>true
 | S,v::vs=> !gU v S&&okW (S++[v]) vs
theorem Kh:∀(vs S:List D),(∀y∈vs,∃n:Int,y= .int .i64 n/\ -1<=n)->okV S vs=okW (S.filter El) (vs.filter El)
 | [],S,_=>rfl
 | v::vs,S,h=>by
  obtain ⟨n,rfl,hn⟩:=h v (by simp);have ih:=Kh vs (S++[.int .i64 n]) λy hy=>h y (by simp[hy])
  simp only[okV];rw[ih,List.filter_append];by_cases e:n= -1
  ·subst e;rw[show Aa S (.int .i64 (-1))=true by unfold Aa;rfl];simp[El]
  ·have e1:El (.int .i64 n)=true:=by simp[El,e]
   rw[List.filter_cons_of_pos (by exact e1),List.filter_cons_of_pos (by exact e1),List.filter_nil];simp only[okW];congr 1;show (decide (n<0) || !gU (.int .i64 n) S)=_;rw[decide_eq_false (by omega:¬n<0),Bool.false_or];congr 1;cases g:gU (.int .i64 n) (S.filter El)
   ·exact BG λh=>BH g (List.mem_filter.2 ⟨h,e1⟩)
   ·exact vv (List.mem_filter.1 (sP g)).1
noncomputable def qU (o:aJ) (p:D) (sl:Int):Bool:=iK sl 0 400&&(decide (dc o sl 10 p<=300)&&okV [] (kz 10 p))
theorem Cs (d:Nat) (t:D):(Cr d t).length<=(kz d t).length:=List.length_filter_le _ _
section
variable {o:aJ} (ho:aR cF bB o)
include ho
def jX (a1 a2 i a0_0 a0_1:Int) (a0_2:ByteArray) (a0_3:List D) (i1:Int):St:=⟨E 46 [(1,Ai a1),(2,Ai a2),(3,Ai i),(4,.sp [.int .i64 a0_0,.int .i64 a0_1,.str a0_2,.lst a0_3] 0),(9,Ai i1)],O 46 []⟩
def fZ (i:Int):St:=⟨E 46 [(3,Ai i)],O 46 []⟩
def gO (a0_0 a0_1:Int) (a0_2:ByteArray) (a0_3:List D) (i:Int) (y:List D):St:=⟨E 35 [(1,.sp [.int .i64 a0_0,.int .i64 a0_1,.str a0_2,.lst a0_3] 0),(3,.arr (33,0) (3,1) none false),(4,Ai i)],O 35 [(33,[some (.rows (3,1) y)])]⟩
def fE (y:List D):St:=⟨E 35 [(3,.arr (33,0) (3,1) none false)],O 35 [(33,[some (.rows (3,1) y)])]⟩
def bU (l1:List D) (i:Int):St:=⟨E 39 [(5,Al l1),(6,Ai i)],O 39 []⟩
def bL (l1:List D) (i i1:Int):St:=⟨E 39 [(5,Al l1),(6,Ai i),(7,Ai i1)],O 39 []⟩
def gV (l1:List D) (i:Int):St:=⟨E 39 [(4,Ab false),(5,Al l1),(6,Ai i)],O 39 []⟩
def gW (l1:List D) (i:Int):St:=⟨E 39 [(5,Al l1),(6,Ai i)],O 39 []⟩
def gX:St:=⟨E 39 [(4,Ab false)],O 39 []⟩
def gY:St:=⟨E 39 [],O 39 []⟩
omit ho in
def OP (o:aJ) (sl:Int) (d:Nat):Prop:=∀m k n s l,Tm m (.agg [.int .i64 k,.int .i64 n,.str s,.lst l])->∀a b:Int,a=d->0<=b->b<=300->o.call 385 [.agg [.d (.int .i64 k),.d (.int .i64 n),.d (.str s),.d (.lst l)],.d (.int .i64 sl),.d (.int .i64 a),.d (.int .i64 b)] []=some ⟨.d (.int .i64 (if dc o sl d (.agg [.int .i64 k,.int .i64 n,.str s,.lst l])<=b then b-dc o sl d (.agg [.int .i64 k,.int .i64 n,.str s,.lst l])else-1)),[],[]⟩
omit ho in
def OQ (o:aJ) (sl:Int) (d:Nat):Prop:=∀m k n s l,Tm m (.agg [.int .i64 k,.int .i64 n,.str s,.lst l])->dc o sl d (.agg [.int .i64 k,.int .i64 n,.str s,.lst l])<=300->o.call 386 [.agg [.d (.int .i64 k),.d (.int .i64 n),.d (.str s),.d (.lst l)]] []=some ⟨.d (.lst (Cr d (.agg [.int .i64 k,.int .i64 n,.str s,.lst l]))),[],[]⟩
theorem G_ (a1:Int) (d:Nat) (hd:d<=9) (IH:OP o a1 d) (a2:Int) (ha2:a2=d+1) (a0_0 a0_1:Int) (a0_2:ByteArray) (a0_3:List D) (m:Nat) (hT:∀x∈a0_3,Tm m x) (n1:Int) (hn:(a0_3.length:Int)=n1) (hl:n1<=1048576):∀i1:Int,0<=i1->i1<=(n1:Int)->∀i:Int,-1<=i->i<=300->o.loop 38500 (jX a1 a2 i a0_0 a0_1 a0_2 a0_3 i1)=some (.exit 0,fZ (if bI (dc o a1 d) (a0_3.drop i1.toNat)<=i then i-bI (dc o a1 d) (a0_3.drop i1.toNat)else-1)):=by
 refine bV (P:=λi1=>∀i:Int,-1<=i->i<=300->o.loop 38500 (jX a1 a2 i a0_0 a0_1 a0_2 a0_3 i1)=some (.exit 0,fZ (if bI (dc o a1 d) (a0_3.drop i1.toNat)<=i then i-bI (dc o a1 d) (a0_3.drop i1.toNat)else-1))) (n1:Int) ?_;intro i1 h0 h1 ih;try dsimp only at ih |-
 intro i hc0 hc1;have s0:=eL (λx=>(iY o a1 d x).1) (a0_3.drop i1.toNat);refine ho.dO λR Q=> ?_
 have e1:o.len a0_3=n1:=(iI ho _).trans hn;conv=>lhs;cbv;rw[e1];cbv
 rcases aZ ho i1 n1 with ⟨e2,g2⟩|⟨e2,g2⟩<;>(conv=>lhs;rw[e2];cbv)
 ·subst Q;show some (Out.exit 0,fZ i)=_;rw[bf hn (by omega)];simp only[bI,Int.sub_zero];by_cases h:0<=i
  · rw[if_pos h]
  · rw[if_neg h,show i= -1 by omega]
 ·rcases je ho i 0 with ⟨e3,g3⟩|⟨e3,g3⟩<;>(conv=>lhs;rw[e3];cbv)
  ·subst Q;show some (Out.exit 0,fZ i)=_;rw[if_neg (by omega),show i= -1 by omega]
  ·obtain ⟨x,hx0,hx1,hx2⟩:=ax hn h0 g2;obtain ⟨m',n2,n3,s1,l1,hd',rfl,hs,hl,ht⟩:=bP (hT _ hx2);have e4:=ak ho h0 hx0;obtain ⟨n4,e5,g5⟩:=aO ho a2 1;have b4:=iY o a1 d (.agg [.int .i64 n2,.int .i64 n3,.str s1,.lst l1]);have s4:=eL (λx=>(iY o a1 d x).1) (a0_3.drop (i1+1).toNat);obtain ⟨n5,g6,e6⟩:∃n5,n5=(if dc o a1 d (.agg [.int .i64 n2,.int .i64 n3,.str s1,.lst l1])<=i then i-dc o a1 d (.agg [.int .i64 n2,.int .i64 n3,.str s1,.lst l1])else-1)/\o.call 385 [.agg [.d (.int .i64 n2),.d (.int .i64 n3),.d (.str s1),.d (.lst l1)],.d (.int .i64 a1),.d (.int .i64 n4),.d (.int .i64 i)] []=some ⟨.d (.int .i64 n5),[],[]⟩:=⟨_,rfl,IH _ _ _ _ _ (hT _ hx2) _ _ (by omega) (by omega) (by omega)⟩
   have h5: -1<=n5/\n5<=300:=by rw[g6];split<;>omega
   obtain ⟨n6,e7,g7⟩:=aW ho i1 1;conv=>lhs;rw[e4];cbv;rw[e5];cbv;rw[e6];cbv;rw[e7];cbv
   subst Q;show o.loop 38500 (jX a1 a2 n5 a0_0 a0_1 a0_2 a0_3 n6)=_;have ih2:=ih (by omega) n5 (by omega) (by omega);rw[show i1+1=n6 by omega]at ih2;refine ih2.trans ?_;rw[hx1,show i1+1=n6 by omega,sO];rw[show i1+1=n6 by omega]at s4;congr 3;split at g6<;>(repeat' split)<;>omega
theorem He (a1:Int) (hsl:0<=a1/\a1<=400) (d:Nat) (hd:d<=9) (IH:OP o a1 d) (m:Nat) (a0_0 a0_1:Int) (a0_2:ByteArray) (a0_3:List D) (hT:Tm m (.agg [.int .i64 a0_0,.int .i64 a0_1,.str a0_2,.lst a0_3])) (a2 a3:Int) (ha1:a2=d+1) (h2:0<=a3) (h3:a3<=300):o.call 385 [.agg [.d (.int .i64 a0_0),.d (.int .i64 a0_1),.d (.str a0_2),.d (.lst a0_3)],.d (.int .i64 a1),.d (.int .i64 a2),.d (.int .i64 a3)] []=some ⟨.d (.int .i64 (if dc o a1 (d+1) (.agg [.int .i64 a0_0,.int .i64 a0_1,.str a0_2,.lst a0_3])<=a3 then a3-dc o a1 (d+1) (.agg [.int .i64 a0_0,.int .i64 a0_1,.str a0_2,.lst a0_3])else-1)),[],[]⟩:=by
 obtain ⟨m,rfl,hs,hl,hT⟩:=iC hT;have s4:=eL (λx=>(iY o a1 d x).1) a0_3;have b4:=iY o a1 (d+1) (.agg [.int .i64 a0_0,.int .i64 a0_1,.str a0_2,.lst a0_3]);rcases aZ ho a2 1 with ⟨e1,g1⟩|⟨e1,g1⟩
 ·rcases aZ ho a3 1 with ⟨e2,g2⟩|⟨e2,g2⟩
  ·cases he3:gT o a0_0 a0_1 a0_2 a0_3.length a1
   ·have e3:o.call 405 [.agg [.d (.int .i64 a0_0),.d (.int .i64 a0_1),.d (.str a0_2),.d (.lst a0_3)],.d (.int .i64 a1)] []=some ⟨.d (.bool false),[],[]⟩:=(CP ho _ _ _ _ a1 (by omega) (by omega)).trans (by rw[he3]);have hm:=iN (d:=d) he3;exact (ho.au (by cbv;repeat (simp only[e1,e2,e3];try cbv)):_=some ⟨.d (.int .i64 (-1)),[],[]⟩).trans (by rw[if_neg (by omega)])
   ·have e3:o.call 405 [.agg [.d (.int .i64 a0_0),.d (.int .i64 a0_1),.d (.str a0_2),.d (.lst a0_3)],.d (.int .i64 a1)] []=some ⟨.d (.bool true),[],[]⟩:=(CP ho _ _ _ _ a1 (by omega) (by omega)).trans (by rw[he3]);obtain ⟨n1,e4⟩:=kx (o.ar .sub .i64 a3 1);try have g4:n1=a3-1:=e4.symm.trans (dB ho (by omega) (by omega))
    have hl:=G_ ho a1 d hd IH a2 (by omega) a0_0 a0_1 a0_2 a0_3 m hT _ rfl (by omega) 0 (Int.le_refl _) (by omega) n1 (by omega) (by omega);rw[show (0:Int).toNat=0 from rfl,List.drop_zero]at hl;obtain ⟨n2,g5,e5⟩:∃n2,n2=(if bI (dc o a1 d) a0_3<=n1 then n1-bI (dc o a1 d) a0_3 else-1)/\o.loop 38500 (jX a1 a2 n1 a0_0 a0_1 a0_2 a0_3 0)=some (.exit 0,fZ n2):=⟨_,rfl,hl⟩
    have hm:=mU (sl:=a1) (d:=d) he3;exact (ho.au (by cbv at e5;cbv;repeat (simp only[e1,e2,e3,e4,e5];try cbv)):_=some ⟨.d (.int .i64 n2),[],[]⟩).trans (by rw[hm,g5];congr 4;(repeat' split)<;>omega)
  ·exact (ho.au (by cbv;repeat (simp only[e1,e2];try cbv)):_=some ⟨.d (.int .i64 (-1)),[],[]⟩).trans (by rw[if_neg (by omega)])
 ·omega
theorem yp {a2 a0_0 a0_1:Int} {a0_2:ByteArray} {a0_3:List D} {a1 a3:Int} (e1:o.cmp .lss a2 1=true):o.call 385 [At a0_0 a0_1 a0_2 a0_3,Ai a1,Ai a2,Ai a3] []=Ar (Ai (-1)):=by
 refine ho.au ?_
 cbv
 repeat' (first | (rw[e1];try cbv))
theorem Hf (sl:Int) (hsl:0<=sl/\sl<=400) (d:Nat) (hd:d<=10):OP o sl d:=by
 induction d with
 | zero=>
  intro m k n s l h a b ha hb hb2;have hm:dc o sl 0 (.agg [.int .i64 k,.int .i64 n,.str s,.lst l])=301:=rfl;exact (yp ho (Jl ho (by omega))).trans (by rw[if_neg (by omega)])
 | succ d ih=>
  intro m k n s l h a b ha hb hb2;exact He ho sl hsl d (by omega) (ih (by omega)) m k n s l h a b (by omega) hb hb2
theorem Bp (sl:Int) (d:Nat) (IH:OQ o sl d) (a0_0 a0_1:Int) (a0_2:ByteArray) (a0_3:List D) (m:Nat) (hT:∀x∈a0_3,Tm m x) (hP:∀x∈a0_3,dc o sl d x<=300) (n1:Int) (hn:(a0_3.length:Int)=n1) (hl:n1<=1048576):∀i:Int,0<=i->i<=(n1:Int)->∀y:List D,(∀z∈y,wY z)->(y.length:Int)+bI (dc o sl d) (a0_3.drop i.toNat)<=1000->o.loop 38600 (gO a0_0 a0_1 a0_2 a0_3 i y)=some (.exit 0,fE (y++dX (Cr d) (a0_3.drop i.toNat))):=by
 refine bV (P:=λi=>∀y:List D,(∀z∈y,wY z)->(y.length:Int)+bI (dc o sl d) (a0_3.drop i.toNat)<=1000->o.loop 38600 (gO a0_0 a0_1 a0_2 a0_3 i y)=some (.exit 0,fE (y++dX (Cr d) (a0_3.drop i.toNat)))) (n1:Int) ?_;intro i h0 h1 ih;try dsimp only at ih |-
 intro y hI hb;have s4:=eL (λx=>(iY o sl d x).1) (a0_3.drop (i+1).toNat);refine ho.dO λR Q=> ?_
 have e1:o.len a0_3=n1:=(iI ho _).trans hn;conv=>lhs;cbv;rw[e1];cbv
 rcases aZ ho i n1 with ⟨e2,g2⟩|⟨e2,g2⟩<;>(conv=>lhs;rw[e2];cbv)
 ·subst Q;rw[bf hn (by omega)];simp only[dX,List.append_nil];rfl
 ·obtain ⟨x,hx0,hx1,hx2⟩:=ax hn h0 g2;obtain ⟨m',n2,n3,s1,l1,hd',rfl,hs,hl,ht⟩:=bP (hT _ hx2);have e3:=ak ho h0 hx0;conv=>lhs;rw[e3];cbv
  obtain ⟨l2,hl2,e4⟩:∃l2,l2=Cr d (.agg [.int .i64 n2,.int .i64 n3,.str s1,.lst l1])/\o.call 386 [At n2 n3 s1 l1] []=Ar (Al l2):=⟨_,rfl,IH _ _ _ _ _ (hT _ hx2) (hP _ hx2)⟩
  have hlen:=ru (o:=o) (sl:=sl) d _ (hP _ hx2);have hle2:=Cs d (.agg [.int .i64 n2,.int .i64 n3,.str s1,.lst l1]);rw[hx1,sO]at hb;have hI2:∀z∈y++l2,wY z:=by
   intro z hz;rcases List.mem_append.1 hz with h | h
   ·exact hI z h
   ·rw[hl2]at h;exact Ac _ _ z (List.mem_filter.1 h).1
  obtain ⟨l3,hl3⟩:∃l3,y++l2=l3:=⟨_,rfl⟩
  have e5:o.app y l2=l3:=(ho.app _ _).trans hl3;have hz3:(l3.length:Int)<=y.length+dc o sl d (.agg [.int .i64 n2,.int .i64 n3,.str s1,.lst l1]):=by rw[<-hl3,List.length_append,hl2];omega
  have e6:o.fits 1 8 l3=true:=by exact cn ho (by omega) (by decide) (λz hz=>kA (hI2 z (by rw[hl3];exact hz)))
  obtain ⟨n4,e7,g7⟩:=aW ho i 1;conv=>lhs;rw[e4];cbv;rw[e5];cbv;rw[e6];cbv;rw[e7];cbv
  subst Q;rw[show i+1=n4 by omega]at ih s4 hb;rw[hx1,vu,<-hl2,<-List.append_assoc,hl3,show i+1=n4 by omega];exact ih (by omega) l3 (λz hz=>hI2 z (by rw[hl3];exact hz)) (by omega)
theorem KX (sl:Int) (d:Nat) (IH:OQ o sl d) (m:Nat) (a0_0 a0_1:Int) (a0_2:ByteArray) (a0_3:List D) (hT:Tm m (.agg [.int .i64 a0_0,.int .i64 a0_1,.str a0_2,.lst a0_3])) (hP:dc o sl (d+1) (.agg [.int .i64 a0_0,.int .i64 a0_1,.str a0_2,.lst a0_3])<=300):o.call 386 [.agg [.d (.int .i64 a0_0),.d (.int .i64 a0_1),.d (.str a0_2),.d (.lst a0_3)]] []=some ⟨.d (.lst (Cr (d+1) (.agg [.int .i64 a0_0,.int .i64 a0_1,.str a0_2,.lst a0_3]))),[],[]⟩:=by
 obtain ⟨m,rfl,hs,hl,hT⟩:=iC hT;have hsum:bI (dc o sl d) a0_3<=300:=by
   rw[CQ]at hP;split at hP
   ·split at hP<;>omega
   ·omega
 have hP2:∀x∈a0_3,dc o sl d x<=300:=λx hx=>by have:=pD (f:=dc o sl d) (λx=>(iY o sl d x).1) hx;omega
 refine ho.aC λR Q=> ?_
 conv=>lhs;cbv
 rcases aj ho a0_0 3 with ⟨e1,g1⟩|⟨e1,g1⟩<;>(conv=>lhs;rw[e1];cbv)
 ·obtain ⟨l1,hl1,e2⟩:∃l1,dX (Cr d) a0_3=l1/\o.loop 38600 (gO a0_0 a0_1 a0_2 a0_3 0 [])=some (.exit 0,fE l1):=⟨_,rfl,Bp ho sl d IH a0_0 a0_1 a0_2 a0_3 m hT hP2 _ rfl hl 0 (Int.le_refl _) (by omega) [] (λz hz=>by cases hz) (by rw[show (0:Int).toNat=0 from rfl,List.drop_zero];simp;omega)⟩
  conv at e2=>lhs;cbv
  conv=>lhs;rw[e2];cbv
  subst Q;rw[Eo,if_neg g1];show _=some (bW.mk (.d (.lst (dX (Cr d) a0_3))) [] []);rw[hl1];try rfl
 ·rcases cE ho a0_1 (-1)with ⟨e2,g2⟩|⟨e2,g2⟩<;>(conv=>lhs;rw[e2];cbv)
  ·obtain ⟨l1,hl1,e3⟩:∃l1,dX (Cr d) a0_3=l1/\o.loop 38600 (gO a0_0 a0_1 a0_2 a0_3 0 [])=some (.exit 0,fE l1):=⟨_,rfl,Bp ho sl d IH a0_0 a0_1 a0_2 a0_3 m hT hP2 _ rfl hl 0 (Int.le_refl _) (by omega) [] (λz hz=>by cases hz) (by rw[show (0:Int).toNat=0 from rfl,List.drop_zero];simp;omega)⟩
   conv at e3=>lhs;cbv
   conv=>lhs;rw[e3];cbv
   subst Q;subst g1 g2;rw[Eo,if_pos rfl,<-hl1];try rfl
  ·have e3:o.fits 1 8 [.int .i64 a0_1]=true:=by exact cn ho (by simp) (by decide) (λz hz=>kA ⟨a0_1,List.mem_singleton.1 hz⟩)
   conv=>lhs;rw[e3];cbv
   obtain ⟨l1,hl1,e4⟩:∃l1,[.int .i64 a0_1]++dX (Cr d) a0_3=l1/\o.loop 38600 (gO a0_0 a0_1 a0_2 a0_3 0 [.int .i64 a0_1])=some (.exit 0,fE l1):=⟨_,rfl,Bp ho sl d IH a0_0 a0_1 a0_2 a0_3 m hT hP2 _ rfl hl 0 (Int.le_refl _) (by omega) [.int .i64 a0_1] (λz hz=>⟨a0_1,List.mem_singleton.1 hz⟩) (by rw[show (0:Int).toNat=0 from rfl,List.drop_zero];simp;omega)⟩
   conv at e4=>lhs;cbv
   conv=>lhs;rw[e4];cbv
   subst Q;subst g1;have e1n:El (.int .i64 a0_1)=true:=by simp[El,g2]
   rw[Eo,if_pos rfl,List.filter_cons_of_pos (by exact e1n),<-hl1];try rfl
theorem zV (sl:Int):∀d,OQ o sl d
 | 0=>λm k n s l h hp=>by have hm:dc o sl 0 (.agg [.int .i64 k,.int .i64 n,.str s,.lst l])=301:=rfl;omega
 | d+1=>λm k n s l h hp=>KX ho sl d (zV sl d) m k n s l h hp
theorem OT (l1:List D) (hI:∀y∈l1,wY y) (i:Int) (hi:0<=i) (n2:Int) (hx:l1[i.toNat]? =some (.int .i64 n2)) (hb:i<=1048576) (hlt:i.toNat<=l1.length):∀i1:Int,0<=i1->i1<=(i:Int)->(gU (.int .i64 n2) ((l1.take i.toNat).drop i1.toNat)=true->o.loop 36100 (bL l1 i i1)=some (.ret,gV l1 i))/\(gU (.int .i64 n2) ((l1.take i.toNat).drop i1.toNat)=false->o.loop 36100 (bL l1 i i1)=some (.exit 2,gW l1 i)):=by
 refine bV (P:=λi1=>(gU (.int .i64 n2) ((l1.take i.toNat).drop i1.toNat)=true->o.loop 36100 (bL l1 i i1)=some (.ret,gV l1 i))/\(gU (.int .i64 n2) ((l1.take i.toNat).drop i1.toNat)=false->o.loop 36100 (bL l1 i i1)=some (.exit 2,gW l1 i))) (i:Int) ?_;intro i1 h0 h1 ih;try dsimp only at ih |-
 rcases aZ ho i1 i with ⟨e1,g1⟩|⟨e1,g1⟩
 ·rw[show (l1.take i.toNat).drop i1.toNat=[]from List.drop_eq_nil_of_le (by rw[List.length_take];omega)];exact ⟨λh=>(by cases sP h),λ_=>(ho.aB (by cbv;repeat (simp only[e1];try cbv)):_=some (.exit 2,gW l1 i))⟩
 ·have hnT:((l1.take i.toNat).length:Int)=i:=by rw[List.length_take];omega
  obtain ⟨x,hx0,hx1,hx2⟩:=ax hnT h0 g1;obtain ⟨n1,rfl⟩:=hI _ (List.mem_of_mem_take hx2);have e2:o.dD l1 i1=some (.int .i64 n1):=ak ho h0 (by rw[<-hx0,List.getElem?_take_of_lt (by omega)]);have e3:=ak ho hi hx;rcases aj ho n1 n2 with ⟨e4,g4⟩|⟨e4,g4⟩
  ·obtain ⟨n3,e5⟩:=kx (o.ar .add .i64 i1 1);try have g5:n3=i1+1:=e5.symm.trans (ck ho (by omega) (by omega))
   have hq:gU (.int .i64 n2) ((l1.take i.toNat).drop i1.toNat)=gU (.int .i64 n2) ((l1.take i.toNat).drop (i1+1).toNat):=by
    rw[hx1];cases h:gU (.int .i64 n2) ((l1.take i.toNat).drop (i1+1).toNat)
    ·exact BG λg=>by
      rcases List.mem_cons.1 g with g | g
      ·injection g with _ g;exact g4 g.symm
      ·exact BH h g
    ·exact vv (List.mem_cons_of_mem _ (sP h))
   rw[hq];have ih2:=ih (by omega);rw[show i1+1=n3 by omega]at ih2 |-;exact ⟨λh=>(λz (hz:o.loop 36100 (bL l1 i n3)=some z)=>ho.aB (by rw[<-hz];cbv;repeat (simp only[e1,e2,e3,e4,e5];try cbv)):∀z,o.loop 36100 (bL l1 i n3)=some z->o.loop 36100 (bL l1 i i1)=some z) _ (ih2.1 h),λh=>(λz (hz:o.loop 36100 (bL l1 i n3)=some z)=>ho.aB (by rw[<-hz];cbv;repeat (simp only[e1,e2,e3,e4,e5];try cbv)):∀z,o.loop 36100 (bL l1 i n3)=some z->o.loop 36100 (bL l1 i i1)=some z) _ (ih2.2 h)⟩
  ·have hp0:=(ho.aB (by cbv;repeat (simp only[e1,e2,e3,e4];try cbv)):o.loop 36100 (bL l1 i i1)=some (.ret,gV l1 i))
   subst g4;rw[hx1,vv (by simp)];exact ⟨λ_=>hp0,λh=>by cases h⟩
theorem OU (l1:List D) (hI:∀y∈l1,wY y) (n1:Int) (hn:(l1.length:Int)=n1) (hl:n1<=1048576):∀i:Int,0<=i->i<=(n1:Int)->(okW (l1.take i.toNat) (l1.drop i.toNat)=false->o.loop 36101 (bU l1 i)=some (.ret,gX))/\(okW (l1.take i.toNat) (l1.drop i.toNat)=true->o.loop 36101 (bU l1 i)=some (.exit 0,gY)):=by
 refine bV (P:=λi=>(okW (l1.take i.toNat) (l1.drop i.toNat)=false->o.loop 36101 (bU l1 i)=some (.ret,gX))/\(okW (l1.take i.toNat) (l1.drop i.toNat)=true->o.loop 36101 (bU l1 i)=some (.exit 0,gY))) (n1:Int) ?_;intro i h0 h1 ih;try dsimp only at ih |-
 have e1:o.len l1=n1:=(iI ho _).trans hn;rcases aZ ho i n1 with ⟨e2,g2⟩|⟨e2,g2⟩
 ·rw[bf hn (by omega)];exact ⟨λh=>(by cases h),λ_=>(ho.aB (by cbv;repeat (simp only[e1,e2];try cbv)):_=some (.exit 0,gY))⟩
 ·obtain ⟨x,hx0,hx1,hx2⟩:=ax hn h0 g2;obtain ⟨n2,rfl⟩:=hI _ hx2;have hd:=OT ho l1 hI i h0 n2 hx0 (by omega) (by omega) 0 (Int.le_refl _) h0;rw[show (0:Int).toNat=0 from rfl,List.drop_zero]at hd;have hs:=m9 h0 hx0;cases hc:gU (.int .i64 n2) (l1.take i.toNat)
  ·have e3:o.loop 36100 (bL l1 i 0)=some (.exit 2,gW l1 i):=hd.2 hc;obtain ⟨n2,e4⟩:=kx (o.ar .add .i64 i 1);try have g4:n2=i+1:=e4.symm.trans (ck ho (by omega) (by omega))
   rw[hx1];simp only[okW];rw[hc,<-hs];have ih2:=ih (by omega);rw[show i+1=n2 by omega]at ih2 |-;exact ⟨λh=>(λz (hz:o.loop 36101 (bU l1 n2)=some z)=>ho.aB (by rw[<-hz];cbv at e3;cbv;repeat (simp only[e1,e2,e3,e4];try cbv)):∀z,o.loop 36101 (bU l1 n2)=some z->o.loop 36101 (bU l1 i)=some z) _ (ih2.1 h),λh=>(λz (hz:o.loop 36101 (bU l1 n2)=some z)=>ho.aB (by rw[<-hz];cbv at e3;cbv;repeat (simp only[e1,e2,e3,e4];try cbv)):∀z,o.loop 36101 (bU l1 n2)=some z->o.loop 36101 (bU l1 i)=some z) _ (ih2.2 h)⟩
  ·have e3:o.loop 36100 (bL l1 i 0)=some (.ret,gV l1 i):=hd.1 hc;rw[hx1];simp only[okW];rw[hc];exact ⟨λ_=>(ho.aB (by cbv at e3;cbv;repeat (simp only[e1,e2,e3];try cbv)):_=some (.ret,gX)),λh=>by cases h⟩
theorem Dz {m:Nat} (a0_0 a0_1:Int) (a0_2:ByteArray) (a0_3:List D) (hT:Tm m (.agg [.int .i64 a0_0,.int .i64 a0_1,.str a0_2,.lst a0_3])) (a1:Int):o.call 344 [At a0_0 a0_1 a0_2 a0_3,Ai a1] []=Ar (Ab (qU o (.agg [.int .i64 a0_0,.int .i64 a0_1,.str a0_2,.lst a0_3]) a1)):=by
 refine ho.aC λR Q=> ?_
 conv=>lhs;cbv
 rcases aN a1 0 400 with ⟨e1,g1⟩|⟨e1,g1⟩
 ·conv=>lhs;rw[av ho,e1];cbv
  subst Q;exact (Eq.refl _).trans (by unfold qU;rw[e1];rfl)
 ·conv=>lhs;rw[av ho,e1];cbv
  have g1:=bH e1;rcases MY ho a1 g1 m a0_0 a0_1 a0_2 a0_3 hT with ⟨n1,l1,e3⟩ | ⟨n1,hB,e3⟩
  ·obtain ⟨b2,hb2⟩:∃b:Bool,(decide (dc o a1 10 (.agg [.int .i64 a0_0,.int .i64 a0_1,.str a0_2,.lst a0_3])<=300)&&okV [] (kz 10 (.agg [.int .i64 a0_0,.int .i64 a0_1,.str a0_2,.lst a0_3])))=b:=⟨_,rfl⟩
   rw[hb2]at e3;conv=>lhs;rw[e3];cbv
   subst Q;exact (Eq.refl _).trans (by unfold qU;rw[e1,hb2];rfl)
  ·conv=>lhs;rw[e3];cbv
   subst Q;exact (Eq.refl _).trans (by unfold qU;rw[e1,hB];rfl)
theorem DA {m:Nat} (a0_0 a0_1:Int) (a0_2:ByteArray) (a0_3:List D) (hT:Tm m (.agg [.int .i64 a0_0,.int .i64 a0_1,.str a0_2,.lst a0_3])) (a1:Int):o.call 361 [.agg [.d (.int .i64 a0_0),.d (.int .i64 a0_1),.d (.str a0_2),.d (.lst a0_3)],.d (.int .i64 a1)] []=some ⟨.d (.bool (qU o (.agg [.int .i64 a0_0,.int .i64 a0_1,.str a0_2,.lst a0_3]) a1)),[],[]⟩:=by
 refine ho.aC λR Q=> ?_
 conv=>lhs;cbv
 rcases aN a1 0 400 with ⟨e1,g1⟩|⟨e1,g1⟩
 ·conv=>lhs;rw[aF ho,e1];cbv
  subst Q;exact (Eq.refl _).trans (by unfold qU;rw[e1];rfl)
 ·obtain ⟨n1,h1,e3⟩:∃n1,n1=(if dc o a1 10 (.agg [.int .i64 a0_0,.int .i64 a0_1,.str a0_2,.lst a0_3])<=300 then 300-dc o a1 10 (.agg [.int .i64 a0_0,.int .i64 a0_1,.str a0_2,.lst a0_3])else-1)/\o.call 385 [.agg [.d (.int .i64 a0_0),.d (.int .i64 a0_1),.d (.str a0_2),.d (.lst a0_3)],.d (.int .i64 a1),.d (.int .i64 10),.d (.int .i64 300)] []=some ⟨.d (.int .i64 n1),[],[]⟩:=⟨_,rfl,Hf ho a1 (bH e1) 10 (by omega) _ _ _ _ _ hT _ _ (by omega) (by omega) (by omega)⟩
  have b4:=iY o a1 10 (.agg [.int .i64 a0_0,.int .i64 a0_1,.str a0_2,.lst a0_3]);conv=>lhs;rw[aF ho,e1];cbv;rw[e3];cbv
  rcases aZ ho n1 0 with ⟨e4,g4⟩|⟨e4,g4⟩<;>(conv=>lhs;rw[e4];cbv)
  ·have hp:dc o a1 10 (.agg [.int .i64 a0_0,.int .i64 a0_1,.str a0_2,.lst a0_3])<=300:=by split at h1<;>omega
   obtain ⟨l1,hl1,e5⟩:∃l1,l1=Cr 10 (.agg [.int .i64 a0_0,.int .i64 a0_1,.str a0_2,.lst a0_3])/\o.call 386 [.agg [.d (.int .i64 a0_0),.d (.int .i64 a0_1),.d (.str a0_2),.d (.lst a0_3)]] []=some ⟨.d (.lst l1),[],[]⟩:=⟨_,rfl,zV ho a1 10 _ _ _ _ _ hT hp⟩
   have hlen:=ru (o:=o) (sl:=a1) 10 _ hp;have hle2:=Cs 10 (.agg [.int .i64 a0_0,.int .i64 a0_1,.str a0_2,.lst a0_3]);have hW:=Kh (kz 10 (.agg [.int .i64 a0_0,.int .i64 a0_1,.str a0_2,.lst a0_3])) [] (λy hy=>by obtain ⟨n,e,h,_⟩:=Kg 10 _ hp y hy;exact ⟨n,e,h⟩);conv=>lhs;rw[e5];cbv
   have hd:=OU ho l1 (λy hy=>Ac _ _ y (by rw[hl1]at hy;exact (List.mem_filter.1 hy).1)) _ rfl (by rw[hl1];omega) 0 (Int.le_refl _) (by omega);rw[show (0:Int).toNat=0 from rfl,List.drop_zero,List.take_zero]at hd;cases hc:okW [] l1
   ·have e6:o.loop 36101 (bU l1 0)=some (.ret,gX):=hd.1 hc;conv at e6=>lhs;cbv
    conv=>lhs;rw[e6];cbv
    subst Q;exact (Eq.refl _).trans (by unfold qU;rw[e1,decide_eq_true hp,hW,List.filter_nil,show (kz 10 (.agg [.int .i64 a0_0,.int .i64 a0_1,.str a0_2,.lst a0_3])).filter El=l1 from hl1.symm,hc];rfl)
   ·have e6:o.loop 36101 (bU l1 0)=some (.exit 0,gY):=hd.2 hc;conv at e6=>lhs;cbv
    conv=>lhs;rw[e6];cbv
    subst Q;exact (Eq.refl _).trans (by unfold qU;rw[e1,decide_eq_true hp,hW,List.filter_nil,show (kz 10 (.agg [.int .i64 a0_0,.int .i64 a0_1,.str a0_2,.lst a0_3])).filter El=l1 from hl1.symm,hc];rfl)
  ·subst Q;exact (Eq.refl _).trans (by unfold qU;rw[e1,decide_eq_false (by split at h1<;>omega)];rfl)
end
end T2
