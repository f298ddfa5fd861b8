import Derived.Test.YtfnagkpidcdocaaGreatM24
set_option linter.all false
namespace T2
open Go Go.Vi
set_option maxRecDepth 100000
set_option maxHeartbeats 4000000
def Ho (n:Int) (x:D):Prop:=∃op N s to,x= .agg [.int .i64 op,.int .i64 N,.str s,.int .i64 to]/\((op=9\/op=10)->0<=to/\to<n)
def cm (c:List Int×Bool):Option (List Int):=if c.2 then some c.1 else none
def bK (o:aJ) (n:Int) (H:List Int) (op N to i:Int):Option (List Int):=
 if gt H i<tk op N then none else if 300<gt H i then none else if op=12 then (if gt H i=1 then some H else none)else if op=11 then some H
 else if op=10 then cm (dw H to (gt H i))else if op=9 then (cm (dw H to (gt H i))).bind λK=>if i+1<n then cm (dw K (i+1) (o.ar .sub .i64 (gt H i) 1))else none
 else if i+1<n then cm (dw H (i+1) (o.ar .add .i64 (o.ar .sub .i64 (gt H i) (tk op N)) (lv op)))else none
def pX (o:aJ) (n:Int):List D->Int->List Int->Bool
 | [],_,_=>true
 | .agg [.int _ op,.int _ N,.str _,.int _ to]::xs,i,H=>match bK o n H op N to i with | none=>false | some K=>pX o n xs (i+1) K
 | _::_,_,_=>false
def wU (o:aJ) (n:Int):List D->Int->List Int->List Int
 | .agg [.int _ op,.int _ N,.str _,.int _ to]::xs,i,H=>match bK o n H op N to i with | none=>H | some K=>wU o n xs (i+1) K
 | _,_,H=>H
theorem gH {o:aJ} {n op N to:Int} {s:ByteArray} {xs:List D} {i:Int} {H:List Int}:wU o n (.agg [.int .i64 op,.int .i64 N,.str s,.int .i64 to]::xs) i H=match bK o n H op N to i with | none=>H | some K=>wU o n xs (i+1) K:=rfl
theorem f7 {o:aJ} {n op N to:Int} {s:ByteArray} {xs:List D} {i:Int} {H:List Int}:pX o n (.agg [.int .i64 op,.int .i64 N,.str s,.int .i64 to]::xs) i H=match bK o n H op N to i with | none=>false | some K=>pX o n xs (i+1) K:=rfl
theorem Es {c:List Int×Bool} (h:c.2=false):cm c=none:=by unfold cm;rw[h];rfl
theorem DB {c:List Int×Bool} {K:List Int} (h:c.2=true) (hk:K=c.1):cm c=some K:=by unfold cm;rw[h,hk];rfl
theorem fK {H:List Int} {a h:Int}:(dw H a h).1.length=H.length:=by unfold dw;split;exact List.length_set;rfl
def Bf (o:aJ) (xs:List D):Bool:=pX o xs.length xs 0 ((H0 xs.length).set 0 0)
def um (o:aJ) (xs:List D):List Int:=wU o xs.length xs 0 ((H0 xs.length).set 0 0)
section
variable {o:aJ} (ho:aR cF bB o)
include ho
def g_ (a0_0:ByteArray) (a0_1 a0_2:Int) (a0_3:List D) (i:Int) (y:List D):St:=⟨E 116 [(1,.sp [.str a0_0,.int .i64 a0_1,.int .i64 a0_2,.lst a0_3] 0),(4,.arr (15,0) (3,1) none true),(5,Ai i)],O 116 [(15,[some (.rows (3,1) y)])]⟩
def iP (a0_0:ByteArray) (a0_1 a0_2:Int) (a0_3 y:List D):St:=⟨E 116 [(1,.sp [.str a0_0,.int .i64 a0_1,.int .i64 a0_2,.lst a0_3] 0),(4,.arr (15,0) (3,1) none true)],O 116 [(15,[some (.rows (3,1) y)])]⟩
def ah (a0_0:ByteArray) (a0_1 a0_2:Int) (a0_3:List D) (i:Int) (y:List D):St:=⟨E 116 [(1,.sp [.str a0_0,.int .i64 a0_1,.int .i64 a0_2,.lst a0_3] 0),(4,.arr (15,0) (3,1) none true),(6,Ai i)],O 116 [(15,[some (.rows (3,1) y)])]⟩
def cH (y:List D):St:=⟨E 116 [(2,.arr (15,0) (3,1) none true),(3,Ab false),(4,.arr (15,0) (3,1) none true)],O 116 [(15,[some (.rows (3,1) y)])]⟩
def fT (y:List D):St:=⟨E 116 [(4,.arr (15,0) (3,1) none true)],O 116 [(15,[some (.rows (3,1) y)])]⟩
def cI (l1:List D):St:=⟨E 116 [(2,.arr (15,0) (3,1) none true),(3,Ab false),(4,.arr (15,0) (3,1) none true)],O 116 [(15,[some (.rows (3,1) l1)])]⟩
def fU (l2:List D):St:=⟨E 116 [(2,.arr (15,0) (3,1) none true),(3,Ab false),(4,.arr (15,0) (3,1) none true)],O 116 [(15,[some (.rows (3,1) l2)])]⟩
theorem M4 (a0_0:ByteArray) (a0_1 a0_2:Int) (a0_3:List D) (n:Int) (hb:n<=1048576):∀i:Int,0<=i->i<=(n:Int)->∀(y:List D) (H:List Int),y=iL H->(H.length:Int)=n->o.loop 24400 (g_ a0_0 a0_1 a0_2 a0_3 i y)=some (.exit 0,iP a0_0 a0_1 a0_2 a0_3 (iL (H.take i.toNat++List.replicate (n-i).toNat (-1)))):=by
 refine bV (P:=λi=>∀(y:List D) (H:List Int),y=iL H->(H.length:Int)=n->o.loop 24400 (g_ a0_0 a0_1 a0_2 a0_3 i y)=some (.exit 0,iP a0_0 a0_1 a0_2 a0_3 (iL (H.take i.toNat++List.replicate (n-i).toNat (-1))))) (n:Int) ?_;intro i h0 h1 ih;try dsimp only at ih |-
 intro y H hy hn;refine ho.dO λR Q=> ?_
 obtain ⟨n1,hn1,e1⟩:∃n1,n1=n/\o.len y=n1:=⟨_,rfl,by rw[hy,uU ho];exact hn⟩
 conv=>lhs;cbv;rw[e1];cbv
 rcases aZ ho i n1 with ⟨e2,g2⟩|⟨e2,g2⟩<;>(conv=>lhs;rw[e2];cbv)
 ·subst Q;rw[show (n-i).toNat=0 by omega,List.replicate_zero,List.append_nil,List.take_of_length_le (by omega),<-hy];rfl
 ·obtain ⟨n2,e3⟩:∃n1,o.dD y i=some (.int .i64 n1):=⟨_,by rw[hy];exact jI ho hn h0 (by omega)⟩
  obtain ⟨l1,hl1,e4⟩:∃l1,l1=iL (H.set i.toNat (-1))/\o.set y i (.int .i64 (-1))=l1:=⟨_,rfl,by rw[hy];exact yq ho h0⟩
  obtain ⟨n3,e5,g5⟩:=aW ho i 1;conv=>lhs;rw[e3];cbv;(try (rw[e3];cbv));rw[e4];cbv;rw[e5];cbv
  subst Q;show o.loop 24400 (g_ a0_0 a0_1 a0_2 a0_3 n3 l1)=_;rw[show n3=i+1 by omega,ih (by omega) l1 _ hl1 (by rw[List.length_set];exact hn)];congr 4;rw[show (i+1).toNat=i.toNat+1 by omega,take_set (by omega),List.append_assoc];congr 1;rw[show (n-i).toNat=(n-(i.toNat+1:Nat)).toNat+1 by omega,List.replicate_succ,show ((i.toNat+1:Nat):Int)=i+1 by omega];rfl
theorem OW (
           a0_0:ByteArray) (a0_1 a0_2:Int) (a0_3:List D) (n1:Int) (hT:∀x∈a0_3,Ho n1 x) (hn:(a0_3.length:Int)=n1) (hb:n1<=1048576):∀i:Int,0<=i->i<=(n1:Int)->∀(y:List D) (H:List Int),y=iL H->(H.length:Int)=n1->(pX o n1 (a0_3.drop i.toNat) i H=true->∃z,z=iL (wU o n1 (a0_3.drop i.toNat) i H)/\o.loop 24401 (ah a0_0 a0_1 a0_2 a0_3 i y)=some (.exit 2,fT z))/\(pX o n1 (a0_3.drop i.toNat) i H=false->∃z,o.loop 24401 (ah a0_0 a0_1 a0_2 a0_3 i y)=some (.ret,cH z)\/o.loop 24401 (ah a0_0 a0_1 a0_2 a0_3 i y)=some (.ret,cI z)\/o.loop 24401 (ah a0_0 a0_1 a0_2 a0_3 i y)=some (.ret,fU z)):=by
 refine bV (P:=λi=>∀(y:List D) (H:List Int),y=iL H->(H.length:Int)=n1->(pX o n1 (a0_3.drop i.toNat) i H=true->∃z,z=iL (wU o n1 (a0_3.drop i.toNat) i H)/\o.loop 24401 (ah a0_0 a0_1 a0_2 a0_3 i y)=some (.exit 2,fT z))/\(pX o n1 (a0_3.drop i.toNat) i H=false->∃z,o.loop 24401 (ah a0_0 a0_1 a0_2 a0_3 i y)=some (.ret,cH z)\/o.loop 24401 (ah a0_0 a0_1 a0_2 a0_3 i y)=some (.ret,cI z)\/o.loop 24401 (ah a0_0 a0_1 a0_2 a0_3 i y)=some (.ret,fU z))) (n1:Int) ?_;intro i h0 h1 ih;try dsimp only at ih |-
 intro y H hy hn2;have e1:o.len y=n1:=by rw[hy,uU ho];exact hn2
 rcases aZ ho i n1 with ⟨e2,g2⟩|⟨e2,g2⟩
 ·rw[bf hn (by omega)];exact ⟨λ_=>⟨_,hy,(ho.aB (by cbv;repeat (simp only[e1,e2];try cbv)):_=some (.exit 2,fT y))⟩,λh=>by cases h⟩
 ·obtain ⟨
          x,
             hx0,hx1,hx2⟩:=ax hn h0 g2
  obtain ⟨n2,n3,s1,n4,rfl,hto⟩:=hT _ hx2;have e3:=ak ho h0 hx0;obtain ⟨n5,e4⟩:=kx (tk n2 n3);obtain ⟨n6,e5⟩:=kx (lv n2);have e6:o.call 318 [.agg [Ai n2,Ai n3,As s1,Ai n4]] []=Ar (.tup [Ai n5,Ai n6]):=(Hg ho n2 n3 s1 n4).trans (by rw[e4,e5]);obtain ⟨n7,hn7,e7⟩:∃n7,n7=gt H i/\o.dD y i=some (.int .i64 n7):=⟨_,rfl,by rw[hy];exact jI ho hn2 h0 g2⟩
  rcases aZ ho n7 n5 with ⟨e8,g8⟩|⟨e8,g8⟩
  ·rcases fR ho n7 300 with ⟨e9,g9⟩|⟨e9,g9⟩
   ·rcases aj ho n2 12 with ⟨e10,g10⟩|⟨e10,g10⟩
    ·rcases aj ho n2 11 with ⟨e11,g11⟩|⟨e11,g11⟩
     ·rcases aj ho n2 10 with ⟨e12,g12⟩|⟨e12,g12⟩
      ·rcases aj ho n2 9 with ⟨e13,g13⟩|⟨e13,g13⟩
       ·obtain ⟨n8,e14⟩:=kx (o.ar .add .i64 i 1);try have g14:n8=i+1:=e14.symm.trans (ck ho (by omega) (by omega))
        rcases aZ ho n8 n1 with ⟨e15,g15⟩|⟨e15,g15⟩
        ·have hs:bK o n1 H n2 n3 n4 i=none:=by
           unfold bK;rw[<-hn7,e4,if_neg (by omega),if_neg (by omega),if_neg g10,if_neg g11,if_neg g12,if_neg g13,if_neg (by omega)]
         rw[hx1,f7,gH,hs];exact ⟨λh=>(by cases h),λ_=>⟨_,.inl (ho.aB (by cbv;repeat (simp only[e1,e2,e3,e4,e5,e6,e7,e8,e9,e10,e11,e12,e13,e14,e15];try cbv)):_=some (.ret,cH y))⟩⟩
        ·obtain ⟨n9,e16⟩:=kx (o.ar .sub .i64 n7 n5);try have g16:n9=n7-n5:=e16.symm.trans (dB ho (by omega) (by omega))
         obtain ⟨n10,e17⟩:=kx (o.ar .add .i64 n9 n6);try have g17:n10=n9+n6:=e17.symm.trans (ck ho (by omega) (by omega))
         obtain ⟨Kl1,hCl1⟩:∃K,K=(dw H n8 n10).1:=⟨_,rfl⟩
         obtain ⟨l1,hKl1⟩:∃l,l=iL Kl1:=⟨_,rfl⟩
         have hLl1:(Kl1.length:Int)=n1:=by rw[hCl1,fK];exact hn2
         have hwl1:=yt ho H n1 hn2 n8 n10 (by omega) (by omega);rw[<-hCl1,<-hKl1,<-hy]at hwl1;cases hbl1:(dw H n8 n10).2
         ·have e18:o.call 319 [.arr (1,0) (3,1) none true,Ai n8,Ai n10] [some (.rows (3,1) y)]=some ⟨Ab false,[some (.rows (3,1) l1)],[]⟩:=by rw[hbl1]at hwl1;exact hwl1
          have hs:bK o n1 H n2 n3 n4 i=none:=by
            unfold bK;rw[<-hn7,e4,if_neg (by omega),if_neg (by omega),if_neg g10,if_neg g11,if_neg g12,if_neg g13,if_pos (by omega),show i+1=n8 by omega,e16,e5,e17,Es hbl1]
          rw[hx1,f7,gH,hs];exact ⟨λh=>(by cases h),λ_=>⟨_,.inr (.inl (ho.aB (by cbv;repeat (simp only[e1,e2,e3,e4,e5,e6,e7,e8,e9,e10,e11,e12,e13,e14,e15,e16,e17,e18];try cbv)):_=some (.ret,cI l1)))⟩⟩
         ·have e18:o.call 319 [.arr (1,0) (3,1) none true,Ai n8,Ai n10] [some (.rows (3,1) y)]=some ⟨Ab true,[some (.rows (3,1) l1)],[]⟩:=by rw[hbl1]at hwl1;exact hwl1
          have hs:bK o n1 H n2 n3 n4 i=some Kl1:=by
            unfold bK;rw[<-hn7,e4,if_neg (by omega),if_neg (by omega),if_neg g10,if_neg g11,if_neg g12,if_neg g13,if_pos (by omega),show i+1=n8 by omega,e16,e5,e17,DB hbl1 hCl1]
          rw[hx1,f7,gH,hs];have en:i+1=n8:=by omega
          rw[en]at ih |-;have ih2:=ih (by omega) l1 Kl1 hKl1 hLl1;refine ⟨λh=> ?_,λh=> ?_⟩
          · obtain ⟨z,hz,h⟩:=ih2.1 h;exact ⟨z,hz,(λz (hz:o.loop 24401 (ah a0_0 a0_1 a0_2 a0_3 n8 l1)=some z)=>ho.aB (by rw[<-hz];cbv;repeat (simp only[e1,e2,e3,e4,e5,e6,e7,e8,e9,e10,e11,e12,e13,e14,e15,e16,e17,e18];try cbv)):∀z,o.loop 24401 (ah a0_0 a0_1 a0_2 a0_3 n8 l1)=some z->o.loop 24401 (ah a0_0 a0_1 a0_2 a0_3 i y)=some z) _ h⟩
          · obtain ⟨z,h⟩:=ih2.2 h;refine ⟨z,?_⟩;rcases h with h | h | h
            · exact .inl ((λz (hz:o.loop 24401 (ah a0_0 a0_1 a0_2 a0_3 n8 l1)=some z)=>ho.aB (by rw[<-hz];cbv;repeat (simp only[e1,e2,e3,e4,e5,e6,e7,e8,e9,e10,e11,e12,e13,e14,e15,e16,e17,e18];try cbv)):∀z,o.loop 24401 (ah a0_0 a0_1 a0_2 a0_3 n8 l1)=some z->o.loop 24401 (ah a0_0 a0_1 a0_2 a0_3 i y)=some z) _ h)
            · exact .inr (.inl ((λz (hz:o.loop 24401 (ah a0_0 a0_1 a0_2 a0_3 n8 l1)=some z)=>ho.aB (by rw[<-hz];cbv;repeat (simp only[e1,e2,e3,e4,e5,e6,e7,e8,e9,e10,e11,e12,e13,e14,e15,e16,e17,e18];try cbv)):∀z,o.loop 24401 (ah a0_0 a0_1 a0_2 a0_3 n8 l1)=some z->o.loop 24401 (ah a0_0 a0_1 a0_2 a0_3 i y)=some z) _ h))
            · exact .inr (.inr ((λz (hz:o.loop 24401 (ah a0_0 a0_1 a0_2 a0_3 n8 l1)=some z)=>ho.aB (by rw[<-hz];cbv;repeat (simp only[e1,e2,e3,e4,e5,e6,e7,e8,e9,e10,e11,e12,e13,e14,e15,e16,e17,e18];try cbv)):∀z,o.loop 24401 (ah a0_0 a0_1 a0_2 a0_3 n8 l1)=some z->o.loop 24401 (ah a0_0 a0_1 a0_2 a0_3 i y)=some z) _ h))
       ·obtain ⟨Kl1,hCl1⟩:∃K,K=(dw H n4 n7).1:=⟨_,rfl⟩
        obtain ⟨l1,hKl1⟩:∃l,l=iL Kl1:=⟨_,rfl⟩
        have hLl1:(Kl1.length:Int)=n1:=by rw[hCl1,fK];exact hn2
        have hwl1:=yt ho H n1 hn2 n4 n7 (by omega) (by omega);rw[<-hCl1,<-hKl1,<-hy]at hwl1;cases hbl1:(dw H n4 n7).2
        ·have e14:o.call 319 [.arr (1,0) (3,1) none true,Ai n4,Ai n7] [some (.rows (3,1) y)]=some ⟨Ab false,[some (.rows (3,1) l1)],[]⟩:=by rw[hbl1]at hwl1;exact hwl1
         have hs:bK o n1 H n2 n3 n4 i=none:=by
           unfold bK;rw[<-hn7,e4,if_neg (by omega),if_neg (by omega),if_neg g10,if_neg g11,if_neg g12,if_pos g13,Es hbl1,Option.bind_none]
         rw[hx1,f7,gH,hs];exact ⟨λh=>(by cases h),λ_=>⟨_,.inr (.inl (ho.aB (by cbv;repeat (simp only[e1,e2,e3,e4,e5,e6,e7,e8,e9,e10,e11,e12,e13,e14];try cbv)):_=some (.ret,cI l1)))⟩⟩
        ·have e14:o.call 319 [.arr (1,0) (3,1) none true,Ai n4,Ai n7] [some (.rows (3,1) y)]=some ⟨Ab true,[some (.rows (3,1) l1)],[]⟩:=by rw[hbl1]at hwl1;exact hwl1
         obtain ⟨n8,e15⟩:=kx (o.ar .add .i64 i 1);try have g15:n8=i+1:=e15.symm.trans (ck ho (by omega) (by omega))
         obtain ⟨n9,hn9,e16⟩:∃n9,n9=n1/\o.len l1=n9:=⟨_,rfl,by rw[hKl1,uU ho];exact hLl1⟩
         rcases aZ ho n8 n9 with ⟨e17,g17⟩|⟨e17,g17⟩
         ·have hs:bK o n1 H n2 n3 n4 i=none:=by
            unfold bK;rw[<-hn7,e4,if_neg (by omega),if_neg (by omega),if_neg g10,if_neg g11,if_neg g12,if_pos g13,DB hbl1 hCl1,Option.bind_some,if_neg (by omega)]
          rw[hx1,f7,gH,hs];exact ⟨λh=>(by cases h),λ_=>⟨_,.inr (.inl (ho.aB (by cbv;repeat (simp only[e1,e2,e3,e4,e5,e6,e7,e8,e9,e10,e11,e12,e13,e14,e15,e16,e17];try cbv)):_=some (.ret,cI l1)))⟩⟩
         ·obtain ⟨n10,e18⟩:=kx (o.ar .sub .i64 n7 1);try have g18:n10=n7-1:=e18.symm.trans (dB ho (by omega) (by omega))
          obtain ⟨Kl2,hCl2⟩:∃K,K=(dw Kl1 n8 n10).1:=⟨_,rfl⟩
          obtain ⟨l2,hKl2⟩:∃l,l=iL Kl2:=⟨_,rfl⟩
          have hLl2:(Kl2.length:Int)=n1:=by rw[hCl2,fK];exact hLl1
          have hwl2:=yt ho Kl1 n1 hLl1 n8 n10 (by omega) (by omega);rw[<-hCl2,<-hKl2,<-hKl1]at hwl2;cases hbl2:(dw Kl1 n8 n10).2
          ·have e19:o.call 319 [.arr (1,0) (3,1) none true,Ai n8,Ai n10] [some (.rows (3,1) l1)]=some ⟨Ab false,[some (.rows (3,1) l2)],[]⟩:=by rw[hbl2]at hwl2;exact hwl2
           have hs:bK o n1 H n2 n3 n4 i=none:=by
             unfold bK;rw[<-hn7,e4,if_neg (by omega),if_neg (by omega),if_neg g10,if_neg g11,if_neg g12,if_pos g13,DB hbl1 hCl1,Option.bind_some,if_pos (by omega),show i+1=n8 by omega,e18,Es hbl2]
           rw[hx1,f7,gH,hs];exact ⟨λh=>(by cases h),λ_=>⟨_,.inr (.inr (ho.aB (by cbv;repeat (simp only[e1,e2,e3,e4,e5,e6,e7,e8,e9,e10,e11,e12,e13,e14,e15,e16,e17,e18,e19];try cbv)):_=some (.ret,fU l2)))⟩⟩
          ·have e19:o.call 319 [.arr (1,0) (3,1) none true,Ai n8,Ai n10] [some (.rows (3,1) l1)]=some ⟨Ab true,[some (.rows (3,1) l2)],[]⟩:=by rw[hbl2]at hwl2;exact hwl2
           have hs:bK o n1 H n2 n3 n4 i=some Kl2:=by
             unfold bK;rw[<-hn7,e4,if_neg (by omega),if_neg (by omega),if_neg g10,if_neg g11,if_neg g12,if_pos g13,DB hbl1 hCl1,Option.bind_some,if_pos (by omega),show i+1=n8 by omega,e18,DB hbl2 hCl2]
           rw[hx1,f7,gH,hs];have en:i+1=n8:=by omega
           rw[en]at ih |-;have ih2:=ih (by omega) l2 Kl2 hKl2 hLl2;refine ⟨λh=> ?_,λh=> ?_⟩
           · obtain ⟨z,hz,h⟩:=ih2.1 h;exact ⟨z,hz,(λz (hz:o.loop 24401 (ah a0_0 a0_1 a0_2 a0_3 n8 l2)=some z)=>ho.aB (by rw[<-hz];cbv;repeat (simp only[e1,e2,e3,e4,e5,e6,e7,e8,e9,e10,e11,e12,e13,e14,e15,e16,e17,e18,e19];try cbv)):∀z,o.loop 24401 (ah a0_0 a0_1 a0_2 a0_3 n8 l2)=some z->o.loop 24401 (ah a0_0 a0_1 a0_2 a0_3 i y)=some z) _ h⟩
           · obtain ⟨z,h⟩:=ih2.2 h;refine ⟨z,?_⟩;rcases h with h | h | h
             · exact .inl ((λz (hz:o.loop 24401 (ah a0_0 a0_1 a0_2 a0_3 n8 l2)=some z)=>ho.aB (by rw[<-hz];cbv;repeat (simp only[e1,e2,e3,e4,e5,e6,e7,e8,e9,e10,e11,e12,e13,e14,e15,e16,e17,e18,e19];try cbv)):∀z,o.loop 24401 (ah a0_0 a0_1 a0_2 a0_3 n8 l2)=some z->o.loop 24401 (ah a0_0 a0_1 a0_2 a0_3 i y)=some z) _ h)
             · exact .inr (.inl ((λz (hz:o.loop 24401 (ah a0_0 a0_1 a0_2 a0_3 n8 l2)=some z)=>ho.aB (by rw[<-hz];cbv;repeat (simp only[e1,e2,e3,e4,e5,e6,e7,e8,e9,e10,e11,e12,e13,e14,e15,e16,e17,e18,e19];try cbv)):∀z,o.loop 24401 (ah a0_0 a0_1 a0_2 a0_3 n8 l2)=some z->o.loop 24401 (ah a0_0 a0_1 a0_2 a0_3 i y)=some z) _ h))
             · exact .inr (.inr ((λz (hz:o.loop 24401 (ah a0_0 a0_1 a0_2 a0_3 n8 l2)=some z)=>ho.aB (by rw[<-hz];cbv;repeat (simp only[e1,e2,e3,e4,e5,e6,e7,e8,e9,e10,e11,e12,e13,e14,e15,e16,e17,e18,e19];try cbv)):∀z,o.loop 24401 (ah a0_0 a0_1 a0_2 a0_3 n8 l2)=some z->o.loop 24401 (ah a0_0 a0_1 a0_2 a0_3 i y)=some z) _ h))
      ·obtain ⟨Kl1,hCl1⟩:∃K,K=(dw H n4 n7).1:=⟨_,rfl⟩
       obtain ⟨l1,hKl1⟩:∃l,l=iL Kl1:=⟨_,rfl⟩
       have hLl1:(Kl1.length:Int)=n1:=by rw[hCl1,fK];exact hn2
       have hwl1:=yt ho H n1 hn2 n4 n7 (by omega) (by omega);rw[<-hCl1,<-hKl1,<-hy]at hwl1;cases hbl1:(dw H n4 n7).2
       ·have e13:o.call 319 [.arr (1,0) (3,1) none true,Ai n4,Ai n7] [some (.rows (3,1) y)]=some ⟨Ab false,[some (.rows (3,1) l1)],[]⟩:=by rw[hbl1]at hwl1;exact hwl1
        have hs:bK o n1 H n2 n3 n4 i=none:=by
          unfold bK;rw[<-hn7,e4,if_neg (by omega),if_neg (by omega),if_neg g10,if_neg g11,if_pos g12,Es hbl1]
        rw[hx1,f7,gH,hs];exact ⟨λh=>(by cases h),λ_=>⟨_,.inr (.inl (ho.aB (by cbv;repeat (simp only[e1,e2,e3,e4,e5,e6,e7,e8,e9,e10,e11,e12,e13];try cbv)):_=some (.ret,cI l1)))⟩⟩
       ·have e13:o.call 319 [.arr (1,0) (3,1) none true,Ai n4,Ai n7] [some (.rows (3,1) y)]=some ⟨Ab true,[some (.rows (3,1) l1)],[]⟩:=by rw[hbl1]at hwl1;exact hwl1
        obtain ⟨n8,e14⟩:=kx (o.ar .add .i64 i 1);try have g14:n8=i+1:=e14.symm.trans (ck ho (by omega) (by omega))
        have hs:bK o n1 H n2 n3 n4 i=some Kl1:=by
          unfold bK;rw[<-hn7,e4,if_neg (by omega),if_neg (by omega),if_neg g10,if_neg g11,if_pos g12,DB hbl1 hCl1]
        rw[hx1,f7,gH,hs];have en:i+1=n8:=by omega
        rw[en]at ih |-;have ih2:=ih (by omega) l1 Kl1 hKl1 hLl1;refine ⟨λh=> ?_,λh=> ?_⟩
        · obtain ⟨z,hz,h⟩:=ih2.1 h;exact ⟨z,hz,(λz (hz:o.loop 24401 (ah a0_0 a0_1 a0_2 a0_3 n8 l1)=some z)=>ho.aB (by rw[<-hz];cbv;repeat (simp only[e1,e2,e3,e4,e5,e6,e7,e8,e9,e10,e11,e12,e13,e14];try cbv)):∀z,o.loop 24401 (ah a0_0 a0_1 a0_2 a0_3 n8 l1)=some z->o.loop 24401 (ah a0_0 a0_1 a0_2 a0_3 i y)=some z) _ h⟩
        · obtain ⟨z,h⟩:=ih2.2 h;refine ⟨z,?_⟩;rcases h with h | h | h
          · exact .inl ((λz (hz:o.loop 24401 (ah a0_0 a0_1 a0_2 a0_3 n8 l1)=some z)=>ho.aB (by rw[<-hz];cbv;repeat (simp only[e1,e2,e3,e4,e5,e6,e7,e8,e9,e10,e11,e12,e13,e14];try cbv)):∀z,o.loop 24401 (ah a0_0 a0_1 a0_2 a0_3 n8 l1)=some z->o.loop 24401 (ah a0_0 a0_1 a0_2 a0_3 i y)=some z) _ h)
          · exact .inr (.inl ((λz (hz:o.loop 24401 (ah a0_0 a0_1 a0_2 a0_3 n8 l1)=some z)=>ho.aB (by rw[<-hz];cbv;repeat (simp only[e1,e2,e3,e4,e5,e6,e7,e8,e9,e10,e11,e12,e13,e14];try cbv)):∀z,o.loop 24401 (ah a0_0 a0_1 a0_2 a0_3 n8 l1)=some z->o.loop 24401 (ah a0_0 a0_1 a0_2 a0_3 i y)=some z) _ h))
          · exact .inr (.inr ((λz (hz:o.loop 24401 (ah a0_0 a0_1 a0_2 a0_3 n8 l1)=some z)=>ho.aB (by rw[<-hz];cbv;repeat (simp only[e1,e2,e3,e4,e5,e6,e7,e8,e9,e10,e11,e12,e13,e14];try cbv)):∀z,o.loop 24401 (ah a0_0 a0_1 a0_2 a0_3 n8 l1)=some z->o.loop 24401 (ah a0_0 a0_1 a0_2 a0_3 i y)=some z) _ h))
     ·obtain ⟨n8,e12⟩:=kx (o.ar .add .i64 i 1);try have g12:n8=i+1:=e12.symm.trans (ck ho (by omega) (by omega))
      have hs:bK o n1 H n2 n3 n4 i=some H:=by
        unfold bK;rw[<-hn7,e4,if_neg (by omega),if_neg (by omega),if_neg g10,if_pos g11]
      rw[hx1,f7,gH,hs];have en:i+1=n8:=by omega
      rw[en]at ih |-;have ih2:=ih (by omega) y H hy hn2;refine ⟨λh=> ?_,λh=> ?_⟩
      · obtain ⟨z,hz,h⟩:=ih2.1 h;exact ⟨z,hz,(λz (hz:o.loop 24401 (ah a0_0 a0_1 a0_2 a0_3 n8 y)=some z)=>ho.aB (by rw[<-hz];cbv;repeat (simp only[e1,e2,e3,e4,e5,e6,e7,e8,e9,e10,e11,e12];try cbv)):∀z,o.loop 24401 (ah a0_0 a0_1 a0_2 a0_3 n8 y)=some z->o.loop 24401 (ah a0_0 a0_1 a0_2 a0_3 i y)=some z) _ h⟩
      · obtain ⟨z,h⟩:=ih2.2 h;refine ⟨z,?_⟩;rcases h with h | h | h
        · exact .inl ((λz (hz:o.loop 24401 (ah a0_0 a0_1 a0_2 a0_3 n8 y)=some z)=>ho.aB (by rw[<-hz];cbv;repeat (simp only[e1,e2,e3,e4,e5,e6,e7,e8,e9,e10,e11,e12];try cbv)):∀z,o.loop 24401 (ah a0_0 a0_1 a0_2 a0_3 n8 y)=some z->o.loop 24401 (ah a0_0 a0_1 a0_2 a0_3 i y)=some z) _ h)
        · exact .inr (.inl ((λz (hz:o.loop 24401 (ah a0_0 a0_1 a0_2 a0_3 n8 y)=some z)=>ho.aB (by rw[<-hz];cbv;repeat (simp only[e1,e2,e3,e4,e5,e6,e7,e8,e9,e10,e11,e12];try cbv)):∀z,o.loop 24401 (ah a0_0 a0_1 a0_2 a0_3 n8 y)=some z->o.loop 24401 (ah a0_0 a0_1 a0_2 a0_3 i y)=some z) _ h))
        · exact .inr (.inr ((λz (hz:o.loop 24401 (ah a0_0 a0_1 a0_2 a0_3 n8 y)=some z)=>ho.aB (by rw[<-hz];cbv;repeat (simp only[e1,e2,e3,e4,e5,e6,e7,e8,e9,e10,e11,e12];try cbv)):∀z,o.loop 24401 (ah a0_0 a0_1 a0_2 a0_3 n8 y)=some z->o.loop 24401 (ah a0_0 a0_1 a0_2 a0_3 i y)=some z) _ h))
    ·rcases cE ho n7 1 with ⟨e11,g11⟩|⟨e11,g11⟩
     ·rcases aj ho n2 11 with ⟨e12,g12⟩|⟨e12,g12⟩
      ·obtain ⟨n8,e13⟩:=kx (o.ar .add .i64 i 1);try have g13:n8=i+1:=e13.symm.trans (ck ho (by omega) (by omega))
       have hs:bK o n1 H n2 n3 n4 i=some H:=by
         unfold bK;rw[<-hn7,e4,if_neg (by omega),if_neg (by omega),if_pos g10,if_pos g11]
       rw[hx1,f7,gH,hs];have en:i+1=n8:=by omega
       rw[en]at ih |-;have ih2:=ih (by omega) y H hy hn2;refine ⟨λh=> ?_,λh=> ?_⟩
       · obtain ⟨z,hz,h⟩:=ih2.1 h;exact ⟨z,hz,(λz (hz:o.loop 24401 (ah a0_0 a0_1 a0_2 a0_3 n8 y)=some z)=>ho.aB (by rw[<-hz];cbv;repeat (simp only[e1,e2,e3,e4,e5,e6,e7,e8,e9,e10,e11,e12,e13];try cbv)):∀z,o.loop 24401 (ah a0_0 a0_1 a0_2 a0_3 n8 y)=some z->o.loop 24401 (ah a0_0 a0_1 a0_2 a0_3 i y)=some z) _ h⟩
       · obtain ⟨z,h⟩:=ih2.2 h;refine ⟨z,?_⟩;rcases h with h | h | h
         · exact .inl ((λz (hz:o.loop 24401 (ah a0_0 a0_1 a0_2 a0_3 n8 y)=some z)=>ho.aB (by rw[<-hz];cbv;repeat (simp only[e1,e2,e3,e4,e5,e6,e7,e8,e9,e10,e11,e12,e13];try cbv)):∀z,o.loop 24401 (ah a0_0 a0_1 a0_2 a0_3 n8 y)=some z->o.loop 24401 (ah a0_0 a0_1 a0_2 a0_3 i y)=some z) _ h)
         · exact .inr (.inl ((λz (hz:o.loop 24401 (ah a0_0 a0_1 a0_2 a0_3 n8 y)=some z)=>ho.aB (by rw[<-hz];cbv;repeat (simp only[e1,e2,e3,e4,e5,e6,e7,e8,e9,e10,e11,e12,e13];try cbv)):∀z,o.loop 24401 (ah a0_0 a0_1 a0_2 a0_3 n8 y)=some z->o.loop 24401 (ah a0_0 a0_1 a0_2 a0_3 i y)=some z) _ h))
         · exact .inr (.inr ((λz (hz:o.loop 24401 (ah a0_0 a0_1 a0_2 a0_3 n8 y)=some z)=>ho.aB (by rw[<-hz];cbv;repeat (simp only[e1,e2,e3,e4,e5,e6,e7,e8,e9,e10,e11,e12,e13];try cbv)):∀z,o.loop 24401 (ah a0_0 a0_1 a0_2 a0_3 n8 y)=some z->o.loop 24401 (ah a0_0 a0_1 a0_2 a0_3 i y)=some z) _ h))
      ·obtain ⟨n8,e13⟩:=kx (o.ar .add .i64 i 1);try have g13:n8=i+1:=e13.symm.trans (ck ho (by omega) (by omega))
       omega
     ·have hs:bK o n1 H n2 n3 n4 i=none:=by
        unfold bK;rw[<-hn7,e4,if_neg (by omega),if_neg (by omega),if_pos g10,if_neg g11]
      rw[hx1,f7,gH,hs];exact ⟨λh=>(by cases h),λ_=>⟨_,.inl (ho.aB (by cbv;repeat (simp only[e1,e2,e3,e4,e5,e6,e7,e8,e9,e10,e11];try cbv)):_=some (.ret,cH y))⟩⟩
   ·have hs:bK o n1 H n2 n3 n4 i=none:=by
      unfold bK;rw[<-hn7,e4,if_neg (by omega),if_pos g9]
    rw[hx1,f7,gH,hs];exact ⟨λh=>(by cases h),λ_=>⟨_,.inl (ho.aB (by cbv;repeat (simp only[e1,e2,e3,e4,e5,e6,e7,e8,e9];try cbv)):_=some (.ret,cH y))⟩⟩
  ·have hs:bK o n1 H n2 n3 n4 i=none:=by
     unfold bK;rw[<-hn7,e4,if_pos g8]
   rw[hx1,f7,gH,hs];exact ⟨λh=>(by cases h),λ_=>⟨_,.inl (ho.aB (by cbv;repeat (simp only[e1,e2,e3,e4,e5,e6,e7,e8];try cbv)):_=some (.ret,cH y))⟩⟩
theorem xu (a0_0:ByteArray) (a0_1 a0_2:Int) (a0_3:List D) (hT:∀x∈a0_3,Ho a0_3.length x) (h1:1<=(a0_3.length:Int)) (hb:(a0_3.length:Int)<=1048576):∃l,(Bf o a0_3=true->l=iL (um o a0_3))/\o.call 244 [.agg [.d (.str a0_0),.d (.int .i64 a0_1),.d (.int .i64 a0_2),.d (.lst a0_3)]] []=some ⟨.tup [.d (.lst l),.d (.bool (Bf o a0_3))],[],[]⟩:=by
 obtain ⟨n1,e1,g1⟩:=ay ho a0_3;have e2:o.cmp .eql n1 n1=true:=cw ho rfl;have e3:o.fF 8 n1=true:=by rw[ho.fF];exact decide_eq_true (by omega)
 obtain ⟨l1,hl1,e4⟩:∃l1,l1=iL (List.replicate n1.toNat 0)/\o.qz n1 (.int .i64 0)=l1:=⟨_,rfl,by rw[ho.qz];unfold iL;rw[List.map_replicate]⟩
 obtain ⟨l2,hl2,e5⟩:∃l2,l2=iL ((H0 n1).set 0 0)/\o.loop 24400 (g_ a0_0 a0_1 a0_2 a0_3 1 l1)=some (.exit 0,iP a0_0 a0_1 a0_2 a0_3 l2):=by
   refine ⟨_,rfl,?_⟩;rw[M4 ho a0_0 a0_1 a0_2 a0_3 n1 (by omega) 1 (by omega) (by omega) l1 _ hl1 (by rw[List.length_replicate];omega)];congr 4;obtain ⟨k,hk⟩:∃k:Nat,n1.toNat=k+1:=⟨n1.toNat-1,by omega⟩
   unfold H0;rw[hk,show (1:Int).toNat=1 from rfl,show (n1-1).toNat=k by omega,List.replicate_succ,List.replicate_succ];rfl
 have hr:=OW ho a0_0 a0_1 a0_2 a0_3 n1 (by rw[g1];exact hT) g1.symm (by omega) 0 (Int.le_refl _) (by omega) l2 _ hl2 (by rw[List.length_set];exact uW (by omega));rw[show (0:Int).toNat=0 from rfl,List.drop_zero]at hr;have hr2:(Bf o a0_3=false/\∃z,o.loop 24401 (ah a0_0 a0_1 a0_2 a0_3 0 l2)=some (.ret,cH z))\/(Bf o a0_3=true/\∃z,z=iL (um o a0_3)/\o.loop 24401 (ah a0_0 a0_1 a0_2 a0_3 0 l2)=some (.exit 2,fT z))\/(Bf o a0_3=false/\∃z,o.loop 24401 (ah a0_0 a0_1 a0_2 a0_3 0 l2)=some (.ret,cI z))\/(Bf o a0_3=false/\∃z,o.loop 24401 (ah a0_0 a0_1 a0_2 a0_3 0 l2)=some (.ret,fU z)):=by
   have hG:Bf o a0_3=pX o n1 a0_3 0 ((H0 n1).set 0 0):=by rw[g1];rfl
   have hFF:um o a0_3=wU o n1 a0_3 0 ((H0 n1).set 0 0):=by rw[g1];rfl
   rw[hG,hFF];cases Q:pX o n1 a0_3 0 ((H0 n1).set 0 0)
   ·obtain ⟨z,h⟩:=hr.2 Q;rcases h with h | h | h
    ·exact .inl ⟨rfl,z,h⟩
    ·exact .inr (.inr (.inl ⟨rfl,z,h⟩))
    ·exact .inr (.inr (.inr ⟨rfl,z,h⟩))
   ·exact .inr (.inl ⟨rfl,hr.1 Q⟩)
 rcases hr2 with ⟨hG,l3,e6⟩ | ⟨hG,l3,hl3,e6⟩ | ⟨hG,l3,e6⟩ | ⟨hG,l3,e6⟩
 ·exact ⟨_,λh=>(by cases hG.symm.trans h),by rw[hG];exact (ho.au (by cbv at e5;cbv at e6;cbv;repeat (simp only[e1,e2,e3,e4,e5,e6];try cbv)):o.call 244 [.agg [.d (.str a0_0),.d (.int .i64 a0_1),.d (.int .i64 a0_2),.d (.lst a0_3)]] []=some ⟨.tup [.d (.lst l3),.d (.bool false)],[],[]⟩)⟩
 ·exact ⟨_,λ_=>hl3,by rw[hG];exact (ho.au (by cbv at e5;cbv at e6;cbv;repeat (simp only[e1,e2,e3,e4,e5,e6];try cbv)):o.call 244 [.agg [.d (.str a0_0),.d (.int .i64 a0_1),.d (.int .i64 a0_2),.d (.lst a0_3)]] []=some ⟨.tup [.d (.lst l3),.d (.bool true)],[],[]⟩)⟩
 ·exact ⟨_,λh=>(by cases hG.symm.trans h),by rw[hG];exact (ho.au (by cbv at e5;cbv at e6;cbv;repeat (simp only[e1,e2,e3,e4,e5,e6];try cbv)):o.call 244 [.agg [.d (.str a0_0),.d (.int .i64 a0_1),.d (.int .i64 a0_2),.d (.lst a0_3)]] []=some ⟨.tup [.d (.lst l3),.d (.bool false)],[],[]⟩)⟩
 ·exact ⟨_,λh=>(by cases hG.symm.trans h),by rw[hG];exact (ho.au (by cbv at e5;cbv at e6;cbv;repeat (simp only[e1,e2,e3,e4,e5,e6];try cbv)):o.call 244 [.agg [.d (.str a0_0),.d (.int .i64 a0_1),.d (.int .i64 a0_2),.d (.lst a0_3)]] []=some ⟨.tup [.d (.lst l3),.d (.bool false)],[],[]⟩)⟩
end
end T2
