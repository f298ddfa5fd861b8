import Derived.Test.YtfnagkpidcdocaaGreatM19
set_option linter.all false
namespace T2
open Go Go.Vi
set_option maxRecDepth 100000
set_option maxHeartbeats 4000000
def cD (o:aK) (n:Int) (H:List Int) (op N to a:Int):Option (List Int):=
 if gt H a<tk op N then none else if op=9 then (if to<=a then none else (bp n H (a+1) (o.ar .sub .i64 (gt H a) 1)).bind fun K=>bp n K to (gt H a))
 else if op=10 then (if to<=a then none else bp n H to (gt H a))else if op=11 then some H else if op=12 then (if gt H a=1 then some H else none)
 else bp n H (a+1) (o.ar .add .i64 (o.ar .sub .i64 (gt H a) (tk op N)) 1)
theorem oo {n:Int} {H:List Int} {a h:Int} {K:List Int} (e:bp n H a h=some K):K.length=H.length:=by
 unfold bp at e;split at e; · cases e
 split at e; · cases e
 split at e
 ·cases e;exact List.length_set
 split at e
 ·cases e;rfl
 ·cases e
theorem jD {n:Int} {H:List Int} {a h:Int}:((bp n H a h).getD H).length=H.length:=by
 cases e:bp n H a h
 ·rfl
 ·exact oo e
section
variable {o:aK} (ho:aU cF bE o)
include ho
theorem ED (
          H:List Int) (y:List D) (hy:y=iL H) (n:Int) (hn:(H.length:Int)=n) (hb:n<=1048576) (a:Int) (h0:0<=a) (h1:a<n) (x_0 x_1:Int) (x_2:ByteArray) (x_3:Int):∃K,o.call 287 [.ptr (1,0) 0,Ai a,.agg [Ai x_0,Ai x_1,As x_2,Ai x_3]] [some (.box [.arr (1,1) (3,1) none true,Ab false]),some (.rows (3,1) y)]=some ⟨.tup [],[some (.box [.arr (1,1) (3,1) none true,Ab (cD o n H x_0 x_1 x_3 a).isNone]),some (.rows (3,1) (iL K))],[]⟩/\∀M,cD o n H x_0 x_1 x_3 a=some M->K=M/\(M.length:Int)=n:=by
 obtain ⟨n1,hn1,e1⟩:∃v,v=gt H a/\o.dm y a=some (.int .i64 v):=⟨_,rfl,by rw [hy];exact nr ho hn h0 h1⟩
 obtain ⟨n2,e2⟩:=kx (tk x_0 x_1);have e3:o.call 350 [.agg [Ai x_0,Ai x_1,As x_2,Ai x_3]] []=Ar (Ai n2):=(Hs ho x_0 x_1 x_2 x_3).trans (by rw [e2]);rcases bB ho n1 n2 with ⟨e4,g4⟩|⟨e4,g4⟩
 ·rcases ak ho x_0 9 with ⟨e5,g5⟩|⟨e5,g5⟩
  ·rcases ak ho x_0 10 with ⟨e6,g6⟩|⟨e6,g6⟩
   ·rcases ak ho x_0 11 with ⟨e7,g7⟩|⟨e7,g7⟩
    ·rcases ak ho x_0 12 with ⟨e8,g8⟩|⟨e8,g8⟩
     ·obtain ⟨n3,e9⟩:=kx (o.ar .add .i64 a 1);try have g9:n3=a+1:=e9.symm.trans (cM ho (by omega) (by omega))
      obtain ⟨n4,e10⟩:=kx (o.ar .sub .i64 n1 n2);try have g10:n4=n1-n2:=e10.symm.trans (fP ho (by omega) (by omega))
      obtain ⟨n5,e11⟩:=kx (o.ar .add .i64 n4 1);try have g11:n5=n4+1:=e11.symm.trans (cM ho (by omega) (by omega))
      obtain ⟨b6,hb6⟩:∃b,b=((bp n H n3 n5).isNone || false):=⟨_,rfl⟩
      obtain ⟨Kl1,hKl1⟩:∃K,K=(bp n H n3 n5).getD H:=⟨_,rfl⟩
      obtain ⟨l1,hl1⟩:∃l,l=iL Kl1:=⟨_,rfl⟩
      have lKl1:(Kl1.length:Int)=n:=by rw [hKl1,jD];first | exact hn | exact lKy
      have e12:o.call 286 [.ptr (1,0) 0,Ai n3,Ai n5] [some (.box [.arr (1,1) (3,1) none true,Ab false]),some (.rows (3,1) y)]=some ⟨.tup [],[some (.box [.arr (1,1) (3,1) none true,Ab b6]),some (.rows (3,1) l1)],[]⟩:=by rw [hy,hl1,hKl1,hb6];exact ul ho H n (by assumption) n3 n5 (by omega) false
      have hL:cD o n H x_0 x_1 x_3 a=bp n H n3 n5:=by
        unfold cD;rw [<-hn1,e2,if_neg (by omega),if_neg g5,if_neg g6,if_neg g7,if_neg g8,<-g9,e10,e11]
      exact ⟨Kl1,by rw [hL,<-hl1,show (bp n H n3 n5).isNone=b6 by rw [hb6,Bool.or_false]];exact (ho.aq (by cbv;repeat (simp only [e1,e2,e3,e4,e5,e6,e7,e8,e9,e10,e11,e12];try cbv)):o.call 287 [.ptr (1,0) 0,Ai a,.agg [Ai x_0,Ai x_1,As x_2,Ai x_3]] [some (.box [.arr (1,1) (3,1) none true,Ab false]),some (.rows (3,1) y)]=some ⟨.tup [],[some (.box [.arr (1,1) (3,1) none true,Ab b6]),some (.rows (3,1) l1)],[]⟩),fun M hM=>by rw [hL]at hM;rw [hM]at hKl1;exact ⟨hKl1,by rw [oo hM];exact hn⟩⟩
     ·rcases cH ho n1 1 with ⟨e9,g9⟩|⟨e9,g9⟩
      ·first
       | (
         have hL:cD o n H x_0 x_1 x_3 a=some H:=by
          unfold cD;rw [<-hn1,e2,if_neg (by omega),if_neg g5,if_neg g6,if_neg g7,if_pos g8,if_pos g9]
         exact ⟨H,by rw [hL,<-hy];exact (ho.aq (by cbv;repeat (simp only [e1,e2,e3,e4,e5,e6,e7,e8,e9];try cbv)):o.call 287 [.ptr (1,0) 0,Ai a,.agg [Ai x_0,Ai x_1,As x_2,Ai x_3]] [some (.box [.arr (1,1) (3,1) none true,Ab false]),some (.rows (3,1) y)]=some ⟨.tup [],[some (.box [.arr (1,1) (3,1) none true,Ab false]),some (.rows (3,1) y)],[]⟩),fun M hM=>by rw [hL]at hM;cases hM;exact ⟨rfl,hn⟩⟩)
       | (
         have hL:cD o n H x_0 x_1 x_3 a=none:=by
          unfold cD;rw [<-hn1,e2,if_neg (by omega),if_neg g5,if_neg g6,if_neg g7,if_pos g8,if_neg g9]
         exact ⟨H,by rw [hL,<-hy];exact (ho.aq (by cbv;repeat (simp only [e1,e2,e3,e4,e5,e6,e7,e8,e9];try cbv)):o.call 287 [.ptr (1,0) 0,Ai a,.agg [Ai x_0,Ai x_1,As x_2,Ai x_3]] [some (.box [.arr (1,1) (3,1) none true,Ab false]),some (.rows (3,1) y)]=some ⟨.tup [],[some (.box [.arr (1,1) (3,1) none true,Ab false]),some (.rows (3,1) y)],[]⟩),fun M hM=>by rw [hL]at hM;cases hM⟩)
      ·first
       | (
         have hL:cD o n H x_0 x_1 x_3 a=some H:=by
          unfold cD;rw [<-hn1,e2,if_neg (by omega),if_neg g5,if_neg g6,if_neg g7,if_pos g8,if_pos g9]
         exact ⟨H,by rw [hL,<-hy];exact (ho.aq (by cbv;repeat (simp only [e1,e2,e3,e4,e5,e6,e7,e8,e9];try cbv)):o.call 287 [.ptr (1,0) 0,Ai a,.agg [Ai x_0,Ai x_1,As x_2,Ai x_3]] [some (.box [.arr (1,1) (3,1) none true,Ab false]),some (.rows (3,1) y)]=some ⟨.tup [],[some (.box [.arr (1,1) (3,1) none true,Ab true]),some (.rows (3,1) y)],[]⟩),fun M hM=>by rw [hL]at hM;cases hM;exact ⟨rfl,hn⟩⟩)
       | (
         have hL:cD o n H x_0 x_1 x_3 a=none:=by
          unfold cD;rw [<-hn1,e2,if_neg (by omega),if_neg g5,if_neg g6,if_neg g7,if_pos g8,if_neg g9]
         exact ⟨H,by rw [hL,<-hy];exact (ho.aq (by cbv;repeat (simp only [e1,e2,e3,e4,e5,e6,e7,e8,e9];try cbv)):o.call 287 [.ptr (1,0) 0,Ai a,.agg [Ai x_0,Ai x_1,As x_2,Ai x_3]] [some (.box [.arr (1,1) (3,1) none true,Ab false]),some (.rows (3,1) y)]=some ⟨.tup [],[some (.box [.arr (1,1) (3,1) none true,Ab true]),some (.rows (3,1) y)],[]⟩),fun M hM=>by rw [hL]at hM;cases hM⟩)
    ·have hL:cD o n H x_0 x_1 x_3 a=some H:=by
       unfold cD;rw [<-hn1,e2,if_neg (by omega),if_neg g5,if_neg g6,if_pos g7]
     exact ⟨H,by rw [hL,<-hy];exact (ho.aq (by cbv;repeat (simp only [e1,e2,e3,e4,e5,e6,e7];try cbv)):o.call 287 [.ptr (1,0) 0,Ai a,.agg [Ai x_0,Ai x_1,As x_2,Ai x_3]] [some (.box [.arr (1,1) (3,1) none true,Ab false]),some (.rows (3,1) y)]=some ⟨.tup [],[some (.box [.arr (1,1) (3,1) none true,Ab false]),some (.rows (3,1) y)],[]⟩),fun M hM=>by rw [hL]at hM;cases hM;exact ⟨rfl,hn⟩⟩
   ·rcases jy ho x_3 a with ⟨e7,g7⟩|⟨e7,g7⟩
    ·obtain ⟨b5,hb5⟩:∃b,b=((bp n H x_3 n1).isNone || false):=⟨_,rfl⟩
     obtain ⟨Kl1,hKl1⟩:∃K,K=(bp n H x_3 n1).getD H:=⟨_,rfl⟩
     obtain ⟨l1,hl1⟩:∃l,l=iL Kl1:=⟨_,rfl⟩
     have lKl1:(Kl1.length:Int)=n:=by rw [hKl1,jD];first | exact hn | exact lKy
     have e8:o.call 286 [.ptr (1,0) 0,Ai x_3,Ai n1] [some (.box [.arr (1,1) (3,1) none true,Ab false]),some (.rows (3,1) y)]=some ⟨.tup [],[some (.box [.arr (1,1) (3,1) none true,Ab b5]),some (.rows (3,1) l1)],[]⟩:=by rw [hy,hl1,hKl1,hb5];exact ul ho H n (by assumption) x_3 n1 (by omega) false
     have hL:cD o n H x_0 x_1 x_3 a=bp n H x_3 n1:=by
       unfold cD;rw [<-hn1,e2,if_neg (by omega),if_neg g5,if_pos g6,if_neg (by omega)]
     exact ⟨Kl1,by rw [hL,<-hl1,show (bp n H x_3 n1).isNone=b5 by rw [hb5,Bool.or_false]];exact (ho.aq (by cbv;repeat (simp only [e1,e2,e3,e4,e5,e6,e7,e8];try cbv)):o.call 287 [.ptr (1,0) 0,Ai a,.agg [Ai x_0,Ai x_1,As x_2,Ai x_3]] [some (.box [.arr (1,1) (3,1) none true,Ab false]),some (.rows (3,1) y)]=some ⟨.tup [],[some (.box [.arr (1,1) (3,1) none true,Ab b5]),some (.rows (3,1) l1)],[]⟩),fun M hM=>by rw [hL]at hM;rw [hM]at hKl1;exact ⟨hKl1,by rw [oo hM];exact hn⟩⟩
    ·have hL:cD o n H x_0 x_1 x_3 a=none:=by
       unfold cD;rw [<-hn1,e2,if_neg (by omega),if_neg g5,if_pos g6,if_pos g7]
     exact ⟨H,by rw [hL,<-hy];exact (ho.aq (by cbv;repeat (simp only [e1,e2,e3,e4,e5,e6,e7];try cbv)):o.call 287 [.ptr (1,0) 0,Ai a,.agg [Ai x_0,Ai x_1,As x_2,Ai x_3]] [some (.box [.arr (1,1) (3,1) none true,Ab false]),some (.rows (3,1) y)]=some ⟨.tup [],[some (.box [.arr (1,1) (3,1) none true,Ab true]),some (.rows (3,1) y)],[]⟩),fun M hM=>by rw [hL]at hM;cases hM⟩
  ·rcases jy ho x_3 a with ⟨e6,g6⟩|⟨e6,g6⟩
   ·obtain ⟨n3,e7⟩:=kx (o.ar .add .i64 a 1);try have g7:n3=a+1:=e7.symm.trans (cM ho (by omega) (by omega))
    obtain ⟨n4,e8⟩:=kx (o.ar .sub .i64 n1 1);try have g8:n4=n1-1:=e8.symm.trans (fP ho (by omega) (by omega))
    obtain ⟨b4,hb4⟩:∃b,b=((bp n H n3 n4).isNone || false):=⟨_,rfl⟩
    obtain ⟨Kl1,hKl1⟩:∃K,K=(bp n H n3 n4).getD H:=⟨_,rfl⟩
    obtain ⟨l1,hl1⟩:∃l,l=iL Kl1:=⟨_,rfl⟩
    have lKl1:(Kl1.length:Int)=n:=by rw [hKl1,jD];first | exact hn | exact lKy
    have e9:o.call 286 [.ptr (1,0) 0,Ai n3,Ai n4] [some (.box [.arr (1,1) (3,1) none true,Ab false]),some (.rows (3,1) y)]=some ⟨.tup [],[some (.box [.arr (1,1) (3,1) none true,Ab b4]),some (.rows (3,1) l1)],[]⟩:=by rw [hy,hl1,hKl1,hb4];exact ul ho H n (by assumption) n3 n4 (by omega) false
    obtain ⟨b5,hb5⟩:∃b,b=((bp n Kl1 x_3 n1).isNone || b4):=⟨_,rfl⟩
    obtain ⟨Kl2,hKl2⟩:∃K,K=(bp n Kl1 x_3 n1).getD Kl1:=⟨_,rfl⟩
    obtain ⟨l2,hl2⟩:∃l,l=iL Kl2:=⟨_,rfl⟩
    have lKl2:(Kl2.length:Int)=n:=by rw [hKl2,jD];first | exact hn | exact lKl1
    have e10:o.call 286 [.ptr (1,0) 0,Ai x_3,Ai n1] [some (.box [.arr (1,1) (3,1) none true,Ab b4]),some (.rows (3,1) l1)]=some ⟨.tup [],[some (.box [.arr (1,1) (3,1) none true,Ab b5]),some (.rows (3,1) l2)],[]⟩:=by rw [hl1,hl2,hKl2,hb5];exact ul ho Kl1 n (by assumption) x_3 n1 (by omega) b4
    have hL:cD o n H x_0 x_1 x_3 a=(bp n H n3 n4).bind fun K=>bp n K x_3 n1:=by
      unfold cD;rw [<-hn1,e2,if_neg (by omega),if_pos g5,if_neg (by omega),<-g7,e8]
    cases c1:bp n H n3 n4 with
    | none=>
      rw [c1]at hL hb4;have hb:b5=true:=by rw [hb5,hb4];simp
      exact ⟨Kl2,by rw [hL,<-hl2];have hp:=(ho.aq (by cbv;repeat (simp only [e1,e2,e3,e4,e5,e6,e7,e8,e9,e10];try cbv)):o.call 287 [.ptr (1,0) 0,Ai a,.agg [Ai x_0,Ai x_1,As x_2,Ai x_3]] [some (.box [.arr (1,1) (3,1) none true,Ab false]),some (.rows (3,1) y)]=some ⟨.tup [],[some (.box [.arr (1,1) (3,1) none true,Ab b5]),some (.rows (3,1) l2)],[]⟩);rw [hb]at hp;exact hp,fun M hM=>by rw [hL]at hM;cases hM⟩
    | some K1=>
      rw [c1]at hL hb4 hKl1;have hE:Kl1=K1:=hKl1;have hb:b5=(bp n Kl1 x_3 n1).isNone:=by rw [hb5,hb4];simp
      refine ⟨Kl2,by rw [hL,<-hE,<-hl2];show _=some (bk.mk _ [some (.box [_,Ab (bp n Kl1 x_3 n1).isNone]),_] _);rw [<-hb];exact (ho.aq (by cbv;repeat (simp only [e1,e2,e3,e4,e5,e6,e7,e8,e9,e10];try cbv)):o.call 287 [.ptr (1,0) 0,Ai a,.agg [Ai x_0,Ai x_1,As x_2,Ai x_3]] [some (.box [.arr (1,1) (3,1) none true,Ab false]),some (.rows (3,1) y)]=some ⟨.tup [],[some (.box [.arr (1,1) (3,1) none true,Ab b5]),some (.rows (3,1) l2)],[]⟩),fun M hM=> ?_⟩;rw [hL,<-hE]at hM
      replace hM:bp n Kl1 x_3 n1=some M:=hM
      rw [hM]at hKl2;exact ⟨hKl2,by rw [oo hM];exact lKl1⟩
   ·have hL:cD o n H x_0 x_1 x_3 a=none:=by
      unfold cD;rw [<-hn1,e2,if_neg (by omega),if_pos g5,if_pos g6]
    exact ⟨H,by rw [hL,<-hy];exact (ho.aq (by cbv;repeat (simp only [e1,e2,e3,e4,e5,e6];try cbv)):o.call 287 [.ptr (1,0) 0,Ai a,.agg [Ai x_0,Ai x_1,As x_2,Ai x_3]] [some (.box [.arr (1,1) (3,1) none true,Ab false]),some (.rows (3,1) y)]=some ⟨.tup [],[some (.box [.arr (1,1) (3,1) none true,Ab true]),some (.rows (3,1) y)],[]⟩),fun M hM=>by rw [hL]at hM;cases hM⟩
 ·have hL:cD o n H x_0 x_1 x_3 a=none:=by
    unfold cD;rw [<-hn1,e2,if_pos g4]
  exact ⟨H,by rw [hL,<-hy];exact (ho.aq (by cbv;repeat (simp only [e1,e2,e3,e4];try cbv)):o.call 287 [.ptr (1,0) 0,Ai a,.agg [Ai x_0,Ai x_1,As x_2,Ai x_3]] [some (.box [.arr (1,1) (3,1) none true,Ab false]),some (.rows (3,1) y)]=some ⟨.tup [],[some (.box [.arr (1,1) (3,1) none true,Ab true]),some (.rows (3,1) y)],[]⟩),fun M hM=>by rw [hL]at hM;cases hM⟩
theorem Hv (H:List Int) (n:Int) (hn:(H.length:Int)=n) (hb:n<=1048576) (a:Int) (h0:0<=a) (h1:a<n) (x_0 x_1:Int) (x_2:ByteArray) (x_3:Int):∃K,o.call 287 [.ptr (1,0) 0,Ai a,.agg [Ai x_0,Ai x_1,As x_2,Ai x_3]] [some (.box [.arr (1,1) (3,1) none true,Ab false]),some (.rows (3,1) (iL H))]=some ⟨.tup [],[some (.box [.arr (1,1) (3,1) none true,Ab (cD o n H x_0 x_1 x_3 a).isNone]),some (.rows (3,1) (iL K))],[]⟩/\∀M,cD o n H x_0 x_1 x_3 a=some M->K=M/\(M.length:Int)=n:=ED ho H _ rfl n hn hb a h0 h1 x_0 x_1 x_2 x_3
end
def Bu (x:D):Prop:=∃op N s to,x= .agg [.int .i64 op,.int .i64 N,.str s,.int .i64 to]
def mg (o:aK) (n:Int):List D->Int->List Int->Bool
 | [],_,_=>true
 | .agg [.int _ op,.int _ N,.str _,.int _ to]::xs,i,H=>if gt H i<0 then false else match cD o n H op N to i with | none=>false | some K=>mg o n xs (i+1) K
 | _::_,_,_=>false
theorem Bv {o:aK} {n op N to:Int} {s:ByteArray} {xs:List D} {i:Int} {H:List Int}:mg o n (.agg [.int .i64 op,.int .i64 N,.str s,.int .i64 to]::xs) i H=if gt H i<0 then false else match cD o n H op N to i with | none=>false | some K=>mg o n xs (i+1) K:=rfl
def H0 (n:Int):List Int:=List.replicate n.toNat (-1)
theorem um {n:Int} (h:0<=n):((H0 n).length:Int)=n:=by unfold H0;rw [List.length_replicate];omega
theorem take_set {H:List Int} {i:Nat} {v:Int} (h:i<H.length):(H.set i v).take (i+1)=H.take i++[v]:=by
 rw [List.take_add_one,List.take_set_of_le (Nat.le_refl _),List.getElem?_set_self h];rfl
section
variable {o:aK} (ho:aU cF bE o)
include ho
def gO (f_0:ByteArray) (f_1 f_2:Int) (f_3:List D) (n2 i:Int) (y:List D):St:=⟨E 56 [(0,.sp [.str f_0,.int .i64 f_1,.int .i64 f_2,.lst f_3] 0),(4,.ptr (4,0) 0),(17,Ai n2),(18,Ai i)],O 56 [(4,[some (.box [.arr (13,0) (3,1) none true,Ab false])]),(13,[some (.rows (3,1) y)])]⟩
def iy (f_0:ByteArray) (f_1 f_2:Int) (f_3 y:List D):St:=⟨E 56 [(0,.sp [.str f_0,.int .i64 f_1,.int .i64 f_2,.lst f_3] 0),(4,.ptr (4,0) 0)],O 56 [(4,[some (.box [.arr (13,0) (3,1) none true,Ab false])]),(13,[some (.rows (3,1) y)])]⟩
def au (f_3:List D) (n1 i:Int) (c:Bool) (y:List D):St:=⟨E 56 [(4,.ptr (4,0) 0),(30,Al f_3),(31,Ai n1),(32,Ai i)],O 56 [(4,[some (.box [.arr (13,0) (3,1) none true,Ab c])]),(13,[some (.rows (3,1) y)])]⟩
def cZ (y:List D):St:=⟨E 56 [(2,.emp),(3,Ab false),(4,.ptr (4,0) 0)],O 56 [(4,[some (.box [.arr (13,0) (3,1) none true,Ab true])]),(13,[some (.rows (3,1) y)])]⟩
def bS (c:Bool) (y:List D):St:=⟨E 56 [(4,.ptr (4,0) 0)],O 56 [(4,[some (.box [.arr (13,0) (3,1) none true,Ab c])]),(13,[some (.rows (3,1) y)])]⟩
def fM (y:List D):St:=⟨E 56 [(2,.emp),(3,Ab false),(4,.ptr (4,0) 0)],O 56 [(4,[some (.box [.arr (13,0) (3,1) none true,Ab false])]),(13,[some (.rows (3,1) y)])]⟩
theorem Ms (f_0:ByteArray) (f_1 f_2:Int) (f_3:List D) (n2:Int) (hb:n2<=1048576):∀i:Int,0<=i->i<=(n2:Int)->∀(y:List D) (H:List Int),y=iL H->(H.length:Int)=n2->o.loop 19200 (gO f_0 f_1 f_2 f_3 n2 i y)=some (.exit 0,iy f_0 f_1 f_2 f_3 (iL (H.take i.toNat++List.replicate (n2-i).toNat (-1)))):=by
 refine cU (P:=fun i=>∀(y:List D) (H:List Int),y=iL H->(H.length:Int)=n2->o.loop 19200 (gO f_0 f_1 f_2 f_3 n2 i y)=some (.exit 0,iy f_0 f_1 f_2 f_3 (iL (H.take i.toNat++List.replicate (n2-i).toNat (-1))))) (n2:Int) ?_;intro i h0 h1 ih;try dsimp only at ih |-
 intro y H hy hn;refine ho.gC fun R Q=> ?_
 conv=>lhs;cbv
 rcases bB ho i n2 with ⟨e1,g1⟩|⟨e1,g1⟩<;>(conv=>lhs;rw [e1];cbv)
 ·subst Q;rw [show (n2-i).toNat=0 by omega,List.replicate_zero,List.append_nil,List.take_of_length_le (by omega),<-hy];rfl
 ·obtain ⟨n1,e2⟩:∃n1,o.dm y i=some (.int .i64 n1):=⟨_,by rw [hy];exact nr ho hn h0 g1⟩
  obtain ⟨l1,hl1,e3⟩:∃l1,l1=iL (H.set i.toNat (-1))/\o.set y i (.int .i64 (-1))=l1:=⟨_,rfl,by rw [hy];exact xV ho h0⟩
  obtain ⟨n3,e4,g4⟩:=bA ho i 1;conv=>lhs;rw [e2];cbv;(try (rw [e2];cbv));rw [e3];cbv;rw [e4];cbv
  subst Q;show o.loop 19200 (gO f_0 f_1 f_2 f_3 n2 n3 l1)=_;rw [show n3=i+1 by omega,ih (by omega) l1 _ hl1 (by rw [List.length_set];exact hn)];congr 4;rw [show (i+1).toNat=i.toNat+1 by omega,take_set (by omega),List.append_assoc];congr 1;rw [show (n2-i).toNat=(n2-(i.toNat+1:Nat)).toNat+1 by omega,List.replicate_succ,show ((i.toNat+1:Nat):Int)=i+1 by omega];rfl
theorem NQ (f_3:List D) (hT:∀x∈f_3,Bu x) (n1:Int) (hn:(f_3.length:Int)=n1) (hb:n1<=1048576):∀i:Int,0<=i->i<=(n1:Int)->∀(c:Bool) (y:List D) (H:List Int),(c=false->y=iL H/\(H.length:Int)=n1)->(c=true->o.loop 19201 (au f_3 n1 i c y)=some (.ret,cZ y)\/o.loop 19201 (au f_3 n1 i c y)=some (.exit 2,bS true y))/\(c=false->(mg o n1 (f_3.drop i.toNat) i H=true->∃z,o.loop 19201 (au f_3 n1 i c y)=some (.exit 2,bS false z))/\(mg o n1 (f_3.drop i.toNat) i H=false->∃z,o.loop 19201 (au f_3 n1 i c y)=some (.ret,cZ z)\/o.loop 19201 (au f_3 n1 i c y)=some (.ret,fM z)\/o.loop 19201 (au f_3 n1 i c y)=some (.exit 2,bS true z))):=by
 refine cU (P:=fun i=>∀(c:Bool) (y:List D) (H:List Int),(c=false->y=iL H/\(H.length:Int)=n1)->(c=true->o.loop 19201 (au f_3 n1 i c y)=some (.ret,cZ y)\/o.loop 19201 (au f_3 n1 i c y)=some (.exit 2,bS true y))/\(c=false->(mg o n1 (f_3.drop i.toNat) i H=true->∃z,o.loop 19201 (au f_3 n1 i c y)=some (.exit 2,bS false z))/\(mg o n1 (f_3.drop i.toNat) i H=false->∃z,o.loop 19201 (au f_3 n1 i c y)=some (.ret,cZ z)\/o.loop 19201 (au f_3 n1 i c y)=some (.ret,fM z)\/o.loop 19201 (au f_3 n1 i c y)=some (.exit 2,bS true z)))) (n1:Int) ?_;intro i h0 h1 ih;try dsimp only at ih |-
 intro c y H hy;rcases bB ho i n1 with ⟨e1,g1⟩|⟨e1,g1⟩
 ·rw [bR hn (by omega)];have hp:o.loop 19201 (au f_3 n1 i c y)=some (.exit 2,bS c y):=(ho.ay (by cbv;repeat (simp only [e1];try cbv)):o.loop 19201 (au f_3 n1 i c y)=some (.exit 2,bS c y))
  exact ⟨fun h=> .inr (by rw [h]at hp |-;exact hp),fun h=>⟨fun _=>⟨y,by rw [h]at hp |-;exact hp⟩,fun g=>by cases g⟩⟩
 ·obtain ⟨x,hx0,hx1,hx2⟩:=aD hn h0 g1;obtain ⟨n2,n3,s1,n4,rfl⟩:=hT _ hx2;have e2:=av ho h0 hx0;cases e3:c
  ·obtain ⟨n5,hn5,e4⟩:∃n5,n5=gt H i/\o.dm y i=some (.int .i64 n5):=⟨_,rfl,by rw [(hy e3).1];exact nr ho (hy e3).2 h0 g1⟩
   rcases bB ho n5 0 with ⟨e5,g5⟩|⟨e5,g5⟩
   ·obtain ⟨K,hcall,hK⟩:=Hv ho H n1 (hy e3).2 hb i h0 g1 n2 n3 s1 n4;obtain ⟨b3,hb2⟩:∃b,(cD o n1 H n2 n3 n4 i).isNone=b:=⟨_,rfl⟩
    obtain ⟨l1,hl2⟩:∃l,l=iL K:=⟨_,rfl⟩
    rw [hb2,<-hl2,<-(hy e3).1,<-e3]at hcall;have e6:o.call 287 [.ptr (1,0) 0,Ai i,.agg [Ai n2,Ai n3,As s1,Ai n4]] [some (.box [.arr (1,1) (3,1) none true,Ab c]),some (.rows (3,1) y)]=some ⟨.tup [],[some (.box [.arr (1,1) (3,1) none true,Ab b3]),some (.rows (3,1) l1)],[]⟩:=hcall;obtain ⟨n6,e7⟩:=kx (o.ar .add .i64 i 1);try have g7:n6=i+1:=e7.symm.trans (cM ho (by omega) (by omega))
    subst e3;have e3:false=false:=rfl;refine ⟨fun h=>(by cases h),fun _=> ?_⟩;rw [hx1,Bv,if_neg (by omega)];have en:i+1=n6:=by omega
    rw [en]at ih |-;cases hL:cD o n1 H n2 n3 n4 i with
    | none=>
     rw [hL]at hb2;have ih2:=(ih (by omega) b3 l1 H (fun h=>by rw [h]at hb2;cases hb2)).1 hb2.symm;refine ⟨fun h=>(by cases h),fun _=> ?_⟩;rcases ih2 with h | h
     ·exact ⟨_,.inl ((fun z (hz:o.loop 19201 (au f_3 n1 n6 b3 l1)=some z)=>ho.ay (by rw [<-hz];cbv;repeat (simp only [e1,e2,e4,e5,e6,e7];try cbv)):∀z,o.loop 19201 (au f_3 n1 n6 b3 l1)=some z->o.loop 19201 (au f_3 n1 i false y)=some z) _ h)⟩
     ·exact ⟨_,.inr (.inr ((fun z (hz:o.loop 19201 (au f_3 n1 n6 b3 l1)=some z)=>ho.ay (by rw [<-hz];cbv;repeat (simp only [e1,e2,e4,e5,e6,e7];try cbv)):∀z,o.loop 19201 (au f_3 n1 n6 b3 l1)=some z->o.loop 19201 (au f_3 n1 i false y)=some z) _ h))⟩
    | some M=>
     rw [hL]at hb2;obtain ⟨rfl,hM⟩:=hK _ hL;have ih2:=(ih (by omega) b3 l1 K (fun _=>⟨hl2,hM⟩)).2 hb2.symm;refine ⟨fun h=> ?_,fun h=> ?_⟩
     ·obtain ⟨z,h⟩:=ih2.1 h;exact ⟨z,(fun z (hz:o.loop 19201 (au f_3 n1 n6 b3 l1)=some z)=>ho.ay (by rw [<-hz];cbv;repeat (simp only [e1,e2,e4,e5,e6,e7];try cbv)):∀z,o.loop 19201 (au f_3 n1 n6 b3 l1)=some z->o.loop 19201 (au f_3 n1 i false y)=some z) _ h⟩
     ·obtain ⟨z,h⟩:=ih2.2 h;refine ⟨z,?_⟩;rcases h with h | h | h
      ·exact .inl ((fun z (hz:o.loop 19201 (au f_3 n1 n6 b3 l1)=some z)=>ho.ay (by rw [<-hz];cbv;repeat (simp only [e1,e2,e4,e5,e6,e7];try cbv)):∀z,o.loop 19201 (au f_3 n1 n6 b3 l1)=some z->o.loop 19201 (au f_3 n1 i false y)=some z) _ h)
      ·exact .inr (.inl ((fun z (hz:o.loop 19201 (au f_3 n1 n6 b3 l1)=some z)=>ho.ay (by rw [<-hz];cbv;repeat (simp only [e1,e2,e4,e5,e6,e7];try cbv)):∀z,o.loop 19201 (au f_3 n1 n6 b3 l1)=some z->o.loop 19201 (au f_3 n1 i false y)=some z) _ h))
      ·exact .inr (.inr ((fun z (hz:o.loop 19201 (au f_3 n1 n6 b3 l1)=some z)=>ho.ay (by rw [<-hz];cbv;repeat (simp only [e1,e2,e4,e5,e6,e7];try cbv)):∀z,o.loop 19201 (au f_3 n1 n6 b3 l1)=some z->o.loop 19201 (au f_3 n1 i false y)=some z) _ h))
   ·subst e3;have e3:false=false:=rfl;refine ⟨fun h=>(by cases h),fun _=> ?_⟩;rw [hx1,Bv,if_pos (by omega)];exact ⟨fun h=>(by cases h),fun _=>⟨_,.inr (.inl (ho.ay (by cbv;repeat (simp only [e1,e2,e4,e5];try cbv)):o.loop 19201 (au f_3 n1 i false y)=some (.ret,fM y)))⟩⟩
  ·subst e3;have e3:true=true:=rfl;exact ⟨fun h=> .inl (ho.ay (by cbv;repeat (simp only [e1,e2];try cbv)):o.loop 19201 (au f_3 n1 i true y)=some (.ret,cZ y)),fun h=>by cases h⟩
omit ho in
theorem Mt {n:Int} (h:1<=n):gt (H0 n) 0= -1:=by
 unfold gt H0;rw [List.getD_eq_getElem?_getD,List.getElem?_replicate,if_pos (by omega)];rfl
omit ho in
def JV (o:aK) (xs:List D):Bool:=mg o xs.length xs 0 ((H0 xs.length).set 0 0)
theorem DB (f_0:ByteArray) (f_1 f_2:Int) (f_3:List D) (hT:∀x∈f_3,Bu x) (h1:1<=(f_3.length:Int)) (hb:(f_3.length:Int)<=1048576):∃l,o.call 192 [.sp [.str f_0,.int .i64 f_1,.int .i64 f_2,.lst f_3] 0] []=Ar (.tup [Al l,Ab (JV o f_3)]):=by
 obtain ⟨n1,e1,g1⟩:=aB ho f_3;have e2:o.cmp .eql n1 n1=true:=cw ho rfl;have e3:o.eP 8 n1=true:=by rw [ho.eP];exact decide_eq_true (by omega)
 obtain ⟨l1,hl1,e4⟩:∃l1,l1=iL (List.replicate n1.toNat 0)/\o.lW n1 (.int .i64 0)=l1:=⟨_,rfl,by rw [ho.lW];unfold iL;rw [List.map_replicate]⟩
 obtain ⟨n2,hn2,e5⟩:∃n2,n2=n1/\o.len l1=n2:=⟨_,rfl,by rw [hl1,uj ho,List.length_replicate];omega⟩
 obtain ⟨l2,hl2,e6⟩:∃l2,l2=iL (H0 n1)/\o.loop 19200 (gO f_0 f_1 f_2 f_3 n2 0 l1)=some (.exit 0,iy f_0 f_1 f_2 f_3 l2):=⟨_,rfl,by rw [Ms ho f_0 f_1 f_2 f_3 n2 (by omega) 0 (Int.le_refl _) (by omega) l1 _ hl1 (by rw [List.length_replicate];omega),show (0:Int).toNat=0 from rfl,List.take_zero,List.nil_append,Int.sub_zero,hn2];rfl⟩
 have hz:=ul ho (H0 n1) n1 (um (by omega)) 0 0 (Int.le_refl _) false;have hcz:bp n1 (H0 n1) 0 0=some ((H0 n1).set 0 0):=by
   unfold bp;rw [if_neg (by omega),if_neg (by omega),if_pos (by rw [Mt (by omega)];omega)];rfl
 rw [hcz]at hz;obtain ⟨b2,hb2⟩:∃b,b=false:=⟨_,rfl⟩
 obtain ⟨l3,hl3⟩:∃l,l=iL ((H0 n1).set 0 0):=⟨_,rfl⟩
 have e7:o.call 286 [.ptr (1,0) 0,Ai 0,Ai 0] [some (.box [.arr (1,1) (3,1) none true,Ab false]),some (.rows (3,1) l2)]=some ⟨.tup [],[some (.box [.arr (1,1) (3,1) none true,Ab b2]),some (.rows (3,1) l3)],[]⟩:=by rw [hl2,hb2,hl3];exact hz
 have hr:=(NQ ho f_3 hT n1 g1.symm (by omega) 0 (Int.le_refl _) (by omega) b2 l3 _ (fun _=>⟨hl3,by rw [List.length_set];exact um (by omega)⟩)).2 hb2;rw [show (0:Int).toNat=0 from rfl,List.drop_zero]at hr;have hG:JV o f_3=mg o n1 f_3 0 ((H0 n1).set 0 0):=by rw [g1];rfl
 obtain ⟨b3,hb3⟩:∃b,b= !mg o n1 f_3 0 ((H0 n1).set 0 0):=⟨_,rfl⟩
 have hr:(∃l4,b3=true/\o.loop 19201 (au f_3 n1 0 b2 l3)=some (.ret,cZ l4))\/(∃l4,o.loop 19201 (au f_3 n1 0 b2 l3)=some (.exit 2,bS b3 l4))\/(∃l4,b3=true/\o.loop 19201 (au f_3 n1 0 b2 l3)=some (.ret,fM l4)):=by
   cases Q:mg o n1 f_3 0 ((H0 n1).set 0 0)
   ·rw [Q]at hb3;obtain ⟨z,h⟩:=hr.2 Q;rcases h with h | h | h
    ·exact .inl ⟨z,hb3,h⟩
    ·exact .inr (.inr ⟨z,hb3,h⟩)
    ·exact .inr (.inl ⟨z,by rw [hb3];exact h⟩)
   ·rw [Q]at hb3;obtain ⟨z,h⟩:=hr.1 Q;exact .inr (.inl ⟨z,by rw [hb3];exact h⟩)
 rcases hr with ⟨l4,hb4,e8⟩ | ⟨l4,e8⟩ | ⟨l4,hb4,e8⟩
 ·rw [hb3]at hb4;exact ⟨_,by rw [hG,show mg o n1 f_3 0 ((H0 n1).set 0 0)=false by simpa using hb4];exact (ho.aq (by cbv at e6;cbv at e8;cbv;repeat (simp only [e1,e2,e3,e4,e5,e6,e7,e8];try cbv)):o.call 192 [.sp [.str f_0,.int .i64 f_1,.int .i64 f_2,.lst f_3] 0] []=Ar (.tup [Al [],Ab false]))⟩
 ·cases e9:b3
  ·exact ⟨_,by rw [hG,show mg o n1 f_3 0 ((H0 n1).set 0 0)=true by rw [hb3]at e9;simpa using e9];exact (ho.aq (by cbv at e6;cbv at e8;cbv;repeat (simp only [e1,e2,e3,e4,e5,e6,e7,e8,e9];try cbv)):o.call 192 [.sp [.str f_0,.int .i64 f_1,.int .i64 f_2,.lst f_3] 0] []=Ar (.tup [Al l4,Ab true]))⟩
  ·exact ⟨_,by rw [hG,show mg o n1 f_3 0 ((H0 n1).set 0 0)=false by rw [hb3]at e9;simpa using e9];exact (ho.aq (by cbv at e6;cbv at e8;cbv;repeat (simp only [e1,e2,e3,e4,e5,e6,e7,e8,e9];try cbv)):o.call 192 [.sp [.str f_0,.int .i64 f_1,.int .i64 f_2,.lst f_3] 0] []=Ar (.tup [Al l4,Ab false]))⟩
 ·rw [hb3]at hb4;exact ⟨_,by rw [hG,show mg o n1 f_3 0 ((H0 n1).set 0 0)=false by simpa using hb4];exact (ho.aq (by cbv at e6;cbv at e8;cbv;repeat (simp only [e1,e2,e3,e4,e5,e6,e7,e8];try cbv)):o.call 192 [.sp [.str f_0,.int .i64 f_1,.int .i64 f_2,.lst f_3] 0] []=Ar (.tup [Al [],Ab false]))⟩
end
def KI (n:Int) (x:D):Prop:=∃op N s to,x= .agg [.int .i64 op,.int .i64 N,.str s,.int .i64 to]/\((op=9\/op=10)->0<=to/\to<n)
def cm (c:List Int×Bool):Option (List Int):=if c.2 then some c.1 else none
def bW (o:aK) (n:Int) (H:List Int) (op N to i:Int):Option (List Int):=
 if gt H i<tk op N then none else if 300<gt H i then none else if op=12 then (if gt H i=1 then some H else none)else if op=11 then some H
 else if op=10 then cm (dn H to (gt H i))else if op=9 then (cm (dn H to (gt H i))).bind fun K=>if i+1<n then cm (dn K (i+1) (o.ar .sub .i64 (gt H i) 1))else none
 else if i+1<n then cm (dn H (i+1) (o.ar .add .i64 (o.ar .sub .i64 (gt H i) (tk op N)) (lv op)))else none
def qb (o:aK) (n:Int):List D->Int->List Int->Bool
 | [],_,_=>true
 | .agg [.int _ op,.int _ N,.str _,.int _ to]::xs,i,H=>match bW o n H op N to i with | none=>false | some K=>qb o n xs (i+1) K
 | _::_,_,_=>false
theorem fR {o:aK} {n op N to:Int} {s:ByteArray} {xs:List D} {i:Int} {H:List Int}:qb o n (.agg [.int .i64 op,.int .i64 N,.str s,.int .i64 to]::xs) i H=match bW o n H op N to i with | none=>false | some K=>qb o n xs (i+1) K:=rfl
theorem EF {c:List Int×Bool} (h:c.2=false):cm c=none:=by unfold cm;rw [h];rfl
theorem DC {c:List Int×Bool} {K:List Int} (h:c.2=true) (hk:K=c.1):cm c=some K:=by unfold cm;rw [h,hk];rfl
theorem fw {H:List Int} {a h:Int}:(dn H a h).1.length=H.length:=by unfold dn;split;exact List.length_set;rfl
def EA (o:aK) (xs:List D):Bool:=qb o xs.length xs 0 ((H0 xs.length).set 0 0)
section
variable {o:aK} (ho:aU cF bE o)
include ho
def gP (a0_0:ByteArray) (a0_1 a0_2:Int) (a0_3:List D) (i:Int) (y:List D):St:=⟨E 116 [(1,.sp [.str a0_0,.int .i64 a0_1,.int .i64 a0_2,.lst a0_3] 0),(4,.arr (15,0) (3,1) none true),(5,Ai i)],O 116 [(15,[some (.rows (3,1) y)])]⟩
def iz (a0_0:ByteArray) (a0_1 a0_2:Int) (a0_3 y:List D):St:=⟨E 116 [(1,.sp [.str a0_0,.int .i64 a0_1,.int .i64 a0_2,.lst a0_3] 0),(4,.arr (15,0) (3,1) none true)],O 116 [(15,[some (.rows (3,1) y)])]⟩
def af (a0_0:ByteArray) (a0_1 a0_2:Int) (a0_3:List D) (i:Int) (y:List D):St:=⟨E 116 [(1,.sp [.str a0_0,.int .i64 a0_1,.int .i64 a0_2,.lst a0_3] 0),(4,.arr (15,0) (3,1) none true),(6,Ai i)],O 116 [(15,[some (.rows (3,1) y)])]⟩
def cI (y:List D):St:=⟨E 116 [(2,.arr (15,0) (3,1) none true),(3,Ab false),(4,.arr (15,0) (3,1) none true)],O 116 [(15,[some (.rows (3,1) y)])]⟩
def fN (y:List D):St:=⟨E 116 [(4,.arr (15,0) (3,1) none true)],O 116 [(15,[some (.rows (3,1) y)])]⟩
def cJ (l1:List D):St:=⟨E 116 [(2,.arr (15,0) (3,1) none true),(3,Ab false),(4,.arr (15,0) (3,1) none true)],O 116 [(15,[some (.rows (3,1) l1)])]⟩
def fO (l2:List D):St:=⟨E 116 [(2,.arr (15,0) (3,1) none true),(3,Ab false),(4,.arr (15,0) (3,1) none true)],O 116 [(15,[some (.rows (3,1) l2)])]⟩
theorem Mu (a0_0:ByteArray) (a0_1 a0_2:Int) (a0_3:List D) (n:Int) (hb:n<=1048576):∀i:Int,0<=i->i<=(n:Int)->∀(y:List D) (H:List Int),y=iL H->(H.length:Int)=n->o.loop 24400 (gP a0_0 a0_1 a0_2 a0_3 i y)=some (.exit 0,iz a0_0 a0_1 a0_2 a0_3 (iL (H.take i.toNat++List.replicate (n-i).toNat (-1)))):=by
 refine cU (P:=fun i=>∀(y:List D) (H:List Int),y=iL H->(H.length:Int)=n->o.loop 24400 (gP a0_0 a0_1 a0_2 a0_3 i y)=some (.exit 0,iz a0_0 a0_1 a0_2 a0_3 (iL (H.take i.toNat++List.replicate (n-i).toNat (-1))))) (n:Int) ?_;intro i h0 h1 ih;try dsimp only at ih |-
 intro y H hy hn;refine ho.gC fun R Q=> ?_
 obtain ⟨n1,hn1,e1⟩:∃n1,n1=n/\o.len y=n1:=⟨_,rfl,by rw [hy,uj ho];exact hn⟩
 conv=>lhs;cbv;rw [e1];cbv
 rcases bB ho i n1 with ⟨e2,g2⟩|⟨e2,g2⟩<;>(conv=>lhs;rw [e2];cbv)
 ·subst Q;rw [show (n-i).toNat=0 by omega,List.replicate_zero,List.append_nil,List.take_of_length_le (by omega),<-hy];rfl
 ·obtain ⟨n2,e3⟩:∃n1,o.dm y i=some (.int .i64 n1):=⟨_,by rw [hy];exact nr ho hn h0 (by omega)⟩
  obtain ⟨l1,hl1,e4⟩:∃l1,l1=iL (H.set i.toNat (-1))/\o.set y i (.int .i64 (-1))=l1:=⟨_,rfl,by rw [hy];exact xV ho h0⟩
  obtain ⟨n3,e5,g5⟩:=bA ho i 1;conv=>lhs;rw [e3];cbv;(try (rw [e3];cbv));rw [e4];cbv;rw [e5];cbv
  subst Q;show o.loop 24400 (gP a0_0 a0_1 a0_2 a0_3 n3 l1)=_;rw [show n3=i+1 by omega,ih (by omega) l1 _ hl1 (by rw [List.length_set];exact hn)];congr 4;rw [show (i+1).toNat=i.toNat+1 by omega,take_set (by omega),List.append_assoc];congr 1;rw [show (n-i).toNat=(n-(i.toNat+1:Nat)).toNat+1 by omega,List.replicate_succ,show ((i.toNat+1:Nat):Int)=i+1 by omega];rfl
theorem NR (
           a0_0:ByteArray) (a0_1 a0_2:Int) (a0_3:List D) (n1:Int) (hT:∀x∈a0_3,KI n1 x) (hn:(a0_3.length:Int)=n1) (hb:n1<=1048576):∀i:Int,0<=i->i<=(n1:Int)->∀(y:List D) (H:List Int),y=iL H->(H.length:Int)=n1->(qb o n1 (a0_3.drop i.toNat) i H=true->∃z,o.loop 24401 (af a0_0 a0_1 a0_2 a0_3 i y)=some (.exit 2,fN z))/\(qb o n1 (a0_3.drop i.toNat) i H=false->∃z,o.loop 24401 (af a0_0 a0_1 a0_2 a0_3 i y)=some (.ret,cI z)\/o.loop 24401 (af a0_0 a0_1 a0_2 a0_3 i y)=some (.ret,cJ z)\/o.loop 24401 (af a0_0 a0_1 a0_2 a0_3 i y)=some (.ret,fO z)):=by
 refine cU (P:=fun i=>∀(y:List D) (H:List Int),y=iL H->(H.length:Int)=n1->(qb o n1 (a0_3.drop i.toNat) i H=true->∃z,o.loop 24401 (af a0_0 a0_1 a0_2 a0_3 i y)=some (.exit 2,fN z))/\(qb o n1 (a0_3.drop i.toNat) i H=false->∃z,o.loop 24401 (af a0_0 a0_1 a0_2 a0_3 i y)=some (.ret,cI z)\/o.loop 24401 (af a0_0 a0_1 a0_2 a0_3 i y)=some (.ret,cJ z)\/o.loop 24401 (af a0_0 a0_1 a0_2 a0_3 i y)=some (.ret,fO z))) (n1:Int) ?_;intro i h0 h1 ih;try dsimp only at ih |-
 intro y H hy hn2;have e1:o.len y=n1:=by rw [hy,uj ho];exact hn2
 rcases bB ho i n1 with ⟨e2,g2⟩|⟨e2,g2⟩
 ·rw [bR hn (by omega)];exact ⟨fun _=>⟨_,(ho.ay (by cbv;repeat (simp only [e1,e2];try cbv)):o.loop 24401 (af a0_0 a0_1 a0_2 a0_3 i y)=some (.exit 2,fN y))⟩,fun h=>by cases h⟩
 ·obtain ⟨
          x,
             hx0,hx1,hx2⟩:=aD hn h0 g2
  obtain ⟨n2,n3,s1,n4,rfl,hto⟩:=hT _ hx2;have e3:=av ho h0 hx0;obtain ⟨n5,e4⟩:=kx (tk n2 n3);obtain ⟨n6,e5⟩:=kx (lv n2);have e6:o.call 318 [.agg [Ai n2,Ai n3,As s1,Ai n4]] []=Ar (.tup [Ai n5,Ai n6]):=(Hr ho n2 n3 s1 n4).trans (by rw [e4,e5]);obtain ⟨n7,hn7,e7⟩:∃n7,n7=gt H i/\o.dm y i=some (.int .i64 n7):=⟨_,rfl,by rw [hy];exact nr ho hn2 h0 g2⟩
  rcases bB ho n7 n5 with ⟨e8,g8⟩|⟨e8,g8⟩
  ·rcases fe ho n7 300 with ⟨e9,g9⟩|⟨e9,g9⟩
   ·rcases ak ho n2 12 with ⟨e10,g10⟩|⟨e10,g10⟩
    ·rcases ak ho n2 11 with ⟨e11,g11⟩|⟨e11,g11⟩
     ·rcases ak ho n2 10 with ⟨e12,g12⟩|⟨e12,g12⟩
      ·rcases ak ho n2 9 with ⟨e13,g13⟩|⟨e13,g13⟩
       ·obtain ⟨n8,e14⟩:=kx (o.ar .add .i64 i 1);try have g14:n8=i+1:=e14.symm.trans (cM ho (by omega) (by omega))
        rcases bB ho n8 n1 with ⟨e15,g15⟩|⟨e15,g15⟩
        ·have hs:bW o n1 H n2 n3 n4 i=none:=by
           unfold bW;rw [<-hn7,e4,if_neg (by omega),if_neg (by omega),if_neg g10,if_neg g11,if_neg g12,if_neg g13,if_neg (by omega)]
         rw [hx1,fR,hs];exact ⟨fun h=>(by cases h),fun _=>⟨_,.inl (ho.ay (by cbv;repeat (simp only [e1,e2,e3,e4,e5,e6,e7,e8,e9,e10,e11,e12,e13,e14,e15];try cbv)):o.loop 24401 (af a0_0 a0_1 a0_2 a0_3 i y)=some (.ret,cI y))⟩⟩
        ·obtain ⟨n9,e16⟩:=kx (o.ar .sub .i64 n7 n5);try have g16:n9=n7-n5:=e16.symm.trans (fP ho (by omega) (by omega))
         obtain ⟨n10,e17⟩:=kx (o.ar .add .i64 n9 n6);try have g17:n10=n9+n6:=e17.symm.trans (cM ho (by omega) (by omega))
         obtain ⟨Kl1,hCl1⟩:∃K,K=(dn H n8 n10).1:=⟨_,rfl⟩
         obtain ⟨l1,hKl1⟩:∃l,l=iL Kl1:=⟨_,rfl⟩
         have hLl1:(Kl1.length:Int)=n1:=by rw [hCl1,fw];exact hn2
         have hwl1:=xW ho H n1 hn2 n8 n10 (by omega) (by omega);rw [<-hCl1,<-hKl1,<-hy]at hwl1;cases hbl1:(dn H n8 n10).2
         ·have e18:o.call 319 [.arr (1,0) (3,1) none true,Ai n8,Ai n10] [some (.rows (3,1) y)]=some ⟨Ab false,[some (.rows (3,1) l1)],[]⟩:=by rw [hbl1]at hwl1;exact hwl1
          have hs:bW o n1 H n2 n3 n4 i=none:=by
            unfold bW;rw [<-hn7,e4,if_neg (by omega),if_neg (by omega),if_neg g10,if_neg g11,if_neg g12,if_neg g13,if_pos (by omega),show i+1=n8 by omega,e16,e5,e17,EF hbl1]
          rw [hx1,fR,hs];exact ⟨fun h=>(by cases h),fun _=>⟨_,.inr (.inl (ho.ay (by cbv;repeat (simp only [e1,e2,e3,e4,e5,e6,e7,e8,e9,e10,e11,e12,e13,e14,e15,e16,e17,e18];try cbv)):o.loop 24401 (af a0_0 a0_1 a0_2 a0_3 i y)=some (.ret,cJ l1)))⟩⟩
         ·have e18:o.call 319 [.arr (1,0) (3,1) none true,Ai n8,Ai n10] [some (.rows (3,1) y)]=some ⟨Ab true,[some (.rows (3,1) l1)],[]⟩:=by rw [hbl1]at hwl1;exact hwl1
          have hs:bW o n1 H n2 n3 n4 i=some Kl1:=by
            unfold bW;rw [<-hn7,e4,if_neg (by omega),if_neg (by omega),if_neg g10,if_neg g11,if_neg g12,if_neg g13,if_pos (by omega),show i+1=n8 by omega,e16,e5,e17,DC hbl1 hCl1]
          rw [hx1,fR,hs];have en:i+1=n8:=by omega
          rw [en]at ih |-;have ih2:=ih (by omega) l1 Kl1 hKl1 hLl1;refine ⟨fun h=> ?_,fun h=> ?_⟩
          · obtain ⟨z,h⟩:=ih2.1 h;exact ⟨z,(fun z (hz:o.loop 24401 (af a0_0 a0_1 a0_2 a0_3 n8 l1)=some z)=>ho.ay (by rw [<-hz];cbv;repeat (simp only [e1,e2,e3,e4,e5,e6,e7,e8,e9,e10,e11,e12,e13,e14,e15,e16,e17,e18];try cbv)):∀z,o.loop 24401 (af a0_0 a0_1 a0_2 a0_3 n8 l1)=some z->o.loop 24401 (af a0_0 a0_1 a0_2 a0_3 i y)=some z) _ h⟩
          · obtain ⟨z,h⟩:=ih2.2 h;refine ⟨z,?_⟩;rcases h with h | h | h
            · exact .inl ((fun z (hz:o.loop 24401 (af a0_0 a0_1 a0_2 a0_3 n8 l1)=some z)=>ho.ay (by rw [<-hz];cbv;repeat (simp only [e1,e2,e3,e4,e5,e6,e7,e8,e9,e10,e11,e12,e13,e14,e15,e16,e17,e18];try cbv)):∀z,o.loop 24401 (af a0_0 a0_1 a0_2 a0_3 n8 l1)=some z->o.loop 24401 (af a0_0 a0_1 a0_2 a0_3 i y)=some z) _ h)
            · exact .inr (.inl ((fun z (hz:o.loop 24401 (af a0_0 a0_1 a0_2 a0_3 n8 l1)=some z)=>ho.ay (by rw [<-hz];cbv;repeat (simp only [e1,e2,e3,e4,e5,e6,e7,e8,e9,e10,e11,e12,e13,e14,e15,e16,e17,e18];try cbv)):∀z,o.loop 24401 (af a0_0 a0_1 a0_2 a0_3 n8 l1)=some z->o.loop 24401 (af a0_0 a0_1 a0_2 a0_3 i y)=some z) _ h))
            · exact .inr (.inr ((fun z (hz:o.loop 24401 (af a0_0 a0_1 a0_2 a0_3 n8 l1)=some z)=>ho.ay (by rw [<-hz];cbv;repeat (simp only [e1,e2,e3,e4,e5,e6,e7,e8,e9,e10,e11,e12,e13,e14,e15,e16,e17,e18];try cbv)):∀z,o.loop 24401 (af a0_0 a0_1 a0_2 a0_3 n8 l1)=some z->o.loop 24401 (af a0_0 a0_1 a0_2 a0_3 i y)=some z) _ h))
       ·obtain ⟨Kl1,hCl1⟩:∃K,K=(dn H n4 n7).1:=⟨_,rfl⟩
        obtain ⟨l1,hKl1⟩:∃l,l=iL Kl1:=⟨_,rfl⟩
        have hLl1:(Kl1.length:Int)=n1:=by rw [hCl1,fw];exact hn2
        have hwl1:=xW ho H n1 hn2 n4 n7 (by omega) (by omega);rw [<-hCl1,<-hKl1,<-hy]at hwl1;cases hbl1:(dn H n4 n7).2
        ·have e14:o.call 319 [.arr (1,0) (3,1) none true,Ai n4,Ai n7] [some (.rows (3,1) y)]=some ⟨Ab false,[some (.rows (3,1) l1)],[]⟩:=by rw [hbl1]at hwl1;exact hwl1
         have hs:bW o n1 H n2 n3 n4 i=none:=by
           unfold bW;rw [<-hn7,e4,if_neg (by omega),if_neg (by omega),if_neg g10,if_neg g11,if_neg g12,if_pos g13,EF hbl1,Option.bind_none]
         rw [hx1,fR,hs];exact ⟨fun h=>(by cases h),fun _=>⟨_,.inr (.inl (ho.ay (by cbv;repeat (simp only [e1,e2,e3,e4,e5,e6,e7,e8,e9,e10,e11,e12,e13,e14];try cbv)):o.loop 24401 (af a0_0 a0_1 a0_2 a0_3 i y)=some (.ret,cJ l1)))⟩⟩
        ·have e14:o.call 319 [.arr (1,0) (3,1) none true,Ai n4,Ai n7] [some (.rows (3,1) y)]=some ⟨Ab true,[some (.rows (3,1) l1)],[]⟩:=by rw [hbl1]at hwl1;exact hwl1
         obtain ⟨n8,e15⟩:=kx (o.ar .add .i64 i 1);try have g15:n8=i+1:=e15.symm.trans (cM ho (by omega) (by omega))
         obtain ⟨n9,hn9,e16⟩:∃n9,n9=n1/\o.len l1=n9:=⟨_,rfl,by rw [hKl1,uj ho];exact hLl1⟩
         rcases bB ho n8 n9 with ⟨e17,g17⟩|⟨e17,g17⟩
         ·have hs:bW o n1 H n2 n3 n4 i=none:=by
            unfold bW;rw [<-hn7,e4,if_neg (by omega),if_neg (by omega),if_neg g10,if_neg g11,if_neg g12,if_pos g13,DC hbl1 hCl1,Option.bind_some,if_neg (by omega)]
          rw [hx1,fR,hs];exact ⟨fun h=>(by cases h),fun _=>⟨_,.inr (.inl (ho.ay (by cbv;repeat (simp only [e1,e2,e3,e4,e5,e6,e7,e8,e9,e10,e11,e12,e13,e14,e15,e16,e17];try cbv)):o.loop 24401 (af a0_0 a0_1 a0_2 a0_3 i y)=some (.ret,cJ l1)))⟩⟩
         ·obtain ⟨n10,e18⟩:=kx (o.ar .sub .i64 n7 1);try have g18:n10=n7-1:=e18.symm.trans (fP ho (by omega) (by omega))
          obtain ⟨Kl2,hCl2⟩:∃K,K=(dn Kl1 n8 n10).1:=⟨_,rfl⟩
          obtain ⟨l2,hKl2⟩:∃l,l=iL Kl2:=⟨_,rfl⟩
          have hLl2:(Kl2.length:Int)=n1:=by rw [hCl2,fw];exact hLl1
          have hwl2:=xW ho Kl1 n1 hLl1 n8 n10 (by omega) (by omega);rw [<-hCl2,<-hKl2,<-hKl1]at hwl2;cases hbl2:(dn Kl1 n8 n10).2
          ·have e19:o.call 319 [.arr (1,0) (3,1) none true,Ai n8,Ai n10] [some (.rows (3,1) l1)]=some ⟨Ab false,[some (.rows (3,1) l2)],[]⟩:=by rw [hbl2]at hwl2;exact hwl2
           have hs:bW o n1 H n2 n3 n4 i=none:=by
             unfold bW;rw [<-hn7,e4,if_neg (by omega),if_neg (by omega),if_neg g10,if_neg g11,if_neg g12,if_pos g13,DC hbl1 hCl1,Option.bind_some,if_pos (by omega),show i+1=n8 by omega,e18,EF hbl2]
           rw [hx1,fR,hs];exact ⟨fun h=>(by cases h),fun _=>⟨_,.inr (.inr (ho.ay (by cbv;repeat (simp only [e1,e2,e3,e4,e5,e6,e7,e8,e9,e10,e11,e12,e13,e14,e15,e16,e17,e18,e19];try cbv)):o.loop 24401 (af a0_0 a0_1 a0_2 a0_3 i y)=some (.ret,fO l2)))⟩⟩
          ·have e19:o.call 319 [.arr (1,0) (3,1) none true,Ai n8,Ai n10] [some (.rows (3,1) l1)]=some ⟨Ab true,[some (.rows (3,1) l2)],[]⟩:=by rw [hbl2]at hwl2;exact hwl2
           have hs:bW o n1 H n2 n3 n4 i=some Kl2:=by
             unfold bW;rw [<-hn7,e4,if_neg (by omega),if_neg (by omega),if_neg g10,if_neg g11,if_neg g12,if_pos g13,DC hbl1 hCl1,Option.bind_some,if_pos (by omega),show i+1=n8 by omega,e18,DC hbl2 hCl2]
           rw [hx1,fR,hs];have en:i+1=n8:=by omega
           rw [en]at ih |-;have ih2:=ih (by omega) l2 Kl2 hKl2 hLl2;refine ⟨fun h=> ?_,fun h=> ?_⟩
           · obtain ⟨z,h⟩:=ih2.1 h;exact ⟨z,(fun z (hz:o.loop 24401 (af a0_0 a0_1 a0_2 a0_3 n8 l2)=some z)=>ho.ay (by rw [<-hz];cbv;repeat (simp only [e1,e2,e3,e4,e5,e6,e7,e8,e9,e10,e11,e12,e13,e14,e15,e16,e17,e18,e19];try cbv)):∀z,o.loop 24401 (af a0_0 a0_1 a0_2 a0_3 n8 l2)=some z->o.loop 24401 (af a0_0 a0_1 a0_2 a0_3 i y)=some z) _ h⟩
           · obtain ⟨z,h⟩:=ih2.2 h;refine ⟨z,?_⟩;rcases h with h | h | h
             · exact .inl ((fun z (hz:o.loop 24401 (af a0_0 a0_1 a0_2 a0_3 n8 l2)=some z)=>ho.ay (by rw [<-hz];cbv;repeat (simp only [e1,e2,e3,e4,e5,e6,e7,e8,e9,e10,e11,e12,e13,e14,e15,e16,e17,e18,e19];try cbv)):∀z,o.loop 24401 (af a0_0 a0_1 a0_2 a0_3 n8 l2)=some z->o.loop 24401 (af a0_0 a0_1 a0_2 a0_3 i y)=some z) _ h)
             · exact .inr (.inl ((fun z (hz:o.loop 24401 (af a0_0 a0_1 a0_2 a0_3 n8 l2)=some z)=>ho.ay (by rw [<-hz];cbv;repeat (simp only [e1,e2,e3,e4,e5,e6,e7,e8,e9,e10,e11,e12,e13,e14,e15,e16,e17,e18,e19];try cbv)):∀z,o.loop 24401 (af a0_0 a0_1 a0_2 a0_3 n8 l2)=some z->o.loop 24401 (af a0_0 a0_1 a0_2 a0_3 i y)=some z) _ h))
             · exact .inr (.inr ((fun z (hz:o.loop 24401 (af a0_0 a0_1 a0_2 a0_3 n8 l2)=some z)=>ho.ay (by rw [<-hz];cbv;repeat (simp only [e1,e2,e3,e4,e5,e6,e7,e8,e9,e10,e11,e12,e13,e14,e15,e16,e17,e18,e19];try cbv)):∀z,o.loop 24401 (af a0_0 a0_1 a0_2 a0_3 n8 l2)=some z->o.loop 24401 (af a0_0 a0_1 a0_2 a0_3 i y)=some z) _ h))
      ·obtain ⟨Kl1,hCl1⟩:∃K,K=(dn H n4 n7).1:=⟨_,rfl⟩
       obtain ⟨l1,hKl1⟩:∃l,l=iL Kl1:=⟨_,rfl⟩
       have hLl1:(Kl1.length:Int)=n1:=by rw [hCl1,fw];exact hn2
       have hwl1:=xW ho H n1 hn2 n4 n7 (by omega) (by omega);rw [<-hCl1,<-hKl1,<-hy]at hwl1;cases hbl1:(dn H n4 n7).2
       ·have e13:o.call 319 [.arr (1,0) (3,1) none true,Ai n4,Ai n7] [some (.rows (3,1) y)]=some ⟨Ab false,[some (.rows (3,1) l1)],[]⟩:=by rw [hbl1]at hwl1;exact hwl1
        have hs:bW o n1 H n2 n3 n4 i=none:=by
          unfold bW;rw [<-hn7,e4,if_neg (by omega),if_neg (by omega),if_neg g10,if_neg g11,if_pos g12,EF hbl1]
        rw [hx1,fR,hs];exact ⟨fun h=>(by cases h),fun _=>⟨_,.inr (.inl (ho.ay (by cbv;repeat (simp only [e1,e2,e3,e4,e5,e6,e7,e8,e9,e10,e11,e12,e13];try cbv)):o.loop 24401 (af a0_0 a0_1 a0_2 a0_3 i y)=some (.ret,cJ l1)))⟩⟩
       ·have e13:o.call 319 [.arr (1,0) (3,1) none true,Ai n4,Ai n7] [some (.rows (3,1) y)]=some ⟨Ab true,[some (.rows (3,1) l1)],[]⟩:=by rw [hbl1]at hwl1;exact hwl1
        obtain ⟨n8,e14⟩:=kx (o.ar .add .i64 i 1);try have g14:n8=i+1:=e14.symm.trans (cM ho (by omega) (by omega))
        have hs:bW o n1 H n2 n3 n4 i=some Kl1:=by
          unfold bW;rw [<-hn7,e4,if_neg (by omega),if_neg (by omega),if_neg g10,if_neg g11,if_pos g12,DC hbl1 hCl1]
        rw [hx1,fR,hs];have en:i+1=n8:=by omega
        rw [en]at ih |-;have ih2:=ih (by omega) l1 Kl1 hKl1 hLl1;refine ⟨fun h=> ?_,fun h=> ?_⟩
        · obtain ⟨z,h⟩:=ih2.1 h;exact ⟨z,(fun z (hz:o.loop 24401 (af a0_0 a0_1 a0_2 a0_3 n8 l1)=some z)=>ho.ay (by rw [<-hz];cbv;repeat (simp only [e1,e2,e3,e4,e5,e6,e7,e8,e9,e10,e11,e12,e13,e14];try cbv)):∀z,o.loop 24401 (af a0_0 a0_1 a0_2 a0_3 n8 l1)=some z->o.loop 24401 (af a0_0 a0_1 a0_2 a0_3 i y)=some z) _ h⟩
        · obtain ⟨z,h⟩:=ih2.2 h;refine ⟨z,?_⟩;rcases h with h | h | h
          · exact .inl ((fun z (hz:o.loop 24401 (af a0_0 a0_1 a0_2 a0_3 n8 l1)=some z)=>ho.ay (by rw [<-hz];cbv;repeat (simp only [e1,e2,e3,e4,e5,e6,e7,e8,e9,e10,e11,e12,e13,e14];try cbv)):∀z,o.loop 24401 (af a0_0 a0_1 a0_2 a0_3 n8 l1)=some z->o.loop 24401 (af a0_0 a0_1 a0_2 a0_3 i y)=some z) _ h)
          · exact .inr (.inl ((fun z (hz:o.loop 24401 (af a0_0 a0_1 a0_2 a0_3 n8 l1)=some z)=>ho.ay (by rw [<-hz];cbv;repeat (simp only [e1,e2,e3,e4,e5,e6,e7,e8,e9,e10,e11,e12,e13,e14];try cbv)):∀z,o.loop 24401 (af a0_0 a0_1 a0_2 a0_3 n8 l1)=some z->o.loop 24401 (af a0_0 a0_1 a0_2 a0_3 i y)=some z) _ h))
          · exact .inr (.inr ((fun z (hz:o.loop 24401 (af a0_0 a0_1 a0_2 a0_3 n8 l1)=some z)=>ho.ay (by rw [<-hz];cbv;repeat (simp only [e1,e2,e3,e4,e5,e6,e7,e8,e9,e10,e11,e12,e13,e14];try cbv)):∀z,o.loop 24401 (af a0_0 a0_1 a0_2 a0_3 n8 l1)=some z->o.loop 24401 (af a0_0 a0_1 a0_2 a0_3 i y)=some z) _ h))
     ·obtain ⟨n8,e12⟩:=kx (o.ar .add .i64 i 1);try have g12:n8=i+1:=e12.symm.trans (cM ho (by omega) (by omega))
      have hs:bW o n1 H n2 n3 n4 i=some H:=by
        unfold bW;rw [<-hn7,e4,if_neg (by omega),if_neg (by omega),if_neg g10,if_pos g11]
      rw [hx1,fR,hs];have en:i+1=n8:=by omega
      rw [en]at ih |-;have ih2:=ih (by omega) y H hy hn2;refine ⟨fun h=> ?_,fun h=> ?_⟩
      · obtain ⟨z,h⟩:=ih2.1 h;exact ⟨z,(fun z (hz:o.loop 24401 (af a0_0 a0_1 a0_2 a0_3 n8 y)=some z)=>ho.ay (by rw [<-hz];cbv;repeat (simp only [e1,e2,e3,e4,e5,e6,e7,e8,e9,e10,e11,e12];try cbv)):∀z,o.loop 24401 (af a0_0 a0_1 a0_2 a0_3 n8 y)=some z->o.loop 24401 (af a0_0 a0_1 a0_2 a0_3 i y)=some z) _ h⟩
      · obtain ⟨z,h⟩:=ih2.2 h;refine ⟨z,?_⟩;rcases h with h | h | h
        · exact .inl ((fun z (hz:o.loop 24401 (af a0_0 a0_1 a0_2 a0_3 n8 y)=some z)=>ho.ay (by rw [<-hz];cbv;repeat (simp only [e1,e2,e3,e4,e5,e6,e7,e8,e9,e10,e11,e12];try cbv)):∀z,o.loop 24401 (af a0_0 a0_1 a0_2 a0_3 n8 y)=some z->o.loop 24401 (af a0_0 a0_1 a0_2 a0_3 i y)=some z) _ h)
        · exact .inr (.inl ((fun z (hz:o.loop 24401 (af a0_0 a0_1 a0_2 a0_3 n8 y)=some z)=>ho.ay (by rw [<-hz];cbv;repeat (simp only [e1,e2,e3,e4,e5,e6,e7,e8,e9,e10,e11,e12];try cbv)):∀z,o.loop 24401 (af a0_0 a0_1 a0_2 a0_3 n8 y)=some z->o.loop 24401 (af a0_0 a0_1 a0_2 a0_3 i y)=some z) _ h))
        · exact .inr (.inr ((fun z (hz:o.loop 24401 (af a0_0 a0_1 a0_2 a0_3 n8 y)=some z)=>ho.ay (by rw [<-hz];cbv;repeat (simp only [e1,e2,e3,e4,e5,e6,e7,e8,e9,e10,e11,e12];try cbv)):∀z,o.loop 24401 (af a0_0 a0_1 a0_2 a0_3 n8 y)=some z->o.loop 24401 (af a0_0 a0_1 a0_2 a0_3 i y)=some z) _ h))
    ·rcases cH ho n7 1 with ⟨e11,g11⟩|⟨e11,g11⟩
     ·rcases ak ho n2 11 with ⟨e12,g12⟩|⟨e12,g12⟩
      ·obtain ⟨n8,e13⟩:=kx (o.ar .add .i64 i 1);try have g13:n8=i+1:=e13.symm.trans (cM ho (by omega) (by omega))
       have hs:bW o n1 H n2 n3 n4 i=some H:=by
         unfold bW;rw [<-hn7,e4,if_neg (by omega),if_neg (by omega),if_pos g10,if_pos g11]
       rw [hx1,fR,hs];have en:i+1=n8:=by omega
       rw [en]at ih |-;have ih2:=ih (by omega) y H hy hn2;refine ⟨fun h=> ?_,fun h=> ?_⟩
       · obtain ⟨z,h⟩:=ih2.1 h;exact ⟨z,(fun z (hz:o.loop 24401 (af a0_0 a0_1 a0_2 a0_3 n8 y)=some z)=>ho.ay (by rw [<-hz];cbv;repeat (simp only [e1,e2,e3,e4,e5,e6,e7,e8,e9,e10,e11,e12,e13];try cbv)):∀z,o.loop 24401 (af a0_0 a0_1 a0_2 a0_3 n8 y)=some z->o.loop 24401 (af a0_0 a0_1 a0_2 a0_3 i y)=some z) _ h⟩
       · obtain ⟨z,h⟩:=ih2.2 h;refine ⟨z,?_⟩;rcases h with h | h | h
         · exact .inl ((fun z (hz:o.loop 24401 (af a0_0 a0_1 a0_2 a0_3 n8 y)=some z)=>ho.ay (by rw [<-hz];cbv;repeat (simp only [e1,e2,e3,e4,e5,e6,e7,e8,e9,e10,e11,e12,e13];try cbv)):∀z,o.loop 24401 (af a0_0 a0_1 a0_2 a0_3 n8 y)=some z->o.loop 24401 (af a0_0 a0_1 a0_2 a0_3 i y)=some z) _ h)
         · exact .inr (.inl ((fun z (hz:o.loop 24401 (af a0_0 a0_1 a0_2 a0_3 n8 y)=some z)=>ho.ay (by rw [<-hz];cbv;repeat (simp only [e1,e2,e3,e4,e5,e6,e7,e8,e9,e10,e11,e12,e13];try cbv)):∀z,o.loop 24401 (af a0_0 a0_1 a0_2 a0_3 n8 y)=some z->o.loop 24401 (af a0_0 a0_1 a0_2 a0_3 i y)=some z) _ h))
         · exact .inr (.inr ((fun z (hz:o.loop 24401 (af a0_0 a0_1 a0_2 a0_3 n8 y)=some z)=>ho.ay (by rw [<-hz];cbv;repeat (simp only [e1,e2,e3,e4,e5,e6,e7,e8,e9,e10,e11,e12,e13];try cbv)):∀z,o.loop 24401 (af a0_0 a0_1 a0_2 a0_3 n8 y)=some z->o.loop 24401 (af a0_0 a0_1 a0_2 a0_3 i y)=some z) _ h))
      ·obtain ⟨n8,e13⟩:=kx (o.ar .add .i64 i 1);try have g13:n8=i+1:=e13.symm.trans (cM ho (by omega) (by omega))
       omega
     ·have hs:bW o n1 H n2 n3 n4 i=none:=by
        unfold bW;rw [<-hn7,e4,if_neg (by omega),if_neg (by omega),if_pos g10,if_neg g11]
      rw [hx1,fR,hs];exact ⟨fun h=>(by cases h),fun _=>⟨_,.inl (ho.ay (by cbv;repeat (simp only [e1,e2,e3,e4,e5,e6,e7,e8,e9,e10,e11];try cbv)):o.loop 24401 (af a0_0 a0_1 a0_2 a0_3 i y)=some (.ret,cI y))⟩⟩
   ·have hs:bW o n1 H n2 n3 n4 i=none:=by
      unfold bW;rw [<-hn7,e4,if_neg (by omega),if_pos g9]
    rw [hx1,fR,hs];exact ⟨fun h=>(by cases h),fun _=>⟨_,.inl (ho.ay (by cbv;repeat (simp only [e1,e2,e3,e4,e5,e6,e7,e8,e9];try cbv)):o.loop 24401 (af a0_0 a0_1 a0_2 a0_3 i y)=some (.ret,cI y))⟩⟩
  ·have hs:bW o n1 H n2 n3 n4 i=none:=by
     unfold bW;rw [<-hn7,e4,if_pos g8]
   rw [hx1,fR,hs];exact ⟨fun h=>(by cases h),fun _=>⟨_,.inl (ho.ay (by cbv;repeat (simp only [e1,e2,e3,e4,e5,e6,e7,e8];try cbv)):o.loop 24401 (af a0_0 a0_1 a0_2 a0_3 i y)=some (.ret,cI y))⟩⟩
theorem DE (a0_0:ByteArray) (a0_1 a0_2:Int) (a0_3:List D) (hT:∀x∈a0_3,KI a0_3.length x) (h1:1<=(a0_3.length:Int)) (hb:(a0_3.length:Int)<=1048576):∃l,o.call 244 [.agg [.d (.str a0_0),.d (.int .i64 a0_1),.d (.int .i64 a0_2),.d (.lst a0_3)]] []=some ⟨.tup [.d (.lst l),.d (.bool (EA o a0_3))],[],[]⟩:=by
 obtain ⟨n1,e1,g1⟩:=aB ho a0_3;have e2:o.cmp .eql n1 n1=true:=cw ho rfl;have e3:o.eP 8 n1=true:=by rw [ho.eP];exact decide_eq_true (by omega)
 obtain ⟨l1,hl1,e4⟩:∃l1,l1=iL (List.replicate n1.toNat 0)/\o.lW n1 (.int .i64 0)=l1:=⟨_,rfl,by rw [ho.lW];unfold iL;rw [List.map_replicate]⟩
 obtain ⟨l2,hl2,e5⟩:∃l2,l2=iL ((H0 n1).set 0 0)/\o.loop 24400 (gP a0_0 a0_1 a0_2 a0_3 1 l1)=some (.exit 0,iz a0_0 a0_1 a0_2 a0_3 l2):=by
   refine ⟨_,rfl,?_⟩;rw [Mu ho a0_0 a0_1 a0_2 a0_3 n1 (by omega) 1 (by omega) (by omega) l1 _ hl1 (by rw [List.length_replicate];omega)];congr 4;obtain ⟨k,hk⟩:∃k:Nat,n1.toNat=k+1:=⟨n1.toNat-1,by omega⟩
   unfold H0;rw [hk,show (1:Int).toNat=1 from rfl,show (n1-1).toNat=k by omega,List.replicate_succ,List.replicate_succ];rfl
 have hr:=NR ho a0_0 a0_1 a0_2 a0_3 n1 (by rw [g1];exact hT) g1.symm (by omega) 0 (Int.le_refl _) (by omega) l2 _ hl2 (by rw [List.length_set];exact um (by omega));rw [show (0:Int).toNat=0 from rfl,List.drop_zero]at hr;have hr2:(EA o a0_3=false/\∃z,o.loop 24401 (af a0_0 a0_1 a0_2 a0_3 0 l2)=some (.ret,cI z))\/(EA o a0_3=true/\∃z,o.loop 24401 (af a0_0 a0_1 a0_2 a0_3 0 l2)=some (.exit 2,fN z))\/(EA o a0_3=false/\∃z,o.loop 24401 (af a0_0 a0_1 a0_2 a0_3 0 l2)=some (.ret,cJ z))\/(EA o a0_3=false/\∃z,o.loop 24401 (af a0_0 a0_1 a0_2 a0_3 0 l2)=some (.ret,fO z)):=by
   have hG:EA o a0_3=qb o n1 a0_3 0 ((H0 n1).set 0 0):=by rw [g1];rfl
   rw [hG];cases Q:qb o n1 a0_3 0 ((H0 n1).set 0 0)
   ·obtain ⟨z,h⟩:=hr.2 Q;rcases h with h | h | h
    ·exact .inl ⟨rfl,z,h⟩
    ·exact .inr (.inr (.inl ⟨rfl,z,h⟩))
    ·exact .inr (.inr (.inr ⟨rfl,z,h⟩))
   ·exact .inr (.inl ⟨rfl,hr.1 Q⟩)
 rcases hr2 with ⟨hG,l3,e6⟩ | ⟨hG,l3,e6⟩ | ⟨hG,l3,e6⟩ | ⟨hG,l3,e6⟩
 ·exact ⟨_,by rw [hG];exact (ho.aq (by cbv at e5;cbv at e6;cbv;repeat (simp only [e1,e2,e3,e4,e5,e6];try cbv)):o.call 244 [.agg [.d (.str a0_0),.d (.int .i64 a0_1),.d (.int .i64 a0_2),.d (.lst a0_3)]] []=some ⟨.tup [.d (.lst l3),.d (.bool false)],[],[]⟩)⟩
 ·exact ⟨_,by rw [hG];exact (ho.aq (by cbv at e5;cbv at e6;cbv;repeat (simp only [e1,e2,e3,e4,e5,e6];try cbv)):o.call 244 [.agg [.d (.str a0_0),.d (.int .i64 a0_1),.d (.int .i64 a0_2),.d (.lst a0_3)]] []=some ⟨.tup [.d (.lst l3),.d (.bool true)],[],[]⟩)⟩
 ·exact ⟨_,by rw [hG];exact (ho.aq (by cbv at e5;cbv at e6;cbv;repeat (simp only [e1,e2,e3,e4,e5,e6];try cbv)):o.call 244 [.agg [.d (.str a0_0),.d (.int .i64 a0_1),.d (.int .i64 a0_2),.d (.lst a0_3)]] []=some ⟨.tup [.d (.lst l3),.d (.bool false)],[],[]⟩)⟩
 ·exact ⟨_,by rw [hG];exact (ho.aq (by cbv at e5;cbv at e6;cbv;repeat (simp only [e1,e2,e3,e4,e5,e6];try cbv)):o.call 244 [.agg [.d (.str a0_0),.d (.int .i64 a0_1),.d (.int .i64 a0_2),.d (.lst a0_3)]] []=some ⟨.tup [.d (.lst l3),.d (.bool false)],[],[]⟩)⟩
end
end T2
