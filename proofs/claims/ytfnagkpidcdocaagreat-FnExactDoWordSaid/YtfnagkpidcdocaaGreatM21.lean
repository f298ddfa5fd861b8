import Derived.Test.YtfnagkpidcdocaaGreatM20
set_option linter.all false
namespace T2
open Go Go.Vi
set_option maxRecDepth 100000
set_option maxHeartbeats 4000000
def cN (o:aM) (n:Int) (H:List Int) (op N to a:Int):Option (List Int):=
 if gt H a<tk op N then none else if op=9 then (if to<=a then none else (bp n H (a+1) (o.ar .sub .i64 (gt H a) 1)).bind λK=>bp n K to (gt H a))
 else if op=10 then (if to<=a then none else bp n H to (gt H a))else if op=11 then some H else if op=12 then (if gt H a=1 then some H else none)
 else bp n H (a+1) (o.ar .add .i64 (o.ar .sub .i64 (gt H a) (tk op N)) 1)
theorem qq {n:Int} {H:List Int} {a h:Int} {K:List Int} (e:bp n H a h=some K):K.length=H.length:=by
 unfold bp at e;split at e; · cases e
 split at e; · cases e
 split at e
 ·cases e;exact List.length_set
 split at e
 ·cases e;rfl
 cases e
theorem kP {n:Int} {H:List Int} {a h:Int}:((bp n H a h).getD H).length=H.length:=by
 cases e:bp n H a h
 ·rfl
 exact qq e
section
variable {o:aM} (ho:aQ cu bw o)
include ho
theorem HY (
          H:List Int) (y:Lq) (hy:y=iL H) (n:Int) (hn:(H.length:Int)=n) (hb:n<=1048576) (a:Int) (h0:0<=a) (h1:a<n) (x_0 x_1:Int) (x_2:By) (x_3:Int):∃K,o.call 287 [.ptr (1,0) 0,Ai a,.agg [Ai x_0,Ai x_1,As x_2,Ai x_3]] [some (.box [.arr (1,1) (3,1) none true,Ab false]),some (.rows (3,1) y)]=some ⟨.tup [],[some (.box [.arr (1,1) (3,1) none true,Ab (cN o n H x_0 x_1 x_3 a).isNone]),some (.rows (3,1) (iL K))],[]⟩/\∀M,cN o n H x_0 x_1 x_3 a=some M->K=M/\(M.length:Int)=n:=by
 obtain ⟨n1,O,e1⟩:∃v,v=gt H a/\o.cF y a=some (.int .i64 v):=⟨_,rfl,by rw[hy];exact pA ho hn h0 h1⟩
 obtain ⟨n2,J⟩:=kx (tk x_0 x_1);have e3:o.call 350 [.agg [Ai x_0,Ai x_1,As x_2,Ai x_3]] []=Ar (Ai n2):=(KI ho x_0 x_1 x_2 x_3).trans (by rw[J]);rcases bn ho n1 n2 with ⟨V,g4⟩|⟨V,g4⟩
 ·rcases av ho x_0 9 with ⟨e5,g5⟩|⟨e5,g5⟩
  ·rcases av ho x_0 10 with ⟨U,g6⟩|⟨U,g6⟩
   ·rcases av ho x_0 11 with ⟨S,g7⟩|⟨S,g7⟩
    ·rcases av ho x_0 12 with ⟨e8,g8⟩|⟨e8,g8⟩
     ·obtain ⟨n3,e9⟩:=kx (o.ar .add .i64 a 1);try have g9:n3=a+1:=e9.symm.trans (dm ho (by omega) (by omega))
      obtain ⟨n4,a1⟩:=kx (o.ar .sub .i64 n1 n2);try have am:n4=n1-n2:=a1.symm.trans (gj ho (by omega) (by omega))
      obtain ⟨n5,a8⟩:=kx (o.ar .add .i64 n4 1);try have an:n5=n4+1:=a8.symm.trans (dm ho (by omega) (by omega))
      obtain ⟨b6,aa⟩:∃b,b=((bp n H n3 n5).isNone || false):=⟨_,rfl⟩
      obtain ⟨I,E⟩:∃K,K=(bp n H n3 n5).getD H:=⟨_,rfl⟩
      obtain ⟨l1,a0⟩:∃l,l=iL I:=⟨_,rfl⟩
      have a4:(I.length:Int)=n:=by rw[E,kP];first | exact hn | exact ac
      have ae:o.call 286 [.ptr (1,0) 0,Ai n3,Ai n5] [some (.box [.arr (1,1) (3,1) none true,Ab false]),some (.rows (3,1) y)]=some ⟨.tup [],[some (.box [.arr (1,1) (3,1) none true,Ab b6]),some (.rows (3,1) l1)],[]⟩:=by rw[hy,a0,E,aa];exact wK ho H n (by assumption) n3 n5 (by omega) false
      have j:cN o n H x_0 x_1 x_3 a=bp n H n3 n5:=by
        unfold cN;rw[<-O,J,if_neg (by omega),if_neg g5,if_neg g6,if_neg g7,if_neg g8,<-g9,a1,a8]
      exact ⟨I,by rw[j,<-a0,show (bp n H n3 n5).isNone=b6 by rw[aa,Bool.or_false]];exact (ho.aj (by cbv;repeat (simp only[e1,J,e3,V,e5,U,S,e8,e9,a1,a8,ae];try cbv)):o.call 287 [.ptr (1,0) 0,Ai a,.agg [Ai x_0,Ai x_1,As x_2,Ai x_3]] [some (.box [.arr (1,1) (3,1) none true,Ab false]),some (.rows (3,1) y)]=some ⟨.tup [],[some (.box [.arr (1,1) (3,1) none true,Ab b6]),some (.rows (3,1) l1)],[]⟩),λM e=>by rw[j]at e;rw[e]at E;exact ⟨E,by rw[qq e];exact hn⟩⟩
     rcases cD ho n1 1 with ⟨e9,g9⟩|⟨e9,g9⟩
     ·first
      | (
        have j:cN o n H x_0 x_1 x_3 a=some H:=by
         unfold cN;rw[<-O,J,if_neg (by omega),if_neg g5,if_neg g6,if_neg g7,if_pos g8,if_pos g9]
        exact ⟨H,by rw[j,<-hy];exact (ho.aj (by cbv;repeat (simp only[e1,J,e3,V,e5,U,S,e8,e9];try cbv)):o.call 287 [.ptr (1,0) 0,Ai a,.agg [Ai x_0,Ai x_1,As x_2,Ai x_3]] [some (.box [.arr (1,1) (3,1) none true,Ab false]),some (.rows (3,1) y)]=some ⟨.tup [],[some (.box [.arr (1,1) (3,1) none true,Ab false]),some (.rows (3,1) y)],[]⟩),λM e=>by rw[j]at e;cases e;exact ⟨rfl,hn⟩⟩)
      | (
        have j:cN o n H x_0 x_1 x_3 a=none:=by
         unfold cN;rw[<-O,J,if_neg (by omega),if_neg g5,if_neg g6,if_neg g7,if_pos g8,if_neg g9]
        exact ⟨H,by rw[j,<-hy];exact (ho.aj (by cbv;repeat (simp only[e1,J,e3,V,e5,U,S,e8,e9];try cbv)):o.call 287 [.ptr (1,0) 0,Ai a,.agg [Ai x_0,Ai x_1,As x_2,Ai x_3]] [some (.box [.arr (1,1) (3,1) none true,Ab false]),some (.rows (3,1) y)]=some ⟨.tup [],[some (.box [.arr (1,1) (3,1) none true,Ab false]),some (.rows (3,1) y)],[]⟩),λM e=>by rw[j]at e;cases e⟩)
     first
     | (
       have j:cN o n H x_0 x_1 x_3 a=some H:=by
        unfold cN;rw[<-O,J,if_neg (by omega),if_neg g5,if_neg g6,if_neg g7,if_pos g8,if_pos g9]
       exact ⟨H,by rw[j,<-hy];exact (ho.aj (by cbv;repeat (simp only[e1,J,e3,V,e5,U,S,e8,e9];try cbv)):o.call 287 [.ptr (1,0) 0,Ai a,.agg [Ai x_0,Ai x_1,As x_2,Ai x_3]] [some (.box [.arr (1,1) (3,1) none true,Ab false]),some (.rows (3,1) y)]=some ⟨.tup [],[some (.box [.arr (1,1) (3,1) none true,Ab true]),some (.rows (3,1) y)],[]⟩),λM e=>by rw[j]at e;cases e;exact ⟨rfl,hn⟩⟩)
     | (
       have j:cN o n H x_0 x_1 x_3 a=none:=by
        unfold cN;rw[<-O,J,if_neg (by omega),if_neg g5,if_neg g6,if_neg g7,if_pos g8,if_neg g9]
       exact ⟨H,by rw[j,<-hy];exact (ho.aj (by cbv;repeat (simp only[e1,J,e3,V,e5,U,S,e8,e9];try cbv)):o.call 287 [.ptr (1,0) 0,Ai a,.agg [Ai x_0,Ai x_1,As x_2,Ai x_3]] [some (.box [.arr (1,1) (3,1) none true,Ab false]),some (.rows (3,1) y)]=some ⟨.tup [],[some (.box [.arr (1,1) (3,1) none true,Ab true]),some (.rows (3,1) y)],[]⟩),λM e=>by rw[j]at e;cases e⟩)
    have j:cN o n H x_0 x_1 x_3 a=some H:=by
      unfold cN;rw[<-O,J,if_neg (by omega),if_neg g5,if_neg g6,if_pos g7]
    exact ⟨H,by rw[j,<-hy];exact (ho.aj (by cbv;repeat (simp only[e1,J,e3,V,e5,U,S];try cbv)):o.call 287 [.ptr (1,0) 0,Ai a,.agg [Ai x_0,Ai x_1,As x_2,Ai x_3]] [some (.box [.arr (1,1) (3,1) none true,Ab false]),some (.rows (3,1) y)]=some ⟨.tup [],[some (.box [.arr (1,1) (3,1) none true,Ab false]),some (.rows (3,1) y)],[]⟩),λM e=>by rw[j]at e;cases e;exact ⟨rfl,hn⟩⟩
   rcases iz ho x_3 a with ⟨S,g7⟩|⟨S,g7⟩
   ·obtain ⟨b5,a3⟩:∃b,b=((bp n H x_3 n1).isNone || false):=⟨_,rfl⟩
    obtain ⟨I,E⟩:∃K,K=(bp n H x_3 n1).getD H:=⟨_,rfl⟩
    obtain ⟨l1,a0⟩:∃l,l=iL I:=⟨_,rfl⟩
    have a4:(I.length:Int)=n:=by rw[E,kP];first | exact hn | exact ac
    have e8:o.call 286 [.ptr (1,0) 0,Ai x_3,Ai n1] [some (.box [.arr (1,1) (3,1) none true,Ab false]),some (.rows (3,1) y)]=some ⟨.tup [],[some (.box [.arr (1,1) (3,1) none true,Ab b5]),some (.rows (3,1) l1)],[]⟩:=by rw[hy,a0,E,a3];exact wK ho H n (by assumption) x_3 n1 (by omega) false
    have j:cN o n H x_0 x_1 x_3 a=bp n H x_3 n1:=by
      unfold cN;rw[<-O,J,if_neg (by omega),if_neg g5,if_pos g6,if_neg (by omega)]
    exact ⟨I,by rw[j,<-a0,show (bp n H x_3 n1).isNone=b5 by rw[a3,Bool.or_false]];exact (ho.aj (by cbv;repeat (simp only[e1,J,e3,V,e5,U,S,e8];try cbv)):o.call 287 [.ptr (1,0) 0,Ai a,.agg [Ai x_0,Ai x_1,As x_2,Ai x_3]] [some (.box [.arr (1,1) (3,1) none true,Ab false]),some (.rows (3,1) y)]=some ⟨.tup [],[some (.box [.arr (1,1) (3,1) none true,Ab b5]),some (.rows (3,1) l1)],[]⟩),λM e=>by rw[j]at e;rw[e]at E;exact ⟨E,by rw[qq e];exact hn⟩⟩
   have j:cN o n H x_0 x_1 x_3 a=none:=by
     unfold cN;rw[<-O,J,if_neg (by omega),if_neg g5,if_pos g6,if_pos g7]
   exact ⟨H,by rw[j,<-hy];exact (ho.aj (by cbv;repeat (simp only[e1,J,e3,V,e5,U,S];try cbv)):o.call 287 [.ptr (1,0) 0,Ai a,.agg [Ai x_0,Ai x_1,As x_2,Ai x_3]] [some (.box [.arr (1,1) (3,1) none true,Ab false]),some (.rows (3,1) y)]=some ⟨.tup [],[some (.box [.arr (1,1) (3,1) none true,Ab true]),some (.rows (3,1) y)],[]⟩),λM e=>by rw[j]at e;cases e⟩
  rcases iz ho x_3 a with ⟨U,g6⟩|⟨U,g6⟩
  ·obtain ⟨n3,S⟩:=kx (o.ar .add .i64 a 1);try have g7:n3=a+1:=S.symm.trans (dm ho (by omega) (by omega))
   obtain ⟨n4,e8⟩:=kx (o.ar .sub .i64 n1 1);try have g8:n4=n1-1:=e8.symm.trans (gj ho (by omega) (by omega))
   obtain ⟨b4,a6⟩:∃b,b=((bp n H n3 n4).isNone || false):=⟨_,rfl⟩
   obtain ⟨I,E⟩:∃K,K=(bp n H n3 n4).getD H:=⟨_,rfl⟩
   obtain ⟨l1,a0⟩:∃l,l=iL I:=⟨_,rfl⟩
   have a4:(I.length:Int)=n:=by rw[E,kP];first | exact hn | exact ac
   have e9:o.call 286 [.ptr (1,0) 0,Ai n3,Ai n4] [some (.box [.arr (1,1) (3,1) none true,Ab false]),some (.rows (3,1) y)]=some ⟨.tup [],[some (.box [.arr (1,1) (3,1) none true,Ab b4]),some (.rows (3,1) l1)],[]⟩:=by rw[hy,a0,E,a6];exact wK ho H n (by assumption) n3 n4 (by omega) false
   obtain ⟨b5,a3⟩:∃b,b=((bp n I x_3 n1).isNone || b4):=⟨_,rfl⟩
   obtain ⟨a7,a5⟩:∃K,K=(bp n I x_3 n1).getD I:=⟨_,rfl⟩
   obtain ⟨l2,a9⟩:∃l,l=iL a7:=⟨_,rfl⟩
   have ag:(a7.length:Int)=n:=by rw[a5,kP];first | exact hn | exact a4
   have a1:o.call 286 [.ptr (1,0) 0,Ai x_3,Ai n1] [some (.box [.arr (1,1) (3,1) none true,Ab b4]),some (.rows (3,1) l1)]=some ⟨.tup [],[some (.box [.arr (1,1) (3,1) none true,Ab b5]),some (.rows (3,1) l2)],[]⟩:=by rw[a0,a9,a5,a3];exact wK ho I n (by assumption) x_3 n1 (by omega) b4
   have j:cN o n H x_0 x_1 x_3 a=(bp n H n3 n4).bind λK=>bp n K x_3 n1:=by
     unfold cN;rw[<-O,J,if_neg (by omega),if_pos g5,if_neg (by omega),<-g7,e8]
   cases c1:bp n H n3 n4 with
   | none=>
     rw[c1]at j a6;have hb:b5=true:=by rw[a3,a6];simp
     exact ⟨a7,by rw[j,<-a9];have hp:=(ho.aj (by cbv;repeat (simp only[e1,J,e3,V,e5,U,S,e8,e9,a1];try cbv)):o.call 287 [.ptr (1,0) 0,Ai a,.agg [Ai x_0,Ai x_1,As x_2,Ai x_3]] [some (.box [.arr (1,1) (3,1) none true,Ab false]),some (.rows (3,1) y)]=some ⟨.tup [],[some (.box [.arr (1,1) (3,1) none true,Ab b5]),some (.rows (3,1) l2)],[]⟩);rw[hb]at hp;exact hp,λM e=>by rw[j]at e;cases e⟩
   | some K1=>
     rw[c1]at j a6 E;have hE:I=K1:=E;have hb:b5=(bp n I x_3 n1).isNone:=by rw[a3,a6];simp
     refine ⟨a7,by rw[j,<-hE,<-a9];show _=some (cn.mk _ [some (.box [_,Ab (bp n I x_3 n1).isNone]),_] _);rw[<-hb];exact (ho.aj (by cbv;repeat (simp only[e1,J,e3,V,e5,U,S,e8,e9,a1];try cbv)):o.call 287 [.ptr (1,0) 0,Ai a,.agg [Ai x_0,Ai x_1,As x_2,Ai x_3]] [some (.box [.arr (1,1) (3,1) none true,Ab false]),some (.rows (3,1) y)]=some ⟨.tup [],[some (.box [.arr (1,1) (3,1) none true,Ab b5]),some (.rows (3,1) l2)],[]⟩),λM e=> ?_⟩;rw[j,<-hE]at e
     replace e:bp n I x_3 n1=some M:=e
     rw[e]at a5;exact ⟨a5,by rw[qq e];exact a4⟩
  have j:cN o n H x_0 x_1 x_3 a=none:=by
    unfold cN;rw[<-O,J,if_neg (by omega),if_pos g5,if_pos g6]
  exact ⟨H,by rw[j,<-hy];exact (ho.aj (by cbv;repeat (simp only[e1,J,e3,V,e5,U];try cbv)):o.call 287 [.ptr (1,0) 0,Ai a,.agg [Ai x_0,Ai x_1,As x_2,Ai x_3]] [some (.box [.arr (1,1) (3,1) none true,Ab false]),some (.rows (3,1) y)]=some ⟨.tup [],[some (.box [.arr (1,1) (3,1) none true,Ab true]),some (.rows (3,1) y)],[]⟩),λM e=>by rw[j]at e;cases e⟩
 have j:cN o n H x_0 x_1 x_3 a=none:=by
   unfold cN;rw[<-O,J,if_pos g4]
 exact ⟨H,by rw[j,<-hy];exact (ho.aj (by cbv;repeat (simp only[e1,J,e3,V];try cbv)):o.call 287 [.ptr (1,0) 0,Ai a,.agg [Ai x_0,Ai x_1,As x_2,Ai x_3]] [some (.box [.arr (1,1) (3,1) none true,Ab false]),some (.rows (3,1) y)]=some ⟨.tup [],[some (.box [.arr (1,1) (3,1) none true,Ab true]),some (.rows (3,1) y)],[]⟩),λM e=>by rw[j]at e;cases e⟩
theorem KM (H:List Int) (n:Int) (e:(H.length:Int)=n) (j:n<=1048576) (a:Int) (E:0<=a) (I:a<n) (x_0 x_1:Int) (x_2:By) (x_3:Int):∃K,o.call 287 [.ptr (1,0) 0,Ai a,.agg [Ai x_0,Ai x_1,As x_2,Ai x_3]] [some (.box [.arr (1,1) (3,1) none true,Ab false]),some (.rows (3,1) (iL H))]=some ⟨.tup [],[some (.box [.arr (1,1) (3,1) none true,Ab (cN o n H x_0 x_1 x_3 a).isNone]),some (.rows (3,1) (iL K))],[]⟩/\∀M,cN o n H x_0 x_1 x_3 a=some M->K=M/\(M.length:Int)=n:=HY ho H _ rfl n e j a E I x_0 x_1 x_2 x_3
end
def CU (x:D):Prop:=∃op N s to,x= .agg [.int .i64 op,.int .i64 N,.str s,.int .i64 to]
def qN (o:aM) (n:Int):Lq->Int->List Int->Bool
 | [],_,_=>true
 | .agg [.int _ op,.int _ N,.str _,.int _ to]::xs,i,H=>if gt H i<0 then false else match cN o n H op N to i with | none=>false | some K=>qN o n xs (i+1) K
 | _::_,_,_=>false
def Bh (o:aM) (n:Int):Lq->Int->List Int->List Int
 | .agg [.int _ op,.int _ N,.str _,.int _ to]::xs,i,H=>match cN o n H op N to i with | none=>H | some K=>Bh o n xs (i+1) K
 | _,_,H=>H
theorem HZ {o:aM} {n op N to:Int} {s:By} {xs:Lq} {i:Int} {H:List Int}:Bh o n (.agg [.int .i64 op,.int .i64 N,.str s,.int .i64 to]::xs) i H=match cN o n H op N to i with | none=>H | some K=>Bh o n xs (i+1) K:=rfl
theorem Ec {o:aM} {n op N to:Int} {s:By} {xs:Lq} {i:Int} {H:List Int}:qN o n (.agg [.int .i64 op,.int .i64 N,.str s,.int .i64 to]::xs) i H=if gt H i<0 then false else match cN o n H op N to i with | none=>false | some K=>qN o n xs (i+1) K:=rfl
def H0 (n:Int):List Int:=List.replicate n.toNat (-1)
theorem wL {n:Int} (h:0<=n):((H0 n).length:Int)=n:=by unfold H0;rw[List.length_replicate];omega
theorem take_set {H:List Int} {i:Nat} {v:Int} (h:i<H.length):(H.set i v).take (i+1)=H.take i++[v]:=by
 rw[List.take_add_one,List.take_set_of_le (Nat.le_refl _),List.getElem?_set_self h];rfl
section
variable {o:aM} (ho:aQ cu bw o)
include ho
def iK (f_0:By) (f_1 f_2:Int) (f_3:Lq) (n2 i:Int) (y:Lq):St:=⟨E 56 [(0,.sp [.str f_0,.int .i64 f_1,.int .i64 f_2,.lst f_3] 0),(4,.ptr (4,0) 0),(17,Ai n2),(18,Ai i)],O 56 [(4,[some (.box [.arr (13,0) (3,1) none true,Ab false])]),(13,[some (.rows (3,1) y)])]⟩
def je (f_0:By) (f_1 f_2:Int) (f_3 y:Lq):St:=⟨E 56 [(0,.sp [.str f_0,.int .i64 f_1,.int .i64 f_2,.lst f_3] 0),(4,.ptr (4,0) 0)],O 56 [(4,[some (.box [.arr (13,0) (3,1) none true,Ab false])]),(13,[some (.rows (3,1) y)])]⟩
def aG (f_3:Lq) (n1 i:Int) (c:Bool) (y:Lq):St:=⟨E 56 [(4,.ptr (4,0) 0),(30,Al f_3),(31,Ai n1),(32,Ai i)],O 56 [(4,[some (.box [.arr (13,0) (3,1) none true,Ab c])]),(13,[some (.rows (3,1) y)])]⟩
def dN (y:Lq):St:=⟨E 56 [(2,.emp),(3,Ab false),(4,.ptr (4,0) 0)],O 56 [(4,[some (.box [.arr (13,0) (3,1) none true,Ab true])]),(13,[some (.rows (3,1) y)])]⟩
def bZ (c:Bool) (y:Lq):St:=⟨E 56 [(4,.ptr (4,0) 0)],O 56 [(4,[some (.box [.arr (13,0) (3,1) none true,Ab c])]),(13,[some (.rows (3,1) y)])]⟩
def gC (y:Lq):St:=⟨E 56 [(2,.emp),(3,Ab false),(4,.ptr (4,0) 0)],O 56 [(4,[some (.box [.arr (13,0) (3,1) none true,Ab false])]),(13,[some (.rows (3,1) y)])]⟩
theorem QS (f_0:By) (f_1 f_2:Int) (f_3:Lq) (n2:Int) (V:n2<=1048576):∀i:Int,0<=i->i<=(n2:Int)->∀(y:Lq) (H:List Int),y=iL H->(H.length:Int)=n2->o.loop 19200 (iK f_0 f_1 f_2 f_3 n2 i y)=some (.exit 0,je f_0 f_1 f_2 f_3 (iL (H.take i.toNat++List.replicate (n2-i).toNat (-1)))):=by
 refine cM (P:=λi=>∀(y:Lq) (H:List Int),y=iL H->(H.length:Int)=n2->o.loop 19200 (iK f_0 f_1 f_2 f_3 n2 i y)=some (.exit 0,je f_0 f_1 f_2 f_3 (iL (H.take i.toNat++List.replicate (n2-i).toNat (-1))))) (n2:Int) ?_;intro i j h1 E;try dsimp only at E |-
 intro y H e I;refine ho.fA λR Q=> ?_
 conv=>lhs;cbv
 rcases bn ho i n2 with ⟨J,g1⟩|⟨J,g1⟩<;>(conv=>lhs;rw[J];cbv)
 ·subst Q;rw[show (n2-i).toNat=0 by omega,List.replicate_zero,List.append_nil,List.take_of_length_le (by omega),<-e];rfl
 obtain ⟨n1,M⟩:∃n1,o.cF y i=some (.int .i64 n1):=⟨_,by rw[e];exact pA ho I j g1⟩
 obtain ⟨l1,O,S⟩:∃l1,l1=iL (H.set i.toNat (-1))/\o.set y i (.int .i64 (-1))=l1:=⟨_,rfl,by rw[e];exact Bf ho j⟩
 obtain ⟨n3,U,g4⟩:=bk ho i 1;conv=>lhs;rw[M];cbv;(try (rw[M];cbv));rw[S];cbv;rw[U];cbv
 subst Q;show o.loop 19200 (iK f_0 f_1 f_2 f_3 n2 n3 l1)=_;rw[show n3=i+1 by omega,E (by omega) l1 _ O (by rw[List.length_set];exact I)];congr 4;rw[show (i+1).toNat=i.toNat+1 by omega,take_set (by omega),List.append_assoc];congr 1;rw[show (n2-i).toNat=(n2-(i.toNat+1:Nat)).toNat+1 by omega,List.replicate_succ,show ((i.toNat+1:Nat):Int)=i+1 by omega];rfl
theorem Sx (f_3:Lq) (hT:∀x∈f_3,CU x) (n1:Int) (hn:(f_3.length:Int)=n1) (hb:n1<=1048576):∀i:Int,0<=i->i<=(n1:Int)->∀(c:Bool) (y:Lq) (H:List Int),(c=false->y=iL H/\(H.length:Int)=n1)->(c=true->o.loop 19201 (aG f_3 n1 i c y)=some (.ret,dN y)\/o.loop 19201 (aG f_3 n1 i c y)=some (.exit 2,bZ true y))/\(c=false->(qN o n1 (f_3.drop i.toNat) i H=true->∃z,z=iL (Bh o n1 (f_3.drop i.toNat) i H)/\o.loop 19201 (aG f_3 n1 i c y)=some (.exit 2,bZ false z))/\(qN o n1 (f_3.drop i.toNat) i H=false->∃z,o.loop 19201 (aG f_3 n1 i c y)=some (.ret,dN z)\/o.loop 19201 (aG f_3 n1 i c y)=some (.ret,gC z)\/o.loop 19201 (aG f_3 n1 i c y)=some (.exit 2,bZ true z))):=by
 refine cM (P:=λi=>∀(c:Bool) (y:Lq) (H:List Int),(c=false->y=iL H/\(H.length:Int)=n1)->(c=true->o.loop 19201 (aG f_3 n1 i c y)=some (.ret,dN y)\/o.loop 19201 (aG f_3 n1 i c y)=some (.exit 2,bZ true y))/\(c=false->(qN o n1 (f_3.drop i.toNat) i H=true->∃z,z=iL (Bh o n1 (f_3.drop i.toNat) i H)/\o.loop 19201 (aG f_3 n1 i c y)=some (.exit 2,bZ false z))/\(qN o n1 (f_3.drop i.toNat) i H=false->∃z,o.loop 19201 (aG f_3 n1 i c y)=some (.ret,dN z)\/o.loop 19201 (aG f_3 n1 i c y)=some (.ret,gC z)\/o.loop 19201 (aG f_3 n1 i c y)=some (.exit 2,bZ true z)))) (n1:Int) ?_;intro i h0 h1 ih;try dsimp only at ih |-
 intro c y H hy;rcases bn ho i n1 with ⟨J,g1⟩|⟨J,g1⟩
 ·rw[bL hn (by omega)];have hp:o.loop 19201 (aG f_3 n1 i c y)=some (.exit 2,bZ c y):=(ho.aB (by cbv;repeat (simp only[J];try cbv)):o.loop 19201 (aG f_3 n1 i c y)=some (.exit 2,bZ c y))
  exact ⟨λh=> .inr (by rw[h]at hp |-;exact hp),λh=>⟨λ_=>⟨y,(hy h).1,by rw[h]at hp |-;exact hp⟩,λg=>by cases g⟩⟩
 obtain ⟨x,a4,a1,a5⟩:=aF hn h0 g1;obtain ⟨n2,n3,s1,n4,rfl⟩:=hT _ a5;have O:=ay ho h0 a4;cases E:c
 ·obtain ⟨n5,a6,U⟩:∃n5,n5=gt H i/\o.cF y i=some (.int .i64 n5):=⟨_,rfl,by rw[(hy E).1];exact pA ho (hy E).2 h0 g1⟩
  rcases bn ho n5 0 with ⟨S,g5⟩|⟨S,g5⟩
  ·obtain ⟨K,hcall,hK⟩:=KM ho H n1 (hy E).2 hb i h0 g1 n2 n3 s1 n4;obtain ⟨e,I⟩:∃b,(cN o n1 H n2 n3 n4 i).isNone=b:=⟨_,rfl⟩
   obtain ⟨l1,a3⟩:∃l,l=iL K:=⟨_,rfl⟩
   rw[I,<-a3,<-(hy E).1,<-E]at hcall;have e6:o.call 287 [.ptr (1,0) 0,Ai i,.agg [Ai n2,Ai n3,As s1,Ai n4]] [some (.box [.arr (1,1) (3,1) none true,Ab c]),some (.rows (3,1) y)]=some ⟨.tup [],[some (.box [.arr (1,1) (3,1) none true,Ab e]),some (.rows (3,1) l1)],[]⟩:=hcall;obtain ⟨n6,V⟩:=kx (o.ar .add .i64 i 1);try have g7:n6=i+1:=V.symm.trans (dm ho (by omega) (by omega))
   subst E;have E:false=false:=rfl;refine ⟨λh=>(by cases h),λ_=> ?_⟩;rw[a1,Ec,if_neg (by omega),HZ];have en:i+1=n6:=by omega
   rw[en]at ih |-;cases hL:cN o n1 H n2 n3 n4 i with
   | none=>
    rw[hL]at I;have a0:=(ih (by omega) e l1 H (λh=>by rw[h]at I;cases I)).1 I.symm;refine ⟨λh=>(by cases h),λ_=> ?_⟩;rcases a0 with h | h
    ·exact ⟨_,.inl ((λz (j:o.loop 19201 (aG f_3 n1 n6 e l1)=some z)=>ho.aB (by rw[<-j];cbv;repeat (simp only[J,O,U,S,e6,V];try cbv)):∀z,o.loop 19201 (aG f_3 n1 n6 e l1)=some z->o.loop 19201 (aG f_3 n1 i false y)=some z) _ h)⟩
    exact ⟨_,.inr (.inr ((λz (j:o.loop 19201 (aG f_3 n1 n6 e l1)=some z)=>ho.aB (by rw[<-j];cbv;repeat (simp only[J,O,U,S,e6,V];try cbv)):∀z,o.loop 19201 (aG f_3 n1 n6 e l1)=some z->o.loop 19201 (aG f_3 n1 i false y)=some z) _ h))⟩
   | some M=>
    rw[hL]at I;obtain ⟨rfl,hM⟩:=hK _ hL;have a0:=(ih (by omega) e l1 K (λ_=>⟨a3,hM⟩)).2 I.symm;refine ⟨λh=> ?_,λh=> ?_⟩
    ·obtain ⟨z,j,h⟩:=a0.1 h;exact ⟨z,j,(λz (j:o.loop 19201 (aG f_3 n1 n6 e l1)=some z)=>ho.aB (by rw[<-j];cbv;repeat (simp only[J,O,U,S,e6,V];try cbv)):∀z,o.loop 19201 (aG f_3 n1 n6 e l1)=some z->o.loop 19201 (aG f_3 n1 i false y)=some z) _ h⟩
    obtain ⟨z,h⟩:=a0.2 h;refine ⟨z,?_⟩;rcases h with h | h | h
    ·exact .inl ((λz (j:o.loop 19201 (aG f_3 n1 n6 e l1)=some z)=>ho.aB (by rw[<-j];cbv;repeat (simp only[J,O,U,S,e6,V];try cbv)):∀z,o.loop 19201 (aG f_3 n1 n6 e l1)=some z->o.loop 19201 (aG f_3 n1 i false y)=some z) _ h)
    ·exact .inr (.inl ((λz (j:o.loop 19201 (aG f_3 n1 n6 e l1)=some z)=>ho.aB (by rw[<-j];cbv;repeat (simp only[J,O,U,S,e6,V];try cbv)):∀z,o.loop 19201 (aG f_3 n1 n6 e l1)=some z->o.loop 19201 (aG f_3 n1 i false y)=some z) _ h))
    exact .inr (.inr ((λz (j:o.loop 19201 (aG f_3 n1 n6 e l1)=some z)=>ho.aB (by rw[<-j];cbv;repeat (simp only[J,O,U,S,e6,V];try cbv)):∀z,o.loop 19201 (aG f_3 n1 n6 e l1)=some z->o.loop 19201 (aG f_3 n1 i false y)=some z) _ h))
  subst E;have E:false=false:=rfl;refine ⟨λh=>(by cases h),λ_=> ?_⟩;rw[a1,Ec,if_pos (by omega)];exact ⟨λh=>(by cases h),λ_=>⟨_,.inr (.inl (ho.aB (by cbv;repeat (simp only[J,O,U,S];try cbv)):_=some (.ret,gC y)))⟩⟩
 subst E;have E:true=true:=rfl;exact ⟨λh=> .inl (ho.aB (by cbv;repeat (simp only[J,O];try cbv)):_=some (.ret,dN y)),λh=>by cases h⟩
omit ho in
theorem QT {n:Int} (h:1<=n):gt (H0 n) 0= -1:=by
 unfold gt H0;rw[List.getD_eq_getElem?_getD,List.getElem?_replicate,if_pos (by omega)];rfl
omit ho in
def Fp (o:aM) (xs:Lq):Bool:=qN o xs.length xs 0 ((H0 xs.length).set 0 0)
def hF (o:aM) (xs:Lq):List Int:=Bh o xs.length xs 0 ((H0 xs.length).set 0 0)
theorem Gz (f_0:By) (f_1 f_2:Int) (f_3:Lq) (hT:∀x∈f_3,CU x) (h1:1<=(f_3.length:Int)) (hb:(f_3.length:Int)<=1048576):∃l,(Fp o f_3=true->l=iL (hF o f_3))/\o.call 192 [.sp [.str f_0,.int .i64 f_1,.int .i64 f_2,.lst f_3] 0] []=Ar (.tup [Al l,Ab (Fp o f_3)]):=by
 obtain ⟨n1,e1,g1⟩:=aC ho f_3;have e2:o.cmp .eql n1 n1=true:=cX ho rfl;have e3:o.fP 8 n1=true:=by rw[ho.fP];exact decide_eq_true (by omega)
 obtain ⟨l1,a0,e4⟩:∃l1,l1=iL (List.replicate n1.toNat 0)/\o.rm n1 (.int .i64 0)=l1:=⟨_,rfl,by rw[ho.rm];unfold iL;rw[List.map_replicate]⟩
 obtain ⟨n2,a3,e5⟩:∃n2,n2=n1/\o.len l1=n2:=⟨_,rfl,by rw[a0,wJ ho,List.length_replicate];omega⟩
 obtain ⟨l2,a4,M⟩:∃l2,l2=iL (H0 n1)/\o.loop 19200 (iK f_0 f_1 f_2 f_3 n2 0 l1)=some (.exit 0,je f_0 f_1 f_2 f_3 l2):=⟨_,rfl,by rw[QS ho f_0 f_1 f_2 f_3 n2 (by omega) 0 (Int.le_refl _) (by omega) l1 _ a0 (by rw[List.length_replicate];omega),show (0:Int).toNat=0 from rfl,List.take_zero,List.nil_append,Int.sub_zero,a3];rfl⟩
 have E:=wK ho (H0 n1) n1 (wL (by omega)) 0 0 (Int.le_refl _) false;have a5:bp n1 (H0 n1) 0 0=some ((H0 n1).set 0 0):=by
   unfold bp;rw[if_neg (by omega),if_neg (by omega),if_pos (by rw[QT (by omega)];omega)];rfl
 rw[a5]at E;obtain ⟨O,a1⟩:∃b,b=false:=⟨_,rfl⟩
 obtain ⟨l3,hl3⟩:∃l,l=iL ((H0 n1).set 0 0):=⟨_,rfl⟩
 have e7:o.call 286 [.ptr (1,0) 0,Ai 0,Ai 0] [some (.box [.arr (1,1) (3,1) none true,Ab false]),some (.rows (3,1) l2)]=some ⟨.tup [],[some (.box [.arr (1,1) (3,1) none true,Ab O]),some (.rows (3,1) l3)],[]⟩:=by rw[a4,a1,hl3];exact E
 have S:=(Sx ho f_3 hT n1 g1.symm (by omega) 0 (Int.le_refl _) (by omega) O l3 _ (λ_=>⟨hl3,by rw[List.length_set];exact wL (by omega)⟩)).2 a1;rw[show (0:Int).toNat=0 from rfl,List.drop_zero]at S;have hG:Fp o f_3=qN o n1 f_3 0 ((H0 n1).set 0 0):=by rw[g1];rfl
 have a6:hF o f_3=Bh o n1 f_3 0 ((H0 n1).set 0 0):=by rw[g1];rfl
 obtain ⟨U,e⟩:∃b,b= !qN o n1 f_3 0 ((H0 n1).set 0 0):=⟨_,rfl⟩
 have S:(∃I,U=true/\o.loop 19201 (aG f_3 n1 0 O l3)=some (.ret,dN I))\/(∃I,(U=false->I=iL (hF o f_3))/\o.loop 19201 (aG f_3 n1 0 O l3)=some (.exit 2,bZ U I))\/(∃I,U=true/\o.loop 19201 (aG f_3 n1 0 O l3)=some (.ret,gC I)):=by
   cases Q:qN o n1 f_3 0 ((H0 n1).set 0 0)
   ·rw[Q]at e;obtain ⟨z,h⟩:=S.2 Q;rcases h with h | h | h
    ·exact .inl ⟨z,e,h⟩
    ·exact .inr (.inr ⟨z,e,h⟩)
    exact .inr (.inl ⟨z,λh=>(by rw[e]at h;cases h),by rw[e];exact h⟩)
   rw[Q]at e;obtain ⟨z,E,h⟩:=S.1 Q;exact .inr (.inl ⟨z,λ_=>by rw[a6];exact E,by rw[e];exact h⟩)
 rcases S with ⟨I,j,J⟩ | ⟨I,a7,J⟩ | ⟨I,j,J⟩
 ·rw[e]at j;have E:Fp o f_3=false:=by rw[hG];simpa using j
  exact ⟨_,λh=>(by cases E.symm.trans h),by rw[E];exact (ho.aj (by cbv at M;cbv at J;cbv;repeat (simp only[e1,e2,e3,e4,e5,M,e7,J];try cbv)):o.call 192 [.sp [.str f_0,.int .i64 f_1,.int .i64 f_2,.lst f_3] 0] []=Ar (.tup [Al [],Ab false]))⟩
 ·cases V:U
  ·have j:=V;rw[e]at j;exact ⟨_,λ_=>a7 V,by rw[hG,show qN o n1 f_3 0 ((H0 n1).set 0 0)=true by simpa using j];exact (ho.aj (by cbv at M;cbv at J;cbv;repeat (simp only[e1,e2,e3,e4,e5,M,e7,J,V];try cbv)):o.call 192 [.sp [.str f_0,.int .i64 f_1,.int .i64 f_2,.lst f_3] 0] []=Ar (.tup [Al I,Ab true]))⟩
  have j:=V;rw[e]at j;have E:Fp o f_3=false:=by rw[hG];simpa using j
  exact ⟨_,λh=>(by cases E.symm.trans h),by rw[E];exact (ho.aj (by cbv at M;cbv at J;cbv;repeat (simp only[e1,e2,e3,e4,e5,M,e7,J,V];try cbv)):o.call 192 [.sp [.str f_0,.int .i64 f_1,.int .i64 f_2,.lst f_3] 0] []=Ar (.tup [Al I,Ab false]))⟩
 rw[e]at j;have E:Fp o f_3=false:=by rw[hG];simpa using j
 exact ⟨_,λh=>(by cases E.symm.trans h),by rw[E];exact (ho.aj (by cbv at M;cbv at J;cbv;repeat (simp only[e1,e2,e3,e4,e5,M,e7,J];try cbv)):o.call 192 [.sp [.str f_0,.int .i64 f_1,.int .i64 f_2,.lst f_3] 0] []=Ar (.tup [Al [],Ab false]))⟩
end
def KN (n:Int) (x:D):Prop:=∃op N s to,x= .agg [.int .i64 op,.int .i64 N,.str s,.int .i64 to]/\((op=9\/op=10)->0<=to/\to<n)
def cm (c:List Int×Bool):Option (List Int):=if c.2 then some c.1 else none
def bW (o:aM) (n:Int) (H:List Int) (op N to i:Int):Option (List Int):=
 if gt H i<tk op N then none else if 300<gt H i then none else if op=12 then (if gt H i=1 then some H else none)else if op=11 then some H
 else if op=10 then cm (dR H to (gt H i))else if op=9 then (cm (dR H to (gt H i))).bind λK=>if i+1<n then cm (dR K (i+1) (o.ar .sub .i64 (gt H i) 1))else none
 else if i+1<n then cm (dR H (i+1) (o.ar .add .i64 (o.ar .sub .i64 (gt H i) (tk op N)) (lv op)))else none
def qO (o:aM) (n:Int):Lq->Int->List Int->Bool
 | [],_,_=>true
 | .agg [.int _ op,.int _ N,.str _,.int _ to]::xs,i,H=>match bW o n H op N to i with | none=>false | some K=>qO o n xs (i+1) K
 | _::_,_,_=>false
def zk (o:aM) (n:Int):Lq->Int->List Int->List Int
 | .agg [.int _ op,.int _ N,.str _,.int _ to]::xs,i,H=>match bW o n H op N to i with | none=>H | some K=>zk o n xs (i+1) K
 | _,_,H=>H
theorem ic {o:aM} {n op N to:Int} {s:By} {xs:Lq} {i:Int} {H:List Int}:zk o n (.agg [.int .i64 op,.int .i64 N,.str s,.int .i64 to]::xs) i H=match bW o n H op N to i with | none=>H | some K=>zk o n xs (i+1) K:=rfl
theorem gN {o:aM} {n op N to:Int} {s:By} {xs:Lq} {i:Int} {H:List Int}:qO o n (.agg [.int .i64 op,.int .i64 N,.str s,.int .i64 to]::xs) i H=match bW o n H op N to i with | none=>false | some K=>qO o n xs (i+1) K:=rfl
theorem H8 {c:List Int×Bool} (h:c.2=false):cm c=none:=by unfold cm;rw[h];rfl
theorem GA {c:List Int×Bool} {K:List Int} (h:c.2=true) (hk:K=c.1):cm c=some K:=by unfold cm;rw[h,hk];rfl
theorem gk {H:List Int} {a h:Int}:(dR H a h).1.length=H.length:=by unfold dR;split;exact List.length_set;rfl
def D5 (o:aM) (xs:Lq):Bool:=qO o xs.length xs 0 ((H0 xs.length).set 0 0)
def D6 (o:aM) (xs:Lq):List Int:=zk o xs.length xs 0 ((H0 xs.length).set 0 0)
section
variable {o:aM} (ho:aQ cu bw o)
include ho
def iM (a0_0:By) (a0_1 e:Int) (j:Lq) (i:Int) (y:Lq):St:=⟨E 116 [(1,.sp [.str a0_0,.int .i64 a0_1,.int .i64 e,.lst j] 0),(4,.arr (15,0) (3,1) none true),(5,Ai i)],O 116 [(15,[some (.rows (3,1) y)])]⟩
def jf (a0_0:By) (a0_1 e:Int) (j y:Lq):St:=⟨E 116 [(1,.sp [.str a0_0,.int .i64 a0_1,.int .i64 e,.lst j] 0),(4,.arr (15,0) (3,1) none true)],O 116 [(15,[some (.rows (3,1) y)])]⟩
def ai (a0_0:By) (a0_1 e:Int) (j:Lq) (i:Int) (y:Lq):St:=⟨E 116 [(1,.sp [.str a0_0,.int .i64 a0_1,.int .i64 e,.lst j] 0),(4,.arr (15,0) (3,1) none true),(6,Ai i)],O 116 [(15,[some (.rows (3,1) y)])]⟩
def dc (y:Lq):St:=⟨E 116 [(2,.arr (15,0) (3,1) none true),(3,Ab false),(4,.arr (15,0) (3,1) none true)],O 116 [(15,[some (.rows (3,1) y)])]⟩
def gD (y:Lq):St:=⟨E 116 [(4,.arr (15,0) (3,1) none true)],O 116 [(15,[some (.rows (3,1) y)])]⟩
def dg (l1:Lq):St:=⟨E 116 [(2,.arr (15,0) (3,1) none true),(3,Ab false),(4,.arr (15,0) (3,1) none true)],O 116 [(15,[some (.rows (3,1) l1)])]⟩
def gF (l2:Lq):St:=⟨E 116 [(2,.arr (15,0) (3,1) none true),(3,Ab false),(4,.arr (15,0) (3,1) none true)],O 116 [(15,[some (.rows (3,1) l2)])]⟩
theorem QU (a0_0:By) (a0_1 e:Int) (j:Lq) (n:Int) (hb:n<=1048576):∀i:Int,0<=i->i<=(n:Int)->∀(y:Lq) (H:List Int),y=iL H->(H.length:Int)=n->o.loop 24400 (iM a0_0 a0_1 e j i y)=some (.exit 0,jf a0_0 a0_1 e j (iL (H.take i.toNat++List.replicate (n-i).toNat (-1)))):=by
 refine cM (P:=λi=>∀(y:Lq) (H:List Int),y=iL H->(H.length:Int)=n->o.loop 24400 (iM a0_0 a0_1 e j i y)=some (.exit 0,jf a0_0 a0_1 e j (iL (H.take i.toNat++List.replicate (n-i).toNat (-1))))) (n:Int) ?_;intro i J h1 M;try dsimp only at M |-
 intro y H E I;refine ho.fA λR Q=> ?_
 obtain ⟨n1,a0,V⟩:∃n1,n1=n/\o.len y=n1:=⟨_,rfl,by rw[E,wJ ho];exact I⟩
 conv=>lhs;cbv;rw[V];cbv
 rcases bn ho i n1 with ⟨O,g2⟩|⟨O,g2⟩<;>(conv=>lhs;rw[O];cbv)
 ·subst Q;rw[show (n-i).toNat=0 by omega,List.replicate_zero,List.append_nil,List.take_of_length_le (by omega),<-E];rfl
 obtain ⟨n2,S⟩:∃n1,o.cF y i=some (.int .i64 n1):=⟨_,by rw[E];exact pA ho I J (by omega)⟩
 obtain ⟨l1,U,e4⟩:∃l1,l1=iL (H.set i.toNat (-1))/\o.set y i (.int .i64 (-1))=l1:=⟨_,rfl,by rw[E];exact Bf ho J⟩
 obtain ⟨n3,e5,g5⟩:=bk ho i 1;conv=>lhs;rw[S];cbv;(try (rw[S];cbv));rw[e4];cbv;rw[e5];cbv
 subst Q;show o.loop 24400 (iM a0_0 a0_1 e j n3 l1)=_;rw[show n3=i+1 by omega,M (by omega) l1 _ U (by rw[List.length_set];exact I)];congr 4;rw[show (i+1).toNat=i.toNat+1 by omega,take_set (by omega),List.append_assoc];congr 1;rw[show (n-i).toNat=(n-(i.toNat+1:Nat)).toNat+1 by omega,List.replicate_succ,show ((i.toNat+1:Nat):Int)=i+1 by omega];rfl
theorem Sy (
           a0_0:By) (a0_1 j:Int) (e:Lq) (n1:Int) (hT:∀x∈e,KN n1 x) (hn:(e.length:Int)=n1) (hb:n1<=1048576):∀i:Int,0<=i->i<=(n1:Int)->∀(y:Lq) (H:List Int),y=iL H->(H.length:Int)=n1->(qO o n1 (e.drop i.toNat) i H=true->∃z,z=iL (zk o n1 (e.drop i.toNat) i H)/\o.loop 24401 (ai a0_0 a0_1 j e i y)=some (.exit 2,gD z))/\(qO o n1 (e.drop i.toNat) i H=false->∃z,o.loop 24401 (ai a0_0 a0_1 j e i y)=some (.ret,dc z)\/o.loop 24401 (ai a0_0 a0_1 j e i y)=some (.ret,dg z)\/o.loop 24401 (ai a0_0 a0_1 j e i y)=some (.ret,gF z)):=by
 refine cM (P:=λi=>∀(y:Lq) (H:List Int),y=iL H->(H.length:Int)=n1->(qO o n1 (e.drop i.toNat) i H=true->∃z,z=iL (zk o n1 (e.drop i.toNat) i H)/\o.loop 24401 (ai a0_0 a0_1 j e i y)=some (.exit 2,gD z))/\(qO o n1 (e.drop i.toNat) i H=false->∃z,o.loop 24401 (ai a0_0 a0_1 j e i y)=some (.ret,dc z)\/o.loop 24401 (ai a0_0 a0_1 j e i y)=some (.ret,dg z)\/o.loop 24401 (ai a0_0 a0_1 j e i y)=some (.ret,gF z))) (n1:Int) ?_;intro i h0 h1 ih;try dsimp only at ih |-
 intro y H hy ao;have e1:o.len y=n1:=by rw[hy,wJ ho];exact ao
 rcases bn ho i n1 with ⟨e2,g2⟩|⟨e2,g2⟩
 ·rw[bL hn (by omega)];exact ⟨λ_=>⟨_,hy,(ho.aB (by cbv;repeat (simp only[e1,e2];try cbv)):_=some (.exit 2,gD y))⟩,λh=>by cases h⟩
 obtain ⟨
         x,
            b8,a9,b9⟩:=aF hn h0 g2
 obtain ⟨n2,n3,s1,n4,rfl,bc⟩:=hT _ b9;have e3:=ay ho h0 b8;obtain ⟨n5,M⟩:=kx (tk n2 n3);obtain ⟨n6,e5⟩:=kx (lv n2);have e6:o.call 318 [.agg [Ai n2,Ai n3,As s1,Ai n4]] []=Ar (.tup [Ai n5,Ai n6]):=(KH ho n2 n3 s1 n4).trans (by rw[M,e5]);obtain ⟨n7,aa,e7⟩:∃n7,n7=gt H i/\o.cF y i=some (.int .i64 n7):=⟨_,rfl,by rw[hy];exact pA ho ao h0 g2⟩
 rcases bn ho n7 n5 with ⟨e8,g8⟩|⟨e8,g8⟩
 ·rcases fB ho n7 300 with ⟨e9,g9⟩|⟨e9,g9⟩
  ·rcases av ho n2 12 with ⟨S,ae⟩|⟨S,ae⟩
   ·rcases av ho n2 11 with ⟨J,a4⟩|⟨J,a4⟩
    ·rcases av ho n2 10 with ⟨I,ag⟩|⟨I,ag⟩
     ·rcases av ho n2 9 with ⟨O,ap⟩|⟨O,ap⟩
      ·obtain ⟨n8,V⟩:=kx (o.ar .add .i64 i 1);try have bb:n8=i+1:=V.symm.trans (dm ho (by omega) (by omega))
       rcases bn ho n8 n1 with ⟨a5,b5⟩|⟨a5,b5⟩
       ·have hs:bW o n1 H n2 n3 n4 i=none:=by
          unfold bW;rw[<-aa,M,if_neg (by omega),if_neg (by omega),if_neg ae,if_neg a4,if_neg ag,if_neg ap,if_neg (by omega)]
        rw[a9,gN,ic,hs];exact ⟨λh=>(by cases h),λ_=>⟨_,.inl (ho.aB (by cbv;repeat (simp only[e1,e2,e3,M,e5,e6,e7,e8,e9,S,J,I,O,V,a5];try cbv)):_=some (.ret,dc y))⟩⟩
       obtain ⟨n9,a6⟩:=kx (o.ar .sub .i64 n7 n5);try have bd:n9=n7-n5:=a6.symm.trans (gj ho (by omega) (by omega))
       obtain ⟨am,a3⟩:=kx (o.ar .add .i64 n9 n6);try have b6:am=n9+n6:=a3.symm.trans (dm ho (by omega) (by omega))
       obtain ⟨a7,a1⟩:∃K,K=(dR H n8 am).1:=⟨_,rfl⟩
       obtain ⟨l1,an⟩:∃l,l=iL a7:=⟨_,rfl⟩
       have aw:(a7.length:Int)=n1:=by rw[a1,gk];exact ao
       have U:=Bg ho H n1 ao n8 am (by omega) (by omega);rw[<-a1,<-an,<-hy]at U;cases a0:(dR H n8 am).2
       ·have a8:o.call 319 [.arr (1,0) (3,1) none true,Ai n8,Ai am] [some (.rows (3,1) y)]=some ⟨Ab false,[some (.rows (3,1) l1)],[]⟩:=by rw[a0]at U;exact U
        have hs:bW o n1 H n2 n3 n4 i=none:=by
          unfold bW;rw[<-aa,M,if_neg (by omega),if_neg (by omega),if_neg ae,if_neg a4,if_neg ag,if_neg ap,if_pos (by omega),show i+1=n8 by omega,a6,e5,a3,H8 a0]
        rw[a9,gN,ic,hs];exact ⟨λh=>(by cases h),λ_=>⟨_,.inr (.inl (ho.aB (by cbv;repeat (simp only[e1,e2,e3,M,e5,e6,e7,e8,e9,S,J,I,O,V,a5,a6,a3,a8];try cbv)):_=some (.ret,dg l1)))⟩⟩
       have a8:o.call 319 [.arr (1,0) (3,1) none true,Ai n8,Ai am] [some (.rows (3,1) y)]=some ⟨Ab true,[some (.rows (3,1) l1)],[]⟩:=by rw[a0]at U;exact U
       have hs:bW o n1 H n2 n3 n4 i=some a7:=by
         unfold bW;rw[<-aa,M,if_neg (by omega),if_neg (by omega),if_neg ae,if_neg a4,if_neg ag,if_neg ap,if_pos (by omega),show i+1=n8 by omega,a6,e5,a3,GA a0 a1]
       rw[a9,gN,ic,hs];have en:i+1=n8:=by omega
       rw[en]at ih |-;have ac:=ih (by omega) l1 a7 an aw;refine ⟨λh=> ?_,λh=> ?_⟩
       · obtain ⟨z,E,h⟩:=ac.1 h;exact ⟨z,E,(λz (E:o.loop 24401 (ai a0_0 a0_1 j e n8 l1)=some z)=>ho.aB (by rw[<-E];cbv;repeat (simp only[e1,e2,e3,M,e5,e6,e7,e8,e9,S,J,I,O,V,a5,a6,a3,a8];try cbv)):∀z,o.loop 24401 (ai a0_0 a0_1 j e n8 l1)=some z->o.loop 24401 (ai a0_0 a0_1 j e i y)=some z) _ h⟩
       obtain ⟨z,h⟩:=ac.2 h;refine ⟨z,?_⟩;rcases h with h | h | h
       · exact .inl ((λz (E:o.loop 24401 (ai a0_0 a0_1 j e n8 l1)=some z)=>ho.aB (by rw[<-E];cbv;repeat (simp only[e1,e2,e3,M,e5,e6,e7,e8,e9,S,J,I,O,V,a5,a6,a3,a8];try cbv)):∀z,o.loop 24401 (ai a0_0 a0_1 j e n8 l1)=some z->o.loop 24401 (ai a0_0 a0_1 j e i y)=some z) _ h)
       · exact .inr (.inl ((λz (E:o.loop 24401 (ai a0_0 a0_1 j e n8 l1)=some z)=>ho.aB (by rw[<-E];cbv;repeat (simp only[e1,e2,e3,M,e5,e6,e7,e8,e9,S,J,I,O,V,a5,a6,a3,a8];try cbv)):∀z,o.loop 24401 (ai a0_0 a0_1 j e n8 l1)=some z->o.loop 24401 (ai a0_0 a0_1 j e i y)=some z) _ h))
       exact .inr (.inr ((λz (E:o.loop 24401 (ai a0_0 a0_1 j e n8 l1)=some z)=>ho.aB (by rw[<-E];cbv;repeat (simp only[e1,e2,e3,M,e5,e6,e7,e8,e9,S,J,I,O,V,a5,a6,a3,a8];try cbv)):∀z,o.loop 24401 (ai a0_0 a0_1 j e n8 l1)=some z->o.loop 24401 (ai a0_0 a0_1 j e i y)=some z) _ h))
      obtain ⟨a7,a1⟩:∃K,K=(dR H n4 n7).1:=⟨_,rfl⟩
      obtain ⟨l1,an⟩:∃l,l=iL a7:=⟨_,rfl⟩
      have aw:(a7.length:Int)=n1:=by rw[a1,gk];exact ao
      have U:=Bg ho H n1 ao n4 n7 (by omega) (by omega);rw[<-a1,<-an,<-hy]at U;cases a0:(dR H n4 n7).2
      ·have V:o.call 319 [.arr (1,0) (3,1) none true,Ai n4,Ai n7] [some (.rows (3,1) y)]=some ⟨Ab false,[some (.rows (3,1) l1)],[]⟩:=by rw[a0]at U;exact U
       have hs:bW o n1 H n2 n3 n4 i=none:=by
         unfold bW;rw[<-aa,M,if_neg (by omega),if_neg (by omega),if_neg ae,if_neg a4,if_neg ag,if_pos ap,H8 a0,Option.bind_none]
       rw[a9,gN,ic,hs];exact ⟨λh=>(by cases h),λ_=>⟨_,.inr (.inl (ho.aB (by cbv;repeat (simp only[e1,e2,e3,M,e5,e6,e7,e8,e9,S,J,I,O,V];try cbv)):_=some (.ret,dg l1)))⟩⟩
      have V:o.call 319 [.arr (1,0) (3,1) none true,Ai n4,Ai n7] [some (.rows (3,1) y)]=some ⟨Ab true,[some (.rows (3,1) l1)],[]⟩:=by rw[a0]at U;exact U
      obtain ⟨n8,a5⟩:=kx (o.ar .add .i64 i 1);try have b5:n8=i+1:=a5.symm.trans (dm ho (by omega) (by omega))
      obtain ⟨n9,be,a6⟩:∃n9,n9=n1/\o.len l1=n9:=⟨_,rfl,by rw[an,wJ ho];exact aw⟩
      rcases bn ho n8 n9 with ⟨a3,b6⟩|⟨a3,b6⟩
      ·have hs:bW o n1 H n2 n3 n4 i=none:=by
         unfold bW;rw[<-aa,M,if_neg (by omega),if_neg (by omega),if_neg ae,if_neg a4,if_neg ag,if_pos ap,GA a0 a1,Option.bind_some,if_neg (by omega)]
       rw[a9,gN,ic,hs];exact ⟨λh=>(by cases h),λ_=>⟨_,.inr (.inl (ho.aB (by cbv;repeat (simp only[e1,e2,e3,M,e5,e6,e7,e8,e9,S,J,I,O,V,a5,a6,a3];try cbv)):_=some (.ret,dg l1)))⟩⟩
      obtain ⟨am,a8⟩:=kx (o.ar .sub .i64 n7 1);try have bi:am=n7-1:=a8.symm.trans (gj ho (by omega) (by omega))
      obtain ⟨b3,b2⟩:∃K,K=(dR a7 n8 am).1:=⟨_,rfl⟩
      obtain ⟨l2,b4⟩:∃l,l=iL b3:=⟨_,rfl⟩
      have b7:(b3.length:Int)=n1:=by rw[b2,gk];exact aw
      have az:=Bg ho a7 n1 aw n8 am (by omega) (by omega);rw[<-b2,<-b4,<-an]at az;cases b1:(dR a7 n8 am).2
      ·have b0:o.call 319 [.arr (1,0) (3,1) none true,Ai n8,Ai am] [some (.rows (3,1) l1)]=some ⟨Ab false,[some (.rows (3,1) l2)],[]⟩:=by rw[b1]at az;exact az
       have hs:bW o n1 H n2 n3 n4 i=none:=by
         unfold bW;rw[<-aa,M,if_neg (by omega),if_neg (by omega),if_neg ae,if_neg a4,if_neg ag,if_pos ap,GA a0 a1,Option.bind_some,if_pos (by omega),show i+1=n8 by omega,a8,H8 b1]
       rw[a9,gN,ic,hs];exact ⟨λh=>(by cases h),λ_=>⟨_,.inr (.inr (ho.aB (by cbv;repeat (simp only[e1,e2,e3,M,e5,e6,e7,e8,e9,S,J,I,O,V,a5,a6,a3,a8,b0];try cbv)):_=some (.ret,gF l2)))⟩⟩
      have b0:o.call 319 [.arr (1,0) (3,1) none true,Ai n8,Ai am] [some (.rows (3,1) l1)]=some ⟨Ab true,[some (.rows (3,1) l2)],[]⟩:=by rw[b1]at az;exact az
      have hs:bW o n1 H n2 n3 n4 i=some b3:=by
        unfold bW;rw[<-aa,M,if_neg (by omega),if_neg (by omega),if_neg ae,if_neg a4,if_neg ag,if_pos ap,GA a0 a1,Option.bind_some,if_pos (by omega),show i+1=n8 by omega,a8,GA b1 b2]
      rw[a9,gN,ic,hs];have en:i+1=n8:=by omega
      rw[en]at ih |-;have ac:=ih (by omega) l2 b3 b4 b7;refine ⟨λh=> ?_,λh=> ?_⟩
      · obtain ⟨z,E,h⟩:=ac.1 h;exact ⟨z,E,(λz (E:o.loop 24401 (ai a0_0 a0_1 j e n8 l2)=some z)=>ho.aB (by rw[<-E];cbv;repeat (simp only[e1,e2,e3,M,e5,e6,e7,e8,e9,S,J,I,O,V,a5,a6,a3,a8,b0];try cbv)):∀z,o.loop 24401 (ai a0_0 a0_1 j e n8 l2)=some z->o.loop 24401 (ai a0_0 a0_1 j e i y)=some z) _ h⟩
      obtain ⟨z,h⟩:=ac.2 h;refine ⟨z,?_⟩;rcases h with h | h | h
      · exact .inl ((λz (E:o.loop 24401 (ai a0_0 a0_1 j e n8 l2)=some z)=>ho.aB (by rw[<-E];cbv;repeat (simp only[e1,e2,e3,M,e5,e6,e7,e8,e9,S,J,I,O,V,a5,a6,a3,a8,b0];try cbv)):∀z,o.loop 24401 (ai a0_0 a0_1 j e n8 l2)=some z->o.loop 24401 (ai a0_0 a0_1 j e i y)=some z) _ h)
      · exact .inr (.inl ((λz (E:o.loop 24401 (ai a0_0 a0_1 j e n8 l2)=some z)=>ho.aB (by rw[<-E];cbv;repeat (simp only[e1,e2,e3,M,e5,e6,e7,e8,e9,S,J,I,O,V,a5,a6,a3,a8,b0];try cbv)):∀z,o.loop 24401 (ai a0_0 a0_1 j e n8 l2)=some z->o.loop 24401 (ai a0_0 a0_1 j e i y)=some z) _ h))
      exact .inr (.inr ((λz (E:o.loop 24401 (ai a0_0 a0_1 j e n8 l2)=some z)=>ho.aB (by rw[<-E];cbv;repeat (simp only[e1,e2,e3,M,e5,e6,e7,e8,e9,S,J,I,O,V,a5,a6,a3,a8,b0];try cbv)):∀z,o.loop 24401 (ai a0_0 a0_1 j e n8 l2)=some z->o.loop 24401 (ai a0_0 a0_1 j e i y)=some z) _ h))
     obtain ⟨a7,a1⟩:∃K,K=(dR H n4 n7).1:=⟨_,rfl⟩
     obtain ⟨l1,an⟩:∃l,l=iL a7:=⟨_,rfl⟩
     have aw:(a7.length:Int)=n1:=by rw[a1,gk];exact ao
     have U:=Bg ho H n1 ao n4 n7 (by omega) (by omega);rw[<-a1,<-an,<-hy]at U;cases a0:(dR H n4 n7).2
     ·have O:o.call 319 [.arr (1,0) (3,1) none true,Ai n4,Ai n7] [some (.rows (3,1) y)]=some ⟨Ab false,[some (.rows (3,1) l1)],[]⟩:=by rw[a0]at U;exact U
      have hs:bW o n1 H n2 n3 n4 i=none:=by
        unfold bW;rw[<-aa,M,if_neg (by omega),if_neg (by omega),if_neg ae,if_neg a4,if_pos ag,H8 a0]
      rw[a9,gN,ic,hs];exact ⟨λh=>(by cases h),λ_=>⟨_,.inr (.inl (ho.aB (by cbv;repeat (simp only[e1,e2,e3,M,e5,e6,e7,e8,e9,S,J,I,O];try cbv)):_=some (.ret,dg l1)))⟩⟩
     have O:o.call 319 [.arr (1,0) (3,1) none true,Ai n4,Ai n7] [some (.rows (3,1) y)]=some ⟨Ab true,[some (.rows (3,1) l1)],[]⟩:=by rw[a0]at U;exact U
     obtain ⟨n8,V⟩:=kx (o.ar .add .i64 i 1);try have bb:n8=i+1:=V.symm.trans (dm ho (by omega) (by omega))
     have hs:bW o n1 H n2 n3 n4 i=some a7:=by
       unfold bW;rw[<-aa,M,if_neg (by omega),if_neg (by omega),if_neg ae,if_neg a4,if_pos ag,GA a0 a1]
     rw[a9,gN,ic,hs];have en:i+1=n8:=by omega
     rw[en]at ih |-;have ac:=ih (by omega) l1 a7 an aw;refine ⟨λh=> ?_,λh=> ?_⟩
     · obtain ⟨z,E,h⟩:=ac.1 h;exact ⟨z,E,(λz (E:o.loop 24401 (ai a0_0 a0_1 j e n8 l1)=some z)=>ho.aB (by rw[<-E];cbv;repeat (simp only[e1,e2,e3,M,e5,e6,e7,e8,e9,S,J,I,O,V];try cbv)):∀z,o.loop 24401 (ai a0_0 a0_1 j e n8 l1)=some z->o.loop 24401 (ai a0_0 a0_1 j e i y)=some z) _ h⟩
     obtain ⟨z,h⟩:=ac.2 h;refine ⟨z,?_⟩;rcases h with h | h | h
     · exact .inl ((λz (E:o.loop 24401 (ai a0_0 a0_1 j e n8 l1)=some z)=>ho.aB (by rw[<-E];cbv;repeat (simp only[e1,e2,e3,M,e5,e6,e7,e8,e9,S,J,I,O,V];try cbv)):∀z,o.loop 24401 (ai a0_0 a0_1 j e n8 l1)=some z->o.loop 24401 (ai a0_0 a0_1 j e i y)=some z) _ h)
     · exact .inr (.inl ((λz (E:o.loop 24401 (ai a0_0 a0_1 j e n8 l1)=some z)=>ho.aB (by rw[<-E];cbv;repeat (simp only[e1,e2,e3,M,e5,e6,e7,e8,e9,S,J,I,O,V];try cbv)):∀z,o.loop 24401 (ai a0_0 a0_1 j e n8 l1)=some z->o.loop 24401 (ai a0_0 a0_1 j e i y)=some z) _ h))
     exact .inr (.inr ((λz (E:o.loop 24401 (ai a0_0 a0_1 j e n8 l1)=some z)=>ho.aB (by rw[<-E];cbv;repeat (simp only[e1,e2,e3,M,e5,e6,e7,e8,e9,S,J,I,O,V];try cbv)):∀z,o.loop 24401 (ai a0_0 a0_1 j e n8 l1)=some z->o.loop 24401 (ai a0_0 a0_1 j e i y)=some z) _ h))
    obtain ⟨n8,I⟩:=kx (o.ar .add .i64 i 1);try have ag:n8=i+1:=I.symm.trans (dm ho (by omega) (by omega))
    have hs:bW o n1 H n2 n3 n4 i=some H:=by
      unfold bW;rw[<-aa,M,if_neg (by omega),if_neg (by omega),if_neg ae,if_pos a4]
    rw[a9,gN,ic,hs];have en:i+1=n8:=by omega
    rw[en]at ih |-;have ac:=ih (by omega) y H hy ao;refine ⟨λh=> ?_,λh=> ?_⟩
    · obtain ⟨z,E,h⟩:=ac.1 h;exact ⟨z,E,(λz (E:o.loop 24401 (ai a0_0 a0_1 j e n8 y)=some z)=>ho.aB (by rw[<-E];cbv;repeat (simp only[e1,e2,e3,M,e5,e6,e7,e8,e9,S,J,I];try cbv)):∀z,o.loop 24401 (ai a0_0 a0_1 j e n8 y)=some z->o.loop 24401 (ai a0_0 a0_1 j e i y)=some z) _ h⟩
    obtain ⟨z,h⟩:=ac.2 h;refine ⟨z,?_⟩;rcases h with h | h | h
    · exact .inl ((λz (E:o.loop 24401 (ai a0_0 a0_1 j e n8 y)=some z)=>ho.aB (by rw[<-E];cbv;repeat (simp only[e1,e2,e3,M,e5,e6,e7,e8,e9,S,J,I];try cbv)):∀z,o.loop 24401 (ai a0_0 a0_1 j e n8 y)=some z->o.loop 24401 (ai a0_0 a0_1 j e i y)=some z) _ h)
    · exact .inr (.inl ((λz (E:o.loop 24401 (ai a0_0 a0_1 j e n8 y)=some z)=>ho.aB (by rw[<-E];cbv;repeat (simp only[e1,e2,e3,M,e5,e6,e7,e8,e9,S,J,I];try cbv)):∀z,o.loop 24401 (ai a0_0 a0_1 j e n8 y)=some z->o.loop 24401 (ai a0_0 a0_1 j e i y)=some z) _ h))
    exact .inr (.inr ((λz (E:o.loop 24401 (ai a0_0 a0_1 j e n8 y)=some z)=>ho.aB (by rw[<-E];cbv;repeat (simp only[e1,e2,e3,M,e5,e6,e7,e8,e9,S,J,I];try cbv)):∀z,o.loop 24401 (ai a0_0 a0_1 j e n8 y)=some z->o.loop 24401 (ai a0_0 a0_1 j e i y)=some z) _ h))
   rcases cD ho n7 1 with ⟨J,a4⟩|⟨J,a4⟩
   ·rcases av ho n2 11 with ⟨I,ag⟩|⟨I,ag⟩
    ·obtain ⟨n8,O⟩:=kx (o.ar .add .i64 i 1);try have ap:n8=i+1:=O.symm.trans (dm ho (by omega) (by omega))
     have hs:bW o n1 H n2 n3 n4 i=some H:=by
       unfold bW;rw[<-aa,M,if_neg (by omega),if_neg (by omega),if_pos ae,if_pos a4]
     rw[a9,gN,ic,hs];have en:i+1=n8:=by omega
     rw[en]at ih |-;have ac:=ih (by omega) y H hy ao;refine ⟨λh=> ?_,λh=> ?_⟩
     · obtain ⟨z,E,h⟩:=ac.1 h;exact ⟨z,E,(λz (E:o.loop 24401 (ai a0_0 a0_1 j e n8 y)=some z)=>ho.aB (by rw[<-E];cbv;repeat (simp only[e1,e2,e3,M,e5,e6,e7,e8,e9,S,J,I,O];try cbv)):∀z,o.loop 24401 (ai a0_0 a0_1 j e n8 y)=some z->o.loop 24401 (ai a0_0 a0_1 j e i y)=some z) _ h⟩
     obtain ⟨z,h⟩:=ac.2 h;refine ⟨z,?_⟩;rcases h with h | h | h
     · exact .inl ((λz (E:o.loop 24401 (ai a0_0 a0_1 j e n8 y)=some z)=>ho.aB (by rw[<-E];cbv;repeat (simp only[e1,e2,e3,M,e5,e6,e7,e8,e9,S,J,I,O];try cbv)):∀z,o.loop 24401 (ai a0_0 a0_1 j e n8 y)=some z->o.loop 24401 (ai a0_0 a0_1 j e i y)=some z) _ h)
     · exact .inr (.inl ((λz (E:o.loop 24401 (ai a0_0 a0_1 j e n8 y)=some z)=>ho.aB (by rw[<-E];cbv;repeat (simp only[e1,e2,e3,M,e5,e6,e7,e8,e9,S,J,I,O];try cbv)):∀z,o.loop 24401 (ai a0_0 a0_1 j e n8 y)=some z->o.loop 24401 (ai a0_0 a0_1 j e i y)=some z) _ h))
     exact .inr (.inr ((λz (E:o.loop 24401 (ai a0_0 a0_1 j e n8 y)=some z)=>ho.aB (by rw[<-E];cbv;repeat (simp only[e1,e2,e3,M,e5,e6,e7,e8,e9,S,J,I,O];try cbv)):∀z,o.loop 24401 (ai a0_0 a0_1 j e n8 y)=some z->o.loop 24401 (ai a0_0 a0_1 j e i y)=some z) _ h))
    obtain ⟨n8,O⟩:=kx (o.ar .add .i64 i 1);try have ap:n8=i+1:=O.symm.trans (dm ho (by omega) (by omega))
    omega
   have hs:bW o n1 H n2 n3 n4 i=none:=by
     unfold bW;rw[<-aa,M,if_neg (by omega),if_neg (by omega),if_pos ae,if_neg a4]
   rw[a9,gN,ic,hs];exact ⟨λh=>(by cases h),λ_=>⟨_,.inl (ho.aB (by cbv;repeat (simp only[e1,e2,e3,M,e5,e6,e7,e8,e9,S,J];try cbv)):_=some (.ret,dc y))⟩⟩
  have hs:bW o n1 H n2 n3 n4 i=none:=by
    unfold bW;rw[<-aa,M,if_neg (by omega),if_pos g9]
  rw[a9,gN,ic,hs];exact ⟨λh=>(by cases h),λ_=>⟨_,.inl (ho.aB (by cbv;repeat (simp only[e1,e2,e3,M,e5,e6,e7,e8,e9];try cbv)):_=some (.ret,dc y))⟩⟩
 have hs:bW o n1 H n2 n3 n4 i=none:=by
   unfold bW;rw[<-aa,M,if_pos g8]
 rw[a9,gN,ic,hs];exact ⟨λh=>(by cases h),λ_=>⟨_,.inl (ho.aB (by cbv;repeat (simp only[e1,e2,e3,M,e5,e6,e7,e8];try cbv)):_=some (.ret,dc y))⟩⟩
theorem GD (a0_0:By) (a0_1 j:Int) (e:Lq) (hT:∀x∈e,KN e.length x) (h1:1<=(e.length:Int)) (hb:(e.length:Int)<=1048576):∃l,(D5 o e=true->l=iL (D6 o e))/\o.call 244 [.agg [.d (.str a0_0),.d (.int .i64 a0_1),.d (.int .i64 j),.d (.lst e)]] []=some ⟨.tup [.d (.lst l),.d (.bool (D5 o e))],[],[]⟩:=by
 obtain ⟨n1,M,g1⟩:=aC ho e;have O:o.cmp .eql n1 n1=true:=cX ho rfl;have S:o.fP 8 n1=true:=by rw[ho.fP];exact decide_eq_true (by omega)
 obtain ⟨l1,a0,U⟩:∃l1,l1=iL (List.replicate n1.toNat 0)/\o.rm n1 (.int .i64 0)=l1:=⟨_,rfl,by rw[ho.rm];unfold iL;rw[List.map_replicate]⟩
 obtain ⟨l2,a1,J⟩:∃l2,l2=iL ((H0 n1).set 0 0)/\o.loop 24400 (iM a0_0 a0_1 j e 1 l1)=some (.exit 0,jf a0_0 a0_1 j e l2):=by
   refine ⟨_,rfl,?_⟩;rw[QU ho a0_0 a0_1 j e n1 (by omega) 1 (by omega) (by omega) l1 _ a0 (by rw[List.length_replicate];omega)];congr 4;obtain ⟨k,hk⟩:∃k:Nat,n1.toNat=k+1:=⟨n1.toNat-1,by omega⟩
   unfold H0;rw[hk,show (1:Int).toNat=1 from rfl,show (n1-1).toNat=k by omega,List.replicate_succ,List.replicate_succ];rfl
 have V:=Sy ho a0_0 a0_1 j e n1 (by rw[g1];exact hT) g1.symm (by omega) 0 (Int.le_refl _) (by omega) l2 _ a1 (by rw[List.length_set];exact wL (by omega));rw[show (0:Int).toNat=0 from rfl,List.drop_zero]at V;have a3:(D5 o e=false/\∃z,o.loop 24401 (ai a0_0 a0_1 j e 0 l2)=some (.ret,dc z))\/(D5 o e=true/\∃z,z=iL (D6 o e)/\o.loop 24401 (ai a0_0 a0_1 j e 0 l2)=some (.exit 2,gD z))\/(D5 o e=false/\∃z,o.loop 24401 (ai a0_0 a0_1 j e 0 l2)=some (.ret,dg z))\/(D5 o e=false/\∃z,o.loop 24401 (ai a0_0 a0_1 j e 0 l2)=some (.ret,gF z)):=by
   have E:D5 o e=qO o n1 e 0 ((H0 n1).set 0 0):=by rw[g1];rfl
   have a4:D6 o e=zk o n1 e 0 ((H0 n1).set 0 0):=by rw[g1];rfl
   rw[E,a4];cases Q:qO o n1 e 0 ((H0 n1).set 0 0)
   ·obtain ⟨z,h⟩:=V.2 Q;rcases h with h | h | h
    ·exact .inl ⟨rfl,z,h⟩
    ·exact .inr (.inr (.inl ⟨rfl,z,h⟩))
    exact .inr (.inr (.inr ⟨rfl,z,h⟩))
   exact .inr (.inl ⟨rfl,V.1 Q⟩)
 rcases a3 with ⟨E,l3,I⟩ | ⟨E,l3,hl3,I⟩ | ⟨E,l3,I⟩ | ⟨E,l3,I⟩
 ·exact ⟨_,λh=>(by cases E.symm.trans h),by rw[E];exact (ho.aj (by cbv at J;cbv at I;cbv;repeat (simp only[M,O,S,U,J,I];try cbv)):o.call 244 [.agg [.d (.str a0_0),.d (.int .i64 a0_1),.d (.int .i64 j),.d (.lst e)]] []=some ⟨.tup [.d (.lst l3),.d (.bool false)],[],[]⟩)⟩
 ·exact ⟨_,λ_=>hl3,by rw[E];exact (ho.aj (by cbv at J;cbv at I;cbv;repeat (simp only[M,O,S,U,J,I];try cbv)):o.call 244 [.agg [.d (.str a0_0),.d (.int .i64 a0_1),.d (.int .i64 j),.d (.lst e)]] []=some ⟨.tup [.d (.lst l3),.d (.bool true)],[],[]⟩)⟩
 ·exact ⟨_,λh=>(by cases E.symm.trans h),by rw[E];exact (ho.aj (by cbv at J;cbv at I;cbv;repeat (simp only[M,O,S,U,J,I];try cbv)):o.call 244 [.agg [.d (.str a0_0),.d (.int .i64 a0_1),.d (.int .i64 j),.d (.lst e)]] []=some ⟨.tup [.d (.lst l3),.d (.bool false)],[],[]⟩)⟩
 exact ⟨_,λh=>(by cases E.symm.trans h),by rw[E];exact (ho.aj (by cbv at J;cbv at I;cbv;repeat (simp only[M,O,S,U,J,I];try cbv)):o.call 244 [.agg [.d (.str a0_0),.d (.int .i64 a0_1),.d (.int .i64 j),.d (.lst e)]] []=some ⟨.tup [.d (.lst l3),.d (.bool false)],[],[]⟩)⟩
end
end T2
