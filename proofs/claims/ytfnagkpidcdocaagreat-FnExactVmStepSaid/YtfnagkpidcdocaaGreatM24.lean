import Derived.Test.YtfnagkpidcdocaaGreatM17
set_option linter.all false
namespace T2
open Go Go.Vi
set_option maxRecDepth 100000
set_option maxHeartbeats 4000000
def iL (H:List Int):List D:=H.map (D.int .i64)
theorem KY (H:List Int):(iL H).length=H.length:=List.length_map ..
theorem KZ {H:List Int} {i h:Int} (hi:H[i.toNat]? =some h):(iL H)[i.toNat]? =some (.int .i64 h):=by unfold iL;rw[List.getElem?_map,hi];rfl
theorem K4 {H:List Int} {k:Nat} {h:Int}:(iL H).set k (.int .i64 h)=iL (H.set k h):=by unfold iL;rw[List.map_set]
def gt (H:List Int) (i:Int):Int:=H.getD i.toNat 0
theorem K5 {H:List Int} {i n:Int} (hn:(H.length:Int)=n) (h0:0<=i) (h:i<n):H[i.toNat]? =some (gt H i):=by
 unfold gt;have:i.toNat<H.length:=by omega
 rw[List.getD_eq_getElem?_getD,bg this];rfl
theorem kG {H:List Int} {i j n h:Int} (hn:(H.length:Int)=n) (h0:0<=i) (h1:i<n) (g0:0<=j):gt (H.set i.toNat h) j=if j=i then h else gt H j:=by
 unfold gt;rw[List.getD_eq_getElem?_getD,List.getD_eq_getElem?_getD,List.getElem?_set];by_cases e:j=i
 ·subst e;rw[if_pos rfl,if_pos rfl,if_pos (by omega)];rfl
 ·rw[if_neg (by omega),if_neg e]
def tk (op n:Int):Int:=if op=4\/op=5\/op=6\/op=8 then n else if op=7 then 2 else if op=9\/op=12 then 1 else 0
def lv (op:Int):Int:=if op=1\/op=2\/op=3\/op=4\/op=5\/op=6\/op=7\/op=8 then 1 else 0
def dw (H:List Int) (a h:Int):List Int×Bool:=if gt H a= -1 then (H.set a.toNat h,true)else (H,gt H a==h)
def bh (n:Int) (H:List Int) (a h:Int):Option (List Int):=if n<=a then none else if 300<h then none else if gt H a<0 then some (H.set a.toNat h)else if gt H a=h then some H else none
section
variable {o:aJ} (ho:aR cF bB o)
include ho
theorem jI {H:List Int} {i n:Int} (hn:(H.length:Int)=n) (h0:0<=i) (h:i<n):o.dD (iL H) i=some (.int .i64 (gt H i)):=ak ho h0 (KZ (K5 hn h0 h))
theorem yq {H:List Int} {i h:Int} (h0:0<=i):o.set (iL H) i (.int .i64 h)=iL (H.set i.toNat h):=by
 rw[ho.set];exact K4
theorem uU {H:List Int}:o.len (iL H)=H.length:=by rw[ho.len,KY]
theorem Hg (a0_0 a0_1:Int) (a0_2:ByteArray) (a0_3:Int):o.call 318 [.agg [Ai a0_0,Ai a0_1,As a0_2,Ai a0_3]] []=Ar (.tup [Ai (tk a0_0 a0_1),Ai (lv a0_0)]):=by
 refine ho.aC λR Q=> ?_
 conv=>lhs;cbv
 rcases aj ho a0_0 1 with ⟨e1,g1⟩|⟨e1,g1⟩<;>(conv=>lhs;rw[e1];cbv)
 ·rcases aj ho a0_0 2 with ⟨e2,g2⟩|⟨e2,g2⟩<;>(conv=>lhs;rw[e2];cbv)
  ·rcases aj ho a0_0 3 with ⟨e3,g3⟩|⟨e3,g3⟩<;>(conv=>lhs;rw[e3];cbv)
   ·rcases aj ho a0_0 4 with ⟨e4,g4⟩|⟨e4,g4⟩<;>(conv=>lhs;rw[e4];cbv)
    ·rcases aj ho a0_0 5 with ⟨e5,g5⟩|⟨e5,g5⟩<;>(conv=>lhs;rw[e5];cbv)
     ·rcases aj ho a0_0 6 with ⟨e6,g6⟩|⟨e6,g6⟩<;>(conv=>lhs;rw[e6];cbv)
      ·rcases aj ho a0_0 8 with ⟨e7,g7⟩|⟨e7,g7⟩<;>(conv=>lhs;rw[e7];cbv)
       ·rcases aj ho a0_0 7 with ⟨e8,g8⟩|⟨e8,g8⟩<;>(conv=>lhs;rw[e8];cbv)
        ·rcases aj ho a0_0 9 with ⟨e9,g9⟩|⟨e9,g9⟩<;>(conv=>lhs;rw[e9];cbv)
         ·rcases aj ho a0_0 12 with ⟨e10,g10⟩|⟨e10,g10⟩<;>(conv=>lhs;rw[e10];cbv)
          all_goals
           subst Q;exact (Eq.refl _).trans (by simp_all [tk,lv])
         ·subst Q;exact (Eq.refl _).trans (by simp_all [tk,lv])
        ·subst Q;exact (Eq.refl _).trans (by simp_all [tk,lv])
       ·subst Q;exact (Eq.refl _).trans (by simp_all [tk,lv])
      ·subst Q;exact (Eq.refl _).trans (by simp_all [tk,lv])
     ·subst Q;exact (Eq.refl _).trans (by simp_all [tk,lv])
    ·subst Q;exact (Eq.refl _).trans (by simp_all [tk,lv])
   ·subst Q;exact (Eq.refl _).trans (by simp_all [tk,lv])
  ·subst Q;exact (Eq.refl _).trans (by simp_all [tk,lv])
 ·subst Q;exact (Eq.refl _).trans (by simp_all [tk,lv])
theorem Hh (a0_0 a0_1:Int) (a0_2:ByteArray) (a0_3:Int):o.call 350 [.agg [Ai a0_0,Ai a0_1,As a0_2,Ai a0_3]] []=Ar (Ai (tk a0_0 a0_1)):=by
 refine ho.aC λR Q=> ?_
 conv=>lhs;cbv
 rcases aj ho a0_0 4 with ⟨e1,g1⟩|⟨e1,g1⟩<;>(conv=>lhs;rw[e1];cbv)
 ·rcases aj ho a0_0 5 with ⟨e2,g2⟩|⟨e2,g2⟩<;>(conv=>lhs;rw[e2];cbv)
  ·rcases aj ho a0_0 6 with ⟨e3,g3⟩|⟨e3,g3⟩<;>(conv=>lhs;rw[e3];cbv)
   ·rcases aj ho a0_0 8 with ⟨e4,g4⟩|⟨e4,g4⟩<;>(conv=>lhs;rw[e4];cbv)
    ·rcases aj ho a0_0 7 with ⟨e5,g5⟩|⟨e5,g5⟩<;>(conv=>lhs;rw[e5];cbv)
     ·rcases aj ho a0_0 9 with ⟨e6,g6⟩|⟨e6,g6⟩<;>(conv=>lhs;rw[e6];cbv)
      ·rcases aj ho a0_0 12 with ⟨e7,g7⟩|⟨e7,g7⟩<;>(conv=>lhs;rw[e7];cbv)
       all_goals
        subst Q;exact (Eq.refl _).trans (by simp_all [tk,lv])
      ·subst Q;exact (Eq.refl _).trans (by simp_all [tk,lv])
     ·subst Q;exact (Eq.refl _).trans (by simp_all [tk,lv])
    ·subst Q;exact (Eq.refl _).trans (by simp_all [tk,lv])
   ·subst Q;exact (Eq.refl _).trans (by simp_all [tk,lv])
  ·subst Q;exact (Eq.refl _).trans (by simp_all [tk,lv])
 ·subst Q;exact (Eq.refl _).trans (by simp_all [tk,lv])
theorem Hi (H:List Int) (y:List D) (hy:y=iL H) (n:Int) (hn:(H.length:Int)=n) (a h:Int) (h0:0<=a) (h1:a<n):o.call 319 [.arr (1,0) (3,1) none true,Ai a,Ai h] [some (.rows (3,1) y)]=some ⟨Ab (dw H a h).2,[some (.rows (3,1) (iL (dw H a h).1))],[]⟩:=by
 refine ho.aC λR Q=> ?_
 obtain ⟨n1,hn1,e1⟩:∃v,v=gt H a/\o.dD y a=some (.int .i64 v):=⟨_,rfl,by rw[hy];exact jI ho hn h0 h1⟩
 conv=>lhs;cbv;rw[e1];cbv;(try (rw[e1];cbv))
 rcases aj ho n1 (-1)with ⟨e2,g2⟩|⟨e2,g2⟩<;>(conv=>lhs;rw[e2];cbv)
 ·conv=>lhs;(try (rw[e1];cbv));(try (rw[e1];cbv))
  rcases aj ho n1 h with ⟨e3,g3⟩|⟨e3,g3⟩<;>(conv=>lhs;rw[e3];cbv)
  all_goals
   subst Q;unfold dw;first | (rw[if_pos (by omega)];simp_all;done) | (rw[if_neg (by omega)];simp_all;done) | omega
 ·obtain ⟨l1,hl1,e3⟩:∃l,l=iL (H.set a.toNat h)/\o.set y a (.int .i64 h)=l:=⟨_,rfl,by rw[hy];exact yq ho h0⟩
  obtain ⟨n2,hn2,e4⟩:∃v,v=h/\o.dD l1 a=some (.int .i64 v):=⟨_,rfl,by rw[hl1];exact (jI ho (by rw[List.length_set];exact hn) h0 h1).trans (by rw[kG hn h0 h1 h0,if_pos rfl])⟩
  conv=>lhs;(try (rw[e1];cbv));(try (rw[e1];cbv));rw[e3];cbv;rw[e4];cbv;(try (rw[e4];cbv))
  rcases aj ho n2 h with ⟨e5,g5⟩|⟨e5,g5⟩<;>(conv=>lhs;rw[e5];cbv)
  all_goals
   subst Q;unfold dw;first | (rw[if_pos (by omega)];simp_all;done) | (rw[if_neg (by omega)];simp_all;done) | omega
theorem Hj (H:List Int) (y:List D) (hy:y=iL H) (n:Int) (hn:(H.length:Int)=n) (a h:Int) (h0:0<=a) (bad:Bool):o.call 286 [.ptr (1,0) 0,Ai a,Ai h] [some (.box [.arr (1,1) (3,1) none true,Ab bad]),some (.rows (3,1) y)]=some ⟨.tup [],[some (.box [.arr (1,1) (3,1) none true,Ab ((bh n H a h).isNone || bad)]),some (.rows (3,1) (iL ((bh n H a h).getD H)))],[]⟩:=by
 refine ho.aC λR Q=> ?_
 obtain ⟨n1,hn1,e1⟩:∃v,v=n/\o.len y=v:=⟨_,rfl,by rw[hy];exact (uU ho).trans hn⟩
 conv=>lhs;cbv;rw[e1];cbv
 rcases je ho a n1 with ⟨e2,g2⟩|⟨e2,g2⟩<;>(conv=>lhs;rw[e2];cbv)
 ·rcases fR ho h 300 with ⟨e3,g3⟩|⟨e3,g3⟩<;>(conv=>lhs;rw[e3];cbv)
  ·obtain ⟨n2,hn2,e4⟩:∃v,v=gt H a/\o.dD y a=some (.int .i64 v):=⟨_,rfl,by rw[hy];exact jI ho hn h0 (by omega)⟩
   conv=>lhs;rw[e4];cbv;(try (rw[e4];cbv))
   rcases aZ ho n2 0 with ⟨e5,g5⟩|⟨e5,g5⟩<;>(conv=>lhs;rw[e5];cbv)
   ·conv=>lhs;(try (rw[e4];cbv));(try (rw[e4];cbv))
    rcases cE ho n2 h with ⟨e6,g6⟩|⟨e6,g6⟩<;>(conv=>lhs;rw[e6];cbv)
    ·subst Q;rw[hy];unfold bh;rw[if_neg (by omega),if_neg (by omega),if_neg (by omega),if_pos (by omega)];rfl
    ·subst Q;rw[hy];unfold bh;rw[if_neg (by omega),if_neg (by omega),if_neg (by omega),if_neg (by omega)];rfl
   ·obtain ⟨l1,hl1,e6⟩:∃l,l=iL (H.set a.toNat h)/\o.set y a (.int .i64 h)=l:=⟨_,rfl,by rw[hy];exact yq ho h0⟩
    conv=>lhs;(try (rw[e4];cbv));(try (rw[e4];cbv));rw[e6];cbv
    subst Q;rw[hl1];unfold bh;rw[if_neg (by omega),if_neg (by omega),if_pos (by omega)];rfl
  ·subst Q;rw[hy];unfold bh;rw[if_neg (by omega),if_pos (by omega)];rfl
 ·subst Q;rw[hy];unfold bh;rw[if_pos (by omega)];rfl
theorem yt (H:List Int) (n:Int) (hn:(H.length:Int)=n) (a h:Int) (h0:0<=a) (h1:a<n):o.call 319 [.arr (1,0) (3,1) none true,Ai a,Ai h] [some (.rows (3,1) (iL H))]=some ⟨Ab (dw H a h).2,[some (.rows (3,1) (iL (dw H a h).1))],[]⟩:=Hi ho H _ rfl n hn a h h0 h1
theorem uV (H:List Int) (n:Int) (hn:(H.length:Int)=n) (a h:Int) (h0:0<=a) (bad:Bool):o.call 286 [.ptr (1,0) 0,Ai a,Ai h] [some (.box [.arr (1,1) (3,1) none true,Ab bad]),some (.rows (3,1) (iL H))]=some ⟨.tup [],[some (.box [.arr (1,1) (3,1) none true,Ab ((bh n H a h).isNone || bad)]),some (.rows (3,1) (iL ((bh n H a h).getD H)))],[]⟩:=Hj ho H _ rfl n hn a h h0 bad
end
def b_ (o:aJ) (n:Int) (H:List Int) (op N to a:Int):Option (List Int):=
 if gt H a<tk op N then none else if op=9 then (if to<=a then none else (bh n H (a+1) (o.ar .sub .i64 (gt H a) 1)).bind λK=>bh n K to (gt H a))
 else if op=10 then (if to<=a then none else bh n H to (gt H a))else if op=11 then some H else if op=12 then (if gt H a=1 then some H else none)
 else bh n H (a+1) (o.ar .add .i64 (o.ar .sub .i64 (gt H a) (tk op N)) 1)
theorem pB {n:Int} {H:List Int} {a h:Int} {K:List Int} (e:bh n H a h=some K):K.length=H.length:=by
 unfold bh at e;split at e; · cases e
 split at e; · cases e
 split at e
 ·cases e;exact List.length_set
 split at e
 ·cases e;rfl
 ·cases e
theorem jY {n:Int} {H:List Int} {a h:Int}:((bh n H a h).getD H).length=H.length:=by
 cases e:bh n H a h
 ·rfl
 ·exact pB e
section
variable {o:aJ} (ho:aR cF bB o)
include ho
theorem Ep (
          H:List Int) (y:List D) (hy:y=iL H) (n:Int) (hn:(H.length:Int)=n) (hb:n<=1048576) (a:Int) (h0:0<=a) (h1:a<n) (x_0 x_1:Int) (x_2:ByteArray) (x_3:Int):∃K,o.call 287 [.ptr (1,0) 0,Ai a,.agg [Ai x_0,Ai x_1,As x_2,Ai x_3]] [some (.box [.arr (1,1) (3,1) none true,Ab false]),some (.rows (3,1) y)]=some ⟨.tup [],[some (.box [.arr (1,1) (3,1) none true,Ab (b_ o n H x_0 x_1 x_3 a).isNone]),some (.rows (3,1) (iL K))],[]⟩/\∀M,b_ o n H x_0 x_1 x_3 a=some M->K=M/\(M.length:Int)=n:=by
 obtain ⟨n1,hn1,e1⟩:∃v,v=gt H a/\o.dD y a=some (.int .i64 v):=⟨_,rfl,by rw[hy];exact jI ho hn h0 h1⟩
 obtain ⟨n2,e2⟩:=kx (tk x_0 x_1);have e3:o.call 350 [.agg [Ai x_0,Ai x_1,As x_2,Ai x_3]] []=Ar (Ai n2):=(Hh ho x_0 x_1 x_2 x_3).trans (by rw[e2]);rcases aZ ho n1 n2 with ⟨e4,g4⟩|⟨e4,g4⟩
 ·rcases aj ho x_0 9 with ⟨e5,g5⟩|⟨e5,g5⟩
  ·rcases aj ho x_0 10 with ⟨e6,g6⟩|⟨e6,g6⟩
   ·rcases aj ho x_0 11 with ⟨e7,g7⟩|⟨e7,g7⟩
    ·rcases aj ho x_0 12 with ⟨e8,g8⟩|⟨e8,g8⟩
     ·obtain ⟨n3,e9⟩:=kx (o.ar .add .i64 a 1);try have g9:n3=a+1:=e9.symm.trans (ck ho (by omega) (by omega))
      obtain ⟨n4,e10⟩:=kx (o.ar .sub .i64 n1 n2);try have g10:n4=n1-n2:=e10.symm.trans (dB ho (by omega) (by omega))
      obtain ⟨n5,e11⟩:=kx (o.ar .add .i64 n4 1);try have g11:n5=n4+1:=e11.symm.trans (ck ho (by omega) (by omega))
      obtain ⟨b6,hb6⟩:∃b,b=((bh n H n3 n5).isNone || false):=⟨_,rfl⟩
      obtain ⟨Kl1,hKl1⟩:∃K,K=(bh n H n3 n5).getD H:=⟨_,rfl⟩
      obtain ⟨l1,hl1⟩:∃l,l=iL Kl1:=⟨_,rfl⟩
      have lKl1:(Kl1.length:Int)=n:=by rw[hKl1,jY];first | exact hn | exact lKy
      have e12:o.call 286 [.ptr (1,0) 0,Ai n3,Ai n5] [some (.box [.arr (1,1) (3,1) none true,Ab false]),some (.rows (3,1) y)]=some ⟨.tup [],[some (.box [.arr (1,1) (3,1) none true,Ab b6]),some (.rows (3,1) l1)],[]⟩:=by rw[hy,hl1,hKl1,hb6];exact uV ho H n (by assumption) n3 n5 (by omega) false
      have hL:b_ o n H x_0 x_1 x_3 a=bh n H n3 n5:=by
        unfold b_;rw[<-hn1,e2,if_neg (by omega),if_neg g5,if_neg g6,if_neg g7,if_neg g8,<-g9,e10,e11]
      exact ⟨Kl1,by rw[hL,<-hl1,show (bh n H n3 n5).isNone=b6 by rw[hb6,Bool.or_false]];exact (ho.au (by cbv;repeat (simp only[e1,e2,e3,e4,e5,e6,e7,e8,e9,e10,e11,e12];try cbv)):o.call 287 [.ptr (1,0) 0,Ai a,.agg [Ai x_0,Ai x_1,As x_2,Ai x_3]] [some (.box [.arr (1,1) (3,1) none true,Ab false]),some (.rows (3,1) y)]=some ⟨.tup [],[some (.box [.arr (1,1) (3,1) none true,Ab b6]),some (.rows (3,1) l1)],[]⟩),λM hM=>by rw[hL]at hM;rw[hM]at hKl1;exact ⟨hKl1,by rw[pB hM];exact hn⟩⟩
     ·rcases cE ho n1 1 with ⟨e9,g9⟩|⟨e9,g9⟩
      ·first
       | (
         have hL:b_ o n H x_0 x_1 x_3 a=some H:=by
          unfold b_;rw[<-hn1,e2,if_neg (by omega),if_neg g5,if_neg g6,if_neg g7,if_pos g8,if_pos g9]
         exact ⟨H,by rw[hL,<-hy];exact (ho.au (by cbv;repeat (simp only[e1,e2,e3,e4,e5,e6,e7,e8,e9];try cbv)):o.call 287 [.ptr (1,0) 0,Ai a,.agg [Ai x_0,Ai x_1,As x_2,Ai x_3]] [some (.box [.arr (1,1) (3,1) none true,Ab false]),some (.rows (3,1) y)]=some ⟨.tup [],[some (.box [.arr (1,1) (3,1) none true,Ab false]),some (.rows (3,1) y)],[]⟩),λM hM=>by rw[hL]at hM;cases hM;exact ⟨rfl,hn⟩⟩)
       | (
         have hL:b_ o n H x_0 x_1 x_3 a=none:=by
          unfold b_;rw[<-hn1,e2,if_neg (by omega),if_neg g5,if_neg g6,if_neg g7,if_pos g8,if_neg g9]
         exact ⟨H,by rw[hL,<-hy];exact (ho.au (by cbv;repeat (simp only[e1,e2,e3,e4,e5,e6,e7,e8,e9];try cbv)):o.call 287 [.ptr (1,0) 0,Ai a,.agg [Ai x_0,Ai x_1,As x_2,Ai x_3]] [some (.box [.arr (1,1) (3,1) none true,Ab false]),some (.rows (3,1) y)]=some ⟨.tup [],[some (.box [.arr (1,1) (3,1) none true,Ab false]),some (.rows (3,1) y)],[]⟩),λM hM=>by rw[hL]at hM;cases hM⟩)
      ·first
       | (
         have hL:b_ o n H x_0 x_1 x_3 a=some H:=by
          unfold b_;rw[<-hn1,e2,if_neg (by omega),if_neg g5,if_neg g6,if_neg g7,if_pos g8,if_pos g9]
         exact ⟨H,by rw[hL,<-hy];exact (ho.au (by cbv;repeat (simp only[e1,e2,e3,e4,e5,e6,e7,e8,e9];try cbv)):o.call 287 [.ptr (1,0) 0,Ai a,.agg [Ai x_0,Ai x_1,As x_2,Ai x_3]] [some (.box [.arr (1,1) (3,1) none true,Ab false]),some (.rows (3,1) y)]=some ⟨.tup [],[some (.box [.arr (1,1) (3,1) none true,Ab true]),some (.rows (3,1) y)],[]⟩),λM hM=>by rw[hL]at hM;cases hM;exact ⟨rfl,hn⟩⟩)
       | (
         have hL:b_ o n H x_0 x_1 x_3 a=none:=by
          unfold b_;rw[<-hn1,e2,if_neg (by omega),if_neg g5,if_neg g6,if_neg g7,if_pos g8,if_neg g9]
         exact ⟨H,by rw[hL,<-hy];exact (ho.au (by cbv;repeat (simp only[e1,e2,e3,e4,e5,e6,e7,e8,e9];try cbv)):o.call 287 [.ptr (1,0) 0,Ai a,.agg [Ai x_0,Ai x_1,As x_2,Ai x_3]] [some (.box [.arr (1,1) (3,1) none true,Ab false]),some (.rows (3,1) y)]=some ⟨.tup [],[some (.box [.arr (1,1) (3,1) none true,Ab true]),some (.rows (3,1) y)],[]⟩),λM hM=>by rw[hL]at hM;cases hM⟩)
    ·have hL:b_ o n H x_0 x_1 x_3 a=some H:=by
       unfold b_;rw[<-hn1,e2,if_neg (by omega),if_neg g5,if_neg g6,if_pos g7]
     exact ⟨H,by rw[hL,<-hy];exact (ho.au (by cbv;repeat (simp only[e1,e2,e3,e4,e5,e6,e7];try cbv)):o.call 287 [.ptr (1,0) 0,Ai a,.agg [Ai x_0,Ai x_1,As x_2,Ai x_3]] [some (.box [.arr (1,1) (3,1) none true,Ab false]),some (.rows (3,1) y)]=some ⟨.tup [],[some (.box [.arr (1,1) (3,1) none true,Ab false]),some (.rows (3,1) y)],[]⟩),λM hM=>by rw[hL]at hM;cases hM;exact ⟨rfl,hn⟩⟩
   ·rcases jT ho x_3 a with ⟨e7,g7⟩|⟨e7,g7⟩
    ·obtain ⟨b5,hb5⟩:∃b,b=((bh n H x_3 n1).isNone || false):=⟨_,rfl⟩
     obtain ⟨Kl1,hKl1⟩:∃K,K=(bh n H x_3 n1).getD H:=⟨_,rfl⟩
     obtain ⟨l1,hl1⟩:∃l,l=iL Kl1:=⟨_,rfl⟩
     have lKl1:(Kl1.length:Int)=n:=by rw[hKl1,jY];first | exact hn | exact lKy
     have e8:o.call 286 [.ptr (1,0) 0,Ai x_3,Ai n1] [some (.box [.arr (1,1) (3,1) none true,Ab false]),some (.rows (3,1) y)]=some ⟨.tup [],[some (.box [.arr (1,1) (3,1) none true,Ab b5]),some (.rows (3,1) l1)],[]⟩:=by rw[hy,hl1,hKl1,hb5];exact uV ho H n (by assumption) x_3 n1 (by omega) false
     have hL:b_ o n H x_0 x_1 x_3 a=bh n H x_3 n1:=by
       unfold b_;rw[<-hn1,e2,if_neg (by omega),if_neg g5,if_pos g6,if_neg (by omega)]
     exact ⟨Kl1,by rw[hL,<-hl1,show (bh n H x_3 n1).isNone=b5 by rw[hb5,Bool.or_false]];exact (ho.au (by cbv;repeat (simp only[e1,e2,e3,e4,e5,e6,e7,e8];try cbv)):o.call 287 [.ptr (1,0) 0,Ai a,.agg [Ai x_0,Ai x_1,As x_2,Ai x_3]] [some (.box [.arr (1,1) (3,1) none true,Ab false]),some (.rows (3,1) y)]=some ⟨.tup [],[some (.box [.arr (1,1) (3,1) none true,Ab b5]),some (.rows (3,1) l1)],[]⟩),λM hM=>by rw[hL]at hM;rw[hM]at hKl1;exact ⟨hKl1,by rw[pB hM];exact hn⟩⟩
    ·have hL:b_ o n H x_0 x_1 x_3 a=none:=by
       unfold b_;rw[<-hn1,e2,if_neg (by omega),if_neg g5,if_pos g6,if_pos g7]
     exact ⟨H,by rw[hL,<-hy];exact (ho.au (by cbv;repeat (simp only[e1,e2,e3,e4,e5,e6,e7];try cbv)):o.call 287 [.ptr (1,0) 0,Ai a,.agg [Ai x_0,Ai x_1,As x_2,Ai x_3]] [some (.box [.arr (1,1) (3,1) none true,Ab false]),some (.rows (3,1) y)]=some ⟨.tup [],[some (.box [.arr (1,1) (3,1) none true,Ab true]),some (.rows (3,1) y)],[]⟩),λM hM=>by rw[hL]at hM;cases hM⟩
  ·rcases jT ho x_3 a with ⟨e6,g6⟩|⟨e6,g6⟩
   ·obtain ⟨n3,e7⟩:=kx (o.ar .add .i64 a 1);try have g7:n3=a+1:=e7.symm.trans (ck ho (by omega) (by omega))
    obtain ⟨n4,e8⟩:=kx (o.ar .sub .i64 n1 1);try have g8:n4=n1-1:=e8.symm.trans (dB ho (by omega) (by omega))
    obtain ⟨b4,hb4⟩:∃b,b=((bh n H n3 n4).isNone || false):=⟨_,rfl⟩
    obtain ⟨Kl1,hKl1⟩:∃K,K=(bh n H n3 n4).getD H:=⟨_,rfl⟩
    obtain ⟨l1,hl1⟩:∃l,l=iL Kl1:=⟨_,rfl⟩
    have lKl1:(Kl1.length:Int)=n:=by rw[hKl1,jY];first | exact hn | exact lKy
    have e9:o.call 286 [.ptr (1,0) 0,Ai n3,Ai n4] [some (.box [.arr (1,1) (3,1) none true,Ab false]),some (.rows (3,1) y)]=some ⟨.tup [],[some (.box [.arr (1,1) (3,1) none true,Ab b4]),some (.rows (3,1) l1)],[]⟩:=by rw[hy,hl1,hKl1,hb4];exact uV ho H n (by assumption) n3 n4 (by omega) false
    obtain ⟨b5,hb5⟩:∃b,b=((bh n Kl1 x_3 n1).isNone || b4):=⟨_,rfl⟩
    obtain ⟨Kl2,hKl2⟩:∃K,K=(bh n Kl1 x_3 n1).getD Kl1:=⟨_,rfl⟩
    obtain ⟨l2,hl2⟩:∃l,l=iL Kl2:=⟨_,rfl⟩
    have lKl2:(Kl2.length:Int)=n:=by rw[hKl2,jY];first | exact hn | exact lKl1
    have e10:o.call 286 [.ptr (1,0) 0,Ai x_3,Ai n1] [some (.box [.arr (1,1) (3,1) none true,Ab b4]),some (.rows (3,1) l1)]=some ⟨.tup [],[some (.box [.arr (1,1) (3,1) none true,Ab b5]),some (.rows (3,1) l2)],[]⟩:=by rw[hl1,hl2,hKl2,hb5];exact uV ho Kl1 n (by assumption) x_3 n1 (by omega) b4
    have hL:b_ o n H x_0 x_1 x_3 a=(bh n H n3 n4).bind λK=>bh n K x_3 n1:=by
      unfold b_;rw[<-hn1,e2,if_neg (by omega),if_pos g5,if_neg (by omega),<-g7,e8]
    cases c1:bh n H n3 n4 with
    | none=>
      rw[c1]at hL hb4;have hb:b5=true:=by rw[hb5,hb4];simp
      exact ⟨Kl2,by rw[hL,<-hl2];have hp:=(ho.au (by cbv;repeat (simp only[e1,e2,e3,e4,e5,e6,e7,e8,e9,e10];try cbv)):o.call 287 [.ptr (1,0) 0,Ai a,.agg [Ai x_0,Ai x_1,As x_2,Ai x_3]] [some (.box [.arr (1,1) (3,1) none true,Ab false]),some (.rows (3,1) y)]=some ⟨.tup [],[some (.box [.arr (1,1) (3,1) none true,Ab b5]),some (.rows (3,1) l2)],[]⟩);rw[hb]at hp;exact hp,λM hM=>by rw[hL]at hM;cases hM⟩
    | some K1=>
      rw[c1]at hL hb4 hKl1;have hE:Kl1=K1:=hKl1;have hb:b5=(bh n Kl1 x_3 n1).isNone:=by rw[hb5,hb4];simp
      refine ⟨Kl2,by rw[hL,<-hE,<-hl2];show _=some (bW.mk _ [some (.box [_,Ab (bh n Kl1 x_3 n1).isNone]),_] _);rw[<-hb];exact (ho.au (by cbv;repeat (simp only[e1,e2,e3,e4,e5,e6,e7,e8,e9,e10];try cbv)):o.call 287 [.ptr (1,0) 0,Ai a,.agg [Ai x_0,Ai x_1,As x_2,Ai x_3]] [some (.box [.arr (1,1) (3,1) none true,Ab false]),some (.rows (3,1) y)]=some ⟨.tup [],[some (.box [.arr (1,1) (3,1) none true,Ab b5]),some (.rows (3,1) l2)],[]⟩),λM hM=> ?_⟩;rw[hL,<-hE]at hM
      replace hM:bh n Kl1 x_3 n1=some M:=hM
      rw[hM]at hKl2;exact ⟨hKl2,by rw[pB hM];exact lKl1⟩
   ·have hL:b_ o n H x_0 x_1 x_3 a=none:=by
      unfold b_;rw[<-hn1,e2,if_neg (by omega),if_pos g5,if_pos g6]
    exact ⟨H,by rw[hL,<-hy];exact (ho.au (by cbv;repeat (simp only[e1,e2,e3,e4,e5,e6];try cbv)):o.call 287 [.ptr (1,0) 0,Ai a,.agg [Ai x_0,Ai x_1,As x_2,Ai x_3]] [some (.box [.arr (1,1) (3,1) none true,Ab false]),some (.rows (3,1) y)]=some ⟨.tup [],[some (.box [.arr (1,1) (3,1) none true,Ab true]),some (.rows (3,1) y)],[]⟩),λM hM=>by rw[hL]at hM;cases hM⟩
 ·have hL:b_ o n H x_0 x_1 x_3 a=none:=by
    unfold b_;rw[<-hn1,e2,if_pos g4]
  exact ⟨H,by rw[hL,<-hy];exact (ho.au (by cbv;repeat (simp only[e1,e2,e3,e4];try cbv)):o.call 287 [.ptr (1,0) 0,Ai a,.agg [Ai x_0,Ai x_1,As x_2,Ai x_3]] [some (.box [.arr (1,1) (3,1) none true,Ab false]),some (.rows (3,1) y)]=some ⟨.tup [],[some (.box [.arr (1,1) (3,1) none true,Ab true]),some (.rows (3,1) y)],[]⟩),λM hM=>by rw[hL]at hM;cases hM⟩
theorem Hl (H:List Int) (n:Int) (hn:(H.length:Int)=n) (hb:n<=1048576) (a:Int) (h0:0<=a) (h1:a<n) (x_0 x_1:Int) (x_2:ByteArray) (x_3:Int):∃K,o.call 287 [.ptr (1,0) 0,Ai a,.agg [Ai x_0,Ai x_1,As x_2,Ai x_3]] [some (.box [.arr (1,1) (3,1) none true,Ab false]),some (.rows (3,1) (iL H))]=some ⟨.tup [],[some (.box [.arr (1,1) (3,1) none true,Ab (b_ o n H x_0 x_1 x_3 a).isNone]),some (.rows (3,1) (iL K))],[]⟩/\∀M,b_ o n H x_0 x_1 x_3 a=some M->K=M/\(M.length:Int)=n:=Ep ho H _ rfl n hn hb a h0 h1 x_0 x_1 x_2 x_3
end
def yu (x:D):Prop:=∃op N s to,x= .agg [.int .i64 op,.int .i64 N,.str s,.int .i64 to]
def pW (o:aJ) (n:Int):List D->Int->List Int->Bool
 | [],_,_=>true
 | .agg [.int _ op,.int _ N,.str _,.int _ to]::xs,i,H=>if gt H i<0 then false else match b_ o n H op N to i with | none=>false | some K=>pW o n xs (i+1) K
 | _::_,_,_=>false
def yw (o:aJ) (n:Int):List D->Int->List Int->List Int
 | .agg [.int _ op,.int _ N,.str _,.int _ to]::xs,i,H=>match b_ o n H op N to i with | none=>H | some K=>yw o n xs (i+1) K
 | _,_,H=>H
theorem Er {o:aJ} {n op N to:Int} {s:ByteArray} {xs:List D} {i:Int} {H:List Int}:yw o n (.agg [.int .i64 op,.int .i64 N,.str s,.int .i64 to]::xs) i H=match b_ o n H op N to i with | none=>H | some K=>yw o n xs (i+1) K:=rfl
theorem Bq {o:aJ} {n op N to:Int} {s:ByteArray} {xs:List D} {i:Int} {H:List Int}:pW o n (.agg [.int .i64 op,.int .i64 N,.str s,.int .i64 to]::xs) i H=if gt H i<0 then false else match b_ o n H op N to i with | none=>false | some K=>pW o n xs (i+1) K:=rfl
def H0 (n:Int):List Int:=List.replicate n.toNat (-1)
theorem uW {n:Int} (h:0<=n):((H0 n).length:Int)=n:=by unfold H0;rw[List.length_replicate];omega
theorem take_set {H:List Int} {i:Nat} {v:Int} (h:i<H.length):(H.set i v).take (i+1)=H.take i++[v]:=by
 rw[List.take_add_one,List.take_set_of_le (Nat.le_refl _),List.getElem?_set_self h];rfl
section
variable {o:aJ} (ho:aR cF bB o)
include ho
def gZ (f_0:ByteArray) (f_1 f_2:Int) (f_3:List D) (n2 i:Int) (y:List D):St:=⟨E 56 [(0,.sp [.str f_0,.int .i64 f_1,.int .i64 f_2,.lst f_3] 0),(4,.ptr (4,0) 0),(17,Ai n2),(18,Ai i)],O 56 [(4,[some (.box [.arr (13,0) (3,1) none true,Ab false])]),(13,[some (.rows (3,1) y)])]⟩
def iO (f_0:ByteArray) (f_1 f_2:Int) (f_3 y:List D):St:=⟨E 56 [(0,.sp [.str f_0,.int .i64 f_1,.int .i64 f_2,.lst f_3] 0),(4,.ptr (4,0) 0)],O 56 [(4,[some (.box [.arr (13,0) (3,1) none true,Ab false])]),(13,[some (.rows (3,1) y)])]⟩
def aA (f_3:List D) (n1 i:Int) (c:Bool) (y:List D):St:=⟨E 56 [(4,.ptr (4,0) 0),(30,Al f_3),(31,Ai n1),(32,Ai i)],O 56 [(4,[some (.box [.arr (13,0) (3,1) none true,Ab c])]),(13,[some (.rows (3,1) y)])]⟩
def dg (y:List D):St:=⟨E 56 [(2,.emp),(3,Ab false),(4,.ptr (4,0) 0)],O 56 [(4,[some (.box [.arr (13,0) (3,1) none true,Ab true])]),(13,[some (.rows (3,1) y)])]⟩
def bM (c:Bool) (y:List D):St:=⟨E 56 [(4,.ptr (4,0) 0)],O 56 [(4,[some (.box [.arr (13,0) (3,1) none true,Ab c])]),(13,[some (.rows (3,1) y)])]⟩
def fS (y:List D):St:=⟨E 56 [(2,.emp),(3,Ab false),(4,.ptr (4,0) 0)],O 56 [(4,[some (.box [.arr (13,0) (3,1) none true,Ab false])]),(13,[some (.rows (3,1) y)])]⟩
theorem MZ (f_0:ByteArray) (f_1 f_2:Int) (f_3:List D) (n2:Int) (hb:n2<=1048576):∀i:Int,0<=i->i<=(n2:Int)->∀(y:List D) (H:List Int),y=iL H->(H.length:Int)=n2->o.loop 19200 (gZ f_0 f_1 f_2 f_3 n2 i y)=some (.exit 0,iO f_0 f_1 f_2 f_3 (iL (H.take i.toNat++List.replicate (n2-i).toNat (-1)))):=by
 refine bV (P:=λi=>∀(y:List D) (H:List Int),y=iL H->(H.length:Int)=n2->o.loop 19200 (gZ f_0 f_1 f_2 f_3 n2 i y)=some (.exit 0,iO f_0 f_1 f_2 f_3 (iL (H.take i.toNat++List.replicate (n2-i).toNat (-1))))) (n2:Int) ?_;intro i h0 h1 ih;try dsimp only at ih |-
 intro y H hy hn;refine ho.dO λR Q=> ?_
 conv=>lhs;cbv
 rcases aZ ho i n2 with ⟨e1,g1⟩|⟨e1,g1⟩<;>(conv=>lhs;rw[e1];cbv)
 ·subst Q;rw[show (n2-i).toNat=0 by omega,List.replicate_zero,List.append_nil,List.take_of_length_le (by omega),<-hy];rfl
 ·obtain ⟨n1,e2⟩:∃n1,o.dD y i=some (.int .i64 n1):=⟨_,by rw[hy];exact jI ho hn h0 g1⟩
  obtain ⟨l1,hl1,e3⟩:∃l1,l1=iL (H.set i.toNat (-1))/\o.set y i (.int .i64 (-1))=l1:=⟨_,rfl,by rw[hy];exact yq ho h0⟩
  obtain ⟨n3,e4,g4⟩:=aW ho i 1;conv=>lhs;rw[e2];cbv;(try (rw[e2];cbv));rw[e3];cbv;rw[e4];cbv
  subst Q;show o.loop 19200 (gZ f_0 f_1 f_2 f_3 n2 n3 l1)=_;rw[show n3=i+1 by omega,ih (by omega) l1 _ hl1 (by rw[List.length_set];exact hn)];congr 4;rw[show (i+1).toNat=i.toNat+1 by omega,take_set (by omega),List.append_assoc];congr 1;rw[show (n2-i).toNat=(n2-(i.toNat+1:Nat)).toNat+1 by omega,List.replicate_succ,show ((i.toNat+1:Nat):Int)=i+1 by omega];rfl
theorem OV (f_3:List D) (hT:∀x∈f_3,yu x) (n1:Int) (hn:(f_3.length:Int)=n1) (hb:n1<=1048576):∀i:Int,0<=i->i<=(n1:Int)->∀(c:Bool) (y:List D) (H:List Int),(c=false->y=iL H/\(H.length:Int)=n1)->(c=true->o.loop 19201 (aA f_3 n1 i c y)=some (.ret,dg y)\/o.loop 19201 (aA f_3 n1 i c y)=some (.exit 2,bM true y))/\(c=false->(pW o n1 (f_3.drop i.toNat) i H=true->∃z,z=iL (yw o n1 (f_3.drop i.toNat) i H)/\o.loop 19201 (aA f_3 n1 i c y)=some (.exit 2,bM false z))/\(pW o n1 (f_3.drop i.toNat) i H=false->∃z,o.loop 19201 (aA f_3 n1 i c y)=some (.ret,dg z)\/o.loop 19201 (aA f_3 n1 i c y)=some (.ret,fS z)\/o.loop 19201 (aA f_3 n1 i c y)=some (.exit 2,bM true z))):=by
 refine bV (P:=λi=>∀(c:Bool) (y:List D) (H:List Int),(c=false->y=iL H/\(H.length:Int)=n1)->(c=true->o.loop 19201 (aA f_3 n1 i c y)=some (.ret,dg y)\/o.loop 19201 (aA f_3 n1 i c y)=some (.exit 2,bM true y))/\(c=false->(pW o n1 (f_3.drop i.toNat) i H=true->∃z,z=iL (yw o n1 (f_3.drop i.toNat) i H)/\o.loop 19201 (aA f_3 n1 i c y)=some (.exit 2,bM false z))/\(pW o n1 (f_3.drop i.toNat) i H=false->∃z,o.loop 19201 (aA f_3 n1 i c y)=some (.ret,dg z)\/o.loop 19201 (aA f_3 n1 i c y)=some (.ret,fS z)\/o.loop 19201 (aA f_3 n1 i c y)=some (.exit 2,bM true z)))) (n1:Int) ?_;intro i h0 h1 ih;try dsimp only at ih |-
 intro c y H hy;rcases aZ ho i n1 with ⟨e1,g1⟩|⟨e1,g1⟩
 ·rw[bf hn (by omega)];have hp:o.loop 19201 (aA f_3 n1 i c y)=some (.exit 2,bM c y):=(ho.aB (by cbv;repeat (simp only[e1];try cbv)):o.loop 19201 (aA f_3 n1 i c y)=some (.exit 2,bM c y))
  exact ⟨λh=> .inr (by rw[h]at hp |-;exact hp),λh=>⟨λ_=>⟨y,(hy h).1,by rw[h]at hp |-;exact hp⟩,λg=>by cases g⟩⟩
 ·obtain ⟨x,hx0,hx1,hx2⟩:=ax hn h0 g1;obtain ⟨n2,n3,s1,n4,rfl⟩:=hT _ hx2;have e2:=ak ho h0 hx0;cases e3:c
  ·obtain ⟨n5,hn5,e4⟩:∃n5,n5=gt H i/\o.dD y i=some (.int .i64 n5):=⟨_,rfl,by rw[(hy e3).1];exact jI ho (hy e3).2 h0 g1⟩
   rcases aZ ho n5 0 with ⟨e5,g5⟩|⟨e5,g5⟩
   ·obtain ⟨K,hcall,hK⟩:=Hl ho H n1 (hy e3).2 hb i h0 g1 n2 n3 s1 n4;obtain ⟨b3,hb2⟩:∃b,(b_ o n1 H n2 n3 n4 i).isNone=b:=⟨_,rfl⟩
    obtain ⟨l1,hl2⟩:∃l,l=iL K:=⟨_,rfl⟩
    rw[hb2,<-hl2,<-(hy e3).1,<-e3]at hcall;have e6:o.call 287 [.ptr (1,0) 0,Ai i,.agg [Ai n2,Ai n3,As s1,Ai n4]] [some (.box [.arr (1,1) (3,1) none true,Ab c]),some (.rows (3,1) y)]=some ⟨.tup [],[some (.box [.arr (1,1) (3,1) none true,Ab b3]),some (.rows (3,1) l1)],[]⟩:=hcall;obtain ⟨n6,e7⟩:=kx (o.ar .add .i64 i 1);try have g7:n6=i+1:=e7.symm.trans (ck ho (by omega) (by omega))
    subst e3;have e3:false=false:=rfl;refine ⟨λh=>(by cases h),λ_=> ?_⟩;rw[hx1,Bq,if_neg (by omega),Er];have en:i+1=n6:=by omega
    rw[en]at ih |-;cases hL:b_ o n1 H n2 n3 n4 i with
    | none=>
     rw[hL]at hb2;have ih2:=(ih (by omega) b3 l1 H (λh=>by rw[h]at hb2;cases hb2)).1 hb2.symm;refine ⟨λh=>(by cases h),λ_=> ?_⟩;rcases ih2 with h | h
     ·exact ⟨_,.inl ((λz (hz:o.loop 19201 (aA f_3 n1 n6 b3 l1)=some z)=>ho.aB (by rw[<-hz];cbv;repeat (simp only[e1,e2,e4,e5,e6,e7];try cbv)):∀z,o.loop 19201 (aA f_3 n1 n6 b3 l1)=some z->o.loop 19201 (aA f_3 n1 i false y)=some z) _ h)⟩
     ·exact ⟨_,.inr (.inr ((λz (hz:o.loop 19201 (aA f_3 n1 n6 b3 l1)=some z)=>ho.aB (by rw[<-hz];cbv;repeat (simp only[e1,e2,e4,e5,e6,e7];try cbv)):∀z,o.loop 19201 (aA f_3 n1 n6 b3 l1)=some z->o.loop 19201 (aA f_3 n1 i false y)=some z) _ h))⟩
    | some M=>
     rw[hL]at hb2;obtain ⟨rfl,hM⟩:=hK _ hL;have ih2:=(ih (by omega) b3 l1 K (λ_=>⟨hl2,hM⟩)).2 hb2.symm;refine ⟨λh=> ?_,λh=> ?_⟩
     ·obtain ⟨z,hz,h⟩:=ih2.1 h;exact ⟨z,hz,(λz (hz:o.loop 19201 (aA f_3 n1 n6 b3 l1)=some z)=>ho.aB (by rw[<-hz];cbv;repeat (simp only[e1,e2,e4,e5,e6,e7];try cbv)):∀z,o.loop 19201 (aA f_3 n1 n6 b3 l1)=some z->o.loop 19201 (aA f_3 n1 i false y)=some z) _ h⟩
     ·obtain ⟨z,h⟩:=ih2.2 h;refine ⟨z,?_⟩;rcases h with h | h | h
      ·exact .inl ((λz (hz:o.loop 19201 (aA f_3 n1 n6 b3 l1)=some z)=>ho.aB (by rw[<-hz];cbv;repeat (simp only[e1,e2,e4,e5,e6,e7];try cbv)):∀z,o.loop 19201 (aA f_3 n1 n6 b3 l1)=some z->o.loop 19201 (aA f_3 n1 i false y)=some z) _ h)
      ·exact .inr (.inl ((λz (hz:o.loop 19201 (aA f_3 n1 n6 b3 l1)=some z)=>ho.aB (by rw[<-hz];cbv;repeat (simp only[e1,e2,e4,e5,e6,e7];try cbv)):∀z,o.loop 19201 (aA f_3 n1 n6 b3 l1)=some z->o.loop 19201 (aA f_3 n1 i false y)=some z) _ h))
      ·exact .inr (.inr ((λz (hz:o.loop 19201 (aA f_3 n1 n6 b3 l1)=some z)=>ho.aB (by rw[<-hz];cbv;repeat (simp only[e1,e2,e4,e5,e6,e7];try cbv)):∀z,o.loop 19201 (aA f_3 n1 n6 b3 l1)=some z->o.loop 19201 (aA f_3 n1 i false y)=some z) _ h))
   ·subst e3;have e3:false=false:=rfl;refine ⟨λh=>(by cases h),λ_=> ?_⟩;rw[hx1,Bq,if_pos (by omega)];exact ⟨λh=>(by cases h),λ_=>⟨_,.inr (.inl (ho.aB (by cbv;repeat (simp only[e1,e2,e4,e5];try cbv)):_=some (.ret,fS y)))⟩⟩
  ·subst e3;have e3:true=true:=rfl;exact ⟨λh=> .inl (ho.aB (by cbv;repeat (simp only[e1,e2];try cbv)):_=some (.ret,dg y)),λh=>by cases h⟩
omit ho in
theorem M0 {n:Int} (h:1<=n):gt (H0 n) 0= -1:=by
 unfold gt H0;rw[List.getD_eq_getElem?_getD,List.getElem?_replicate,if_pos (by omega)];rfl
omit ho in
def Br (o:aJ) (xs:List D):Bool:=pW o xs.length xs 0 ((H0 xs.length).set 0 0)
def hF (o:aJ) (xs:List D):List Int:=yw o xs.length xs 0 ((H0 xs.length).set 0 0)
theorem sI (f_0:ByteArray) (f_1 f_2:Int) (f_3:List D) (hT:∀x∈f_3,yu x) (h1:1<=(f_3.length:Int)) (hb:(f_3.length:Int)<=1048576):∃l,(Br o f_3=true->l=iL (hF o f_3))/\o.call 192 [.sp [.str f_0,.int .i64 f_1,.int .i64 f_2,.lst f_3] 0] []=Ar (.tup [Al l,Ab (Br o f_3)]):=by
 obtain ⟨n1,e1,g1⟩:=ay ho f_3;have e2:o.cmp .eql n1 n1=true:=cw ho rfl;have e3:o.fF 8 n1=true:=by rw[ho.fF];exact decide_eq_true (by omega)
 obtain ⟨l1,hl1,e4⟩:∃l1,l1=iL (List.replicate n1.toNat 0)/\o.qz n1 (.int .i64 0)=l1:=⟨_,rfl,by rw[ho.qz];unfold iL;rw[List.map_replicate]⟩
 obtain ⟨n2,hn2,e5⟩:∃n2,n2=n1/\o.len l1=n2:=⟨_,rfl,by rw[hl1,uU ho,List.length_replicate];omega⟩
 obtain ⟨l2,hl2,e6⟩:∃l2,l2=iL (H0 n1)/\o.loop 19200 (gZ f_0 f_1 f_2 f_3 n2 0 l1)=some (.exit 0,iO f_0 f_1 f_2 f_3 l2):=⟨_,rfl,by rw[MZ ho f_0 f_1 f_2 f_3 n2 (by omega) 0 (Int.le_refl _) (by omega) l1 _ hl1 (by rw[List.length_replicate];omega),show (0:Int).toNat=0 from rfl,List.take_zero,List.nil_append,Int.sub_zero,hn2];rfl⟩
 have hz:=uV ho (H0 n1) n1 (uW (by omega)) 0 0 (Int.le_refl _) false;have hcz:bh n1 (H0 n1) 0 0=some ((H0 n1).set 0 0):=by
   unfold bh;rw[if_neg (by omega),if_neg (by omega),if_pos (by rw[M0 (by omega)];omega)];rfl
 rw[hcz]at hz;obtain ⟨b2,hb2⟩:∃b,b=false:=⟨_,rfl⟩
 obtain ⟨l3,hl3⟩:∃l,l=iL ((H0 n1).set 0 0):=⟨_,rfl⟩
 have e7:o.call 286 [.ptr (1,0) 0,Ai 0,Ai 0] [some (.box [.arr (1,1) (3,1) none true,Ab false]),some (.rows (3,1) l2)]=some ⟨.tup [],[some (.box [.arr (1,1) (3,1) none true,Ab b2]),some (.rows (3,1) l3)],[]⟩:=by rw[hl2,hb2,hl3];exact hz
 have hr:=(OV ho f_3 hT n1 g1.symm (by omega) 0 (Int.le_refl _) (by omega) b2 l3 _ (λ_=>⟨hl3,by rw[List.length_set];exact uW (by omega)⟩)).2 hb2;rw[show (0:Int).toNat=0 from rfl,List.drop_zero]at hr;have hG:Br o f_3=pW o n1 f_3 0 ((H0 n1).set 0 0):=by rw[g1];rfl
 have hFF:hF o f_3=yw o n1 f_3 0 ((H0 n1).set 0 0):=by rw[g1];rfl
 obtain ⟨b3,hb3⟩:∃b,b= !pW o n1 f_3 0 ((H0 n1).set 0 0):=⟨_,rfl⟩
 have hr:(∃l4,b3=true/\o.loop 19201 (aA f_3 n1 0 b2 l3)=some (.ret,dg l4))\/(∃l4,(b3=false->l4=iL (hF o f_3))/\o.loop 19201 (aA f_3 n1 0 b2 l3)=some (.exit 2,bM b3 l4))\/(∃l4,b3=true/\o.loop 19201 (aA f_3 n1 0 b2 l3)=some (.ret,fS l4)):=by
   cases Q:pW o n1 f_3 0 ((H0 n1).set 0 0)
   ·rw[Q]at hb3;obtain ⟨z,h⟩:=hr.2 Q;rcases h with h | h | h
    ·exact .inl ⟨z,hb3,h⟩
    ·exact .inr (.inr ⟨z,hb3,h⟩)
    ·exact .inr (.inl ⟨z,λh=>(by rw[hb3]at h;cases h),by rw[hb3];exact h⟩)
   ·rw[Q]at hb3;obtain ⟨z,hz,h⟩:=hr.1 Q;exact .inr (.inl ⟨z,λ_=>by rw[hFF];exact hz,by rw[hb3];exact h⟩)
 rcases hr with ⟨l4,hb4,e8⟩ | ⟨l4,hl4,e8⟩ | ⟨l4,hb4,e8⟩
 ·rw[hb3]at hb4;have hz:Br o f_3=false:=by rw[hG];simpa using hb4
  exact ⟨_,λh=>(by cases hz.symm.trans h),by rw[hz];exact (ho.au (by cbv at e6;cbv at e8;cbv;repeat (simp only[e1,e2,e3,e4,e5,e6,e7,e8];try cbv)):o.call 192 [.sp [.str f_0,.int .i64 f_1,.int .i64 f_2,.lst f_3] 0] []=Ar (.tup [Al [],Ab false]))⟩
 ·cases e9:b3
  ·have hb4:=e9;rw[hb3]at hb4;exact ⟨_,λ_=>hl4 e9,by rw[hG,show pW o n1 f_3 0 ((H0 n1).set 0 0)=true by simpa using hb4];exact (ho.au (by cbv at e6;cbv at e8;cbv;repeat (simp only[e1,e2,e3,e4,e5,e6,e7,e8,e9];try cbv)):o.call 192 [.sp [.str f_0,.int .i64 f_1,.int .i64 f_2,.lst f_3] 0] []=Ar (.tup [Al l4,Ab true]))⟩
  ·have hb4:=e9;rw[hb3]at hb4;have hz:Br o f_3=false:=by rw[hG];simpa using hb4
   exact ⟨_,λh=>(by cases hz.symm.trans h),by rw[hz];exact (ho.au (by cbv at e6;cbv at e8;cbv;repeat (simp only[e1,e2,e3,e4,e5,e6,e7,e8,e9];try cbv)):o.call 192 [.sp [.str f_0,.int .i64 f_1,.int .i64 f_2,.lst f_3] 0] []=Ar (.tup [Al l4,Ab false]))⟩
 ·rw[hb3]at hb4;have hz:Br o f_3=false:=by rw[hG];simpa using hb4
  exact ⟨_,λh=>(by cases hz.symm.trans h),by rw[hz];exact (ho.au (by cbv at e6;cbv at e8;cbv;repeat (simp only[e1,e2,e3,e4,e5,e6,e7,e8];try cbv)):o.call 192 [.sp [.str f_0,.int .i64 f_1,.int .i64 f_2,.lst f_3] 0] []=Ar (.tup [Al [],Ab false]))⟩
end
end T2
