import Derived.Test.YtfnagkpidcdocaaGreatM22
set_option linter.all false
namespace T2
open Go Go.Vi
set_option maxRecDepth 100000
set_option maxHeartbeats 4000000
section
variable {o:aM} (ho:aQ cu bw o)
include ho
omit ho in
theorem jd {o:aM} {sl:Int} {d:Nat} {k n:Int} {s:By} {l:Lq} (h:iD o k n s l.length sl=false):dM o sl (d+1) (.agg [.int .i64 k,.int .i64 n,.str s,.lst l])=301:=by rw[FO,h];rfl
omit ho in
theorem nU {o:aM} {sl:Int} {d:Nat} {k n:Int} {s:By} {l:Lq} (h:iD o k n s l.length sl=true):dM o sl (d+1) (.agg [.int .i64 k,.int .i64 n,.str s,.lst l])=if 1+bT (dM o sl d) l<=300 then 1+bT (dM o sl d) l else 301:=by rw[FO,if_pos h]
omit ho in
theorem Ea {c t:Int} {S vs:Lq} (h:300<c+t):false=(decide (c+t<=300)&&okV S vs):=by rw[decide_eq_false (by omega)];rfl
omit ho in
theorem lp {o:aM} {n:Int} {s:By} {c sl:Int}:iD o 3 n s c sl=(decide (s=⟨#[]⟩)&&decide (c=0)&&jx n (-1) (sl-1)):=by unfold iD;rw[if_pos rfl]
omit ho in
theorem pz {o:aM} {k n:Int} {s:By} {c sl:Int} (h:k≠3):iD o k n s c sl=mZ o k n s c:=by unfold iD;rw[if_neg h]
omit ho in
def FT (o:aM) (sl:Int) (d:Nat):Prop:=∀m k n s l,Tm m (.agg [.int .i64 k,.int .i64 n,.str s,.lst l])->∀a c:Int,a=11-d->0<=c->c<=300->∀S,(S.length:Int)<=c->(∀y∈S,zZ y)->
 ∃b c' S',o.call 377 [.ptr (1,0) 0,.agg [.d (.int .i64 k),.d (.int .i64 n),.d (.str s),.d (.lst l)],.d (.int .i64 a)] [some (.box [.d (.int .i64 sl),.d (.int .i64 c),.arr (1,1) (3,1) none false]),some (.rows (3,1) S)]=some ⟨.d (.bool b),[some (.box [.d (.int .i64 sl),.d (.int .i64 c'),.arr (0,0) (3,1) none false]),none],[some (.rows (3,1) S')]⟩/\b=(decide (c+dM o sl d (.agg [.int .i64 k,.int .i64 n,.str s,.lst l])<=300)&&okV S (kZ d (.agg [.int .i64 k,.int .i64 n,.str s,.lst l])))/\(b=true->c'=c+dM o sl d (.agg [.int .i64 k,.int .i64 n,.str s,.lst l])/\S'=S++kZ d (.agg [.int .i64 k,.int .i64 n,.str s,.lst l]))
theorem QL (sl:Int) (d:Nat) (hd:d<=9) (IH:FT o sl d) (a:Int) (ha:a=10-d) (e:Lq) (m:Nat) (hT:∀x∈e,Tm m x) (n2:Int) (hn:(e.length:Int)=n2) (hl:n2<=1048576):∀i:Int,0<=i->i<=(n2:Int)->∀c:Int,0<=c->c<=300->∀S,(S.length:Int)<=c->(∀y∈S,zZ y)->((decide (c+bT (dM o sl d) (e.drop i.toNat)<=300)&&okV S (eH (kZ d) (e.drop i.toNat)))=true->o.loop 37700 (bI a e n2 i S sl c)=some (.exit 0,fo (S++eH (kZ d) (e.drop i.toNat)) sl (c+bT (dM o sl d) (e.drop i.toNat))))/\((decide (c+bT (dM o sl d) (e.drop i.toNat)<=300)&&okV S (eH (kZ d) (e.drop i.toNat)))=false->∃y v,o.loop 37700 (bI a e n2 i S sl c)=some (.ret,iq y sl v)):=by
 refine cM (P:=λi=>∀c:Int,0<=c->c<=300->∀S,(S.length:Int)<=c->(∀y∈S,zZ y)->((decide (c+bT (dM o sl d) (e.drop i.toNat)<=300)&&okV S (eH (kZ d) (e.drop i.toNat)))=true->o.loop 37700 (bI a e n2 i S sl c)=some (.exit 0,fo (S++eH (kZ d) (e.drop i.toNat)) sl (c+bT (dM o sl d) (e.drop i.toNat))))/\((decide (c+bT (dM o sl d) (e.drop i.toNat)<=300)&&okV S (eH (kZ d) (e.drop i.toNat)))=false->∃y v,o.loop 37700 (bI a e n2 i S sl c)=some (.ret,iq y sl v))) (n2:Int) ?_;intro i h0 h1 ih;try dsimp only at ih |-
 intro c a1 O S hS hI;have s4:=fj (λx=>(jm o sl d x).1) (e.drop (i+1).toNat);rcases bn ho i n2 with ⟨j,g1⟩|⟨j,g1⟩
 ·rw[bL hn (by omega)];simp only[bT,eH,Int.add_zero,List.append_nil,okV,Bool.and_true];exact ⟨λ_=>(ho.aB (by cbv;repeat (simp only[j];try cbv)):_=some (.exit 0,fo S sl c)),λh=>absurd O (of_decide_eq_false h)⟩
 obtain ⟨x,a3,U,V⟩:=aF hn h0 g1;obtain ⟨m',n1,n3,s1,l1,a7,rfl,hs,hl,ht⟩:=bH (hT _ V);have e2:=ay ho h0 a3;obtain ⟨n4,J⟩:=kx (o.ar .add .i64 a 1);try have g3:n4=a+1:=J.symm.trans (dm ho (by omega) (by omega))
 have b4:=jm o sl d (.agg [.int .i64 n1,.int .i64 n3,.str s1,.lst l1]);obtain ⟨b,n5,l2,hcall,hb,a4⟩:=IH m n1 n3 s1 l1 (hT _ V) n4 c (by omega) a1 O S hS hI;cases b
 ·have M:=hcall;have a5:(decide (c+bT (dM o sl d) (e.drop i.toNat)<=300)&&okV S (eH (kZ d) (e.drop i.toNat)))=false:=by
   rw[U,ug,xM,sR];cases h1:okV S (kZ d (.agg [.int .i64 n1,.int .i64 n3,.str s1,.lst l1]))
   ·simp
   rw[h1,Bool.and_true]at hb;rw[decide_eq_false (by have:=of_decide_eq_false hb.symm;omega)];rfl
  exact ⟨λh=>(by rw[a5]at h;cases h),λ_=>⟨_,_,(ho.aB (by cbv;repeat (simp only[j,e2,J,M];try cbv)):_=some (.ret,iq l2 sl n5))⟩⟩
 have M:=hcall;obtain ⟨n6,e5⟩:=kx (o.ar .add .i64 i 1);try have g5:n6=i+1:=e5.symm.trans (dm ho (by omega) (by omega))
 obtain ⟨a8,E⟩:=a4 rfl;have a0:=hb.symm;rw[af,decide_eq_true_eq]at a0;have a9:=sU (o:=o) (sl:=sl) d (.agg [.int .i64 n1,.int .i64 n3,.str s1,.lst l1]) (by omega);have a6:∀y∈l2,zZ y:=by
  intro y hy;rw[E]at hy;rcases List.mem_append.1 hy with h | h
  ·exact hI y h
  exact Di _ _ y h
 have I:=ih (by omega) n5 (by omega) (by omega) l2 (by rw[E,List.length_append];omega) a6;rw[U,ug,xM,sR,a0.2,Bool.true_and,<-List.append_assoc,<-E,show c+(dM o sl d (.agg [.int .i64 n1,.int .i64 n3,.str s1,.lst l1])+bT (dM o sl d) (e.drop (i+1).toNat))=n5+bT (dM o sl d) (e.drop (i+1).toNat) by omega];rw[show i+1=n6 by omega]at I |-;exact ⟨λh=>(λz (hz:o.loop 37700 (bI a e n2 n6 l2 sl n5)=some z)=>ho.aB (by rw[<-hz];cbv;repeat (simp only[j,e2,J,M,e5];try cbv)):∀z,o.loop 37700 (bI a e n2 n6 l2 sl n5)=some z->o.loop 37700 (bI a e n2 i S sl c)=some z) _ (I.1 h),λh=>by
  obtain ⟨y,v,h⟩:=I.2 h;exact ⟨y,v,(λz (hz:o.loop 37700 (bI a e n2 n6 l2 sl n5)=some z)=>ho.aB (by rw[<-hz];cbv;repeat (simp only[j,e2,J,M,e5];try cbv)):∀z,o.loop 37700 (bI a e n2 n6 l2 sl n5)=some z->o.loop 37700 (bI a e n2 i S sl c)=some z) _ h⟩⟩
theorem Oz (sl:Int) (d:Nat) (hd:d<=9) (IH:FT o sl d) (a:Int) (ha:a=10-d) (e:Lq) (m:Nat) (hT:∀x∈e,Tm m x) (n2:Int) (hn:(e.length:Int)=n2) (hl:n2<=1048576):∀i:Int,0<=i->i<=(n2:Int)->∀c:Int,0<=c->c<=300->∀S,(S.length:Int)<=c->(∀y∈S,zZ y)->((decide (c+bT (dM o sl d) (e.drop i.toNat)<=300)&&okV S (eH (kZ d) (e.drop i.toNat)))=true->o.loop 37700 (bD a e n2 i S sl c)=some (.exit 0,eT (S++eH (kZ d) (e.drop i.toNat)) sl (c+bT (dM o sl d) (e.drop i.toNat))))/\((decide (c+bT (dM o sl d) (e.drop i.toNat)<=300)&&okV S (eH (kZ d) (e.drop i.toNat)))=false->∃y v,o.loop 37700 (bD a e n2 i S sl c)=some (.ret,gT y sl v)):=by
 refine cM (P:=λi=>∀c:Int,0<=c->c<=300->∀S,(S.length:Int)<=c->(∀y∈S,zZ y)->((decide (c+bT (dM o sl d) (e.drop i.toNat)<=300)&&okV S (eH (kZ d) (e.drop i.toNat)))=true->o.loop 37700 (bD a e n2 i S sl c)=some (.exit 0,eT (S++eH (kZ d) (e.drop i.toNat)) sl (c+bT (dM o sl d) (e.drop i.toNat))))/\((decide (c+bT (dM o sl d) (e.drop i.toNat)<=300)&&okV S (eH (kZ d) (e.drop i.toNat)))=false->∃y v,o.loop 37700 (bD a e n2 i S sl c)=some (.ret,gT y sl v))) (n2:Int) ?_;intro i h0 h1 ih;try dsimp only at ih |-
 intro c a1 O S hS hI;have s4:=fj (λx=>(jm o sl d x).1) (e.drop (i+1).toNat);rcases bn ho i n2 with ⟨j,g1⟩|⟨j,g1⟩
 ·rw[bL hn (by omega)];simp only[bT,eH,Int.add_zero,List.append_nil,okV,Bool.and_true];exact ⟨λ_=>(ho.aB (by cbv;repeat (simp only[j];try cbv)):_=some (.exit 0,eT S sl c)),λh=>absurd O (of_decide_eq_false h)⟩
 obtain ⟨x,a3,U,V⟩:=aF hn h0 g1;obtain ⟨m',n1,n3,s1,l1,a7,rfl,hs,hl,ht⟩:=bH (hT _ V);have e2:=ay ho h0 a3;obtain ⟨n4,J⟩:=kx (o.ar .add .i64 a 1);try have g3:n4=a+1:=J.symm.trans (dm ho (by omega) (by omega))
 have b4:=jm o sl d (.agg [.int .i64 n1,.int .i64 n3,.str s1,.lst l1]);obtain ⟨b,n5,l2,hcall,hb,a4⟩:=IH m n1 n3 s1 l1 (hT _ V) n4 c (by omega) a1 O S hS hI;cases b
 ·have M:=hcall;have a5:(decide (c+bT (dM o sl d) (e.drop i.toNat)<=300)&&okV S (eH (kZ d) (e.drop i.toNat)))=false:=by
   rw[U,ug,xM,sR];cases h1:okV S (kZ d (.agg [.int .i64 n1,.int .i64 n3,.str s1,.lst l1]))
   ·simp
   rw[h1,Bool.and_true]at hb;rw[decide_eq_false (by have:=of_decide_eq_false hb.symm;omega)];rfl
  exact ⟨λh=>(by rw[a5]at h;cases h),λ_=>⟨_,_,(ho.aB (by cbv;repeat (simp only[j,e2,J,M];try cbv)):_=some (.ret,gT l2 sl n5))⟩⟩
 have M:=hcall;obtain ⟨n6,e5⟩:=kx (o.ar .add .i64 i 1);try have g5:n6=i+1:=e5.symm.trans (dm ho (by omega) (by omega))
 obtain ⟨a8,E⟩:=a4 rfl;have a0:=hb.symm;rw[af,decide_eq_true_eq]at a0;have a9:=sU (o:=o) (sl:=sl) d (.agg [.int .i64 n1,.int .i64 n3,.str s1,.lst l1]) (by omega);have a6:∀y∈l2,zZ y:=by
  intro y hy;rw[E]at hy;rcases List.mem_append.1 hy with h | h
  ·exact hI y h
  exact Di _ _ y h
 have I:=ih (by omega) n5 (by omega) (by omega) l2 (by rw[E,List.length_append];omega) a6;rw[U,ug,xM,sR,a0.2,Bool.true_and,<-List.append_assoc,<-E,show c+(dM o sl d (.agg [.int .i64 n1,.int .i64 n3,.str s1,.lst l1])+bT (dM o sl d) (e.drop (i+1).toNat))=n5+bT (dM o sl d) (e.drop (i+1).toNat) by omega];rw[show i+1=n6 by omega]at I |-;exact ⟨λh=>(λz (hz:o.loop 37700 (bD a e n2 n6 l2 sl n5)=some z)=>ho.aB (by rw[<-hz];cbv;repeat (simp only[j,e2,J,M,e5];try cbv)):∀z,o.loop 37700 (bD a e n2 n6 l2 sl n5)=some z->o.loop 37700 (bD a e n2 i S sl c)=some z) _ (I.1 h),λh=>by
  obtain ⟨y,v,h⟩:=I.2 h;exact ⟨y,v,(λz (hz:o.loop 37700 (bD a e n2 n6 l2 sl n5)=some z)=>ho.aB (by rw[<-hz];cbv;repeat (simp only[j,e2,J,M,e5];try cbv)):∀z,o.loop 37700 (bD a e n2 n6 l2 sl n5)=some z->o.loop 37700 (bD a e n2 i S sl c)=some z) _ h⟩⟩
theorem QM (
           sl:Int) (ag:0<=sl/\sl<=400) (d:Nat) (hd:d<=9) (IH:FT o sl d) (m:Nat) (I e:Int) (E:By) (j:Lq) (hT:Tm m (.agg [.int .i64 I,.int .i64 e,.str E,.lst j])) (a c:Int) (ha:a=10-d) (am:0<=c) (an:c<=300) (S:Lq) (hS:(S.length:Int)<=c) (hI:∀y∈S,zZ y):∃b c' S',o.call 377 [.ptr (1,0) 0,.agg [.d (.int .i64 I),.d (.int .i64 e),.d (.str E),.d (.lst j)],.d (.int .i64 a)] [some (.box [.d (.int .i64 sl),.d (.int .i64 c),.arr (1,1) (3,1) none false]),some (.rows (3,1) S)]=some ⟨.d (.bool b),[some (.box [.d (.int .i64 sl),.d (.int .i64 c'),.arr (0,0) (3,1) none false]),none],[some (.rows (3,1) S')]⟩/\b=(decide (c+dM o sl (d+1) (.agg [.int .i64 I,.int .i64 e,.str E,.lst j])<=300)&&okV S (kZ (d+1) (.agg [.int .i64 I,.int .i64 e,.str E,.lst j])))/\(b=true->c'=c+dM o sl (d+1) (.agg [.int .i64 I,.int .i64 e,.str E,.lst j])/\S'=S++kZ (d+1) (.agg [.int .i64 I,.int .i64 e,.str E,.lst j])):=by
 obtain ⟨m,rfl,hs,hl,hT⟩:=ji hT;have b4:=jm o sl (d+1) (.agg [.int .i64 I,.int .i64 e,.str E,.lst j]);have s4:=fj (λx=>(jm o sl d x).1) j;obtain ⟨n1,e1⟩:=kx (o.ar .add .i64 c 1);try have g1:n1=c+1:=e1.symm.trans (dm ho (by omega) (by omega))
 rcases fB ho a 10 with ⟨e2,g2⟩|⟨e2,g2⟩
 ·rcases fB ho n1 300 with ⟨e3,g3⟩|⟨e3,g3⟩
  ·rcases av ho I 3 with ⟨e4,U⟩|⟨e4,U⟩
   ·rcases fB ho I 6 with ⟨V,g5⟩|⟨V,g5⟩
    ·obtain ⟨n2,M,g6⟩:=aC ho j;cases a1:mZ o I e E n2
     ·have e7:o.call 392 [.d (.int .i64 I),.d (.int .i64 e),.d (.str E),.d (.int .i64 n2)] []=some ⟨.d (.bool false),[],[]⟩:=(wj ho I e E n2 (by omega) (by omega) (by omega)).trans (by rw[a1]);have J:=(ho.aj (by cbv;repeat (simp only[e1,e2,e3,e4,V,M,e7];try cbv)):o.call 377 [.ptr (1,0) 0,.agg [.d (.int .i64 I),.d (.int .i64 e),.d (.str E),.d (.lst j)],.d (.int .i64 a)] [some (.box [.d (.int .i64 sl),.d (.int .i64 c),.arr (1,1) (3,1) none false]),some (.rows (3,1) S)]=some ⟨.d (.bool false),[some (.box [.d (.int .i64 sl),.d (.int .i64 n1),.arr (0,0) (3,1) none false]),none],[some (.rows (3,1) S)]⟩)
      subst g6;exact ⟨false,_,_,J,Ea (by rw[jd (by rw[pz U];exact a1)];omega),λh=>by cases h⟩
     have e7:o.call 392 [.d (.int .i64 I),.d (.int .i64 e),.d (.str E),.d (.int .i64 n2)] []=some ⟨.d (.bool true),[],[]⟩:=(wj ho I e E n2 (by omega) (by omega) (by omega)).trans (by rw[a1]);have a6:=QL ho sl d hd IH a ha j m hT n2 g6.symm (by omega) 0 (Int.le_refl _) (by omega) n1 (by omega) (by omega) S (by omega) hI;rw[show (0:Int).toNat=0 from rfl,List.drop_zero]at a6;cases hc:(decide (n1+bT (dM o sl d) j<=300)&&okV S (eH (kZ d) j))
     ·obtain ⟨l1,n3,e8⟩:=a6.2 hc;have J:=(ho.aj (by cbv at e8;cbv;repeat (simp only[e1,e2,e3,e4,V,M,e7,e8];try cbv)):o.call 377 [.ptr (1,0) 0,.agg [.d (.int .i64 I),.d (.int .i64 e),.d (.str E),.d (.lst j)],.d (.int .i64 a)] [some (.box [.d (.int .i64 sl),.d (.int .i64 c),.arr (1,1) (3,1) none false]),some (.rows (3,1) S)]=some ⟨.d (.bool false),[some (.box [.d (.int .i64 sl),.d (.int .i64 n3),.arr (0,0) (3,1) none false]),none],[some (.rows (3,1) l1)]⟩)
      subst g6;have hp:=nU (sl:=sl) (d:=d) ((pz U).trans a1);refine ⟨false,_,_,J,?_,λh=>by cases h⟩;rw[nC,if_neg U,List.nil_append];by_cases a7:c+dM o sl (d+1) (.agg [.int .i64 I,.int .i64 e,.str E,.lst j])<=300
      · have a9:n1+bT (dM o sl d) j<=300:=by rw[hp]at a7;split at a7<;>omega
        rw[decide_eq_true a9,Bool.true_and]at hc;rw[hc,Bool.and_false]
      rw[decide_eq_false a7];rfl
     obtain ⟨l1,n3,O,ao,e8⟩:∃l1 n3,l1=S++eH (kZ d) j/\n3=n1+bT (dM o sl d) j/\o.loop 37700 (bI a j n2 0 S sl n1)=some (.exit 0,fo l1 sl n3):=⟨_,_,rfl,rfl,a6.1 hc⟩
     have J:=(ho.aj (by cbv at e8;cbv;repeat (simp only[e1,e2,e3,e4,V,M,e7,e8];try cbv)):o.call 377 [.ptr (1,0) 0,.agg [.d (.int .i64 I),.d (.int .i64 e),.d (.str E),.d (.lst j)],.d (.int .i64 a)] [some (.box [.d (.int .i64 sl),.d (.int .i64 c),.arr (1,1) (3,1) none false]),some (.rows (3,1) S)]=some ⟨.d (.bool true),[some (.box [.d (.int .i64 sl),.d (.int .i64 n3),.arr (0,0) (3,1) none false]),none],[some (.rows (3,1) l1)]⟩)
     subst g6;have hp:=nU (sl:=sl) (d:=d) ((pz U).trans a1);rw[af,decide_eq_true_eq]at hc;rw[if_pos (by omega)]at hp;refine ⟨true,_,_,J,?_,λ_=>⟨by rw[hp];omega,by rw[O,nC,if_neg U];rfl⟩⟩;rw[hp,nC,if_neg U,List.nil_append,hc.2,decide_eq_true (by omega)];rfl
    exact ⟨false,_,_,(ho.aj (by cbv;repeat (simp only[e1,e2,e3,e4,V];try cbv)):_=some ⟨.d (.bool false),[some (.box [.d (.int .i64 sl),.d (.int .i64 n1),.arr (0,0) (3,1) none false]),none],[some (.rows (3,1) S)]⟩),Ea (by rw[jd (by rw[pz U];exact Ja g5)];omega),λh=>by cases h⟩
   obtain ⟨n2,V⟩:=kx (o.ar .sub .i64 sl 1);try have g5:n2=sl-1:=V.symm.trans (gj ho (by omega) (by omega))
   cases M:jx e (-1) n2
   ·have g6:=r9 M;have e7:o.call 89 [.d (.int .i64 e),.d (.int .i64 (-1)),.d (.int .i64 n2)] []=some ⟨.d (.bool false),[],[]⟩:=(aD ho e (-1) n2).trans (by rw[M]);have J:=(ho.aj (by cbv;repeat (simp only[e1,e2,e3,e4,V,M,e7];try cbv)):o.call 377 [.ptr (1,0) 0,.agg [.d (.int .i64 I),.d (.int .i64 e),.d (.str E),.d (.lst j)],.d (.int .i64 a)] [some (.box [.d (.int .i64 sl),.d (.int .i64 c),.arr (1,1) (3,1) none false]),some (.rows (3,1) S)]=some ⟨.d (.bool false),[some (.box [.d (.int .i64 sl),.d (.int .i64 n1),.arr (0,0) (3,1) none false]),none],[some (.rows (3,1) S)]⟩)
    subst U g5;exact ⟨false,_,_,J,Ea (by rw[jd (by rw[lp,M];simp)];omega),λh=>by cases h⟩
   have g6:=cL M;have e7:o.call 89 [.d (.int .i64 e),.d (.int .i64 (-1)),.d (.int .i64 n2)] []=some ⟨.d (.bool true),[],[]⟩:=(aD ho e (-1) n2).trans (by rw[M]);rcases rE ho E ⟨#[]⟩with ⟨e8,g8⟩|⟨e8,g8⟩
   ·obtain ⟨n3,e9,g9⟩:=aC ho j;rcases fB ho n3 0 with ⟨a3,aa⟩|⟨a3,aa⟩
    ·rcases jc ho e 0 with ⟨a5,ac⟩|⟨a5,ac⟩
     ·obtain ⟨l1,O⟩:∃l,S++[.int .i64 e]=l:=⟨_,rfl⟩
      have a4:o.app S [.int .i64 e]=l1:=(ho.app _ _).trans O;have a8:o.fits 1 8 l1=true:=by exact cW ho (by rw[<-O,List.length_append];simp only[List.length_cons,List.length_nil];omega) (by decide) (λz hz=>k_ (by rw[<-O]at hz;rcases List.mem_append.1 hz with h | h;exact hI z h;exact ⟨e,List.mem_singleton.1 h⟩))
      have J:=(ho.aj (by cbv;repeat (simp only[e1,e2,e3,e4,V,M,e7,e8,e9,a3,a5,a4,a8];try cbv)):o.call 377 [.ptr (1,0) 0,.agg [.d (.int .i64 I),.d (.int .i64 e),.d (.str E),.d (.lst j)],.d (.int .i64 a)] [some (.box [.d (.int .i64 sl),.d (.int .i64 c),.arr (1,1) (3,1) none false]),some (.rows (3,1) S)]=some ⟨.d (.bool true),[some (.box [.d (.int .i64 sl),.d (.int .i64 n1),.arr (0,0) (3,1) none false]),none],[some (.rows (3,1) l1)]⟩)
      subst U g5;obtain rfl:j=[]:=List.length_eq_zero_iff.1 (by omega);have hp:dM o sl (d+1) (.agg [.int .i64 3,.int .i64 e,.str E,.lst []])=1:=by
        rw[nU (by rw[lp,decide_eq_true g8,M,decide_eq_true (p:=(([]:Lq).length:Int)=0) rfl];rfl)];rfl
      refine ⟨true,_,_,J,?_,λ_=>⟨by rw[hp];omega,by rw[<-O,nC,if_pos rfl];rfl⟩⟩;rw[hp,nC,if_pos rfl,decide_eq_true (by omega)];simp only[eH,List.append_nil,okV,Dh];rw[decide_eq_true (p:=e<0) (by omega),Bool.true_or];rfl
     cases a0:iE (.int .i64 e) S
     ·have a4:o.call 311 [.d (.lst S),.d (.int .i64 e)] []=some ⟨.d (.bool false),[],[]⟩:=(qz ho S e hI (by omega)).trans (by rw[a0]);obtain ⟨l1,O⟩:∃l,S++[.int .i64 e]=l:=⟨_,rfl⟩
      have a8:o.app S [.int .i64 e]=l1:=(ho.app _ _).trans O;have ae:o.fits 1 8 l1=true:=by exact cW ho (by rw[<-O,List.length_append];simp only[List.length_cons,List.length_nil];omega) (by decide) (λz hz=>k_ (by rw[<-O]at hz;rcases List.mem_append.1 hz with h | h;exact hI z h;exact ⟨e,List.mem_singleton.1 h⟩))
      have J:=(ho.aj (by cbv;repeat (simp only[e1,e2,e3,e4,V,M,e7,e8,e9,a3,a5,a4,a8,ae];try cbv)):o.call 377 [.ptr (1,0) 0,.agg [.d (.int .i64 I),.d (.int .i64 e),.d (.str E),.d (.lst j)],.d (.int .i64 a)] [some (.box [.d (.int .i64 sl),.d (.int .i64 c),.arr (1,1) (3,1) none false]),some (.rows (3,1) S)]=some ⟨.d (.bool true),[some (.box [.d (.int .i64 sl),.d (.int .i64 n1),.arr (0,0) (3,1) none false]),none],[some (.rows (3,1) l1)]⟩)
      subst U g5;obtain rfl:j=[]:=List.length_eq_zero_iff.1 (by omega);have hp:dM o sl (d+1) (.agg [.int .i64 3,.int .i64 e,.str E,.lst []])=1:=by
        rw[nU (by rw[lp,decide_eq_true g8,M,decide_eq_true (p:=(([]:Lq).length:Int)=0) rfl];rfl)];rfl
      refine ⟨true,_,_,J,?_,λ_=>⟨by rw[hp];omega,by rw[<-O,nC,if_pos rfl];rfl⟩⟩;rw[hp,nC,if_pos rfl,decide_eq_true (by omega)];simp only[eH,List.append_nil,okV,Dh];rw[a0,Bool.not_false,Bool.or_true];rfl
     have a4:o.call 311 [.d (.lst S),.d (.int .i64 e)] []=some ⟨.d (.bool true),[],[]⟩:=(qz ho S e hI (by omega)).trans (by rw[a0]);have J:=(ho.aj (by cbv;repeat (simp only[e1,e2,e3,e4,V,M,e7,e8,e9,a3,a5,a4];try cbv)):o.call 377 [.ptr (1,0) 0,.agg [.d (.int .i64 I),.d (.int .i64 e),.d (.str E),.d (.lst j)],.d (.int .i64 a)] [some (.box [.d (.int .i64 sl),.d (.int .i64 c),.arr (1,1) (3,1) none false]),some (.rows (3,1) S)]=some ⟨.d (.bool false),[some (.box [.d (.int .i64 sl),.d (.int .i64 n1),.arr (0,0) (3,1) none false]),none],[some (.rows (3,1) S)]⟩)
     subst U g5;obtain rfl:j=[]:=List.length_eq_zero_iff.1 (by omega);exact ⟨false,_,_,J,by rw[nC,if_pos rfl];simp only[eH,List.append_nil,okV,Dh];rw[a0,decide_eq_false (p:=e<0) (by omega)];simp,λh=>by cases h⟩
    have J:=(ho.aj (by cbv;repeat (simp only[e1,e2,e3,e4,V,M,e7,e8,e9,a3];try cbv)):o.call 377 [.ptr (1,0) 0,.agg [.d (.int .i64 I),.d (.int .i64 e),.d (.str E),.d (.lst j)],.d (.int .i64 a)] [some (.box [.d (.int .i64 sl),.d (.int .i64 c),.arr (1,1) (3,1) none false]),some (.rows (3,1) S)]=some ⟨.d (.bool false),[some (.box [.d (.int .i64 sl),.d (.int .i64 n1),.arr (0,0) (3,1) none false]),none],[some (.rows (3,1) S)]⟩)
    subst U g5;exact ⟨false,_,_,J,Ea (by rw[jd (by rw[lp,decide_eq_false (p:=(j.length:Int)=0) (by omega)];simp)];omega),λh=>by cases h⟩
   have J:=(ho.aj (by cbv;repeat (simp only[e1,e2,e3,e4,V,M,e7,e8];try cbv)):o.call 377 [.ptr (1,0) 0,.agg [.d (.int .i64 I),.d (.int .i64 e),.d (.str E),.d (.lst j)],.d (.int .i64 a)] [some (.box [.d (.int .i64 sl),.d (.int .i64 c),.arr (1,1) (3,1) none false]),some (.rows (3,1) S)]=some ⟨.d (.bool false),[some (.box [.d (.int .i64 sl),.d (.int .i64 n1),.arr (0,0) (3,1) none false]),none],[some (.rows (3,1) S)]⟩)
   subst U g5;exact ⟨false,_,_,J,Ea (by rw[jd (by rw[lp,decide_eq_false g8];rfl)];omega),λh=>by cases h⟩
  exact ⟨false,_,_,(ho.aj (by cbv;repeat (simp only[e1,e2,e3];try cbv)):_=some ⟨.d (.bool false),[some (.box [.d (.int .i64 sl),.d (.int .i64 n1),.arr (0,0) (3,1) none false]),none],[some (.rows (3,1) S)]⟩),Ea (by omega),λh=>by cases h⟩
 omega
theorem sj {c n1 a e j:Int} {E:By} {I:Lq} {sl:Int} {S:Lq} (J:o.ar .add .i64 c 1=n1) (M:o.cmp .gtr a 10=true):o.call 377 [.ptr (1,0) 0,At e j E I,Ai a] [some (.box [Ai sl,Ai c,.arr (1,1) (3,1) none false]),some (.rows (3,1) S)]=some ⟨Ab false,[some (.box [Ai sl,Ai n1,.arr (0,0) (3,1) none false]),none],[some (.rows (3,1) S)]⟩:=by
 refine ho.aj ?_
 cbv
 repeat (simp only[*];try cbv)
theorem QN (sl:Int) (E:0<=sl/\sl<=400) (d:Nat) (U:d<=10):FT o sl d:=by
 induction d with
 | zero=>
  intro m k n s l h a c J e j S I hI;have V:dM o sl 0 (.agg [.int .i64 k,.int .i64 n,.str s,.lst l])=301:=rfl;obtain ⟨n1,M⟩:∃v,o.ar .add .i64 c 1=v:=⟨_,rfl⟩
  exact ⟨false,_,_,sj ho M (R6 ho (by omega)),Ea (by omega),λh=>by cases h⟩
 | succ d O=>
  intro m k n s l h a c J e j S I hI;exact QM ho sl E d (by omega) (O (by omega)) m k n s l h a c (by omega) e j S I hI
theorem QO (
           sl:Int) (a9:0<=sl/\sl<=400) (m:Nat) (I e:Int) (E:By) (j:Lq) (hT:Tm m (.agg [.int .i64 I,.int .i64 e,.str E,.lst j])):(∃c' S',o.call 377 [.ptr (1,0) 0,.agg [.d (.int .i64 I),.d (.int .i64 e),.d (.str E),.d (.lst j)],.d (.int .i64 1)] [some (.box [.d (.int .i64 sl),.d (.int .i64 0),.emp])]=some ⟨.d (.bool (decide (dM o sl 10 (.agg [.int .i64 I,.int .i64 e,.str E,.lst j])<=300)&&okV [] (kZ 10 (.agg [.int .i64 I,.int .i64 e,.str E,.lst j])))),[some (.box [.d (.int .i64 sl),.d (.int .i64 c'),.arr (0,0) (3,1) none false])],[some (.rows (3,1) S')]⟩)\/(∃c',(decide (dM o sl 10 (.agg [.int .i64 I,.int .i64 e,.str E,.lst j])<=300)&&okV [] (kZ 10 (.agg [.int .i64 I,.int .i64 e,.str E,.lst j])))=false/\o.call 377 [.ptr (1,0) 0,.agg [.d (.int .i64 I),.d (.int .i64 e),.d (.str E),.d (.lst j)],.d (.int .i64 1)] [some (.box [.d (.int .i64 sl),.d (.int .i64 0),.emp])]=some ⟨.d (.bool false),[some (.box [.d (.int .i64 sl),.d (.int .i64 c'),.emp])],[]⟩):=by
 obtain ⟨m,rfl,hs,hl,hT⟩:=ji hT;obtain ⟨c,aa⟩:∃c:Int,c=0:=⟨_,rfl⟩
 obtain ⟨a,ha⟩:∃a:Int,a=1:=⟨_,rfl⟩
 rw[<-aa,<-ha];have s4:=fj (λx=>(jm o sl 9 x).1) j;have hI:∀y∈([]:Lq),zZ y:=λy hy=>by cases hy
 obtain ⟨n1,e1⟩:=kx (o.ar .add .i64 c 1);try have g1:n1=c+1:=e1.symm.trans (dm ho (by omega) (by omega))
 rcases fB ho a 10 with ⟨e2,g2⟩|⟨e2,g2⟩
 ·rcases fB ho n1 300 with ⟨e3,g3⟩|⟨e3,g3⟩
  ·rcases av ho I 3 with ⟨e4,O⟩|⟨e4,O⟩
   ·rcases fB ho I 6 with ⟨S,g5⟩|⟨S,g5⟩
    ·obtain ⟨n2,M,g6⟩:=aC ho j;cases a1:mZ o I e E n2
     ·have U:o.call 392 [.d (.int .i64 I),.d (.int .i64 e),.d (.str E),.d (.int .i64 n2)] []=some ⟨.d (.bool false),[],[]⟩:=(wj ho I e E n2 (by omega) (by omega) (by omega)).trans (by rw[a1]);have J:=(ho.aj (by cbv;repeat (simp only[e1,e2,e3,e4,S,M,U];try cbv)):o.call 377 [.ptr (1,0) 0,.agg [.d (.int .i64 I),.d (.int .i64 e),.d (.str E),.d (.lst j)],.d (.int .i64 a)] [some (.box [.d (.int .i64 sl),.d (.int .i64 c),.emp])]=some ⟨.d (.bool false),[some (.box [.d (.int .i64 sl),.d (.int .i64 n1),.emp])],[]⟩)
      subst g6;exact .inr ⟨_,by rw[jd (by rw[pz O];exact a1)];rfl,J⟩
     have U:o.call 392 [.d (.int .i64 I),.d (.int .i64 e),.d (.str E),.d (.int .i64 n2)] []=some ⟨.d (.bool true),[],[]⟩:=(wj ho I e E n2 (by omega) (by omega) (by omega)).trans (by rw[a1]);have a5:=Oz ho sl 9 (by omega) (QN ho sl a9 9 (by omega)) a (by omega) j m hT n2 g6.symm (by omega) 0 (Int.le_refl _) (by omega) n1 (by omega) (by omega) [] (by simp;omega) hI;rw[show (0:Int).toNat=0 from rfl,List.drop_zero]at a5;cases hc:(decide (n1+bT (dM o sl 9) j<=300)&&okV [] (eH (kZ 9) j))
     ·obtain ⟨l1,n3,V⟩:=a5.2 hc;have J:=(ho.aj (by cbv at V;cbv;repeat (simp only[e1,e2,e3,e4,S,M,U,V];try cbv)):o.call 377 [.ptr (1,0) 0,.agg [.d (.int .i64 I),.d (.int .i64 e),.d (.str E),.d (.lst j)],.d (.int .i64 a)] [some (.box [.d (.int .i64 sl),.d (.int .i64 c),.emp])]=some ⟨.d (.bool false),[some (.box [.d (.int .i64 sl),.d (.int .i64 n3),.arr (0,0) (3,1) none false])],[some (.rows (3,1) l1)]⟩)
      subst g6;have hp:=nU (sl:=sl) (d:=9) ((pz O).trans a1);have hf:(decide (dM o sl 10 (.agg [.int .i64 I,.int .i64 e,.str E,.lst j])<=300)&&okV [] (kZ 10 (.agg [.int .i64 I,.int .i64 e,.str E,.lst j])))=false:=by
        rw[nC,if_neg O,List.nil_append];by_cases a6:dM o sl 10 (.agg [.int .i64 I,.int .i64 e,.str E,.lst j])<=300
        · have a8:n1+bT (dM o sl 9) j<=300:=by rw[hp]at a6;split at a6<;>omega
          rw[decide_eq_true a8,Bool.true_and]at hc;rw[hc,Bool.and_false]
        rw[decide_eq_false a6];rfl
      rw[hf];exact .inl ⟨_,_,J⟩
     obtain ⟨l1,n3,am,an,V⟩:∃l1 n3,l1=[]++eH (kZ 9) j/\n3=n1+bT (dM o sl 9) j/\o.loop 37700 (bD a j n2 0 [] sl n1)=some (.exit 0,eT l1 sl n3):=⟨_,_,rfl,rfl,a5.1 hc⟩
     have J:=(ho.aj (by cbv at V;cbv;repeat (simp only[e1,e2,e3,e4,S,M,U,V];try cbv)):o.call 377 [.ptr (1,0) 0,.agg [.d (.int .i64 I),.d (.int .i64 e),.d (.str E),.d (.lst j)],.d (.int .i64 a)] [some (.box [.d (.int .i64 sl),.d (.int .i64 c),.emp])]=some ⟨.d (.bool true),[some (.box [.d (.int .i64 sl),.d (.int .i64 n3),.arr (0,0) (3,1) none false])],[some (.rows (3,1) l1)]⟩)
     subst g6;have hp:=nU (sl:=sl) (d:=9) ((pz O).trans a1);rw[af,decide_eq_true_eq]at hc;rw[if_pos (by omega)]at hp;rw[hp,nC,if_neg O,List.nil_append,hc.2,decide_eq_true (by omega)];exact .inl ⟨_,_,J⟩
    exact .inr ⟨_,by rw[jd (by rw[pz O];exact Ja g5)];rfl,(ho.aj (by cbv;repeat (simp only[e1,e2,e3,e4,S];try cbv)):_=some ⟨.d (.bool false),[some (.box [.d (.int .i64 sl),.d (.int .i64 n1),.emp])],[]⟩)⟩
   obtain ⟨n2,S⟩:=kx (o.ar .sub .i64 sl 1);try have g5:n2=sl-1:=S.symm.trans (gj ho (by omega) (by omega))
   cases M:jx e (-1) n2
   ·have g6:=r9 M;have U:o.call 89 [.d (.int .i64 e),.d (.int .i64 (-1)),.d (.int .i64 n2)] []=some ⟨.d (.bool false),[],[]⟩:=(aD ho e (-1) n2).trans (by rw[M]);have J:=(ho.aj (by cbv;repeat (simp only[e1,e2,e3,e4,S,M,U];try cbv)):o.call 377 [.ptr (1,0) 0,.agg [.d (.int .i64 I),.d (.int .i64 e),.d (.str E),.d (.lst j)],.d (.int .i64 a)] [some (.box [.d (.int .i64 sl),.d (.int .i64 c),.emp])]=some ⟨.d (.bool false),[some (.box [.d (.int .i64 sl),.d (.int .i64 n1),.emp])],[]⟩)
    subst O g5;exact .inr ⟨_,by rw[jd (by rw[lp,M];simp)];rfl,J⟩
   have g6:=cL M;have U:o.call 89 [.d (.int .i64 e),.d (.int .i64 (-1)),.d (.int .i64 n2)] []=some ⟨.d (.bool true),[],[]⟩:=(aD ho e (-1) n2).trans (by rw[M]);rcases rE ho E ⟨#[]⟩with ⟨V,g8⟩|⟨V,g8⟩
   ·obtain ⟨n3,e9,g9⟩:=aC ho j;rcases fB ho n3 0 with ⟨a3,ac⟩|⟨a3,ac⟩
    ·rcases jc ho e 0 with ⟨a7,ae⟩|⟨a7,ae⟩
     ·have a4:o.fits 1 8 [.int .i64 e]=true:=by exact cW ho (by simp) (by decide) (λz hz=>k_ ⟨e,List.mem_singleton.1 hz⟩)
      have J:=(ho.aj (by cbv;repeat (simp only[e1,e2,e3,e4,S,M,U,V,e9,a3,a7,a4];try cbv)):o.call 377 [.ptr (1,0) 0,.agg [.d (.int .i64 I),.d (.int .i64 e),.d (.str E),.d (.lst j)],.d (.int .i64 a)] [some (.box [.d (.int .i64 sl),.d (.int .i64 c),.emp])]=some ⟨.d (.bool true),[some (.box [.d (.int .i64 sl),.d (.int .i64 n1),.arr (0,0) (3,1) none false])],[some (.rows (3,1) [.int .i64 e])]⟩)
      subst O g5;obtain rfl:j=[]:=List.length_eq_zero_iff.1 (by omega);have hp:dM o sl 10 (.agg [.int .i64 3,.int .i64 e,.str E,.lst []])=1:=by
        rw[nU (by rw[lp,decide_eq_true g8,M,decide_eq_true (p:=(([]:Lq).length:Int)=0) rfl];rfl)];rfl
      have hv:okV [] (kZ 10 (.agg [.int .i64 3,.int .i64 e,.str E,.lst []]))=true:=by
        rw[nC,if_pos rfl];simp only[eH,List.append_nil,okV,Dh];rw[decide_eq_true (p:=e<0) (by omega),Bool.true_or];rfl
      rw[hp,hv];exact .inl ⟨_,_,J⟩
     cases a0:iE (.int .i64 e) []
     ·have a4:o.call 311 [.d (.lst []),.d (.int .i64 e)] []=some ⟨.d (.bool false),[],[]⟩:=(qz ho [] e hI (by simp)).trans (by rw[a0]);have ag:o.fits 1 8 [.int .i64 e]=true:=by exact cW ho (by simp) (by decide) (λz hz=>k_ ⟨e,List.mem_singleton.1 hz⟩)
      have J:=(ho.aj (by cbv;repeat (simp only[e1,e2,e3,e4,S,M,U,V,e9,a3,a7,a4,ag];try cbv)):o.call 377 [.ptr (1,0) 0,.agg [.d (.int .i64 I),.d (.int .i64 e),.d (.str E),.d (.lst j)],.d (.int .i64 a)] [some (.box [.d (.int .i64 sl),.d (.int .i64 c),.emp])]=some ⟨.d (.bool true),[some (.box [.d (.int .i64 sl),.d (.int .i64 n1),.arr (0,0) (3,1) none false])],[some (.rows (3,1) [.int .i64 e])]⟩)
      subst O g5;obtain rfl:j=[]:=List.length_eq_zero_iff.1 (by omega);have hp:dM o sl 10 (.agg [.int .i64 3,.int .i64 e,.str E,.lst []])=1:=by
        rw[nU (by rw[lp,decide_eq_true g8,M,decide_eq_true (p:=(([]:Lq).length:Int)=0) rfl];rfl)];rfl
      have hv:okV [] (kZ 10 (.agg [.int .i64 3,.int .i64 e,.str E,.lst []]))=true:=by
        rw[nC,if_pos rfl];simp only[eH,List.append_nil,okV,Dh];rw[a0,Bool.not_false,Bool.or_true];rfl
      rw[hp,hv];exact .inl ⟨_,_,J⟩
     have a4:o.call 311 [.d (.lst []),.d (.int .i64 e)] []=some ⟨.d (.bool true),[],[]⟩:=(qz ho [] e hI (by simp)).trans (by rw[a0]);exact absurd (uh a0) (by simp)
    have J:=(ho.aj (by cbv;repeat (simp only[e1,e2,e3,e4,S,M,U,V,e9,a3];try cbv)):o.call 377 [.ptr (1,0) 0,.agg [.d (.int .i64 I),.d (.int .i64 e),.d (.str E),.d (.lst j)],.d (.int .i64 a)] [some (.box [.d (.int .i64 sl),.d (.int .i64 c),.emp])]=some ⟨.d (.bool false),[some (.box [.d (.int .i64 sl),.d (.int .i64 n1),.emp])],[]⟩)
    subst O g5;exact .inr ⟨_,by rw[jd (by rw[lp,decide_eq_false (p:=(j.length:Int)=0) (by omega)];simp)];rfl,J⟩
   have J:=(ho.aj (by cbv;repeat (simp only[e1,e2,e3,e4,S,M,U,V];try cbv)):o.call 377 [.ptr (1,0) 0,.agg [.d (.int .i64 I),.d (.int .i64 e),.d (.str E),.d (.lst j)],.d (.int .i64 a)] [some (.box [.d (.int .i64 sl),.d (.int .i64 c),.emp])]=some ⟨.d (.bool false),[some (.box [.d (.int .i64 sl),.d (.int .i64 n1),.emp])],[]⟩)
   subst O g5;exact .inr ⟨_,by rw[jd (by rw[lp,decide_eq_false g8];rfl)];rfl,J⟩
  omega
 omega
end
def HV:D->Bool
 | .int _ n=>n != -1
 | _=>true
def Fl (d:Nat) (t:D):Lq:=(kZ d t).filter HV
theorem uX {p:D->Bool} {f:D->Lq}:∀xs:Lq,(eH f xs).filter p=eH (λx=>(f x).filter p) xs
 | []=>rfl
 | x::xs=>by simp only[eH,List.filter_append,uX xs]
theorem HX {d:Nat} {k n:Int} {s:By} {l:Lq}:Fl (d+1) (.agg [.int .i64 k,.int .i64 n,.str s,.lst l])=(if k=3 then [.int .i64 n]else []).filter HV++eH (Fl d) l:=by
 unfold Fl;rw[nC,List.filter_append,uX]
theorem Nt {o:aM} {sl:Int}:∀(d:Nat) (t:D),dM o sl d t<=300->∀y∈kZ d t,∃n,y= .int .i64 n/\ -1<=n/\n<=sl-1:=by
 intro d t;unfold dM kZ;split
 ·rename_i d _ k _ n s l;intro h;split at h
  ·rename_i E;split at h
   ·rename_i O;intro y e;rcases List.mem_append.1 e with g | g
    ·split at g
     ·rename_i hk;subst hk;rw[lp,af,af]at E;have:=cL E.2;rw[List.mem_singleton]at g;exact ⟨n,g,by omega⟩
     cases g
    have I:∀xs:Lq,(∀x∈xs,∀y∈kZ d x,∃n,y= .int .i64 n/\ -1<=n/\n<=sl-1)->∀y∈eH (kZ d) xs,∃n,y= .int .i64 n/\ -1<=n/\n<=sl-1:=by
     intro xs;induction xs with
     | nil=>intro _ y e;cases e
     | cons x xs J=>
      intro j y e;rcases List.mem_append.1 e with g | g
      ·exact j x (by simp) y g
      exact J (λz M=>j z (by simp[M])) y g
    exact I l (λx j=>Nt (o:=o) (sl:=sl) d x (by have:=qw (f:=dM o sl d) (λx=>(jm o sl d x).1) j;omega)) y g
   omega
  omega
 intro h;omega
noncomputable def okW:Lq->Lq->Bool
 | _,[]=>true
 | S,v::vs=> !iE v S&&okW (S++[v]) vs
theorem Nu:∀(vs S:Lq),(∀y∈vs,∃n:Int,y= .int .i64 n/\ -1<=n)->okV S vs=okW (S.filter HV) (vs.filter HV)
 | [],S,_=>rfl
 | v::vs,S,h=>by
  obtain ⟨n,rfl,J⟩:=h v (by simp);have E:=Nu vs (S++[.int .i64 n]) λy I=>h y (by simp[I])
  simp only[okV];rw[E,List.filter_append];by_cases e:n= -1
  ·subst e;rw[show Dh S (.int .i64 (-1))=true by unfold Dh;rfl];simp[HV]
  have j:HV (.int .i64 n)=true:=by simp[HV,e]
  rw[List.filter_cons_of_pos (by exact j),List.filter_cons_of_pos (by exact j),List.filter_nil];simp only[okW];congr 1;show (decide (n<0) || !iE (.int .i64 n) S)=_;rw[decide_eq_false (by omega:¬n<0),Bool.false_or];congr 1;cases g:iE (.int .i64 n) (S.filter HV)
  ·exact Ep λh=>Er g (List.mem_filter.2 ⟨h,j⟩)
  exact xO (List.mem_filter.1 (uh g)).1
noncomputable def sq (o:aM) (p:D) (sl:Int):Bool:=jx sl 0 400&&(decide (dM o sl 10 p<=300)&&okV [] (kZ 10 p))
theorem Fm (d:Nat) (t:D):(Fl d t).length<=(kZ d t).length:=List.length_filter_le _ _
section
variable {o:aM} (ho:aQ cu bw o)
include ho
def kO (I a2 i a0_0 a0_1:Int) (e:By) (j:Lq) (J:Int):St:=⟨E 46 [(1,Ai I),(2,Ai a2),(3,Ai i),(4,.sp [.int .i64 a0_0,.int .i64 a0_1,.str e,.lst j] 0),(9,Ai J)],O 46 []⟩
def gM (i:Int):St:=⟨E 46 [(3,Ai i)],O 46 []⟩
def iA (a0_0 a0_1:Int) (e:By) (j:Lq) (i:Int) (y:Lq):St:=⟨E 35 [(1,.sp [.int .i64 a0_0,.int .i64 a0_1,.str e,.lst j] 0),(3,.arr (33,0) (3,1) none false),(4,Ai i)],O 35 [(33,[some (.rows (3,1) y)])]⟩
def fY (y:Lq):St:=⟨E 35 [(3,.arr (33,0) (3,1) none false)],O 35 [(33,[some (.rows (3,1) y)])]⟩
def cw (l1:Lq) (i:Int):St:=⟨E 39 [(5,Al l1),(6,Ai i)],O 39 []⟩
def bY (l1:Lq) (i e:Int):St:=⟨E 39 [(5,Al l1),(6,Ai i),(7,Ai e)],O 39 []⟩
def iG (l1:Lq) (i:Int):St:=⟨E 39 [(4,Ab false),(5,Al l1),(6,Ai i)],O 39 []⟩
def iH (l1:Lq) (i:Int):St:=⟨E 39 [(5,Al l1),(6,Ai i)],O 39 []⟩
def iI:St:=⟨E 39 [(4,Ab false)],O 39 []⟩
def iJ:St:=⟨E 39 [],O 39 []⟩
omit ho in
def Sr (o:aM) (sl:Int) (d:Nat):Prop:=∀m k n s l,Tm m (.agg [.int .i64 k,.int .i64 n,.str s,.lst l])->∀a b:Int,a=d->0<=b->b<=300->o.call 385 [.agg [.d (.int .i64 k),.d (.int .i64 n),.d (.str s),.d (.lst l)],.d (.int .i64 sl),.d (.int .i64 a),.d (.int .i64 b)] []=some ⟨.d (.int .i64 (if dM o sl d (.agg [.int .i64 k,.int .i64 n,.str s,.lst l])<=b then b-dM o sl d (.agg [.int .i64 k,.int .i64 n,.str s,.lst l])else-1)),[],[]⟩
omit ho in
def Ss (o:aM) (sl:Int) (d:Nat):Prop:=∀m k n s l,Tm m (.agg [.int .i64 k,.int .i64 n,.str s,.lst l])->dM o sl d (.agg [.int .i64 k,.int .i64 n,.str s,.lst l])<=300->o.call 386 [.agg [.d (.int .i64 k),.d (.int .i64 n),.d (.str s),.d (.lst l)]] []=some ⟨.d (.lst (Fl d (.agg [.int .i64 k,.int .i64 n,.str s,.lst l]))),[],[]⟩
theorem KE (E:Int) (d:Nat) (hd:d<=9) (IH:Sr o E d) (a2:Int) (a4:a2=d+1) (a0_0 a0_1:Int) (I:By) (e:Lq) (m:Nat) (S:∀x∈e,Tm m x) (n1:Int) (O:(e.length:Int)=n1) (hl:n1<=1048576):∀j:Int,0<=j->j<=(n1:Int)->∀i:Int,-1<=i->i<=300->o.loop 38500 (kO E a2 i a0_0 a0_1 I e j)=some (.exit 0,gM (if bT (dM o E d) (e.drop j.toNat)<=i then i-bT (dM o E d) (e.drop j.toNat)else-1)):=by
 refine cM (P:=λj=>∀i:Int,-1<=i->i<=300->o.loop 38500 (kO E a2 i a0_0 a0_1 I e j)=some (.exit 0,gM (if bT (dM o E d) (e.drop j.toNat)<=i then i-bT (dM o E d) (e.drop j.toNat)else-1))) (n1:Int) ?_;intro j U h1 V;try dsimp only at V |-
 intro i a5 a6;have s0:=fj (λx=>(jm o E d x).1) (e.drop j.toNat);refine ho.fA λR Q=> ?_
 have e1:o.len e=n1:=(jA ho _).trans O;conv=>lhs;cbv;rw[e1];cbv
 rcases bn ho j n1 with ⟨e2,g2⟩|⟨e2,g2⟩<;>(conv=>lhs;rw[e2];cbv)
 ·subst Q;show some (Out.exit 0,gM i)=_;rw[bL O (by omega)];simp only[bT,Int.sub_zero];by_cases h:0<=i
  · rw[if_pos h]
  rw[if_neg h,show i= -1 by omega]
 rcases jc ho i 0 with ⟨e3,g3⟩|⟨e3,g3⟩<;>(conv=>lhs;rw[e3];cbv)
 ·subst Q;show some (Out.exit 0,gM i)=_;rw[if_neg (by omega),show i= -1 by omega]
 obtain ⟨x,a0,a3,J⟩:=aF O U g2;obtain ⟨m',n2,n3,s1,l1,a7,rfl,hs,hl,ht⟩:=bH (S _ J);have e4:=ay ho U a0;obtain ⟨n4,e5,g5⟩:=aU ho a2 1;have b4:=jm o E d (.agg [.int .i64 n2,.int .i64 n3,.str s1,.lst l1]);have s4:=fj (λx=>(jm o E d x).1) (e.drop (j+1).toNat);obtain ⟨n5,g6,e6⟩:∃n5,n5=(if dM o E d (.agg [.int .i64 n2,.int .i64 n3,.str s1,.lst l1])<=i then i-dM o E d (.agg [.int .i64 n2,.int .i64 n3,.str s1,.lst l1])else-1)/\o.call 385 [.agg [.d (.int .i64 n2),.d (.int .i64 n3),.d (.str s1),.d (.lst l1)],.d (.int .i64 E),.d (.int .i64 n4),.d (.int .i64 i)] []=some ⟨.d (.int .i64 n5),[],[]⟩:=⟨_,rfl,IH _ _ _ _ _ (S _ J) _ _ (by omega) (by omega) (by omega)⟩
 have h5: -1<=n5/\n5<=300:=by rw[g6];split<;>omega
 obtain ⟨n6,e7,g7⟩:=bk ho j 1;conv=>lhs;rw[e4];cbv;rw[e5];cbv;rw[e6];cbv;rw[e7];cbv
 subst Q;show o.loop 38500 (kO E a2 n5 a0_0 a0_1 I e n6)=_;have M:=V (by omega) n5 (by omega) (by omega);rw[show j+1=n6 by omega]at M;refine M.trans ?_;rw[a3,show j+1=n6 by omega,ug];rw[show j+1=n6 by omega]at s4;congr 3;split at g6<;>(repeat' split)<;>omega
theorem KF (E:Int) (a0:0<=E/\E<=400) (d:Nat) (hd:d<=9) (IH:Sr o E d) (m:Nat) (a0_0 a0_1:Int) (j:By) (e:Lq) (S:Tm m (.agg [.int .i64 a0_0,.int .i64 a0_1,.str j,.lst e])) (a2 I:Int) (a4:a2=d+1) (h2:0<=I) (h3:I<=300):o.call 385 [.agg [.d (.int .i64 a0_0),.d (.int .i64 a0_1),.d (.str j),.d (.lst e)],.d (.int .i64 E),.d (.int .i64 a2),.d (.int .i64 I)] []=some ⟨.d (.int .i64 (if dM o E (d+1) (.agg [.int .i64 a0_0,.int .i64 a0_1,.str j,.lst e])<=I then I-dM o E (d+1) (.agg [.int .i64 a0_0,.int .i64 a0_1,.str j,.lst e])else-1)),[],[]⟩:=by
 obtain ⟨m,rfl,hs,hl,S⟩:=ji S;have s4:=fj (λx=>(jm o E d x).1) e;have b4:=jm o E (d+1) (.agg [.int .i64 a0_0,.int .i64 a0_1,.str j,.lst e]);rcases bn ho a2 1 with ⟨M,g1⟩|⟨M,g1⟩
 ·rcases bn ho I 1 with ⟨O,g2⟩|⟨O,g2⟩
  ·cases J:iD o a0_0 a0_1 j e.length E
   ·have U:o.call 405 [.agg [.d (.int .i64 a0_0),.d (.int .i64 a0_1),.d (.str j),.d (.lst e)],.d (.int .i64 E)] []=some ⟨.d (.bool false),[],[]⟩:=(FN ho _ _ _ _ E (by omega) (by omega)).trans (by rw[J]);have V:=jd (d:=d) J;exact (ho.aj (by cbv;repeat (simp only[M,O,U];try cbv)):_=some ⟨.d (.int .i64 (-1)),[],[]⟩).trans (by rw[if_neg (by omega)])
   have U:o.call 405 [.agg [.d (.int .i64 a0_0),.d (.int .i64 a0_1),.d (.str j),.d (.lst e)],.d (.int .i64 E)] []=some ⟨.d (.bool true),[],[]⟩:=(FN ho _ _ _ _ E (by omega) (by omega)).trans (by rw[J]);obtain ⟨n1,e4⟩:=kx (o.ar .sub .i64 I 1);try have g4:n1=I-1:=e4.symm.trans (gj ho (by omega) (by omega))
   have hl:=KE ho E d hd IH a2 (by omega) a0_0 a0_1 j e m S _ rfl (by omega) 0 (Int.le_refl _) (by omega) n1 (by omega) (by omega);rw[show (0:Int).toNat=0 from rfl,List.drop_zero]at hl;obtain ⟨n2,g5,e5⟩:∃n2,n2=(if bT (dM o E d) e<=n1 then n1-bT (dM o E d) e else-1)/\o.loop 38500 (kO E a2 n1 a0_0 a0_1 j e 0)=some (.exit 0,gM n2):=⟨_,rfl,hl⟩
   have V:=nU (sl:=E) (d:=d) J;exact (ho.aj (by cbv at e5;cbv;repeat (simp only[M,O,U,e4,e5];try cbv)):_=some ⟨.d (.int .i64 n2),[],[]⟩).trans (by rw[V,g5];congr 4;(repeat' split)<;>omega)
  exact (ho.aj (by cbv;repeat (simp only[M,O];try cbv)):_=some ⟨.d (.int .i64 (-1)),[],[]⟩).trans (by rw[if_neg (by omega)])
 omega
theorem Be {a2 a0_0 a0_1:Int} {e:By} {j:Lq} {E I:Int} (J:o.cmp .lss a2 1=true):o.call 385 [At a0_0 a0_1 e j,Ai E,Ai a2,Ai I] []=Ar (Ai (-1)):=by
 refine ho.aj ?_
 cbv
 repeat (simp only[*];try cbv)
theorem KG (sl:Int) (j:0<=sl/\sl<=400) (d:Nat) (M:d<=10):Sr o sl d:=by
 induction d with
 | zero=>
  intro m k n s l h a b I E e;have O:dM o sl 0 (.agg [.int .i64 k,.int .i64 n,.str s,.lst l])=301:=rfl;exact (Be ho (Kj ho (by omega))).trans (by rw[if_neg (by omega)])
 | succ d J=>
  intro m k n s l h a b I E e;exact KF ho sl j d (by omega) (J (by omega)) m k n s l h a b (by omega) E e
theorem Eb (sl:Int) (d:Nat) (IH:Ss o sl d) (a0_0 a0_1:Int) (E:By) (e:Lq) (m:Nat) (V:∀x∈e,Tm m x) (hP:∀x∈e,dM o sl d x<=300) (n1:Int) (S:(e.length:Int)=n1) (hl:n1<=1048576):∀i:Int,0<=i->i<=(n1:Int)->∀y:Lq,(∀z∈y,zZ z)->(y.length:Int)+bT (dM o sl d) (e.drop i.toNat)<=1000->o.loop 38600 (iA a0_0 a0_1 E e i y)=some (.exit 0,fY (y++eH (Fl d) (e.drop i.toNat))):=by
 refine cM (P:=λi=>∀y:Lq,(∀z∈y,zZ z)->(y.length:Int)+bT (dM o sl d) (e.drop i.toNat)<=1000->o.loop 38600 (iA a0_0 a0_1 E e i y)=some (.exit 0,fY (y++eH (Fl d) (e.drop i.toNat)))) (n1:Int) ?_;intro i h0 h1 U;try dsimp only at U |-
 intro y hI hb;have s4:=fj (λx=>(jm o sl d x).1) (e.drop (i+1).toNat);refine ho.fA λR Q=> ?_
 have e1:o.len e=n1:=(jA ho _).trans S;conv=>lhs;cbv;rw[e1];cbv
 rcases bn ho i n1 with ⟨e2,g2⟩|⟨e2,g2⟩<;>(conv=>lhs;rw[e2];cbv)
 ·subst Q;rw[bL S (by omega)];simp only[eH,List.append_nil];rfl
 obtain ⟨x,a0,M,j⟩:=aF S h0 g2;obtain ⟨m',n2,n3,s1,l1,a4,rfl,hs,hl,ht⟩:=bH (V _ j);have e3:=ay ho h0 a0;conv=>lhs;rw[e3];cbv
 obtain ⟨l2,I,e4⟩:∃l2,l2=Fl d (.agg [.int .i64 n2,.int .i64 n3,.str s1,.lst l1])/\o.call 386 [At n2 n3 s1 l1] []=Ar (Al l2):=⟨_,rfl,IH _ _ _ _ _ (V _ j) (hP _ j)⟩
 have a1:=sU (o:=o) (sl:=sl) d _ (hP _ j);have a3:=Fm d (.agg [.int .i64 n2,.int .i64 n3,.str s1,.lst l1]);rw[M,ug]at hb;have O:∀z∈y++l2,zZ z:=by
  intro z J;rcases List.mem_append.1 J with h | h
  ·exact hI z h
  rw[I]at h;exact Di _ _ z (List.mem_filter.1 h).1
 obtain ⟨l3,hl3⟩:∃l3,y++l2=l3:=⟨_,rfl⟩
 have e5:o.app y l2=l3:=(ho.app _ _).trans hl3;have a5:(l3.length:Int)<=y.length+dM o sl d (.agg [.int .i64 n2,.int .i64 n3,.str s1,.lst l1]):=by rw[<-hl3,List.length_append,I];omega
 have e6:o.fits 1 8 l3=true:=by exact cW ho (by omega) (by decide) (λz J=>k_ (O z (by rw[hl3];exact J)))
 obtain ⟨n4,e7,g7⟩:=bk ho i 1;conv=>lhs;rw[e4];cbv;rw[e5];cbv;rw[e6];cbv;rw[e7];cbv
 subst Q;rw[show i+1=n4 by omega]at U s4 hb;rw[M,xM,<-I,<-List.append_assoc,hl3,show i+1=n4 by omega];exact U (by omega) l3 (λz J=>O z (by rw[hl3];exact J)) (by omega)
theorem OA (sl:Int) (d:Nat) (IH:Ss o sl d) (m:Nat) (a0_0 a0_1:Int) (j:By) (e:Lq) (J:Tm m (.agg [.int .i64 a0_0,.int .i64 a0_1,.str j,.lst e])) (hP:dM o sl (d+1) (.agg [.int .i64 a0_0,.int .i64 a0_1,.str j,.lst e])<=300):o.call 386 [.agg [.d (.int .i64 a0_0),.d (.int .i64 a0_1),.d (.str j),.d (.lst e)]] []=some ⟨.d (.lst (Fl (d+1) (.agg [.int .i64 a0_0,.int .i64 a0_1,.str j,.lst e]))),[],[]⟩:=by
 obtain ⟨m,rfl,hs,hl,J⟩:=ji J;have a1:bT (dM o sl d) e<=300:=by
   rw[FO]at hP;split at hP
   ·split at hP<;>omega
   omega
 have M:∀x∈e,dM o sl d x<=300:=λx hx=>by have:=qw (f:=dM o sl d) (λx=>(jm o sl d x).1) hx;omega
 refine ho.aL λR Q=> ?_
 conv=>lhs;cbv
 rcases av ho a0_0 3 with ⟨U,g1⟩|⟨U,g1⟩<;>(conv=>lhs;rw[U];cbv)
 ·obtain ⟨l1,E,O⟩:∃l1,eH (Fl d) e=l1/\o.loop 38600 (iA a0_0 a0_1 j e 0 [])=some (.exit 0,fY l1):=⟨_,rfl,Eb ho sl d IH a0_0 a0_1 j e m J M _ rfl hl 0 (Int.le_refl _) (by omega) [] (λz I=>by cases I) (by rw[show (0:Int).toNat=0 from rfl,List.drop_zero];simp;omega)⟩
  conv at O=>lhs;cbv
  conv=>lhs;rw[O];cbv
  subst Q;rw[HX,if_neg g1];show _=some (cn.mk (.d (.lst (eH (Fl d) e))) [] []);rw[E];try rfl
 rcases cD ho a0_1 (-1)with ⟨O,g2⟩|⟨O,g2⟩<;>(conv=>lhs;rw[O];cbv)
 ·obtain ⟨l1,E,S⟩:∃l1,eH (Fl d) e=l1/\o.loop 38600 (iA a0_0 a0_1 j e 0 [])=some (.exit 0,fY l1):=⟨_,rfl,Eb ho sl d IH a0_0 a0_1 j e m J M _ rfl hl 0 (Int.le_refl _) (by omega) [] (λz I=>by cases I) (by rw[show (0:Int).toNat=0 from rfl,List.drop_zero];simp;omega)⟩
  conv at S=>lhs;cbv
  conv=>lhs;rw[S];cbv
  subst Q;subst g1 g2;rw[HX,if_pos rfl,<-E];try rfl
 have S:o.fits 1 8 [.int .i64 a0_1]=true:=by exact cW ho (by simp) (by decide) (λz I=>k_ ⟨a0_1,List.mem_singleton.1 I⟩)
 conv=>lhs;rw[S];cbv
 obtain ⟨l1,E,V⟩:∃l1,[.int .i64 a0_1]++eH (Fl d) e=l1/\o.loop 38600 (iA a0_0 a0_1 j e 0 [.int .i64 a0_1])=some (.exit 0,fY l1):=⟨_,rfl,Eb ho sl d IH a0_0 a0_1 j e m J M _ rfl hl 0 (Int.le_refl _) (by omega) [.int .i64 a0_1] (λz I=>⟨a0_1,List.mem_singleton.1 I⟩) (by rw[show (0:Int).toNat=0 from rfl,List.drop_zero];simp;omega)⟩
 conv at V=>lhs;cbv
 conv=>lhs;rw[V];cbv
 subst Q g1;have a0:HV (.int .i64 a0_1)=true:=by simp[HV,g2]
 rw[HX,if_pos rfl,List.filter_cons_of_pos (by exact a0),<-E];try rfl
theorem CT (sl:Int):∀d,Ss o sl d
 | 0=>λm k n s l h e=>by have j:dM o sl 0 (.agg [.int .i64 k,.int .i64 n,.str s,.lst l])=301:=rfl;omega
 | d+1=>λm k n s l h e=>OA ho sl d (CT sl d) m k n s l h e
theorem Sv (l1:Lq) (hI:∀y∈l1,zZ y) (i:Int) (hi:0<=i) (n2:Int) (hx:l1[i.toNat]? =some (.int .i64 n2)) (hb:i<=1048576) (a5:i.toNat<=l1.length):∀e:Int,0<=e->e<=(i:Int)->(iE (.int .i64 n2) ((l1.take i.toNat).drop e.toNat)=true->o.loop 36100 (bY l1 i e)=some (.ret,iG l1 i))/\(iE (.int .i64 n2) ((l1.take i.toNat).drop e.toNat)=false->o.loop 36100 (bY l1 i e)=some (.exit 2,iH l1 i)):=by
 refine cM (P:=λe=>(iE (.int .i64 n2) ((l1.take i.toNat).drop e.toNat)=true->o.loop 36100 (bY l1 i e)=some (.ret,iG l1 i))/\(iE (.int .i64 n2) ((l1.take i.toNat).drop e.toNat)=false->o.loop 36100 (bY l1 i e)=some (.exit 2,iH l1 i))) (i:Int) ?_;intro e h0 h1 ih;try dsimp only at ih |-
 rcases bn ho e i with ⟨j,g1⟩|⟨j,g1⟩
 ·rw[show (l1.take i.toNat).drop e.toNat=[]from List.drop_eq_nil_of_le (by rw[List.length_take];omega)];exact ⟨λh=>(by cases uh h),λ_=>(ho.aB (by cbv;repeat (simp only[j];try cbv)):_=some (.exit 2,iH l1 i))⟩
 have a0:((l1.take i.toNat).length:Int)=i:=by rw[List.length_take];omega
 obtain ⟨x,a1,J,a3⟩:=aF a0 h0 g1;obtain ⟨n1,rfl⟩:=hI _ (List.mem_of_mem_take a3);have M:o.cF l1 e=some (.int .i64 n1):=ay ho h0 (by rw[<-a1,List.getElem?_take_of_lt (by omega)]);have O:=ay ho hi hx;rcases av ho n1 n2 with ⟨I,S⟩|⟨I,S⟩
 ·obtain ⟨n3,U⟩:=kx (o.ar .add .i64 e 1);try have g5:n3=e+1:=U.symm.trans (dm ho (by omega) (by omega))
  have hq:iE (.int .i64 n2) ((l1.take i.toNat).drop e.toNat)=iE (.int .i64 n2) ((l1.take i.toNat).drop (e+1).toNat):=by
   rw[J];cases h:iE (.int .i64 n2) ((l1.take i.toNat).drop (e+1).toNat)
   ·exact Ep λg=>by
     rcases List.mem_cons.1 g with g | g
     ·injection g with _ g;exact S g.symm
     exact Er h g
   exact xO (List.mem_cons_of_mem _ (uh h))
  rw[hq];have E:=ih (by omega);rw[show e+1=n3 by omega]at E |-;exact ⟨λh=>(λz (V:o.loop 36100 (bY l1 i n3)=some z)=>ho.aB (by rw[<-V];cbv;repeat (simp only[j,M,O,I,U];try cbv)):∀z,o.loop 36100 (bY l1 i n3)=some z->o.loop 36100 (bY l1 i e)=some z) _ (E.1 h),λh=>(λz (V:o.loop 36100 (bY l1 i n3)=some z)=>ho.aB (by rw[<-V];cbv;repeat (simp only[j,M,O,I,U];try cbv)):∀z,o.loop 36100 (bY l1 i n3)=some z->o.loop 36100 (bY l1 i e)=some z) _ (E.2 h)⟩
 have a4:=(ho.aB (by cbv;repeat (simp only[j,M,O,I];try cbv)):o.loop 36100 (bY l1 i e)=some (.ret,iG l1 i))
 subst S;rw[J,xO (by simp)];exact ⟨λ_=>a4,λh=>by cases h⟩
theorem Sw (l1:Lq) (hI:∀y∈l1,zZ y) (n1:Int) (S:(l1.length:Int)=n1) (hl:n1<=1048576):∀i:Int,0<=i->i<=(n1:Int)->(okW (l1.take i.toNat) (l1.drop i.toNat)=false->o.loop 36101 (cw l1 i)=some (.ret,iI))/\(okW (l1.take i.toNat) (l1.drop i.toNat)=true->o.loop 36101 (cw l1 i)=some (.exit 0,iJ)):=by
 refine cM (P:=λi=>(okW (l1.take i.toNat) (l1.drop i.toNat)=false->o.loop 36101 (cw l1 i)=some (.ret,iI))/\(okW (l1.take i.toNat) (l1.drop i.toNat)=true->o.loop 36101 (cw l1 i)=some (.exit 0,iJ))) (n1:Int) ?_;intro i I h1 ih;try dsimp only at ih |-
 have J:o.len l1=n1:=(jA ho _).trans S;rcases bn ho i n1 with ⟨j,g2⟩|⟨j,g2⟩
 ·rw[bL S (by omega)];exact ⟨λh=>(by cases h),λ_=>(ho.aB (by cbv;repeat (simp only[J,j];try cbv)):_=some (.exit 0,iJ))⟩
 obtain ⟨x,M,O,a0⟩:=aF S I g2;obtain ⟨n2,rfl⟩:=hI _ a0;have U:=Sv ho l1 hI i I n2 M (by omega) (by omega) 0 (Int.le_refl _) I;rw[show (0:Int).toNat=0 from rfl,List.drop_zero]at U;have hs:=BO I M;cases hc:iE (.int .i64 n2) (l1.take i.toNat)
 ·have e:o.loop 36100 (bY l1 i 0)=some (.exit 2,iH l1 i):=U.2 hc;obtain ⟨n2,V⟩:=kx (o.ar .add .i64 i 1);try have g4:n2=i+1:=V.symm.trans (dm ho (by omega) (by omega))
  rw[O];simp only[okW];rw[hc,<-hs];have E:=ih (by omega);rw[show i+1=n2 by omega]at E |-;exact ⟨λh=>(λz (hz:o.loop 36101 (cw l1 n2)=some z)=>ho.aB (by rw[<-hz];cbv at e;cbv;repeat (simp only[J,j,e,V];try cbv)):∀z,o.loop 36101 (cw l1 n2)=some z->o.loop 36101 (cw l1 i)=some z) _ (E.1 h),λh=>(λz (hz:o.loop 36101 (cw l1 n2)=some z)=>ho.aB (by rw[<-hz];cbv at e;cbv;repeat (simp only[J,j,e,V];try cbv)):∀z,o.loop 36101 (cw l1 n2)=some z->o.loop 36101 (cw l1 i)=some z) _ (E.2 h)⟩
 have e:o.loop 36100 (bY l1 i 0)=some (.ret,iG l1 i):=U.1 hc;rw[O];simp only[okW];rw[hc];exact ⟨λ_=>(ho.aB (by cbv at e;cbv;repeat (simp only[J,j,e];try cbv)):_=some (.ret,iI)),λh=>by cases h⟩
theorem Gx {m:Nat} (a0_0 a0_1:Int) (e:By) (j:Lq) (O:Tm m (.agg [.int .i64 a0_0,.int .i64 a0_1,.str e,.lst j])) (I:Int):o.call 344 [At a0_0 a0_1 e j,Ai I] []=Ar (Ab (sq o (.agg [.int .i64 a0_0,.int .i64 a0_1,.str e,.lst j]) I)):=by
 refine ho.aL λR Q=> ?_
 conv=>lhs;cbv
 rcases aX I 0 400 with ⟨E,g1⟩|⟨E,g1⟩
 ·conv=>lhs;rw[aD ho,E];cbv
  subst Q;unfold sq;rw[E];rfl
 conv=>lhs;rw[aD ho,E];cbv
 have g1:=cL E;rcases QO ho I g1 m a0_0 a0_1 e j O with ⟨n1,l1,J⟩ | ⟨n1,hB,J⟩
 ·obtain ⟨S,M⟩:∃b:Bool,(decide (dM o I 10 (.agg [.int .i64 a0_0,.int .i64 a0_1,.str e,.lst j])<=300)&&okV [] (kZ 10 (.agg [.int .i64 a0_0,.int .i64 a0_1,.str e,.lst j])))=b:=⟨_,rfl⟩
  rw[M]at J;conv=>lhs;rw[J];cbv
  subst Q;unfold sq;rw[E,M];rfl
 conv=>lhs;rw[J];cbv
 subst Q;unfold sq;rw[E,hB];rfl
theorem Gy {m:Nat} (a0_0 a0_1:Int) (j:By) (E:Lq) (hT:Tm m (.agg [.int .i64 a0_0,.int .i64 a0_1,.str j,.lst E])) (I:Int):o.call 361 [.agg [.d (.int .i64 a0_0),.d (.int .i64 a0_1),.d (.str j),.d (.lst E)],.d (.int .i64 I)] []=some ⟨.d (.bool (sq o (.agg [.int .i64 a0_0,.int .i64 a0_1,.str j,.lst E]) I)),[],[]⟩:=by
 refine ho.aL λR Q=> ?_
 conv=>lhs;cbv
 rcases aX I 0 400 with ⟨J,g1⟩|⟨J,g1⟩
 ·conv=>lhs;rw[aJ ho,J];cbv
  subst Q;unfold sq;rw[J];rfl
 obtain ⟨n1,h1,e3⟩:∃n1,n1=(if dM o I 10 (.agg [.int .i64 a0_0,.int .i64 a0_1,.str j,.lst E])<=300 then 300-dM o I 10 (.agg [.int .i64 a0_0,.int .i64 a0_1,.str j,.lst E])else-1)/\o.call 385 [.agg [.d (.int .i64 a0_0),.d (.int .i64 a0_1),.d (.str j),.d (.lst E)],.d (.int .i64 I),.d (.int .i64 10),.d (.int .i64 300)] []=some ⟨.d (.int .i64 n1),[],[]⟩:=⟨_,rfl,KG ho I (cL J) 10 (by omega) _ _ _ _ _ hT _ _ (by omega) (by omega) (by omega)⟩
 have b4:=jm o I 10 (.agg [.int .i64 a0_0,.int .i64 a0_1,.str j,.lst E]);conv=>lhs;rw[aJ ho,J];cbv;rw[e3];cbv
 rcases bn ho n1 0 with ⟨e4,g4⟩|⟨e4,g4⟩<;>(conv=>lhs;rw[e4];cbv)
 ·have O:dM o I 10 (.agg [.int .i64 a0_0,.int .i64 a0_1,.str j,.lst E])<=300:=by split at h1<;>omega
  obtain ⟨l1,M,e5⟩:∃l1,l1=Fl 10 (.agg [.int .i64 a0_0,.int .i64 a0_1,.str j,.lst E])/\o.call 386 [.agg [.d (.int .i64 a0_0),.d (.int .i64 a0_1),.d (.str j),.d (.lst E)]] []=some ⟨.d (.lst l1),[],[]⟩:=⟨_,rfl,CT ho I 10 _ _ _ _ _ hT O⟩
  have a0:=sU (o:=o) (sl:=I) 10 _ O;have a3:=Fm 10 (.agg [.int .i64 a0_0,.int .i64 a0_1,.str j,.lst E]);have hW:=Nu (kZ 10 (.agg [.int .i64 a0_0,.int .i64 a0_1,.str j,.lst E])) [] (λy U=>by obtain ⟨n,e,h,_⟩:=Nt 10 _ O y U;exact ⟨n,e,h⟩);conv=>lhs;rw[e5];cbv
  have V:=Sw ho l1 (λy U=>Di _ _ y (by rw[M]at U;exact (List.mem_filter.1 U).1)) _ rfl (by rw[M];omega) 0 (Int.le_refl _) (by omega);rw[show (0:Int).toNat=0 from rfl,List.drop_zero,List.take_zero]at V;cases hc:okW [] l1
  ·have S:o.loop 36101 (cw l1 0)=some (.ret,iI):=V.1 hc;conv at S=>lhs;cbv
   conv=>lhs;rw[S];cbv
   subst Q;unfold sq;rw[J,decide_eq_true O,hW,List.filter_nil,show (kZ 10 (.agg [.int .i64 a0_0,.int .i64 a0_1,.str j,.lst E])).filter HV=l1 from M.symm,hc];rfl
  have S:o.loop 36101 (cw l1 0)=some (.exit 0,iJ):=V.2 hc;conv at S=>lhs;cbv
  conv=>lhs;rw[S];cbv
  subst Q;unfold sq;rw[J,decide_eq_true O,hW,List.filter_nil,show (kZ 10 (.agg [.int .i64 a0_0,.int .i64 a0_1,.str j,.lst E])).filter HV=l1 from M.symm,hc];rfl
 subst Q;unfold sq;rw[J,decide_eq_false (by split at h1<;>omega)];rfl
end
section
variable {o:aM} (ho:aQ cu bw o)
include ho
theorem Lw (fs st c_0 c_1:Lq) (i x_0 x_1:Int) (x_2:By) (x_3:Int) (hst:stk o st) (h1:1<=(st.length:Int)) (n3 n4:Int) (s1:By) (l1:Lq) (ht:st[((st.length:Int)-1).toNat]? =some (.agg [.int .i64 n3,.int .i64 n4,.str s1,.lst l1])) (h0:0<=i) (n5 n6:Int) (l3:Lq) (hf:fs[i.toNat]? =some (.agg [.int .i64 n5,.int .i64 n6,.own (31,4) l3])) (sl:Int) (hS:(l3.length:Int)=sl) (az:sl<=400) (hSl:∀x∈l3,Sl o x) (a8:0<=x_1) (n7 n8:Int) (s2:By) (e:Lq) (hp:c_1[x_1.toNat]? =some (.agg [.int .i64 n7,.int .i64 n8,.str s2,.lst e])) {m:Nat} (hP:Tm m (.agg [.int .i64 n7,.int .i64 n8,.str s2,.lst e])) (hM:dM o sl 10 (.agg [.int .i64 n7,.int .i64 n8,.str s2,.lst e])<=300):o.call 200 [.ptr (1,0) 0,Sc c_0 c_1,.prow (1,1) (192,3) i 0,.agg [Ai x_0,Ai x_1,As x_2,Ai x_3]] [some (Ob (1,1) (1,2)),Oo fs,Os st]=some (if (aH 10 (.agg [.int .i64 n7,.int .i64 n8,.str s2,.lst e]) (.agg [.int .i64 n3,.int .i64 n4,.str s1,.lst l1]) l3).1=true then ⟨Ai 7,[some (Ob (1,1) (0,0)),Oo (fs.set i.toNat (.agg [.int .i64 n5,.int .i64 n6,.own (31,4) (aH 10 (.agg [.int .i64 n7,.int .i64 n8,.str s2,.lst e]) (.agg [.int .i64 n3,.int .i64 n4,.str s1,.lst l1]) l3).2])),none],[Os (st.take ((st.length:Int)-1).toNat)]⟩else ⟨Ai 7,[some (Ob (1,1) (1,2)),Oo (fs.set i.toNat (.agg [.int .i64 n5,.int .i64 x_3,.own (31,4) l3])),Os st],[]⟩):=by
 have hb:=hst.1;have a3:i.toNat<fs.length:=(ax.1 hf).1;have a4:Rt o 8 (.agg [.int .i64 n3,.int .i64 n4,.str s1,.lst l1]):=hst.2 _ (List.mem_of_getElem? ht);have b0:=mq (o:=o) 10 (.agg [.int .i64 n7,.int .i64 n8,.str s2,.lst e]) (.agg [.int .i64 n3,.int .i64 n4,.str s1,.lst l1]) l3 a4 hSl;refine ho.aL λR Q=> ?_
 obtain ⟨n1,e1,g1⟩:=aC ho st;obtain ⟨n2,e2,g2⟩:=aU ho n1 1;have e3:o.cF st n2=some (.agg [.int .i64 n3,.int .i64 n4,.str s1,.lst l1]):=ay ho (by omega) (by rw[show n2=(st.length:Int)-1 by omega];exact ht);have e4:=ay ho h0 hf;have e5:o.flat l3=true:=by exact rF ho hSl
 obtain ⟨U,a5,e6⟩:∃U,l3=U/\o.call 289 [.arr (1,0) (31,4) none false] [Os l3]=some ⟨.arr (0,0) (31,4) none false,[Os l3],[Os U]⟩:=⟨_,rfl,Lp ho l3 (by omega) (λz hz=>Q_ (hSl z hz))⟩
 obtain ⟨l5,a9,e7⟩:∃z,z=fs/\o.set fs i (.agg [.int .i64 n5,.int .i64 n6,.own (31,4) l3])=z:=⟨_,rfl,by rw[ho.set];exact eO hf⟩
 have e8:=ay ho a8 hp;conv=>lhs;cbv;rw[e1];cbv;rw[e2];cbv;rw[e3];cbv;(try (rw[e3];cbv));rw[e4];cbv;rw[e5];cbv;rw[e6];cbv;(try (rw[e4];cbv));(try (rw[e5];cbv));rw[e7];cbv;rw[e8];cbv
 have hc:=Nz ho sl 10 _ _ _ _ _ hP hM _ _ _ _ a4 fs i n5 n6 l3 h0 hf hS hSl;obtain ⟨j,I⟩:∃z,fs.set i.toNat (.agg [.int .i64 n5,.int .i64 n6,.own (31,4) (aH 10 (.agg [.int .i64 n7,.int .i64 n8,.str s2,.lst e]) (.agg [.int .i64 n3,.int .i64 n4,.str s1,.lst l1]) l3).2])=z:=⟨_,rfl⟩
 rw[I,<-a9]at hc;cases J:(aH 10 (.agg [.int .i64 n7,.int .i64 n8,.str s2,.lst e]) (.agg [.int .i64 n3,.int .i64 n4,.str s1,.lst l1]) l3).1
 ·have e9:o.call 293 [.prow (1,0) (192,3) i 0,At n7 n8 s2 e,At n3 n4 s1 l1] [Oo l5]=some ⟨Ab false,[Oo j],[]⟩:=by rw[J]at hc;exact hc
  have V:o.flat U=true:=by exact rF ho (by rw[<-a5];exact hSl)
  obtain ⟨n9,M,E,⟨aa,ac,b1⟩,ae⟩:∃n9 M E,(n9=n5/\M=n6/\E=(aH 10 (.agg [.int .i64 n7,.int .i64 n8,.str s2,.lst e]) (.agg [.int .i64 n3,.int .i64 n4,.str s1,.lst l1]) l3).2)/\o.cF j i=some (.agg [.int .i64 n9,.int .i64 M,.own (31,4) E]):=⟨_,_,_,⟨rfl,rfl,rfl⟩,ay ho h0 (by rw[<-I];exact cq a3)⟩
  obtain ⟨a6,a0,ag⟩:∃z,z=fs.set i.toNat (.agg [.int .i64 n5,.int .i64 n6,.own (31,4) l3])/\o.set j i (.agg [.int .i64 n9,.int .i64 M,.own (31,4) U])=z:=⟨_,rfl,by rw[ho.set,<-I,List.set_set,aa,ac,<-a5]⟩
  obtain ⟨O,a1,S,⟨am,b2,an⟩,ao⟩:∃O a1 S,(O=n5/\a1=n6/\S=l3)/\o.cF a6 i=some (.agg [.int .i64 O,.int .i64 a1,.own (31,4) S]):=⟨_,_,_,⟨rfl,rfl,rfl⟩,ay ho h0 (by rw[a0];exact cq a3)⟩
  obtain ⟨b3,a7,ap⟩:∃z,fs.set i.toNat (.agg [.int .i64 n5,.int .i64 x_3,.own (31,4) l3])=z/\o.set a6 i (.agg [.int .i64 O,.int .i64 x_3,.own (31,4) S])=z:=⟨_,rfl,by rw[ho.set,a0,List.set_set,am,an]⟩
  conv=>lhs;rw[e9];cbv;rw[V];cbv;rw[ae];cbv;rw[ag];cbv;rw[ao];cbv;rw[ap];cbv
  subst Q;try rw[J]
  rw[if_neg Bool.false_ne_true,a7];try rfl
 have e9:o.call 293 [.prow (1,0) (192,3) i 0,At n7 n8 s2 e,At n3 n4 s1 l1] [Oo l5]=some ⟨Ab true,[Oo j],[]⟩:=by rw[J]at hc;exact hc
 obtain ⟨l8,E,b4,aw,V⟩:∃l8 E,l8=st.drop ((st.length:Int)-1).toNat/\E=st.take ((st.length:Int)-1).toNat/\o.call 197 [.ptr (1,0) 0,Ai 1] [some (Ob (1,1) (1,2)),Oo j,Os st]=some ⟨.arr (0,0) (31,4) none false,[some (Ob (1,1) (0,1)),Oo j,none],[Os l8,Os E]⟩:=⟨_,_,rfl,rfl,Lv ho j st 1 hst (by omega) h1 _ rfl⟩
 conv=>lhs;rw[e9];cbv;rw[V];cbv
 subst Q;try rw[J]
 rw[if_pos rfl,I,<-aw];try rfl
end
end T2
