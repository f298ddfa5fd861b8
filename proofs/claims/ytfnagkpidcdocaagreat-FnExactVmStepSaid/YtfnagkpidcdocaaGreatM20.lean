import Derived.Test.YtfnagkpidcdocaaGreatM19
set_option linter.all false
namespace T2
open Go Go.Vi
set_option maxRecDepth 100000
set_option maxHeartbeats 4000000
section
variable {o:aJ} (ho:aR cF bB o)
include ho
omit ho in
theorem iN {o:aJ} {sl:Int} {d:Nat} {k n:Int} {s:ByteArray} {l:List D} (h:gT o k n s l.length sl=false):dc o sl (d+1) (.agg [.int .i64 k,.int .i64 n,.str s,.lst l])=301:=by rw[CQ,h];rfl
omit ho in
theorem mU {o:aJ} {sl:Int} {d:Nat} {k n:Int} {s:ByteArray} {l:List D} (h:gT o k n s l.length sl=true):dc o sl (d+1) (.agg [.int .i64 k,.int .i64 n,.str s,.lst l])=if 1+bI (dc o sl d) l<=300 then 1+bI (dc o sl d) l else 301:=by rw[CQ,if_pos h]
omit ho in
theorem Bo {c t:Int} {S vs:List D} (h:300<c+t):false=(decide (c+t<=300)&&okV S vs):=by rw[decide_eq_false (by omega)];rfl
omit ho in
theorem kF {o:aJ} {n:Int} {s:ByteArray} {c sl:Int}:gT o 3 n s c sl=(decide (s=⟨#[]⟩)&&decide (c=0)&&iK n (-1) (sl-1)):=by unfold gT;rw[if_pos rfl]
omit ho in
theorem om {o:aJ} {k n:Int} {s:ByteArray} {c sl:Int} (h:k≠3):gT o k n s c sl=lY o k n s c:=by unfold gT;rw[if_neg h]
omit ho in
def FT (o:aJ) (sl:Int) (d:Nat):Prop:=∀m k n s l,Tm m (.agg [.int .i64 k,.int .i64 n,.str s,.lst l])->∀a c:Int,a=11-d->0<=c->c<=300->∀S,(S.length:Int)<=c->(∀y∈S,wY y)->
 ∃b c' S',o.call 377 [.ptr (1,0) 0,.agg [.d (.int .i64 k),.d (.int .i64 n),.d (.str s),.d (.lst l)],.d (.int .i64 a)] [some (.box [.d (.int .i64 sl),.d (.int .i64 c),.arr (1,1) (3,1) none false]),some (.rows (3,1) S)]=some ⟨.d (.bool b),[some (.box [.d (.int .i64 sl),.d (.int .i64 c'),.arr (0,0) (3,1) none false]),none],[some (.rows (3,1) S')]⟩/\b=(decide (c+dc o sl d (.agg [.int .i64 k,.int .i64 n,.str s,.lst l])<=300)&&okV S (kz d (.agg [.int .i64 k,.int .i64 n,.str s,.lst l])))/\(b=true->c'=c+dc o sl d (.agg [.int .i64 k,.int .i64 n,.str s,.lst l])/\S'=S++kz d (.agg [.int .i64 k,.int .i64 n,.str s,.lst l]))
theorem MV (sl:Int) (d:Nat) (hd:d<=9) (IH:FT o sl d) (a:Int) (ha:a=10-d) (p_3:List D) (m:Nat) (hT:∀x∈p_3,Tm m x) (n2:Int) (hn:(p_3.length:Int)=n2) (hl:n2<=1048576):∀i:Int,0<=i->i<=(n2:Int)->∀c:Int,0<=c->c<=300->∀S,(S.length:Int)<=c->(∀y∈S,wY y)->((decide (c+bI (dc o sl d) (p_3.drop i.toNat)<=300)&&okV S (dX (kz d) (p_3.drop i.toNat)))=true->o.loop 37700 (bA a p_3 n2 i S sl c)=some (.exit 0,eR (S++dX (kz d) (p_3.drop i.toNat)) sl (c+bI (dc o sl d) (p_3.drop i.toNat))))/\((decide (c+bI (dc o sl d) (p_3.drop i.toNat)<=300)&&okV S (dX (kz d) (p_3.drop i.toNat)))=false->∃y v,o.loop 37700 (bA a p_3 n2 i S sl c)=some (.ret,gL y sl v)):=by
 refine bV (P:=λi=>∀c:Int,0<=c->c<=300->∀S,(S.length:Int)<=c->(∀y∈S,wY y)->((decide (c+bI (dc o sl d) (p_3.drop i.toNat)<=300)&&okV S (dX (kz d) (p_3.drop i.toNat)))=true->o.loop 37700 (bA a p_3 n2 i S sl c)=some (.exit 0,eR (S++dX (kz d) (p_3.drop i.toNat)) sl (c+bI (dc o sl d) (p_3.drop i.toNat))))/\((decide (c+bI (dc o sl d) (p_3.drop i.toNat)<=300)&&okV S (dX (kz d) (p_3.drop i.toNat)))=false->∃y v,o.loop 37700 (bA a p_3 n2 i S sl c)=some (.ret,gL y sl v))) (n2:Int) ?_;intro i h0 h1 ih;try dsimp only at ih |-
 intro c hc0 hc1 S hS hI;have s4:=eL (λx=>(iY o sl d x).1) (p_3.drop (i+1).toNat);rcases aZ ho i n2 with ⟨e1,g1⟩|⟨e1,g1⟩
 ·rw[bf hn (by omega)];simp only[bI,dX,Int.add_zero,List.append_nil,okV,Bool.and_true];exact ⟨λ_=>(ho.aB (by cbv;repeat (simp only[e1];try cbv)):_=some (.exit 0,eR S sl c)),λh=>absurd hc1 (of_decide_eq_false h)⟩
 ·obtain ⟨x,hx0,hx1,hx2⟩:=ax hn h0 g1;obtain ⟨m',n1,n3,s1,l1,hd',rfl,hs,hl,ht⟩:=bP (hT _ hx2);have e2:=ak ho h0 hx0;obtain ⟨n4,e3⟩:=kx (o.ar .add .i64 a 1);try have g3:n4=a+1:=e3.symm.trans (ck ho (by omega) (by omega))
  have b4:=iY o sl d (.agg [.int .i64 n1,.int .i64 n3,.str s1,.lst l1]);obtain ⟨b,n5,l2,hcall,hb,hok⟩:=IH m n1 n3 s1 l1 (hT _ hx2) n4 c (by omega) hc0 hc1 S hS hI;cases b
  ·have e4:=hcall;have hfl:(decide (c+bI (dc o sl d) (p_3.drop i.toNat)<=300)&&okV S (dX (kz d) (p_3.drop i.toNat)))=false:=by
    rw[hx1,sO,vu,rq];cases h1:okV S (kz d (.agg [.int .i64 n1,.int .i64 n3,.str s1,.lst l1]))
    ·simp
    ·rw[h1,Bool.and_true]at hb;rw[decide_eq_false (by have:=of_decide_eq_false hb.symm;omega)];rfl
   exact ⟨λh=>(by rw[hfl]at h;cases h),λ_=>⟨_,_,(ho.aB (by cbv;repeat (simp only[e1,e2,e3,e4];try cbv)):_=some (.ret,gL l2 sl n5))⟩⟩
  ·have e4:=hcall;obtain ⟨n6,e5⟩:=kx (o.ar .add .i64 i 1);try have g5:n6=i+1:=e5.symm.trans (ck ho (by omega) (by omega))
   obtain ⟨hc5,hl2⟩:=hok rfl;have hb2:=hb.symm;rw[af,decide_eq_true_eq]at hb2;have hle:=ru (o:=o) (sl:=sl) d (.agg [.int .i64 n1,.int .i64 n3,.str s1,.lst l1]) (by omega);have hI2:∀y∈l2,wY y:=by
    intro y hy;rw[hl2]at hy;rcases List.mem_append.1 hy with h | h
    ·exact hI y h
    ·exact Ac _ _ y h
   have ih2:=ih (by omega) n5 (by omega) (by omega) l2 (by rw[hl2,List.length_append];omega) hI2;rw[hx1,sO,vu,rq,hb2.2,Bool.true_and,<-List.append_assoc,<-hl2,show c+(dc o sl d (.agg [.int .i64 n1,.int .i64 n3,.str s1,.lst l1])+bI (dc o sl d) (p_3.drop (i+1).toNat))=n5+bI (dc o sl d) (p_3.drop (i+1).toNat) by omega];rw[show i+1=n6 by omega]at ih2 |-;exact ⟨λh=>(λz (hz:o.loop 37700 (bA a p_3 n2 n6 l2 sl n5)=some z)=>ho.aB (by rw[<-hz];cbv;repeat (simp only[e1,e2,e3,e4,e5];try cbv)):∀z,o.loop 37700 (bA a p_3 n2 n6 l2 sl n5)=some z->o.loop 37700 (bA a p_3 n2 i S sl c)=some z) _ (ih2.1 h),λh=>by
    obtain ⟨y,v,h⟩:=ih2.2 h;exact ⟨y,v,(λz (hz:o.loop 37700 (bA a p_3 n2 n6 l2 sl n5)=some z)=>ho.aB (by rw[<-hz];cbv;repeat (simp only[e1,e2,e3,e4,e5];try cbv)):∀z,o.loop 37700 (bA a p_3 n2 n6 l2 sl n5)=some z->o.loop 37700 (bA a p_3 n2 i S sl c)=some z) _ h⟩⟩
theorem KW (sl:Int) (d:Nat) (hd:d<=9) (IH:FT o sl d) (a:Int) (ha:a=10-d) (p_3:List D) (m:Nat) (hT:∀x∈p_3,Tm m x) (n2:Int) (hn:(p_3.length:Int)=n2) (hl:n2<=1048576):∀i:Int,0<=i->i<=(n2:Int)->∀c:Int,0<=c->c<=300->∀S,(S.length:Int)<=c->(∀y∈S,wY y)->((decide (c+bI (dc o sl d) (p_3.drop i.toNat)<=300)&&okV S (dX (kz d) (p_3.drop i.toNat)))=true->o.loop 37700 (bp a p_3 n2 i S sl c)=some (.exit 0,eB (S++dX (kz d) (p_3.drop i.toNat)) sl (c+bI (dc o sl d) (p_3.drop i.toNat))))/\((decide (c+bI (dc o sl d) (p_3.drop i.toNat)<=300)&&okV S (dX (kz d) (p_3.drop i.toNat)))=false->∃y v,o.loop 37700 (bp a p_3 n2 i S sl c)=some (.ret,gj y sl v)):=by
 refine bV (P:=λi=>∀c:Int,0<=c->c<=300->∀S,(S.length:Int)<=c->(∀y∈S,wY y)->((decide (c+bI (dc o sl d) (p_3.drop i.toNat)<=300)&&okV S (dX (kz d) (p_3.drop i.toNat)))=true->o.loop 37700 (bp a p_3 n2 i S sl c)=some (.exit 0,eB (S++dX (kz d) (p_3.drop i.toNat)) sl (c+bI (dc o sl d) (p_3.drop i.toNat))))/\((decide (c+bI (dc o sl d) (p_3.drop i.toNat)<=300)&&okV S (dX (kz d) (p_3.drop i.toNat)))=false->∃y v,o.loop 37700 (bp a p_3 n2 i S sl c)=some (.ret,gj y sl v))) (n2:Int) ?_;intro i h0 h1 ih;try dsimp only at ih |-
 intro c hc0 hc1 S hS hI;have s4:=eL (λx=>(iY o sl d x).1) (p_3.drop (i+1).toNat);rcases aZ ho i n2 with ⟨e1,g1⟩|⟨e1,g1⟩
 ·rw[bf hn (by omega)];simp only[bI,dX,Int.add_zero,List.append_nil,okV,Bool.and_true];exact ⟨λ_=>(ho.aB (by cbv;repeat (simp only[e1];try cbv)):_=some (.exit 0,eB S sl c)),λh=>absurd hc1 (of_decide_eq_false h)⟩
 ·obtain ⟨x,hx0,hx1,hx2⟩:=ax hn h0 g1;obtain ⟨m',n1,n3,s1,l1,hd',rfl,hs,hl,ht⟩:=bP (hT _ hx2);have e2:=ak ho h0 hx0;obtain ⟨n4,e3⟩:=kx (o.ar .add .i64 a 1);try have g3:n4=a+1:=e3.symm.trans (ck ho (by omega) (by omega))
  have b4:=iY o sl d (.agg [.int .i64 n1,.int .i64 n3,.str s1,.lst l1]);obtain ⟨b,n5,l2,hcall,hb,hok⟩:=IH m n1 n3 s1 l1 (hT _ hx2) n4 c (by omega) hc0 hc1 S hS hI;cases b
  ·have e4:=hcall;have hfl:(decide (c+bI (dc o sl d) (p_3.drop i.toNat)<=300)&&okV S (dX (kz d) (p_3.drop i.toNat)))=false:=by
    rw[hx1,sO,vu,rq];cases h1:okV S (kz d (.agg [.int .i64 n1,.int .i64 n3,.str s1,.lst l1]))
    ·simp
    ·rw[h1,Bool.and_true]at hb;rw[decide_eq_false (by have:=of_decide_eq_false hb.symm;omega)];rfl
   exact ⟨λh=>(by rw[hfl]at h;cases h),λ_=>⟨_,_,(ho.aB (by cbv;repeat (simp only[e1,e2,e3,e4];try cbv)):_=some (.ret,gj l2 sl n5))⟩⟩
  ·have e4:=hcall;obtain ⟨n6,e5⟩:=kx (o.ar .add .i64 i 1);try have g5:n6=i+1:=e5.symm.trans (ck ho (by omega) (by omega))
   obtain ⟨hc5,hl2⟩:=hok rfl;have hb2:=hb.symm;rw[af,decide_eq_true_eq]at hb2;have hle:=ru (o:=o) (sl:=sl) d (.agg [.int .i64 n1,.int .i64 n3,.str s1,.lst l1]) (by omega);have hI2:∀y∈l2,wY y:=by
    intro y hy;rw[hl2]at hy;rcases List.mem_append.1 hy with h | h
    ·exact hI y h
    ·exact Ac _ _ y h
   have ih2:=ih (by omega) n5 (by omega) (by omega) l2 (by rw[hl2,List.length_append];omega) hI2;rw[hx1,sO,vu,rq,hb2.2,Bool.true_and,<-List.append_assoc,<-hl2,show c+(dc o sl d (.agg [.int .i64 n1,.int .i64 n3,.str s1,.lst l1])+bI (dc o sl d) (p_3.drop (i+1).toNat))=n5+bI (dc o sl d) (p_3.drop (i+1).toNat) by omega];rw[show i+1=n6 by omega]at ih2 |-;exact ⟨λh=>(λz (hz:o.loop 37700 (bp a p_3 n2 n6 l2 sl n5)=some z)=>ho.aB (by rw[<-hz];cbv;repeat (simp only[e1,e2,e3,e4,e5];try cbv)):∀z,o.loop 37700 (bp a p_3 n2 n6 l2 sl n5)=some z->o.loop 37700 (bp a p_3 n2 i S sl c)=some z) _ (ih2.1 h),λh=>by
    obtain ⟨y,v,h⟩:=ih2.2 h;exact ⟨y,v,(λz (hz:o.loop 37700 (bp a p_3 n2 n6 l2 sl n5)=some z)=>ho.aB (by rw[<-hz];cbv;repeat (simp only[e1,e2,e3,e4,e5];try cbv)):∀z,o.loop 37700 (bp a p_3 n2 n6 l2 sl n5)=some z->o.loop 37700 (bp a p_3 n2 i S sl c)=some z) _ h⟩⟩
theorem MW (
           sl:Int) (hsl:0<=sl/\sl<=400) (d:Nat) (hd:d<=9) (IH:FT o sl d) (m:Nat) (p_0 p_1:Int) (p_2:ByteArray) (p_3:List D) (hT:Tm m (.agg [.int .i64 p_0,.int .i64 p_1,.str p_2,.lst p_3])) (a c:Int) (ha:a=10-d) (hc0:0<=c) (hc1:c<=300) (S:List D) (hS:(S.length:Int)<=c) (hI:∀y∈S,wY y):∃b c' S',o.call 377 [.ptr (1,0) 0,.agg [.d (.int .i64 p_0),.d (.int .i64 p_1),.d (.str p_2),.d (.lst p_3)],.d (.int .i64 a)] [some (.box [.d (.int .i64 sl),.d (.int .i64 c),.arr (1,1) (3,1) none false]),some (.rows (3,1) S)]=some ⟨.d (.bool b),[some (.box [.d (.int .i64 sl),.d (.int .i64 c'),.arr (0,0) (3,1) none false]),none],[some (.rows (3,1) S')]⟩/\b=(decide (c+dc o sl (d+1) (.agg [.int .i64 p_0,.int .i64 p_1,.str p_2,.lst p_3])<=300)&&okV S (kz (d+1) (.agg [.int .i64 p_0,.int .i64 p_1,.str p_2,.lst p_3])))/\(b=true->c'=c+dc o sl (d+1) (.agg [.int .i64 p_0,.int .i64 p_1,.str p_2,.lst p_3])/\S'=S++kz (d+1) (.agg [.int .i64 p_0,.int .i64 p_1,.str p_2,.lst p_3])):=by
 obtain ⟨m,rfl,hs,hl,hT⟩:=iC hT;have b4:=iY o sl (d+1) (.agg [.int .i64 p_0,.int .i64 p_1,.str p_2,.lst p_3]);have s4:=eL (λx=>(iY o sl d x).1) p_3;obtain ⟨n1,e1⟩:=kx (o.ar .add .i64 c 1);try have g1:n1=c+1:=e1.symm.trans (ck ho (by omega) (by omega))
 rcases fR ho a 10 with ⟨e2,g2⟩|⟨e2,g2⟩
 ·rcases fR ho n1 300 with ⟨e3,g3⟩|⟨e3,g3⟩
  ·rcases aj ho p_0 3 with ⟨e4,g4⟩|⟨e4,g4⟩
   ·rcases fR ho p_0 6 with ⟨e5,g5⟩|⟨e5,g5⟩
    ·obtain ⟨n2,e6,g6⟩:=ay ho p_3;cases he7:lY o p_0 p_1 p_2 n2
     ·have e7:o.call 392 [.d (.int .i64 p_0),.d (.int .i64 p_1),.d (.str p_2),.d (.int .i64 n2)] []=some ⟨.d (.bool false),[],[]⟩:=(uI ho p_0 p_1 p_2 n2 (by omega) (by omega) (by omega)).trans (by rw[he7]);have hp0:=(ho.au (by cbv;repeat (simp only[e1,e2,e3,e4,e5,e6,e7];try cbv)):o.call 377 [.ptr (1,0) 0,.agg [.d (.int .i64 p_0),.d (.int .i64 p_1),.d (.str p_2),.d (.lst p_3)],.d (.int .i64 a)] [some (.box [.d (.int .i64 sl),.d (.int .i64 c),.arr (1,1) (3,1) none false]),some (.rows (3,1) S)]=some ⟨.d (.bool false),[some (.box [.d (.int .i64 sl),.d (.int .i64 n1),.arr (0,0) (3,1) none false]),none],[some (.rows (3,1) S)]⟩)
      subst g6;exact ⟨false,_,_,hp0,Bo (by rw[iN (by rw[om g4];exact he7)];omega),λh=>by cases h⟩
     ·have e7:o.call 392 [.d (.int .i64 p_0),.d (.int .i64 p_1),.d (.str p_2),.d (.int .i64 n2)] []=some ⟨.d (.bool true),[],[]⟩:=(uI ho p_0 p_1 p_2 n2 (by omega) (by omega) (by omega)).trans (by rw[he7]);have hlp:=MV ho sl d hd IH a ha p_3 m hT n2 g6.symm (by omega) 0 (Int.le_refl _) (by omega) n1 (by omega) (by omega) S (by omega) hI;rw[show (0:Int).toNat=0 from rfl,List.drop_zero]at hlp;cases hc:(decide (n1+bI (dc o sl d) p_3<=300)&&okV S (dX (kz d) p_3))
      ·obtain ⟨l1,n3,e8⟩:=hlp.2 hc;have hp0:=(ho.au (by cbv at e8;cbv;repeat (simp only[e1,e2,e3,e4,e5,e6,e7,e8];try cbv)):o.call 377 [.ptr (1,0) 0,.agg [.d (.int .i64 p_0),.d (.int .i64 p_1),.d (.str p_2),.d (.lst p_3)],.d (.int .i64 a)] [some (.box [.d (.int .i64 sl),.d (.int .i64 c),.arr (1,1) (3,1) none false]),some (.rows (3,1) S)]=some ⟨.d (.bool false),[some (.box [.d (.int .i64 sl),.d (.int .i64 n3),.arr (0,0) (3,1) none false]),none],[some (.rows (3,1) l1)]⟩)
       subst g6;have hp:=mU (sl:=sl) (d:=d) ((om g4).trans he7);refine ⟨false,_,_,hp0,?_,λh=>by cases h⟩;rw[mC,if_neg g4,List.nil_append];by_cases hle:c+dc o sl (d+1) (.agg [.int .i64 p_0,.int .i64 p_1,.str p_2,.lst p_3])<=300
       · have hle2:n1+bI (dc o sl d) p_3<=300:=by rw[hp]at hle;split at hle<;>omega
         rw[decide_eq_true hle2,Bool.true_and]at hc;rw[hc,Bool.and_false]
       · rw[decide_eq_false hle];rfl
      ·obtain ⟨l1,n3,hl1,hn3,e8⟩:∃l1 n3,l1=S++dX (kz d) p_3/\n3=n1+bI (dc o sl d) p_3/\o.loop 37700 (bA a p_3 n2 0 S sl n1)=some (.exit 0,eR l1 sl n3):=⟨_,_,rfl,rfl,hlp.1 hc⟩
       have hp0:=(ho.au (by cbv at e8;cbv;repeat (simp only[e1,e2,e3,e4,e5,e6,e7,e8];try cbv)):o.call 377 [.ptr (1,0) 0,.agg [.d (.int .i64 p_0),.d (.int .i64 p_1),.d (.str p_2),.d (.lst p_3)],.d (.int .i64 a)] [some (.box [.d (.int .i64 sl),.d (.int .i64 c),.arr (1,1) (3,1) none false]),some (.rows (3,1) S)]=some ⟨.d (.bool true),[some (.box [.d (.int .i64 sl),.d (.int .i64 n3),.arr (0,0) (3,1) none false]),none],[some (.rows (3,1) l1)]⟩)
       subst g6;have hp:=mU (sl:=sl) (d:=d) ((om g4).trans he7);rw[af,decide_eq_true_eq]at hc;rw[if_pos (by omega)]at hp;refine ⟨true,_,_,hp0,?_,λ_=>⟨by rw[hp];omega,by rw[hl1,mC,if_neg g4];rfl⟩⟩;rw[hp,mC,if_neg g4,List.nil_append,hc.2,decide_eq_true (by omega)];rfl
    ·exact ⟨false,_,_,(ho.au (by cbv;repeat (simp only[e1,e2,e3,e4,e5];try cbv)):_=some ⟨.d (.bool false),[some (.box [.d (.int .i64 sl),.d (.int .i64 n1),.arr (0,0) (3,1) none false]),none],[some (.rows (3,1) S)]⟩),Bo (by rw[iN (by rw[om g4];exact Fp g5)];omega),λh=>by cases h⟩
   ·obtain ⟨n2,e5⟩:=kx (o.ar .sub .i64 sl 1);try have g5:n2=sl-1:=e5.symm.trans (dB ho (by omega) (by omega))
    cases e6:iK p_1 (-1) n2
    ·have g6:=qb e6;have e7:o.call 89 [.d (.int .i64 p_1),.d (.int .i64 (-1)),.d (.int .i64 n2)] []=some ⟨.d (.bool false),[],[]⟩:=(av ho p_1 (-1) n2).trans (by rw[e6]);have hp0:=(ho.au (by cbv;repeat (simp only[e1,e2,e3,e4,e5,e6,e7];try cbv)):o.call 377 [.ptr (1,0) 0,.agg [.d (.int .i64 p_0),.d (.int .i64 p_1),.d (.str p_2),.d (.lst p_3)],.d (.int .i64 a)] [some (.box [.d (.int .i64 sl),.d (.int .i64 c),.arr (1,1) (3,1) none false]),some (.rows (3,1) S)]=some ⟨.d (.bool false),[some (.box [.d (.int .i64 sl),.d (.int .i64 n1),.arr (0,0) (3,1) none false]),none],[some (.rows (3,1) S)]⟩)
     subst g4 g5;exact ⟨false,_,_,hp0,Bo (by rw[iN (by rw[kF,e6];simp)];omega),λh=>by cases h⟩
    ·have g6:=bH e6;have e7:o.call 89 [.d (.int .i64 p_1),.d (.int .i64 (-1)),.d (.int .i64 n2)] []=some ⟨.d (.bool true),[],[]⟩:=(av ho p_1 (-1) n2).trans (by rw[e6]);rcases qk ho p_2 ⟨#[]⟩with ⟨e8,g8⟩|⟨e8,g8⟩
     ·obtain ⟨n3,e9,g9⟩:=ay ho p_3;rcases fR ho n3 0 with ⟨e10,g10⟩|⟨e10,g10⟩
      ·rcases je ho p_1 0 with ⟨e11,g11⟩|⟨e11,g11⟩
       ·obtain ⟨l1,hl1⟩:∃l,S++[.int .i64 p_1]=l:=⟨_,rfl⟩
        have e12:o.app S [.int .i64 p_1]=l1:=(ho.app _ _).trans hl1;have e13:o.fits 1 8 l1=true:=by exact cn ho (by rw[<-hl1,List.length_append];simp only[List.length_cons,List.length_nil];omega) (by decide) (λz hz=>kA (by rw[<-hl1]at hz;rcases List.mem_append.1 hz with h | h;exact hI z h;exact ⟨p_1,List.mem_singleton.1 h⟩))
        have hp0:=(ho.au (by cbv;repeat (simp only[e1,e2,e3,e4,e5,e6,e7,e8,e9,e10,e11,e12,e13];try cbv)):o.call 377 [.ptr (1,0) 0,.agg [.d (.int .i64 p_0),.d (.int .i64 p_1),.d (.str p_2),.d (.lst p_3)],.d (.int .i64 a)] [some (.box [.d (.int .i64 sl),.d (.int .i64 c),.arr (1,1) (3,1) none false]),some (.rows (3,1) S)]=some ⟨.d (.bool true),[some (.box [.d (.int .i64 sl),.d (.int .i64 n1),.arr (0,0) (3,1) none false]),none],[some (.rows (3,1) l1)]⟩)
        subst g4 g5;obtain rfl:p_3=[]:=List.length_eq_zero_iff.1 (by omega);have hp:dc o sl (d+1) (.agg [.int .i64 3,.int .i64 p_1,.str p_2,.lst []])=1:=by
          rw[mU (by rw[kF,decide_eq_true g8,e6,decide_eq_true (p:=(([]:List D).length:Int)=0) rfl];rfl)];rfl
        refine ⟨true,_,_,hp0,?_,λ_=>⟨by rw[hp];omega,by rw[<-hl1,mC,if_pos rfl];rfl⟩⟩;rw[hp,mC,if_pos rfl,decide_eq_true (by omega)];simp only[dX,List.append_nil,okV,Aa];rw[decide_eq_true (p:=p_1<0) (by omega),Bool.true_or];rfl
       ·cases he12:gU (.int .i64 p_1) S
        ·have e12:o.call 311 [.d (.lst S),.d (.int .i64 p_1)] []=some ⟨.d (.bool false),[],[]⟩:=(pH ho S p_1 hI (by omega)).trans (by rw[he12]);obtain ⟨l1,hl1⟩:∃l,S++[.int .i64 p_1]=l:=⟨_,rfl⟩
         have e13:o.app S [.int .i64 p_1]=l1:=(ho.app _ _).trans hl1;have e14:o.fits 1 8 l1=true:=by exact cn ho (by rw[<-hl1,List.length_append];simp only[List.length_cons,List.length_nil];omega) (by decide) (λz hz=>kA (by rw[<-hl1]at hz;rcases List.mem_append.1 hz with h | h;exact hI z h;exact ⟨p_1,List.mem_singleton.1 h⟩))
         have hp0:=(ho.au (by cbv;repeat (simp only[e1,e2,e3,e4,e5,e6,e7,e8,e9,e10,e11,e12,e13,e14];try cbv)):o.call 377 [.ptr (1,0) 0,.agg [.d (.int .i64 p_0),.d (.int .i64 p_1),.d (.str p_2),.d (.lst p_3)],.d (.int .i64 a)] [some (.box [.d (.int .i64 sl),.d (.int .i64 c),.arr (1,1) (3,1) none false]),some (.rows (3,1) S)]=some ⟨.d (.bool true),[some (.box [.d (.int .i64 sl),.d (.int .i64 n1),.arr (0,0) (3,1) none false]),none],[some (.rows (3,1) l1)]⟩)
         subst g4 g5;obtain rfl:p_3=[]:=List.length_eq_zero_iff.1 (by omega);have hp:dc o sl (d+1) (.agg [.int .i64 3,.int .i64 p_1,.str p_2,.lst []])=1:=by
           rw[mU (by rw[kF,decide_eq_true g8,e6,decide_eq_true (p:=(([]:List D).length:Int)=0) rfl];rfl)];rfl
         refine ⟨true,_,_,hp0,?_,λ_=>⟨by rw[hp];omega,by rw[<-hl1,mC,if_pos rfl];rfl⟩⟩;rw[hp,mC,if_pos rfl,decide_eq_true (by omega)];simp only[dX,List.append_nil,okV,Aa];rw[he12,Bool.not_false,Bool.or_true];rfl
        ·have e12:o.call 311 [.d (.lst S),.d (.int .i64 p_1)] []=some ⟨.d (.bool true),[],[]⟩:=(pH ho S p_1 hI (by omega)).trans (by rw[he12]);have hp0:=(ho.au (by cbv;repeat (simp only[e1,e2,e3,e4,e5,e6,e7,e8,e9,e10,e11,e12];try cbv)):o.call 377 [.ptr (1,0) 0,.agg [.d (.int .i64 p_0),.d (.int .i64 p_1),.d (.str p_2),.d (.lst p_3)],.d (.int .i64 a)] [some (.box [.d (.int .i64 sl),.d (.int .i64 c),.arr (1,1) (3,1) none false]),some (.rows (3,1) S)]=some ⟨.d (.bool false),[some (.box [.d (.int .i64 sl),.d (.int .i64 n1),.arr (0,0) (3,1) none false]),none],[some (.rows (3,1) S)]⟩)
         subst g4 g5;obtain rfl:p_3=[]:=List.length_eq_zero_iff.1 (by omega);exact ⟨false,_,_,hp0,by rw[mC,if_pos rfl];simp only[dX,List.append_nil,okV,Aa];rw[he12,decide_eq_false (p:=p_1<0) (by omega)];simp,λh=>by cases h⟩
      ·have hp0:=(ho.au (by cbv;repeat (simp only[e1,e2,e3,e4,e5,e6,e7,e8,e9,e10];try cbv)):o.call 377 [.ptr (1,0) 0,.agg [.d (.int .i64 p_0),.d (.int .i64 p_1),.d (.str p_2),.d (.lst p_3)],.d (.int .i64 a)] [some (.box [.d (.int .i64 sl),.d (.int .i64 c),.arr (1,1) (3,1) none false]),some (.rows (3,1) S)]=some ⟨.d (.bool false),[some (.box [.d (.int .i64 sl),.d (.int .i64 n1),.arr (0,0) (3,1) none false]),none],[some (.rows (3,1) S)]⟩)
       subst g4 g5;exact ⟨false,_,_,hp0,Bo (by rw[iN (by rw[kF,decide_eq_false (p:=(p_3.length:Int)=0) (by omega)];simp)];omega),λh=>by cases h⟩
     ·have hp0:=(ho.au (by cbv;repeat (simp only[e1,e2,e3,e4,e5,e6,e7,e8];try cbv)):o.call 377 [.ptr (1,0) 0,.agg [.d (.int .i64 p_0),.d (.int .i64 p_1),.d (.str p_2),.d (.lst p_3)],.d (.int .i64 a)] [some (.box [.d (.int .i64 sl),.d (.int .i64 c),.arr (1,1) (3,1) none false]),some (.rows (3,1) S)]=some ⟨.d (.bool false),[some (.box [.d (.int .i64 sl),.d (.int .i64 n1),.arr (0,0) (3,1) none false]),none],[some (.rows (3,1) S)]⟩)
      subst g4 g5;exact ⟨false,_,_,hp0,Bo (by rw[iN (by rw[kF,decide_eq_false g8];rfl)];omega),λh=>by cases h⟩
  ·exact ⟨false,_,_,(ho.au (by cbv;repeat (simp only[e1,e2,e3];try cbv)):_=some ⟨.d (.bool false),[some (.box [.d (.int .i64 sl),.d (.int .i64 n1),.arr (0,0) (3,1) none false]),none],[some (.rows (3,1) S)]⟩),Bo (by omega),λh=>by cases h⟩
 ·omega
theorem qR {c n1 a p_0 p_1:Int} {p_2:ByteArray} {p_3:List D} {sl:Int} {S:List D} (e1:o.ar .add .i64 c 1=n1) (e2:o.cmp .gtr a 10=true):o.call 377 [.ptr (1,0) 0,At p_0 p_1 p_2 p_3,Ai a] [some (.box [Ai sl,Ai c,.arr (1,1) (3,1) none false]),some (.rows (3,1) S)]=some ⟨Ab false,[some (.box [Ai sl,Ai n1,.arr (0,0) (3,1) none false]),none],[some (.rows (3,1) S)]⟩:=by
 refine ho.au ?_
 cbv
 repeat' (first | (rw[e1];try cbv) | (rw[e2];try cbv))
theorem MX (sl:Int) (hsl:0<=sl/\sl<=400) (d:Nat) (hd:d<=10):FT o sl d:=by
 induction d with
 | zero=>
  intro m k n s l h a c ha hc0 hc1 S hS hI;have hm:dc o sl 0 (.agg [.int .i64 k,.int .i64 n,.str s,.lst l])=301:=rfl;obtain ⟨n1,e1⟩:∃v,o.ar .add .i64 c 1=v:=⟨_,rfl⟩
  exact ⟨false,_,_,qR ho e1 (Om ho (by omega)),Bo (by omega),λh=>by cases h⟩
 | succ d ih=>
  intro m k n s l h a c ha hc0 hc1 S hS hI;exact MW ho sl hsl d (by omega) (ih (by omega)) m k n s l h a c (by omega) hc0 hc1 S hS hI
theorem MY (
           sl:Int) (hsl:0<=sl/\sl<=400) (m:Nat) (p_0 p_1:Int) (p_2:ByteArray) (p_3:List D) (hT:Tm m (.agg [.int .i64 p_0,.int .i64 p_1,.str p_2,.lst p_3])):(∃c' S',o.call 377 [.ptr (1,0) 0,.agg [.d (.int .i64 p_0),.d (.int .i64 p_1),.d (.str p_2),.d (.lst p_3)],.d (.int .i64 1)] [some (.box [.d (.int .i64 sl),.d (.int .i64 0),.emp])]=some ⟨.d (.bool (decide (dc o sl 10 (.agg [.int .i64 p_0,.int .i64 p_1,.str p_2,.lst p_3])<=300)&&okV [] (kz 10 (.agg [.int .i64 p_0,.int .i64 p_1,.str p_2,.lst p_3])))),[some (.box [.d (.int .i64 sl),.d (.int .i64 c'),.arr (0,0) (3,1) none false])],[some (.rows (3,1) S')]⟩)\/(∃c',(decide (dc o sl 10 (.agg [.int .i64 p_0,.int .i64 p_1,.str p_2,.lst p_3])<=300)&&okV [] (kz 10 (.agg [.int .i64 p_0,.int .i64 p_1,.str p_2,.lst p_3])))=false/\o.call 377 [.ptr (1,0) 0,.agg [.d (.int .i64 p_0),.d (.int .i64 p_1),.d (.str p_2),.d (.lst p_3)],.d (.int .i64 1)] [some (.box [.d (.int .i64 sl),.d (.int .i64 0),.emp])]=some ⟨.d (.bool false),[some (.box [.d (.int .i64 sl),.d (.int .i64 c'),.emp])],[]⟩):=by
 obtain ⟨m,rfl,hs,hl,hT⟩:=iC hT;obtain ⟨c,hc0⟩:∃c:Int,c=0:=⟨_,rfl⟩
 obtain ⟨a,ha⟩:∃a:Int,a=1:=⟨_,rfl⟩
 rw[<-hc0,<-ha];have s4:=eL (λx=>(iY o sl 9 x).1) p_3;have hI:∀y∈([]:List D),wY y:=λy hy=>by cases hy
 obtain ⟨n1,e1⟩:=kx (o.ar .add .i64 c 1);try have g1:n1=c+1:=e1.symm.trans (ck ho (by omega) (by omega))
 rcases fR ho a 10 with ⟨e2,g2⟩|⟨e2,g2⟩
 ·rcases fR ho n1 300 with ⟨e3,g3⟩|⟨e3,g3⟩
  ·rcases aj ho p_0 3 with ⟨e4,g4⟩|⟨e4,g4⟩
   ·rcases fR ho p_0 6 with ⟨e5,g5⟩|⟨e5,g5⟩
    ·obtain ⟨n2,e6,g6⟩:=ay ho p_3;cases he7:lY o p_0 p_1 p_2 n2
     ·have e7:o.call 392 [.d (.int .i64 p_0),.d (.int .i64 p_1),.d (.str p_2),.d (.int .i64 n2)] []=some ⟨.d (.bool false),[],[]⟩:=(uI ho p_0 p_1 p_2 n2 (by omega) (by omega) (by omega)).trans (by rw[he7]);have hp0:=(ho.au (by cbv;repeat (simp only[e1,e2,e3,e4,e5,e6,e7];try cbv)):o.call 377 [.ptr (1,0) 0,.agg [.d (.int .i64 p_0),.d (.int .i64 p_1),.d (.str p_2),.d (.lst p_3)],.d (.int .i64 a)] [some (.box [.d (.int .i64 sl),.d (.int .i64 c),.emp])]=some ⟨.d (.bool false),[some (.box [.d (.int .i64 sl),.d (.int .i64 n1),.emp])],[]⟩)
      subst g6;exact .inr ⟨_,by rw[iN (by rw[om g4];exact he7)];rfl,hp0⟩
     ·have e7:o.call 392 [.d (.int .i64 p_0),.d (.int .i64 p_1),.d (.str p_2),.d (.int .i64 n2)] []=some ⟨.d (.bool true),[],[]⟩:=(uI ho p_0 p_1 p_2 n2 (by omega) (by omega) (by omega)).trans (by rw[he7]);have hlp:=KW ho sl 9 (by omega) (MX ho sl hsl 9 (by omega)) a (by omega) p_3 m hT n2 g6.symm (by omega) 0 (Int.le_refl _) (by omega) n1 (by omega) (by omega) [] (by simp;omega) hI;rw[show (0:Int).toNat=0 from rfl,List.drop_zero]at hlp;cases hc:(decide (n1+bI (dc o sl 9) p_3<=300)&&okV [] (dX (kz 9) p_3))
      ·obtain ⟨l1,n3,e8⟩:=hlp.2 hc;have hp0:=(ho.au (by cbv at e8;cbv;repeat (simp only[e1,e2,e3,e4,e5,e6,e7,e8];try cbv)):o.call 377 [.ptr (1,0) 0,.agg [.d (.int .i64 p_0),.d (.int .i64 p_1),.d (.str p_2),.d (.lst p_3)],.d (.int .i64 a)] [some (.box [.d (.int .i64 sl),.d (.int .i64 c),.emp])]=some ⟨.d (.bool false),[some (.box [.d (.int .i64 sl),.d (.int .i64 n3),.arr (0,0) (3,1) none false])],[some (.rows (3,1) l1)]⟩)
       subst g6;have hp:=mU (sl:=sl) (d:=9) ((om g4).trans he7);have hf:(decide (dc o sl 10 (.agg [.int .i64 p_0,.int .i64 p_1,.str p_2,.lst p_3])<=300)&&okV [] (kz 10 (.agg [.int .i64 p_0,.int .i64 p_1,.str p_2,.lst p_3])))=false:=by
         rw[mC,if_neg g4,List.nil_append];by_cases hle:dc o sl 10 (.agg [.int .i64 p_0,.int .i64 p_1,.str p_2,.lst p_3])<=300
         · have hle2:n1+bI (dc o sl 9) p_3<=300:=by rw[hp]at hle;split at hle<;>omega
           rw[decide_eq_true hle2,Bool.true_and]at hc;rw[hc,Bool.and_false]
         · rw[decide_eq_false hle];rfl
       rw[hf];exact .inl ⟨_,_,hp0⟩
      ·obtain ⟨l1,n3,hl1,hn3,e8⟩:∃l1 n3,l1=[]++dX (kz 9) p_3/\n3=n1+bI (dc o sl 9) p_3/\o.loop 37700 (bp a p_3 n2 0 [] sl n1)=some (.exit 0,eB l1 sl n3):=⟨_,_,rfl,rfl,hlp.1 hc⟩
       have hp0:=(ho.au (by cbv at e8;cbv;repeat (simp only[e1,e2,e3,e4,e5,e6,e7,e8];try cbv)):o.call 377 [.ptr (1,0) 0,.agg [.d (.int .i64 p_0),.d (.int .i64 p_1),.d (.str p_2),.d (.lst p_3)],.d (.int .i64 a)] [some (.box [.d (.int .i64 sl),.d (.int .i64 c),.emp])]=some ⟨.d (.bool true),[some (.box [.d (.int .i64 sl),.d (.int .i64 n3),.arr (0,0) (3,1) none false])],[some (.rows (3,1) l1)]⟩)
       subst g6;have hp:=mU (sl:=sl) (d:=9) ((om g4).trans he7);rw[af,decide_eq_true_eq]at hc;rw[if_pos (by omega)]at hp;rw[hp,mC,if_neg g4,List.nil_append,hc.2,decide_eq_true (by omega)];exact .inl ⟨_,_,hp0⟩
    ·exact .inr ⟨_,by rw[iN (by rw[om g4];exact Fp g5)];rfl,(ho.au (by cbv;repeat (simp only[e1,e2,e3,e4,e5];try cbv)):_=some ⟨.d (.bool false),[some (.box [.d (.int .i64 sl),.d (.int .i64 n1),.emp])],[]⟩)⟩
   ·obtain ⟨n2,e5⟩:=kx (o.ar .sub .i64 sl 1);try have g5:n2=sl-1:=e5.symm.trans (dB ho (by omega) (by omega))
    cases e6:iK p_1 (-1) n2
    ·have g6:=qb e6;have e7:o.call 89 [.d (.int .i64 p_1),.d (.int .i64 (-1)),.d (.int .i64 n2)] []=some ⟨.d (.bool false),[],[]⟩:=(av ho p_1 (-1) n2).trans (by rw[e6]);have hp0:=(ho.au (by cbv;repeat (simp only[e1,e2,e3,e4,e5,e6,e7];try cbv)):o.call 377 [.ptr (1,0) 0,.agg [.d (.int .i64 p_0),.d (.int .i64 p_1),.d (.str p_2),.d (.lst p_3)],.d (.int .i64 a)] [some (.box [.d (.int .i64 sl),.d (.int .i64 c),.emp])]=some ⟨.d (.bool false),[some (.box [.d (.int .i64 sl),.d (.int .i64 n1),.emp])],[]⟩)
     subst g4 g5;exact .inr ⟨_,by rw[iN (by rw[kF,e6];simp)];rfl,hp0⟩
    ·have g6:=bH e6;have e7:o.call 89 [.d (.int .i64 p_1),.d (.int .i64 (-1)),.d (.int .i64 n2)] []=some ⟨.d (.bool true),[],[]⟩:=(av ho p_1 (-1) n2).trans (by rw[e6]);rcases qk ho p_2 ⟨#[]⟩with ⟨e8,g8⟩|⟨e8,g8⟩
     ·obtain ⟨n3,e9,g9⟩:=ay ho p_3;rcases fR ho n3 0 with ⟨e10,g10⟩|⟨e10,g10⟩
      ·rcases je ho p_1 0 with ⟨e11,g11⟩|⟨e11,g11⟩
       ·have e12:o.fits 1 8 [.int .i64 p_1]=true:=by exact cn ho (by simp) (by decide) (λz hz=>kA ⟨p_1,List.mem_singleton.1 hz⟩)
        have hp0:=(ho.au (by cbv;repeat (simp only[e1,e2,e3,e4,e5,e6,e7,e8,e9,e10,e11,e12];try cbv)):o.call 377 [.ptr (1,0) 0,.agg [.d (.int .i64 p_0),.d (.int .i64 p_1),.d (.str p_2),.d (.lst p_3)],.d (.int .i64 a)] [some (.box [.d (.int .i64 sl),.d (.int .i64 c),.emp])]=some ⟨.d (.bool true),[some (.box [.d (.int .i64 sl),.d (.int .i64 n1),.arr (0,0) (3,1) none false])],[some (.rows (3,1) [.int .i64 p_1])]⟩)
        subst g4 g5;obtain rfl:p_3=[]:=List.length_eq_zero_iff.1 (by omega);have hp:dc o sl 10 (.agg [.int .i64 3,.int .i64 p_1,.str p_2,.lst []])=1:=by
          rw[mU (by rw[kF,decide_eq_true g8,e6,decide_eq_true (p:=(([]:List D).length:Int)=0) rfl];rfl)];rfl
        have hv:okV [] (kz 10 (.agg [.int .i64 3,.int .i64 p_1,.str p_2,.lst []]))=true:=by
          rw[mC,if_pos rfl];simp only[dX,List.append_nil,okV,Aa];rw[decide_eq_true (p:=p_1<0) (by omega),Bool.true_or];rfl
        rw[hp,hv];exact .inl ⟨_,_,hp0⟩
       ·cases he12:gU (.int .i64 p_1) []
        ·have e12:o.call 311 [.d (.lst []),.d (.int .i64 p_1)] []=some ⟨.d (.bool false),[],[]⟩:=(pH ho [] p_1 hI (by simp)).trans (by rw[he12]);have e13:o.fits 1 8 [.int .i64 p_1]=true:=by exact cn ho (by simp) (by decide) (λz hz=>kA ⟨p_1,List.mem_singleton.1 hz⟩)
         have hp0:=(ho.au (by cbv;repeat (simp only[e1,e2,e3,e4,e5,e6,e7,e8,e9,e10,e11,e12,e13];try cbv)):o.call 377 [.ptr (1,0) 0,.agg [.d (.int .i64 p_0),.d (.int .i64 p_1),.d (.str p_2),.d (.lst p_3)],.d (.int .i64 a)] [some (.box [.d (.int .i64 sl),.d (.int .i64 c),.emp])]=some ⟨.d (.bool true),[some (.box [.d (.int .i64 sl),.d (.int .i64 n1),.arr (0,0) (3,1) none false])],[some (.rows (3,1) [.int .i64 p_1])]⟩)
         subst g4 g5;obtain rfl:p_3=[]:=List.length_eq_zero_iff.1 (by omega);have hp:dc o sl 10 (.agg [.int .i64 3,.int .i64 p_1,.str p_2,.lst []])=1:=by
           rw[mU (by rw[kF,decide_eq_true g8,e6,decide_eq_true (p:=(([]:List D).length:Int)=0) rfl];rfl)];rfl
         have hv:okV [] (kz 10 (.agg [.int .i64 3,.int .i64 p_1,.str p_2,.lst []]))=true:=by
           rw[mC,if_pos rfl];simp only[dX,List.append_nil,okV,Aa];rw[he12,Bool.not_false,Bool.or_true];rfl
         rw[hp,hv];exact .inl ⟨_,_,hp0⟩
        ·have e12:o.call 311 [.d (.lst []),.d (.int .i64 p_1)] []=some ⟨.d (.bool true),[],[]⟩:=(pH ho [] p_1 hI (by simp)).trans (by rw[he12]);exact absurd (sP he12) (by simp)
      ·have hp0:=(ho.au (by cbv;repeat (simp only[e1,e2,e3,e4,e5,e6,e7,e8,e9,e10];try cbv)):o.call 377 [.ptr (1,0) 0,.agg [.d (.int .i64 p_0),.d (.int .i64 p_1),.d (.str p_2),.d (.lst p_3)],.d (.int .i64 a)] [some (.box [.d (.int .i64 sl),.d (.int .i64 c),.emp])]=some ⟨.d (.bool false),[some (.box [.d (.int .i64 sl),.d (.int .i64 n1),.emp])],[]⟩)
       subst g4 g5;exact .inr ⟨_,by rw[iN (by rw[kF,decide_eq_false (p:=(p_3.length:Int)=0) (by omega)];simp)];rfl,hp0⟩
     ·have hp0:=(ho.au (by cbv;repeat (simp only[e1,e2,e3,e4,e5,e6,e7,e8];try cbv)):o.call 377 [.ptr (1,0) 0,.agg [.d (.int .i64 p_0),.d (.int .i64 p_1),.d (.str p_2),.d (.lst p_3)],.d (.int .i64 a)] [some (.box [.d (.int .i64 sl),.d (.int .i64 c),.emp])]=some ⟨.d (.bool false),[some (.box [.d (.int .i64 sl),.d (.int .i64 n1),.emp])],[]⟩)
      subst g4 g5;exact .inr ⟨_,by rw[iN (by rw[kF,decide_eq_false g8];rfl)];rfl,hp0⟩
  ·omega
 ·omega
end
end T2
