import Derived.Test.YtfnagkpidcdocaaGreatM18
import Derived.Test.YtfnagkpidcdocaaGreatM16
set_option linter.all false
namespace T2
open Go Go.Vi
set_option maxRecDepth 100000
set_option maxHeartbeats 4000000
section
variable {o:aK} (ho:aU cF bE o)
include ho
omit ho in
theorem iw {o:aK} {sl:Int} {d:Nat} {k n:Int} {s:ByteArray} {l:List D} (h:gF o k n s l.length sl=false):cY o sl (d+1) (.agg [.int .i64 k,.int .i64 n,.str s,.lst l])=301:=by rw [CT,h];rfl
omit ho in
theorem l_ {o:aK} {sl:Int} {d:Nat} {k n:Int} {s:ByteArray} {l:List D} (h:gF o k n s l.length sl=true):cY o sl (d+1) (.agg [.int .i64 k,.int .i64 n,.str s,.lst l])=if 1+bP (cY o sl d) l<=300 then 1+bP (cY o sl d) l else 301:=by rw [CT,if_pos h]
omit ho in
theorem Bs {c t:Int} {S vs:List D} (h:300<c+t):false=(decide (c+t<=300)&&okV S vs):=by rw [decide_eq_false (by omega)];rfl
omit ho in
theorem jT {o:aK} {n:Int} {s:ByteArray} {c sl:Int}:gF o 3 n s c sl=(decide (s=⟨#[]⟩)&&decide (c=0)&&i_ n (-1) (sl-1)):=by unfold gF;rw [if_pos rfl]
omit ho in
theorem nk {o:aK} {k n:Int} {s:ByteArray} {c sl:Int} (h:k≠3):gF o k n s c sl=kZ o k n s c:=by unfold gF;rw [if_neg h]
omit ho in
def FT (o:aK) (sl:Int) (d:Nat):Prop:=∀m k n s l,Tm m (.agg [.int .i64 k,.int .i64 n,.str s,.lst l])->∀a c:Int,a=11-d->0<=c->c<=300->∀S,(S.length:Int)<=c->(∀y∈S,wK y)->
 ∃b c' S',o.call 377 [.ptr (1,0) 0,.agg [.d (.int .i64 k),.d (.int .i64 n),.d (.str s),.d (.lst l)],.d (.int .i64 a)] [some (.box [.d (.int .i64 sl),.d (.int .i64 c),.arr (1,1) (3,1) none false]),some (.rows (3,1) S)]=some ⟨.d (.bool b),[some (.box [.d (.int .i64 sl),.d (.int .i64 c'),.arr (0,0) (3,1) none false]),none],[some (.rows (3,1) S')]⟩/\b=(decide (c+cY o sl d (.agg [.int .i64 k,.int .i64 n,.str s,.lst l])<=300)&&okV S (jN d (.agg [.int .i64 k,.int .i64 n,.str s,.lst l])))/\(b=true->c'=c+cY o sl d (.agg [.int .i64 k,.int .i64 n,.str s,.lst l])/\S'=S++jN d (.agg [.int .i64 k,.int .i64 n,.str s,.lst l]))
theorem Mn (sl:Int) (d:Nat) (hd:d<=9) (IH:FT o sl d) (a:Int) (ha:a=10-d) (p_3:List D) (m:Nat) (hT:∀x∈p_3,Tm m x) (n2:Int) (hn:(p_3.length:Int)=n2) (hl:n2<=1048576):∀i:Int,0<=i->i<=(n2:Int)->∀c:Int,0<=c->c<=300->∀S,(S.length:Int)<=c->(∀y∈S,wK y)->((decide (c+bP (cY o sl d) (p_3.drop i.toNat)<=300)&&okV S (dJ (jN d) (p_3.drop i.toNat)))=true->o.loop 37700 (bq a p_3 n2 i S sl c)=some (.exit 0,eC (S++dJ (jN d) (p_3.drop i.toNat)) sl (c+bP (cY o sl d) (p_3.drop i.toNat))))/\((decide (c+bP (cY o sl d) (p_3.drop i.toNat)<=300)&&okV S (dJ (jN d) (p_3.drop i.toNat)))=false->∃y v,o.loop 37700 (bq a p_3 n2 i S sl c)=some (.ret,gA y sl v)):=by
 refine cU (P:=fun i=>∀c:Int,0<=c->c<=300->∀S,(S.length:Int)<=c->(∀y∈S,wK y)->((decide (c+bP (cY o sl d) (p_3.drop i.toNat)<=300)&&okV S (dJ (jN d) (p_3.drop i.toNat)))=true->o.loop 37700 (bq a p_3 n2 i S sl c)=some (.exit 0,eC (S++dJ (jN d) (p_3.drop i.toNat)) sl (c+bP (cY o sl d) (p_3.drop i.toNat))))/\((decide (c+bP (cY o sl d) (p_3.drop i.toNat)<=300)&&okV S (dJ (jN d) (p_3.drop i.toNat)))=false->∃y v,o.loop 37700 (bq a p_3 n2 i S sl c)=some (.ret,gA y sl v))) (n2:Int) ?_;intro i h0 h1 ih;try dsimp only at ih |-
 intro c hc0 hc1 S hS hI;have s4:=ez (fun x=>(iF o sl d x).1) (p_3.drop (i+1).toNat);rcases bB ho i n2 with ⟨e1,g1⟩|⟨e1,g1⟩
 ·rw [bR hn (by omega)];simp only [bP,dJ,Int.add_zero,List.append_nil,okV,Bool.and_true];exact ⟨fun _=>(ho.ay (by cbv;repeat (simp only [e1];try cbv)):o.loop 37700 (bq a p_3 n2 i S sl c)=some (.exit 0,eC S sl c)),fun h=>absurd hc1 (of_decide_eq_false h)⟩
 ·obtain ⟨x,hx0,hx1,hx2⟩:=aD hn h0 g1;obtain ⟨m',n1,n3,s1,l1,hd',rfl,hs,hl,ht⟩:=dc (hT _ hx2);have e2:=av ho h0 hx0;obtain ⟨n4,e3⟩:=kx (o.ar .add .i64 a 1);try have g3:n4=a+1:=e3.symm.trans (cM ho (by omega) (by omega))
  have b4:=iF o sl d (.agg [.int .i64 n1,.int .i64 n3,.str s1,.lst l1]);obtain ⟨b,n5,l2,hcall,hb,hok⟩:=IH m n1 n3 s1 l1 (hT _ hx2) n4 c (by omega) hc0 hc1 S hS hI;cases b
  ·have e4:=hcall;have hfl:(decide (c+bP (cY o sl d) (p_3.drop i.toNat)<=300)&&okV S (dJ (jN d) (p_3.drop i.toNat)))=false:=by
    rw [hx1,rD,uY,qp];cases h1:okV S (jN d (.agg [.int .i64 n1,.int .i64 n3,.str s1,.lst l1]))
    ·simp
    ·rw [h1,Bool.and_true]at hb;rw [decide_eq_false (by have:=of_decide_eq_false hb.symm;omega)];rfl
   exact ⟨fun h=>(by rw [hfl]at h;cases h),fun _=>⟨_,_,(ho.ay (by cbv;repeat (simp only [e1,e2,e3,e4];try cbv)):o.loop 37700 (bq a p_3 n2 i S sl c)=some (.ret,gA l2 sl n5))⟩⟩
  ·have e4:=hcall;obtain ⟨n6,e5⟩:=kx (o.ar .add .i64 i 1);try have g5:n6=i+1:=e5.symm.trans (cM ho (by omega) (by omega))
   obtain ⟨hc5,hl2⟩:=hok rfl;have hb2:=hb.symm;rw [ah,decide_eq_true_eq]at hb2;have hle:=qq (o:=o) (sl:=sl) d (.agg [.int .i64 n1,.int .i64 n3,.str s1,.lst l1]) (by omega);have hI2:∀y∈l2,wK y:=by
    intro y hy;rw [hl2]at hy;rcases List.mem_append.1 hy with h | h
    ·exact hI y h
    ·exact Aa _ _ y h
   have ih2:=ih (by omega) n5 (by omega) (by omega) l2 (by rw [hl2,List.length_append];omega) hI2;rw [hx1,rD,uY,qp,hb2.2,Bool.true_and,<-List.append_assoc,<-hl2,show c+(cY o sl d (.agg [.int .i64 n1,.int .i64 n3,.str s1,.lst l1])+bP (cY o sl d) (p_3.drop (i+1).toNat))=n5+bP (cY o sl d) (p_3.drop (i+1).toNat) by omega];rw [show i+1=n6 by omega]at ih2 |-;exact ⟨fun h=>(fun z (hz:o.loop 37700 (bq a p_3 n2 n6 l2 sl n5)=some z)=>ho.ay (by rw [<-hz];cbv;repeat (simp only [e1,e2,e3,e4,e5];try cbv)):∀z,o.loop 37700 (bq a p_3 n2 n6 l2 sl n5)=some z->o.loop 37700 (bq a p_3 n2 i S sl c)=some z) _ (ih2.1 h),fun h=>by
    obtain ⟨y,v,h⟩:=ih2.2 h;exact ⟨y,v,(fun z (hz:o.loop 37700 (bq a p_3 n2 n6 l2 sl n5)=some z)=>ho.ay (by rw [<-hz];cbv;repeat (simp only [e1,e2,e3,e4,e5];try cbv)):∀z,o.loop 37700 (bq a p_3 n2 n6 l2 sl n5)=some z->o.loop 37700 (bq a p_3 n2 i S sl c)=some z) _ h⟩⟩
theorem KC (sl:Int) (d:Nat) (hd:d<=9) (IH:FT o sl d) (a:Int) (ha:a=10-d) (p_3:List D) (m:Nat) (hT:∀x∈p_3,Tm m x) (n2:Int) (hn:(p_3.length:Int)=n2) (hl:n2<=1048576):∀i:Int,0<=i->i<=(n2:Int)->∀c:Int,0<=c->c<=300->∀S,(S.length:Int)<=c->(∀y∈S,wK y)->((decide (c+bP (cY o sl d) (p_3.drop i.toNat)<=300)&&okV S (dJ (jN d) (p_3.drop i.toNat)))=true->o.loop 37700 (bg a p_3 n2 i S sl c)=some (.exit 0,dU (S++dJ (jN d) (p_3.drop i.toNat)) sl (c+bP (cY o sl d) (p_3.drop i.toNat))))/\((decide (c+bP (cY o sl d) (p_3.drop i.toNat)<=300)&&okV S (dJ (jN d) (p_3.drop i.toNat)))=false->∃y v,o.loop 37700 (bg a p_3 n2 i S sl c)=some (.ret,fW y sl v)):=by
 refine cU (P:=fun i=>∀c:Int,0<=c->c<=300->∀S,(S.length:Int)<=c->(∀y∈S,wK y)->((decide (c+bP (cY o sl d) (p_3.drop i.toNat)<=300)&&okV S (dJ (jN d) (p_3.drop i.toNat)))=true->o.loop 37700 (bg a p_3 n2 i S sl c)=some (.exit 0,dU (S++dJ (jN d) (p_3.drop i.toNat)) sl (c+bP (cY o sl d) (p_3.drop i.toNat))))/\((decide (c+bP (cY o sl d) (p_3.drop i.toNat)<=300)&&okV S (dJ (jN d) (p_3.drop i.toNat)))=false->∃y v,o.loop 37700 (bg a p_3 n2 i S sl c)=some (.ret,fW y sl v))) (n2:Int) ?_;intro i h0 h1 ih;try dsimp only at ih |-
 intro c hc0 hc1 S hS hI;have s4:=ez (fun x=>(iF o sl d x).1) (p_3.drop (i+1).toNat);rcases bB ho i n2 with ⟨e1,g1⟩|⟨e1,g1⟩
 ·rw [bR hn (by omega)];simp only [bP,dJ,Int.add_zero,List.append_nil,okV,Bool.and_true];exact ⟨fun _=>(ho.ay (by cbv;repeat (simp only [e1];try cbv)):o.loop 37700 (bg a p_3 n2 i S sl c)=some (.exit 0,dU S sl c)),fun h=>absurd hc1 (of_decide_eq_false h)⟩
 ·obtain ⟨x,hx0,hx1,hx2⟩:=aD hn h0 g1;obtain ⟨m',n1,n3,s1,l1,hd',rfl,hs,hl,ht⟩:=dc (hT _ hx2);have e2:=av ho h0 hx0;obtain ⟨n4,e3⟩:=kx (o.ar .add .i64 a 1);try have g3:n4=a+1:=e3.symm.trans (cM ho (by omega) (by omega))
  have b4:=iF o sl d (.agg [.int .i64 n1,.int .i64 n3,.str s1,.lst l1]);obtain ⟨b,n5,l2,hcall,hb,hok⟩:=IH m n1 n3 s1 l1 (hT _ hx2) n4 c (by omega) hc0 hc1 S hS hI;cases b
  ·have e4:=hcall;have hfl:(decide (c+bP (cY o sl d) (p_3.drop i.toNat)<=300)&&okV S (dJ (jN d) (p_3.drop i.toNat)))=false:=by
    rw [hx1,rD,uY,qp];cases h1:okV S (jN d (.agg [.int .i64 n1,.int .i64 n3,.str s1,.lst l1]))
    ·simp
    ·rw [h1,Bool.and_true]at hb;rw [decide_eq_false (by have:=of_decide_eq_false hb.symm;omega)];rfl
   exact ⟨fun h=>(by rw [hfl]at h;cases h),fun _=>⟨_,_,(ho.ay (by cbv;repeat (simp only [e1,e2,e3,e4];try cbv)):o.loop 37700 (bg a p_3 n2 i S sl c)=some (.ret,fW l2 sl n5))⟩⟩
  ·have e4:=hcall;obtain ⟨n6,e5⟩:=kx (o.ar .add .i64 i 1);try have g5:n6=i+1:=e5.symm.trans (cM ho (by omega) (by omega))
   obtain ⟨hc5,hl2⟩:=hok rfl;have hb2:=hb.symm;rw [ah,decide_eq_true_eq]at hb2;have hle:=qq (o:=o) (sl:=sl) d (.agg [.int .i64 n1,.int .i64 n3,.str s1,.lst l1]) (by omega);have hI2:∀y∈l2,wK y:=by
    intro y hy;rw [hl2]at hy;rcases List.mem_append.1 hy with h | h
    ·exact hI y h
    ·exact Aa _ _ y h
   have ih2:=ih (by omega) n5 (by omega) (by omega) l2 (by rw [hl2,List.length_append];omega) hI2;rw [hx1,rD,uY,qp,hb2.2,Bool.true_and,<-List.append_assoc,<-hl2,show c+(cY o sl d (.agg [.int .i64 n1,.int .i64 n3,.str s1,.lst l1])+bP (cY o sl d) (p_3.drop (i+1).toNat))=n5+bP (cY o sl d) (p_3.drop (i+1).toNat) by omega];rw [show i+1=n6 by omega]at ih2 |-;exact ⟨fun h=>(fun z (hz:o.loop 37700 (bg a p_3 n2 n6 l2 sl n5)=some z)=>ho.ay (by rw [<-hz];cbv;repeat (simp only [e1,e2,e3,e4,e5];try cbv)):∀z,o.loop 37700 (bg a p_3 n2 n6 l2 sl n5)=some z->o.loop 37700 (bg a p_3 n2 i S sl c)=some z) _ (ih2.1 h),fun h=>by
    obtain ⟨y,v,h⟩:=ih2.2 h;exact ⟨y,v,(fun z (hz:o.loop 37700 (bg a p_3 n2 n6 l2 sl n5)=some z)=>ho.ay (by rw [<-hz];cbv;repeat (simp only [e1,e2,e3,e4,e5];try cbv)):∀z,o.loop 37700 (bg a p_3 n2 n6 l2 sl n5)=some z->o.loop 37700 (bg a p_3 n2 i S sl c)=some z) _ h⟩⟩
theorem Mp (
           sl:Int) (hsl:0<=sl/\sl<=400) (d:Nat) (hd:d<=9) (IH:FT o sl d) (m:Nat) (p_0 p_1:Int) (p_2:ByteArray) (p_3:List D) (hT:Tm m (.agg [.int .i64 p_0,.int .i64 p_1,.str p_2,.lst p_3])) (a c:Int) (ha:a=10-d) (hc0:0<=c) (hc1:c<=300) (S:List D) (hS:(S.length:Int)<=c) (hI:∀y∈S,wK y):∃b c' S',o.call 377 [.ptr (1,0) 0,.agg [.d (.int .i64 p_0),.d (.int .i64 p_1),.d (.str p_2),.d (.lst p_3)],.d (.int .i64 a)] [some (.box [.d (.int .i64 sl),.d (.int .i64 c),.arr (1,1) (3,1) none false]),some (.rows (3,1) S)]=some ⟨.d (.bool b),[some (.box [.d (.int .i64 sl),.d (.int .i64 c'),.arr (0,0) (3,1) none false]),none],[some (.rows (3,1) S')]⟩/\b=(decide (c+cY o sl (d+1) (.agg [.int .i64 p_0,.int .i64 p_1,.str p_2,.lst p_3])<=300)&&okV S (jN (d+1) (.agg [.int .i64 p_0,.int .i64 p_1,.str p_2,.lst p_3])))/\(b=true->c'=c+cY o sl (d+1) (.agg [.int .i64 p_0,.int .i64 p_1,.str p_2,.lst p_3])/\S'=S++jN (d+1) (.agg [.int .i64 p_0,.int .i64 p_1,.str p_2,.lst p_3])):=by
 obtain ⟨m,rfl,hs,hl,hT⟩:=jl hT;have b4:=iF o sl (d+1) (.agg [.int .i64 p_0,.int .i64 p_1,.str p_2,.lst p_3]);have s4:=ez (fun x=>(iF o sl d x).1) p_3;obtain ⟨n1,e1⟩:=kx (o.ar .add .i64 c 1);try have g1:n1=c+1:=e1.symm.trans (cM ho (by omega) (by omega))
 rcases fe ho a 10 with ⟨e2,g2⟩|⟨e2,g2⟩
 ·rcases fe ho n1 300 with ⟨e3,g3⟩|⟨e3,g3⟩
  ·rcases ak ho p_0 3 with ⟨e4,g4⟩|⟨e4,g4⟩
   ·rcases fe ho p_0 6 with ⟨e5,g5⟩|⟨e5,g5⟩
    ·obtain ⟨n2,e6,g6⟩:=aB ho p_3;cases he7:kZ o p_0 p_1 p_2 n2
     ·have e7:o.call 392 [.d (.int .i64 p_0),.d (.int .i64 p_1),.d (.str p_2),.d (.int .i64 n2)] []=some ⟨.d (.bool false),[],[]⟩:=(tQ ho p_0 p_1 p_2 n2 (by omega) (by omega) (by omega)).trans (by rw [he7]);have hp0:=(ho.aq (by cbv;repeat (simp only [e1,e2,e3,e4,e5,e6,e7];try cbv)):o.call 377 [.ptr (1,0) 0,.agg [.d (.int .i64 p_0),.d (.int .i64 p_1),.d (.str p_2),.d (.lst p_3)],.d (.int .i64 a)] [some (.box [.d (.int .i64 sl),.d (.int .i64 c),.arr (1,1) (3,1) none false]),some (.rows (3,1) S)]=some ⟨.d (.bool false),[some (.box [.d (.int .i64 sl),.d (.int .i64 n1),.arr (0,0) (3,1) none false]),none],[some (.rows (3,1) S)]⟩)
      subst g6;exact ⟨false,_,_,hp0,Bs (by rw [iw (by rw [nk g4];exact he7)];omega),fun h=>by cases h⟩
     ·have e7:o.call 392 [.d (.int .i64 p_0),.d (.int .i64 p_1),.d (.str p_2),.d (.int .i64 n2)] []=some ⟨.d (.bool true),[],[]⟩:=(tQ ho p_0 p_1 p_2 n2 (by omega) (by omega) (by omega)).trans (by rw [he7]);have hlp:=Mn ho sl d hd IH a ha p_3 m hT n2 g6.symm (by omega) 0 (Int.le_refl _) (by omega) n1 (by omega) (by omega) S (by omega) hI;rw [show (0:Int).toNat=0 from rfl,List.drop_zero]at hlp;cases hc:(decide (n1+bP (cY o sl d) p_3<=300)&&okV S (dJ (jN d) p_3))
      ·obtain ⟨l1,n3,e8⟩:=hlp.2 hc;have hp0:=(ho.aq (by cbv at e8;cbv;repeat (simp only [e1,e2,e3,e4,e5,e6,e7,e8];try cbv)):o.call 377 [.ptr (1,0) 0,.agg [.d (.int .i64 p_0),.d (.int .i64 p_1),.d (.str p_2),.d (.lst p_3)],.d (.int .i64 a)] [some (.box [.d (.int .i64 sl),.d (.int .i64 c),.arr (1,1) (3,1) none false]),some (.rows (3,1) S)]=some ⟨.d (.bool false),[some (.box [.d (.int .i64 sl),.d (.int .i64 n3),.arr (0,0) (3,1) none false]),none],[some (.rows (3,1) l1)]⟩)
       subst g6;have hp:=l_ (sl:=sl) (d:=d) ((nk g4).trans he7);refine ⟨false,_,_,hp0,?_,fun h=>by cases h⟩;rw [lF,if_neg g4,List.nil_append];by_cases hle:c+cY o sl (d+1) (.agg [.int .i64 p_0,.int .i64 p_1,.str p_2,.lst p_3])<=300
       · have hle2:n1+bP (cY o sl d) p_3<=300:=by rw [hp]at hle;split at hle<;>omega
         rw [decide_eq_true hle2,Bool.true_and]at hc;rw [hc,Bool.and_false]
       · rw [decide_eq_false hle];rfl
      ·obtain ⟨l1,n3,hl1,hn3,e8⟩:∃l1 n3,l1=S++dJ (jN d) p_3/\n3=n1+bP (cY o sl d) p_3/\o.loop 37700 (bq a p_3 n2 0 S sl n1)=some (.exit 0,eC l1 sl n3):=⟨_,_,rfl,rfl,hlp.1 hc⟩
       have hp0:=(ho.aq (by cbv at e8;cbv;repeat (simp only [e1,e2,e3,e4,e5,e6,e7,e8];try cbv)):o.call 377 [.ptr (1,0) 0,.agg [.d (.int .i64 p_0),.d (.int .i64 p_1),.d (.str p_2),.d (.lst p_3)],.d (.int .i64 a)] [some (.box [.d (.int .i64 sl),.d (.int .i64 c),.arr (1,1) (3,1) none false]),some (.rows (3,1) S)]=some ⟨.d (.bool true),[some (.box [.d (.int .i64 sl),.d (.int .i64 n3),.arr (0,0) (3,1) none false]),none],[some (.rows (3,1) l1)]⟩)
       subst g6;have hp:=l_ (sl:=sl) (d:=d) ((nk g4).trans he7);rw [ah,decide_eq_true_eq]at hc;rw [if_pos (by omega)]at hp;refine ⟨true,_,_,hp0,?_,fun _=>⟨by rw [hp];omega,by rw [hl1,lF,if_neg g4];rfl⟩⟩;rw [hp,lF,if_neg g4,List.nil_append,hc.2,decide_eq_true (by omega)];rfl
    ·exact ⟨false,_,_,(ho.aq (by cbv;repeat (simp only [e1,e2,e3,e4,e5];try cbv)):o.call 377 [.ptr (1,0) 0,.agg [.d (.int .i64 p_0),.d (.int .i64 p_1),.d (.str p_2),.d (.lst p_3)],.d (.int .i64 a)] [some (.box [.d (.int .i64 sl),.d (.int .i64 c),.arr (1,1) (3,1) none false]),some (.rows (3,1) S)]=some ⟨.d (.bool false),[some (.box [.d (.int .i64 sl),.d (.int .i64 n1),.arr (0,0) (3,1) none false]),none],[some (.rows (3,1) S)]⟩),Bs (by rw [iw (by rw [nk g4];exact Fx g5)];omega),fun h=>by cases h⟩
   ·obtain ⟨n2,e5⟩:=kx (o.ar .sub .i64 sl 1);try have g5:n2=sl-1:=e5.symm.trans (fP ho (by omega) (by omega))
    cases e6:i_ p_1 (-1) n2
    ·have g6:=EB e6;have e7:o.call 89 [.d (.int .i64 p_1),.d (.int .i64 (-1)),.d (.int .i64 n2)] []=some ⟨.d (.bool false),[],[]⟩:=(ax ho p_1 (-1) n2).trans (by rw [e6]);have hp0:=(ho.aq (by cbv;repeat (simp only [e1,e2,e3,e4,e5,e6,e7];try cbv)):o.call 377 [.ptr (1,0) 0,.agg [.d (.int .i64 p_0),.d (.int .i64 p_1),.d (.str p_2),.d (.lst p_3)],.d (.int .i64 a)] [some (.box [.d (.int .i64 sl),.d (.int .i64 c),.arr (1,1) (3,1) none false]),some (.rows (3,1) S)]=some ⟨.d (.bool false),[some (.box [.d (.int .i64 sl),.d (.int .i64 n1),.arr (0,0) (3,1) none false]),none],[some (.rows (3,1) S)]⟩)
     subst g4 g5;exact ⟨false,_,_,hp0,Bs (by rw [iw (by rw [jT,e6];simp)];omega),fun h=>by cases h⟩
    ·have g6:=cT e6;have e7:o.call 89 [.d (.int .i64 p_1),.d (.int .i64 (-1)),.d (.int .i64 n2)] []=some ⟨.d (.bool true),[],[]⟩:=(ax ho p_1 (-1) n2).trans (by rw [e6]);rcases pu ho p_2 ⟨#[]⟩with ⟨e8,g8⟩|⟨e8,g8⟩
     ·obtain ⟨n3,e9,g9⟩:=aB ho p_3;rcases fe ho n3 0 with ⟨e10,g10⟩|⟨e10,g10⟩
      ·rcases iQ ho p_1 0 with ⟨e11,g11⟩|⟨e11,g11⟩
       ·obtain ⟨l1,hl1⟩:∃l,S++[.int .i64 p_1]=l:=⟨_,rfl⟩
        have e12:o.app S [.int .i64 p_1]=l1:=(ho.app _ _).trans hl1;have e13:o.fits 1 8 l1=true:=by exact cX ho (by rw [<-hl1,List.length_append];simp only [List.length_cons,List.length_nil];omega) (by decide) (fun z hz=>jO (by rw [<-hl1]at hz;rcases List.mem_append.1 hz with h | h;exact hI z h;exact ⟨p_1,List.mem_singleton.1 h⟩))
        have hp0:=(ho.aq (by cbv;repeat (simp only [e1,e2,e3,e4,e5,e6,e7,e8,e9,e10,e11,e12,e13];try cbv)):o.call 377 [.ptr (1,0) 0,.agg [.d (.int .i64 p_0),.d (.int .i64 p_1),.d (.str p_2),.d (.lst p_3)],.d (.int .i64 a)] [some (.box [.d (.int .i64 sl),.d (.int .i64 c),.arr (1,1) (3,1) none false]),some (.rows (3,1) S)]=some ⟨.d (.bool true),[some (.box [.d (.int .i64 sl),.d (.int .i64 n1),.arr (0,0) (3,1) none false]),none],[some (.rows (3,1) l1)]⟩)
        subst g4 g5;obtain rfl:p_3=[]:=List.length_eq_zero_iff.1 (by omega);have hp:cY o sl (d+1) (.agg [.int .i64 3,.int .i64 p_1,.str p_2,.lst []])=1:=by
          rw [l_ (by rw [jT,decide_eq_true g8,e6,decide_eq_true (p:=(([]:List D).length:Int)=0) rfl];rfl)];rfl
        refine ⟨true,_,_,hp0,?_,fun _=>⟨by rw [hp];omega,by rw [<-hl1,lF,if_pos rfl];rfl⟩⟩;rw [hp,lF,if_pos rfl,decide_eq_true (by omega)];simp only [dJ,List.append_nil,okV,z_];rw [decide_eq_true (p:=p_1<0) (by omega),Bool.true_or];rfl
       ·cases he12:gG (.int .i64 p_1) S
        ·have e12:o.call 311 [.d (.lst S),.d (.int .i64 p_1)] []=some ⟨.d (.bool false),[],[]⟩:=(oC ho S p_1 hI (by omega)).trans (by rw [he12]);obtain ⟨l1,hl1⟩:∃l,S++[.int .i64 p_1]=l:=⟨_,rfl⟩
         have e13:o.app S [.int .i64 p_1]=l1:=(ho.app _ _).trans hl1;have e14:o.fits 1 8 l1=true:=by exact cX ho (by rw [<-hl1,List.length_append];simp only [List.length_cons,List.length_nil];omega) (by decide) (fun z hz=>jO (by rw [<-hl1]at hz;rcases List.mem_append.1 hz with h | h;exact hI z h;exact ⟨p_1,List.mem_singleton.1 h⟩))
         have hp0:=(ho.aq (by cbv;repeat (simp only [e1,e2,e3,e4,e5,e6,e7,e8,e9,e10,e11,e12,e13,e14];try cbv)):o.call 377 [.ptr (1,0) 0,.agg [.d (.int .i64 p_0),.d (.int .i64 p_1),.d (.str p_2),.d (.lst p_3)],.d (.int .i64 a)] [some (.box [.d (.int .i64 sl),.d (.int .i64 c),.arr (1,1) (3,1) none false]),some (.rows (3,1) S)]=some ⟨.d (.bool true),[some (.box [.d (.int .i64 sl),.d (.int .i64 n1),.arr (0,0) (3,1) none false]),none],[some (.rows (3,1) l1)]⟩)
         subst g4 g5;obtain rfl:p_3=[]:=List.length_eq_zero_iff.1 (by omega);have hp:cY o sl (d+1) (.agg [.int .i64 3,.int .i64 p_1,.str p_2,.lst []])=1:=by
           rw [l_ (by rw [jT,decide_eq_true g8,e6,decide_eq_true (p:=(([]:List D).length:Int)=0) rfl];rfl)];rfl
         refine ⟨true,_,_,hp0,?_,fun _=>⟨by rw [hp];omega,by rw [<-hl1,lF,if_pos rfl];rfl⟩⟩;rw [hp,lF,if_pos rfl,decide_eq_true (by omega)];simp only [dJ,List.append_nil,okV,z_];rw [he12,Bool.not_false,Bool.or_true];rfl
        ·have e12:o.call 311 [.d (.lst S),.d (.int .i64 p_1)] []=some ⟨.d (.bool true),[],[]⟩:=(oC ho S p_1 hI (by omega)).trans (by rw [he12]);have hp0:=(ho.aq (by cbv;repeat (simp only [e1,e2,e3,e4,e5,e6,e7,e8,e9,e10,e11,e12];try cbv)):o.call 377 [.ptr (1,0) 0,.agg [.d (.int .i64 p_0),.d (.int .i64 p_1),.d (.str p_2),.d (.lst p_3)],.d (.int .i64 a)] [some (.box [.d (.int .i64 sl),.d (.int .i64 c),.arr (1,1) (3,1) none false]),some (.rows (3,1) S)]=some ⟨.d (.bool false),[some (.box [.d (.int .i64 sl),.d (.int .i64 n1),.arr (0,0) (3,1) none false]),none],[some (.rows (3,1) S)]⟩)
         subst g4 g5;obtain rfl:p_3=[]:=List.length_eq_zero_iff.1 (by omega);exact ⟨false,_,_,hp0,by rw [lF,if_pos rfl];simp only [dJ,List.append_nil,okV,z_];rw [he12,decide_eq_false (p:=p_1<0) (by omega)];simp,fun h=>by cases h⟩
      ·have hp0:=(ho.aq (by cbv;repeat (simp only [e1,e2,e3,e4,e5,e6,e7,e8,e9,e10];try cbv)):o.call 377 [.ptr (1,0) 0,.agg [.d (.int .i64 p_0),.d (.int .i64 p_1),.d (.str p_2),.d (.lst p_3)],.d (.int .i64 a)] [some (.box [.d (.int .i64 sl),.d (.int .i64 c),.arr (1,1) (3,1) none false]),some (.rows (3,1) S)]=some ⟨.d (.bool false),[some (.box [.d (.int .i64 sl),.d (.int .i64 n1),.arr (0,0) (3,1) none false]),none],[some (.rows (3,1) S)]⟩)
       subst g4 g5;exact ⟨false,_,_,hp0,Bs (by rw [iw (by rw [jT,decide_eq_false (p:=(p_3.length:Int)=0) (by omega)];simp)];omega),fun h=>by cases h⟩
     ·have hp0:=(ho.aq (by cbv;repeat (simp only [e1,e2,e3,e4,e5,e6,e7,e8];try cbv)):o.call 377 [.ptr (1,0) 0,.agg [.d (.int .i64 p_0),.d (.int .i64 p_1),.d (.str p_2),.d (.lst p_3)],.d (.int .i64 a)] [some (.box [.d (.int .i64 sl),.d (.int .i64 c),.arr (1,1) (3,1) none false]),some (.rows (3,1) S)]=some ⟨.d (.bool false),[some (.box [.d (.int .i64 sl),.d (.int .i64 n1),.arr (0,0) (3,1) none false]),none],[some (.rows (3,1) S)]⟩)
      subst g4 g5;exact ⟨false,_,_,hp0,Bs (by rw [iw (by rw [jT,decide_eq_false g8];rfl)];omega),fun h=>by cases h⟩
  ·exact ⟨false,_,_,(ho.aq (by cbv;repeat (simp only [e1,e2,e3];try cbv)):o.call 377 [.ptr (1,0) 0,.agg [.d (.int .i64 p_0),.d (.int .i64 p_1),.d (.str p_2),.d (.lst p_3)],.d (.int .i64 a)] [some (.box [.d (.int .i64 sl),.d (.int .i64 c),.arr (1,1) (3,1) none false]),some (.rows (3,1) S)]=some ⟨.d (.bool false),[some (.box [.d (.int .i64 sl),.d (.int .i64 n1),.arr (0,0) (3,1) none false]),none],[some (.rows (3,1) S)]⟩),Bs (by omega),fun h=>by cases h⟩
 ·omega
theorem p9 {c n1 a p_0 p_1:Int} {p_2:ByteArray} {p_3:List D} {sl:Int} {S:List D} (e1:o.ar .add .i64 c 1=n1) (e2:o.cmp .gtr a 10=true):o.call 377 [.ptr (1,0) 0,At p_0 p_1 p_2 p_3,Ai a] [some (.box [Ai sl,Ai c,.arr (1,1) (3,1) none false]),some (.rows (3,1) S)]=some ⟨Ab false,[some (.box [Ai sl,Ai n1,.arr (0,0) (3,1) none false]),none],[some (.rows (3,1) S)]⟩:=by
 refine ho.aq ?_
 cbv
 repeat' (first | (rw [e1];try cbv) | (rw [e2];try cbv))
theorem Mq (sl:Int) (hsl:0<=sl/\sl<=400) (d:Nat) (hd:d<=10):FT o sl d:=by
 induction d with
 | zero=>
  intro m k n s l h a c ha hc0 hc1 S hS hI;have hm:cY o sl 0 (.agg [.int .i64 k,.int .i64 n,.str s,.lst l])=301:=rfl;obtain ⟨n1,e1⟩:∃v,o.ar .add .i64 c 1=v:=⟨_,rfl⟩
  exact ⟨false,_,_,p9 ho e1 (Ny ho (by omega)),Bs (by omega),fun h=>by cases h⟩
 | succ d ih=>
  intro m k n s l h a c ha hc0 hc1 S hS hI;exact Mp ho sl hsl d (by omega) (ih (by omega)) m k n s l h a c (by omega) hc0 hc1 S hS hI
theorem Mr (
           sl:Int) (hsl:0<=sl/\sl<=400) (m:Nat) (p_0 p_1:Int) (p_2:ByteArray) (p_3:List D) (hT:Tm m (.agg [.int .i64 p_0,.int .i64 p_1,.str p_2,.lst p_3])):(∃c' S',o.call 377 [.ptr (1,0) 0,.agg [.d (.int .i64 p_0),.d (.int .i64 p_1),.d (.str p_2),.d (.lst p_3)],.d (.int .i64 1)] [some (.box [.d (.int .i64 sl),.d (.int .i64 0),.emp])]=some ⟨.d (.bool (decide (cY o sl 10 (.agg [.int .i64 p_0,.int .i64 p_1,.str p_2,.lst p_3])<=300)&&okV [] (jN 10 (.agg [.int .i64 p_0,.int .i64 p_1,.str p_2,.lst p_3])))),[some (.box [.d (.int .i64 sl),.d (.int .i64 c'),.arr (0,0) (3,1) none false])],[some (.rows (3,1) S')]⟩)\/(∃c',(decide (cY o sl 10 (.agg [.int .i64 p_0,.int .i64 p_1,.str p_2,.lst p_3])<=300)&&okV [] (jN 10 (.agg [.int .i64 p_0,.int .i64 p_1,.str p_2,.lst p_3])))=false/\o.call 377 [.ptr (1,0) 0,.agg [.d (.int .i64 p_0),.d (.int .i64 p_1),.d (.str p_2),.d (.lst p_3)],.d (.int .i64 1)] [some (.box [.d (.int .i64 sl),.d (.int .i64 0),.emp])]=some ⟨.d (.bool false),[some (.box [.d (.int .i64 sl),.d (.int .i64 c'),.emp])],[]⟩):=by
 obtain ⟨m,rfl,hs,hl,hT⟩:=jl hT;obtain ⟨c,hc0⟩:∃c:Int,c=0:=⟨_,rfl⟩
 obtain ⟨a,ha⟩:∃a:Int,a=1:=⟨_,rfl⟩
 rw [<-hc0,<-ha];have s4:=ez (fun x=>(iF o sl 9 x).1) p_3;have hI:∀y∈([]:List D),wK y:=fun y hy=>by cases hy
 obtain ⟨n1,e1⟩:=kx (o.ar .add .i64 c 1);try have g1:n1=c+1:=e1.symm.trans (cM ho (by omega) (by omega))
 rcases fe ho a 10 with ⟨e2,g2⟩|⟨e2,g2⟩
 ·rcases fe ho n1 300 with ⟨e3,g3⟩|⟨e3,g3⟩
  ·rcases ak ho p_0 3 with ⟨e4,g4⟩|⟨e4,g4⟩
   ·rcases fe ho p_0 6 with ⟨e5,g5⟩|⟨e5,g5⟩
    ·obtain ⟨n2,e6,g6⟩:=aB ho p_3;cases he7:kZ o p_0 p_1 p_2 n2
     ·have e7:o.call 392 [.d (.int .i64 p_0),.d (.int .i64 p_1),.d (.str p_2),.d (.int .i64 n2)] []=some ⟨.d (.bool false),[],[]⟩:=(tQ ho p_0 p_1 p_2 n2 (by omega) (by omega) (by omega)).trans (by rw [he7]);have hp0:=(ho.aq (by cbv;repeat (simp only [e1,e2,e3,e4,e5,e6,e7];try cbv)):o.call 377 [.ptr (1,0) 0,.agg [.d (.int .i64 p_0),.d (.int .i64 p_1),.d (.str p_2),.d (.lst p_3)],.d (.int .i64 a)] [some (.box [.d (.int .i64 sl),.d (.int .i64 c),.emp])]=some ⟨.d (.bool false),[some (.box [.d (.int .i64 sl),.d (.int .i64 n1),.emp])],[]⟩)
      subst g6;exact .inr ⟨_,by rw [iw (by rw [nk g4];exact he7)];rfl,hp0⟩
     ·have e7:o.call 392 [.d (.int .i64 p_0),.d (.int .i64 p_1),.d (.str p_2),.d (.int .i64 n2)] []=some ⟨.d (.bool true),[],[]⟩:=(tQ ho p_0 p_1 p_2 n2 (by omega) (by omega) (by omega)).trans (by rw [he7]);have hlp:=KC ho sl 9 (by omega) (Mq ho sl hsl 9 (by omega)) a (by omega) p_3 m hT n2 g6.symm (by omega) 0 (Int.le_refl _) (by omega) n1 (by omega) (by omega) [] (by simp;omega) hI;rw [show (0:Int).toNat=0 from rfl,List.drop_zero]at hlp;cases hc:(decide (n1+bP (cY o sl 9) p_3<=300)&&okV [] (dJ (jN 9) p_3))
      ·obtain ⟨l1,n3,e8⟩:=hlp.2 hc;have hp0:=(ho.aq (by cbv at e8;cbv;repeat (simp only [e1,e2,e3,e4,e5,e6,e7,e8];try cbv)):o.call 377 [.ptr (1,0) 0,.agg [.d (.int .i64 p_0),.d (.int .i64 p_1),.d (.str p_2),.d (.lst p_3)],.d (.int .i64 a)] [some (.box [.d (.int .i64 sl),.d (.int .i64 c),.emp])]=some ⟨.d (.bool false),[some (.box [.d (.int .i64 sl),.d (.int .i64 n3),.arr (0,0) (3,1) none false])],[some (.rows (3,1) l1)]⟩)
       subst g6;have hp:=l_ (sl:=sl) (d:=9) ((nk g4).trans he7);have hf:(decide (cY o sl 10 (.agg [.int .i64 p_0,.int .i64 p_1,.str p_2,.lst p_3])<=300)&&okV [] (jN 10 (.agg [.int .i64 p_0,.int .i64 p_1,.str p_2,.lst p_3])))=false:=by
         rw [lF,if_neg g4,List.nil_append];by_cases hle:cY o sl 10 (.agg [.int .i64 p_0,.int .i64 p_1,.str p_2,.lst p_3])<=300
         · have hle2:n1+bP (cY o sl 9) p_3<=300:=by rw [hp]at hle;split at hle<;>omega
           rw [decide_eq_true hle2,Bool.true_and]at hc;rw [hc,Bool.and_false]
         · rw [decide_eq_false hle];rfl
       rw [hf];exact .inl ⟨_,_,hp0⟩
      ·obtain ⟨l1,n3,hl1,hn3,e8⟩:∃l1 n3,l1=[]++dJ (jN 9) p_3/\n3=n1+bP (cY o sl 9) p_3/\o.loop 37700 (bg a p_3 n2 0 [] sl n1)=some (.exit 0,dU l1 sl n3):=⟨_,_,rfl,rfl,hlp.1 hc⟩
       have hp0:=(ho.aq (by cbv at e8;cbv;repeat (simp only [e1,e2,e3,e4,e5,e6,e7,e8];try cbv)):o.call 377 [.ptr (1,0) 0,.agg [.d (.int .i64 p_0),.d (.int .i64 p_1),.d (.str p_2),.d (.lst p_3)],.d (.int .i64 a)] [some (.box [.d (.int .i64 sl),.d (.int .i64 c),.emp])]=some ⟨.d (.bool true),[some (.box [.d (.int .i64 sl),.d (.int .i64 n3),.arr (0,0) (3,1) none false])],[some (.rows (3,1) l1)]⟩)
       subst g6;have hp:=l_ (sl:=sl) (d:=9) ((nk g4).trans he7);rw [ah,decide_eq_true_eq]at hc;rw [if_pos (by omega)]at hp;rw [hp,lF,if_neg g4,List.nil_append,hc.2,decide_eq_true (by omega)];exact .inl ⟨_,_,hp0⟩
    ·exact .inr ⟨_,by rw [iw (by rw [nk g4];exact Fx g5)];rfl,(ho.aq (by cbv;repeat (simp only [e1,e2,e3,e4,e5];try cbv)):o.call 377 [.ptr (1,0) 0,.agg [.d (.int .i64 p_0),.d (.int .i64 p_1),.d (.str p_2),.d (.lst p_3)],.d (.int .i64 a)] [some (.box [.d (.int .i64 sl),.d (.int .i64 c),.emp])]=some ⟨.d (.bool false),[some (.box [.d (.int .i64 sl),.d (.int .i64 n1),.emp])],[]⟩)⟩
   ·obtain ⟨n2,e5⟩:=kx (o.ar .sub .i64 sl 1);try have g5:n2=sl-1:=e5.symm.trans (fP ho (by omega) (by omega))
    cases e6:i_ p_1 (-1) n2
    ·have g6:=EB e6;have e7:o.call 89 [.d (.int .i64 p_1),.d (.int .i64 (-1)),.d (.int .i64 n2)] []=some ⟨.d (.bool false),[],[]⟩:=(ax ho p_1 (-1) n2).trans (by rw [e6]);have hp0:=(ho.aq (by cbv;repeat (simp only [e1,e2,e3,e4,e5,e6,e7];try cbv)):o.call 377 [.ptr (1,0) 0,.agg [.d (.int .i64 p_0),.d (.int .i64 p_1),.d (.str p_2),.d (.lst p_3)],.d (.int .i64 a)] [some (.box [.d (.int .i64 sl),.d (.int .i64 c),.emp])]=some ⟨.d (.bool false),[some (.box [.d (.int .i64 sl),.d (.int .i64 n1),.emp])],[]⟩)
     subst g4 g5;exact .inr ⟨_,by rw [iw (by rw [jT,e6];simp)];rfl,hp0⟩
    ·have g6:=cT e6;have e7:o.call 89 [.d (.int .i64 p_1),.d (.int .i64 (-1)),.d (.int .i64 n2)] []=some ⟨.d (.bool true),[],[]⟩:=(ax ho p_1 (-1) n2).trans (by rw [e6]);rcases pu ho p_2 ⟨#[]⟩with ⟨e8,g8⟩|⟨e8,g8⟩
     ·obtain ⟨n3,e9,g9⟩:=aB ho p_3;rcases fe ho n3 0 with ⟨e10,g10⟩|⟨e10,g10⟩
      ·rcases iQ ho p_1 0 with ⟨e11,g11⟩|⟨e11,g11⟩
       ·have e12:o.fits 1 8 [.int .i64 p_1]=true:=by exact cX ho (by simp) (by decide) (fun z hz=>jO ⟨p_1,List.mem_singleton.1 hz⟩)
        have hp0:=(ho.aq (by cbv;repeat (simp only [e1,e2,e3,e4,e5,e6,e7,e8,e9,e10,e11,e12];try cbv)):o.call 377 [.ptr (1,0) 0,.agg [.d (.int .i64 p_0),.d (.int .i64 p_1),.d (.str p_2),.d (.lst p_3)],.d (.int .i64 a)] [some (.box [.d (.int .i64 sl),.d (.int .i64 c),.emp])]=some ⟨.d (.bool true),[some (.box [.d (.int .i64 sl),.d (.int .i64 n1),.arr (0,0) (3,1) none false])],[some (.rows (3,1) [.int .i64 p_1])]⟩)
        subst g4 g5;obtain rfl:p_3=[]:=List.length_eq_zero_iff.1 (by omega);have hp:cY o sl 10 (.agg [.int .i64 3,.int .i64 p_1,.str p_2,.lst []])=1:=by
          rw [l_ (by rw [jT,decide_eq_true g8,e6,decide_eq_true (p:=(([]:List D).length:Int)=0) rfl];rfl)];rfl
        have hv:okV [] (jN 10 (.agg [.int .i64 3,.int .i64 p_1,.str p_2,.lst []]))=true:=by
          rw [lF,if_pos rfl];simp only [dJ,List.append_nil,okV,z_];rw [decide_eq_true (p:=p_1<0) (by omega),Bool.true_or];rfl
        rw [hp,hv];exact .inl ⟨_,_,hp0⟩
       ·cases he12:gG (.int .i64 p_1) []
        ·have e12:o.call 311 [.d (.lst []),.d (.int .i64 p_1)] []=some ⟨.d (.bool false),[],[]⟩:=(oC ho [] p_1 hI (by simp)).trans (by rw [he12]);have e13:o.fits 1 8 [.int .i64 p_1]=true:=by exact cX ho (by simp) (by decide) (fun z hz=>jO ⟨p_1,List.mem_singleton.1 hz⟩)
         have hp0:=(ho.aq (by cbv;repeat (simp only [e1,e2,e3,e4,e5,e6,e7,e8,e9,e10,e11,e12,e13];try cbv)):o.call 377 [.ptr (1,0) 0,.agg [.d (.int .i64 p_0),.d (.int .i64 p_1),.d (.str p_2),.d (.lst p_3)],.d (.int .i64 a)] [some (.box [.d (.int .i64 sl),.d (.int .i64 c),.emp])]=some ⟨.d (.bool true),[some (.box [.d (.int .i64 sl),.d (.int .i64 n1),.arr (0,0) (3,1) none false])],[some (.rows (3,1) [.int .i64 p_1])]⟩)
         subst g4 g5;obtain rfl:p_3=[]:=List.length_eq_zero_iff.1 (by omega);have hp:cY o sl 10 (.agg [.int .i64 3,.int .i64 p_1,.str p_2,.lst []])=1:=by
           rw [l_ (by rw [jT,decide_eq_true g8,e6,decide_eq_true (p:=(([]:List D).length:Int)=0) rfl];rfl)];rfl
         have hv:okV [] (jN 10 (.agg [.int .i64 3,.int .i64 p_1,.str p_2,.lst []]))=true:=by
           rw [lF,if_pos rfl];simp only [dJ,List.append_nil,okV,z_];rw [he12,Bool.not_false,Bool.or_true];rfl
         rw [hp,hv];exact .inl ⟨_,_,hp0⟩
        ·have e12:o.call 311 [.d (.lst []),.d (.int .i64 p_1)] []=some ⟨.d (.bool true),[],[]⟩:=(oC ho [] p_1 hI (by simp)).trans (by rw [he12]);exact absurd (rE he12) (by simp)
      ·have hp0:=(ho.aq (by cbv;repeat (simp only [e1,e2,e3,e4,e5,e6,e7,e8,e9,e10];try cbv)):o.call 377 [.ptr (1,0) 0,.agg [.d (.int .i64 p_0),.d (.int .i64 p_1),.d (.str p_2),.d (.lst p_3)],.d (.int .i64 a)] [some (.box [.d (.int .i64 sl),.d (.int .i64 c),.emp])]=some ⟨.d (.bool false),[some (.box [.d (.int .i64 sl),.d (.int .i64 n1),.emp])],[]⟩)
       subst g4 g5;exact .inr ⟨_,by rw [iw (by rw [jT,decide_eq_false (p:=(p_3.length:Int)=0) (by omega)];simp)];rfl,hp0⟩
     ·have hp0:=(ho.aq (by cbv;repeat (simp only [e1,e2,e3,e4,e5,e6,e7,e8];try cbv)):o.call 377 [.ptr (1,0) 0,.agg [.d (.int .i64 p_0),.d (.int .i64 p_1),.d (.str p_2),.d (.lst p_3)],.d (.int .i64 a)] [some (.box [.d (.int .i64 sl),.d (.int .i64 c),.emp])]=some ⟨.d (.bool false),[some (.box [.d (.int .i64 sl),.d (.int .i64 n1),.emp])],[]⟩)
      subst g4 g5;exact .inr ⟨_,by rw [iw (by rw [jT,decide_eq_false g8];rfl)];rfl,hp0⟩
  ·omega
 ·omega
end
def Ez:D->Bool
 | .int _ n=>n != -1
 | _=>true
def Cz (d:Nat) (t:D):List D:=(jN d t).filter Ez
theorem su {p:D->Bool} {f:D->List D}:∀xs:List D,(dJ f xs).filter p=dJ (fun x=>(f x).filter p) xs
 | []=>rfl
 | x::xs=>by simp only [dJ,List.filter_append,su xs]
theorem EC {d:Nat} {k n:Int} {s:ByteArray} {l:List D}:Cz (d+1) (.agg [.int .i64 k,.int .i64 n,.str s,.lst l])=(if k=3 then [.int .i64 n]else []).filter Ez++dJ (Cz d) l:=by
 unfold Cz;rw [lF,List.filter_append,su]
theorem JT {o:aK} {sl:Int}:∀(d:Nat) (t:D),cY o sl d t<=300->∀y∈jN d t,∃n,y= .int .i64 n/\ -1<=n/\n<=sl-1:=by
 intro d t;unfold cY jN;split
 ·rename_i d _ k _ n s l;intro h;split at h
  ·rename_i hs;split at h
   ·rename_i hle;intro y hy;rcases List.mem_append.1 hy with g | g
    ·split at g
     ·rename_i hk;subst hk;rw [jT,ah,ah]at hs;have:=cT hs.2;rw [List.mem_singleton]at g;exact ⟨n,g,by omega⟩
     ·cases g
    ·have hq:∀xs:List D,(∀x∈xs,∀y∈jN d x,∃n,y= .int .i64 n/\ -1<=n/\n<=sl-1)->∀y∈dJ (jN d) xs,∃n,y= .int .i64 n/\ -1<=n/\n<=sl-1:=by
      intro xs;induction xs with
      | nil=>intro _ y hy;cases hy
      | cons x xs ih=>
       intro hx y hy;rcases List.mem_append.1 hy with g | g
       ·exact hx x (by simp) y g
       ·exact ih (fun z hz=>hx z (by simp [hz])) y g
     exact hq l (fun x hx=>JT (o:=o) (sl:=sl) d x (by have:=ow (f:=cY o sl d) (fun x=>(iF o sl d x).1) hx;omega)) y g
   ·omega
  ·omega
 ·intro h;omega
noncomputable def okW:List D->List D->Bool
 | _,[]=>true
 | S,v::vs=> !gG v S&&okW (S++[v]) vs
theorem JU:∀(vs S:List D),(∀y∈vs,∃n:Int,y= .int .i64 n/\ -1<=n)->okV S vs=okW (S.filter Ez) (vs.filter Ez)
 | [],S,_=>rfl
 | v::vs,S,h=>by
  obtain ⟨n,rfl,hn⟩:=h v (by simp);have ih:=JU vs (S++[.int .i64 n]) fun y hy=>h y (by simp [hy])
  simp only [okV];rw [ih,List.filter_append];by_cases e:n= -1
  ·subst e;rw [show z_ S (.int .i64 (-1))=true by unfold z_;rfl];simp [Ez]
  ·have e1:Ez (.int .i64 n)=true:=by simp [Ez,e]
   rw [List.filter_cons_of_pos (by exact e1),List.filter_cons_of_pos (by exact e1),List.filter_nil];simp only [okW];congr 1;show (decide (n<0) || !gG (.int .i64 n) S)=_;rw [decide_eq_false (by omega:¬n<0),Bool.false_or];congr 1;cases g:gG (.int .i64 n) (S.filter Ez)
   ·exact BH fun h=>BI g (List.mem_filter.2 ⟨h,e1⟩)
   ·exact uZ (List.mem_filter.1 (rE g)).1
noncomputable def p_ (o:aK) (p:D) (sl:Int):Bool:=i_ sl 0 400&&(decide (cY o sl 10 p<=300)&&okV [] (jN 10 p))
theorem CA (d:Nat) (t:D):(Cz d t).length<=(jN d t).length:=List.length_filter_le _ _
section
variable {o:aK} (ho:aU cF bE o)
include ho
def jC (a1 a2 i a0_0 a0_1:Int) (a0_2:ByteArray) (a0_3:List D) (i1:Int):St:=⟨E 46 [(1,Ai a1),(2,Ai a2),(3,Ai i),(4,.sp [.int .i64 a0_0,.int .i64 a0_1,.str a0_2,.lst a0_3] 0),(9,Ai i1)],O 46 []⟩
def fQ (i:Int):St:=⟨E 46 [(3,Ai i)],O 46 []⟩
def gD (a0_0 a0_1:Int) (a0_2:ByteArray) (a0_3:List D) (i:Int) (y:List D):St:=⟨E 35 [(1,.sp [.int .i64 a0_0,.int .i64 a0_1,.str a0_2,.lst a0_3] 0),(3,.arr (33,0) (3,1) none false),(4,Ai i)],O 35 [(33,[some (.rows (3,1) y)])]⟩
def fj (y:List D):St:=⟨E 35 [(3,.arr (33,0) (3,1) none false)],O 35 [(33,[some (.rows (3,1) y)])]⟩
def bI (l1:List D) (i:Int):St:=⟨E 39 [(5,Al l1),(6,Ai i)],O 39 []⟩
def bJ (l1:List D) (i i1:Int):St:=⟨E 39 [(5,Al l1),(6,Ai i),(7,Ai i1)],O 39 []⟩
def gK (l1:List D) (i:Int):St:=⟨E 39 [(4,Ab false),(5,Al l1),(6,Ai i)],O 39 []⟩
def gL (l1:List D) (i:Int):St:=⟨E 39 [(5,Al l1),(6,Ai i)],O 39 []⟩
def gM:St:=⟨E 39 [(4,Ab false)],O 39 []⟩
def gN:St:=⟨E 39 [],O 39 []⟩
omit ho in
def NK (o:aK) (sl:Int) (d:Nat):Prop:=∀m k n s l,Tm m (.agg [.int .i64 k,.int .i64 n,.str s,.lst l])->∀a b:Int,a=d->0<=b->b<=300->o.call 385 [.agg [.d (.int .i64 k),.d (.int .i64 n),.d (.str s),.d (.lst l)],.d (.int .i64 sl),.d (.int .i64 a),.d (.int .i64 b)] []=some ⟨.d (.int .i64 (if cY o sl d (.agg [.int .i64 k,.int .i64 n,.str s,.lst l])<=b then b-cY o sl d (.agg [.int .i64 k,.int .i64 n,.str s,.lst l])else-1)),[],[]⟩
omit ho in
def NM (o:aK) (sl:Int) (d:Nat):Prop:=∀m k n s l,Tm m (.agg [.int .i64 k,.int .i64 n,.str s,.lst l])->cY o sl d (.agg [.int .i64 k,.int .i64 n,.str s,.lst l])<=300->o.call 386 [.agg [.d (.int .i64 k),.d (.int .i64 n),.d (.str s),.d (.lst l)]] []=some ⟨.d (.lst (Cz d (.agg [.int .i64 k,.int .i64 n,.str s,.lst l]))),[],[]⟩
theorem Ho (a1:Int) (d:Nat) (hd:d<=9) (IH:NK o a1 d) (a2:Int) (ha2:a2=d+1) (a0_0 a0_1:Int) (a0_2:ByteArray) (a0_3:List D) (m:Nat) (hT:∀x∈a0_3,Tm m x) (n1:Int) (hn:(a0_3.length:Int)=n1) (hl:n1<=1048576):∀i1:Int,0<=i1->i1<=(n1:Int)->∀i:Int,-1<=i->i<=300->o.loop 38500 (jC a1 a2 i a0_0 a0_1 a0_2 a0_3 i1)=some (.exit 0,fQ (if bP (cY o a1 d) (a0_3.drop i1.toNat)<=i then i-bP (cY o a1 d) (a0_3.drop i1.toNat)else-1)):=by
 refine cU (P:=fun i1=>∀i:Int,-1<=i->i<=300->o.loop 38500 (jC a1 a2 i a0_0 a0_1 a0_2 a0_3 i1)=some (.exit 0,fQ (if bP (cY o a1 d) (a0_3.drop i1.toNat)<=i then i-bP (cY o a1 d) (a0_3.drop i1.toNat)else-1))) (n1:Int) ?_;intro i1 h0 h1 ih;try dsimp only at ih |-
 intro i hc0 hc1;have s0:=ez (fun x=>(iF o a1 d x).1) (a0_3.drop i1.toNat);refine ho.gC fun R Q=> ?_
 have e1:o.len a0_3=n1:=(lS ho _).trans hn;conv=>lhs;cbv;rw [e1];cbv
 rcases bB ho i1 n1 with ⟨e2,g2⟩|⟨e2,g2⟩<;>(conv=>lhs;rw [e2];cbv)
 ·subst Q;show some (Out.exit 0,fQ i)=_;rw [bR hn (by omega)];simp only [bP,Int.sub_zero];by_cases h:0<=i
  · rw [if_pos h]
  · rw [if_neg h,show i= -1 by omega]
 ·rcases iQ ho i 0 with ⟨e3,g3⟩|⟨e3,g3⟩<;>(conv=>lhs;rw [e3];cbv)
  ·subst Q;show some (Out.exit 0,fQ i)=_;rw [if_neg (by omega),show i= -1 by omega]
  ·obtain ⟨x,hx0,hx1,hx2⟩:=aD hn h0 g2;obtain ⟨m',n2,n3,s1,l1,hd',rfl,hs,hl,ht⟩:=dc (hT _ hx2);have e4:=av ho h0 hx0;obtain ⟨n4,e5,g5⟩:=aS ho a2 1;have b4:=iF o a1 d (.agg [.int .i64 n2,.int .i64 n3,.str s1,.lst l1]);have s4:=ez (fun x=>(iF o a1 d x).1) (a0_3.drop (i1+1).toNat);obtain ⟨n5,g6,e6⟩:∃n5,n5=(if cY o a1 d (.agg [.int .i64 n2,.int .i64 n3,.str s1,.lst l1])<=i then i-cY o a1 d (.agg [.int .i64 n2,.int .i64 n3,.str s1,.lst l1])else-1)/\o.call 385 [.agg [.d (.int .i64 n2),.d (.int .i64 n3),.d (.str s1),.d (.lst l1)],.d (.int .i64 a1),.d (.int .i64 n4),.d (.int .i64 i)] []=some ⟨.d (.int .i64 n5),[],[]⟩:=⟨_,rfl,IH _ _ _ _ _ (hT _ hx2) _ _ (by omega) (by omega) (by omega)⟩
   have h5: -1<=n5/\n5<=300:=by rw [g6];split<;>omega
   obtain ⟨n6,e7,g7⟩:=bA ho i1 1;conv=>lhs;rw [e4];cbv;rw [e5];cbv;rw [e6];cbv;rw [e7];cbv
   subst Q;show o.loop 38500 (jC a1 a2 n5 a0_0 a0_1 a0_2 a0_3 n6)=_;have ih2:=ih (by omega) n5 (by omega) (by omega);rw [show i1+1=n6 by omega]at ih2;refine ih2.trans ?_;rw [hx1,show i1+1=n6 by omega,rD];rw [show i1+1=n6 by omega]at s4;congr 3;split at g6<;>(repeat' split)<;>omega
theorem Hp (a1:Int) (hsl:0<=a1/\a1<=400) (d:Nat) (hd:d<=9) (IH:NK o a1 d) (m:Nat) (a0_0 a0_1:Int) (a0_2:ByteArray) (a0_3:List D) (hT:Tm m (.agg [.int .i64 a0_0,.int .i64 a0_1,.str a0_2,.lst a0_3])) (a2 a3:Int) (ha1:a2=d+1) (h2:0<=a3) (h3:a3<=300):o.call 385 [.agg [.d (.int .i64 a0_0),.d (.int .i64 a0_1),.d (.str a0_2),.d (.lst a0_3)],.d (.int .i64 a1),.d (.int .i64 a2),.d (.int .i64 a3)] []=some ⟨.d (.int .i64 (if cY o a1 (d+1) (.agg [.int .i64 a0_0,.int .i64 a0_1,.str a0_2,.lst a0_3])<=a3 then a3-cY o a1 (d+1) (.agg [.int .i64 a0_0,.int .i64 a0_1,.str a0_2,.lst a0_3])else-1)),[],[]⟩:=by
 obtain ⟨m,rfl,hs,hl,hT⟩:=jl hT;have s4:=ez (fun x=>(iF o a1 d x).1) a0_3;have b4:=iF o a1 (d+1) (.agg [.int .i64 a0_0,.int .i64 a0_1,.str a0_2,.lst a0_3]);rcases bB ho a2 1 with ⟨e1,g1⟩|⟨e1,g1⟩
 ·rcases bB ho a3 1 with ⟨e2,g2⟩|⟨e2,g2⟩
  ·cases he3:gF o a0_0 a0_1 a0_2 a0_3.length a1
   ·have e3:o.call 405 [.agg [.d (.int .i64 a0_0),.d (.int .i64 a0_1),.d (.str a0_2),.d (.lst a0_3)],.d (.int .i64 a1)] []=some ⟨.d (.bool false),[],[]⟩:=(CS ho _ _ _ _ a1 (by omega) (by omega)).trans (by rw [he3]);have hm:=iw (d:=d) he3;exact (ho.aq (by cbv;repeat (simp only [e1,e2,e3];try cbv)):_=some ⟨.d (.int .i64 (-1)),[],[]⟩).trans (by rw [if_neg (by omega)])
   ·have e3:o.call 405 [.agg [.d (.int .i64 a0_0),.d (.int .i64 a0_1),.d (.str a0_2),.d (.lst a0_3)],.d (.int .i64 a1)] []=some ⟨.d (.bool true),[],[]⟩:=(CS ho _ _ _ _ a1 (by omega) (by omega)).trans (by rw [he3]);obtain ⟨n1,e4⟩:=kx (o.ar .sub .i64 a3 1);try have g4:n1=a3-1:=e4.symm.trans (fP ho (by omega) (by omega))
    have hl:=Ho ho a1 d hd IH a2 (by omega) a0_0 a0_1 a0_2 a0_3 m hT _ rfl (by omega) 0 (Int.le_refl _) (by omega) n1 (by omega) (by omega);rw [show (0:Int).toNat=0 from rfl,List.drop_zero]at hl;obtain ⟨n2,g5,e5⟩:∃n2,n2=(if bP (cY o a1 d) a0_3<=n1 then n1-bP (cY o a1 d) a0_3 else-1)/\o.loop 38500 (jC a1 a2 n1 a0_0 a0_1 a0_2 a0_3 0)=some (.exit 0,fQ n2):=⟨_,rfl,hl⟩
    have hm:=l_ (sl:=a1) (d:=d) he3;exact (ho.aq (by cbv at e5;cbv;repeat (simp only [e1,e2,e3,e4,e5];try cbv)):_=some ⟨.d (.int .i64 n2),[],[]⟩).trans (by rw [hm,g5];congr 4;(repeat' split)<;>omega)
  ·exact (ho.aq (by cbv;repeat (simp only [e1,e2];try cbv)):_=some ⟨.d (.int .i64 (-1)),[],[]⟩).trans (by rw [if_neg (by omega)])
 ·omega
theorem xU {a2 a0_0 a0_1:Int} {a0_2:ByteArray} {a0_3:List D} {a1 a3:Int} (e1:o.cmp .lss a2 1=true):o.call 385 [At a0_0 a0_1 a0_2 a0_3,Ai a1,Ai a2,Ai a3] []=Ar (Ai (-1)):=by
 refine ho.aq ?_
 cbv
 repeat' (first | (rw [e1];try cbv))
theorem Hq (sl:Int) (hsl:0<=sl/\sl<=400) (d:Nat) (hd:d<=10):NK o sl d:=by
 induction d with
 | zero=>
  intro m k n s l h a b ha hb hb2;have hm:cY o sl 0 (.agg [.int .i64 k,.int .i64 n,.str s,.lst l])=301:=rfl;exact (xU ho (GZ ho (by omega))).trans (by rw [if_neg (by omega)])
 | succ d ih=>
  intro m k n s l h a b ha hb hb2;exact Hp ho sl hsl d (by omega) (ih (by omega)) m k n s l h a b (by omega) hb hb2
theorem Bt (sl:Int) (d:Nat) (IH:NM o sl d) (a0_0 a0_1:Int) (a0_2:ByteArray) (a0_3:List D) (m:Nat) (hT:∀x∈a0_3,Tm m x) (hP:∀x∈a0_3,cY o sl d x<=300) (n1:Int) (hn:(a0_3.length:Int)=n1) (hl:n1<=1048576):∀i:Int,0<=i->i<=(n1:Int)->∀y:List D,(∀z∈y,wK z)->(y.length:Int)+bP (cY o sl d) (a0_3.drop i.toNat)<=1000->o.loop 38600 (gD a0_0 a0_1 a0_2 a0_3 i y)=some (.exit 0,fj (y++dJ (Cz d) (a0_3.drop i.toNat))):=by
 refine cU (P:=fun i=>∀y:List D,(∀z∈y,wK z)->(y.length:Int)+bP (cY o sl d) (a0_3.drop i.toNat)<=1000->o.loop 38600 (gD a0_0 a0_1 a0_2 a0_3 i y)=some (.exit 0,fj (y++dJ (Cz d) (a0_3.drop i.toNat)))) (n1:Int) ?_;intro i h0 h1 ih;try dsimp only at ih |-
 intro y hI hb;have s4:=ez (fun x=>(iF o sl d x).1) (a0_3.drop (i+1).toNat);refine ho.gC fun R Q=> ?_
 have e1:o.len a0_3=n1:=(lS ho _).trans hn;conv=>lhs;cbv;rw [e1];cbv
 rcases bB ho i n1 with ⟨e2,g2⟩|⟨e2,g2⟩<;>(conv=>lhs;rw [e2];cbv)
 ·subst Q;rw [bR hn (by omega)];simp only [dJ,List.append_nil];rfl
 ·obtain ⟨x,hx0,hx1,hx2⟩:=aD hn h0 g2;obtain ⟨m',n2,n3,s1,l1,hd',rfl,hs,hl,ht⟩:=dc (hT _ hx2);have e3:=av ho h0 hx0;conv=>lhs;rw [e3];cbv
  obtain ⟨l2,hl2,e4⟩:∃l2,l2=Cz d (.agg [.int .i64 n2,.int .i64 n3,.str s1,.lst l1])/\o.call 386 [At n2 n3 s1 l1] []=Ar (Al l2):=⟨_,rfl,IH _ _ _ _ _ (hT _ hx2) (hP _ hx2)⟩
  have hlen:=qq (o:=o) (sl:=sl) d _ (hP _ hx2);have hle2:=CA d (.agg [.int .i64 n2,.int .i64 n3,.str s1,.lst l1]);rw [hx1,rD]at hb;have hI2:∀z∈y++l2,wK z:=by
   intro z hz;rcases List.mem_append.1 hz with h | h
   ·exact hI z h
   ·rw [hl2]at h;exact Aa _ _ z (List.mem_filter.1 h).1
  obtain ⟨l3,hl3⟩:∃l3,y++l2=l3:=⟨_,rfl⟩
  have e5:o.app y l2=l3:=(ho.app _ _).trans hl3;have hz3:(l3.length:Int)<=y.length+cY o sl d (.agg [.int .i64 n2,.int .i64 n3,.str s1,.lst l1]):=by rw [<-hl3,List.length_append,hl2];omega
  have e6:o.fits 1 8 l3=true:=by exact cX ho (by omega) (by decide) (fun z hz=>jO (hI2 z (by rw [hl3];exact hz)))
  obtain ⟨n4,e7,g7⟩:=bA ho i 1;conv=>lhs;rw [e4];cbv;rw [e5];cbv;rw [e6];cbv;rw [e7];cbv
  subst Q;rw [show i+1=n4 by omega]at ih s4 hb;rw [hx1,uY,<-hl2,<-List.append_assoc,hl3,show i+1=n4 by omega];exact ih (by omega) l3 (fun z hz=>hI2 z (by rw [hl3];exact hz)) (by omega)
theorem KD (sl:Int) (d:Nat) (IH:NM o sl d) (m:Nat) (a0_0 a0_1:Int) (a0_2:ByteArray) (a0_3:List D) (hT:Tm m (.agg [.int .i64 a0_0,.int .i64 a0_1,.str a0_2,.lst a0_3])) (hP:cY o sl (d+1) (.agg [.int .i64 a0_0,.int .i64 a0_1,.str a0_2,.lst a0_3])<=300):o.call 386 [.agg [.d (.int .i64 a0_0),.d (.int .i64 a0_1),.d (.str a0_2),.d (.lst a0_3)]] []=some ⟨.d (.lst (Cz (d+1) (.agg [.int .i64 a0_0,.int .i64 a0_1,.str a0_2,.lst a0_3]))),[],[]⟩:=by
 obtain ⟨m,rfl,hs,hl,hT⟩:=jl hT;have hsum:bP (cY o sl d) a0_3<=300:=by
   rw [CT]at hP;split at hP
   ·split at hP<;>omega
   ·omega
 have hP2:∀x∈a0_3,cY o sl d x<=300:=fun x hx=>by have:=ow (f:=cY o sl d) (fun x=>(iF o sl d x).1) hx;omega
 refine ho.aI fun R Q=> ?_
 conv=>lhs;cbv
 rcases ak ho a0_0 3 with ⟨e1,g1⟩|⟨e1,g1⟩<;>(conv=>lhs;rw [e1];cbv)
 ·obtain ⟨l1,hl1,e2⟩:∃l1,dJ (Cz d) a0_3=l1/\o.loop 38600 (gD a0_0 a0_1 a0_2 a0_3 0 [])=some (.exit 0,fj l1):=⟨_,rfl,Bt ho sl d IH a0_0 a0_1 a0_2 a0_3 m hT hP2 _ rfl hl 0 (Int.le_refl _) (by omega) [] (fun z hz=>by cases hz) (by rw [show (0:Int).toNat=0 from rfl,List.drop_zero];simp;omega)⟩
  conv at e2=>lhs;cbv
  conv=>lhs;rw [e2];cbv
  subst Q;rw [EC,if_neg g1];show _=some (bk.mk (.d (.lst (dJ (Cz d) a0_3))) [] []);rw [hl1];try rfl
 ·rcases cH ho a0_1 (-1)with ⟨e2,g2⟩|⟨e2,g2⟩<;>(conv=>lhs;rw [e2];cbv)
  ·obtain ⟨l1,hl1,e3⟩:∃l1,dJ (Cz d) a0_3=l1/\o.loop 38600 (gD a0_0 a0_1 a0_2 a0_3 0 [])=some (.exit 0,fj l1):=⟨_,rfl,Bt ho sl d IH a0_0 a0_1 a0_2 a0_3 m hT hP2 _ rfl hl 0 (Int.le_refl _) (by omega) [] (fun z hz=>by cases hz) (by rw [show (0:Int).toNat=0 from rfl,List.drop_zero];simp;omega)⟩
   conv at e3=>lhs;cbv
   conv=>lhs;rw [e3];cbv
   subst Q;subst g1 g2;rw [EC,if_pos rfl,<-hl1];try rfl
  ·have e3:o.fits 1 8 [.int .i64 a0_1]=true:=by exact cX ho (by simp) (by decide) (fun z hz=>jO ⟨a0_1,List.mem_singleton.1 hz⟩)
   conv=>lhs;rw [e3];cbv
   obtain ⟨l1,hl1,e4⟩:∃l1,[.int .i64 a0_1]++dJ (Cz d) a0_3=l1/\o.loop 38600 (gD a0_0 a0_1 a0_2 a0_3 0 [.int .i64 a0_1])=some (.exit 0,fj l1):=⟨_,rfl,Bt ho sl d IH a0_0 a0_1 a0_2 a0_3 m hT hP2 _ rfl hl 0 (Int.le_refl _) (by omega) [.int .i64 a0_1] (fun z hz=>⟨a0_1,List.mem_singleton.1 hz⟩) (by rw [show (0:Int).toNat=0 from rfl,List.drop_zero];simp;omega)⟩
   conv at e4=>lhs;cbv
   conv=>lhs;rw [e4];cbv
   subst Q;subst g1;have e1n:Ez (.int .i64 a0_1)=true:=by simp [Ez,g2]
   rw [EC,if_pos rfl,List.filter_cons_of_pos (by exact e1n),<-hl1];try rfl
theorem zJ (sl:Int):∀d,NM o sl d
 | 0=>fun m k n s l h hp=>by have hm:cY o sl 0 (.agg [.int .i64 k,.int .i64 n,.str s,.lst l])=301:=rfl;omega
 | d+1=>fun m k n s l h hp=>KD ho sl d (zJ sl d) m k n s l h hp
theorem NN (l1:List D) (hI:∀y∈l1,wK y) (i:Int) (hi:0<=i) (n2:Int) (hx:l1[i.toNat]? =some (.int .i64 n2)) (hb:i<=1048576) (hlt:i.toNat<=l1.length):∀i1:Int,0<=i1->i1<=(i:Int)->(gG (.int .i64 n2) ((l1.take i.toNat).drop i1.toNat)=true->o.loop 36100 (bJ l1 i i1)=some (.ret,gK l1 i))/\(gG (.int .i64 n2) ((l1.take i.toNat).drop i1.toNat)=false->o.loop 36100 (bJ l1 i i1)=some (.exit 2,gL l1 i)):=by
 refine cU (P:=fun i1=>(gG (.int .i64 n2) ((l1.take i.toNat).drop i1.toNat)=true->o.loop 36100 (bJ l1 i i1)=some (.ret,gK l1 i))/\(gG (.int .i64 n2) ((l1.take i.toNat).drop i1.toNat)=false->o.loop 36100 (bJ l1 i i1)=some (.exit 2,gL l1 i))) (i:Int) ?_;intro i1 h0 h1 ih;try dsimp only at ih |-
 rcases bB ho i1 i with ⟨e1,g1⟩|⟨e1,g1⟩
 ·rw [show (l1.take i.toNat).drop i1.toNat=[]from List.drop_eq_nil_of_le (by rw [List.length_take];omega)];exact ⟨fun h=>(by cases rE h),fun _=>(ho.ay (by cbv;repeat (simp only [e1];try cbv)):o.loop 36100 (bJ l1 i i1)=some (.exit 2,gL l1 i))⟩
 ·have hnT:((l1.take i.toNat).length:Int)=i:=by rw [List.length_take];omega
  obtain ⟨x,hx0,hx1,hx2⟩:=aD hnT h0 g1;obtain ⟨n1,rfl⟩:=hI _ (List.mem_of_mem_take hx2);have e2:o.dm l1 i1=some (.int .i64 n1):=av ho h0 (by rw [<-hx0,List.getElem?_take_of_lt (by omega)]);have e3:=av ho hi hx;rcases ak ho n1 n2 with ⟨e4,g4⟩|⟨e4,g4⟩
  ·obtain ⟨n3,e5⟩:=kx (o.ar .add .i64 i1 1);try have g5:n3=i1+1:=e5.symm.trans (cM ho (by omega) (by omega))
   have hq:gG (.int .i64 n2) ((l1.take i.toNat).drop i1.toNat)=gG (.int .i64 n2) ((l1.take i.toNat).drop (i1+1).toNat):=by
    rw [hx1];cases h:gG (.int .i64 n2) ((l1.take i.toNat).drop (i1+1).toNat)
    ·exact BH fun g=>by
      rcases List.mem_cons.1 g with g | g
      ·injection g with _ g;exact g4 g.symm
      ·exact BI h g
    ·exact uZ (List.mem_cons_of_mem _ (rE h))
   rw [hq];have ih2:=ih (by omega);rw [show i1+1=n3 by omega]at ih2 |-;exact ⟨fun h=>(fun z (hz:o.loop 36100 (bJ l1 i n3)=some z)=>ho.ay (by rw [<-hz];cbv;repeat (simp only [e1,e2,e3,e4,e5];try cbv)):∀z,o.loop 36100 (bJ l1 i n3)=some z->o.loop 36100 (bJ l1 i i1)=some z) _ (ih2.1 h),fun h=>(fun z (hz:o.loop 36100 (bJ l1 i n3)=some z)=>ho.ay (by rw [<-hz];cbv;repeat (simp only [e1,e2,e3,e4,e5];try cbv)):∀z,o.loop 36100 (bJ l1 i n3)=some z->o.loop 36100 (bJ l1 i i1)=some z) _ (ih2.2 h)⟩
  ·have hp0:=(ho.ay (by cbv;repeat (simp only [e1,e2,e3,e4];try cbv)):o.loop 36100 (bJ l1 i i1)=some (.ret,gK l1 i))
   subst g4;rw [hx1,uZ (by simp)];exact ⟨fun _=>hp0,fun h=>by cases h⟩
theorem NP (l1:List D) (hI:∀y∈l1,wK y) (n1:Int) (hn:(l1.length:Int)=n1) (hl:n1<=1048576):∀i:Int,0<=i->i<=(n1:Int)->(okW (l1.take i.toNat) (l1.drop i.toNat)=false->o.loop 36101 (bI l1 i)=some (.ret,gM))/\(okW (l1.take i.toNat) (l1.drop i.toNat)=true->o.loop 36101 (bI l1 i)=some (.exit 0,gN)):=by
 refine cU (P:=fun i=>(okW (l1.take i.toNat) (l1.drop i.toNat)=false->o.loop 36101 (bI l1 i)=some (.ret,gM))/\(okW (l1.take i.toNat) (l1.drop i.toNat)=true->o.loop 36101 (bI l1 i)=some (.exit 0,gN))) (n1:Int) ?_;intro i h0 h1 ih;try dsimp only at ih |-
 have e1:o.len l1=n1:=(lS ho _).trans hn;rcases bB ho i n1 with ⟨e2,g2⟩|⟨e2,g2⟩
 ·rw [bR hn (by omega)];exact ⟨fun h=>(by cases h),fun _=>(ho.ay (by cbv;repeat (simp only [e1,e2];try cbv)):o.loop 36101 (bI l1 i)=some (.exit 0,gN))⟩
 ·obtain ⟨x,hx0,hx1,hx2⟩:=aD hn h0 g2;obtain ⟨n2,rfl⟩:=hI _ hx2;have hd:=NN ho l1 hI i h0 n2 hx0 (by omega) (by omega) 0 (Int.le_refl _) h0;rw [show (0:Int).toNat=0 from rfl,List.drop_zero]at hd;have hs:=Ft h0 hx0;cases hc:gG (.int .i64 n2) (l1.take i.toNat)
  ·have e3:o.loop 36100 (bJ l1 i 0)=some (.exit 2,gL l1 i):=hd.2 hc;obtain ⟨n2,e4⟩:=kx (o.ar .add .i64 i 1);try have g4:n2=i+1:=e4.symm.trans (cM ho (by omega) (by omega))
   rw [hx1];simp only [okW];rw [hc,<-hs];have ih2:=ih (by omega);rw [show i+1=n2 by omega]at ih2 |-;exact ⟨fun h=>(fun z (hz:o.loop 36101 (bI l1 n2)=some z)=>ho.ay (by rw [<-hz];cbv at e3;cbv;repeat (simp only [e1,e2,e3,e4];try cbv)):∀z,o.loop 36101 (bI l1 n2)=some z->o.loop 36101 (bI l1 i)=some z) _ (ih2.1 h),fun h=>(fun z (hz:o.loop 36101 (bI l1 n2)=some z)=>ho.ay (by rw [<-hz];cbv at e3;cbv;repeat (simp only [e1,e2,e3,e4];try cbv)):∀z,o.loop 36101 (bI l1 n2)=some z->o.loop 36101 (bI l1 i)=some z) _ (ih2.2 h)⟩
  ·have e3:o.loop 36100 (bJ l1 i 0)=some (.ret,gK l1 i):=hd.1 hc;rw [hx1];simp only [okW];rw [hc];exact ⟨fun _=>(ho.ay (by cbv at e3;cbv;repeat (simp only [e1,e2,e3];try cbv)):o.loop 36101 (bI l1 i)=some (.ret,gM)),fun h=>by cases h⟩
theorem Dz {m:Nat} (a0_0 a0_1:Int) (a0_2:ByteArray) (a0_3:List D) (hT:Tm m (.agg [.int .i64 a0_0,.int .i64 a0_1,.str a0_2,.lst a0_3])) (a1:Int):o.call 344 [At a0_0 a0_1 a0_2 a0_3,Ai a1] []=Ar (Ab (p_ o (.agg [.int .i64 a0_0,.int .i64 a0_1,.str a0_2,.lst a0_3]) a1)):=by
 refine ho.aI fun R Q=> ?_
 conv=>lhs;cbv
 rcases aR a1 0 400 with ⟨e1,g1⟩|⟨e1,g1⟩
 ·conv=>lhs;rw [ax ho,e1];cbv
  subst Q;exact (Eq.refl _).trans (by unfold p_;rw [e1];rfl)
 ·conv=>lhs;rw [ax ho,e1];cbv
  have g1:=cT e1;rcases Mr ho a1 g1 m a0_0 a0_1 a0_2 a0_3 hT with ⟨n1,l1,e3⟩ | ⟨n1,hB,e3⟩
  ·obtain ⟨b2,hb2⟩:∃b:Bool,(decide (cY o a1 10 (.agg [.int .i64 a0_0,.int .i64 a0_1,.str a0_2,.lst a0_3])<=300)&&okV [] (jN 10 (.agg [.int .i64 a0_0,.int .i64 a0_1,.str a0_2,.lst a0_3])))=b:=⟨_,rfl⟩
   rw [hb2]at e3;conv=>lhs;rw [e3];cbv
   subst Q;exact (Eq.refl _).trans (by unfold p_;rw [e1,hb2];rfl)
  ·conv=>lhs;rw [e3];cbv
   subst Q;exact (Eq.refl _).trans (by unfold p_;rw [e1,hB];rfl)
theorem DA {m:Nat} (a0_0 a0_1:Int) (a0_2:ByteArray) (a0_3:List D) (hT:Tm m (.agg [.int .i64 a0_0,.int .i64 a0_1,.str a0_2,.lst a0_3])) (a1:Int):o.call 361 [.agg [.d (.int .i64 a0_0),.d (.int .i64 a0_1),.d (.str a0_2),.d (.lst a0_3)],.d (.int .i64 a1)] []=some ⟨.d (.bool (p_ o (.agg [.int .i64 a0_0,.int .i64 a0_1,.str a0_2,.lst a0_3]) a1)),[],[]⟩:=by
 refine ho.aI fun R Q=> ?_
 conv=>lhs;cbv
 rcases aR a1 0 400 with ⟨e1,g1⟩|⟨e1,g1⟩
 ·conv=>lhs;rw [aH ho,e1];cbv
  subst Q;exact (Eq.refl _).trans (by unfold p_;rw [e1];rfl)
 ·obtain ⟨n1,h1,e3⟩:∃n1,n1=(if cY o a1 10 (.agg [.int .i64 a0_0,.int .i64 a0_1,.str a0_2,.lst a0_3])<=300 then 300-cY o a1 10 (.agg [.int .i64 a0_0,.int .i64 a0_1,.str a0_2,.lst a0_3])else-1)/\o.call 385 [.agg [.d (.int .i64 a0_0),.d (.int .i64 a0_1),.d (.str a0_2),.d (.lst a0_3)],.d (.int .i64 a1),.d (.int .i64 10),.d (.int .i64 300)] []=some ⟨.d (.int .i64 n1),[],[]⟩:=⟨_,rfl,Hq ho a1 (cT e1) 10 (by omega) _ _ _ _ _ hT _ _ (by omega) (by omega) (by omega)⟩
  have b4:=iF o a1 10 (.agg [.int .i64 a0_0,.int .i64 a0_1,.str a0_2,.lst a0_3]);conv=>lhs;rw [aH ho,e1];cbv;rw [e3];cbv
  rcases bB ho n1 0 with ⟨e4,g4⟩|⟨e4,g4⟩<;>(conv=>lhs;rw [e4];cbv)
  ·have hp:cY o a1 10 (.agg [.int .i64 a0_0,.int .i64 a0_1,.str a0_2,.lst a0_3])<=300:=by split at h1<;>omega
   obtain ⟨l1,hl1,e5⟩:∃l1,l1=Cz 10 (.agg [.int .i64 a0_0,.int .i64 a0_1,.str a0_2,.lst a0_3])/\o.call 386 [.agg [.d (.int .i64 a0_0),.d (.int .i64 a0_1),.d (.str a0_2),.d (.lst a0_3)]] []=some ⟨.d (.lst l1),[],[]⟩:=⟨_,rfl,zJ ho a1 10 _ _ _ _ _ hT hp⟩
   have hlen:=qq (o:=o) (sl:=a1) 10 _ hp;have hle2:=CA 10 (.agg [.int .i64 a0_0,.int .i64 a0_1,.str a0_2,.lst a0_3]);have hW:=JU (jN 10 (.agg [.int .i64 a0_0,.int .i64 a0_1,.str a0_2,.lst a0_3])) [] (fun y hy=>by obtain ⟨n,e,h,_⟩:=JT 10 _ hp y hy;exact ⟨n,e,h⟩);conv=>lhs;rw [e5];cbv
   have hd:=NP ho l1 (fun y hy=>Aa _ _ y (by rw [hl1]at hy;exact (List.mem_filter.1 hy).1)) _ rfl (by rw [hl1];omega) 0 (Int.le_refl _) (by omega);rw [show (0:Int).toNat=0 from rfl,List.drop_zero,List.take_zero]at hd;cases hc:okW [] l1
   ·have e6:o.loop 36101 (bI l1 0)=some (.ret,gM):=hd.1 hc;conv at e6=>lhs;cbv
    conv=>lhs;rw [e6];cbv
    subst Q;exact (Eq.refl _).trans (by unfold p_;rw [e1,decide_eq_true hp,hW,List.filter_nil,show (jN 10 (.agg [.int .i64 a0_0,.int .i64 a0_1,.str a0_2,.lst a0_3])).filter Ez=l1 from hl1.symm,hc];rfl)
   ·have e6:o.loop 36101 (bI l1 0)=some (.exit 0,gN):=hd.2 hc;conv at e6=>lhs;cbv
    conv=>lhs;rw [e6];cbv
    subst Q;exact (Eq.refl _).trans (by unfold p_;rw [e1,decide_eq_true hp,hW,List.filter_nil,show (jN 10 (.agg [.int .i64 a0_0,.int .i64 a0_1,.str a0_2,.lst a0_3])).filter Ez=l1 from hl1.symm,hc];rfl)
  ·subst Q;exact (Eq.refl _).trans (by unfold p_;rw [e1,decide_eq_false (by split at h1<;>omega)];rfl)
end
end T2
