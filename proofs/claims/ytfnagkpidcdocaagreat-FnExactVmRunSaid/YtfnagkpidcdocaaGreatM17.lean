import Derived.Test.YtfnagkpidcdocaaGreatM16
set_option linter.all false
namespace T2
open Go Go.Vi
set_option maxRecDepth 100000
set_option maxHeartbeats 4000000
def qh:List D->List D
 | .lst l::r=>l++qh r
 | _::r=>qh r
 | []=>[]
theorem EQ {l r:List D}:qh (.lst l::r)=l++qh r:=rfl
theorem CH {o:aK}:∀{n:Nat} {d:D},Rt o n d->Rt o (n+1) d
 | 0,_,h=>h.elim
 | n+1,_,⟨k,m,s,l,e,a,c⟩=>⟨k,m,s,l,e,a,fun x hx=>CH (c x hx)⟩
theorem w6 {o:aK} {n m:Nat} {d:D} (h:n<=m) (r:Rt o n d):Rt o m d:=by
 induction h with
 | refl=>exact r
 | step _ ih=>exact CH ih
def NC (x:D):Prop:=∃l,x= .lst l/\(l.length:Int)<=1000/\∀y∈l,y.cells.length=4
def lq (l:List D):Option (List D):=match l[((l.length:Int)-1).toNat]? with
 | some (.agg [.int _ k,_,_,.lst x])=>if k=5 then some (l.take ((l.length:Int)-1).toNat++x)else none
 | _=>none
def H6 (o:aK) (t:D):D×Int:=if sw o t then (t,0)else (lD,4)
def gu (o:aK) (k:Int) (l:List D):D×Int:=
 if k=6 then (match lq l with | none=>(lD,3) | some x=>H6 o (.agg [.int .i64 5,.int .i64 0,.str ⟨#[]⟩,.lst x]))
 else H6 o (.agg [.int .i64 k,.int .i64 0,.str ⟨#[]⟩,.lst l])
def cv (r:D×Int):AV:=match r.1 with | .agg [a,b,c,d]=> .tup [.agg [.d a,.d b,.d c,.d d],.d (.int .i64 r.2)] | _=> .undef
section
variable {o:aK} (ho:aU cF bE o)
include ho
theorem MC (a1:Int) (h0:0<=a1) (hb:a1<=1048576):(∃l1,o.call 403 [.emp,Ai a1] []=some ⟨.arr (0,0) (31,4) (some (0,0)) false,[],[Os l1]⟩)\/o.call 403 [.emp,Ai a1] []=Ar (.emp):=by
 have e1:o.cmp .lss a1 0=false:=by first | assumption | exact LN ho (by omega)
 have g1:=LP ho e1;obtain ⟨n1,e2⟩:=kx (o.ar .sub .i64 0 0);try have g2:n1=0-0:=e2.symm.trans (fP ho (by omega) (by omega))
 obtain ⟨n2,e3⟩:=kx (o.ar .sub .i64 a1 n1);try have g3:n2=a1-n1:=e3.symm.trans (fP ho (by omega) (by omega))
 rcases fe ho n2 0 with ⟨e4,g4⟩|⟨e4,g4⟩
 ·exact .inr (ho.aq (by cbv;repeat (simp only [e1,e2,e3,e4];try cbv)):o.call 403 [.emp,Ai a1] []=Ar (.emp))
 ·have e5:o.isZero 0=true:=by rw [ho.isZero];rfl
  have e6:o.eP 56 n2=true:=by rw [ho.eP];exact decide_eq_true (by omega)
  obtain ⟨l1,e7⟩:=kx (o.lW n2 (.agg [.int .i64 0,.int .i64 0,.str ⟨#[]⟩,.lst []]));obtain ⟨n3,g8,e8⟩:∃n3,n3=0/\o.minus 0 0=n3:=⟨_,rfl,by rw [ho.minus];rfl⟩
  obtain ⟨l2,hl2,e9⟩:∃l2,l2=[]/\o.sub l1 0 n3=some l2:=⟨_,rfl,by rw [gZ ho (Int.le_refl _) (by omega) (by omega),g8];rfl⟩
  refine .inl ⟨l1,?_⟩;have hp:=(ho.aq (by cbv;repeat (simp only [e1,e2,e3,e4,e5,e6,e7,e8,e9];try cbv)):o.call 403 [.emp,Ai a1] []=some ⟨.arr (0,0) (31,4) (some (0,n3)) false,[],[Os l1]⟩)
  rw [g8]at hp;exact hp
def cR (a0:List D) (i n1 i1:Int):St:=⟨E 36 [(0,Al a0),(3,Ai i),(9,Al a0),(10,Ai n1),(11,Ai i1)],O 36 []⟩
def fS (a0:List D) (i:Int):St:=⟨E 36 [(0,Al a0),(3,Ai i)],O 36 []⟩
def gU (a0:List D) (n1 i:Int) (y:List D):St:=⟨E 36 [(6,.arr (33,0) (31,4) none false),(25,Al a0),(26,Ai n1),(27,Ai i)],O 36 [(33,[Os y])]⟩
def fT (y:List D):St:=⟨E 36 [(6,.arr (33,0) (31,4) none false)],O 36 [(33,[Os y])]⟩
def gy (a0:List D) (n1 i:Int) (y:List D):St:=⟨E 36 [(6,.arr (33,0) (31,4) none false),(25,Al a0),(26,Ai n1),(27,Ai i)],O 36 [(24,[none]),(33,[Os y])]⟩
def fI (y:List D):St:=⟨E 36 [(6,.arr (33,0) (31,4) none false)],O 36 [(24,[none]),(33,[Os y])]⟩
theorem NS (a0:List D) (hE:∀x∈a0,NC x) (n1:Int) (hn:(a0.length:Int)=n1) (hb:n1<=1000):∀i1:Int,0<=i1->i1<=(n1:Int)->∀i:Int,0<=i->i<=1000*i1->∃n2,o.loop 37800 (cR a0 i n1 i1)=some (.exit 0,fS a0 n2)/\0<=n2/\n2<=1000*n1:=by
 refine cU (P:=fun i1=>∀i:Int,0<=i->i<=1000*i1->∃n2,o.loop 37800 (cR a0 i n1 i1)=some (.exit 0,fS a0 n2)/\0<=n2/\n2<=1000*n1) (n1:Int) ?_;intro i1 h0 h1 ih;try dsimp only at ih |-
 intro i b0 b1;rcases bB ho i1 n1 with ⟨e1,g1⟩|⟨e1,g1⟩
 ·exact ⟨i,(ho.ay (by cbv;repeat (simp only [e1];try cbv)):o.loop 37800 (cR a0 i n1 i1)=some (.exit 0,fS a0 i)),b0,by omega⟩
 ·obtain ⟨x,hx0,hx1,hx2⟩:=aD hn h0 g1;obtain ⟨l1,rfl,hl,hc⟩:=hE _ hx2;have e2:=av ho h0 hx0;obtain ⟨n2,e3,g3⟩:=aB ho l1;obtain ⟨n3,e4⟩:=kx (o.ar .add .i64 i n2);try have g4:n3=i+n2:=e4.symm.trans (cM ho (by omega) (by omega))
  have e5:o.cmp .lss n3 0=false:=by first | assumption | exact LN ho (by omega)
  have g5:=LP ho e5;obtain ⟨n4,e6⟩:=kx (o.ar .add .i64 i1 1);try have g6:n4=i1+1:=e6.symm.trans (cM ho (by omega) (by omega))
  obtain ⟨n2',w1,w2,w3⟩:=ih (by omega) n3 (by omega) (by omega);rw [show i1+1=n4 by omega]at w1;exact ⟨n2',(fun z (hz:o.loop 37800 (cR a0 n3 n1 n4)=some z)=>ho.ay (by rw [<-hz];cbv;repeat (simp only [e1,e2,e3,e4,e5,e6];try cbv)):∀z,o.loop 37800 (cR a0 n3 n1 n4)=some z->o.loop 37800 (cR a0 i n1 i1)=some z) _ w1,w2,w3⟩
theorem NT (a0:List D) (hE:∀x∈a0,NC x) (n1:Int) (hn:(a0.length:Int)=n1) (hb:n1<=1000):∀i:Int,0<=i->i<=(n1:Int)->∀y:List D,(y.length:Int)<=1000*i->(∀z∈y,z.cells.length=4)->o.loop 37801 (gU a0 n1 i y)=some (.exit 2,fT (y++qh (a0.drop i.toNat))):=by
 refine cU (P:=fun i=>∀y:List D,(y.length:Int)<=1000*i->(∀z∈y,z.cells.length=4)->o.loop 37801 (gU a0 n1 i y)=some (.exit 2,fT (y++qh (a0.drop i.toNat)))) (n1:Int) ?_;intro i h0 h1 ih;try dsimp only at ih |-
 intro y hy hz;refine ho.gC fun R Q=> ?_
 conv=>lhs;cbv
 rcases bB ho i n1 with ⟨e1,g1⟩|⟨e1,g1⟩<;>(conv=>lhs;rw [e1];cbv)
 ·subst Q;rw [bR hn (by omega)];simp only [qh,List.append_nil];rfl
 ·obtain ⟨x,hx0,hx1,hx2⟩:=aD hn h0 g1;obtain ⟨l1,rfl,hl,hc⟩:=hE _ hx2;have e2:=av ho h0 hx0;conv=>lhs;rw [e2];cbv
  obtain ⟨l2,hl2,e3⟩:∃l2,y++l1=l2/\o.app y l1=l2:=⟨_,rfl,ho.app _ _⟩
  have hz2:∀z∈l2,z.cells.length=4:=by
   intro z hzz;rw [<-hl2]at hzz;rcases List.mem_append.1 hzz with h | h
   ·exact hz z h
   ·exact hc z h
  have hlen:(l2.length:Int)<=1000*(i+1):=by rw [<-hl2,List.length_append];omega
  have e4:o.fits 4 56 l2=true:=by exact cX ho (by omega) (by decide) hz2
  obtain ⟨n2,e5,g5⟩:=bA ho i 1;conv=>lhs;rw [e3];cbv;rw [e4];cbv;rw [e5];cbv
  subst Q;rw [hx1,EQ,<-List.append_assoc,hl2];rw [show n2=i+1 by omega];exact ih (by omega) l2 hlen hz2
theorem ME (a0:List D) (hE:∀x∈a0,NC x) (n1:Int) (hn:(a0.length:Int)=n1) (hb:n1<=1000):∀i:Int,0<=i->i<=(n1:Int)->∀y:List D,(y.length:Int)<=1000*i->(∀z∈y,z.cells.length=4)->o.loop 37801 (gy a0 n1 i y)=some (.exit 2,fI (y++qh (a0.drop i.toNat))):=by
 refine cU (P:=fun i=>∀y:List D,(y.length:Int)<=1000*i->(∀z∈y,z.cells.length=4)->o.loop 37801 (gy a0 n1 i y)=some (.exit 2,fI (y++qh (a0.drop i.toNat)))) (n1:Int) ?_;intro i h0 h1 ih;try dsimp only at ih |-
 intro y hy hz;refine ho.gC fun R Q=> ?_
 conv=>lhs;cbv
 rcases bB ho i n1 with ⟨e1,g1⟩|⟨e1,g1⟩<;>(conv=>lhs;rw [e1];cbv)
 ·subst Q;rw [bR hn (by omega)];simp only [qh,List.append_nil];rfl
 ·obtain ⟨x,hx0,hx1,hx2⟩:=aD hn h0 g1;obtain ⟨l1,rfl,hl,hc⟩:=hE _ hx2;have e2:=av ho h0 hx0;conv=>lhs;rw [e2];cbv
  obtain ⟨l2,hl2,e3⟩:∃l2,y++l1=l2/\o.app y l1=l2:=⟨_,rfl,ho.app _ _⟩
  have hz2:∀z∈l2,z.cells.length=4:=by
   intro z hzz;rw [<-hl2]at hzz;rcases List.mem_append.1 hzz with h | h
   ·exact hz z h
   ·exact hc z h
  have hlen:(l2.length:Int)<=1000*(i+1):=by rw [<-hl2,List.length_append];omega
  have e4:o.fits 4 56 l2=true:=by exact cX ho (by omega) (by decide) hz2
  obtain ⟨n2,e5,g5⟩:=bA ho i 1;conv=>lhs;rw [e3];cbv;rw [e4];cbv;rw [e5];cbv
  subst Q;rw [hx1,EQ,<-List.append_assoc,hl2];rw [show n2=i+1 by omega];exact ih (by omega) l2 hlen hz2
theorem H7 (a0:List D) (hE:∀x∈a0,NC x) (hb:(a0.length:Int)<=1000):o.call 378 [Al a0] []=Ar (Al (qh a0)):=by
 refine ho.aI fun R Q=> ?_
 obtain ⟨n1,e1,g1⟩:=aB ho a0;conv=>lhs;cbv;rw [e1];cbv
 obtain ⟨n2,e2,w2,w3⟩:=NS ho a0 hE n1 g1.symm (by omega) 0 (Int.le_refl _) (by omega) 0 (Int.le_refl _) (by omega);conv at e2=>lhs;cbv
 conv=>lhs;rw [e2];cbv
 rcases MC ho n2 w2 (by omega)with ⟨l1,e3⟩ | e3
 ·obtain ⟨l2,hl2,e5⟩:∃l2,l2=[]/\o.sub l1 0 0=some l2:=⟨_,rfl,by rw [gZ ho (Int.le_refl _) (by omega) (by omega)];rfl⟩
  conv=>lhs;rw [e3];cbv;rw [ho.isZero];cbv;rw [e5];cbv;(try (rw [e1];cbv))
  obtain ⟨l3,hl3,e6⟩:∃l3,qh a0=l3/\o.loop 37801 (gy a0 n1 0 l2)=some (.exit 2,fI l3):=⟨_,rfl,by rw [hl2];exact ME ho a0 hE n1 g1.symm (by omega) 0 (Int.le_refl _) (by omega) [] (by simp) (fun z hz=>by cases hz)⟩
  conv at e6=>lhs;cbv
  conv=>lhs;rw [e6];cbv
  subst Q;rw [hl3];try rfl
 ·conv=>lhs;rw [e3];cbv;(try (rw [e1];cbv))
  obtain ⟨l1,hl1,e4⟩:∃l1,qh a0=l1/\o.loop 37801 (gU a0 n1 0 [])=some (.exit 2,fT l1):=⟨_,rfl,NT ho a0 hE n1 g1.symm (by omega) 0 (Int.le_refl _) (by omega) [] (by simp) (fun z hz=>by cases hz)⟩
  conv at e4=>lhs;cbv
  conv=>lhs;rw [e4];cbv
  subst Q;rw [hl1];try rfl
theorem H8 (a0:List D) (hT:∀x∈a0,Rt o 8 x) (h1:1<=(a0.length:Int)) (hb:(a0.length:Int)<=1000):(lq a0=none/\o.call 351 [Al a0] []=Ar (.tup [At 0 0 ⟨#[]⟩ [],Ab false]))\/(∃l,lq a0=some l/\(l.length:Int)<=1060/\(∀x∈l,Rt o 8 x)/\o.call 351 [Al a0] []=Ar (.tup [At 5 0 ⟨#[]⟩ l,Ab true])):=by
 obtain ⟨n1,e1,g1⟩:=aB ho a0;obtain ⟨n2,e2⟩:=kx (o.ar .sub .i64 n1 1);try have g2:n2=n1-1:=e2.symm.trans (fP ho (by omega) (by omega))
 obtain ⟨x,hx0,hx1,hx2⟩:=aD (xs:=a0) rfl (show 0<=n2 by omega) (by omega);obtain ⟨m',n3,n4,s1,l1,hd',rfl,hs,ht⟩:=fL (hT _ hx2);have hlen1:=ga hs;have e3:o.dm a0 n2=some (.agg [.int .i64 n3,.int .i64 n4,.str s1,.lst l1]):=av ho (by omega) hx0;have hcs:lq a0=if n3=5 then some (a0.take n2.toNat++l1)else none:=by
  unfold lq;rw [show (a0.length:Int)-1=n2 by omega,hx0]
 rcases cH ho n3 5 with ⟨e4,g4⟩|⟨e4,g4⟩
 ·obtain ⟨n5,g5,e5⟩:∃n5,n5=n2-0/\o.minus n2 0=n5:=⟨_,rfl,by rw [ho.minus]⟩
  obtain ⟨l2,hl2,e6⟩:∃l2,l2=a0.take n2.toNat/\o.sub a0 0 n5=some l2:=⟨_,rfl,by rw [gZ ho (Int.le_refl _) (by omega) (by omega)];rw [show n5=n2 by omega];rfl⟩
  have hle2:(l2.length:Int)<=1000:=by rw [hl2,List.length_take];omega
  have hc2:∀z∈l2,z.cells.length=4:=fun z hz=>eG (hT z (by rw [hl2]at hz;exact List.mem_of_mem_take hz))
  obtain ⟨l3,hl3,e7⟩:∃l3,l2++l1=l3/\o.call 378 [Al [.lst l2,.lst l1]] []=Ar (Al l3):=⟨_,rfl,(H7 ho _ (fun x hx=>by
   rcases List.mem_cons.1 hx with h | h
   ·exact ⟨l2,h,hle2,hc2⟩
   ·rcases List.mem_cons.1 h with h | h
    ·exact ⟨l1,h,by omega,fun z hz=>eG (ht z hz)⟩
    ·cases h) (by simp)).trans (by simp only [qh,List.append_nil])⟩
  refine .inr ⟨l3,by rw [hcs,if_pos g4,<-hl2,hl3],by rw [<-hl3,List.length_append];omega,fun x hx=> ?_,(ho.aq (by cbv;repeat (simp only [e1,e2,e3,e4,e5,e6,e7];try cbv)):o.call 351 [Al a0] []=Ar (.tup [At 5 0 ⟨#[]⟩ l3,Ab true]))⟩;rw [<-hl3]at hx;rcases List.mem_append.1 hx with h | h
  ·exact hT x (by rw [hl2]at h;exact List.mem_of_mem_take h)
  ·exact w6 (by omega) (ht x h)
 ·exact .inl ⟨by rw [hcs,if_neg g4],(ho.aq (by cbv;repeat (simp only [e1,e2,e3,e4];try cbv)):o.call 351 [Al a0] []=Ar (.tup [At 0 0 ⟨#[]⟩ [],Ab false]))⟩
end
def eV (a b:Int):Int:=if a<b then-1 else if b<a then 1 else 0
def wJ (o:aK) (a b:ByteArray):Int:=if o.gW .lss a b=true then-1 else if o.gW .gtr a b=true then 1 else 0
def ij (f:D->D->Int):List D->List D->Int
 | [],[]=>0
 | [],_::_=> -1
 | _::_,[]=>1
 | x::xs,y::ys=>if f x y=0 then ij f xs ys else f x y
def fV (o:aK):Nat->D->D->Int
 | d+1,.agg [.int _ k,.int _ n,.str s,.lst l],.agg [.int _ k',.int _ n',.str s',.lst l']=>
  if k≠k' then eV k k' else if k=1 then eV n n' else if k=3 then eV n n' else if k=2 then wJ o s s' else if k=4/\(l.length:Int)≠(l'.length:Int)then eV l.length l'.length
  else if k=4\/k=5 then ij (fV o d) l l' else 0
 | _,_,_=>0
theorem Fl {f:D->D->Int} {x y:D} {xs ys:List D}:ij f (x::xs) (y::ys)=if f x y=0 then ij f xs ys else f x y:=rfl
theorem K_ {o:aK} {d:Nat} {k n:Int} {s:ByteArray} {l:List D} {k' n':Int} {s':ByteArray} {l':List D}:fV o (d+1) (.agg [.int .i64 k,.int .i64 n,.str s,.lst l]) (.agg [.int .i64 k',.int .i64 n',.str s',.lst l'])=
 if k≠k' then eV k k' else if k=1 then eV n n' else if k=3 then eV n n' else if k=2 then wJ o s s' else if k=4/\(l.length:Int)≠(l'.length:Int)then eV l.length l'.length
 else if k=4\/k=5 then ij (fV o d) l l' else 0:=rfl
theorem uV {o:aK} {a b:ByteArray}:wJ o a b<0↔o.gW .lss a b=true:=by unfold wJ;split<;>(try split)<;>simp_all
theorem J8 {o:aK} {k n:Int} {s:ByteArray} {l:List D} (h:iP o k n s l=true):k=1\/k=2\/k=3\/k=4\/k=5:=by
 unfold iP at h;by_cases k1:k=1; · exact .inl k1
 by_cases k2:k=2; · exact .inr (.inl k2)
 by_cases k3:k=3; · exact .inr (.inr (.inl k3))
 by_cases k4:k=4; · exact .inr (.inr (.inr (.inl k4)))
 by_cases k5:k=5; · exact .inr (.inr (.inr (.inr k5)))
 rw [if_neg k1,if_neg k2,if_neg k3,if_neg k4,if_neg k5]at h;cases h
theorem yw {a b:Int}:eV a b=0↔a=b:=by unfold eV;split<;>(try split)<;>omega
theorem uW {a b:Int}:eV a b<0↔a<b:=by unfold eV;split<;>(try split)<;>omega
theorem Fm {f:D->D->Int}:∀{xs ys:List D},(∀x∈xs,∀y∈ys,f x y=0↔x=y)->(ij f xs ys=0↔xs=ys)
 | [],[],_=>by simp [ij]
 | [],_::_,_=>by simp [ij]
 | _::_,[],_=>by simp [ij]
 | x::xs,y::ys,h=>by
  have h1:=h x (by simp) y (by simp);have h2:=Fm (f:=f) (xs:=xs) (ys:=ys) fun a ha b hb=>h a (by simp [ha]) b (by simp [hb])
  simp only [ij,List.cons.injEq];split
  ·rename_i e;rw [h2];simp [h1.1 e]
  ·rename_i e;constructor
   ·intro g;exact absurd g e
   ·intro g;exact absurd (h1.2 g.1) e
theorem z8 {f:D->D->Int} {ys:List D}:ij f [] ys=if 0<(ys.length:Int)then-1 else 0:=by
 cases ys with
 | nil=>rfl
 | cons y ys=>simp only [ij,List.length_cons];rw [if_pos (by omega)]
section
variable {o:aK} (ho:aU cF bE o)
include ho
omit ho in
theorem w9:∀l:List UInt8,Op.bytesLess l l=false
 | []=>by simp [Op.bytesLess]
 | x::l=>by have:=w9 l;simp [Op.bytesLess,this]
theorem La {a b:ByteArray}:wJ o a b=0↔a=b:=by
 unfold wJ;have c1:o.gW .lss a b=Op.bytesLess a.toList b.toList:=ho.gW _ _ _;have c2:o.gW .gtr a b= !(Op.bytesLess a.toList b.toList || a.toList==b.toList):=ho.gW _ _ _;rw [c1,c2];by_cases h:Op.bytesLess a.toList b.toList=true
 ·rw [if_pos h];refine ⟨fun h=>by omega,fun e=> ?_⟩;subst e;rw [w9]at h;cases h
 ·rw [if_neg h];rw [Bool.not_eq_true]at h;by_cases h2:(a.toList==b.toList)=true
  ·rw [h,h2,if_neg (by decide)];simp only [true_iff];exact Cr (by simpa using h2)
  ·rw [Bool.not_eq_true]at h2;rw [h,h2,if_pos (by decide)];refine ⟨fun h=>by omega,fun e=> ?_⟩;subst e;simp at h2
theorem CQ (a0:Int):o.call 382 [Ai a0] []=Ar (Ab false):=by
 refine ho.aI fun R Q=> ?_
 conv=>lhs;cbv
 rcases cH ho a0 a0 with ⟨e1,g1⟩|⟨e1,g1⟩<;>(conv=>lhs;rw [e1];cbv)
 all_goals
  subst Q;first | exact absurd rfl g1 | rfl
theorem CR (a0:ByteArray):o.call 404 [As a0] []=Ar (Ab false):=by
 refine ho.aI fun R Q=> ?_
 conv=>lhs;cbv
 rcases pu ho a0 a0 with ⟨e1,g1⟩|⟨e1,g1⟩<;>(conv=>lhs;rw [e1];cbv)
 all_goals
  subst Q;first | exact absurd rfl g1 | rfl
theorem qo (a0 a1:Int):o.call 379 [Ai a0,Ai a1] []=Ar (Ai (eV a0 a1)):=by
 refine ho.aI fun R Q=> ?_
 have e1:o.call 382 [Ai a0] []=Ar (Ab false):=CQ ho a0;have e2:o.call 382 [Ai a1] []=Ar (Ab false):=CQ ho a1;conv=>lhs;cbv;rw [e1];cbv;rw [e2];cbv
 rcases bB ho a0 a1 with ⟨e3,g3⟩|⟨e3,g3⟩<;>(conv=>lhs;rw [e3];cbv)
 ·rcases fe ho a0 a1 with ⟨e4,g4⟩|⟨e4,g4⟩<;>(conv=>lhs;rw [e4];cbv)
  all_goals
   subst Q;exact (Eq.refl _).trans (by unfold eV;first | rw [if_pos (by omega)] | rw [if_neg (by omega),if_pos (by omega)] | rw [if_neg (by omega),if_neg (by omega)])
 ·subst Q;exact (Eq.refl _).trans (by unfold eV;first | rw [if_pos (by omega)] | rw [if_neg (by omega),if_pos (by omega)] | rw [if_neg (by omega),if_neg (by omega)])
theorem Fp (a0 a1:ByteArray):o.call 380 [As a0,As a1] []=Ar (Ai (wJ o a0 a1)):=by
 refine ho.aI fun R Q=> ?_
 have e1:o.call 404 [As a0] []=Ar (Ab false):=CR ho a0;have e2:o.call 404 [As a1] []=Ar (Ab false):=CR ho a1;conv=>lhs;cbv;rw [e1];cbv;rw [e2];cbv
 cases e3:o.gW .lss a0 a1<;>(conv=>lhs;cbv)
 ·cases e4:o.gW .gtr a0 a1<;>(conv=>lhs;cbv)
  all_goals
   subst Q;exact (Eq.refl _).trans (by unfold wJ;simp [*])
 ·subst Q;exact (Eq.refl _).trans (by unfold wJ;simp [*])
def aG (a0 a1:List D) (n1 i:Int):St:=⟨E 39 [(0,Al a0),(1,Al a1),(2,.fn 352 []),(11,Al a0),(12,Ai n1),(13,Ai i)],O 39 []⟩
def dK (a0 a1:List D):St:=⟨E 39 [(0,Al a0),(1,Al a1),(6,Ai 1)],O 39 []⟩
def dM (a0 a1:List D):St:=⟨E 39 [(0,Al a0),(1,Al a1)],O 39 []⟩
def dN (a0 a1:List D) (n7:Int):St:=⟨E 39 [(0,Al a0),(1,Al a1),(6,Ai n7)],O 39 []⟩
def bH (a0_0 a0_1:Int) (a0_2:ByteArray) (a0_3:List D) (a1_0 a1_1:Int) (a1_2:ByteArray) (a1_3:List D) (i:Int):St:=⟨E 104 [(2,.sp [.int .i64 a0_0,.int .i64 a0_1,.str a0_2,.lst a0_3] 0),(3,.sp [.int .i64 a1_0,.int .i64 a1_1,.str a1_2,.lst a1_3] 0),(5,Ai i)],O 104 []⟩
def gb (a0_0 a0_1:Int) (a0_2:ByteArray) (a0_3:List D) (a1_0 a1_1:Int) (a1_2:ByteArray) (a1_3:List D):St:=⟨E 104 [(2,.sp [.int .i64 a0_0,.int .i64 a0_1,.str a0_2,.lst a0_3] 0),(3,.sp [.int .i64 a1_0,.int .i64 a1_1,.str a1_2,.lst a1_3] 0)],O 104 []⟩
def iV (a0_0 a0_1:Int) (a0_2:ByteArray) (a0_3:List D) (a1_0 a1_1:Int) (a1_2:ByteArray) (a1_3:List D) (b4:Bool):St:=⟨E 104 [(2,.sp [.int .i64 a0_0,.int .i64 a0_1,.str a0_2,.lst a0_3] 0),(3,.sp [.int .i64 a1_0,.int .i64 a1_1,.str a1_2,.lst a1_3] 0),(4,Ab b4)],O 104 []⟩
omit ho in
def NG (o:aK) (d:Nat):Prop:=∀k n s l k' n' s' l' m,Tm d (.agg [.int .i64 k,.int .i64 n,.str s,.lst l])->Tm m (.agg [.int .i64 k',.int .i64 n',.str s',.lst l'])->o.call 352 [.agg [.d (.int .i64 k),.d (.int .i64 n),.d (.str s),.d (.lst l)],.agg [.d (.int .i64 k'),.d (.int .i64 n'),.d (.str s'),.d (.lst l')]] []=some ⟨.d (.int .i64 (fV o d (.agg [.int .i64 k,.int .i64 n,.str s,.lst l]) (.agg [.int .i64 k',.int .i64 n',.str s',.lst l']))),[],[]⟩
omit ho in
def NX (o:aK) (d:Nat):Prop:=∀k n s l k' n' s' l',Rt o d (.agg [.int .i64 k,.int .i64 n,.str s,.lst l])->Rt o d (.agg [.int .i64 k',.int .i64 n',.str s',.lst l'])->o.call 348 [.agg [.d (.int .i64 k),.d (.int .i64 n),.d (.str s),.d (.lst l)],.agg [.d (.int .i64 k'),.d (.int .i64 n'),.d (.str s'),.d (.lst l')]] []=some ⟨.d (.bool (decide (fV o d (.agg [.int .i64 k,.int .i64 n,.str s,.lst l]) (.agg [.int .i64 k',.int .i64 n',.str s',.lst l'])<0))),[],[]⟩
theorem M5 (d:Nat) (IH:NG o d) (a0 a1:List D) {m2:Nat} (hT:∀x∈a0,Tm d x) (hT2:∀x∈a1,Tm m2 x) (n1:Int) (hn:(a0.length:Int)=n1) (n4:Int) (hn2:(a1.length:Int)=n4) (hl:n1<=1048576) (hl2:n4<=1048576):∀i:Int,0<=i->i<=(n1:Int)->i<=n4->(o.loop 38100 (aG a0 a1 n1 i)=some (.ret,dK a0 a1)/\ij (fV o d) (a0.drop i.toNat) (a1.drop i.toNat)=1)\/(o.loop 38100 (aG a0 a1 n1 i)=some (.exit 0,dM a0 a1)/\ij (fV o d) (a0.drop i.toNat) (a1.drop i.toNat)=if n1<n4 then-1 else 0)\/(o.loop 38100 (aG a0 a1 n1 i)=some (.ret,dN a0 a1 (ij (fV o d) (a0.drop i.toNat) (a1.drop i.toNat)))):=by
 refine cU (P:=fun i=>i<=n4->(o.loop 38100 (aG a0 a1 n1 i)=some (.ret,dK a0 a1)/\ij (fV o d) (a0.drop i.toNat) (a1.drop i.toNat)=1)\/(o.loop 38100 (aG a0 a1 n1 i)=some (.exit 0,dM a0 a1)/\ij (fV o d) (a0.drop i.toNat) (a1.drop i.toNat)=if n1<n4 then-1 else 0)\/(o.loop 38100 (aG a0 a1 n1 i)=some (.ret,dN a0 a1 (ij (fV o d) (a0.drop i.toNat) (a1.drop i.toNat))))) (n1:Int) ?_;intro i h0 h1 ih;try dsimp only at ih |-
 intro h2;rcases bB ho i n1 with ⟨e1,g1⟩|⟨e1,g1⟩
 ·refine .inr (.inl ⟨(ho.ay (by cbv;repeat (simp only [e1];try cbv)):o.loop 38100 (aG a0 a1 n1 i)=some (.exit 0,dM a0 a1)),?_⟩);rw [bR hn (by omega),z8,List.length_drop];by_cases h:n1<n4
  · rw [if_pos h,if_pos (by omega)]
  · rw [if_neg h,if_neg (by omega)]
 ·obtain ⟨x,hx0,hx1,hx2⟩:=aD hn h0 g1;obtain ⟨m',n2,n3,s1,l1,hd',rfl,hs,hl,ht⟩:=dc (hT _ hx2);have e2:=av ho h0 hx0;have e3:o.len a1=n4:=(lS ho _).trans hn2;rcases iQ ho i n4 with ⟨e4,g4⟩|⟨e4,g4⟩
  ·obtain ⟨y,hy0,hy1,hy2⟩:=aD hn2 h0 g4;obtain ⟨m'',n5,n6,s2,l2,rfl,rfl,hs',hl',ht'⟩:=dc (hT2 _ hy2);have e5:=av ho h0 hy0;obtain ⟨n7,he6⟩:∃v,fV o d (.agg [.int .i64 n2,.int .i64 n3,.str s1,.lst l1]) (.agg [.int .i64 n5,.int .i64 n6,.str s2,.lst l2])=v:=⟨_,rfl⟩
   have e6:o.call 352 [At n2 n3 s1 l1,At n5 n6 s2 l2] []=Ar (Ai n7):=(IH _ _ _ _ _ _ _ _ _ (hT _ hx2) (hT2 _ hy2)).trans (by rw [he6]);rcases cH ho n7 0 with ⟨e7,g7⟩|⟨e7,g7⟩
   ·obtain ⟨n8,e8⟩:=kx (o.ar .add .i64 i 1);try have g8:n8=i+1:=e8.symm.trans (cM ho (by omega) (by omega))
    have ih2:=ih (by omega) (by omega);rw [hx1,hy1];simp only [ij];rw [he6,if_pos g7];rw [show i+1=n8 by omega]at ih2 |-;rcases ih2 with ⟨h,e⟩ | ⟨h,e⟩ | h
    ·exact .inl ⟨(fun z (hz:o.loop 38100 (aG a0 a1 n1 n8)=some z)=>ho.ay (by rw [<-hz];cbv;repeat (simp only [e1,e2,e3,e4,e5,e6,e7,e8];try cbv)):∀z,o.loop 38100 (aG a0 a1 n1 n8)=some z->o.loop 38100 (aG a0 a1 n1 i)=some z) _ h,e⟩
    ·exact .inr (.inl ⟨(fun z (hz:o.loop 38100 (aG a0 a1 n1 n8)=some z)=>ho.ay (by rw [<-hz];cbv;repeat (simp only [e1,e2,e3,e4,e5,e6,e7,e8];try cbv)):∀z,o.loop 38100 (aG a0 a1 n1 n8)=some z->o.loop 38100 (aG a0 a1 n1 i)=some z) _ h,e⟩)
    ·exact .inr (.inr ((fun z (hz:o.loop 38100 (aG a0 a1 n1 n8)=some z)=>ho.ay (by rw [<-hz];cbv;repeat (simp only [e1,e2,e3,e4,e5,e6,e7,e8];try cbv)):∀z,o.loop 38100 (aG a0 a1 n1 n8)=some z->o.loop 38100 (aG a0 a1 n1 i)=some z) _ h))
   ·refine .inr (.inr ?_);rw [hx1,hy1];simp only [ij];rw [he6,if_neg g7];exact (ho.ay (by cbv;repeat (simp only [e1,e2,e3,e4,e5,e6,e7];try cbv)):o.loop 38100 (aG a0 a1 n1 i)=some (.ret,dN a0 a1 n7))
  ·refine .inl ⟨(ho.ay (by cbv;repeat (simp only [e1,e2,e3,e4];try cbv)):o.loop 38100 (aG a0 a1 n1 i)=some (.ret,dK a0 a1)),?_⟩;rw [hx1,bR hn2 (by omega)];rfl
theorem z9 (d:Nat) (IH:NG o d) (a0 a1:List D) {m2:Nat} (hT:∀x∈a0,Tm d x) (hT2:∀x∈a1,Tm m2 x) (hl:(a0.length:Int)<=1048576) (hl2:(a1.length:Int)<=1048576):o.call 381 [Al a0,Al a1,.fn 352 []] []=Ar (Ai (ij (fV o d) a0 a1)):=by
 refine ho.aI fun R Q=> ?_
 obtain ⟨n1,e1,g1⟩:=aB ho a0;conv=>lhs;cbv;rw [e1];cbv
 have hl:=M5 ho d IH a0 a1 hT hT2 n1 g1.symm _ rfl (by omega) (by omega) 0 (Int.le_refl _) (by omega) (by omega);rw [show (0:Int).toNat=0 from rfl,List.drop_zero,List.drop_zero]at hl;rcases hl with ⟨e2,h1⟩ | ⟨e2,h1⟩ | e2
 ·conv at e2=>lhs;cbv
  conv=>lhs;rw [e2];cbv
  subst Q;exact (Eq.refl _).trans (by rw [h1])
 ·conv at e2=>lhs;cbv
  obtain ⟨n2,e3⟩:∃v:Int,o.len a1=v:=⟨_,rfl⟩
  have g3:=e3.symm.trans (lS ho _);conv=>lhs;rw [e2];cbv;(try (rw [e1];cbv));rw [e3];cbv
  rcases bB ho n1 n2 with ⟨e4,g4⟩|⟨e4,g4⟩<;>(conv=>lhs;rw [e4];cbv)
  ·subst Q;exact (Eq.refl _).trans (by rw [h1,if_neg (by omega)])
  ·subst Q;exact (Eq.refl _).trans (by rw [h1,if_pos (by omega)])
 ·obtain ⟨n2,hn2⟩:∃n2,n2=ij (fV o d) a0 a1:=⟨_,rfl⟩
  rw [<-hn2]at e2;conv at e2=>lhs;cbv
  conv=>lhs;rw [e2];cbv
  subst Q;rw [<-hn2];try rfl
theorem NY (d:Nat) (IH:NG o d) {m:Nat} (a0_0 a0_1:Int) (a0_2:ByteArray) (a0_3:List D) (a1_0 a1_1:Int) (a1_2:ByteArray) (a1_3:List D) (hT:Tm (d+1) (.agg [.int .i64 a0_0,.int .i64 a0_1,.str a0_2,.lst a0_3])) (hT2:Tm m (.agg [.int .i64 a1_0,.int .i64 a1_1,.str a1_2,.lst a1_3])):o.call 352 [At a0_0 a0_1 a0_2 a0_3,At a1_0 a1_1 a1_2 a1_3] []=Ar (Ai (fV o (d+1) (.agg [.int .i64 a0_0,.int .i64 a0_1,.str a0_2,.lst a0_3]) (.agg [.int .i64 a1_0,.int .i64 a1_1,.str a1_2,.lst a1_3]))):=by
 obtain ⟨d',hd,hs,hl,hT⟩:=jl hT;obtain rfl:d=d':=by omega
 obtain ⟨m,rfl,hs2,hl2,hT2⟩:=jl hT2;simp only [fV];refine ho.aI fun R Q=> ?_
 conv=>lhs;cbv
 rcases cH ho a0_0 a1_0 with ⟨e1,g1⟩|⟨e1,g1⟩<;>(conv=>lhs;rw [e1];cbv)
 ·rcases ak ho a0_0 1 with ⟨e2,g2⟩|⟨e2,g2⟩<;>(conv=>lhs;rw [e2];cbv)
  ·rcases ak ho a0_0 3 with ⟨e3,g3⟩|⟨e3,g3⟩<;>(conv=>lhs;rw [e3];cbv)
   ·rcases ak ho a0_0 2 with ⟨e4,g4⟩|⟨e4,g4⟩<;>(conv=>lhs;rw [e4];cbv)
    ·rcases ak ho a0_0 4 with ⟨e5,g5⟩|⟨e5,g5⟩<;>(conv=>lhs;rw [e5];cbv)
     ·rcases ak ho a0_0 5 with ⟨e6,g6⟩|⟨e6,g6⟩<;>(conv=>lhs;rw [e6];cbv)
      ·subst Q;exact (Eq.refl _).trans (by simp_all)
      ·obtain ⟨n1,he7⟩:∃v,ij (fV o d) a0_3 a1_3=v:=⟨_,rfl⟩
       have e7:o.call 381 [Al a0_3,Al a1_3,.fn 352 []] []=Ar (Ai n1):=(z9 ho d IH _ _ hT hT2 (by omega) (by omega)).trans (by rw [he7]);conv=>lhs;rw [e7];cbv
       subst Q;exact (Eq.refl _).trans (by simp_all)
     ·obtain ⟨n1,e6,g6⟩:=aB ho a0_3;obtain ⟨n2,e7,g7⟩:=aB ho a1_3;conv=>lhs;rw [e6];cbv;rw [e7];cbv
      rcases cH ho n1 n2 with ⟨e8,g8⟩|⟨e8,g8⟩<;>(conv=>lhs;rw [e8];cbv)
      ·obtain ⟨n3,he9⟩:∃v,ij (fV o d) a0_3 a1_3=v:=⟨_,rfl⟩
       have e9:o.call 381 [Al a0_3,Al a1_3,.fn 352 []] []=Ar (Ai n3):=(z9 ho d IH _ _ hT hT2 (by omega) (by omega)).trans (by rw [he9]);conv=>lhs;rw [e9];cbv
       subst Q;exact (Eq.refl _).trans (by simp_all)
      ·obtain ⟨n3,e9⟩:=kx (eV n1 n2);conv=>lhs;(try (rw [e6];cbv));(try (rw [e7];cbv));rw [qo ho,e9];cbv
       subst Q;exact (Eq.refl _).trans (by simp_all)
    ·obtain ⟨n1,e5⟩:=kx (wJ o a0_2 a1_2);conv=>lhs;rw [Fp ho,e5];cbv
     subst Q;exact (Eq.refl _).trans (by simp_all)
   ·obtain ⟨n1,e4⟩:=kx (eV a0_1 a1_1);conv=>lhs;rw [qo ho,e4];cbv
    subst Q;exact (Eq.refl _).trans (by simp_all)
  ·obtain ⟨n1,e3⟩:=kx (eV a0_1 a1_1);conv=>lhs;rw [qo ho,e3];cbv
   subst Q;exact (Eq.refl _).trans (by simp_all)
 ·obtain ⟨n1,e2⟩:=kx (eV a0_0 a1_0);conv=>lhs;rw [qo ho,e2];cbv
  subst Q;exact (Eq.refl _).trans (by simp_all)
theorem M6:∀d,NG o d
 | 0=>fun _ _ _ _ _ _ _ _ _ h=>h.elim
 | d+1=>fun k n s l k' n' s' l' m h h2=>NY ho d (M6 d) k n s l k' n' s' l' h h2
theorem BG:∀d a b,Rt o d a->Rt o d b->(fV o d a b=0↔a=b)
 | 0,_,_,h,_=>h.elim
 | d+1,a,b,⟨k,n,s,l,ea,ha,hl⟩,⟨k',n',s',l',eb,hb,hl'⟩=>by
  subst ea eb;have hL:=Fm (f:=fV o d) (xs:=l) (ys:=l') fun x hx y hy=>BG d x y (hl x hx) (hl' y hy)
  simp only [D.agg.injEq,List.cons.injEq,D.int.injEq,D.str.injEq,D.lst.injEq,true_and,and_true,fV];by_cases hk:k=k'
  ·subst hk;have e0:∀q:List D,(q.length:Int)=0->q=[]:=fun q h=>List.length_eq_zero_iff.1 (by omega)
   simp only [iP]at ha hb;by_cases k1:k=1
   ·subst k1;simp only [if_true,ah,decide_eq_true_eq]at ha hb;rw [if_neg (by simp),if_pos rfl,yw,ha.1.2,hb.1.2,e0 l ha.2,e0 l' hb.2];simp
   by_cases k3:k=3
   ·subst k3;simp only [show¬(3:Int)=1 by decide,show¬(3:Int)=2 by decide,if_true,if_false,ah,decide_eq_true_eq]at ha hb;rw [if_neg (by simp),if_neg (by decide),if_pos rfl,yw,ha.1.2,hb.1.2,e0 l ha.2,e0 l' hb.2];simp
   by_cases k2:k=2
   ·subst k2;simp only [show¬(2:Int)=1 by decide,if_true,if_false,ah,decide_eq_true_eq]at ha hb;rw [if_neg (by simp),if_neg (by decide),if_neg (by decide),if_pos rfl,La ho,ha.1.2,hb.1.2,e0 l ha.2,e0 l' hb.2];simp
   rw [if_neg k1,if_neg k2,if_neg k3]at ha hb;by_cases k4:k=4
   ·subst k4;simp only [if_true,ah,decide_eq_true_eq]at ha hb;rw [if_neg (by simp),if_neg k1,if_neg k3,if_neg k2,ha.1.1,hb.1.1,ha.1.2,hb.1.2];by_cases hh:(l.length:Int)=(l'.length:Int)
    ·rw [if_neg (by simp [hh]),if_pos (.inl rfl),hL];simp
    ·rw [if_pos ⟨rfl,hh⟩,yw];refine ⟨fun h=>absurd h hh,fun h=> ?_⟩;rw [h.2.2.2]
   rw [if_neg k4]at ha hb;by_cases k5:k=5
   ·subst k5;simp only [if_true,ah,decide_eq_true_eq]at ha hb;rw [if_neg (by simp),if_neg k1,if_neg k3,if_neg k2,if_neg (by simp),if_pos (.inr rfl),hL,ha.1.1,hb.1.1,ha.1.2,hb.1.2];simp
   ·rw [if_neg k5]at ha;cases ha
  ·rw [if_pos hk,yw];simp [hk]
theorem IG {d:Nat} (a0_0 a0_1:Int) (a0_2:ByteArray) (a0_3:List D) (a1_0 a1_1:Int) (a1_2:ByteArray) (a1_3:List D) (hT:Rt o d (.agg [.int .i64 a0_0,.int .i64 a0_1,.str a0_2,.lst a0_3])) (hT2:Rt o d (.agg [.int .i64 a1_0,.int .i64 a1_1,.str a1_2,.lst a1_3])):o.call 291 [.agg [.d (.int .i64 a0_0),.d (.int .i64 a0_1),.d (.str a0_2),.d (.lst a0_3)],.agg [.d (.int .i64 a1_0),.d (.int .i64 a1_1),.d (.str a1_2),.d (.lst a1_3)]] []=some ⟨.d (.bool (decide (fV o d (.agg [.int .i64 a0_0,.int .i64 a0_1,.str a0_2,.lst a0_3]) (.agg [.int .i64 a1_0,.int .i64 a1_1,.str a1_2,.lst a1_3])<0))),[],[]⟩:=by
 refine ho.aI fun R Q=> ?_
 obtain ⟨n1,he1⟩:∃v,fV o d (.agg [.int .i64 a0_0,.int .i64 a0_1,.str a0_2,.lst a0_3]) (.agg [.int .i64 a1_0,.int .i64 a1_1,.str a1_2,.lst a1_3])=v:=⟨_,rfl⟩
 have e1:o.call 352 [.agg [.d (.int .i64 a0_0),.d (.int .i64 a0_1),.d (.str a0_2),.d (.lst a0_3)],.agg [.d (.int .i64 a1_0),.d (.int .i64 a1_1),.d (.str a1_2),.d (.lst a1_3)]] []=some ⟨.d (.int .i64 n1),[],[]⟩:=(M6 ho _ _ _ _ _ _ _ _ _ _ (j6 hT) (j6 hT2)).trans (by rw [he1]);conv=>lhs;cbv;rw [e1];cbv
 rcases bB ho n1 0 with ⟨e2,g2⟩|⟨e2,g2⟩<;>(conv=>lhs;rw [e2];cbv)
 all_goals
  subst Q;exact (Eq.refl _).trans (by congr 3;congr 1;first | exact (decide_eq_false (by omega)).symm | exact (decide_eq_true (by omega)).symm)
theorem Lb (d:Nat) (IH:NX o d) (a0_0 a0_1:Int) (a0_2:ByteArray) (a0_3:List D) (a1_0 a1_1:Int) (a1_2:ByteArray) (a1_3:List D) (hT:∀x∈a0_3,Rt o d x) (hT2:∀x∈a1_3,Rt o d x) (n1:Int) (hn:(a0_3.length:Int)=n1) (n2:Int) (hn2:(a1_3.length:Int)=n2) (hl:n1<=1048576) (hl2:n2<=1048576):∀i:Int,0<=i->i<=(n1:Int)->i<=n2->(o.loop 34800 (bH a0_0 a0_1 a0_2 a0_3 a1_0 a1_1 a1_2 a1_3 i)=some (.exit 1,gb a0_0 a0_1 a0_2 a0_3 a1_0 a1_1 a1_2 a1_3)/\decide (ij (fV o d) (a0_3.drop i.toNat) (a1_3.drop i.toNat)<0)=decide (n1<n2))\/(o.loop 34800 (bH a0_0 a0_1 a0_2 a0_3 a1_0 a1_1 a1_2 a1_3 i)=some (.ret,iV a0_0 a0_1 a0_2 a0_3 a1_0 a1_1 a1_2 a1_3 (decide (ij (fV o d) (a0_3.drop i.toNat) (a1_3.drop i.toNat)<0)))):=by
 refine cU (P:=fun i=>i<=n2->(o.loop 34800 (bH a0_0 a0_1 a0_2 a0_3 a1_0 a1_1 a1_2 a1_3 i)=some (.exit 1,gb a0_0 a0_1 a0_2 a0_3 a1_0 a1_1 a1_2 a1_3)/\decide (ij (fV o d) (a0_3.drop i.toNat) (a1_3.drop i.toNat)<0)=decide (n1<n2))\/(o.loop 34800 (bH a0_0 a0_1 a0_2 a0_3 a1_0 a1_1 a1_2 a1_3 i)=some (.ret,iV a0_0 a0_1 a0_2 a0_3 a1_0 a1_1 a1_2 a1_3 (decide (ij (fV o d) (a0_3.drop i.toNat) (a1_3.drop i.toNat)<0))))) (n1:Int) ?_;intro i h0 h1 ih;try dsimp only at ih |-
 intro h2;have e1:o.len a0_3=n1:=(lS ho _).trans hn;rcases bB ho i n1 with ⟨e2,g2⟩|⟨e2,g2⟩
 ·refine .inl ⟨(ho.ay (by cbv;repeat (simp only [e1,e2];try cbv)):o.loop 34800 (bH a0_0 a0_1 a0_2 a0_3 a1_0 a1_1 a1_2 a1_3 i)=some (.exit 1,gb a0_0 a0_1 a0_2 a0_3 a1_0 a1_1 a1_2 a1_3)),?_⟩;rw [bR hn (by omega),z8,List.length_drop];by_cases h:n1<n2
  · rw [if_pos (by omega)];simp [h]
  · rw [if_neg (by omega)];simp [h]
 ·have e3:o.len a1_3=n2:=(lS ho _).trans hn2;rcases bB ho i n2 with ⟨e4,g4⟩|⟨e4,g4⟩
  ·refine .inl ⟨(ho.ay (by cbv;repeat (simp only [e1,e2,e3,e4];try cbv)):o.loop 34800 (bH a0_0 a0_1 a0_2 a0_3 a1_0 a1_1 a1_2 a1_3 i)=some (.exit 1,gb a0_0 a0_1 a0_2 a0_3 a1_0 a1_1 a1_2 a1_3)),?_⟩;obtain ⟨x,_,hx1,_⟩:=aD hn h0 g2;rw [hx1,bR hn2 (by omega)];exact (decide_eq_false (show¬(1:Int)<0 by decide)).trans (decide_eq_false (by omega)).symm
  ·obtain ⟨x,hx0,hx1,hx2⟩:=aD hn h0 g2;obtain ⟨m',n3,n4,s1,l1,hd',rfl,hs,ht⟩:=fL (hT _ hx2);have e5:=av ho h0 hx0;obtain ⟨y,hy0,hy1,hy2⟩:=aD hn2 h0 g4;obtain ⟨m'',n5,n6,s2,l2,hd'',rfl,hs',ht'⟩:=fL (hT2 _ hy2);have e6:=av ho h0 hy0;cases he7:bY (.agg [.int .i64 n3,.int .i64 n4,.str s1,.lst l1]) (.agg [.int .i64 n5,.int .i64 n6,.str s2,.lst l2])
   ·have e7:o.call 347 [At n3 n4 s1 l1,At n5 n6 s2 l2] []=Ar (Ab false):=(yu ho _ _ _ _ _ _ _ _ _ _ (j6 (hT _ hx2)) (j6 (hT2 _ hy2))).trans (by rw [he7]);obtain ⟨b4,he8⟩:∃b:Bool,decide (fV o d (.agg [.int .i64 n3,.int .i64 n4,.str s1,.lst l1]) (.agg [.int .i64 n5,.int .i64 n6,.str s2,.lst l2])<0)=b:=⟨_,rfl⟩
    have e8:o.call 348 [At n3 n4 s1 l1,At n5 n6 s2 l2] []=Ar (Ab b4):=(IH _ _ _ _ _ _ _ _ (hT _ hx2) (hT2 _ hy2)).trans (by rw [he8]);refine .inr ?_;rw [hx1,hy1];rw [Fl,if_neg fun h=>kF he7 ((BG ho d _ _ (hT _ hx2) (hT2 _ hy2)).1 h),he8];exact (ho.ay (by cbv;repeat (simp only [e1,e2,e3,e4,e5,e6,e7,e8];try cbv)):o.loop 34800 (bH a0_0 a0_1 a0_2 a0_3 a1_0 a1_1 a1_2 a1_3 i)=some (.ret,iV a0_0 a0_1 a0_2 a0_3 a1_0 a1_1 a1_2 a1_3 b4))
   ·have e7:o.call 347 [At n3 n4 s1 l1,At n5 n6 s2 l2] []=Ar (Ab true):=(yu ho _ _ _ _ _ _ _ _ _ _ (j6 (hT _ hx2)) (j6 (hT2 _ hy2))).trans (by rw [he7]);obtain ⟨n7,e8⟩:=kx (o.ar .add .i64 i 1);try have g8:n7=i+1:=e8.symm.trans (cM ho (by omega) (by omega))
    have ih2:=ih (by omega) (by omega);rw [hx1,hy1];rw [Fl,if_pos ((BG ho d _ _ (hT _ hx2) (hT2 _ hy2)).2 (mA he7))];rw [show i+1=n7 by omega]at ih2 |-;rcases ih2 with ⟨h,e⟩ | h
    ·exact .inl ⟨(fun z (hz:o.loop 34800 (bH a0_0 a0_1 a0_2 a0_3 a1_0 a1_1 a1_2 a1_3 n7)=some z)=>ho.ay (by rw [<-hz];cbv;repeat (simp only [e1,e2,e3,e4,e5,e6,e7,e8];try cbv)):∀z,o.loop 34800 (bH a0_0 a0_1 a0_2 a0_3 a1_0 a1_1 a1_2 a1_3 n7)=some z->o.loop 34800 (bH a0_0 a0_1 a0_2 a0_3 a1_0 a1_1 a1_2 a1_3 i)=some z) _ h,e⟩
    ·exact .inr ((fun z (hz:o.loop 34800 (bH a0_0 a0_1 a0_2 a0_3 a1_0 a1_1 a1_2 a1_3 n7)=some z)=>ho.ay (by rw [<-hz];cbv;repeat (simp only [e1,e2,e3,e4,e5,e6,e7,e8];try cbv)):∀z,o.loop 34800 (bH a0_0 a0_1 a0_2 a0_3 a1_0 a1_1 a1_2 a1_3 n7)=some z->o.loop 34800 (bH a0_0 a0_1 a0_2 a0_3 a1_0 a1_1 a1_2 a1_3 i)=some z) _ h)
theorem M7 (d:Nat) (IH:NX o d) (a0_0 a0_1:Int) (a0_2:ByteArray) (a0_3:List D) (a1_0 a1_1:Int) (a1_2:ByteArray) (a1_3:List D) (hT:Rt o (d+1) (.agg [.int .i64 a0_0,.int .i64 a0_1,.str a0_2,.lst a0_3])) (hT2:Rt o (d+1) (.agg [.int .i64 a1_0,.int .i64 a1_1,.str a1_2,.lst a1_3])):o.call 348 [.agg [.d (.int .i64 a0_0),.d (.int .i64 a0_1),.d (.str a0_2),.d (.lst a0_3)],.agg [.d (.int .i64 a1_0),.d (.int .i64 a1_1),.d (.str a1_2),.d (.lst a1_3)]] []=some ⟨.d (.bool (decide (fV o (d+1) (.agg [.int .i64 a0_0,.int .i64 a0_1,.str a0_2,.lst a0_3]) (.agg [.int .i64 a1_0,.int .i64 a1_1,.str a1_2,.lst a1_3])<0))),[],[]⟩:=by
 obtain ⟨d',hd,hs,hT⟩:=qk hT;obtain rfl:d=d':=by omega
 obtain ⟨d'',hd2,hs2,hT2⟩:=qk hT2;obtain rfl:d=d'':=by omega
 have l1:=ga hs;have l2:=ga hs2;rw [K_];have hl:=Lb ho d IH a0_0 a0_1 a0_2 a0_3 a1_0 a1_1 a1_2 a1_3 hT hT2 _ rfl _ rfl (by omega) (by omega) 0 (Int.le_refl _) (by omega) (by omega);rw [show (0:Int).toNat=0 from rfl,List.drop_zero,List.drop_zero]at hl;refine ho.aI fun R Q=> ?_
 conv=>lhs;cbv
 rcases cH ho a0_0 a1_0 with ⟨e1,g1⟩|⟨e1,g1⟩<;>(conv=>lhs;rw [e1];cbv)
 ·rcases ak ho a0_0 1 with ⟨e2,g2⟩|⟨e2,g2⟩<;>(conv=>lhs;rw [e2];cbv)
  ·rcases ak ho a0_0 3 with ⟨e3,g3⟩|⟨e3,g3⟩<;>(conv=>lhs;rw [e3];cbv)
   ·rcases ak ho a0_0 2 with ⟨e4,g4⟩|⟨e4,g4⟩<;>(conv=>lhs;rw [e4];cbv)
    ·rcases ak ho a0_0 4 with ⟨e5,g5⟩|⟨e5,g5⟩<;>(conv=>lhs;rw [e5];cbv)
     ·rcases hl with ⟨e6,h1⟩ | e6
      ·conv at e6=>lhs;cbv
       obtain ⟨n1,e7,g7⟩:=aB ho a0_3;obtain ⟨n2,e8,g8⟩:=aB ho a1_3;conv=>lhs;rw [e6];cbv;rw [e7];cbv;rw [e8];cbv
       rcases bB ho n1 n2 with ⟨e9,g9⟩|⟨e9,g9⟩<;>(conv=>lhs;rw [e9];cbv)
       all_goals
        subst Q;have k5:a0_0=5:=by have:=J8 hs;omega
        rw [if_neg (by omega),if_neg g2,if_neg g3,if_neg g4,if_neg (by omega),if_pos (.inr k5)];rw [h1];first | exact congrArg (fun b=>some (bk.mk (.d (.bool b)) [] [])) (decide_eq_false (by omega)).symm | exact congrArg (fun b=>some (bk.mk (.d (.bool b)) [] [])) (decide_eq_true (by omega)).symm
      ·obtain ⟨b6,hb6⟩:∃b,decide (ij (fV o d) a0_3 a1_3<0)=b:=⟨_,rfl⟩
       rw [hb6]at e6;conv at e6=>lhs;cbv
       conv=>lhs;rw [e6];cbv
       subst Q;have k5:a0_0=5:=by have:=J8 hs;omega
       rw [if_neg (by omega),if_neg g2,if_neg g3,if_neg g4,if_neg (by omega),if_pos (.inr k5)];first | rw [hb6] | rw [hb7]
     ·obtain ⟨n1,e6,g6⟩:=aB ho a0_3;obtain ⟨n2,e7,g7⟩:=aB ho a1_3;conv=>lhs;rw [e6];cbv;rw [e7];cbv
      rcases cH ho n1 n2 with ⟨e8,g8⟩|⟨e8,g8⟩<;>(conv=>lhs;rw [e8];cbv)
      ·rcases hl with ⟨e9,h1⟩ | e9
       ·conv at e9=>lhs;cbv
        conv=>lhs;rw [e9];cbv;(try (rw [e6];cbv));(try (rw [e7];cbv))
        rcases bB ho n1 n2 with ⟨e10,g10⟩|⟨e10,g10⟩<;>(conv=>lhs;rw [e10];cbv)
        all_goals
         subst Q;rw [if_neg (by omega),if_neg g2,if_neg g3,if_neg g4,if_neg (by omega),if_pos (.inl g5)];rw [h1];first | exact congrArg (fun b=>some (bk.mk (.d (.bool b)) [] [])) (decide_eq_false (by omega)).symm | exact congrArg (fun b=>some (bk.mk (.d (.bool b)) [] [])) (decide_eq_true (by omega)).symm
       ·obtain ⟨b7,hb7⟩:∃b,decide (ij (fV o d) a0_3 a1_3<0)=b:=⟨_,rfl⟩
        rw [hb7]at e9;conv at e9=>lhs;cbv
        conv=>lhs;rw [e9];cbv
        subst Q;rw [if_neg (by omega),if_neg g2,if_neg g3,if_neg g4,if_neg (by omega),if_pos (.inl g5)];first | rw [hb6] | rw [hb7]
      ·conv=>lhs;(try (rw [e6];cbv));(try (rw [e7];cbv))
       rcases bB ho n1 n2 with ⟨e9,g9⟩|⟨e9,g9⟩<;>(conv=>lhs;rw [e9];cbv)
       all_goals
        subst Q;clear IH hT hT2;exact (Eq.refl _).trans (by simp_all [uW,uV])
    ·cases e5:o.gW .lss a0_2 a1_2<;>(conv=>lhs;cbv)
     all_goals
      subst Q;clear IH hT hT2;exact (Eq.refl _).trans (by simp_all [uW,uV])
   ·rcases bB ho a0_1 a1_1 with ⟨e4,g4⟩|⟨e4,g4⟩<;>(conv=>lhs;rw [e4];cbv)
    all_goals
     subst Q;clear IH hT hT2;exact (Eq.refl _).trans (by simp_all [uW,uV])
  ·rcases bB ho a0_1 a1_1 with ⟨e3,g3⟩|⟨e3,g3⟩<;>(conv=>lhs;rw [e3];cbv)
   all_goals
    subst Q;clear IH hT hT2;exact (Eq.refl _).trans (by simp_all [uW,uV])
 ·rcases bB ho a0_0 a1_0 with ⟨e2,g2⟩|⟨e2,g2⟩<;>(conv=>lhs;rw [e2];cbv)
  all_goals
   subst Q;clear IH hT hT2;exact (Eq.refl _).trans (by simp_all [uW,uV])
theorem J9:∀d,NX o d
 | 0=>fun _ _ _ _ _ _ _ _ h=>h.elim
 | d+1=>fun k n s l k' n' s' l' h h2=>M7 ho d (J9 d) k n s l k' n' s' l' h h2
end
end T2
