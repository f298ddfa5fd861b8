import Derived.Test.YtfnagkpidcdocaaGreatM18
import Derived.Test.YtfnagkpidcdocaaGreatM16
set_option linter.all false
namespace T2
open Go Go.Vi
set_option maxRecDepth 100000
set_option maxHeartbeats 4000000
def Sl (o:aK) (x:D):Prop:=x=lD\/Rt o 8 x
theorem DJ {o:aK} {x:D} (h:Sl o x):∃k n s l,x= .agg [.int .i64 k,.int .i64 n,.str s,.lst l]:=by
 rcases h with rfl | h
 ·exact ⟨_,_,_,_,rfl⟩
 ·obtain ⟨_,k,n,s,l,_,e,_⟩:=fL h;exact ⟨k,n,s,l,e⟩
theorem MI {o:aK} {x:D} (h:Sl o x):x.cells.length=4:=by obtain ⟨_,_,_,_,rfl⟩:=DJ h;rfl
def a_ (f:D->D->List D->Bool×List D):List D->List D->List D->Bool×List D
 | p::ps,t::ts,S=>if (f p t S).1 then a_ f ps ts (f p t S).2 else (false,(f p t S).2)
 | _,_,S=>(true,S)
theorem mr {f:D->D->List D->Bool×List D} {p t:D} {ps ts S:List D}:a_ f (p::ps) (t::ts) S=if (f p t S).1 then a_ f ps ts (f p t S).2 else (false,(f p t S).2):=rfl
theorem qj {f:D->D->List D->Bool×List D} {ts S:List D}:a_ f [] ts S=(true,S):=by cases ts<;>rfl
theorem uE {f:D->D->List D->Bool×List D}:∀(ps ts S:List D) (m:Nat),ps.length<=m->a_ f ps (ts.take m) S=a_ f ps ts S
 | [],ts,S,m,_=>by rw [qj,qj]
 | p::ps,[],S,m,_=>by rw [List.take_nil]
 | p::ps,t::ts,S,m+1,h=>by rw [List.take_succ_cons,mr,mr,uE ps ts _ m (by simp only [List.length_cons]at h;omega)]
 | p::ps,t::ts,S,0,h=>by simp at h
def oU (l:List D) (m:Int):D:= .agg [.int .i64 5,.int .i64 0,.str ⟨#[]⟩,.lst (l.drop m.toNat)]
def aC:Nat->D->D->List D->Bool×List D
 | d+1,.agg [.int _ k,.int _ n,.str s,.lst ps],.agg [.int _ tk,.int _ tn,.str ts,.lst tl],S=>
  if k=1 then (if tk=1 then (decide (tn=n),S)else (false,S))
  else if k=2 then (if tk=2 then (decide (ts=s),S)else (false,S))
  else if k=3 then (true,if 0<=n then S.set n.toNat (.agg [.int .i64 tk,.int .i64 tn,.str ts,.lst tl])else S)
  else if k=4 then (if tk=4 then if (tl.length:Int)=ps.length then a_ (aC d) ps tl S else (false,S)else (false,S))
  else if k=5 then (if tk=5 then if (tl.length:Int)=ps.length then a_ (aC d) ps tl S else (false,S)else (false,S))
  else if tk≠5 then (false,S)else if (tl.length:Int)<ps.length-1 then (false,S)
  else match ps[((ps.length:Int)-1).toNat]? with
   | none=>(false,S)
   | some p=>if (a_ (aC d) (ps.take ((ps.length:Int)-1).toNat) tl S).1 then aC d p (oU tl ((ps.length:Int)-1)) (a_ (aC d) (ps.take ((ps.length:Int)-1).toNat) tl S).2
    else (false,(a_ (aC d) (ps.take ((ps.length:Int)-1).toNat) tl S).2)
 | _,_,_,S=>(false,S)
theorem bK {d:Nat} {k n tk tn:Int} {s ts:ByteArray} {ps tl S:List D}:aC (d+1) (.agg [.int .i64 k,.int .i64 n,.str s,.lst ps]) (.agg [.int .i64 tk,.int .i64 tn,.str ts,.lst tl]) S=
 if k=1 then (if tk=1 then (decide (tn=n),S)else (false,S))
 else if k=2 then (if tk=2 then (decide (ts=s),S)else (false,S))
 else if k=3 then (true,if 0<=n then S.set n.toNat (.agg [.int .i64 tk,.int .i64 tn,.str ts,.lst tl])else S)
 else if k=4 then (if tk=4 then if (tl.length:Int)=ps.length then a_ (aC d) ps tl S else (false,S)else (false,S))
 else if k=5 then (if tk=5 then if (tl.length:Int)=ps.length then a_ (aC d) ps tl S else (false,S)else (false,S))
 else if tk≠5 then (false,S)else if (tl.length:Int)<ps.length-1 then (false,S)
 else match ps[((ps.length:Int)-1).toNat]? with
  | none=>(false,S)
  | some p=>if (a_ (aC d) (ps.take ((ps.length:Int)-1).toNat) tl S).1 then aC d p (oU tl ((ps.length:Int)-1)) (a_ (aC d) (ps.take ((ps.length:Int)-1).toNat) tl S).2
   else (false,(a_ (aC d) (ps.take ((ps.length:Int)-1).toNat) tl S).2):=rfl
theorem x_ {o:aK} {k n:Int} {s:ByteArray} {l:List D} {m:Nat} {i:Int} (h:iP o k n s l=true) (hk:k=5) (hl:∀x∈l,Rt o m x) (hm:m+1<=8):Rt o 8 (oU l i):=by
 refine w6 hm ⟨_,_,_,_,rfl,?_,fun x hx=>hl x (List.mem_of_mem_drop hx)⟩;have:=ga h;unfold iP;rw [if_neg (by omega),if_neg (by omega),if_neg (by omega),if_neg (by omega),if_pos rfl];subst hk;unfold iP at h;rw [if_neg (by omega),if_neg (by omega),if_neg (by omega),if_neg (by omega),if_pos rfl]at h;simp only [ah,decide_eq_true_eq]at h |-;refine ⟨⟨trivial,trivial⟩,by rw [List.length_drop];omega⟩
def MJ (o:aK) (S:List D) (r:Bool×List D):Prop:=r.2.length=S.length/\∀x∈r.2,Sl o x
theorem tJ {o:aK} {f:D->D->List D->Bool×List D} (hf:∀p t S,Rt o 8 t->(∀x∈S,Sl o x)->MJ o S (f p t S)):∀(ps ts S:List D),(∀t∈ts,Rt o 8 t)->(∀x∈S,Sl o x)->MJ o S (a_ f ps ts S)
 | [],ts,S,_,hS=>by rw [qj];exact ⟨rfl,hS⟩
 | p::ps,[],S,_,hS=>⟨rfl,hS⟩
 | p::ps,t::ts,S,hT,hS=>by
  have h1:=hf p t S (hT t (by simp)) hS;rw [mr];split
  ·have h2:=tJ hf ps ts (f p t S).2 (fun x hx=>hT x (by simp [hx])) h1.2;exact ⟨h2.1.trans h1.1,h2.2⟩
  ·exact h1
theorem kD {o:aK}:∀(d:Nat) (p t:D) (S:List D),Rt o 8 t->(∀x∈S,Sl o x)->MJ o S (aC d p t S)
 | 0,p,t,S,_,hS=>by unfold aC;exact ⟨rfl,hS⟩
 | d+1,p,t,S,hT,hS=>by
  have triv:∀b:Bool,MJ o S (b,S):=fun b=>⟨rfl,hS⟩
  unfold aC;split
  ·rename_i k1 k k2 n s ps k3 tk k4 tn ts tl he;obtain ⟨m',k',n',s',l',hm,e2,hs,ht⟩:=fL hT;injection e2 with e2;simp only [List.cons.injEq,D.int.injEq,D.str.injEq,D.lst.injEq,and_true]at e2;obtain ⟨⟨rfl,rfl⟩,⟨rfl,rfl⟩,rfl,rfl⟩:=e2;injection he with he;subst he;have hT8:∀t∈tl,Rt o 8 t:=fun t h=>w6 (by omega) (ht t h)
   have hE:=fun ps S (hS:∀x∈S,Sl o x)=>tJ (kD d) ps tl S hT8 hS
   split; · split<;>exact triv _
   split; · split<;>exact triv _
   split
   ·split
    ·refine ⟨List.length_set,fun x hx=> ?_⟩;rcases List.mem_or_eq_of_mem_set hx with h | h
     ·exact hS x h
     ·rw [h];exact .inr hT
    ·exact triv _
   split
   ·split
    ·split
     ·exact hE _ _ hS
     ·exact triv _
    ·exact triv _
   split
   ·split
    ·split
     ·exact hE _ _ hS
     ·exact triv _
    ·exact triv _
   split; · exact triv _
   rename_i h5;split; · exact triv _
   split
   ·exact triv _
   ·rename_i pp hpp;have h1:=hE (ps.take ((ps.length:Int)-1).toNat) _ hS;split
    ·have h2:=kD d pp (oU tl ((ps.length:Int)-1)) _ (x_ hs (Decidable.not_not.1 h5) ht (by omega)) h1.2;exact ⟨h2.1.trans h1.1,h2.2⟩
    ·exact h1
  ·exact triv _
theorem dP {xs:List D} {i:Nat} {x:D} (h:xs[i]? =some x):xs.set i x=xs:=by
 obtain ⟨h1,h2⟩:=ai.1 h;rw [<-h2];exact List.set_getElem_self h1
theorem bU {xs:List D} {i:Nat} {x:D} (h:i<xs.length):(xs.set i x)[i]? =some x:=by rw [List.getElem?_set_self h]
theorem EV {o:aK} {sl:Int} {d:Nat} {k n:Int} {s:ByteArray} {l:List D} (h:cY o sl (d+1) (.agg [.int .i64 k,.int .i64 n,.str s,.lst l])<=300):gF o k n s l.length sl=true/\∀x∈l,cY o sl d x<=300:=by
 rw [CT]at h;split at h
 ·rename_i hs;split at h
  ·refine ⟨hs,fun x hx=> ?_⟩;have:=ow (f:=cY o sl d) (fun x=>(iF o sl d x).1) hx;omega
  ·omega
 ·omega
theorem EW {o:aK} {k n:Int} {s:ByteArray} {c sl:Int} (h:gF o k n s c sl=true):(k=3->n<=sl-1)/\(k≠1->k≠2->k≠3->k≠4->k≠5->2<=c)/\(k=4\/k=5\/k=6->c<=20):=by
 unfold gF at h;split at h
 ·simp only [ah]at h;have:=cT h.2;exact ⟨fun _=>this.2,by omega,by omega⟩
 ·unfold kZ at h;split at h; · exact ⟨by omega,by omega,by omega⟩
  split at h; · exact ⟨by omega,by omega,by omega⟩
  split at h; · simp only [ah,decide_eq_true_eq]at h;exact ⟨by omega,by omega,by omega⟩
  split at h; · simp only [ah,decide_eq_true_eq]at h;exact ⟨by omega,by omega,by omega⟩
  split at h; · simp only [ah]at h;have:=cT h.2;exact ⟨by omega,by omega,by omega⟩
  cases h
section
variable {o:aK} (ho:aU cF bE o)
include ho
theorem pz {xs:List D} (h:∀x∈xs,Sl o x):o.flat xs=true:=by
 rw [ho.flat,List.all_eq_true];intro x hx;obtain ⟨k,n,s,l,rfl⟩:=DJ (h x hx);rfl
theorem H_ (l:List D) (hb:(l.length:Int)<=1048576) (hc:∀x∈l,x.cells.length=4):o.call 289 [Al l] []=some ⟨.arr (0,0) (31,4) none false,[],[Os l]⟩:=by
 refine ho.aI fun R Q=> ?_
 have e1:o.fits 4 56 l=true:=by exact cX ho (by omega) (by decide) hc
 conv=>lhs;cbv;rw [e1];cbv
 subst Q;rfl
theorem Ia (l:List D) (hb:(l.length:Int)<=1048576) (hc:∀x∈l,x.cells.length=4):o.call 289 [.arr (1,0) (31,4) none false] [Os l]=some ⟨.arr (0,0) (31,4) none false,[Os l],[Os l]⟩:=by
 refine ho.aI fun R Q=> ?_
 have e1:o.fits 4 56 l=true:=by exact cX ho (by omega) (by decide) hc
 conv=>lhs;cbv;rw [e1];cbv
 subst Q;rfl
theorem Ib (l:List D) (a n:Int) (l1:List D) (hl:o.sub l a n=some l1) (hb:(l1.length:Int)<=1048576) (hc:∀x∈l1,x.cells.length=4):o.call 289 [.arr (1,0) (31,4) (some (a,n)) false] [Os l]=some ⟨.arr (0,0) (31,4) none false,[Os l],[Os l1]⟩:=by
 refine ho.aI fun R Q=> ?_
 have e1:o.sub l a n=some l1:=hl;have e2:o.fits 4 56 l1=true:=by exact cX ho (by omega) (by decide) hc
 conv=>lhs;cbv;rw [e1];cbv;rw [e2];cbv
 subst Q;rfl
def b_ (i:Int) (t p:List D) (n1 i1:Int) (y:List D):St:=⟨E 25 [(0,.prow (25,0) (192,3) i 0),(2,Al t),(9,Al p),(10,Ai n1),(11,Ai i1)],O 26 [(25,[Oo y])]⟩
def fJ (y:List D):St:=⟨E 25 [],O 26 [(25,[Oo y])]⟩
def fK (l3:List D):St:=⟨E 25 [(6,Ab false)],O 26 [(25,[Oo l3])]⟩
def dY (p t:List D) (i:Int) (y:List D):St:=⟨E 25 [(0,Al p),(1,Al t),(2,.arr (25,0) (31,4) none false),(7,Ai i)],O 26 [(25,[Os y])]⟩
def jr (y:List D):St:=⟨E 25 [],O 26 [(25,[Os y])]⟩
def js (l3:List D):St:=⟨E 25 [(6,Ab false)],O 26 [(25,[Os l3])]⟩
omit ho in
def BD (o:aK) (sl:Int) (d:Nat):Prop:=∀m p_0 p_1 p_2 p_3,Tm m (.agg [.int .i64 p_0,.int .i64 p_1,.str p_2,.lst p_3])->cY o sl d (.agg [.int .i64 p_0,.int .i64 p_1,.str p_2,.lst p_3])<=300->∀t_0 t_1 t_2 t_3,Rt o 8 (.agg [.int .i64 t_0,.int .i64 t_1,.str t_2,.lst t_3])->∀(fs:List D) (i F pc:Int) (S:List D),0<=i->fs[i.toNat]? =some (.agg [.int .i64 F,.int .i64 pc,.own (31,4) S])->(S.length:Int)=sl->(∀x∈S,Sl o x)->o.call 293 [.prow (1,0) (192,3) i 0,.agg [.d (.int .i64 p_0),.d (.int .i64 p_1),.d (.str p_2),.d (.lst p_3)],.agg [.d (.int .i64 t_0),.d (.int .i64 t_1),.d (.str t_2),.d (.lst t_3)]] [some (.orows (192,3) fs)]=some ⟨.d (.bool (aC d (.agg [.int .i64 p_0,.int .i64 p_1,.str p_2,.lst p_3]) (.agg [.int .i64 t_0,.int .i64 t_1,.str t_2,.lst t_3]) S).1),[some (.orows (192,3) (fs.set i.toNat (.agg [.int .i64 F,.int .i64 pc,.own (31,4) (aC d (.agg [.int .i64 p_0,.int .i64 p_1,.str p_2,.lst p_3]) (.agg [.int .i64 t_0,.int .i64 t_1,.str t_2,.lst t_3]) S).2])))],[]⟩
omit ho in
def MD (o:aK) (sl:Int) (d:Nat):Prop:=∀m p_0 p_1 p_2 p_3,Tm m (.agg [.int .i64 p_0,.int .i64 p_1,.str p_2,.lst p_3])->cY o sl d (.agg [.int .i64 p_0,.int .i64 p_1,.str p_2,.lst p_3])<=300->∀t_0 t_1 t_2 t_3,Rt o 8 (.agg [.int .i64 t_0,.int .i64 t_1,.str t_2,.lst t_3])->∀S:List D,(S.length:Int)=sl->(∀x∈S,Sl o x)->o.call 188 [.agg [.d (.int .i64 p_0),.d (.int .i64 p_1),.d (.str p_2),.d (.lst p_3)],.agg [.d (.int .i64 t_0),.d (.int .i64 t_1),.d (.str t_2),.d (.lst t_3)],.arr (1,0) (31,4) none false] [some (.rows (31,4) S)]=some ⟨.d (.bool (aC d (.agg [.int .i64 p_0,.int .i64 p_1,.str p_2,.lst p_3]) (.agg [.int .i64 t_0,.int .i64 t_1,.str t_2,.lst t_3]) S).1),[some (.rows (31,4) (aC d (.agg [.int .i64 p_0,.int .i64 p_1,.str p_2,.lst p_3]) (.agg [.int .i64 t_0,.int .i64 t_1,.str t_2,.lst t_3]) S).2)],[]⟩
theorem MK (sl:Int) (d:Nat) (IH:BD o sl d) (p t:List D) {m:Nat} (hP:∀x∈p,Tm m x) (hM:∀x∈p,cY o sl d x<=300) (hT:∀x∈t,Rt o 8 x) (hle:(p.length:Int)<=t.length) (hb:(p.length:Int)<=1048576) (i:Int) (hi:0<=i) (n1:Int) (hn:(p.length:Int)=n1):∀i1:Int,0<=i1->i1<=(n1:Int)->∀(y:List D) (F pc:Int) (S:List D),y[i.toNat]? =some (.agg [.int .i64 F,.int .i64 pc,.own (31,4) S])->(S.length:Int)=sl->(∀x∈S,Sl o x)->∃z,z=y.set i.toNat (.agg [.int .i64 F,.int .i64 pc,.own (31,4) (a_ (aC d) (p.drop i1.toNat) (t.drop i1.toNat) S).2])/\o.loop 35400 (b_ i t p n1 i1 y)=some (if (a_ (aC d) (p.drop i1.toNat) (t.drop i1.toNat) S).1 then (.exit 0,fJ z)else (.ret,fK z)):=by
 refine cU (P:=fun i1=>∀(y:List D) (F pc:Int) (S:List D),y[i.toNat]? =some (.agg [.int .i64 F,.int .i64 pc,.own (31,4) S])->(S.length:Int)=sl->(∀x∈S,Sl o x)->∃z,z=y.set i.toNat (.agg [.int .i64 F,.int .i64 pc,.own (31,4) (a_ (aC d) (p.drop i1.toNat) (t.drop i1.toNat) S).2])/\o.loop 35400 (b_ i t p n1 i1 y)=some (if (a_ (aC d) (p.drop i1.toNat) (t.drop i1.toNat) S).1 then (.exit 0,fJ z)else (.ret,fK z))) (n1:Int) ?_;intro i1 h0 h1 ih;try dsimp only at ih |-
 intro y F pc S hy hS hSl;rcases bB ho i1 n1 with ⟨e1,g1⟩|⟨e1,g1⟩
 ·rw [bR hn (by omega),qj];exact ⟨y,(dP hy).symm,(ho.ay (by cbv;repeat (simp only [e1];try cbv)):o.loop 35400 (b_ i t p n1 i1 y)=some (.exit 0,fJ y))⟩
 ·obtain ⟨x,hx0,hx1,hx2⟩:=aD hn h0 g1;obtain ⟨m1,n2,n3,s1,l1,hd1,rfl,hs,hl,ht⟩:=dc (hP _ hx2);have e2:=av ho h0 hx0;obtain ⟨y1,hy0,hy1,hy2⟩:=aD (xs:=t) rfl h0 (by omega);obtain ⟨m2,n4,n5,s2,l2,hd2,rfl,hs2,ht2⟩:=fL (hT _ hy2);have e3:=av ho h0 hy0;have hc:=IH _ _ _ _ _ (hP _ hx2) (hM _ hx2) _ _ _ _ (hT _ hy2) y i F pc S hi hy hS hSl;have hsl:=kD (o:=o) d (.agg [.int .i64 n2,.int .i64 n3,.str s1,.lst l1]) (.agg [.int .i64 n4,.int .i64 n5,.str s2,.lst l2]) S (hT _ hy2) hSl;obtain ⟨l3,hl3⟩:∃z,y.set i.toNat (.agg [.int .i64 F,.int .i64 pc,.own (31,4) (aC d (.agg [.int .i64 n2,.int .i64 n3,.str s1,.lst l1]) (.agg [.int .i64 n4,.int .i64 n5,.str s2,.lst l2]) S).2])=z:=⟨_,rfl⟩
  rw [hl3]at hc;cases hb:(aC d (.agg [.int .i64 n2,.int .i64 n3,.str s1,.lst l1]) (.agg [.int .i64 n4,.int .i64 n5,.str s2,.lst l2]) S).1
  ·have e4:o.call 293 [.prow (1,0) (192,3) i 0,At n2 n3 s1 l1,At n4 n5 s2 l2] [Oo y]=some ⟨Ab false,[Oo l3],[]⟩:=by rw [hb]at hc;exact hc
   rw [hx1,hy1,mr,hb];exact ⟨l3,hl3.symm,(ho.ay (by cbv;repeat (simp only [e1,e2,e3,e4];try cbv)):o.loop 35400 (b_ i t p n1 i1 y)=some (.ret,fK l3))⟩
  ·have e4:o.call 293 [.prow (1,0) (192,3) i 0,At n2 n3 s1 l1,At n4 n5 s2 l2] [Oo y]=some ⟨Ab true,[Oo l3],[]⟩:=by rw [hb]at hc;exact hc
   obtain ⟨n6,e5⟩:=kx (o.ar .add .i64 i1 1);try have g5:n6=i1+1:=e5.symm.trans (cM ho (by omega) (by omega))
   have hlt:i.toNat<y.length:=(ai.1 hy).1;rw [hx1,hy1,mr,hb,if_pos rfl];obtain ⟨z,hz,hw⟩:=ih (by omega) l3 F pc _ (by rw [<-hl3];exact bU hlt) (by rw [hsl.1];exact hS) hsl.2;refine ⟨z,by rw [hz,<-hl3,List.set_set],?_⟩;refine (fun z (hz:o.loop 35400 (b_ i t p n1 n6 l3)=some z)=>ho.ay (by rw [<-hz];cbv;repeat (simp only [e1,e2,e3,e4,e5];try cbv)):∀z,o.loop 35400 (b_ i t p n1 n6 l3)=some z->o.loop 35400 (b_ i t p n1 i1 y)=some z) _ ?_;rw [show n6=i1+1 by omega];exact hw
theorem uF (sl:Int) (d:Nat) (IH:BD o sl d) (p t:List D) {m:Nat} (hP:∀x∈p,Tm m x) (hM:∀x∈p,cY o sl d x<=300) (hT:∀x∈t,Rt o 8 x) (hle:(p.length:Int)<=t.length) (hb:(p.length:Int)<=1048576) (fs:List D) (i F pc:Int) (S:List D) (hi:0<=i) (hf:fs[i.toNat]? =some (.agg [.int .i64 F,.int .i64 pc,.own (31,4) S])) (hS:(S.length:Int)=sl) (hSl:∀x∈S,Sl o x):o.call 354 [.prow (1,0) (192,3) i 0,Al p,Al t] [Oo fs]=some ⟨Ab (a_ (aC d) p t S).1,[Oo (fs.set i.toNat (.agg [.int .i64 F,.int .i64 pc,.own (31,4) (a_ (aC d) p t S).2]))],[]⟩:=by
 refine ho.aI fun R Q=> ?_
 obtain ⟨n1,e1,g1⟩:=aB ho p;conv=>lhs;cbv;rw [e1];cbv
 obtain ⟨l1,hz,hl⟩:=MK ho sl d IH p t hP hM hT hle hb i hi n1 g1.symm 0 (Int.le_refl _) (by omega) fs F pc S hf hS hSl;rw [show (0:Int).toNat=0 from rfl,List.drop_zero,List.drop_zero]at hz hl;conv at hl=>lhs;cbv
 cases hb2:(a_ (aC d) p t S).1<;>(conv=>lhs;rw [hl,hb2];cbv)
 all_goals
  subst Q;try rw [hb2]
  rw [<-hz];try rfl
theorem KQ (sl:Int) (d:Nat) (IH:MD o sl d) (p t:List D) {m:Nat} (hP:∀x∈p,Tm m x) (hM:∀x∈p,cY o sl d x<=300) (hT:∀x∈t,Rt o 8 x) (hle:(p.length:Int)<=t.length) (hb:(p.length:Int)<=1048576) (n1:Int) (hn:(p.length:Int)=n1):∀i1:Int,0<=i1->i1<=(n1:Int)->∀(y:List D),(y.length:Int)=sl->(∀x∈y,Sl o x)->∃z,z=(a_ (aC d) (p.drop i1.toNat) (t.drop i1.toNat) y).2/\o.loop 28100 (dY p t i1 y)=some (if (a_ (aC d) (p.drop i1.toNat) (t.drop i1.toNat) y).1 then (.exit 0,jr z)else (.ret,js z)):=by
 refine cU (P:=fun i1=>∀(y:List D),(y.length:Int)=sl->(∀x∈y,Sl o x)->∃z,z=(a_ (aC d) (p.drop i1.toNat) (t.drop i1.toNat) y).2/\o.loop 28100 (dY p t i1 y)=some (if (a_ (aC d) (p.drop i1.toNat) (t.drop i1.toNat) y).1 then (.exit 0,jr z)else (.ret,js z))) (n1:Int) ?_;intro i1 h0 h1 ih;try dsimp only at ih |-
 intro y hS hSl;have e1:o.len p=n1:=(lS ho _).trans hn;rcases bB ho i1 n1 with ⟨e2,g2⟩|⟨e2,g2⟩
 ·rw [bR hn (by omega),qj];exact ⟨y,rfl,(ho.ay (by cbv;repeat (simp only [e1,e2];try cbv)):o.loop 28100 (dY p t i1 y)=some (.exit 0,jr y))⟩
 ·obtain ⟨x,hx0,hx1,hx2⟩:=aD hn h0 g2;obtain ⟨m1,n2,n3,s1,l1,hd1,rfl,hs,hl,ht⟩:=dc (hP _ hx2);have e3:=av ho h0 hx0;obtain ⟨y1,hy0,hy1,hy2⟩:=aD (xs:=t) rfl h0 (by omega);obtain ⟨m2,n4,n5,s2,l2,hd2,rfl,hs2,ht2⟩:=fL (hT _ hy2);have e4:=av ho h0 hy0;have hc:=IH _ _ _ _ _ (hP _ hx2) (hM _ hx2) _ _ _ _ (hT _ hy2) y hS hSl;have hsl:=kD (o:=o) d (.agg [.int .i64 n2,.int .i64 n3,.str s1,.lst l1]) (.agg [.int .i64 n4,.int .i64 n5,.str s2,.lst l2]) y (hT _ hy2) hSl;obtain ⟨l3,hl3⟩:∃z,(aC d (.agg [.int .i64 n2,.int .i64 n3,.str s1,.lst l1]) (.agg [.int .i64 n4,.int .i64 n5,.str s2,.lst l2]) y).2=z:=⟨_,rfl⟩
  unfold MJ at hsl;rw [hl3]at hc hsl;cases hb:(aC d (.agg [.int .i64 n2,.int .i64 n3,.str s1,.lst l1]) (.agg [.int .i64 n4,.int .i64 n5,.str s2,.lst l2]) y).1
  ·have e5:o.call 188 [At n2 n3 s1 l1,At n4 n5 s2 l2,.arr (1,0) (31,4) none false] [Os y]=some ⟨Ab false,[Os l3],[]⟩:=by rw [hb]at hc;exact hc
   rw [hx1,hy1,mr,hb,hl3];exact ⟨l3,rfl,(ho.ay (by cbv;repeat (simp only [e1,e2,e3,e4,e5];try cbv)):o.loop 28100 (dY p t i1 y)=some (.ret,js l3))⟩
  ·have e5:o.call 188 [At n2 n3 s1 l1,At n4 n5 s2 l2,.arr (1,0) (31,4) none false] [Os y]=some ⟨Ab true,[Os l3],[]⟩:=by rw [hb]at hc;exact hc
   obtain ⟨n6,e6⟩:=kx (o.ar .add .i64 i1 1);try have g6:n6=i1+1:=e6.symm.trans (cM ho (by omega) (by omega))
   rw [hx1,hy1,mr,hb,if_pos rfl,hl3];obtain ⟨z,hz,hw⟩:=ih (by omega) l3 (by rw [hsl.1];exact hS) hsl.2;refine ⟨z,hz,?_⟩;refine (fun z (hz:o.loop 28100 (dY p t n6 l3)=some z)=>ho.ay (by rw [<-hz];cbv;repeat (simp only [e1,e2,e3,e4,e5,e6];try cbv)):∀z,o.loop 28100 (dY p t n6 l3)=some z->o.loop 28100 (dY p t i1 y)=some z) _ ?_;rw [show n6=i1+1 by omega];exact hw
theorem rz (sl:Int) (d:Nat) (IH:MD o sl d) (p t:List D) {m:Nat} (hP:∀x∈p,Tm m x) (hM:∀x∈p,cY o sl d x<=300) (hT:∀x∈t,Rt o 8 x) (hle:(p.length:Int)<=t.length) (hb:(p.length:Int)<=1048576) (S:List D) (hS:(S.length:Int)=sl) (hSl:∀x∈S,Sl o x):o.call 281 [Al p,Al t,.arr (1,0) (31,4) none false] [Os S]=some ⟨Ab (a_ (aC d) p t S).1,[Os (a_ (aC d) p t S).2],[]⟩:=by
 refine ho.aI fun R Q=> ?_
 conv=>lhs;cbv
 obtain ⟨l1,hz,hl⟩:=KQ ho sl d IH p t hP hM hT hle hb _ rfl 0 (Int.le_refl _) (by omega) S hS hSl;rw [show (0:Int).toNat=0 from rfl,List.drop_zero,List.drop_zero]at hz hl;conv at hl=>lhs;cbv
 cases hb2:(a_ (aC d) p t S).1<;>(conv=>lhs;rw [hl,hb2];cbv)
 all_goals
  subst Q;try rw [hb2]
  rw [<-hz];try rfl
end
section
variable {o:aK} (ho:aU cF bE o)
include ho
omit ho in
def ML (l:List D) (m:Int):List D:=l.drop m.toNat
theorem MN (sl:Int) (d:Nat) (IH:BD o sl d) (m:Nat) (p_0 p_1:Int) (p_2:ByteArray) (p_3:List D) (t_0 t_1:Int) (t_2:ByteArray) (t_3:List D) (hP:Tm m (.agg [.int .i64 p_0,.int .i64 p_1,.str p_2,.lst p_3])) (hM:cY o sl (d+1) (.agg [.int .i64 p_0,.int .i64 p_1,.str p_2,.lst p_3])<=300) (hT:Rt o 8 (.agg [.int .i64 t_0,.int .i64 t_1,.str t_2,.lst t_3])) (fs:List D) (i F pc:Int) (S:List D) (h0:0<=i) (hf:fs[i.toNat]? =some (.agg [.int .i64 F,.int .i64 pc,.own (31,4) S])) (hS:(S.length:Int)=sl) (hSl:∀x∈S,Sl o x):o.call 293 [.prow (1,0) (192,3) i 0,At p_0 p_1 p_2 p_3,At t_0 t_1 t_2 t_3] [Oo fs]=some ⟨Ab (aC (d+1) (.agg [.int .i64 p_0,.int .i64 p_1,.str p_2,.lst p_3]) (.agg [.int .i64 t_0,.int .i64 t_1,.str t_2,.lst t_3]) S).1,[Oo (fs.set i.toNat (.agg [.int .i64 F,.int .i64 pc,.own (31,4) (aC (d+1) (.agg [.int .i64 p_0,.int .i64 p_1,.str p_2,.lst p_3]) (.agg [.int .i64 t_0,.int .i64 t_1,.str t_2,.lst t_3]) S).2]))],[]⟩:=by
 obtain ⟨m,rfl,hs,hl,hPt⟩:=jl hP;obtain ⟨m',hm,hts,htt⟩:=qk hT;have hq:=EV hM;have hpb:=EW hq.1;have hlt:=ga hts;have hT8:∀t∈t_3,Rt o 8 t:=fun t h=>w6 (by omega) (htt t h)
 refine ho.aI fun R Q=> ?_
 conv=>lhs;cbv
 rcases ak ho p_0 1 with ⟨e1,g1⟩|⟨e1,g1⟩<;>(conv=>lhs;rw [e1];cbv)
 ·rcases ak ho p_0 2 with ⟨e2,g2⟩|⟨e2,g2⟩<;>(conv=>lhs;rw [e2];cbv)
  ·rcases ak ho p_0 3 with ⟨e3,g3⟩|⟨e3,g3⟩<;>(conv=>lhs;rw [e3];cbv)
   ·rcases ak ho p_0 4 with ⟨e4,g4⟩|⟨e4,g4⟩<;>(conv=>lhs;rw [e4];cbv)
    ·rcases ak ho p_0 5 with ⟨e5,g5⟩|⟨e5,g5⟩<;>(conv=>lhs;rw [e5];cbv)
     ·obtain ⟨n1,e6,g6⟩:=aB ho p_3;obtain ⟨n2,e7,g7⟩:=aS ho n1 1;conv=>lhs;rw [e6];cbv;rw [e7];cbv
      rcases cH ho t_0 5 with ⟨e8,g8⟩|⟨e8,g8⟩<;>(conv=>lhs;rw [e8];cbv)
      ·obtain ⟨n3,e9,g9⟩:=aB ho t_3;conv=>lhs;rw [e9];cbv
       rcases bB ho n3 n2 with ⟨e10,g10⟩|⟨e10,g10⟩<;>(conv=>lhs;rw [e10];cbv)
       ·obtain ⟨n4,g11,e11⟩:∃v,v=n2-0/\o.minus n2 0=v:=⟨_,rfl,ho.minus _ _⟩
        obtain ⟨l1,hl1,e12⟩:∃z,z=p_3.take n2.toNat/\o.sub p_3 0 n4=some z:=⟨_,rfl,by rw [gZ ho (Int.le_refl _) (by omega) (by omega)];rw [show n4=n2 by omega];rfl⟩
        obtain ⟨l2,hl2,e13⟩:∃z,z=t_3.take n2.toNat/\o.sub t_3 0 n4=some z:=⟨_,rfl,by rw [gZ ho (Int.le_refl _) (by omega) (by omega)];rw [show n4=n2 by omega];rfl⟩
        conv=>lhs;rw [e11];cbv;rw [e12];cbv;(try (rw [e11];cbv));rw [e13];cbv
        have hc:=uF ho sl d IH l1 l2 (fun x hx=>hPt x (by rw [hl1]at hx;exact List.mem_of_mem_take hx)) (fun x hx=>hq.2 x (by rw [hl1]at hx;exact List.mem_of_mem_take hx)) (fun x hx=>hT8 x (by rw [hl2]at hx;exact List.mem_of_mem_take hx)) (by rw [hl1,hl2,List.length_take,List.length_take];omega) (by rw [hl1,List.length_take];omega) fs i F pc S h0 hf hS hSl;rw [show a_ (aC d) l1 l2 S=(a_ (aC d) (p_3.take n2.toNat) t_3 S) by rw [hl1,hl2];exact uE _ _ _ _ (by rw [List.length_take];omega)]at hc;have hsl:=tJ (kD (o:=o) d) (p_3.take n2.toNat) t_3 S hT8 hSl;obtain ⟨l3,hl0⟩:∃z,z=fs.set i.toNat (.agg [.int .i64 F,.int .i64 pc,.own (31,4) (a_ (aC d) (p_3.take n2.toNat) t_3 S).2]):=⟨_,rfl⟩
        rw [<-hl0]at hc;cases hb:(a_ (aC d) (p_3.take n2.toNat) t_3 S).1
        ·have e14:o.call 354 [.prow (1,0) (192,3) i 0,Al l1,Al l2] [Oo fs]=some ⟨Ab false,[Oo l3],[]⟩:=by rw [hb]at hc;exact hc
         conv=>lhs;rw [e14];cbv
         subst Q;have hk:(p_3.length:Int)-1=n2:=by omega
         obtain ⟨x,hx0,_,_⟩:=aD (xs:=p_3) rfl (show 0<=n2 by omega) (by omega);have hB:aC (d+1) (.agg [.int .i64 p_0,.int .i64 p_1,.str p_2,.lst p_3]) (.agg [.int .i64 t_0,.int .i64 t_1,.str t_2,.lst t_3]) S=(false,(a_ (aC d) (p_3.take n2.toNat) t_3 S).2):=by
          rw [bK,if_neg g1,if_neg g2,if_neg g3,if_neg g4,if_neg g5,if_neg (fun h=>h g8),if_neg (by omega)];rw [hk,hx0];show (if (a_ (aC d) (p_3.take n2.toNat) t_3 S).1=true then _ else _)=_;rw [hb];rfl
         rw [hB,<-hl0]
        ·have e14:o.call 354 [.prow (1,0) (192,3) i 0,Al l1,Al l2] [Oo fs]=some ⟨Ab true,[Oo l3],[]⟩:=by rw [hb]at hc;exact hc
         obtain ⟨x,hx0,hx1,hx2⟩:=aD (xs:=p_3) rfl (show 0<=n2 by omega) (by omega);obtain ⟨mm,n5,n6,s1,l4,hmm,rfl,hxs,hxl,hxt⟩:=dc (hPt _ hx2);have e15:o.dm p_3 n2=some (.agg [.int .i64 n5,.int .i64 n6,.str s1,.lst l4]):=av ho (by omega) hx0;have e16:o.fits 4 0 t_3=true:=by exact cX ho (by omega) (by decide) (fun z hz=>eG (htt z hz))
         obtain ⟨n7,g17,e17⟩:∃v,v=n3-n2/\o.minus n3 n2=v:=⟨_,rfl,ho.minus _ _⟩
         obtain ⟨l5,hl5,e18⟩:∃z,z=t_3.drop n2.toNat/\o.sub t_3 n2 n7=some z:=⟨_,rfl,by rw [gZ ho (by omega) (by omega) (by omega),List.take_of_length_le (by rw [List.length_drop];omega)]⟩
         obtain ⟨l6,hl6,e19⟩:∃z,z=ML t_3 n2/\o.call 289 [Al l5] []=some ⟨.arr (0,0) (31,4) none false,[],[Os z]⟩:=⟨l5,by rw [hl5];rfl,H_ ho l5 (by rw [hl5,List.length_drop];omega) (fun z hz=>eG (htt z (by rw [hl5]at hz;exact List.mem_of_mem_drop hz)))⟩
         conv=>lhs;rw [e14];cbv;rw [e15];cbv;rw [e16];cbv;(try (rw [e9];cbv));rw [e17];cbv;rw [e18];cbv;rw [e19];cbv
         have hr:=x_ (i:=n2) hts (by assumption) htt (by omega);have hlf:i.toNat<fs.length:=(ai.1 hf).1;have hc:=IH _ _ _ _ _ (hPt _ hx2) (hq.2 _ hx2) _ _ _ _ hr _ i F pc (a_ (aC d) (p_3.take n2.toNat) t_3 S).2 h0 (bU hlf) (by rw [hsl.1];exact hS) hsl.2;rw [List.set_set,<-hl0]at hc;obtain ⟨b9,hbv⟩:∃b,(aC d (.agg [.int .i64 n5,.int .i64 n6,.str s1,.lst l4]) (oU t_3 n2) (a_ (aC d) (p_3.take n2.toNat) t_3 S).2).1=b:=⟨_,rfl⟩
         obtain ⟨l7,hlv⟩:∃z,fs.set i.toNat (.agg [.int .i64 F,.int .i64 pc,.own (31,4) (aC d (.agg [.int .i64 n5,.int .i64 n6,.str s1,.lst l4]) (oU t_3 n2) (a_ (aC d) (p_3.take n2.toNat) t_3 S).2).2])=z:=⟨_,rfl⟩
         have e20:o.call 293 [.prow (1,0) (192,3) i 0,At n5 n6 s1 l4,At 5 0 ⟨#[]⟩ l6] [Oo l3]=some ⟨Ab b9,[Oo l7],[]⟩:=by
          rw [<-hbv,<-hlv,hl6];exact hc
         conv=>lhs;rw [e20];cbv
         subst Q;have hk:(p_3.length:Int)-1=n2:=by omega
         have hB:aC (d+1) (.agg [.int .i64 p_0,.int .i64 p_1,.str p_2,.lst p_3]) (.agg [.int .i64 t_0,.int .i64 t_1,.str t_2,.lst t_3]) S=aC d (.agg [.int .i64 n5,.int .i64 n6,.str s1,.lst l4]) (oU t_3 n2) (a_ (aC d) (p_3.take n2.toNat) t_3 S).2:=by
          rw [bK,if_neg g1,if_neg g2,if_neg g3,if_neg g4,if_neg g5,if_neg (fun h=>h g8),if_neg (by omega)];rw [hk,hx0];show (if (a_ (aC d) (p_3.take n2.toNat) t_3 S).1=true then _ else _)=_;rw [hb,if_pos rfl]
         rw [hB];rw [hbv,hlv]
       ·subst Q;have hB:aC (d+1) (.agg [.int .i64 p_0,.int .i64 p_1,.str p_2,.lst p_3]) (.agg [.int .i64 t_0,.int .i64 t_1,.str t_2,.lst t_3]) S=(false,S):=by rw [bK,if_neg g1,if_neg g2,if_neg g3,if_neg g4,if_neg g5,if_neg (fun h=>h g8),if_pos (by omega)]
        rw [hB];show _=some (bk.mk (Ab (false)) [Oo (fs.set i.toNat (.agg [.int .i64 F,.int .i64 pc,.own (31,4) (S)]))] []);rw [dP hf]
      ·subst Q;have hB:aC (d+1) (.agg [.int .i64 p_0,.int .i64 p_1,.str p_2,.lst p_3]) (.agg [.int .i64 t_0,.int .i64 t_1,.str t_2,.lst t_3]) S=(false,S):=by rw [bK,if_neg g1,if_neg g2,if_neg g3,if_neg g4,if_neg g5,if_pos g8]
       rw [hB];show _=some (bk.mk (Ab (false)) [Oo (fs.set i.toNat (.agg [.int .i64 F,.int .i64 pc,.own (31,4) (S)]))] []);rw [dP hf]
     ·rcases ak ho t_0 5 with ⟨e6,g6⟩|⟨e6,g6⟩<;>(conv=>lhs;rw [e6];cbv)
      ·subst Q;have hB:aC (d+1) (.agg [.int .i64 p_0,.int .i64 p_1,.str p_2,.lst p_3]) (.agg [.int .i64 t_0,.int .i64 t_1,.str t_2,.lst t_3]) S=(false,S):=by rw [bK,if_neg g1,if_neg g2,if_neg g3,if_neg g4,if_pos g5,if_neg g6]
       rw [hB];show _=some (bk.mk (Ab (false)) [Oo (fs.set i.toNat (.agg [.int .i64 F,.int .i64 pc,.own (31,4) (S)]))] []);rw [dP hf]
      ·obtain ⟨n1,e7,g7⟩:=aB ho t_3;obtain ⟨n2,e8,g8⟩:=aB ho p_3;conv=>lhs;rw [e7];cbv;rw [e8];cbv
       rcases ak ho n1 n2 with ⟨e9,g9⟩|⟨e9,g9⟩<;>(conv=>lhs;rw [e9];cbv)
       ·subst Q;have hB:aC (d+1) (.agg [.int .i64 p_0,.int .i64 p_1,.str p_2,.lst p_3]) (.agg [.int .i64 t_0,.int .i64 t_1,.str t_2,.lst t_3]) S=(false,S):=by rw [bK,if_neg g1,if_neg g2,if_neg g3,if_neg g4,if_pos g5,if_pos g6,if_neg (by omega)]
        rw [hB];show _=some (bk.mk (Ab (false)) [Oo (fs.set i.toNat (.agg [.int .i64 F,.int .i64 pc,.own (31,4) (S)]))] []);rw [dP hf]
       ·obtain ⟨b8,hbv⟩:∃b,(a_ (aC d) p_3 t_3 S).1=b:=⟨_,rfl⟩
        obtain ⟨l1,hlv⟩:∃z,fs.set i.toNat (.agg [.int .i64 F,.int .i64 pc,.own (31,4) (a_ (aC d) p_3 t_3 S).2])=z:=⟨_,rfl⟩
        have e10:o.call 354 [.prow (1,0) (192,3) i 0,Al p_3,Al t_3] [Oo fs]=some ⟨Ab b8,[Oo l1],[]⟩:=(uF ho sl d IH p_3 t_3 hPt hq.2 hT8 (by omega) (by omega) fs i F pc S h0 hf hS hSl).trans (by rw [hbv,hlv]);conv=>lhs;rw [e10];cbv
        subst Q;have hB:aC (d+1) (.agg [.int .i64 p_0,.int .i64 p_1,.str p_2,.lst p_3]) (.agg [.int .i64 t_0,.int .i64 t_1,.str t_2,.lst t_3]) S=((a_ (aC d) p_3 t_3 S).1,(a_ (aC d) p_3 t_3 S).2):=by rw [bK,if_neg g1,if_neg g2,if_neg g3,if_neg g4,if_pos g5,if_pos g6,if_pos (by omega)]
        rw [hB];show _=some (bk.mk (Ab ((a_ (aC d) p_3 t_3 S).1)) [Oo (fs.set i.toNat (.agg [.int .i64 F,.int .i64 pc,.own (31,4) ((a_ (aC d) p_3 t_3 S).2)]))] []);rw [hbv,hlv]
    ·rcases ak ho t_0 4 with ⟨e5,g5⟩|⟨e5,g5⟩<;>(conv=>lhs;rw [e5];cbv)
     ·subst Q;have hB:aC (d+1) (.agg [.int .i64 p_0,.int .i64 p_1,.str p_2,.lst p_3]) (.agg [.int .i64 t_0,.int .i64 t_1,.str t_2,.lst t_3]) S=(false,S):=by rw [bK,if_neg g1,if_neg g2,if_neg g3,if_pos g4,if_neg g5]
      rw [hB];show _=some (bk.mk (Ab (false)) [Oo (fs.set i.toNat (.agg [.int .i64 F,.int .i64 pc,.own (31,4) (S)]))] []);rw [dP hf]
     ·obtain ⟨n1,e6,g6⟩:=aB ho t_3;obtain ⟨n2,e7,g7⟩:=aB ho p_3;conv=>lhs;rw [e6];cbv;rw [e7];cbv
      rcases ak ho n1 n2 with ⟨e8,g8⟩|⟨e8,g8⟩<;>(conv=>lhs;rw [e8];cbv)
      ·subst Q;have hB:aC (d+1) (.agg [.int .i64 p_0,.int .i64 p_1,.str p_2,.lst p_3]) (.agg [.int .i64 t_0,.int .i64 t_1,.str t_2,.lst t_3]) S=(false,S):=by rw [bK,if_neg g1,if_neg g2,if_neg g3,if_pos g4,if_pos g5,if_neg (by omega)]
       rw [hB];show _=some (bk.mk (Ab (false)) [Oo (fs.set i.toNat (.agg [.int .i64 F,.int .i64 pc,.own (31,4) (S)]))] []);rw [dP hf]
      ·obtain ⟨b7,hbv⟩:∃b,(a_ (aC d) p_3 t_3 S).1=b:=⟨_,rfl⟩
       obtain ⟨l1,hlv⟩:∃z,fs.set i.toNat (.agg [.int .i64 F,.int .i64 pc,.own (31,4) (a_ (aC d) p_3 t_3 S).2])=z:=⟨_,rfl⟩
       have e9:o.call 354 [.prow (1,0) (192,3) i 0,Al p_3,Al t_3] [Oo fs]=some ⟨Ab b7,[Oo l1],[]⟩:=(uF ho sl d IH p_3 t_3 hPt hq.2 hT8 (by omega) (by omega) fs i F pc S h0 hf hS hSl).trans (by rw [hbv,hlv]);conv=>lhs;rw [e9];cbv
       subst Q;have hB:aC (d+1) (.agg [.int .i64 p_0,.int .i64 p_1,.str p_2,.lst p_3]) (.agg [.int .i64 t_0,.int .i64 t_1,.str t_2,.lst t_3]) S=((a_ (aC d) p_3 t_3 S).1,(a_ (aC d) p_3 t_3 S).2):=by rw [bK,if_neg g1,if_neg g2,if_neg g3,if_pos g4,if_pos g5,if_pos (by omega)]
       rw [hB];show _=some (bk.mk (Ab ((a_ (aC d) p_3 t_3 S).1)) [Oo (fs.set i.toNat (.agg [.int .i64 F,.int .i64 pc,.own (31,4) ((a_ (aC d) p_3 t_3 S).2)]))] []);rw [hbv,hlv]
   ·rcases iQ ho p_1 0 with ⟨e4,g4⟩|⟨e4,g4⟩<;>(conv=>lhs;rw [e4];cbv)
    ·subst Q;have hB:aC (d+1) (.agg [.int .i64 p_0,.int .i64 p_1,.str p_2,.lst p_3]) (.agg [.int .i64 t_0,.int .i64 t_1,.str t_2,.lst t_3]) S=(true,S):=by rw [bK,if_neg g1,if_neg g2,if_pos g3,if_neg (by omega)]
     rw [hB];show _=some (bk.mk (Ab (true)) [Oo (fs.set i.toNat (.agg [.int .i64 F,.int .i64 pc,.own (31,4) (S)]))] []);rw [dP hf]
    ·obtain ⟨n1,n2,l2,⟨rfl,rfl,rfl⟩,e5⟩:∃a b c,(a=F/\b=pc/\c=S)/\o.dm fs i=some (.agg [.int .i64 a,.int .i64 b,.own (31,4) c]):=⟨_,_,_,⟨rfl,rfl,rfl⟩,av ho h0 hf⟩
     have e6:o.flat l2=true:=by exact pz ho hSl
     obtain ⟨y,hy0,hy1,hy2⟩:=aD (xs:=l2) rfl (show 0<=p_1 by omega) (by have:=hpb.1 (by assumption);omega);obtain ⟨n3,n4,s1,l3,rfl⟩:=DJ (hSl _ hy2);have e7:o.dm l2 p_1=some (.agg [.int .i64 n3,.int .i64 n4,.str s1,.lst l3]):=av ho (by omega) hy0;conv=>lhs;rw [e5];cbv;rw [e6];cbv;rw [e7];cbv;(try (rw [e7];cbv))
     obtain ⟨l4,hset,e8⟩:∃z,z=l2.set p_1.toNat (.agg [.int .i64 t_0,.int .i64 t_1,.str t_2,.lst t_3])/\o.set l2 p_1 (.agg [.int .i64 t_0,.int .i64 t_1,.str t_2,.lst t_3])=z:=⟨_,rfl,ho.set _ _ _⟩
     have hSl2:∀x∈l4,Sl o x:=fun x hx=>by
      rw [hset]at hx;rcases List.mem_or_eq_of_mem_set hx with h | h
      · exact hSl x h
      · rw [h];exact .inr hT
     have e9:o.flat l4=true:=by exact pz ho hSl2
     obtain ⟨l5,hset2,e10⟩:∃z,z=fs.set i.toNat (.agg [.int .i64 n1,.int .i64 n2,.own (31,4) l4])/\o.set fs i (.agg [.int .i64 n1,.int .i64 n2,.own (31,4) l4])=z:=⟨_,rfl,ho.set _ _ _⟩
     conv=>lhs;rw [e8];cbv;(try (rw [e5];cbv));rw [e9];cbv;rw [e10];cbv
     subst Q;have hB:aC (d+1) (.agg [.int .i64 p_0,.int .i64 p_1,.str p_2,.lst p_3]) (.agg [.int .i64 t_0,.int .i64 t_1,.str t_2,.lst t_3]) l2=(true,l2.set p_1.toNat (.agg [.int .i64 t_0,.int .i64 t_1,.str t_2,.lst t_3])):=by rw [bK,if_neg g1,if_neg g2,if_pos g3,if_pos g4]
     rw [hB,hset2,hset]
  ·rcases ak ho t_0 2 with ⟨e3,g3⟩|⟨e3,g3⟩<;>(conv=>lhs;rw [e3];cbv)
   ·subst Q;have hB:aC (d+1) (.agg [.int .i64 p_0,.int .i64 p_1,.str p_2,.lst p_3]) (.agg [.int .i64 t_0,.int .i64 t_1,.str t_2,.lst t_3]) S=(false,S):=by rw [bK,if_neg g1,if_pos g2,if_neg g3]
    rw [hB];show _=some (bk.mk (Ab (false)) [Oo (fs.set i.toNat (.agg [.int .i64 F,.int .i64 pc,.own (31,4) (S)]))] []);rw [dP hf]
   ·rcases aP ho t_2 p_2 with ⟨e4,g4⟩|⟨e4,g4⟩<;>(conv=>lhs;rw [e4];cbv)
    all_goals
     subst Q;have hB:aC (d+1) (.agg [.int .i64 p_0,.int .i64 p_1,.str p_2,.lst p_3]) (.agg [.int .i64 t_0,.int .i64 t_1,.str t_2,.lst t_3]) S=(decide (t_2=p_2),S):=by rw [bK,if_neg g1,if_pos g2,if_pos g3]
     rw [hB];show _=some (bk.mk (Ab (decide (t_2=p_2))) [Oo (fs.set i.toNat (.agg [.int .i64 F,.int .i64 pc,.own (31,4) (S)]))] []);rw [dP hf];first | rw [decide_eq_true g4] | rw [decide_eq_false g4]
 ·rcases ak ho t_0 1 with ⟨e2,g2⟩|⟨e2,g2⟩<;>(conv=>lhs;rw [e2];cbv)
  ·subst Q;have hB:aC (d+1) (.agg [.int .i64 p_0,.int .i64 p_1,.str p_2,.lst p_3]) (.agg [.int .i64 t_0,.int .i64 t_1,.str t_2,.lst t_3]) S=(false,S):=by rw [bK,if_pos g1,if_neg g2]
   rw [hB];show _=some (bk.mk (Ab (false)) [Oo (fs.set i.toNat (.agg [.int .i64 F,.int .i64 pc,.own (31,4) (S)]))] []);rw [dP hf]
  ·rcases ak ho t_1 p_1 with ⟨e3,g3⟩|⟨e3,g3⟩<;>(conv=>lhs;rw [e3];cbv)
   all_goals
    subst Q;have hB:aC (d+1) (.agg [.int .i64 p_0,.int .i64 p_1,.str p_2,.lst p_3]) (.agg [.int .i64 t_0,.int .i64 t_1,.str t_2,.lst t_3]) S=(decide (t_1=p_1),S):=by rw [bK,if_pos g1,if_pos g2]
    rw [hB];show _=some (bk.mk (Ab (decide (t_1=p_1))) [Oo (fs.set i.toNat (.agg [.int .i64 F,.int .i64 pc,.own (31,4) (S)]))] []);rw [dP hf];first | rw [decide_eq_true g3] | rw [decide_eq_false g3]
theorem KR (sl:Int) (d:Nat) (IH:MD o sl d) (m:Nat) (p_0 p_1:Int) (p_2:ByteArray) (p_3:List D) (t_0 t_1:Int) (t_2:ByteArray) (t_3:List D) (hP:Tm m (.agg [.int .i64 p_0,.int .i64 p_1,.str p_2,.lst p_3])) (hM:cY o sl (d+1) (.agg [.int .i64 p_0,.int .i64 p_1,.str p_2,.lst p_3])<=300) (hT:Rt o 8 (.agg [.int .i64 t_0,.int .i64 t_1,.str t_2,.lst t_3])) (S:List D) (hS:(S.length:Int)=sl) (hSl:∀x∈S,Sl o x):o.call 188 [At p_0 p_1 p_2 p_3,At t_0 t_1 t_2 t_3,.arr (1,0) (31,4) none false] [Os S]=some ⟨Ab (aC (d+1) (.agg [.int .i64 p_0,.int .i64 p_1,.str p_2,.lst p_3]) (.agg [.int .i64 t_0,.int .i64 t_1,.str t_2,.lst t_3]) S).1,[Os (aC (d+1) (.agg [.int .i64 p_0,.int .i64 p_1,.str p_2,.lst p_3]) (.agg [.int .i64 t_0,.int .i64 t_1,.str t_2,.lst t_3]) S).2],[]⟩:=by
 obtain ⟨m,rfl,hs,hl,hPt⟩:=jl hP;obtain ⟨m',hm,hts,htt⟩:=qk hT;have hq:=EV hM;have hpb:=EW hq.1;have hlt:=ga hts;have hT8:∀t∈t_3,Rt o 8 t:=fun t h=>w6 (by omega) (htt t h)
 refine ho.aI fun R Q=> ?_
 conv=>lhs;cbv
 rcases ak ho p_0 1 with ⟨e1,g1⟩|⟨e1,g1⟩<;>(conv=>lhs;rw [e1];cbv)
 ·rcases ak ho p_0 2 with ⟨e2,g2⟩|⟨e2,g2⟩<;>(conv=>lhs;rw [e2];cbv)
  ·rcases ak ho p_0 3 with ⟨e3,g3⟩|⟨e3,g3⟩<;>(conv=>lhs;rw [e3];cbv)
   ·rcases ak ho p_0 4 with ⟨e4,g4⟩|⟨e4,g4⟩<;>(conv=>lhs;rw [e4];cbv)
    ·rcases ak ho p_0 5 with ⟨e5,g5⟩|⟨e5,g5⟩<;>(conv=>lhs;rw [e5];cbv)
     ·obtain ⟨n1,e6,g6⟩:=aB ho p_3;obtain ⟨n2,e7,g7⟩:=aS ho n1 1;conv=>lhs;rw [e6];cbv;rw [e7];cbv
      rcases cH ho t_0 5 with ⟨e8,g8⟩|⟨e8,g8⟩<;>(conv=>lhs;rw [e8];cbv)
      ·obtain ⟨n3,e9,g9⟩:=aB ho t_3;conv=>lhs;rw [e9];cbv
       rcases bB ho n3 n2 with ⟨e10,g10⟩|⟨e10,g10⟩<;>(conv=>lhs;rw [e10];cbv)
       ·obtain ⟨n4,g11,e11⟩:∃v,v=n2-0/\o.minus n2 0=v:=⟨_,rfl,ho.minus _ _⟩
        obtain ⟨l1,hl1,e12⟩:∃z,z=p_3.take n2.toNat/\o.sub p_3 0 n4=some z:=⟨_,rfl,by rw [gZ ho (Int.le_refl _) (by omega) (by omega)];rw [show n4=n2 by omega];rfl⟩
        conv=>lhs;rw [e11];cbv;rw [e12];cbv
        have hc:=rz ho sl d IH l1 t_3 (fun x hx=>hPt x (by rw [hl1]at hx;exact List.mem_of_mem_take hx)) (fun x hx=>hq.2 x (by rw [hl1]at hx;exact List.mem_of_mem_take hx)) (fun x hx=>hT8 x (by exact hx)) (by rw [hl1,List.length_take];omega) (by rw [hl1,List.length_take];omega) S hS hSl;rw [show a_ (aC d) l1 t_3 S=(a_ (aC d) (p_3.take n2.toNat) t_3 S) by rw [hl1]]at hc;have hsl:=tJ (kD (o:=o) d) (p_3.take n2.toNat) t_3 S hT8 hSl;obtain ⟨l2,hl0⟩:∃z,z=(a_ (aC d) (p_3.take n2.toNat) t_3 S).2:=⟨_,rfl⟩
        rw [<-hl0]at hc;cases hb:(a_ (aC d) (p_3.take n2.toNat) t_3 S).1
        ·have e13:o.call 281 [Al l1,Al t_3,.arr (1,0) (31,4) none false] [Os S]=some ⟨Ab false,[Os l2],[]⟩:=by rw [hb]at hc;exact hc
         conv=>lhs;rw [e13];cbv
         subst Q;have hk:(p_3.length:Int)-1=n2:=by omega
         obtain ⟨x,hx0,_,_⟩:=aD (xs:=p_3) rfl (show 0<=n2 by omega) (by omega);have hB:aC (d+1) (.agg [.int .i64 p_0,.int .i64 p_1,.str p_2,.lst p_3]) (.agg [.int .i64 t_0,.int .i64 t_1,.str t_2,.lst t_3]) S=(false,(a_ (aC d) (p_3.take n2.toNat) t_3 S).2):=by
          rw [bK,if_neg g1,if_neg g2,if_neg g3,if_neg g4,if_neg g5,if_neg (fun h=>h g8),if_neg (by omega)];rw [hk,hx0];show (if (a_ (aC d) (p_3.take n2.toNat) t_3 S).1=true then _ else _)=_;rw [hb];rfl
         rw [hB,<-hl0]
        ·have e13:o.call 281 [Al l1,Al t_3,.arr (1,0) (31,4) none false] [Os S]=some ⟨Ab true,[Os l2],[]⟩:=by rw [hb]at hc;exact hc
         obtain ⟨x,hx0,hx1,hx2⟩:=aD (xs:=p_3) rfl (show 0<=n2 by omega) (by omega);obtain ⟨mm,n5,n6,s1,l3,hmm,rfl,hxs,hxl,hxt⟩:=dc (hPt _ hx2);have e14:o.dm p_3 n2=some (.agg [.int .i64 n5,.int .i64 n6,.str s1,.lst l3]):=av ho (by omega) hx0;have e15:o.fits 4 0 t_3=true:=by exact cX ho (by omega) (by decide) (fun z hz=>eG (htt z hz))
         obtain ⟨n7,g16,e16⟩:∃v,v=n3-n2/\o.minus n3 n2=v:=⟨_,rfl,ho.minus _ _⟩
         obtain ⟨l4,hl4,e17⟩:∃z,z=t_3.drop n2.toNat/\o.sub t_3 n2 n7=some z:=⟨_,rfl,by rw [gZ ho (by omega) (by omega) (by omega),List.take_of_length_le (by rw [List.length_drop];omega)]⟩
         conv=>lhs;rw [e13];cbv;rw [e14];cbv;rw [e15];cbv;(try (rw [e9];cbv));rw [e16];cbv;rw [e17];cbv
         have hr:=x_ (i:=n2) hts (by assumption) htt (by omega);obtain ⟨b9,hbv⟩:∃b,(aC d (.agg [.int .i64 n5,.int .i64 n6,.str s1,.lst l3]) (oU t_3 n2) (a_ (aC d) (p_3.take n2.toNat) t_3 S).2).1=b:=⟨_,rfl⟩
         obtain ⟨l5,hlv⟩:∃z,(aC d (.agg [.int .i64 n5,.int .i64 n6,.str s1,.lst l3]) (oU t_3 n2) (a_ (aC d) (p_3.take n2.toNat) t_3 S).2).2=z:=⟨_,rfl⟩
         have e18:o.call 188 [At n5 n6 s1 l3,At 5 0 ⟨#[]⟩ l4,.arr (1,0) (31,4) none false] [Os l2]=some ⟨Ab b9,[Os l5],[]⟩:=by
          rw [<-hbv,<-hlv,hl0];have hc:=IH _ _ _ _ _ (hPt _ hx2) (hq.2 _ hx2) _ _ _ _ hr _ (by rw [hsl.1];exact hS) hsl.2;rw [hl4];exact hc
         conv=>lhs;rw [e18];cbv
         subst Q;have hk:(p_3.length:Int)-1=n2:=by omega
         have hB:aC (d+1) (.agg [.int .i64 p_0,.int .i64 p_1,.str p_2,.lst p_3]) (.agg [.int .i64 t_0,.int .i64 t_1,.str t_2,.lst t_3]) S=aC d (.agg [.int .i64 n5,.int .i64 n6,.str s1,.lst l3]) (oU t_3 n2) (a_ (aC d) (p_3.take n2.toNat) t_3 S).2:=by
          rw [bK,if_neg g1,if_neg g2,if_neg g3,if_neg g4,if_neg g5,if_neg (fun h=>h g8),if_neg (by omega)];rw [hk,hx0];show (if (a_ (aC d) (p_3.take n2.toNat) t_3 S).1=true then _ else _)=_;rw [hb,if_pos rfl]
         rw [hB];rw [hbv,hlv]
       ·subst Q;have hB:aC (d+1) (.agg [.int .i64 p_0,.int .i64 p_1,.str p_2,.lst p_3]) (.agg [.int .i64 t_0,.int .i64 t_1,.str t_2,.lst t_3]) S=(false,S):=by rw [bK,if_neg g1,if_neg g2,if_neg g3,if_neg g4,if_neg g5,if_neg (fun h=>h g8),if_pos (by omega)]
        rw [hB];try (show _=some (bk.mk (Ab (false)) [Os (S)] []))
      ·subst Q;have hB:aC (d+1) (.agg [.int .i64 p_0,.int .i64 p_1,.str p_2,.lst p_3]) (.agg [.int .i64 t_0,.int .i64 t_1,.str t_2,.lst t_3]) S=(false,S):=by rw [bK,if_neg g1,if_neg g2,if_neg g3,if_neg g4,if_neg g5,if_pos g8]
       rw [hB];try (show _=some (bk.mk (Ab (false)) [Os (S)] []))
     ·rcases ak ho t_0 5 with ⟨e6,g6⟩|⟨e6,g6⟩<;>(conv=>lhs;rw [e6];cbv)
      ·subst Q;have hB:aC (d+1) (.agg [.int .i64 p_0,.int .i64 p_1,.str p_2,.lst p_3]) (.agg [.int .i64 t_0,.int .i64 t_1,.str t_2,.lst t_3]) S=(false,S):=by rw [bK,if_neg g1,if_neg g2,if_neg g3,if_neg g4,if_pos g5,if_neg g6]
       rw [hB];try (show _=some (bk.mk (Ab (false)) [Os (S)] []))
      ·obtain ⟨n1,e7,g7⟩:=aB ho t_3;obtain ⟨n2,e8,g8⟩:=aB ho p_3;conv=>lhs;rw [e7];cbv;rw [e8];cbv
       rcases ak ho n1 n2 with ⟨e9,g9⟩|⟨e9,g9⟩<;>(conv=>lhs;rw [e9];cbv)
       ·subst Q;have hB:aC (d+1) (.agg [.int .i64 p_0,.int .i64 p_1,.str p_2,.lst p_3]) (.agg [.int .i64 t_0,.int .i64 t_1,.str t_2,.lst t_3]) S=(false,S):=by rw [bK,if_neg g1,if_neg g2,if_neg g3,if_neg g4,if_pos g5,if_pos g6,if_neg (by omega)]
        rw [hB];try (show _=some (bk.mk (Ab (false)) [Os (S)] []))
       ·obtain ⟨b8,hbv⟩:∃b,(a_ (aC d) p_3 t_3 S).1=b:=⟨_,rfl⟩
        obtain ⟨l1,hlv⟩:∃z,(a_ (aC d) p_3 t_3 S).2=z:=⟨_,rfl⟩
        have e10:o.call 281 [Al p_3,Al t_3,.arr (1,0) (31,4) none false] [Os S]=some ⟨Ab b8,[Os l1],[]⟩:=(rz ho sl d IH p_3 t_3 hPt hq.2 hT8 (by omega) (by omega) S hS hSl).trans (by rw [hbv,hlv]);conv=>lhs;rw [e10];cbv
        subst Q;have hB:aC (d+1) (.agg [.int .i64 p_0,.int .i64 p_1,.str p_2,.lst p_3]) (.agg [.int .i64 t_0,.int .i64 t_1,.str t_2,.lst t_3]) S=((a_ (aC d) p_3 t_3 S).1,(a_ (aC d) p_3 t_3 S).2):=by rw [bK,if_neg g1,if_neg g2,if_neg g3,if_neg g4,if_pos g5,if_pos g6,if_pos (by omega)]
        rw [hB];try (show _=some (bk.mk (Ab ((a_ (aC d) p_3 t_3 S).1)) [Os ((a_ (aC d) p_3 t_3 S).2)] []))
        try (rw [hbv,hlv])
    ·rcases ak ho t_0 4 with ⟨e5,g5⟩|⟨e5,g5⟩<;>(conv=>lhs;rw [e5];cbv)
     ·subst Q;have hB:aC (d+1) (.agg [.int .i64 p_0,.int .i64 p_1,.str p_2,.lst p_3]) (.agg [.int .i64 t_0,.int .i64 t_1,.str t_2,.lst t_3]) S=(false,S):=by rw [bK,if_neg g1,if_neg g2,if_neg g3,if_pos g4,if_neg g5]
      rw [hB];try (show _=some (bk.mk (Ab (false)) [Os (S)] []))
     ·obtain ⟨n1,e6,g6⟩:=aB ho t_3;obtain ⟨n2,e7,g7⟩:=aB ho p_3;conv=>lhs;rw [e6];cbv;rw [e7];cbv
      rcases ak ho n1 n2 with ⟨e8,g8⟩|⟨e8,g8⟩<;>(conv=>lhs;rw [e8];cbv)
      ·subst Q;have hB:aC (d+1) (.agg [.int .i64 p_0,.int .i64 p_1,.str p_2,.lst p_3]) (.agg [.int .i64 t_0,.int .i64 t_1,.str t_2,.lst t_3]) S=(false,S):=by rw [bK,if_neg g1,if_neg g2,if_neg g3,if_pos g4,if_pos g5,if_neg (by omega)]
       rw [hB];try (show _=some (bk.mk (Ab (false)) [Os (S)] []))
      ·obtain ⟨b7,hbv⟩:∃b,(a_ (aC d) p_3 t_3 S).1=b:=⟨_,rfl⟩
       obtain ⟨l1,hlv⟩:∃z,(a_ (aC d) p_3 t_3 S).2=z:=⟨_,rfl⟩
       have e9:o.call 281 [Al p_3,Al t_3,.arr (1,0) (31,4) none false] [Os S]=some ⟨Ab b7,[Os l1],[]⟩:=(rz ho sl d IH p_3 t_3 hPt hq.2 hT8 (by omega) (by omega) S hS hSl).trans (by rw [hbv,hlv]);conv=>lhs;rw [e9];cbv
       subst Q;have hB:aC (d+1) (.agg [.int .i64 p_0,.int .i64 p_1,.str p_2,.lst p_3]) (.agg [.int .i64 t_0,.int .i64 t_1,.str t_2,.lst t_3]) S=((a_ (aC d) p_3 t_3 S).1,(a_ (aC d) p_3 t_3 S).2):=by rw [bK,if_neg g1,if_neg g2,if_neg g3,if_pos g4,if_pos g5,if_pos (by omega)]
       rw [hB];try (show _=some (bk.mk (Ab ((a_ (aC d) p_3 t_3 S).1)) [Os ((a_ (aC d) p_3 t_3 S).2)] []))
       try (rw [hbv,hlv])
   ·rcases iQ ho p_1 0 with ⟨e4,g4⟩|⟨e4,g4⟩<;>(conv=>lhs;rw [e4];cbv)
    ·subst Q;have hB:aC (d+1) (.agg [.int .i64 p_0,.int .i64 p_1,.str p_2,.lst p_3]) (.agg [.int .i64 t_0,.int .i64 t_1,.str t_2,.lst t_3]) S=(true,S):=by rw [bK,if_neg g1,if_neg g2,if_pos g3,if_neg (by omega)]
     rw [hB];try (show _=some (bk.mk (Ab (true)) [Os (S)] []))
    ·have e5:o.call 202 [At t_0 t_1 t_2 t_3] []=Ar (At t_0 t_1 t_2 t_3):=tO ho 8 _ _ _ _ (j6 hT);obtain ⟨y,hy0,hy1,hy2⟩:=aD (xs:=S) rfl (show 0<=p_1 by omega) (by have:=hpb.1 (by assumption);omega);obtain ⟨n1,n2,s1,l1,rfl⟩:=DJ (hSl _ hy2);have e6:o.dm S p_1=some (.agg [.int .i64 n1,.int .i64 n2,.str s1,.lst l1]):=av ho (by omega) hy0;conv=>lhs;rw [e5];cbv;rw [e6];cbv;(try (rw [e6];cbv))
     obtain ⟨l2,hset,e7⟩:∃z,z=S.set p_1.toNat (.agg [.int .i64 t_0,.int .i64 t_1,.str t_2,.lst t_3])/\o.set S p_1 (.agg [.int .i64 t_0,.int .i64 t_1,.str t_2,.lst t_3])=z:=⟨_,rfl,ho.set _ _ _⟩
     have hSl2:∀x∈l2,Sl o x:=fun x hx=>by
      rw [hset]at hx;rcases List.mem_or_eq_of_mem_set hx with h | h
      · exact hSl x h
      · rw [h];exact .inr hT
     conv=>lhs;rw [e7];cbv
     subst Q;rw [bK,if_neg g1,if_neg g2,if_pos g3,if_pos g4,<-hset]
  ·rcases ak ho t_0 2 with ⟨e3,g3⟩|⟨e3,g3⟩<;>(conv=>lhs;rw [e3];cbv)
   ·subst Q;have hB:aC (d+1) (.agg [.int .i64 p_0,.int .i64 p_1,.str p_2,.lst p_3]) (.agg [.int .i64 t_0,.int .i64 t_1,.str t_2,.lst t_3]) S=(false,S):=by rw [bK,if_neg g1,if_pos g2,if_neg g3]
    rw [hB];try (show _=some (bk.mk (Ab (false)) [Os (S)] []))
   ·rcases aP ho t_2 p_2 with ⟨e4,g4⟩|⟨e4,g4⟩<;>(conv=>lhs;rw [e4];cbv)
    all_goals
     subst Q;have hB:aC (d+1) (.agg [.int .i64 p_0,.int .i64 p_1,.str p_2,.lst p_3]) (.agg [.int .i64 t_0,.int .i64 t_1,.str t_2,.lst t_3]) S=(decide (t_2=p_2),S):=by rw [bK,if_neg g1,if_pos g2,if_pos g3]
     rw [hB];try (show _=some (bk.mk (Ab (decide (t_2=p_2))) [Os (S)] []))
     try (first | rw [decide_eq_true g4] | rw [decide_eq_false g4])
 ·rcases ak ho t_0 1 with ⟨e2,g2⟩|⟨e2,g2⟩<;>(conv=>lhs;rw [e2];cbv)
  ·subst Q;have hB:aC (d+1) (.agg [.int .i64 p_0,.int .i64 p_1,.str p_2,.lst p_3]) (.agg [.int .i64 t_0,.int .i64 t_1,.str t_2,.lst t_3]) S=(false,S):=by rw [bK,if_pos g1,if_neg g2]
   rw [hB];try (show _=some (bk.mk (Ab (false)) [Os (S)] []))
  ·rcases ak ho t_1 p_1 with ⟨e3,g3⟩|⟨e3,g3⟩<;>(conv=>lhs;rw [e3];cbv)
   all_goals
    subst Q;have hB:aC (d+1) (.agg [.int .i64 p_0,.int .i64 p_1,.str p_2,.lst p_3]) (.agg [.int .i64 t_0,.int .i64 t_1,.str t_2,.lst t_3]) S=(decide (t_1=p_1),S):=by rw [bK,if_pos g1,if_pos g2]
    rw [hB];try (show _=some (bk.mk (Ab (decide (t_1=p_1))) [Os (S)] []))
    try (first | rw [decide_eq_true g3] | rw [decide_eq_false g3])
theorem J0 (sl:Int):∀d,BD o sl d
 | 0=>fun m k n s l _ hm=>by have hb:cY o sl 0 (.agg [.int .i64 k,.int .i64 n,.str s,.lst l])=301:=rfl;omega
 | d+1=>fun m k n s l hP hM tk tn ts tl hT fs i F pc S h0 hf hS hSl=>MN ho sl d (J0 sl d) m k n s l tk tn ts tl hP hM hT fs i F pc S h0 hf hS hSl
theorem match_ (sl:Int):∀d,MD o sl d
 | 0=>fun m k n s l _ hm=>by have hb:cY o sl 0 (.agg [.int .i64 k,.int .i64 n,.str s,.lst l])=301:=rfl;omega
 | d+1=>fun m k n s l hP hM tk tn ts tl hT S hS hSl=>KR ho sl d (match_ sl d) m k n s l tk tn ts tl hP hM hT S hS hSl
end
def iL (H:List Int):List D:=H.map (D.int .i64)
theorem KE (H:List Int):(iL H).length=H.length:=List.length_map ..
theorem KF {H:List Int} {i h:Int} (hi:H[i.toNat]? =some h):(iL H)[i.toNat]? =some (.int .i64 h):=by unfold iL;rw [List.getElem?_map,hi];rfl
theorem KG {H:List Int} {k:Nat} {h:Int}:(iL H).set k (.int .i64 h)=iL (H.set k h):=by unfold iL;rw [List.map_set]
def gt (H:List Int) (i:Int):Int:=H.getD i.toNat 0
theorem KH {H:List Int} {i n:Int} (hn:(H.length:Int)=n) (h0:0<=i) (h:i<n):H[i.toNat]? =some (gt H i):=by
 unfold gt;have:i.toNat<H.length:=by omega
 rw [List.getD_eq_getElem?_getD,aN this];rfl
theorem jU {H:List Int} {i j n h:Int} (hn:(H.length:Int)=n) (h0:0<=i) (h1:i<n) (g0:0<=j):gt (H.set i.toNat h) j=if j=i then h else gt H j:=by
 unfold gt;rw [List.getD_eq_getElem?_getD,List.getD_eq_getElem?_getD,List.getElem?_set];by_cases e:j=i
 ·subst e;rw [if_pos rfl,if_pos rfl,if_pos (by omega)];rfl
 ·rw [if_neg (by omega),if_neg e]
def tk (op n:Int):Int:=if op=4\/op=5\/op=6\/op=8 then n else if op=7 then 2 else if op=9\/op=12 then 1 else 0
def lv (op:Int):Int:=if op=1\/op=2\/op=3\/op=4\/op=5\/op=6\/op=7\/op=8 then 1 else 0
def dn (H:List Int) (a h:Int):List Int×Bool:=if gt H a= -1 then (H.set a.toNat h,true)else (H,gt H a==h)
def bp (n:Int) (H:List Int) (a h:Int):Option (List Int):=if n<=a then none else if 300<h then none else if gt H a<0 then some (H.set a.toNat h)else if gt H a=h then some H else none
section
variable {o:aK} (ho:aU cF bE o)
include ho
theorem nr {H:List Int} {i n:Int} (hn:(H.length:Int)=n) (h0:0<=i) (h:i<n):o.dm (iL H) i=some (.int .i64 (gt H i)):=av ho h0 (KF (KH hn h0 h))
theorem xV {H:List Int} {i h:Int} (h0:0<=i):o.set (iL H) i (.int .i64 h)=iL (H.set i.toNat h):=by
 rw [ho.set];exact KG
theorem uj {H:List Int}:o.len (iL H)=H.length:=by rw [ho.len,KE]
theorem Hr (a0_0 a0_1:Int) (a0_2:ByteArray) (a0_3:Int):o.call 318 [.agg [Ai a0_0,Ai a0_1,As a0_2,Ai a0_3]] []=Ar (.tup [Ai (tk a0_0 a0_1),Ai (lv a0_0)]):=by
 refine ho.aI fun R Q=> ?_
 conv=>lhs;cbv
 rcases ak ho a0_0 1 with ⟨e1,g1⟩|⟨e1,g1⟩<;>(conv=>lhs;rw [e1];cbv)
 ·rcases ak ho a0_0 2 with ⟨e2,g2⟩|⟨e2,g2⟩<;>(conv=>lhs;rw [e2];cbv)
  ·rcases ak ho a0_0 3 with ⟨e3,g3⟩|⟨e3,g3⟩<;>(conv=>lhs;rw [e3];cbv)
   ·rcases ak ho a0_0 4 with ⟨e4,g4⟩|⟨e4,g4⟩<;>(conv=>lhs;rw [e4];cbv)
    ·rcases ak ho a0_0 5 with ⟨e5,g5⟩|⟨e5,g5⟩<;>(conv=>lhs;rw [e5];cbv)
     ·rcases ak ho a0_0 6 with ⟨e6,g6⟩|⟨e6,g6⟩<;>(conv=>lhs;rw [e6];cbv)
      ·rcases ak ho a0_0 8 with ⟨e7,g7⟩|⟨e7,g7⟩<;>(conv=>lhs;rw [e7];cbv)
       ·rcases ak ho a0_0 7 with ⟨e8,g8⟩|⟨e8,g8⟩<;>(conv=>lhs;rw [e8];cbv)
        ·rcases ak ho a0_0 9 with ⟨e9,g9⟩|⟨e9,g9⟩<;>(conv=>lhs;rw [e9];cbv)
         ·rcases ak ho a0_0 12 with ⟨e10,g10⟩|⟨e10,g10⟩<;>(conv=>lhs;rw [e10];cbv)
          all_goals
           subst Q;exact (Eq.refl _).trans (by simp_all [tk,lv])
         ·subst Q;exact (Eq.refl _).trans (by simp_all [tk,lv])
        ·subst Q;exact (Eq.refl _).trans (by simp_all [tk,lv])
       ·subst Q;exact (Eq.refl _).trans (by simp_all [tk,lv])
      ·subst Q;exact (Eq.refl _).trans (by simp_all [tk,lv])
     ·subst Q;exact (Eq.refl _).trans (by simp_all [tk,lv])
    ·subst Q;exact (Eq.refl _).trans (by simp_all [tk,lv])
   ·subst Q;exact (Eq.refl _).trans (by simp_all [tk,lv])
  ·subst Q;exact (Eq.refl _).trans (by simp_all [tk,lv])
 ·subst Q;exact (Eq.refl _).trans (by simp_all [tk,lv])
theorem Hs (a0_0 a0_1:Int) (a0_2:ByteArray) (a0_3:Int):o.call 350 [.agg [Ai a0_0,Ai a0_1,As a0_2,Ai a0_3]] []=Ar (Ai (tk a0_0 a0_1)):=by
 refine ho.aI fun R Q=> ?_
 conv=>lhs;cbv
 rcases ak ho a0_0 4 with ⟨e1,g1⟩|⟨e1,g1⟩<;>(conv=>lhs;rw [e1];cbv)
 ·rcases ak ho a0_0 5 with ⟨e2,g2⟩|⟨e2,g2⟩<;>(conv=>lhs;rw [e2];cbv)
  ·rcases ak ho a0_0 6 with ⟨e3,g3⟩|⟨e3,g3⟩<;>(conv=>lhs;rw [e3];cbv)
   ·rcases ak ho a0_0 8 with ⟨e4,g4⟩|⟨e4,g4⟩<;>(conv=>lhs;rw [e4];cbv)
    ·rcases ak ho a0_0 7 with ⟨e5,g5⟩|⟨e5,g5⟩<;>(conv=>lhs;rw [e5];cbv)
     ·rcases ak ho a0_0 9 with ⟨e6,g6⟩|⟨e6,g6⟩<;>(conv=>lhs;rw [e6];cbv)
      ·rcases ak ho a0_0 12 with ⟨e7,g7⟩|⟨e7,g7⟩<;>(conv=>lhs;rw [e7];cbv)
       all_goals
        subst Q;exact (Eq.refl _).trans (by simp_all [tk,lv])
      ·subst Q;exact (Eq.refl _).trans (by simp_all [tk,lv])
     ·subst Q;exact (Eq.refl _).trans (by simp_all [tk,lv])
    ·subst Q;exact (Eq.refl _).trans (by simp_all [tk,lv])
   ·subst Q;exact (Eq.refl _).trans (by simp_all [tk,lv])
  ·subst Q;exact (Eq.refl _).trans (by simp_all [tk,lv])
 ·subst Q;exact (Eq.refl _).trans (by simp_all [tk,lv])
theorem Ht (H:List Int) (y:List D) (hy:y=iL H) (n:Int) (hn:(H.length:Int)=n) (a h:Int) (h0:0<=a) (h1:a<n):o.call 319 [.arr (1,0) (3,1) none true,Ai a,Ai h] [some (.rows (3,1) y)]=some ⟨Ab (dn H a h).2,[some (.rows (3,1) (iL (dn H a h).1))],[]⟩:=by
 refine ho.aI fun R Q=> ?_
 obtain ⟨n1,hn1,e1⟩:∃v,v=gt H a/\o.dm y a=some (.int .i64 v):=⟨_,rfl,by rw [hy];exact nr ho hn h0 h1⟩
 conv=>lhs;cbv;rw [e1];cbv;(try (rw [e1];cbv))
 rcases ak ho n1 (-1)with ⟨e2,g2⟩|⟨e2,g2⟩<;>(conv=>lhs;rw [e2];cbv)
 ·conv=>lhs;(try (rw [e1];cbv));(try (rw [e1];cbv))
  rcases ak ho n1 h with ⟨e3,g3⟩|⟨e3,g3⟩<;>(conv=>lhs;rw [e3];cbv)
  all_goals
   subst Q;unfold dn;first | (rw [if_pos (by omega)];simp_all;done) | (rw [if_neg (by omega)];simp_all;done) | omega
 ·obtain ⟨l1,hl1,e3⟩:∃l,l=iL (H.set a.toNat h)/\o.set y a (.int .i64 h)=l:=⟨_,rfl,by rw [hy];exact xV ho h0⟩
  obtain ⟨n2,hn2,e4⟩:∃v,v=h/\o.dm l1 a=some (.int .i64 v):=⟨_,rfl,by rw [hl1];exact (nr ho (by rw [List.length_set];exact hn) h0 h1).trans (by rw [jU hn h0 h1 h0,if_pos rfl])⟩
  conv=>lhs;(try (rw [e1];cbv));(try (rw [e1];cbv));rw [e3];cbv;rw [e4];cbv;(try (rw [e4];cbv))
  rcases ak ho n2 h with ⟨e5,g5⟩|⟨e5,g5⟩<;>(conv=>lhs;rw [e5];cbv)
  all_goals
   subst Q;unfold dn;first | (rw [if_pos (by omega)];simp_all;done) | (rw [if_neg (by omega)];simp_all;done) | omega
theorem Hu (H:List Int) (y:List D) (hy:y=iL H) (n:Int) (hn:(H.length:Int)=n) (a h:Int) (h0:0<=a) (bad:Bool):o.call 286 [.ptr (1,0) 0,Ai a,Ai h] [some (.box [.arr (1,1) (3,1) none true,Ab bad]),some (.rows (3,1) y)]=some ⟨.tup [],[some (.box [.arr (1,1) (3,1) none true,Ab ((bp n H a h).isNone || bad)]),some (.rows (3,1) (iL ((bp n H a h).getD H)))],[]⟩:=by
 refine ho.aI fun R Q=> ?_
 obtain ⟨n1,hn1,e1⟩:∃v,v=n/\o.len y=v:=⟨_,rfl,by rw [hy];exact (uj ho).trans hn⟩
 conv=>lhs;cbv;rw [e1];cbv
 rcases iQ ho a n1 with ⟨e2,g2⟩|⟨e2,g2⟩<;>(conv=>lhs;rw [e2];cbv)
 ·rcases fe ho h 300 with ⟨e3,g3⟩|⟨e3,g3⟩<;>(conv=>lhs;rw [e3];cbv)
  ·obtain ⟨n2,hn2,e4⟩:∃v,v=gt H a/\o.dm y a=some (.int .i64 v):=⟨_,rfl,by rw [hy];exact nr ho hn h0 (by omega)⟩
   conv=>lhs;rw [e4];cbv;(try (rw [e4];cbv))
   rcases bB ho n2 0 with ⟨e5,g5⟩|⟨e5,g5⟩<;>(conv=>lhs;rw [e5];cbv)
   ·conv=>lhs;(try (rw [e4];cbv));(try (rw [e4];cbv))
    rcases cH ho n2 h with ⟨e6,g6⟩|⟨e6,g6⟩<;>(conv=>lhs;rw [e6];cbv)
    ·subst Q;rw [hy];unfold bp;rw [if_neg (by omega),if_neg (by omega),if_neg (by omega),if_pos (by omega)];rfl
    ·subst Q;rw [hy];unfold bp;rw [if_neg (by omega),if_neg (by omega),if_neg (by omega),if_neg (by omega)];rfl
   ·obtain ⟨l1,hl1,e6⟩:∃l,l=iL (H.set a.toNat h)/\o.set y a (.int .i64 h)=l:=⟨_,rfl,by rw [hy];exact xV ho h0⟩
    conv=>lhs;(try (rw [e4];cbv));(try (rw [e4];cbv));rw [e6];cbv
    subst Q;rw [hl1];unfold bp;rw [if_neg (by omega),if_neg (by omega),if_pos (by omega)];rfl
  ·subst Q;rw [hy];unfold bp;rw [if_neg (by omega),if_pos (by omega)];rfl
 ·subst Q;rw [hy];unfold bp;rw [if_pos (by omega)];rfl
theorem xW (H:List Int) (n:Int) (hn:(H.length:Int)=n) (a h:Int) (h0:0<=a) (h1:a<n):o.call 319 [.arr (1,0) (3,1) none true,Ai a,Ai h] [some (.rows (3,1) (iL H))]=some ⟨Ab (dn H a h).2,[some (.rows (3,1) (iL (dn H a h).1))],[]⟩:=Ht ho H _ rfl n hn a h h0 h1
theorem ul (H:List Int) (n:Int) (hn:(H.length:Int)=n) (a h:Int) (h0:0<=a) (bad:Bool):o.call 286 [.ptr (1,0) 0,Ai a,Ai h] [some (.box [.arr (1,1) (3,1) none true,Ab bad]),some (.rows (3,1) (iL H))]=some ⟨.tup [],[some (.box [.arr (1,1) (3,1) none true,Ab ((bp n H a h).isNone || bad)]),some (.rows (3,1) (iL ((bp n H a h).getD H)))],[]⟩:=Hu ho H _ rfl n hn a h h0 bad
end
end T2
