import Derived.Test.YtfnagkpidcdocaaGreatM00
set_option linter.all false
namespace Go.Vi
open Go Go.RowKit
def aW (s:bF) (L:Loc) (b:Nat):Prop:=∃r ob,s.get r=some ob/\ob.has L r b
structure RS (s:St) (a:Act) (w:World) (L:Loc) (Z:Nat->Prop):Prop where
 defers:a.defers=[]
 env:dg ⟨w,Z,L,s.sto.get⟩ s.env a.tmps.toList
 obj:∀r ob,s.sto.get r=some ob->RO ⟨w,Z,L,s.sto.get⟩ r ob
 injH:∀r r' b ob ob',s.sto.get r=some ob->s.sto.get r'=some ob'->ob.has L r b->ob'.has L r' b->r=r'
 dis:∀b,Z b->b<w.heap.size/\¬aW s.sto L b
structure Tr (np:Nat) (s s':bF) (w w':World) (L L':Loc) (Z Z':Nat->Prop):Prop where
 os:w'.os=w.os
 tape:w'.tape=w.tape
 output:w'.output=w.output
 size:w.heap.size<=w'.heap.size
 keep:∀b,b<w.heap.size->¬aW s L b->w'.heap[b]? =w.heap[b]?
 lives:∀b,aW s' L' b->aW s L b\/w.heap.size<=b
 zin:∀b,Z b->Z' b
 zout:∀b,Z' b->Z b\/w.heap.size<=b\/aW s L b
 par:∀r:Id,np<=r.1->L' r=L r
 psame:∀r:Id,np<=r.1->(s'.get r).isSome->(s.get r).isSome/\Same ⟨w,Z,L,s.get⟩ ⟨w',Z',L',s'.get⟩ r
theorem Same.refl (c:Cx) (r:Id):Same c c r:=⟨rfl,fun h=>h,fun _ xs h=>⟨xs,h,rfl⟩,fun _ _ _=>rfl⟩
theorem Same.trans {a b c:Cx} {r:Id} (h:Same a b r) (k:Same b c r):Same a c r:=by
 obtain ⟨h1,h2,h3,h4⟩:=h;obtain ⟨k1,k2,k3,k4⟩:=k;refine ⟨k1.trans h1,fun x=>k2 (h2 x),fun sz xs x=> ?_,fun b hb hs=> ?_⟩
 ·obtain ⟨ys,y1,y2⟩:=h3 sz xs x;obtain ⟨zs,z1,z2⟩:=k3 sz ys y1;exact ⟨zs,z1,z2.trans y2⟩
 ·exact (k4 b (h1.trans hb) (h2 hs)).trans (h4 b hb hs)
theorem Tr.refl (np:Nat) (s:bF) (w:World) (L:Loc) (Z:Nat->Prop):Tr np s s w w L L Z Z:=
 ⟨rfl,rfl,rfl,Nat.le_refl _,fun _ _ _=>rfl,fun _ h=> .inl h,fun _ h=>h,fun _ h=> .inl h,fun _ _=>rfl,fun _ _ h=>⟨h,Same.refl _ _⟩⟩
theorem Tr.trans {np:Nat} {s1 s2 s3:bF} {w1 w2 w3:World} {L1 L2 L3:Loc} {Z1 Z2 Z3:Nat->Prop}
  (h:Tr np s1 s2 w1 w2 L1 L2 Z1 Z2) (k:Tr np s2 s3 w2 w3 L2 L3 Z2 Z3):Tr np s1 s3 w1 w3 L1 L3 Z1 Z3 where
 os:=k.os.trans h.os
 tape:=k.tape.trans h.tape
 output:=k.output.trans h.output
 size:=Nat.le_trans h.size k.size
 keep b hb hn:=by
  have h2:¬aW s2 L2 b:=fun hl=>by
   rcases h.lives b hl with h3 | h3
   ·exact hn h3
   ·omega
  exact (k.keep b (Nat.lt_of_lt_of_le hb h.size) h2).trans (h.keep b hb hn)
 lives b hl:=by
  rcases k.lives b hl with h1 | h1
  ·exact h.lives b h1
  ·exact .inr (Nat.le_trans h.size h1)
 zin b hz:=k.zin b (h.zin b hz)
 zout b hz:=by
  rcases k.zout b hz with h1 | h1 | h1
  ·exact h.zout b h1
  ·exact .inr (.inl (Nat.le_trans h.size h1))
  ·rcases h.lives b h1 with h2 | h2
   ·exact .inr (.inr h2)
   ·exact .inr (.inl h2)
 par r hr:=(k.par r hr).trans (h.par r hr)
 psame r hr hs:=by
  obtain ⟨k1,k2⟩:=k.psame r hr hs;obtain ⟨h1,h2⟩:=h.psame r hr k1;exact ⟨h1,h2.trans k2⟩
theorem cK {s:bF} {r:Id} {ob:Obj} (o:Option Obj) (h:s.get r=some ob):(s.put r o).get r=o:=by
 unfold bF.get at h;split at h
 case h_1 l hl=>
  split at h
  case h_1 o' ho=>
   have h1:r.1<s.length:=(ai.1 hl).1;have h2:r.2<l.length:=(ai.1 ho).1;unfold bF.put;rw [hl];unfold bF.get;dsimp only;rw [List.getElem?_set_self h1];dsimp only;rw [List.getElem?_set_self h2]
  case h_2=>cases h
 case h_2=>cases h
theorem cg {s:bF} {r r':Id} (o:Option Obj) (h:r'≠r):(s.put r o).get r'=s.get r':=by
 unfold bF.put;split
 case h_1 l hl=>
  unfold bF.get;by_cases h1:r'.1=r.1
  ·have h2:r'.2≠r.2:=fun e=>h (Prod.ext h1 e)
   have h3:r.1<s.length:=(ai.1 hl).1;rw [h1,List.getElem?_set_self h3,hl];simp [List.getElem?_set,Ne.symm h2]
  ·simp [List.getElem?_set,Ne.symm h1]
 case h_2=>rfl
theorem y9 {s:bF} {r r':Id}:(s.put r none).get r'=if r'=r then none else s.get r':=by
 by_cases h:r'=r
 ·subst h;simp only [if_true];unfold bF.put;split
  case h_1 l hl=>
   have h3:r'.1<s.length:=(ai.1 hl).1;unfold bF.get;rw [List.getElem?_set_self h3];by_cases h2:r'.2<l.length
   ·simp [h2]
   ·simp [List.getElem?_set,h2]
  case h_2 hl=>
   unfold bF.get;simp [hl]
 ·simp only [h,if_false];exact cg none h
theorem ko {s:bF} {p:Id->Bool} {r:Id}:(s.forget p).get r=(s.get r).map (·.forget p):=by
 unfold bF.forget bF.get;simp only [List.getElem?_map];cases s[r.1]? with
 | none=>rfl
 | some l=>
  simp only [Option.map_some,List.getElem?_map];cases l[r.2]? with
  | none=>rfl
  | some o=>rfl
theorem dw {s s':bF} {t:Nat} {l:List (Option Obj)} (h:s.lay t l=some s') (r:Id):
  s'.get r=if r.1=t then (match l[r.2]? with | some o=>o | none=>none)else s.get r:=by
 unfold bF.lay at h;split at h
 case h_1 old ho=>
  split at h
  ·injection h with h;subst h;have h3:t<s.length:=(ai.1 ho).1;by_cases e:r.1=t
   ·simp only [e,if_true];unfold bF.get;rw [e,List.getElem?_set_self h3];rfl
   ·simp only [e,if_false];unfold bF.get;rw [List.getElem?_set_ne (Ne.symm e)]
  ·cases h
 case h_2=>cases h
theorem f7 {s s':bF} {t:Nat} {l:List (Option Obj)} (h:s.lay t l=some s') (r:Id) (hr:r.1=t):s.get r=none:=by
 unfold bF.lay at h;split at h
 case h_1 old ho=>
  split at h
  case isTrue hall=>
   unfold bF.get;rw [hr,ho];dsimp only;cases h2:old[r.2]? with
   | none=>rfl
   | some o=>
    have:=List.all_eq_true.1 hall o (List.mem_of_getElem? h2);simpa using this
  case isFalse=>cases h
 case h_2=>cases h
mutual
theorem Eg {c:Cx} {p:Id->Bool}:∀(a:AV) (v:Value),RV c a v->RV c (a.forget p) v
 | .undef,v,h=>by simpa only [AV.forget]using h
 | .bare,v,h=>by simpa only [AV.forget]using h
 | .d x,v,h=>by simpa only [AV.forget]using h
 | .agg as,v,h=>by
  simp only [AV.forget,RV]at h |-;obtain ⟨vs,h1,h2⟩:=h;exact ⟨vs,h1,eX as vs h2⟩
 | .tup as,v,h=>by
  simp only [AV.forget,RV]at h |-;obtain ⟨vs,h1,h2⟩:=h;exact ⟨vs,h1,eX as vs h2⟩
 | .nilp,v,h=>by simpa only [AV.forget]using h
 | .emp,v,h=>by simpa only [AV.forget]using h
 | .ptr r off,v,h=>by
   simp only [AV.forget];split; · simp only [RV]
   ·exact h
 | .prow r sz i off,v,h=>by
     simp only [AV.forget];split; · simp only [RV]
     ·exact h
 | .sp cs off,v,h=>by simpa only [AV.forget]using h
 | .arr r sz g full,v,h=>by
     simp only [AV.forget];split; · simp only [RV]
     ·exact h
 | .fn f as,v,h=>by
  simp only [AV.forget,RV]at h |-;obtain ⟨vs,h1,h2⟩:=h;exact ⟨vs,h1,eX as vs h2⟩
theorem eX {c:Cx} {p:Id->Bool}:∀(as:List AV) (vs:List Value),dg c as vs->dg c (AV.aO p as) vs
 | [],vs,h=>by simpa only [AV.aO]using h
 | a::as,vs,h=>by
  simp only [AV.aO,dg]at h |-;obtain ⟨v,vs',h1,h2,h3⟩:=h;exact ⟨v,vs',h1,Eg a v h2,eX as vs' h3⟩
end
mutual
theorem ia {p:Id->Bool}:∀(a:AV),∀r∈(a.forget p).refs,p r=false
 | .undef,r,h=>by simp [AV.forget,AV.refs]at h
 | .bare,r,h=>by simp [AV.forget,AV.refs]at h
 | .d x,r,h=>by simp [AV.forget,AV.refs]at h
 | .agg as,r,h=>by simp only [AV.forget,AV.refs]at h;exact dx as r h
 | .tup as,r,h=>by simp only [AV.forget,AV.refs]at h;exact dx as r h
 | .nilp,r,h=>by simp [AV.forget,AV.refs]at h
 | .emp,r,h=>by simp [AV.forget,AV.refs]at h
 | .ptr q off,r,h=>by
  simp only [AV.forget]at h;split at h
  ·simp [AV.refs]at h
  ·rename_i hp;simp [AV.refs]at h;subst h;simpa using hp
 | .prow q sz i off,r,h=>by
  simp only [AV.forget]at h;split at h
  ·simp [AV.refs]at h
  ·rename_i hp;simp [AV.refs]at h;subst h;simpa using hp
 | .sp cs off,r,h=>by simp [AV.forget,AV.refs]at h
 | .arr q sz g full,r,h=>by
  simp only [AV.forget]at h;split at h
  ·simp [AV.refs]at h
  ·rename_i hp;simp [AV.refs]at h;subst h;simpa using hp
 | .fn f as,r,h=>by simp only [AV.forget,AV.refs]at h;exact dx as r h
theorem dx {p:Id->Bool}:∀(as:List AV),∀r∈AV.bO (AV.aO p as),p r=false
 | [],r,h=>by simp [AV.aO,AV.bO]at h
 | a::as,r,h=>by
  simp only [AV.aO,AV.bO,List.mem_append]at h;rcases h with h | h
  ·exact ia a r h
  ·exact dx as r h
end
mutual
theorem vF {p:Id->Bool}:∀(a:AV),∀r∈(a.forget p).refs,r∈a.refs
 | .undef,r,h=>by simpa [AV.forget]using h
 | .bare,r,h=>by simpa [AV.forget]using h
 | .d x,r,h=>by simpa [AV.forget]using h
 | .agg as,r,h=>by simp only [AV.forget,AV.refs]at h |-;exact fo as r h
 | .tup as,r,h=>by simp only [AV.forget,AV.refs]at h |-;exact fo as r h
 | .nilp,r,h=>by simpa [AV.forget]using h
 | .emp,r,h=>by simpa [AV.forget]using h
 | .ptr q off,r,h=>by
  simp only [AV.forget]at h;split at h; · simp [AV.refs]at h
  ·exact h
 | .prow q sz i off,r,h=>by
    simp only [AV.forget]at h;split at h; · simp [AV.refs]at h
    ·exact h
 | .sp cs off,r,h=>by simpa [AV.forget]using h
 | .arr q sz g full,r,h=>by
    simp only [AV.forget]at h;split at h; · simp [AV.refs]at h
    ·exact h
 | .fn f as,r,h=>by simp only [AV.forget,AV.refs]at h |-;exact fo as r h
theorem fo {p:Id->Bool}:∀(as:List AV),∀r∈AV.bO (AV.aO p as),r∈AV.bO as
 | [],r,h=>by simpa [AV.aO]using h
 | a::as,r,h=>by
  simp only [AV.aO,AV.bO,List.mem_append]at h |-;rcases h with h | h
  ·exact .inl (vF a r h)
  ·exact .inr (fo as r h)
end
theorem jQ {c:Cx} {p:Id->Bool} {r:Id} {ob:Obj} (h:RO c r ob):RO c r (ob.forget p):=by
 cases ob with
 | box as=>
  simp only [Obj.forget,RO]at h |-;obtain ⟨b,vs,ty,h1,h2,h3⟩:=h;exact ⟨b,vs,ty,h1,h2,eX as _ h3⟩
 | rows sz xs=>exact h
 | orows sz xs=>exact h
 | gone sz xs=>exact h
 | hrows sz xs i off q esz=>
  simp only [Obj.forget];split
  ·simp only [RO]at h |-;obtain ⟨b,vs,_,_,_,_,_,_,_,_,h1,h2,h3,_⟩:=h;refine ⟨fun e=>(by rw [h1]at e;cases e),fun b' e=> ?_⟩;rw [h1]at e;injection e with e;subst e;exact ⟨vs,h2,h3⟩
  ·exact h
theorem iJ {c c':Cx} {r:Id} {ob:Obj} (hz:jA c.w c'.w c.Z c'.Z) (hL:c'.L r=c.L r) (hN:c'.L.nest r=c.L.nest r) (hb:∀b,ob.has c.L r b->c'.w.heap[b]? =c.w.heap[b]?)
  (hr:∀q∈ob.refs,Same c c' q) (h:RO c r ob):RO c' r ob:=by
 cases ob with
 | box as=>
  simp only [RO]at h |-;obtain ⟨b,vs,ty,h1,h2,h3⟩:=h;exact ⟨b,vs,ty,hL.trans h1,(hb b (.inl h1)).trans h2,ct hz as _ hr h3⟩
 | rows sz xs=>
  simp only [RO]at h |-;obtain ⟨h1,h2⟩:=h;refine ⟨fun e=>h1 (hL ▸ e),fun b e=> ?_⟩;have e':=hL ▸ e;obtain ⟨vs,h3,h4,h5⟩:=h2 b e';exact ⟨vs,(hb b (.inl e')).trans h3,h4,lH hz (hb b (.inl e')) xs 0 sz.2 h5⟩
 | gone sz xs=>
  simp only [RO]at h |-;obtain ⟨h1,h2⟩:=h;refine ⟨fun e=>h1 (hL ▸ e),fun b e=> ?_⟩;have e':=hL ▸ e;obtain ⟨vs,h3,h4⟩:=h2 b e';exact ⟨vs,(hb b (.inl e')).trans h3,h4⟩
 | orows sz xs=>
  simp only [RO]at h |-;obtain ⟨h1,h2⟩:=h;refine ⟨fun e=>by rw [hN];exact h1 (hL ▸ e),fun b e=> ?_⟩;have e':=hL ▸ e;obtain ⟨vs,F,h3,h4,h5,h6,h7⟩:=h2 b e';exact ⟨vs,F,(hb b (.inl e')).trans h3,h4,fZ hz _ _ _ _ (fun k hk=>hb k (.inr ⟨rfl,(h7 k).2 hk⟩)) h5,h6,by rw [hN];exact h7⟩
 | hrows sz xs i off q esz=>
  simp only [RO]at h |-;obtain ⟨b,vs,pre,d,post,A1,A2,B1,B2,v,h1,h2,h3,h4,h5,h6,h7,h8,h9,h10,h11,h12,h13,h14,h16,h17⟩:=h;have hk:∀k∈A1++A2++B1++B2,c'.w.heap[k]? =c.w.heap[k]? :=fun k hk=>hb k (.inr ⟨rfl,(h17 k).2 hk⟩)
  have hsm:=hr q (by simp [Obj.refs]);refine ⟨b,vs,pre,d,post,A1,A2,B1,B2,v,hL.trans h1,(hb b (.inl h1)).trans h2,h3,h4,h5,h6,h7,fZ hz _ _ _ _ (fun k m=>hk k (by simp [m])) h8,jn hz _ _ _ (fun k m=>hk k (by simp [m])) h9,jn hz _ _ _ (fun k m=>hk k (by simp [m])) h10,fZ hz _ _ _ _ (fun k m=>hk k (by simp [m])) h11,h12,
   jI hz _ _ (fun r hr'=>by simp [AV.refs]at hr';subst hr';exact hsm) h13,h14,h16,by rw [hN];exact h17⟩
mutual
theorem tW {c:Cx}:∀(a:AV) (v:Value),RV c a v->∀r∈a.refs,(c.obj r).isSome
 | .undef,v,h,r,hr=>by simp [AV.refs]at hr
 | .bare,v,h,r,hr=>by simp [AV.refs]at hr
 | .d x,v,h,r,hr=>by simp [AV.refs]at hr
 | .agg as,v,h,r,hr=>by simp only [RV]at h;obtain ⟨vs,_,h2⟩:=h;exact dF as vs h2 r (by simpa [AV.refs]using hr)
 | .tup as,v,h,r,hr=>by simp only [RV]at h;obtain ⟨vs,_,h2⟩:=h;exact dF as vs h2 r (by simpa [AV.refs]using hr)
 | .nilp,v,h,r,hr=>by simp [AV.refs]at hr
 | .emp,v,h,r,hr=>by simp [AV.refs]at hr
 | .ptr q off,v,h,r,hr=>by simp only [RV]at h;obtain ⟨b,h1,_⟩:=h;simp [AV.refs]at hr;subst hr;exact h1
 | .prow q sz i off,v,h,r,hr=>by simp only [RV]at h;obtain ⟨b,h1,_⟩:=h;simp [AV.refs]at hr;subst hr;exact h1
 | .sp cs off,v,h,r,hr=>by simp [AV.refs]at hr
 | .arr q sz g full,v,h,r,hr=>by
  simp only [RV]at h;obtain ⟨_,_,_,xs,_,_,_,h4,_⟩:=h;simp [AV.refs]at hr;subst hr;cases ho:c.obj r with
  | none=>simp [ho]at h4
  | some _=>simp
 | .fn f as,v,h,r,hr=>by simp only [RV]at h;obtain ⟨vs,_,h2⟩:=h;exact dF as vs h2 r (by simpa [AV.refs]using hr)
theorem dF {c:Cx}:∀(as:List AV) (vs:List Value),dg c as vs->∀r∈AV.bO as,(c.obj r).isSome
 | [],vs,h,r,hr=>by simp [AV.bO]at hr
 | a::as,vs,h,r,hr=>by
  simp only [dg]at h;obtain ⟨v,vs',_,h2,h3⟩:=h;simp only [AV.bO,List.mem_append]at hr;rcases hr with hr | hr
  ·exact tW a v h2 r hr
  ·exact dF as vs' h3 r hr
end
abbrev aF (w:World) (Z:Nat->Prop) (L:Loc) (s:bF):Cx:=⟨w,Z,L,s.get⟩
theorem Jc {c:Cx} {as:List AV} {vs:List Value} (h:dg c as vs) (t:Nat) {a:AV} {v:Value} (hv:RV c a v):dg c (as.set t a) (vs.set t v):=by
 rw [bL]at h |-;obtain ⟨h1,h2⟩:=h;refine ⟨by simpa using h1,fun i x y hx hy=> ?_⟩;by_cases e:t=i
 ·subst e;have hx':=ai.1 hx;have hy':=ai.1 hy;obtain ⟨k1,k2⟩:=hx';obtain ⟨k3,k4⟩:=hy';simp at k2 k4;subst k2;subst k4;exact hv
 ·rw [List.getElem?_set_ne e]at hx hy;exact h2 i x y hx hy
theorem RS.put {s:St} {a:Act} {w:World} {L:Loc} {Z:Nat->Prop} (h:RS s a w L Z) (dst:Option Nat) {x:AV} {v:Value} (hv:RV (aF w Z L s.sto) x v):
  RS ⟨ep s.env dst x,s.sto⟩ (a.put dst v) w L Z:=by
 cases dst with
 | none=>exact h
 | some t=>
  refine ⟨h.defers,?_,h.obj,h.injH,h.dis⟩;simp only [ep,Act.put,Array.toList_setIfInBounds];exact Jc h.env t hv
theorem RS.get {s:St} {a:Act} {w:World} {L:Loc} {Z:Nat->Prop} (h:RS s a w L Z) {t:Nat} {x:AV} (hx:s.env[t]? =some x):
  RV (aF w Z L s.sto) x (a.tmps.getD t undef):=by
 obtain ⟨h1,h2⟩:=bL.1 h.env;have h3:=(ai.1 hx).1;have h4:t<a.tmps.size:=by rw [<-Array.length_toList,<-h1];exact h3
 refine h2 t x _ hx ?_;simp [Array.getD,h4]
theorem fq {s:St} {r q:Id}:(s.kill r).sto.get q=if q=r then none else (s.sto.get q).map (·.forget (· ==r)):=by
 show ((s.sto.put r none).forget _).get q=_;rw [ko,y9];split
 ·rfl
 ·rfl
theorem oL {s:St} {w:World} {L:Loc} {Z Z':Nat->Prop} {r q:Id} (h:q≠r):Same (aF w Z L s.sto) (aF w Z' L (s.kill r).sto) q:=by
 refine ⟨rfl,fun k=> ?_,fun sz xs k=> ?_,fun _ _ _=>rfl⟩
 ·dsimp only at k |-;rw [fq,if_neg h];simpa using k
 ·dsimp only at k |-;rw [fq,if_neg h];refine ⟨xs,?_,rfl⟩;cases ho:s.sto.get q with
  | none=>simp [ho]at k
  | some o=>simp only [ho,Option.bind_some]at k;simp [Obj.jP,k]
theorem pR {s:St} {L:Loc} {r:Id} {b:Nat} (h:aW (s.kill r).sto L b):aW s.sto L b:=by
 obtain ⟨q,ob,h1,h2⟩:=h;rw [fq]at h1;split at h1
 ·cases h1
 ·cases h3:s.sto.get q with
  | none=>simp [h3]at h1
  | some o=>
   simp [h3]at h1;subst h1;exact ⟨q,o,h3,Obj.di h2⟩
theorem f8 {s:St} {a:Act} {w:World} {L:Loc} {Z:Nat->Prop} (h:RS s a w L Z) {r:Id} {b:Nat} {ob:Obj} (hr:s.sto.get r=some ob) (hb:ob.has L r b):¬aW (s.kill r).sto L b:=by
 rintro ⟨q,ob,h1,h2⟩;rw [fq]at h1;split at h1
 ·cases h1
 ·rename_i hq;cases h3:s.sto.get q with
  | none=>simp [h3]at h1
  | some o=>
   simp [h3]at h1;subst h1;exact hq (h.injH q r b o ob h3 hr (Obj.di h2) hb)
theorem Obj.ia {p:Id->Bool} (o:Obj):∀r∈(o.forget p).refs,p r=false:=by
 intro r hr;cases o with
 | box cs=>exact dx cs r (by simpa [Obj.forget,Obj.refs]using hr)
 | hrows sz xs i off q esz=>
  simp only [Obj.forget]at hr;split at hr
  ·simp [Obj.refs]at hr
  ·rename_i hp;simp [Obj.refs]at hr;subst hr;simpa using hp
 | _=>simp [Obj.forget,Obj.refs]at hr
theorem RS.kill {s:St} {a:Act} {w:World} {L:Loc} {Z:Nat->Prop} (h:RS s a w L Z) (r:Id):RS (s.kill r) a w L Z where
 defers:=h.defers
 env:=by
  refine ct (c:=aF w Z L s.sto) (c':=aF w Z L (s.kill r).sto) (jA.refl _ _) _ _ (fun q hq=> ?_) (eX (p:=(· ==r)) s.env _ h.env);have:=dx s.env q hq;exact oL (by simpa using this)
 obj q ob hq:=by
  rw [fq]at hq;split at hq
  ·cases hq
  ·cases h3:s.sto.get q with
   | none=>simp [h3]at hq
   | some o=>
    simp [h3]at hq;subst hq;refine iJ (c:=aF w Z L s.sto) (c':=aF w Z L (s.kill r).sto) (jA.refl _ _) rfl rfl (fun _ _=>rfl) (fun k hk=> ?_) (jQ (h.obj q o h3));have:(k==r)=false:=Obj.ia o k hk;exact oL (by simpa using this)
 injH q q' b ob ob' hq hq' hb hb':=by
  have f:∀k o,(s.kill r).sto.get k=some o->∃o',s.sto.get k=some o'/\o=o'.forget (· ==r):=fun k o hk=>by
   rw [fq]at hk;split at hk
   ·cases hk
   ·cases h3:s.sto.get k with
    | none=>simp [h3]at hk
    | some o'=>simp [h3]at hk;exact ⟨o',rfl,hk.symm⟩
  obtain ⟨o,h1,rfl⟩:=f q ob hq;obtain ⟨o',h2,rfl⟩:=f q' ob' hq';exact h.injH q q' b o o' h1 h2 (Obj.di hb) (Obj.di hb')
 dis b hb:=⟨(h.dis b hb).1,fun hl=>(h.dis b hb).2 (pR hl)⟩
theorem vW {s:St} {w:World} {L:Loc} {Z Z':Nat->Prop} {r q:Id} (h:((s.kill r).sto.get q).isSome):(s.sto.get q).isSome/\Same (aF w Z L s.sto) (aF w Z' L (s.kill r).sto) q:=by
 have hne:q≠r:=fun e=>by rw [fq,if_pos e]at h;cases h
 exact ⟨by rw [fq,if_neg hne]at h;simpa using h,oL hne⟩
theorem Tr.kill (np:Nat) (s:St) (w:World) (L:Loc) (Z:Nat->Prop) (r:Id):Tr np s.sto (s.kill r).sto w w L L Z Z:=
 ⟨rfl,rfl,rfl,Nat.le_refl _,fun _ _ _=>rfl,fun _ h=> .inl (pR h),fun _ h=>h,fun _ h=> .inl h,fun _ _=>rfl,fun _ _ h=>vW h⟩
mutual
theorem Kq {w:World} {Z:Nat->Prop}:∀(x:D) (v:Value) (F:List Nat),OC w Z x v F->∀k∈F,k<w.heap.size
 | .own sz xs,v,F,h,k,hk=>by
  simp only [OC]at h;obtain ⟨a,c,_,h2⟩:=h;rcases h2 with ⟨_,_,rfl⟩ | ⟨b,vs,F',_,rfl,h3,_,_,_,h4⟩
  ·simp at hk
  ·rcases List.mem_cons.1 hk with rfl | hk
   ·exact (Array.getElem?_eq_some_iff.1 h3).1
   ·exact vX sz.2 xs _ F' h4 k hk
 | .agg _,_,_,h,_,_=>by simp [OC]at h
 | .int _ _,_,F,h,k,hk=>by simp only [OC]at h;rw [h.2]at hk;cases hk
 | .bool _,_,F,h,k,hk=>by simp only [OC]at h;rw [h.2]at hk;cases hk
 | .str _,_,F,h,k,hk=>by simp only [OC]at h;rw [h.2]at hk;cases hk
 | .lst _,_,F,h,k,hk=>by simp only [OC]at h;rw [h.2]at hk;cases hk
theorem zm {w:World} {Z:Nat->Prop}:∀(xs:List D) (vs:List Value) (F:List Nat),lX w Z xs vs F->∀k∈F,k<w.heap.size
 | [],_,F,h,k,hk=>by simp only [lX]at h;rw [h.2]at hk;cases hk
 | d::ds,vs,F,h,k,hk=>by
  simp only [lX]at h;obtain ⟨v,vs',F1,F2,_,rfl,h2,h3⟩:=h;rcases List.mem_append.1 hk with hk | hk
  ·exact Kq d v F1 h2 k hk
  ·exact zm ds vs' F2 h3 k hk
theorem Nw {w:World} {Z:Nat->Prop}:∀(x:D) (vs:List Value) (F:List Nat),OE w Z x vs F->∀k∈F,k<w.heap.size
 | .agg ds,vs,F,h,k,hk=>by simp only [OE]at h;exact zm ds vs F h k hk
 | .own sz xs,vs,F,h,k,hk=>by simp only [OE]at h;obtain ⟨v,_,h2⟩:=h;exact Kq (.own sz xs) v F h2 k hk
 | .int _ _,_,F,h,k,hk=>by simp only [OE]at h;rw [h.2]at hk;cases hk
 | .bool _,_,F,h,k,hk=>by simp only [OE]at h;rw [h.2]at hk;cases hk
 | .str _,_,F,h,k,hk=>by simp only [OE]at h;rw [h.2]at hk;cases hk
 | .lst _,_,F,h,k,hk=>by simp only [OE]at h;rw [h.2]at hk;cases hk
theorem vX {w:World} {Z:Nat->Prop} (n:Nat):∀(xs:List D) (vs:List Value) (F:List Nat),iO w Z n xs vs F->∀k∈F,k<w.heap.size
 | [],_,F,h,k,hk=>by simp only [iO]at h;rw [h]at hk;cases hk
 | x::xs,vs,F,h,k,hk=>by
  simp only [iO]at h;obtain ⟨F1,F2,_,rfl,h2,h3⟩:=h;rcases List.mem_append.1 hk with hk | hk
  ·exact Nw x _ F1 h2 k hk
  ·exact vX n xs _ F2 h3 k hk
end
theorem Es {c:Cx} {r:Id} {ob:Obj} {b:Nat} (h1:RO c r ob) (hb:ob.has c.L r b):b<c.w.heap.size:=by
 have key:∀{o:Go.Obj} {k:Nat},c.w.heap[k]? =some o->k<c.w.heap.size:=fun e=>(Array.getElem?_eq_some_iff.1 e).1
 cases ob with
 | box as=>
  simp only [RO]at h1;obtain ⟨b',vs,ty,h2,h3,_⟩:=h1;rcases hb with hb | ⟨hb,_⟩
  ·rw [hb]at h2;injection h2 with h2;subst h2;exact key h3
  ·cases hb
 | rows sz xs=>
  simp only [RO]at h1;rcases hb with hb | ⟨hb,_⟩
  ·obtain ⟨vs,h3,_⟩:=h1.2 b hb;exact key h3
  ·cases hb
 | gone sz xs=>
  simp only [RO]at h1;rcases hb with hb | ⟨hb,_⟩
  ·obtain ⟨vs,h3,_⟩:=h1.2 b hb;exact key h3
  ·cases hb
 | orows sz xs=>
  simp only [RO]at h1;rcases hb with hb | ⟨_,hb⟩
  ·obtain ⟨vs,F,h3,_⟩:=h1.2 b hb;exact key h3
  ·cases hL:c.L r with
   | none=>exact ((h1.1 hL).2 b hb).elim
   | some b'=>
    obtain ⟨vs,F,h3,_,h4,_,h5⟩:=h1.2 b' hL;exact vX _ _ _ _ h4 b ((h5 b).1 hb)
 | hrows sz xs i off q esz=>
  simp only [RO]at h1;obtain ⟨b',vs,pre,d,post,A1,A2,B1,B2,v,k1,k2,k3,k4,k5,k6,k7,k8,k9,k10,k11,k12,k13,k14,k16,k17⟩:=h1;rcases hb with hb | ⟨_,hb⟩
  ·rw [hb]at k1;injection k1 with k1;subst k1;exact key k2
  ·have:=(k17 b).1 hb;simp only [List.mem_append]at this;rcases this with ((m | m) | m) | m
   ·exact vX _ _ _ _ k8 b m
   ·exact zm _ _ _ k9 b m
   ·exact zm _ _ _ k10 b m
   ·exact vX _ _ _ _ k11 b m
theorem RS.eY {s:St} {a:Act} {w:World} {L:Loc} {Z:Nat->Prop} (h:RS s a w L Z) {r:Id} {ob:Obj} {b:Nat} (hr:s.sto.get r=some ob) (hb:ob.has L r b):b<w.heap.size:=Es (h.obj r ob hr) hb
theorem RS.block_lt {s:St} {a:Act} {w:World} {L:Loc} {Z:Nat->Prop} (h:RS s a w L Z) {r:Id} {ob:Obj} {b:Nat} (hr:s.sto.get r=some ob) (hb:L r=some b):b<w.heap.size:=h.eY hr (.inl hb)
theorem jK {c:Cx} {r:Id} {ob:Obj} (h:RO c r ob):∀q∈ob.refs,(c.obj q).isSome:=by
 cases ob with
 | box cs=>
  simp only [RO]at h;obtain ⟨_,vs,_,_,_,h6⟩:=h;exact dF _ _ h6
 | hrows sz xs i off q esz=>
  simp only [RO]at h;obtain ⟨b',vs,pre,d,post,A1,A2,B1,B2,v,k1,k2,k3,k4,k5,k6,k7,k8,k9,k10,k11,k12,k13,k14,k16,k17⟩:=h;intro r hr;exact tW _ _ k13 r (by simpa [AV.refs,Obj.refs]using hr)
 | _=>intro q hq;simp [Obj.refs]at hq
theorem RS.Nx {s:St} {a:Act} {w:World} {L:Loc} {Z:Nat->Prop} (h:RS s a w L Z) (X:Nat->Prop) (hX:∀b,X b->b<w.heap.size/\¬aW s.sto L b):
  RS s a w L (fun b=>Z b\/X b) where
 defers:=h.defers
 env:=ct (c:=aF w Z L s.sto) (c':=aF w (fun b=>Z b\/X b) L s.sto) (fun _ hb=>⟨.inl hb,rfl⟩) _ _ (fun q _=>⟨rfl,fun k=>k,fun sz xs k=>⟨xs,k,rfl⟩,fun _ _ _=>rfl⟩) h.env
 obj q ob hq:=iJ (c:=aF w Z L s.sto) (c':=aF w (fun b=>Z b\/X b) L s.sto) (fun _ hb=>⟨.inl hb,rfl⟩) rfl rfl (fun _ _=>rfl) (fun q _=>⟨rfl,fun k=>k,fun sz xs k=>⟨xs,k,rfl⟩,fun _ _ _=>rfl⟩) (h.obj q ob hq)
 injH:=h.injH
 dis b hb:=hb.elim (h.dis b) (hX b)
theorem RS.Kr {s:St} {a:Act} {w:World} {L:Loc} {Z:Nat->Prop} (h:RS s a w L Z) {r:Id} {ob:Obj} (hr:s.sto.get r=some ob) (np:Nat):
  RS (s.kill r) a w L (fun b=>Z b\/ob.has L r b)/\Tr np s.sto (s.kill r).sto w w L L Z (fun b=>Z b\/ob.has L r b):=by
 refine ⟨(h.kill r).Nx _ fun b hb=>⟨h.eY hr hb,f8 h hr hb⟩,?_⟩;exact ⟨rfl,rfl,rfl,Nat.le_refl _,fun _ _ _=>rfl,fun _ h=> .inl (pR h),fun _ h=> .inl h,fun b hb=>hb.imp id fun e=> .inr ⟨r,ob,hr,e⟩,fun _ _=>rfl,fun _ _ h=>vW h⟩
def eM (L:Loc) (r:Id) (b:Option Nat) (N:Nat->Prop):Loc:=⟨fun q=>if q=r then b else L q,fun q=>if q=r then N else L.nest q⟩
def upd (L:Loc) (r:Id) (b:Option Nat):Loc:=eM L r b fun _=>False
theorem Ba (L:Loc) (r:Id) (b:Option Nat):upd L r b r=b:=by simp [upd,eM]
theorem ck (L:Loc) (r:Id) (b:Option Nat) (N:Nat->Prop):eM L r b N r=b:=by simp [eM]
theorem iY (L:Loc) (r:Id) (b:Option Nat) (N:Nat->Prop):(eM L r b N).nest r=N:=by simp [eM]
theorem qY (L:Loc) {r q:Id} (b:Option Nat) (N:Nat->Prop) (h:q≠r):eM L r b N q=L q:=by simp [eM,h]
theorem mO (L:Loc) {r q:Id} (b:Option Nat) (N:Nat->Prop) (h:q≠r):(eM L r b N).nest q=L.nest q:=by simp [eM,h]
theorem ic (L:Loc) {r q:Id} (b:Option Nat) (N:Nat->Prop) (h:q≠r) (o:Obj) (k:Nat):o.has (eM L r b N) q k↔o.has L q k:=by
 unfold Obj.has;rw [qY L b N h,mO L b N h]
theorem RS.Et {s0 s s':St} {a:Act} {w w':World} {L:Loc} {Z:Nat->Prop} {np t:Nat} {ob:Obj} {nb:Option Nat} {N:Nat->Prop}
  (h:RS s a w L Z) (t0:Tr np s0.sto s.sto w w L L Z Z) (hl:s.lay t [some ob]=some s') (ht:t<np)
  (hos:w'.os=w.os) (htape:w'.tape=w.tape) (hout:w'.output=w.output) (hsize:w.heap.size<=w'.heap.size)
  (hkeep:∀b,b<w.heap.size->some b≠nb->w'.heap[b]? =w.heap[b]?)
  (hnb:∀b,nb=some b->¬Z b/\¬aW s.sto L b/\b<w'.heap.size/\(w.heap.size<=b\/aW s0.sto L b))
  (hN:∀b,ob.deep=true->N b->¬Z b/\¬aW s.sto L b/\b<w'.heap.size/\(w.heap.size<=b\/aW s0.sto L b))
  (hob:RO (aF w' Z (eM L (t,0) nb N) s'.sto) (t,0) ob):
  RS s' a w' (eM L (t,0) nb N) Z/\Tr np s0.sto s'.sto w w' L (eM L (t,0) nb N) Z Z/\s'.env=s.env/\
   ∀q,(s.sto.get q).isSome->Same (aF w Z L s.sto) (aF w' Z (eM L (t,0) nb N) s'.sto) q:=by
 have hlay:s.sto.lay t [some ob]=some s'.sto/\s'.env=s.env:=by
  unfold St.lay at hl;split at hl
  ·rename_i sto e;injection hl with hl;subst hl;exact ⟨e,rfl⟩
  ·cases hl
 obtain ⟨hlay,henv⟩:=hlay;have hfree:∀q:Id,q.1=t->s.sto.get q=none:=f7 hlay;have hget:∀q:Id,s'.sto.get q=if q.1=t then (match [some ob][q.2]? with | some o=>o | none=>none)else s.sto.get q:=dw hlay
 have hold:∀q,(s.sto.get q).isSome->q.1≠t:=fun q hq e=>by rw [hfree q e]at hq;cases hq
 have hzle:jA w w' Z Z:=fun b hb=>⟨hb,hkeep b (h.dis b hb).1 fun e=>(hnb b e.symm).1 hb⟩
 have hne:∀q:Id,q.1≠t->q≠(t,0):=fun q hq e=>hq (by rw [e])
 have hLold:∀q:Id,q.1≠t->eM L (t,0) nb N q=L q:=fun q hq=>qY L nb N (hne q hq)
 have hblk:∀q o b,s.sto.get q=some o->o.has L q b->w'.heap[b]? =w.heap[b]? :=fun q o b hq hb=>
  hkeep b (h.eY hq hb) fun e=>(hnb b e.symm).2.1 ⟨q,o,hq,hb⟩
 have hsame:∀q,(s.sto.get q).isSome->Same (aF w Z L s.sto) (aF w' Z (eM L (t,0) nb N) s'.sto) q:=fun q hq=>by
  refine ⟨hLold q (hold q hq),fun k=> ?_,fun sz xs k=>⟨xs,?_,rfl⟩,fun b hb hs=> ?_⟩
  ·show (s'.sto.get q).isSome;rw [hget,if_neg (hold q hq)];exact k
  ·show (s'.sto.get q).bind Obj.rw=_;rw [hget,if_neg (hold q hq)];exact k
  ·obtain ⟨o,ho⟩:=Option.isSome_iff_exists.1 hq;exact dh (hblk q o b ho (.inl hb))
 have hnew:∀q ob',s'.sto.get q=some ob'->(q=(t,0)/\ob'=ob)\/(q.1≠t/\s.sto.get q=some ob'):=fun q ob' hq=>by
  rw [hget]at hq;by_cases e:q.1=t
  ·simp only [e,if_true]at hq;cases hq2:q.2 with
   | zero=>
    simp [hq2]at hq;exact .inl ⟨Prod.ext e hq2,hq.symm⟩
   | succ n=>simp [hq2]at hq
  ·simp only [e,if_false]at hq;exact .inr ⟨e,hq⟩
 have hnh:∀b,ob.has (eM L (t,0) nb N) (t,0) b->¬Z b/\¬aW s.sto L b/\b<w'.heap.size/\(w.heap.size<=b\/aW s0.sto L b):=fun b hb=>by
  rcases hb with hb | ⟨h1,hb⟩
  ·rw [ck]at hb;exact hnb b hb
  ·rw [iY]at hb;exact hN b h1 hb
 have hlives:∀b,aW s'.sto (eM L (t,0) nb N) b->ob.has (eM L (t,0) nb N) (t,0) b\/aW s.sto L b:=fun b hb=>by
  obtain ⟨q,ob',h1,h2⟩:=hb;rcases hnew q ob' h1 with ⟨rfl,rfl⟩ | ⟨h3,h4⟩
  ·exact .inl h2
  ·exact .inr ⟨q,ob',h4,(ic L nb N (hne q h3) ob' b).1 h2⟩
 refine ⟨⟨h.defers,?_,?_,?_,?_⟩,⟨hos.trans t0.os,htape.trans t0.tape,hout.trans t0.output,hsize,?_,?_,fun b hb=>hb,fun b hb=> .inl hb,?_,fun q hq hs=> ?_⟩,henv,hsame⟩
 ·rw [henv];exact ct (c:=aF w Z L s.sto) hzle _ _ (fun q hq=>hsame q (dF _ _ h.env q hq)) h.env
 ·intro q ob' hq;rcases hnew q ob' hq with ⟨rfl,rfl⟩ | ⟨h3,h4⟩
  ·exact hob
  ·refine iJ (c:=aF w Z L s.sto) hzle (hLold q h3) (mO L nb N (hne q h3)) (fun b hb=>hblk q ob' b h4 hb) (fun k hk=> ?_) (h.obj q ob' h4);exact hsame k (jK (h.obj q ob' h4) k hk)
 ·intro q q' b o o' ho ho' hb hb';rcases hnew q o ho with ⟨rfl,rfl⟩ | ⟨h3,h4⟩<;>rcases hnew q' o' ho' with ⟨rfl,rfl⟩ | ⟨h5,h6⟩
  ·rfl
  ·exact ((hnh b hb).2.1 ⟨q',o',h6,(ic L nb N (hne q' h5) o' b).1 hb'⟩).elim
  ·exact ((hnh b hb').2.1 ⟨q,o,h4,(ic L nb N (hne q h3) o b).1 hb⟩).elim
  ·exact h.injH q q' b o o' h4 h6 ((ic L nb N (hne q h3) o b).1 hb) ((ic L nb N (hne q' h5) o' b).1 hb')
 ·intro b hb;refine ⟨Nat.lt_of_lt_of_le (h.dis b hb).1 hsize,fun hl=> ?_⟩;rcases hlives b hl with e | e
  ·exact (hnh b e).1 hb
  ·exact (h.dis b hb).2 e
 ·intro b hb hn;have h1:¬aW s.sto L b:=fun hl=>by
   rcases t0.lives b hl with h2 | h2
   ·exact hn h2
   ·omega
  refine hkeep b hb fun e=> ?_
  rcases (hnb b e.symm).2.2.2 with h2 | h2
  ·omega
  ·exact hn h2
 ·intro b hb;rcases hlives b hb with e | e
  ·rcases (hnh b e).2.2.2 with h2 | h2
   ·exact .inr h2
   ·exact .inl h2
  ·exact t0.lives b e
 ·intro r hr;exact hLold r (by intro e;rw [e]at hr;omega)
 ·obtain ⟨o,ho⟩:=Option.isSome_iff_exists.1 hs;rcases hnew q o ho with ⟨e,_⟩ | ⟨h3,h4⟩
  ·rw [e]at hq;exact absurd ht (Nat.not_lt.2 hq)
  ·obtain ⟨p1,p2⟩:=t0.psame q hq (by simp [h4]);exact ⟨p1,p2.trans (hsame q (by simp [h4]))⟩
theorem RS.lay {s0 s s':St} {a:Act} {w w':World} {L:Loc} {Z:Nat->Prop} {np t:Nat} {ob:Obj} {nb:Option Nat}
  (h:RS s a w L Z) (t0:Tr np s0.sto s.sto w w L L Z Z) (hl:s.lay t [some ob]=some s') (ht:t<np)
  (hos:w'.os=w.os) (htape:w'.tape=w.tape) (hout:w'.output=w.output) (hsize:w.heap.size<=w'.heap.size)
  (hkeep:∀b,b<w.heap.size->some b≠nb->w'.heap[b]? =w.heap[b]?)
  (hnb:∀b,nb=some b->¬Z b/\¬aW s.sto L b/\b<w'.heap.size/\(w.heap.size<=b\/aW s0.sto L b))
  (hob:RO (aF w' Z (upd L (t,0) nb) s'.sto) (t,0) ob):
  RS s' a w' (upd L (t,0) nb) Z/\Tr np s0.sto s'.sto w w' L (upd L (t,0) nb) Z Z/\s'.env=s.env/\
   ∀q,(s.sto.get q).isSome->Same (aF w Z L s.sto) (aF w' Z (upd L (t,0) nb) s'.sto) q:=
 RS.Et h t0 hl ht hos htape hout hsize hkeep hnb (fun _ _ hb=>hb.elim) hob
theorem RS.GW {s0 s:St} {a:Act} {w w':World} {L:Loc} {Z:Nat->Prop} {r:Id} {ob ob':Obj} {b:Nat} {N:Nat->Prop} (np:Nat)
  (h:RS s a w L Z) (t0:Tr np s0.sto s.sto w w L L Z Z) (hr:s.sto.get r=some ob) (hb:L r=some b)
  (hos:w'.os=w.os) (htape:w'.tape=w.tape) (hout:w'.output=w.output) (hsize:w'.heap.size=w.heap.size)
  (hkeep:∀k,k≠b->w'.heap[k]? =w.heap[k]?) (hblk:bX w' b=bX w b)
  (hrows:∀sz xs,ob.rw=some (sz,xs)->∃ys,ob'.rw=some (sz,ys)/\ys.length=xs.length)
  (hN:∀k,ob'.has (eM L r (some b) N) r k->ob.has L r k\/(¬Z k/\¬aW s.sto L k/\k<w.heap.size/\aW s0.sto L k))
  (hob:(∀q,(s.sto.get q).isSome->Same (aF w Z L s.sto) (aF w' Z (eM L r (some b) N) (s.sto.put r (some ob'))) q)->jA w w' Z Z->RO (aF w' Z (eM L r (some b) N) (s.sto.put r (some ob'))) r ob'):
  RS ⟨s.env,s.sto.put r (some ob')⟩ a w' (eM L r (some b) N) Z/\Tr np s0.sto (s.sto.put r (some ob')) w w' L (eM L r (some b) N) Z Z:=by
 have hzle:jA w w' Z Z:=fun k hk=>⟨hk,hkeep k fun e=>(h.dis k hk).2 (e ▸ ⟨r,ob,hr,.inl hb⟩)⟩
 have hget:∀q,(s.sto.put r (some ob')).get q=if q=r then some ob' else s.sto.get q:=fun q=>by
  by_cases e:q=r
  ·subst e;rw [if_pos rfl];exact cK _ hr
  ·rw [if_neg e];exact cg _ e
 have hsome:∀q,((s.sto.put r (some ob')).get q).isSome->(s.sto.get q).isSome:=fun q hq=>by
  rw [hget]at hq;split at hq
  ·rename_i e;subst e;simp [hr]
  ·exact hq
 have hLq:∀q,eM L r (some b) N q=L q:=fun q=>by
  by_cases e:q=r
  ·subst e;rw [ck,hb]
  ·exact qY L _ N e
 have hsame:∀q,(s.sto.get q).isSome->Same (aF w Z L s.sto) (aF w' Z (eM L r (some b) N) (s.sto.put r (some ob'))) q:=fun q hq=>by
  refine ⟨hLq q,fun k=> ?_,fun sz xs k=> ?_,fun k hk _=> ?_⟩
  ·show ((s.sto.put r (some ob')).get q).isSome;rw [hget];split; · rfl
   ·exact k
  ·show∃ys,((s.sto.put r (some ob')).get q).bind Obj.rw=_/\_;rw [hget];split
   ·rename_i e;subst e;have k':(s.sto.get q).bind Obj.rw=some (sz,xs):=k;rw [hr]at k';exact hrows sz xs k'
   ·exact ⟨xs,k,rfl⟩
  ·by_cases e:k=b
   ·subst e;exact hblk
   ·exact dh (hkeep k e)
 have hfrom:∀q o k,(s.sto.put r (some ob')).get q=some o->o.has (eM L r (some b) N) q k->(∃o2,s.sto.get q=some o2/\o2.has L q k)\/(q=r/\¬Z k/\¬aW s.sto L k/\k<w.heap.size/\aW s0.sto L k):=fun q o k h1 h2=>by
  rw [hget]at h1;split at h1
  ·rename_i e;subst e;injection h1 with h1;subst h1;rcases hN k h2 with h3 | h3
   ·exact .inl ⟨ob,hr,h3⟩
   ·exact .inr ⟨rfl,h3⟩
  ·rename_i e;exact .inl ⟨o,h1,(ic L _ N e o k).1 h2⟩
 have hlives:∀k,aW (s.sto.put r (some ob')) (eM L r (some b) N) k->aW s.sto L k\/(¬Z k/\aW s0.sto L k):=fun k hk=>by
  obtain ⟨q,o,h1,h2⟩:=hk;rcases hfrom q o k h1 h2 with ⟨o2,m1,m2⟩ | ⟨_,m1,_,_,m2⟩
  ·exact .inl ⟨q,o2,m1,m2⟩
  ·exact .inr ⟨m1,m2⟩
 refine ⟨⟨h.defers,?_,?_,?_,?_⟩,⟨hos.trans t0.os,htape.trans t0.tape,hout.trans t0.output,Nat.le_of_eq hsize.symm,?_,?_,fun _ h=>h,fun _ h=> .inl h,fun q _=>hLq q,fun q hq hs=> ?_⟩⟩
 ·exact ct (c:=aF w Z L s.sto) hzle _ _ (fun q hq=>hsame q (dF _ _ h.env q hq)) h.env
 ·intro q o hq;rw [hget]at hq;split at hq
  ·rename_i e;subst e;injection hq with hq;subst hq;exact hob hsame hzle
  ·rename_i e;refine iJ (c:=aF w Z L s.sto) hzle (hLq q) (mO L _ N e) (fun k hk=>hkeep k fun e2=>e (h.injH q r b o ob hq hr (e2 ▸ hk) (.inl hb))) (fun k hk=> ?_) (h.obj q o hq);exact hsame k (jK (h.obj q o hq) k hk)
 ·intro q q' k o o' hq hq' hk hk';rcases hfrom q o k hq hk with ⟨o2,m1,m2⟩ | ⟨e1,_,m2,_,_⟩<;>rcases hfrom q' o' k hq' hk' with ⟨o3,m3,m4⟩ | ⟨e2,_,m4,_,_⟩
  ·exact h.injH q q' k o2 o3 m1 m3 m2 m4
  ·exact (m4 ⟨q,o2,m1,m2⟩).elim
  ·exact (m2 ⟨q',o3,m3,m4⟩).elim
  ·rw [e1,e2]
 ·intro k hk;refine ⟨by rw [hsize];exact (h.dis k hk).1,fun hl=> ?_⟩;rcases hlives k hl with m | ⟨m,_⟩
  ·exact (h.dis k hk).2 m
  ·exact m hk
 ·intro k hk hn;exact hkeep k fun e=>by
   rcases t0.lives b ⟨r,ob,hr,.inl hb⟩with m | m
   ·exact hn (e ▸ m)
   ·omega
 ·intro k hk;rcases hlives k hk with m | ⟨_,m⟩
  ·exact t0.lives k m
  ·exact .inl m
 ·obtain ⟨p1,p2⟩:=t0.psame q hq (hsome q hs);exact ⟨p1,p2.trans (hsame q (hsome q hs))⟩
theorem zn {L:Loc} {r:Id} {b:Nat} (hb:L r=some b):eM L r (some b) (L.nest r)=L:=by
 unfold eM;have e1:(fun q=>if q=r then some b else L q)=L.main:=by
  funext q;by_cases e:q=r
  ·subst e;simp [hb]
  ·simp [e]
 have e2:(fun q=>if q=r then L.nest r else L.nest q)=L.nest:=by
  funext q;by_cases e:q=r
  ·subst e;simp
  ·simp [e]
 rw [e1,e2]
theorem RS.write {s:St} {a:Act} {w w':World} {L:Loc} {Z:Nat->Prop} {r:Id} {ob ob':Obj} {b:Nat} (np:Nat)
  (h:RS s a w L Z) (hr:s.sto.get r=some ob) (hb:L r=some b)
  (hos:w'.os=w.os) (htape:w'.tape=w.tape) (hout:w'.output=w.output) (hsize:w'.heap.size=w.heap.size)
  (hkeep:∀k,k≠b->w'.heap[k]? =w.heap[k]?) (hblk:bX w' b=bX w b)
  (hrows:∀sz xs,ob.rw=some (sz,xs)->∃ys,ob'.rw=some (sz,ys)/\ys.length=xs.length) (hdeep:ob'.deep=true->ob.deep=true)
  (hob:(∀q,(s.sto.get q).isSome->Same (aF w Z L s.sto) (aF w' Z L (s.sto.put r (some ob'))) q)->jA w w' Z Z->RO (aF w' Z L (s.sto.put r (some ob'))) r ob'):
  RS ⟨s.env,s.sto.put r (some ob')⟩ a w' L Z/\Tr np s.sto (s.sto.put r (some ob')) w w' L L Z Z:=by
 have:=RS.GW (s0:=s) (N:=L.nest r) np h (Tr.refl _ _ _ _ _) hr hb hos htape hout hsize hkeep hblk hrows (by rw [zn hb];exact fun k hk=> .inl (hk.imp id fun m=>⟨hdeep m.1,m.2⟩)) (by rw [zn hb];exact hob);rw [zn hb]at this;exact this
end Go.Vi
