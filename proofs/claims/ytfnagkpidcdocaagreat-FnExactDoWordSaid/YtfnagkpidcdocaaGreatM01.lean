import Derived.Test.YtfnagkpidcdocaaGreatM00
import Derived.Calls
import Derived.Below
set_option linter.all false
namespace Go.Vi
open Go Go.RowKit
def b_ (w:World) (b:Nat):Nat:=match w.heap[b]? with | some (.cells c _ _)=>c.size | _=>0
mutual
def RD (w:World) (Z:Nat->Prop):D->List Value->Prop
 | .int k n,cs=>cs=[.int k n]
 | .bool b,cs=>cs=[.bool b]
 | .str s,cs=>cs=[.string s]
 | .agg ds,cs=>fL w Z ds cs
 | .lst xs,cs=>∃a c,cs=[.slice a xs.length c]/\xs.length<=c/\(xs=[]\/∃b o sz,a=some ⟨b,o,none⟩/\Z b/\Rows w Z xs b o sz)
 | .own _ _,cs=>∃a n c,cs=[.slice a n c]
def fL (w:World) (Z:Nat->Prop):List D->List Value->Prop
 | [],cs=>cs=[]
 | d::ds,cs=>∃v cs',cs=v::cs'/\RD w Z d [v]/\fL w Z ds cs'
def Rows (w:World) (Z:Nat->Prop):List D->Nat->Nat->Nat->Prop
 | [],_,_,_=>True
 | x::xs,b,o,sz=>(∃cs,cs.length=sz/\RD w Z x cs/\∀j v,cs[j]? =some v->w.cell? ⟨b,o+j,none⟩=some v)/\Rows w Z xs b (o+sz) sz
end
mutual
def OC (w:World) (Z:Nat->Prop):D->Value->List Nat->Prop
 | .own sz xs,v,F=>∃a c,(v= .slice a xs.length c/\c<=maxLen)/\((c=0/\xs=[]/\F=[])\/
  ∃b vs F',a=some ⟨b,0,none⟩/\F=b::F'/\w.heap[b]? =some (.cells vs sz.1 (0,0))/\c*sz.2=vs.size/\0<sz.2/\xs.length*sz.2<=vs.size/\jo w Z sz.2 xs vs.toList F')
 | .agg _,_,_=>False
 | .int k n,v,F=>RD w Z (.int k n) [v]/\F=[]
 | .bool b,v,F=>RD w Z (.bool b) [v]/\F=[]
 | .str s,v,F=>RD w Z (.str s) [v]/\F=[]
 | .lst xs,v,F=>RD w Z (.lst xs) [v]/\F=[]
def nE (w:World) (Z:Nat->Prop):List D->List Value->List Nat->Prop
 | [],vs,F=>vs=[]/\F=[]
 | d::ds,vs,F=>∃v vs' F1 F2,vs=v::vs'/\F=F1++F2/\OC w Z d v F1/\nE w Z ds vs' F2
def OE (w:World) (Z:Nat->Prop):D->List Value->List Nat->Prop
 | .agg ds,vs,F=>nE w Z ds vs F
 | .own sz xs,vs,F=>∃v,vs=[v]/\OC w Z (.own sz xs) v F
 | .int k n,vs,F=>RD w Z (.int k n) vs/\F=[]
 | .bool b,vs,F=>RD w Z (.bool b) vs/\F=[]
 | .str s,vs,F=>RD w Z (.str s) vs/\F=[]
 | .lst xs,vs,F=>RD w Z (.lst xs) vs/\F=[]
def jo (w:World) (Z:Nat->Prop) (n:Nat):List D->List Value->List Nat->Prop
 | [],_,F=>F=[]
 | x::xs,vs,F=>∃F1 F2,n<=vs.length/\F=F1++F2/\OE w Z x (vs.take n) F1/\jo w Z n xs (vs.drop n) F2
end
def br (g:Option (Int×Int)):Nat:=match g with | none=>0 | some (x,_)=>x.toNat
structure Loc where
 main:Id->Option Nat
 nest:Id->Nat->Prop
instance:CoeFun Loc λ_=>Id->Option Nat:=⟨Loc.main⟩
def Loc.none:Loc:=⟨λ_=>Option.none,λ_ _=>False⟩
structure Cx where
 w:World
 Z:Nat->Prop
 L:Loc
 obj:Id->Option Obj
mutual
def RV (c:Cx):AV->Value->Prop
 | .undef,_=>True
 | .bare,v=>v=Go.undef
 | .d x,v=>RD c.w c.Z x [v]
 | .agg as,v=>∃vs:List Value,v= .agg vs.toArray/\dH c as vs
 | .tup as,v=>∃vs:List Value,v= .tuple vs.toArray/\dH c as vs
 | .nilp,v=>v= .pointer none
 | .emp,v=>∃a,v= .slice a 0 0
 | .ptr r off,v=>∃b,(c.obj r).isSome/\c.L r=some b/\v= .pointer (some ⟨b,off,none⟩)
 | .prow r sz i off,v=>∃b,(c.obj r).isSome/\c.L r=some b/\0<=i/\v= .pointer (some ⟨b,i.toNat*sz.2+off,none⟩)
 | .sp cs off,v=>∃b o vs,v= .pointer (some ⟨b,o+off,none⟩)/\c.Z b/\fL c.w c.Z cs vs/\∀j u,vs[j]? =some u->c.w.cell? ⟨b,o+j,none⟩=some u
 | .arr r sz g full,v=>∃a n cap xs,v= .slice a n cap/\(n<=cap/\cap<=maxLen)/\(full=true->cap=n)/\(c.obj r).bind Obj.rw=some (sz,xs)/\(g=none->n=xs.length)/\
  (∀x m,g=some (x,m)->0<=x/\m=n/\x.toNat+n<=xs.length)/\
  (c.L r=none->cap=0)/\
  ∀b,c.L r=some b->(cap=0/\br g≠0)\/(a=some ⟨b,br g*sz.2,none⟩/\(br g+cap)*sz.2=b_ c.w b)
 | .fn f as,v=>∃vs:List Value,v= .func (.func (zh f)) #[] vs.toArray/\dH c as vs
def dH (c:Cx):List AV->List Value->Prop
 | [],vs=>vs=[]
 | a::as,vs=>∃v vs',vs=v::vs'/\RV c a v/\dH c as vs'
end
def RO (c:Cx) (r:Id):Obj->Prop
 | .box as=>∃b vs ty,c.L r=some b/\c.w.heap[b]? =some (.cells vs ty (0,0))/\dH c as vs.toList
 | .rows sz xs=>(c.L r=none->xs=[])/\∀b,c.L r=some b->∃vs,c.w.heap[b]? =some (.cells vs sz.1 (0,0))/\xs.length*sz.2<=vs.size/\Rows c.w c.Z xs b 0 sz.2
 | .orows sz xs=>(c.L r=none->xs=[]/\∀k,¬c.L.nest r k)/\∀b,c.L r=some b->∃vs F,c.w.heap[b]? =some (.cells vs sz.1 (0,0))/\xs.length*sz.2<=vs.size/\jo c.w c.Z sz.2 xs vs.toList F/\(b::F).Nodup/\∀k,c.L.nest r k↔k∈F
 | .hrows sz xs i off q e=>∃b vs pre J post j A2 E I v,c.L r=some b/\c.w.heap[b]? =some (.cells vs sz.1 (0,0))/\xs.length*sz.2<=vs.size/\0<=i/\xs[i.toNat]? =some (.agg (pre++ .own e J::post))/\
  pre.length=off/\pre.length+1+post.length=sz.2/\jo c.w c.Z sz.2 (xs.take i.toNat) vs.toList j/\nE c.w c.Z pre ((vs.toList.drop (i.toNat*sz.2)).take off) A2/\
  nE c.w c.Z post ((vs.toList.drop (i.toNat*sz.2+off+1)).take (sz.2-(off+1))) E/\jo c.w c.Z sz.2 (xs.drop (i.toNat+1)) (vs.toList.drop ((i.toNat+1)*sz.2)) I/\
  vs[i.toNat*sz.2+off]? =some v/\RV c (.arr q e none false) v/\0<e.2/\(b::(j++A2++E++I)).Nodup/\∀k,c.L.nest r k↔k∈j++A2++E++I
 | .gone sz xs=>(c.L r=none->xs=[])/\∀b,c.L r=some b->∃vs,c.w.heap[b]? =some (.cells vs sz.1 (0,0))/\xs.length*sz.2<=vs.size
theorem tq {w w':World} {b o:Nat} (h:w'.heap[b]? =w.heap[b]?):w'.cell? ⟨b,o,none⟩=w.cell? ⟨b,o,none⟩:=by
 simp[World.cell?,h]
theorem dP {w w':World} {b:Nat} (h:w'.heap[b]? =w.heap[b]?):b_ w' b=b_ w b:=by
 simp[b_,h]
def ko (w w':World) (Z Z':Nat->Prop):Prop:=∀b,Z b->Z' b/\w'.heap[b]? =w.heap[b]?
theorem ko.refl (w:World) (Z:Nat->Prop):ko w w Z Z:=λ_ h=>⟨h,rfl⟩
theorem ko.trans {a b c:World} {X Y Z:Nat->Prop} (h:ko a b X Y) (k:ko b c Y Z):ko a c X Z:=
 λi hi=>⟨(k i (h i hi).1).1,(k i (h i hi).1).2.trans (h i hi).2⟩
mutual
theorem dx {w w':World} {Z Z':Nat->Prop} (e:ko w w' Z Z'):∀(x:D) (cs:List Value),RD w Z x cs->RD w' Z' x cs
 | .int k n,cs,h=>by simpa only [RD]using h
 | .bool b,cs,h=>by simpa only [RD]using h
 | .str s,cs,h=>by simpa only [RD]using h
 | .agg ds,cs,h=>by
  simp only[RD]at h |-;exact pZ e ds cs h
 | .lst xs,cs,h=>by
  simp only[RD]at h |-;obtain ⟨a,c,E,I,h3⟩:=h;refine ⟨a,c,E,I,?_⟩;rcases h3 with h3 | ⟨b,o,sz,h4,j,J⟩
  ·exact .inl h3
  exact .inr ⟨b,o,sz,h4,(e b j).1,nF e (e b j).2 xs o sz J⟩
 | .own sz xs,cs,h=>by simpa only [RD]using h
theorem pZ {w w':World} {Z Z':Nat->Prop} (e:ko w w' Z Z'):∀(xs:List D) (cs:List Value),fL w Z xs cs->fL w' Z' xs cs
 | [],cs,h=>by simpa only [fL]using h
 | x::xs,cs,h=>by
  simp only[fL]at h |-;obtain ⟨v,cs',j,E,h3⟩:=h;exact ⟨v,cs',j,dx e x _ E,pZ e xs _ h3⟩
theorem nF {w w':World} {Z Z':Nat->Prop} (e:ko w w' Z Z') {b:Nat} (E:w'.heap[b]? =w.heap[b]?):∀(xs:List D) (o sz:Nat),Rows w Z xs b o sz->Rows w' Z' xs b o sz
 | [],o,sz,h=>by simp only[Rows]
 | x::xs,o,sz,h=>by
  simp only[Rows]at h |-;obtain ⟨⟨cs,I,J,h3⟩,h4⟩:=h;exact ⟨⟨cs,I,dx e x _ J,λj v M=>(tq E).trans (h3 j v M)⟩,nF e E xs _ sz h4⟩
end
theorem BV {w:World} {Z:Nat->Prop} {x:D} {cs:List Value} (h:RD w Z x cs):cs.length=x.cells.length:=by
 have key:∀(ds:List D) (cs:List Value),fL w Z ds cs->cs.length=ds.length:=by
  intro ds;induction ds with
  | nil=>intro cs h;simp only[fL]at h;simp[h]
  | cons d ds e=>
   intro cs h;simp only[fL]at h;obtain ⟨v,cs',rfl,_,h3⟩:=h;simp[e _ h3]
 cases x with
 | agg ds=>simp only[RD]at h;simpa [D.cells]using key ds cs h
 | lst xs=>simp only[RD]at h;obtain ⟨a,c,rfl,_⟩:=h;rfl
 | own sz xs=>simp only[RD]at h;obtain ⟨a,n,c,rfl⟩:=h;rfl
 | _=>simp only[RD]at h;subst h;rfl
theorem tr {w:World} {Z:Nat->Prop} {x:D} {cs:List Value} (h:RD w Z x cs):fL w Z x.cells cs:=by
 cases x with
 | agg ds=>simpa only [RD,D.cells]using h
 | lst xs=>have h':=h;simp only[RD]at h;obtain ⟨a,c,rfl,_⟩:=h;simp only[D.cells,fL];exact ⟨_,_,rfl,h',rfl⟩
 | own sz xs=>have h':=h;simp only[RD]at h;obtain ⟨a,n,c,rfl⟩:=h;simp only[D.cells,fL];exact ⟨_,_,rfl,h',rfl⟩
 | _=>have h':=h;simp only[RD]at h;subst h;simp only[D.cells,fL];exact ⟨_,_,rfl,h',rfl⟩
theorem dA {w:World} {Z:Nat->Prop}:∀{ds:List D} {cs:List Value},fL w Z ds cs↔ds.length=cs.length/\∀(i:Nat) (d:D) (v:Value),ds[i]? =some d->cs[i]? =some v->RD w Z d [v]
 | [],cs=>by
  simp only[fL];constructor
  ·rintro rfl;simp
  rintro ⟨h,_⟩;exact List.length_eq_zero_iff.1 h.symm
 | d::ds,cs=>by
  simp only[fL];constructor
  ·rintro ⟨v,cs',rfl,E,I⟩;obtain ⟨h3,h4⟩:=dA.1 I;refine ⟨by simp[h3],?_⟩;intro i d' v' e j;cases i with
   | zero=>simp at e j;subst e j;exact E
   | succ i=>simp at e j;exact h4 i d' v' e j
  rintro ⟨E,I⟩;cases cs with
  | nil=>simp at E
  | cons v cs'=>exact ⟨v,cs',rfl,I 0 d v rfl rfl,dA.2 ⟨by simpa using E,λi d' v' e j=>I (i+1) d' v' (by simpa using e) (by simpa using j)⟩⟩
theorem bJ {c:Cx}:∀{as:List AV} {vs:List Value},dH c as vs↔as.length=vs.length/\∀(i:Nat) (a:AV) (v:Value),as[i]? =some a->vs[i]? =some v->RV c a v
 | [],vs=>by
  simp only[dH];constructor
  ·rintro rfl;simp
  rintro ⟨h,_⟩;exact List.length_eq_zero_iff.1 h.symm
 | d::ds,cs=>by
  simp only[dH];constructor
  ·rintro ⟨v,cs',rfl,E,I⟩;obtain ⟨h3,h4⟩:=bJ.1 I;refine ⟨by simp[h3],?_⟩;intro i d' v' e j;cases i with
   | zero=>simp at e j;subst e j;exact E
   | succ i=>simp at e j;exact h4 i d' v' e j
  rintro ⟨E,I⟩;cases cs with
  | nil=>simp at E
  | cons v cs'=>exact ⟨v,cs',rfl,I 0 d v rfl rfl,bJ.2 ⟨by simpa using E,λi d' v' e j=>I (i+1) d' v' (by simpa using e) (by simpa using j)⟩⟩
theorem fI {w:World} {Z:Nat->Prop} {b sz:Nat}:∀{xs:List D} {o:Nat},Rows w Z xs b o sz↔
  ∀(i:Nat) (x:D),xs[i]? =some x->∃cs,cs.length=sz/\RD w Z x cs/\∀j v,cs[j]? =some v->w.cell? ⟨b,o+i*sz+j,none⟩=some v
 | [],o=>by simp[Rows]
 | x::xs,o=>by
  simp only[Rows];constructor
  ·rintro ⟨J,M⟩ i y e;cases i with
   | zero=>simp at e;subst e;simpa using J
   | succ i=>
    simp at e;obtain ⟨cs,h3,h4,E⟩:=fI.1 M i y e;refine ⟨cs,h3,h4,λj v I=> ?_⟩;rw[show o+(i+1)*sz+j=o+sz+i*sz+j by rw[Nat.succ_mul];omega];exact E j v I
  intro h;refine ⟨by simpa using h 0 x rfl,fI.2 λi y e=> ?_⟩;obtain ⟨cs,h3,h4,E⟩:=h (i+1) y (by simpa using e);refine ⟨cs,h3,h4,λj v I=> ?_⟩;rw[show o+sz+i*sz+j=o+(i+1)*sz+j by rw[Nat.succ_mul];omega];exact E j v I
def Same (c c':Cx) (r:Id):Prop:=
 c'.L r=c.L r/\((c.obj r).isSome->(c'.obj r).isSome)/\(∀sz xs,(c.obj r).bind Obj.rw=some (sz,xs)->∃ys,(c'.obj r).bind Obj.rw=some (sz,ys)/\ys.length=xs.length)/\
 ∀b,c.L r=some b->(c.obj r).isSome->b_ c'.w b=b_ c.w b
mutual
theorem jU {c c':Cx} (M:ko c.w c'.w c.Z c'.Z):∀(a:AV) (v:Value),(∀r∈a.refs,Same c c' r)->RV c a v->RV c' a v
 | .undef,v,_,h=>by simp only[RV]
 | .bare,v,_,h=>by simpa only [RV]using h
 | .d x,v,_,h=>by simp only[RV]at h |-;exact dx M x _ h
 | .agg as,v,J,h=>by
  simp only[RV]at h |-;obtain ⟨vs,I,E⟩:=h;exact ⟨vs,I,cO M as vs (by simpa [AV.refs]using J) E⟩
 | .tup as,v,J,h=>by
  simp only[RV]at h |-;obtain ⟨vs,I,E⟩:=h;exact ⟨vs,I,cO M as vs (by simpa [AV.refs]using J) E⟩
 | .nilp,v,_,h=>by simpa only [RV]using h
 | .emp,v,_,h=>by simpa only [RV]using h
 | .ptr r off,v,J,h=>by
  simp only[RV]at h |-;obtain ⟨b,I,E,h3⟩:=h;obtain ⟨O,k2,_,_⟩:=J r (by simp[AV.refs]);exact ⟨b,k2 I,O.trans E,h3⟩
 | .prow r sz i off,v,J,h=>by
  simp only[RV]at h |-;obtain ⟨b,I,E,h3⟩:=h;obtain ⟨O,k2,_,_⟩:=J r (by simp[AV.refs]);exact ⟨b,k2 I,O.trans E,h3⟩
 | .sp cs off,v,_,h=>by
  simp only[RV]at h |-;obtain ⟨b,o,vs,I,E,h3,h4⟩:=h;exact ⟨b,o,vs,I,(M b E).1,pZ M cs vs h3,λj u U=>(tq (M b E).2).trans (h4 j u U)⟩
 | .arr r sz g full,v,J,h=>by
  simp only[RV]at h |-;obtain ⟨a,n,cap,xs,I,E,h3,h4,V,h6,h7,h8⟩:=h;obtain ⟨O,_,k3,k4⟩:=J r (by simp[AV.refs]);obtain ⟨ys,k5,S⟩:=k3 sz xs h4;refine ⟨a,n,cap,ys,I,E,h3,k5,λe=>by rw[S];exact V e,λx m e=>by rw[S];exact h6 x m e,λe=>h7 (O ▸ e),λb e=> ?_⟩;have e':=O ▸ e;rcases h8 b e' with m | ⟨m1,m2⟩
  ·exact .inl m
  exact .inr ⟨m1,by rw[k4 b e' (by cases ho:c.obj r with | none=>simp[ho]at h4 | some _=>rfl)];exact m2⟩
 | .fn f as,v,J,h=>by
  simp only[RV]at h |-;obtain ⟨vs,I,E⟩:=h;exact ⟨vs,I,cO M as vs (by simpa [AV.refs]using J) E⟩
theorem cO {c c':Cx} (j:ko c.w c'.w c.Z c'.Z):∀(as:List AV) (vs:List Value),(∀r∈AV.bR as,Same c c' r)->dH c as vs->dH c' as vs
 | [],vs,_,h=>by simpa only [dH]using h
 | a::as,vs,E,h=>by
  simp only[dH]at h |-;obtain ⟨v,vs',I,J,h3⟩:=h;exact ⟨v,vs',I,jU j a v (λr e=>E r (by simp[AV.bR,e])) J,cO j as vs' (λr e=>E r (by simp[AV.bR,e])) h3⟩
end
mutual
theorem Gh {w w':World} {Z Z':Nat->Prop} (e:ko w w' Z Z'):∀(x:D) (v:Value) (F:List Nat),(∀k∈F,w'.heap[k]? =w.heap[k]?)->OC w Z x v F->OC w' Z' x v F
 | .own sz xs,v,F,hf,h=>by
  simp only[OC]at h |-;obtain ⟨a,c,j,E⟩:=h;refine ⟨a,c,j,E.imp id ?_⟩;rintro ⟨b,vs,F',I,rfl,J,M,O,S,U⟩;exact ⟨b,vs,F',I,rfl,(hf b (by simp)).trans J,M,O,S,gV e sz.2 xs vs.toList F' (λk hk=>hf k (by simp[hk])) U⟩
 | .agg _,_,_,_,h=>by simp[OC]at h
 | .int k n,v,F,_,h=>by simp only[OC]at h |-;exact ⟨dx e _ _ h.1,h.2⟩
 | .bool b,v,F,_,h=>by simp only[OC]at h |-;exact ⟨dx e _ _ h.1,h.2⟩
 | .str s,v,F,_,h=>by simp only[OC]at h |-;exact ⟨dx e _ _ h.1,h.2⟩
 | .lst xs,v,F,_,h=>by simp only[OC]at h |-;exact ⟨dx e _ _ h.1,h.2⟩
theorem j7 {w w':World} {Z Z':Nat->Prop} (e:ko w w' Z Z'):∀(xs:List D) (vs:List Value) (F:List Nat),(∀k∈F,w'.heap[k]? =w.heap[k]?)->nE w Z xs vs F->nE w' Z' xs vs F
 | [],vs,F,_,h=>by simpa only [nE]using h
 | d::ds,vs,F,hf,h=>by
  simp only[nE]at h |-;obtain ⟨v,vs',F1,F2,j,rfl,E,h3⟩:=h;exact ⟨v,vs',F1,F2,j,rfl,Gh e d v F1 (λk hk=>hf k (by simp[hk])) E,j7 e ds vs' F2 (λk hk=>hf k (by simp[hk])) h3⟩
theorem Mj {w w':World} {Z Z':Nat->Prop} (e:ko w w' Z Z'):∀(x:D) (vs:List Value) (F:List Nat),(∀k∈F,w'.heap[k]? =w.heap[k]?)->OE w Z x vs F->OE w' Z' x vs F
 | .agg ds,vs,F,hf,h=>by simp only[OE]at h |-;exact j7 e ds vs F hf h
 | .own sz xs,vs,F,hf,h=>by
  simp only[OE]at h |-;obtain ⟨v,j,E⟩:=h;exact ⟨v,j,Gh e (.own sz xs) v F hf E⟩
 | .int k n,vs,F,_,h=>by simp only[OE]at h |-;exact ⟨dx e _ _ h.1,h.2⟩
 | .bool b,vs,F,_,h=>by simp only[OE]at h |-;exact ⟨dx e _ _ h.1,h.2⟩
 | .str s,vs,F,_,h=>by simp only[OE]at h |-;exact ⟨dx e _ _ h.1,h.2⟩
 | .lst xs,vs,F,_,h=>by simp only[OE]at h |-;exact ⟨dx e _ _ h.1,h.2⟩
theorem gV {w w':World} {Z Z':Nat->Prop} (e:ko w w' Z Z') (n:Nat):∀(xs:List D) (vs:List Value) (F:List Nat),(∀k∈F,w'.heap[k]? =w.heap[k]?)->jo w Z n xs vs F->jo w' Z' n xs vs F
 | [],vs,F,_,h=>by simpa only [jo]using h
 | x::xs,vs,F,hf,h=>by
  simp only[jo]at h |-;obtain ⟨F1,F2,j,rfl,E,h3⟩:=h;exact ⟨F1,F2,j,rfl,Mj e x _ F1 (λk hk=>hf k (by simp[hk])) E,gV e n xs _ F2 (λk hk=>hf k (by simp[hk])) h3⟩
end
theorem Obj.ld {p:Id->Bool} (o:Obj):(o.forget p).rw=o.rw:=by
 cases o<;>first
  | rfl
  | (simp only[Obj.forget];split<;>rfl)
theorem Obj.ng {f:Id->Id} (o:Obj):(o.map f).rw=o.rw:=by cases o<;>rfl
theorem Obj.x9 {f:Id->Id} (o:Obj):(o.map f).deep=o.deep:=by cases o<;>rfl
def Obj.has (o:Obj) (L:Loc) (r:Id) (b:Nat):Prop:=L r=some b\/(o.deep=true/\L.nest r b)
theorem Obj.dQ {p:Id->Bool} {o:Obj} {L:Loc} {r:Id} {b:Nat} (h:(o.forget p).has L r b):o.has L r b:=by
 rcases h with h | ⟨e,j⟩
 ·exact .inl h
 refine .inr ⟨?_,j⟩;cases o<;>first
  | exact e
  | (simp only[Obj.forget]at e;split at e<;>first | rfl | cases e)
def aY (s:bC) (L:Loc) (b:Nat):Prop:=∃r ob,s.get r=some ob/\ob.has L r b
structure RS (s:St) (a:Act) (w:World) (L:Loc) (Z:Nat->Prop):Prop where
 defers:a.defers=[]
 env:dH ⟨w,Z,L,s.sto.get⟩ s.env a.tmps.toList
 obj:∀r ob,s.sto.get r=some ob->RO ⟨w,Z,L,s.sto.get⟩ r ob
 injH:∀r r' b ob ob',s.sto.get r=some ob->s.sto.get r'=some ob'->ob.has L r b->ob'.has L r' b->r=r'
 dis:∀b,Z b->b<w.heap.size/\¬aY s.sto L b
structure Tr (np:Nat) (s s':bC) (w w':World) (L L':Loc) (Z Z':Nat->Prop):Prop where
 os:w'.os=w.os
 tape:w'.tape=w.tape
 output:w'.output=w.output
 size:w.heap.size<=w'.heap.size
 keep:∀b,b<w.heap.size->¬aY s L b->w'.heap[b]? =w.heap[b]?
 lives:∀b,aY s' L' b->aY s L b\/w.heap.size<=b
 zin:∀b,Z b->Z' b
 zout:∀b,Z' b->Z b\/w.heap.size<=b\/aY s L b
 par:∀r:Id,np<=r.1->L' r=L r
 psame:∀r:Id,np<=r.1->(s'.get r).isSome->(s.get r).isSome/\Same ⟨w,Z,L,s.get⟩ ⟨w',Z',L',s'.get⟩ r
theorem Same.refl (c:Cx) (r:Id):Same c c r:=⟨rfl,λh=>h,λ_ xs h=>⟨xs,h,rfl⟩,λ_ _ _=>rfl⟩
theorem Same.trans {a b c:Cx} {r:Id} (h:Same a b r) (k:Same b c r):Same a c r:=by
 obtain ⟨e,j,h3,h4⟩:=h;obtain ⟨J,k2,M,O⟩:=k;refine ⟨J.trans e,λx=>k2 (j x),λsz xs x=> ?_,λb E I=> ?_⟩
 ·obtain ⟨ys,S,U⟩:=h3 sz xs x;obtain ⟨zs,V,z2⟩:=M sz ys S;exact ⟨zs,V,z2.trans U⟩
 exact (O b (e.trans E) (j I)).trans (h4 b E I)
theorem Tr.refl (np:Nat) (s:bC) (w:World) (L:Loc) (Z:Nat->Prop):Tr np s s w w L L Z Z:=
 ⟨rfl,rfl,rfl,Nat.le_refl _,λ_ _ _=>rfl,λ_ h=> .inl h,λ_ h=>h,λ_ h=> .inl h,λ_ _=>rfl,λ_ _ h=>⟨h,Same.refl _ _⟩⟩
theorem Tr.trans {np:Nat} {s1 s2 M:bC} {O S U:World} {V I L3:Loc} {Z1 Z2 Z3:Nat->Prop}
  (h:Tr np s1 s2 O S V I Z1 Z2) (k:Tr np s2 M S U I L3 Z2 Z3):Tr np s1 M O U V L3 Z1 Z3 where
 os:=k.os.trans h.os
 tape:=k.tape.trans h.tape
 output:=k.output.trans h.output
 size:=Nat.le_trans h.size k.size
 keep b hb hn:=by
  have j:¬aY s2 I b:=λhl=>by
   rcases h.lives b hl with h3 | h3
   ·exact hn h3
   omega
  exact (k.keep b (Nat.lt_of_lt_of_le hb h.size) j).trans (h.keep b hb hn)
 lives b hl:=by
  rcases k.lives b hl with e | e
  ·exact h.lives b e
  exact .inr (Nat.le_trans h.size e)
 zin b J:=k.zin b (h.zin b J)
 zout b J:=by
  rcases k.zout b J with e | e | e
  ·exact h.zout b e
  ·exact .inr (.inl (Nat.le_trans h.size e))
  rcases h.lives b e with j | j
  ·exact .inr (.inr j)
  exact .inr (.inl j)
 par r E:=(k.par r E).trans (h.par r E)
 psame r E hs:=by
  obtain ⟨k1,k2⟩:=k.psame r E hs;obtain ⟨e,j⟩:=h.psame r E k1;exact ⟨e,j.trans k2⟩
theorem cR {s:bC} {r:Id} {ob:Obj} (o:Option Obj) (h:s.get r=some ob):(s.put r o).get r=o:=by
 unfold bC.get at h;split at h
 case h_1 l hl=>
  split at h
  case h_1 o' ho=>
   have e:r.1<s.length:=(ax.1 hl).1;have j:r.2<l.length:=(ax.1 ho).1;unfold bC.put;rw[hl];unfold bC.get;dsimp only;rw[List.getElem?_set_self e];dsimp only;rw[List.getElem?_set_self j]
  cases h
 cases h
theorem bU {s:bC} {r r':Id} (o:Option Obj) (h:r'≠r):(s.put r o).get r'=s.get r':=by
 unfold bC.put;split
 case h_1 l hl=>
  unfold bC.get;by_cases j:r'.1=r.1
  ·have E:r'.2≠r.2:=λe=>h (Prod.ext j e)
   have h3:r.1<s.length:=(ax.1 hl).1;rw[j,List.getElem?_set_self h3,hl];simp[List.getElem?_set,Ne.symm E]
  simp[List.getElem?_set,Ne.symm j]
 rfl
theorem Ck {s:bC} {r r':Id}:(s.put r none).get r'=if r'=r then none else s.get r':=by
 by_cases h:r'=r
 ·subst h;simp only[if_true];unfold bC.put;split
  case h_1 l hl=>
   have h3:r'.1<s.length:=(ax.1 hl).1;unfold bC.get;rw[List.getElem?_set_self h3];by_cases e:r'.2<l.length
   ·simp[e]
   simp[List.getElem?_set,e]
  rename_i hl;unfold bC.get;simp[hl]
 simp only[h,if_false];exact bU none h
theorem lO {s:bC} {p:Id->Bool} {r:Id}:(s.forget p).get r=(s.get r).map (·.forget p):=by
 unfold bC.forget bC.get;simp only[List.getElem?_map];cases s[r.1]? with
 | none=>rfl
 | some l=>
  simp only[Option.map_some,List.getElem?_map];cases l[r.2]? with
  | none=>rfl
  | some o=>rfl
theorem dX {s s':bC} {t:Nat} {l:List (Option Obj)} (h:s.lay t l=some s') (r:Id):
  s'.get r=if r.1=t then (match l[r.2]? with | some o=>o | none=>none)else s.get r:=by
 unfold bC.lay at h;split at h
 case h_1 old ho=>
  split at h
  ·injection h with h;subst h;have h3:t<s.length:=(ax.1 ho).1;by_cases e:r.1=t
   ·simp only[e,if_true];unfold bC.get;rw[e,List.getElem?_set_self h3];rfl
   simp only[e,if_false];unfold bC.get;rw[List.getElem?_set_ne (Ne.symm e)]
  cases h
 cases h
theorem gW {s s':bC} {t:Nat} {l:List (Option Obj)} (h:s.lay t l=some s') (r:Id) (j:r.1=t):s.get r=none:=by
 unfold bC.lay at h;split at h
 case h_1 old ho=>
  split at h
  case isTrue e=>
   unfold bC.get;rw[j,ho];dsimp only;cases E:old[r.2]? with
   | none=>rfl
   | some o=>
    have:=List.all_eq_true.1 e o (List.mem_of_getElem? E);simpa using this
  cases h
 cases h
mutual
theorem Hy {c:Cx} {p:Id->Bool}:∀(a:AV) (v:Value),RV c a v->RV c (a.forget p) v
 | .undef,v,h=>by simpa only [AV.forget]using h
 | .bare,v,h=>by simpa only [AV.forget]using h
 | .d x,v,h=>by simpa only [AV.forget]using h
 | .agg as,v,h=>by
  simp only[AV.forget,RV]at h |-;obtain ⟨vs,e,j⟩:=h;exact ⟨vs,e,fU as vs j⟩
 | .tup as,v,h=>by
  simp only[AV.forget,RV]at h |-;obtain ⟨vs,e,j⟩:=h;exact ⟨vs,e,fU as vs j⟩
 | .nilp,v,h=>by simpa only [AV.forget]using h
 | .emp,v,h=>by simpa only [AV.forget]using h
 | .ptr r off,v,h=>by
   simp only[AV.forget];split; · simp only[RV]
   exact h
 | .prow r sz i off,v,h=>by
     simp only[AV.forget];split; · simp only[RV]
     exact h
 | .sp cs off,v,h=>by simpa only [AV.forget]using h
 | .arr r sz g full,v,h=>by
     simp only[AV.forget];split; · simp only[RV]
     exact h
 | .fn f as,v,h=>by
  simp only[AV.forget,RV]at h |-;obtain ⟨vs,e,j⟩:=h;exact ⟨vs,e,fU as vs j⟩
theorem fU {c:Cx} {p:Id->Bool}:∀(as:List AV) (vs:List Value),dH c as vs->dH c (AV.aP p as) vs
 | [],vs,h=>by simpa only [AV.aP]using h
 | a::as,vs,h=>by
  simp only[AV.aP,dH]at h |-;obtain ⟨v,vs',e,j,h3⟩:=h;exact ⟨v,vs',e,Hy a v j,fU as vs' h3⟩
end
mutual
theorem iZ {p:Id->Bool}:∀(a:AV),∀r∈(a.forget p).refs,p r=false
 | .undef,r,h=>by simp[AV.forget,AV.refs]at h
 | .bare,r,h=>by simp[AV.forget,AV.refs]at h
 | .d x,r,h=>by simp[AV.forget,AV.refs]at h
 | .agg as,r,h=>by simp only[AV.forget,AV.refs]at h;exact dY as r h
 | .tup as,r,h=>by simp only[AV.forget,AV.refs]at h;exact dY as r h
 | .nilp,r,h=>by simp[AV.forget,AV.refs]at h
 | .emp,r,h=>by simp[AV.forget,AV.refs]at h
 | .ptr q off,r,h=>by
  simp only[AV.forget]at h;split at h
  ·simp[AV.refs]at h
  rename_i e;simp[AV.refs]at h;subst h;simpa using e
 | .prow q sz i off,r,h=>by
  simp only[AV.forget]at h;split at h
  ·simp[AV.refs]at h
  rename_i e;simp[AV.refs]at h;subst h;simpa using e
 | .sp cs off,r,h=>by simp[AV.forget,AV.refs]at h
 | .arr q sz g full,r,h=>by
  simp only[AV.forget]at h;split at h
  ·simp[AV.refs]at h
  rename_i e;simp[AV.refs]at h;subst h;simpa using e
 | .fn f as,r,h=>by simp only[AV.forget,AV.refs]at h;exact dY as r h
theorem dY {p:Id->Bool}:∀(as:List AV),∀r∈AV.bR (AV.aP p as),p r=false
 | [],r,h=>by simp[AV.aP,AV.bR]at h
 | a::as,r,h=>by
  simp only[AV.aP,AV.bR,List.mem_append]at h;rcases h with h | h
  ·exact iZ a r h
  exact dY as r h
end
mutual
theorem yA {p:Id->Bool}:∀(a:AV),∀r∈(a.forget p).refs,r∈a.refs
 | .undef,r,h=>by simpa [AV.forget]using h
 | .bare,r,h=>by simpa [AV.forget]using h
 | .d x,r,h=>by simpa [AV.forget]using h
 | .agg as,r,h=>by simp only[AV.forget,AV.refs]at h |-;exact gb as r h
 | .tup as,r,h=>by simp only[AV.forget,AV.refs]at h |-;exact gb as r h
 | .nilp,r,h=>by simpa [AV.forget]using h
 | .emp,r,h=>by simpa [AV.forget]using h
 | .ptr q off,r,h=>by
  simp only[AV.forget]at h;split at h; · simp[AV.refs]at h
  exact h
 | .prow q sz i off,r,h=>by
    simp only[AV.forget]at h;split at h; · simp[AV.refs]at h
    exact h
 | .sp cs off,r,h=>by simpa [AV.forget]using h
 | .arr q sz g full,r,h=>by
    simp only[AV.forget]at h;split at h; · simp[AV.refs]at h
    exact h
 | .fn f as,r,h=>by simp only[AV.forget,AV.refs]at h |-;exact gb as r h
theorem gb {p:Id->Bool}:∀(as:List AV),∀r∈AV.bR (AV.aP p as),r∈AV.bR as
 | [],r,h=>by simpa [AV.aP]using h
 | a::as,r,h=>by
  simp only[AV.aP,AV.bR,List.mem_append]at h |-;rcases h with h | h
  ·exact .inl (yA a r h)
  exact .inr (gb as r h)
end
theorem lf {c:Cx} {p:Id->Bool} {r:Id} {ob:Obj} (h:RO c r ob):RO c r (ob.forget p):=by
 cases ob with
 | box as=>
  simp only[Obj.forget,RO]at h |-;obtain ⟨b,vs,ty,j,E,h3⟩:=h;exact ⟨b,vs,ty,j,E,fU as _ h3⟩
 | rows sz xs=>exact h
 | orows sz xs=>exact h
 | gone sz xs=>exact h
 | hrows sz xs i off q I=>
  simp only[Obj.forget];split
  ·simp only[RO]at h |-;obtain ⟨b,vs,_,_,_,_,_,_,_,_,j,E,h3,_⟩:=h;refine ⟨λe=>(by rw[j]at e;cases e),λb' e=> ?_⟩;rw[j]at e;injection e with e;subst e;exact ⟨vs,E,h3⟩
  exact h
theorem jr {c c':Cx} {r:Id} {ob:Obj} (I:ko c.w c'.w c.Z c'.Z) (J:c'.L r=c.L r) (hN:c'.L.nest r=c.L.nest r) (M:∀b,ob.has c.L r b->c'.w.heap[b]? =c.w.heap[b]?)
  (hr:∀q∈ob.refs,Same c c' q) (h:RO c r ob):RO c' r ob:=by
 cases ob with
 | box as=>
  simp only[RO]at h |-;obtain ⟨b,vs,ty,j,E,h3⟩:=h;exact ⟨b,vs,ty,J.trans j,(M b (.inl j)).trans E,cO I as _ hr h3⟩
 | rows sz xs=>
  simp only[RO]at h |-;obtain ⟨j,E⟩:=h;refine ⟨λe=>j (J ▸ e),λb e=> ?_⟩;have e':=J ▸ e;obtain ⟨vs,h3,h4,O⟩:=E b e';exact ⟨vs,(M b (.inl e')).trans h3,h4,nF I (M b (.inl e')) xs 0 sz.2 O⟩
 | gone sz xs=>
  simp only[RO]at h |-;obtain ⟨j,E⟩:=h;refine ⟨λe=>j (J ▸ e),λb e=> ?_⟩;have e':=J ▸ e;obtain ⟨vs,h3,h4⟩:=E b e';exact ⟨vs,(M b (.inl e')).trans h3,h4⟩
 | orows sz xs=>
  simp only[RO]at h |-;obtain ⟨j,E⟩:=h;refine ⟨λe=>by rw[hN];exact j (J ▸ e),λb e=> ?_⟩;have e':=J ▸ e;obtain ⟨vs,F,h3,h4,O,h6,S⟩:=E b e';exact ⟨vs,F,(M b (.inl e')).trans h3,h4,gV I _ _ _ _ (λk hk=>M k (.inr ⟨rfl,(S k).2 hk⟩)) O,h6,by rw[hN];exact S⟩
 | hrows sz xs i off q a8=>
  simp only[RO]at h |-;obtain ⟨b,vs,pre,d,post,A1,A2,B1,B2,v,j,E,h3,h4,O,h6,S,h8,h9,a0,a1,a3,a4,a5,a6,U⟩:=h;have hk:∀k∈A1++A2++B1++B2,c'.w.heap[k]? =c.w.heap[k]? :=λk hk=>M k (.inr ⟨rfl,(U k).2 hk⟩)
  have a7:=hr q (by simp[Obj.refs]);refine ⟨b,vs,pre,d,post,A1,A2,B1,B2,v,J.trans j,(M b (.inl j)).trans E,h3,h4,O,h6,S,gV I _ _ _ _ (λk m=>hk k (by simp[m])) h8,j7 I _ _ _ (λk m=>hk k (by simp[m])) h9,j7 I _ _ _ (λk m=>hk k (by simp[m])) a0,gV I _ _ _ _ (λk m=>hk k (by simp[m])) a1,a3,
   jU I _ _ (λr V=>by simp[AV.refs]at V;subst V;exact a7) a4,a5,a6,by rw[hN];exact U⟩
mutual
theorem wA {c:Cx}:∀(a:AV) (v:Value),RV c a v->∀r∈a.refs,(c.obj r).isSome
 | .undef,v,h,r,e=>by simp[AV.refs]at e
 | .bare,v,h,r,e=>by simp[AV.refs]at e
 | .d x,v,h,r,e=>by simp[AV.refs]at e
 | .agg as,v,h,r,e=>by simp only[RV]at h;obtain ⟨vs,_,j⟩:=h;exact eE as vs j r (by simpa [AV.refs]using e)
 | .tup as,v,h,r,e=>by simp only[RV]at h;obtain ⟨vs,_,j⟩:=h;exact eE as vs j r (by simpa [AV.refs]using e)
 | .nilp,v,h,r,e=>by simp[AV.refs]at e
 | .emp,v,h,r,e=>by simp[AV.refs]at e
 | .ptr q off,v,h,r,e=>by simp only[RV]at h;obtain ⟨b,E,_⟩:=h;simp[AV.refs]at e;subst e;exact E
 | .prow q sz i off,v,h,r,e=>by simp only[RV]at h;obtain ⟨b,E,_⟩:=h;simp[AV.refs]at e;subst e;exact E
 | .sp cs off,v,h,r,e=>by simp[AV.refs]at e
 | .arr q sz g full,v,h,r,e=>by
  simp only[RV]at h;obtain ⟨_,_,_,xs,_,_,_,h4,_⟩:=h;simp[AV.refs]at e;subst e;cases ho:c.obj r with
  | none=>simp[ho]at h4
  | some _=>simp
 | .fn f as,v,h,r,e=>by simp only[RV]at h;obtain ⟨vs,_,j⟩:=h;exact eE as vs j r (by simpa [AV.refs]using e)
theorem eE {c:Cx}:∀(as:List AV) (vs:List Value),dH c as vs->∀r∈AV.bR as,(c.obj r).isSome
 | [],vs,h,r,e=>by simp[AV.bR]at e
 | a::as,vs,h,r,e=>by
  simp only[dH]at h;obtain ⟨v,vs',_,j,h3⟩:=h;simp only[AV.bR,List.mem_append]at e;rcases e with e | e
  ·exact wA a v j r e
  exact eE as vs' h3 r e
end
abbrev aI (w:World) (Z:Nat->Prop) (L:Loc) (s:bC):Cx:=⟨w,Z,L,s.get⟩
theorem Mw {c:Cx} {as:List AV} {vs:List Value} (h:dH c as vs) (t:Nat) {a:AV} {v:Value} (O:RV c a v):dH c (as.set t a) (vs.set t v):=by
 rw[bJ]at h |-;obtain ⟨S,U⟩:=h;refine ⟨by simpa using S,λi x y j E=> ?_⟩;by_cases e:t=i
 ·subst e;have I:=ax.1 j;have J:=ax.1 E;obtain ⟨V,k2⟩:=I;obtain ⟨k3,M⟩:=J;simp at k2 M;subst k2 M;exact O
 rw[List.getElem?_set_ne e]at j E;exact U i x y j E
theorem RS.put {s:St} {a:Act} {w:World} {L:Loc} {Z:Nat->Prop} (h:RS s a w L Z) (dst:Option Nat) {x:AV} {v:Value} (e:RV (aI w Z L s.sto) x v):
  RS ⟨eD s.env dst x,s.sto⟩ (a.put dst v) w L Z:=by
 cases dst with
 | none=>exact h
 | some t=>
  refine ⟨h.defers,?_,h.obj,h.injH,h.dis⟩;simp only[eD,Act.put,Array.toList_setIfInBounds];exact Mw h.env t e
theorem RS.get {s:St} {a:Act} {w:World} {L:Loc} {Z:Nat->Prop} (h:RS s a w L Z) {t:Nat} {x:AV} (e:s.env[t]? =some x):
  RV (aI w Z L s.sto) x (a.tmps.getD t undef):=by
 obtain ⟨j,E⟩:=bJ.1 h.env;have h3:=(ax.1 e).1;have h4:t<a.tmps.size:=by rw[<-Array.length_toList,<-j];exact h3
 refine E t x _ e ?_;simp[Array.getD,h4]
theorem gh {s:St} {r q:Id}:(s.kill r).sto.get q=if q=r then none else (s.sto.get q).map (·.forget (· ==r)):=by
 show ((s.sto.put r none).forget _).get q=_;rw[lO,Ck];split
 ·rfl
 rfl
theorem qI {s:St} {w:World} {L:Loc} {Z Z':Nat->Prop} {r q:Id} (h:q≠r):Same (aI w Z L s.sto) (aI w Z' L (s.kill r).sto) q:=by
 refine ⟨rfl,λk=> ?_,λsz xs k=> ?_,λ_ _ _=>rfl⟩
 ·dsimp only at k |-;rw[gh,if_neg h];simpa using k
 dsimp only at k |-;rw[gh,if_neg h];refine ⟨xs,?_,rfl⟩;cases ho:s.sto.get q with
 | none=>simp[ho]at k
 | some o=>simp only[ho,Option.bind_some]at k;simp[Obj.ld,k]
theorem rU {s:St} {L:Loc} {r:Id} {b:Nat} (h:aY (s.kill r).sto L b):aY s.sto L b:=by
 obtain ⟨q,ob,e,j⟩:=h;rw[gh]at e;split at e
 ·cases e
 cases h3:s.sto.get q with
 | none=>simp[h3]at e
 | some o=>
  simp[h3]at e;subst e;exact ⟨q,o,h3,Obj.dQ j⟩
theorem gY {s:St} {a:Act} {w:World} {L:Loc} {Z:Nat->Prop} (h:RS s a w L Z) {r:Id} {b:Nat} {ob:Obj} (j:s.sto.get r=some ob) (E:ob.has L r b):¬aY (s.kill r).sto L b:=by
 rintro ⟨q,ob,e,I⟩;rw[gh]at e;split at e
 ·cases e
 rename_i J;cases h3:s.sto.get q with
 | none=>simp[h3]at e
 | some o=>
  simp[h3]at e;subst e;exact J (h.injH q r b o ob h3 j (Obj.dQ I) E)
theorem Obj.iZ {p:Id->Bool} (o:Obj):∀r∈(o.forget p).refs,p r=false:=by
 intro r e;cases o with
 | box cs=>exact dY cs r (by simpa [Obj.forget,Obj.refs]using e)
 | hrows sz xs i off q E=>
  simp only[Obj.forget]at e;split at e
  ·simp[Obj.refs]at e
  rename_i j;simp[Obj.refs]at e;subst e;simpa using j
 | _=>simp[Obj.forget,Obj.refs]at e
theorem RS.kill {s:St} {a:Act} {w:World} {L:Loc} {Z:Nat->Prop} (h:RS s a w L Z) (r:Id):RS (s.kill r) a w L Z where
 defers:=h.defers
 env:=by
  refine cO (c:=aI w Z L s.sto) (c':=aI w Z L (s.kill r).sto) (ko.refl _ _) _ _ (λq e=> ?_) (fU (p:=(· ==r)) s.env _ h.env);have:=dY s.env q e;exact qI (by simpa using this)
 obj q ob e:=by
  rw[gh]at e;split at e
  ·cases e
  cases h3:s.sto.get q with
  | none=>simp[h3]at e
  | some o=>
   simp[h3]at e;subst e;refine jr (c:=aI w Z L s.sto) (c':=aI w Z L (s.kill r).sto) (ko.refl _ _) rfl rfl (λ_ _=>rfl) (λk hk=> ?_) (lf (h.obj q o h3));have:(k==r)=false:=Obj.iZ o k hk;exact qI (by simpa using this)
 injH q q' b ob ob' e E j I:=by
  have f:∀k o,(s.kill r).sto.get k=some o->∃o',s.sto.get k=some o'/\o=o'.forget (· ==r):=λk o hk=>by
   rw[gh]at hk;split at hk
   ·cases hk
   cases h3:s.sto.get k with
   | none=>simp[h3]at hk
   | some o'=>simp[h3]at hk;exact ⟨o',rfl,hk.symm⟩
  obtain ⟨o,J,rfl⟩:=f q ob e;obtain ⟨o',M,rfl⟩:=f q' ob' E;exact h.injH q q' b o o' J M (Obj.dQ j) (Obj.dQ I)
 dis b j:=⟨(h.dis b j).1,λhl=>(h.dis b j).2 (rU hl)⟩
theorem yR {s:St} {w:World} {L:Loc} {Z Z':Nat->Prop} {r q:Id} (h:((s.kill r).sto.get q).isSome):(s.sto.get q).isSome/\Same (aI w Z L s.sto) (aI w Z' L (s.kill r).sto) q:=by
 have j:q≠r:=λe=>by rw[gh,if_pos e]at h;cases h
 exact ⟨by rw[gh,if_neg j]at h;simpa using h,qI j⟩
theorem Tr.kill (np:Nat) (s:St) (w:World) (L:Loc) (Z:Nat->Prop) (r:Id):Tr np s.sto (s.kill r).sto w w L L Z Z:=
 ⟨rfl,rfl,rfl,Nat.le_refl _,λ_ _ _=>rfl,λ_ h=> .inl (rU h),λ_ h=>h,λ_ h=> .inl h,λ_ _=>rfl,λ_ _ h=>yR h⟩
mutual
theorem N_ {w:World} {Z:Nat->Prop}:∀(x:D) (v:Value) (F:List Nat),OC w Z x v F->∀k∈F,k<w.heap.size
 | .own sz xs,v,F,h,k,hk=>by
  simp only[OC]at h;obtain ⟨a,c,_,e⟩:=h;rcases e with ⟨_,_,rfl⟩ | ⟨b,vs,F',_,rfl,h3,_,_,_,h4⟩
  ·simp at hk
  rcases List.mem_cons.1 hk with rfl | hk
  ·exact (Array.getElem?_eq_some_iff.1 h3).1
  exact yS sz.2 xs _ F' h4 k hk
 | .agg _,_,_,h,_,_=>by simp[OC]at h
 | .int _ _,_,F,h,k,hk=>by simp only[OC]at h;rw[h.2]at hk;cases hk
 | .bool _,_,F,h,k,hk=>by simp only[OC]at h;rw[h.2]at hk;cases hk
 | .str _,_,F,h,k,hk=>by simp only[OC]at h;rw[h.2]at hk;cases hk
 | .lst _,_,F,h,k,hk=>by simp only[OC]at h;rw[h.2]at hk;cases hk
theorem Cw {w:World} {Z:Nat->Prop}:∀(xs:List D) (vs:List Value) (F:List Nat),nE w Z xs vs F->∀k∈F,k<w.heap.size
 | [],_,F,h,k,hk=>by simp only[nE]at h;rw[h.2]at hk;cases hk
 | d::ds,vs,F,h,k,hk=>by
  simp only[nE]at h;obtain ⟨v,vs',F1,F2,_,rfl,e,h3⟩:=h;rcases List.mem_append.1 hk with hk | hk
  ·exact N_ d v F1 e k hk
  exact Cw ds vs' F2 h3 k hk
theorem R5 {w:World} {Z:Nat->Prop}:∀(x:D) (vs:List Value) (F:List Nat),OE w Z x vs F->∀k∈F,k<w.heap.size
 | .agg ds,vs,F,h,k,hk=>by simp only[OE]at h;exact Cw ds vs F h k hk
 | .own sz xs,vs,F,h,k,hk=>by simp only[OE]at h;obtain ⟨v,_,e⟩:=h;exact N_ (.own sz xs) v F e k hk
 | .int _ _,_,F,h,k,hk=>by simp only[OE]at h;rw[h.2]at hk;cases hk
 | .bool _,_,F,h,k,hk=>by simp only[OE]at h;rw[h.2]at hk;cases hk
 | .str _,_,F,h,k,hk=>by simp only[OE]at h;rw[h.2]at hk;cases hk
 | .lst _,_,F,h,k,hk=>by simp only[OE]at h;rw[h.2]at hk;cases hk
theorem yS {w:World} {Z:Nat->Prop} (n:Nat):∀(xs:List D) (vs:List Value) (F:List Nat),jo w Z n xs vs F->∀k∈F,k<w.heap.size
 | [],_,F,h,k,hk=>by simp only[jo]at h;rw[h]at hk;cases hk
 | x::xs,vs,F,h,k,hk=>by
  simp only[jo]at h;obtain ⟨F1,F2,_,rfl,e,h3⟩:=h;rcases List.mem_append.1 hk with hk | hk
  ·exact R5 x _ F1 e k hk
  exact yS n xs _ F2 h3 k hk
end
theorem HL {c:Cx} {r:Id} {ob:Obj} {b:Nat} (E:RO c r ob) (j:ob.has c.L r b):b<c.w.heap.size:=by
 have key:∀{o:Go.Obj} {k:Nat},c.w.heap[k]? =some o->k<c.w.heap.size:=λe=>(Array.getElem?_eq_some_iff.1 e).1
 cases ob with
 | box as=>
  simp only[RO]at E;obtain ⟨b',vs,ty,I,h3,_⟩:=E;rcases j with j | ⟨j,_⟩
  ·rw[j]at I;injection I with I;subst I;exact key h3
  cases j
 | rows sz xs=>
  simp only[RO]at E;rcases j with j | ⟨j,_⟩
  ·obtain ⟨vs,h3,_⟩:=E.2 b j;exact key h3
  cases j
 | gone sz xs=>
  simp only[RO]at E;rcases j with j | ⟨j,_⟩
  ·obtain ⟨vs,h3,_⟩:=E.2 b j;exact key h3
  cases j
 | orows sz xs=>
  simp only[RO]at E;rcases j with j | ⟨_,j⟩
  ·obtain ⟨vs,F,h3,_⟩:=E.2 b j;exact key h3
  cases M:c.L r with
  | none=>exact ((E.1 M).2 b j).elim
  | some b'=>
   obtain ⟨vs,F,h3,_,h4,_,V⟩:=E.2 b' M;exact yS _ _ _ _ h4 b ((V b).1 j)
 | hrows sz xs i off q a0=>
  simp only[RO]at E;obtain ⟨b',vs,pre,d,post,A1,A2,B1,B2,v,J,k2,k3,k4,k5,k6,k7,k8,k9,O,S,a1,a3,a4,a5,U⟩:=E;rcases j with j | ⟨_,j⟩
  ·rw[j]at J;injection J with J;subst J;exact key k2
  have:=(U b).1 j;simp only[List.mem_append]at this;rcases this with ((m | m) | m) | m
  ·exact yS _ _ _ _ k8 b m
  ·exact Cw _ _ _ k9 b m
  ·exact Cw _ _ _ O b m
  exact yS _ _ _ _ S b m
theorem RS.fJ {s:St} {a:Act} {w:World} {L:Loc} {Z:Nat->Prop} (h:RS s a w L Z) {r:Id} {ob:Obj} {b:Nat} (e:s.sto.get r=some ob) (j:ob.has L r b):b<w.heap.size:=HL (h.obj r ob e) j
theorem RS.block_lt {s:St} {a:Act} {w:World} {L:Loc} {Z:Nat->Prop} (h:RS s a w L Z) {r:Id} {ob:Obj} {b:Nat} (e:s.sto.get r=some ob) (j:L r=some b):b<w.heap.size:=h.fJ e (.inl j)
theorem kV {c:Cx} {r:Id} {ob:Obj} (h:RO c r ob):∀q∈ob.refs,(c.obj q).isSome:=by
 cases ob with
 | box cs=>
  simp only[RO]at h;obtain ⟨_,vs,_,_,_,j⟩:=h;exact eE _ _ j
 | hrows sz xs i off q J=>
  simp only[RO]at h;obtain ⟨b',vs,pre,d,post,A1,A2,B1,B2,v,k1,k2,k3,k4,k5,k6,k7,k8,k9,M,O,S,e,U,V,a0⟩:=h;intro r E;exact wA _ _ e r (by simpa [AV.refs,Obj.refs]using E)
 | _=>intro q I;simp[Obj.refs]at I
theorem RS.P7 {s:St} {a:Act} {w:World} {L:Loc} {Z:Nat->Prop} (h:RS s a w L Z) (X:Nat->Prop) (j:∀b,X b->b<w.heap.size/\¬aY s.sto L b):
  RS s a w L (λb=>Z b\/X b) where
 defers:=h.defers
 env:=cO (c:=aI w Z L s.sto) (c':=aI w (λb=>Z b\/X b) L s.sto) (λ_ e=>⟨.inl e,rfl⟩) _ _ (λq _=>⟨rfl,λk=>k,λsz xs k=>⟨xs,k,rfl⟩,λ_ _ _=>rfl⟩) h.env
 obj q ob E:=jr (c:=aI w Z L s.sto) (c':=aI w (λb=>Z b\/X b) L s.sto) (λ_ e=>⟨.inl e,rfl⟩) rfl rfl (λ_ _=>rfl) (λq _=>⟨rfl,λk=>k,λsz xs k=>⟨xs,k,rfl⟩,λ_ _ _=>rfl⟩) (h.obj q ob E)
 injH:=h.injH
 dis b e:=e.elim (h.dis b) (j b)
theorem RS.Oa {s:St} {a:Act} {w:World} {L:Loc} {Z:Nat->Prop} (h:RS s a w L Z) {r:Id} {ob:Obj} (E:s.sto.get r=some ob) (np:Nat):
  RS (s.kill r) a w L (λb=>Z b\/ob.has L r b)/\Tr np s.sto (s.kill r).sto w w L L Z (λb=>Z b\/ob.has L r b):=by
 refine ⟨(h.kill r).P7 _ λb j=>⟨h.fJ E j,gY h E j⟩,?_⟩;exact ⟨rfl,rfl,rfl,Nat.le_refl _,λ_ _ _=>rfl,λ_ h=> .inl (rU h),λ_ h=> .inl h,λb j=>j.imp id λe=> .inr ⟨r,ob,E,e⟩,λ_ _=>rfl,λ_ _ h=>yR h⟩
def fM (L:Loc) (r:Id) (b:Option Nat) (N:Nat->Prop):Loc:=⟨λq=>if q=r then b else L q,λq=>if q=r then N else L.nest q⟩
def upd (L:Loc) (r:Id) (b:Option Nat):Loc:=fM L r b λ_=>False
theorem DV (L:Loc) (r:Id) (b:Option Nat):upd L r b r=b:=by simp[upd,fM]
theorem cK (L:Loc) (r:Id) (b:Option Nat) (N:Nat->Prop):fM L r b N r=b:=by simp[fM]
theorem jM (L:Loc) (r:Id) (b:Option Nat) (N:Nat->Prop):(fM L r b N).nest r=N:=by simp[fM]
theorem tR (L:Loc) {r q:Id} (b:Option Nat) (N:Nat->Prop) (h:q≠r):fM L r b N q=L q:=by simp[fM,h]
theorem oK (L:Loc) {r q:Id} (b:Option Nat) (N:Nat->Prop) (h:q≠r):(fM L r b N).nest q=L.nest q:=by simp[fM,h]
theorem i_ (L:Loc) {r q:Id} (b:Option Nat) (N:Nat->Prop) (h:q≠r) (o:Obj) (k:Nat):o.has (fM L r b N) q k↔o.has L q k:=by
 unfold Obj.has;rw[tR L b N h,oK L b N h]
theorem RS.HM {s0 s s':St} {a:Act} {w w':World} {L:Loc} {Z:Nat->Prop} {np t:Nat} {ob:Obj} {nb:Option Nat} {N:Nat->Prop}
  (h:RS s a w L Z) (t0:Tr np s0.sto s.sto w w L L Z Z) (hl:s.lay t [some ob]=some s') (ht:t<np)
  (ac:w'.os=w.os) (a9:w'.tape=w.tape) (aa:w'.output=w.output) (hsize:w.heap.size<=w'.heap.size)
  (hkeep:∀b,b<w.heap.size->some b≠nb->w'.heap[b]? =w.heap[b]?)
  (a1:∀b,nb=some b->¬Z b/\¬aY s.sto L b/\b<w'.heap.size/\(w.heap.size<=b\/aY s0.sto L b))
  (hN:∀b,ob.deep=true->N b->¬Z b/\¬aY s.sto L b/\b<w'.heap.size/\(w.heap.size<=b\/aY s0.sto L b))
  (ae:RO (aI w' Z (fM L (t,0) nb N) s'.sto) (t,0) ob):
  RS s' a w' (fM L (t,0) nb N) Z/\Tr np s0.sto s'.sto w w' L (fM L (t,0) nb N) Z Z/\s'.env=s.env/\
   ∀q,(s.sto.get q).isSome->Same (aI w Z L s.sto) (aI w' Z (fM L (t,0) nb N) s'.sto) q:=by
 have O:s.sto.lay t [some ob]=some s'.sto/\s'.env=s.env:=by
  unfold St.lay at hl;split at hl
  ·rename_i sto e;injection hl with hl;subst hl;exact ⟨e,rfl⟩
  cases hl
 obtain ⟨O,a4⟩:=O;have hfree:∀q:Id,q.1=t->s.sto.get q=none:=gW O;have V:∀q:Id,s'.sto.get q=if q.1=t then (match [some ob][q.2]? with | some o=>o | none=>none)else s.sto.get q:=dX O
 have a0:∀q,(s.sto.get q).isSome->q.1≠t:=λq E e=>by rw[hfree q e]at E;cases E
 have a5:ko w w' Z Z:=λb j=>⟨j,hkeep b (h.dis b j).1 λe=>(a1 b e.symm).1 j⟩
 have J:∀q:Id,q.1≠t->q≠(t,0):=λq E e=>E (by rw[e])
 have S:∀q:Id,q.1≠t->fM L (t,0) nb N q=L q:=λq E=>tR L nb N (J q E)
 have a6:∀q o b,s.sto.get q=some o->o.has L q b->w'.heap[b]? =w.heap[b]? :=λq o b E j=>
  hkeep b (h.fJ E j) λe=>(a1 b e.symm).2.1 ⟨q,o,E,j⟩
 have hsame:∀q,(s.sto.get q).isSome->Same (aI w Z L s.sto) (aI w' Z (fM L (t,0) nb N) s'.sto) q:=λq E=>by
  refine ⟨S q (a0 q E),λk=> ?_,λsz xs k=>⟨xs,?_,rfl⟩,λb j hs=> ?_⟩
  ·show (s'.sto.get q).isSome;rw[V,if_neg (a0 q E)];exact k
  ·show (s'.sto.get q).bind Obj.rw=_;rw[V,if_neg (a0 q E)];exact k
  obtain ⟨o,ho⟩:=Option.isSome_iff_exists.1 E;exact dP (a6 q o b ho (.inl j))
 have M:∀q ob',s'.sto.get q=some ob'->(q=(t,0)/\ob'=ob)\/(q.1≠t/\s.sto.get q=some ob'):=λq ob' E=>by
  rw[V]at E;by_cases e:q.1=t
  ·simp only[e,if_true]at E;cases a7:q.2 with
   | zero=>
    simp[a7]at E;exact .inl ⟨Prod.ext e a7,E.symm⟩
   | succ n=>simp[a7]at E
  simp only[e,if_false]at E;exact .inr ⟨e,E⟩
 have a3:∀b,ob.has (fM L (t,0) nb N) (t,0) b->¬Z b/\¬aY s.sto L b/\b<w'.heap.size/\(w.heap.size<=b\/aY s0.sto L b):=λb j=>by
  rcases j with j | ⟨h1,j⟩
  ·rw[cK]at j;exact a1 b j
  rw[jM]at j;exact hN b h1 j
 have U:∀b,aY s'.sto (fM L (t,0) nb N) b->ob.has (fM L (t,0) nb N) (t,0) b\/aY s.sto L b:=λb j=>by
  obtain ⟨q,ob',h1,I⟩:=j;rcases M q ob' h1 with ⟨rfl,rfl⟩ | ⟨h3,h4⟩
  ·exact .inl I
  exact .inr ⟨q,ob',h4,(i_ L nb N (J q h3) ob' b).1 I⟩
 refine ⟨⟨h.defers,?_,?_,?_,?_⟩,⟨ac.trans t0.os,a9.trans t0.tape,aa.trans t0.output,hsize,?_,?_,λb j=>j,λb j=> .inl j,?_,λq E hs=> ?_⟩,a4,hsame⟩
 ·rw[a4];exact cO (c:=aI w Z L s.sto) a5 _ _ (λq E=>hsame q (eE _ _ h.env q E)) h.env
 ·intro q ob' E;rcases M q ob' E with ⟨rfl,rfl⟩ | ⟨h3,h4⟩
  ·exact ae
  refine jr (c:=aI w Z L s.sto) a5 (S q h3) (oK L nb N (J q h3)) (λb j=>a6 q ob' b h4 j) (λk hk=> ?_) (h.obj q ob' h4);exact hsame k (kV (h.obj q ob' h4) k hk)
 ·intro q q' b o o' ho ag j a8;rcases M q o ho with ⟨rfl,rfl⟩ | ⟨h3,h4⟩<;>rcases M q' o' ag with ⟨rfl,rfl⟩ | ⟨h5,h6⟩
  ·rfl
  ·exact ((a3 b j).2.1 ⟨q',o',h6,(i_ L nb N (J q' h5) o' b).1 a8⟩).elim
  ·exact ((a3 b a8).2.1 ⟨q,o,h4,(i_ L nb N (J q h3) o b).1 j⟩).elim
  exact h.injH q q' b o o' h4 h6 ((i_ L nb N (J q h3) o b).1 j) ((i_ L nb N (J q' h5) o' b).1 a8)
 ·intro b j;refine ⟨Nat.lt_of_lt_of_le (h.dis b j).1 hsize,λhl=> ?_⟩;rcases U b hl with e | e
  ·exact (a3 b e).1 j
  exact (h.dis b j).2 e
 ·intro b j hn;have h1:¬aY s.sto L b:=λhl=>by
   rcases t0.lives b hl with I | I
   ·exact hn I
   omega
  refine hkeep b j λe=> ?_
  rcases (a1 b e.symm).2.2.2 with I | I
  ·omega
  exact hn I
 ·intro b j;rcases U b j with e | e
  ·rcases (a3 b e).2.2.2 with I | I
   ·exact .inr I
   exact .inl I
  exact t0.lives b e
 ·intro r hr;exact S r (by intro e;rw[e]at hr;omega)
 obtain ⟨o,ho⟩:=Option.isSome_iff_exists.1 hs;rcases M q o ho with ⟨e,_⟩ | ⟨h3,h4⟩
 ·rw[e]at E;exact absurd ht (Nat.not_lt.2 E)
 obtain ⟨p1,p2⟩:=t0.psame q E (by simp[h4]);exact ⟨p1,p2.trans (hsame q (by simp[h4]))⟩
theorem RS.lay {s0 s s':St} {a:Act} {w w':World} {L:Loc} {Z:Nat->Prop} {np t:Nat} {ob:Obj} {nb:Option Nat}
  (h:RS s a w L Z) (M:Tr np s0.sto s.sto w w L L Z Z) (hl:s.lay t [some ob]=some s') (O:t<np)
  (E:w'.os=w.os) (e:w'.tape=w.tape) (j:w'.output=w.output) (hsize:w.heap.size<=w'.heap.size)
  (hkeep:∀b,b<w.heap.size->some b≠nb->w'.heap[b]? =w.heap[b]?)
  (I:∀b,nb=some b->¬Z b/\¬aY s.sto L b/\b<w'.heap.size/\(w.heap.size<=b\/aY s0.sto L b))
  (J:RO (aI w' Z (upd L (t,0) nb) s'.sto) (t,0) ob):
  RS s' a w' (upd L (t,0) nb) Z/\Tr np s0.sto s'.sto w w' L (upd L (t,0) nb) Z Z/\s'.env=s.env/\
   ∀q,(s.sto.get q).isSome->Same (aI w Z L s.sto) (aI w' Z (upd L (t,0) nb) s'.sto) q:=
 RS.HM h M hl O E e j hsize hkeep I (λ_ _ S=>S.elim) J
theorem RS.Kf {s0 s:St} {a:Act} {w w':World} {L:Loc} {Z:Nat->Prop} {r:Id} {ob ob':Obj} {b:Nat} {N:Nat->Prop} (np:Nat)
  (h:RS s a w L Z) (V:Tr np s0.sto s.sto w w L L Z Z) (S:s.sto.get r=some ob) (hb:L r=some b)
  (a5:w'.os=w.os) (a1:w'.tape=w.tape) (a3:w'.output=w.output) (hsize:w'.heap.size=w.heap.size)
  (hkeep:∀k,k≠b->w'.heap[k]? =w.heap[k]?) (a4:b_ w' b=b_ w b)
  (hrows:∀sz xs,ob.rw=some (sz,xs)->∃ys,ob'.rw=some (sz,ys)/\ys.length=xs.length)
  (hN:∀k,ob'.has (fM L r (some b) N) r k->ob.has L r k\/(¬Z k/\¬aY s.sto L k/\k<w.heap.size/\aY s0.sto L k))
  (a6:(∀q,(s.sto.get q).isSome->Same (aI w Z L s.sto) (aI w' Z (fM L r (some b) N) (s.sto.put r (some ob'))) q)->ko w w' Z Z->RO (aI w' Z (fM L r (some b) N) (s.sto.put r (some ob'))) r ob'):
  RS ⟨s.env,s.sto.put r (some ob')⟩ a w' (fM L r (some b) N) Z/\Tr np s0.sto (s.sto.put r (some ob')) w w' L (fM L r (some b) N) Z Z:=by
 have U:ko w w' Z Z:=λk hk=>⟨hk,hkeep k λe=>(h.dis k hk).2 (e ▸ ⟨r,ob,S,.inl hb⟩)⟩
 have E:∀q,(s.sto.put r (some ob')).get q=if q=r then some ob' else s.sto.get q:=λq=>by
  by_cases e:q=r
  ·subst e;rw[if_pos rfl];exact cR _ S
  rw[if_neg e];exact bU _ e
 have hsome:∀q,((s.sto.put r (some ob')).get q).isSome->(s.sto.get q).isSome:=λq j=>by
  rw[E]at j;split at j
  ·rename_i e;subst e;simp[S]
  exact j
 have a0:∀q,fM L r (some b) N q=L q:=λq=>by
  by_cases e:q=r
  ·subst e;rw[cK,hb]
  exact tR L _ N e
 have hsame:∀q,(s.sto.get q).isSome->Same (aI w Z L s.sto) (aI w' Z (fM L r (some b) N) (s.sto.put r (some ob'))) q:=λq j=>by
  refine ⟨a0 q,λk=> ?_,λsz xs k=> ?_,λk hk _=> ?_⟩
  ·show ((s.sto.put r (some ob')).get q).isSome;rw[E];split; · rfl
   ·exact k
  ·show∃ys,((s.sto.put r (some ob')).get q).bind Obj.rw=_/\_;rw[E];split
   ·rename_i e;subst e;have k':(s.sto.get q).bind Obj.rw=some (sz,xs):=k;rw[S]at k';exact hrows sz xs k'
   exact ⟨xs,k,rfl⟩
  by_cases e:k=b
  ·subst e;exact a4
  exact dP (hkeep k e)
 have I:∀q o k,(s.sto.put r (some ob')).get q=some o->o.has (fM L r (some b) N) q k->(∃o2,s.sto.get q=some o2/\o2.has L q k)\/(q=r/\¬Z k/\¬aY s.sto L k/\k<w.heap.size/\aY s0.sto L k):=λq o k J h2=>by
  rw[E]at J;split at J
  ·rename_i e;subst e;injection J with J;subst J;rcases hN k h2 with h3 | h3
   ·exact .inl ⟨ob,S,h3⟩
   exact .inr ⟨rfl,h3⟩
  rename_i e;exact .inl ⟨o,J,(i_ L _ N e o k).1 h2⟩
 have M:∀k,aY (s.sto.put r (some ob')) (fM L r (some b) N) k->aY s.sto L k\/(¬Z k/\aY s0.sto L k):=λk hk=>by
  obtain ⟨q,o,J,h2⟩:=hk;rcases I q o k J h2 with ⟨o2,m1,O⟩ | ⟨_,m1,_,_,O⟩
  ·exact .inl ⟨q,o2,m1,O⟩
  exact .inr ⟨m1,O⟩
 refine ⟨⟨h.defers,?_,?_,?_,?_⟩,⟨a5.trans V.os,a1.trans V.tape,a3.trans V.output,Nat.le_of_eq hsize.symm,?_,?_,λ_ h=>h,λ_ h=> .inl h,λq _=>a0 q,λq j hs=> ?_⟩⟩
 ·exact cO (c:=aI w Z L s.sto) U _ _ (λq j=>hsame q (eE _ _ h.env q j)) h.env
 ·intro q o j;rw[E]at j;split at j
  ·rename_i e;subst e;injection j with j;subst j;exact a6 hsame U
  rename_i e;refine jr (c:=aI w Z L s.sto) U (a0 q) (oK L _ N e) (λk hk=>hkeep k λe2=>e (h.injH q r b o ob j S (e2 ▸ hk) (.inl hb))) (λk hk=> ?_) (h.obj q o j);exact hsame k (kV (h.obj q o j) k hk)
 ·intro q q' k o o' j a7 hk a8;rcases I q o k j hk with ⟨o2,m1,O⟩ | ⟨e1,_,O,_,_⟩<;>rcases I q' o' k a7 a8 with ⟨o3,m3,m4⟩ | ⟨e2,_,m4,_,_⟩
  ·exact h.injH q q' k o2 o3 m1 m3 O m4
  ·exact (m4 ⟨q,o2,m1,O⟩).elim
  ·exact (O ⟨q',o3,m3,m4⟩).elim
  rw[e1,e2]
 ·intro k hk;refine ⟨by rw[hsize];exact (h.dis k hk).1,λhl=> ?_⟩;rcases M k hl with m | ⟨m,_⟩
  ·exact (h.dis k hk).2 m
  exact m hk
 ·intro k hk hn;exact hkeep k λe=>by
   rcases V.lives b ⟨r,ob,S,.inl hb⟩with m | m
   ·exact hn (e ▸ m)
   omega
 ·intro k hk;rcases M k hk with m | ⟨_,m⟩
  ·exact V.lives k m
  exact .inl m
 obtain ⟨p1,p2⟩:=V.psame q j (hsome q hs);exact ⟨p1,p2.trans (hsame q (hsome q hs))⟩
theorem Cy {L:Loc} {r:Id} {b:Nat} (j:L r=some b):fM L r (some b) (L.nest r)=L:=by
 unfold fM;have E:(λq=>if q=r then some b else L q)=L.main:=by
  funext q;by_cases e:q=r
  ·subst e;simp[j]
  simp[e]
 have I:(λq=>if q=r then L.nest r else L.nest q)=L.nest:=by
  funext q;by_cases e:q=r
  ·subst e;simp
  simp[e]
 rw[E,I]
theorem RS.write {s:St} {a:Act} {w w':World} {L:Loc} {Z:Nat->Prop} {r:Id} {ob ob':Obj} {b:Nat} (np:Nat)
  (h:RS s a w L Z) (S:s.sto.get r=some ob) (e:L r=some b)
  (M:w'.os=w.os) (j:w'.tape=w.tape) (I:w'.output=w.output) (hsize:w'.heap.size=w.heap.size)
  (hkeep:∀k,k≠b->w'.heap[k]? =w.heap[k]?) (J:b_ w' b=b_ w b)
  (hrows:∀sz xs,ob.rw=some (sz,xs)->∃ys,ob'.rw=some (sz,ys)/\ys.length=xs.length) (E:ob'.deep=true->ob.deep=true)
  (O:(∀q,(s.sto.get q).isSome->Same (aI w Z L s.sto) (aI w' Z L (s.sto.put r (some ob'))) q)->ko w w' Z Z->RO (aI w' Z L (s.sto.put r (some ob'))) r ob'):
  RS ⟨s.env,s.sto.put r (some ob')⟩ a w' L Z/\Tr np s.sto (s.sto.put r (some ob')) w w' L L Z Z:=by
 have:=RS.Kf (s0:=s) (N:=L.nest r) np h (Tr.refl _ _ _ _ _) S e M j I hsize hkeep J hrows (by rw[Cy e];exact λk hk=> .inl (hk.imp id λm=>⟨E m.1,m.2⟩)) (by rw[Cy e];exact O);rw[Cy e]at this;exact this
end Go.Vi
