import Derived.Test.YtfnagkpidcdocaaGreatM00
import Derived.Calls
import Derived.Below
set_option linter.all false
namespace Go.Vi
open Go Go.RowKit
def bX (w:World) (b:Nat):Nat:=match w.heap[b]? with | some (.cells c _ _)=>c.size | _=>0
mutual
def RD (w:World) (Z:Nat->Prop):D->List Value->Prop
 | .int k n,cs=>cs=[.int k n]
 | .bool b,cs=>cs=[.bool b]
 | .str s,cs=>cs=[.string s]
 | .agg ds,cs=>fk w Z ds cs
 | .lst xs,cs=>∃a c,cs=[.slice a xs.length c]/\xs.length<=c/\(xs=[]\/∃b o sz,a=some ⟨b,o,none⟩/\Z b/\Rows w Z xs b o sz)
 | .own _ _,cs=>∃a n c,cs=[.slice a n c]
def fk (w:World) (Z:Nat->Prop):List D->List Value->Prop
 | [],cs=>cs=[]
 | d::ds,cs=>∃v cs',cs=v::cs'/\RD w Z d [v]/\fk w Z ds cs'
def Rows (w:World) (Z:Nat->Prop):List D->Nat->Nat->Nat->Prop
 | [],_,_,_=>True
 | x::xs,b,o,sz=>(∃cs,cs.length=sz/\RD w Z x cs/\∀j v,cs[j]? =some v->w.cell? ⟨b,o+j,none⟩=some v)/\Rows w Z xs b (o+sz) sz
end
mutual
def OC (w:World) (Z:Nat->Prop):D->Value->List Nat->Prop
 | .own sz xs,v,F=>∃a c,(v= .slice a xs.length c/\c<=maxLen)/\((c=0/\xs=[]/\F=[])\/
  ∃b vs F',a=some ⟨b,0,none⟩/\F=b::F'/\w.heap[b]? =some (.cells vs sz.1 (0,0))/\c*sz.2=vs.size/\0<sz.2/\xs.length*sz.2<=vs.size/\jc w Z sz.2 xs vs.toList F')
 | .agg _,_,_=>False
 | .int k n,v,F=>RD w Z (.int k n) [v]/\F=[]
 | .bool b,v,F=>RD w Z (.bool b) [v]/\F=[]
 | .str s,v,F=>RD w Z (.str s) [v]/\F=[]
 | .lst xs,v,F=>RD w Z (.lst xs) [v]/\F=[]
def mS (w:World) (Z:Nat->Prop):List D->List Value->List Nat->Prop
 | [],vs,F=>vs=[]/\F=[]
 | d::ds,vs,F=>∃v vs' F1 F2,vs=v::vs'/\F=F1++F2/\OC w Z d v F1/\mS w Z ds vs' F2
def OE (w:World) (Z:Nat->Prop):D->List Value->List Nat->Prop
 | .agg ds,vs,F=>mS w Z ds vs F
 | .own sz xs,vs,F=>∃v,vs=[v]/\OC w Z (.own sz xs) v F
 | .int k n,vs,F=>RD w Z (.int k n) vs/\F=[]
 | .bool b,vs,F=>RD w Z (.bool b) vs/\F=[]
 | .str s,vs,F=>RD w Z (.str s) vs/\F=[]
 | .lst xs,vs,F=>RD w Z (.lst xs) vs/\F=[]
def jc (w:World) (Z:Nat->Prop) (n:Nat):List D->List Value->List Nat->Prop
 | [],_,F=>F=[]
 | x::xs,vs,F=>∃F1 F2,n<=vs.length/\F=F1++F2/\OE w Z x (vs.take n) F1/\jc w Z n xs (vs.drop n) F2
end
def bq (g:Option (Int×Int)):Nat:=match g with | none=>0 | some (x,_)=>x.toNat
structure Loc where
 main:Id->Option Nat
 nest:Id->Nat->Prop
instance:CoeFun Loc λ_=>Id->Option Nat:=⟨Loc.main⟩
def Loc.none:Loc:=⟨λ_=>Option.none,λ_ _=>False⟩
structure Cx where
 w:World
 Z:Nat->Prop
 L:Loc
 obj:Id->Option Obj
mutual
def RV (c:Cx):AV->Value->Prop
 | .undef,_=>True
 | .bare,v=>v=Go.undef
 | .d x,v=>RD c.w c.Z x [v]
 | .agg as,v=>∃vs:List Value,v= .agg vs.toArray/\di c as vs
 | .tup as,v=>∃vs:List Value,v= .tuple vs.toArray/\di c as vs
 | .nilp,v=>v= .pointer none
 | .emp,v=>∃a,v= .slice a 0 0
 | .ptr r off,v=>∃b,(c.obj r).isSome/\c.L r=some b/\v= .pointer (some ⟨b,off,none⟩)
 | .prow r sz i off,v=>∃b,(c.obj r).isSome/\c.L r=some b/\0<=i/\v= .pointer (some ⟨b,i.toNat*sz.2+off,none⟩)
 | .sp cs off,v=>∃b o vs,v= .pointer (some ⟨b,o+off,none⟩)/\c.Z b/\fk c.w c.Z cs vs/\∀j u,vs[j]? =some u->c.w.cell? ⟨b,o+j,none⟩=some u
 | .arr r sz g full,v=>∃a n cap xs,v= .slice a n cap/\(n<=cap/\cap<=maxLen)/\(full=true->cap=n)/\(c.obj r).bind Obj.rw=some (sz,xs)/\(g=none->n=xs.length)/\
  (∀x m,g=some (x,m)->0<=x/\m=n/\x.toNat+n<=xs.length)/\
  (c.L r=none->cap=0)/\
  ∀b,c.L r=some b->(cap=0/\bq g≠0)\/(a=some ⟨b,bq g*sz.2,none⟩/\(bq g+cap)*sz.2=bX c.w b)
 | .fn f as,v=>∃vs:List Value,v= .func (.func (wS f)) #[] vs.toArray/\di c as vs
def di (c:Cx):List AV->List Value->Prop
 | [],vs=>vs=[]
 | a::as,vs=>∃v vs',vs=v::vs'/\RV c a v/\di c as vs'
end
def RO (c:Cx) (r:Id):Obj->Prop
 | .box as=>∃b vs ty,c.L r=some b/\c.w.heap[b]? =some (.cells vs ty (0,0))/\di c as vs.toList
 | .rows sz xs=>(c.L r=none->xs=[])/\∀b,c.L r=some b->∃vs,c.w.heap[b]? =some (.cells vs sz.1 (0,0))/\xs.length*sz.2<=vs.size/\Rows c.w c.Z xs b 0 sz.2
 | .orows sz xs=>(c.L r=none->xs=[]/\∀k,¬c.L.nest r k)/\∀b,c.L r=some b->∃vs F,c.w.heap[b]? =some (.cells vs sz.1 (0,0))/\xs.length*sz.2<=vs.size/\jc c.w c.Z sz.2 xs vs.toList F/\(b::F).Nodup/\∀k,c.L.nest r k↔k∈F
 | .hrows sz xs i off q esz=>∃b vs pre ys0 post A1 A2 B1 B2 v,c.L r=some b/\c.w.heap[b]? =some (.cells vs sz.1 (0,0))/\xs.length*sz.2<=vs.size/\0<=i/\xs[i.toNat]? =some (.agg (pre++ .own esz ys0::post))/\
  pre.length=off/\pre.length+1+post.length=sz.2/\jc c.w c.Z sz.2 (xs.take i.toNat) vs.toList A1/\mS c.w c.Z pre ((vs.toList.drop (i.toNat*sz.2)).take off) A2/\
  mS c.w c.Z post ((vs.toList.drop (i.toNat*sz.2+off+1)).take (sz.2-(off+1))) B1/\jc c.w c.Z sz.2 (xs.drop (i.toNat+1)) (vs.toList.drop ((i.toNat+1)*sz.2)) B2/\
  vs[i.toNat*sz.2+off]? =some v/\RV c (.arr q esz none false) v/\0<esz.2/\(b::(A1++A2++B1++B2)).Nodup/\∀k,c.L.nest r k↔k∈A1++A2++B1++B2
 | .gone sz xs=>(c.L r=none->xs=[])/\∀b,c.L r=some b->∃vs,c.w.heap[b]? =some (.cells vs sz.1 (0,0))/\xs.length*sz.2<=vs.size
theorem rM {w w':World} {b o:Nat} (h:w'.heap[b]? =w.heap[b]?):w'.cell? ⟨b,o,none⟩=w.cell? ⟨b,o,none⟩:=by
 simp[World.cell?,h]
theorem dm {w w':World} {b:Nat} (h:w'.heap[b]? =w.heap[b]?):bX w' b=bX w b:=by
 simp[bX,h]
def jV (w w':World) (Z Z':Nat->Prop):Prop:=∀b,Z b->Z' b/\w'.heap[b]? =w.heap[b]?
theorem jV.refl (w:World) (Z:Nat->Prop):jV w w Z Z:=λ_ h=>⟨h,rfl⟩
theorem jV.trans {a b c:World} {X Y Z:Nat->Prop} (h:jV a b X Y) (k:jV b c Y Z):jV a c X Z:=
 λi hi=>⟨(k i (h i hi).1).1,(k i (h i hi).1).2.trans (h i hi).2⟩
mutual
theorem cS {w w':World} {Z Z':Nat->Prop} (hz:jV w w' Z Z'):∀(x:D) (cs:List Value),RD w Z x cs->RD w' Z' x cs
 | .int k n,cs,h=>by simpa only [RD]using h
 | .bool b,cs,h=>by simpa only [RD]using h
 | .str s,cs,h=>by simpa only [RD]using h
 | .agg ds,cs,h=>by
  simp only[RD]at h |-;exact oP hz ds cs h
 | .lst xs,cs,h=>by
  simp only[RD]at h |-;obtain ⟨a,c,h1,h2,h3⟩:=h;refine ⟨a,c,h1,h2,?_⟩;rcases h3 with h3 | ⟨b,o,sz,h4,h5,h6⟩
  ·exact .inl h3
  ·exact .inr ⟨b,o,sz,h4,(hz b h5).1,mH hz (hz b h5).2 xs o sz h6⟩
 | .own sz xs,cs,h=>by simpa only [RD]using h
theorem oP {w w':World} {Z Z':Nat->Prop} (hz:jV w w' Z Z'):∀(xs:List D) (cs:List Value),fk w Z xs cs->fk w' Z' xs cs
 | [],cs,h=>by simpa only [fk]using h
 | x::xs,cs,h=>by
  simp only[fk]at h |-;obtain ⟨v,cs',h1,h2,h3⟩:=h;exact ⟨v,cs',h1,cS hz x _ h2,oP hz xs _ h3⟩
theorem mH {w w':World} {Z Z':Nat->Prop} (hz:jV w w' Z Z') {b:Nat} (hb:w'.heap[b]? =w.heap[b]?):∀(xs:List D) (o sz:Nat),Rows w Z xs b o sz->Rows w' Z' xs b o sz
 | [],o,sz,h=>by simp only[Rows]
 | x::xs,o,sz,h=>by
  simp only[Rows]at h |-;obtain ⟨⟨cs,h1,h2,h3⟩,h4⟩:=h;exact ⟨⟨cs,h1,cS hz x _ h2,λj v hj=>(rM hb).trans (h3 j v hj)⟩,mH hz hb xs _ sz h4⟩
end
theorem yY {w:World} {Z:Nat->Prop} {x:D} {cs:List Value} (h:RD w Z x cs):cs.length=x.cells.length:=by
 have key:∀(ds:List D) (cs:List Value),fk w Z ds cs->cs.length=ds.length:=by
  intro ds;induction ds with
  | nil=>intro cs h;simp only[fk]at h;simp[h]
  | cons d ds ih=>
   intro cs h;simp only[fk]at h;obtain ⟨v,cs',rfl,_,h3⟩:=h;simp[ih _ h3]
 cases x with
 | agg ds=>simp only[RD]at h;simpa [D.cells]using key ds cs h
 | lst xs=>simp only[RD]at h;obtain ⟨a,c,rfl,_⟩:=h;rfl
 | own sz xs=>simp only[RD]at h;obtain ⟨a,n,c,rfl⟩:=h;rfl
 | _=>simp only[RD]at h;subst h;rfl
theorem rN {w:World} {Z:Nat->Prop} {x:D} {cs:List Value} (h:RD w Z x cs):fk w Z x.cells cs:=by
 cases x with
 | agg ds=>simpa only [RD,D.cells]using h
 | lst xs=>have h':=h;simp only[RD]at h;obtain ⟨a,c,rfl,_⟩:=h;simp only[D.cells,fk];exact ⟨_,_,rfl,h',rfl⟩
 | own sz xs=>have h':=h;simp only[RD]at h;obtain ⟨a,n,c,rfl⟩:=h;simp only[D.cells,fk];exact ⟨_,_,rfl,h',rfl⟩
 | _=>have h':=h;simp only[RD]at h;subst h;simp only[D.cells,fk];exact ⟨_,_,rfl,h',rfl⟩
theorem eC {w:World} {Z:Nat->Prop}:∀{ds:List D} {cs:List Value},fk w Z ds cs↔ds.length=cs.length/\∀(i:Nat) (d:D) (v:Value),ds[i]? =some d->cs[i]? =some v->RD w Z d [v]
 | [],cs=>by
  simp only[fk];constructor
  ·rintro rfl;simp
  ·rintro ⟨h,_⟩;exact List.length_eq_zero_iff.1 h.symm
 | d::ds,cs=>by
  simp only[fk];constructor
  ·rintro ⟨v,cs',rfl,h1,h2⟩;obtain ⟨h3,h4⟩:=eC.1 h2;refine ⟨by simp[h3],?_⟩;intro i d' v' hd hv;cases i with
   | zero=>simp at hd hv;subst hd;subst hv;exact h1
   | succ i=>simp at hd hv;exact h4 i d' v' hd hv
  ·rintro ⟨h1,h2⟩;cases cs with
   | nil=>simp at h1
   | cons v cs'=>exact ⟨v,cs',rfl,h2 0 d v rfl rfl,eC.2 ⟨by simpa using h1,λi d' v' hd hv=>h2 (i+1) d' v' (by simpa using hd) (by simpa using hv)⟩⟩
theorem bF {c:Cx}:∀{as:List AV} {vs:List Value},di c as vs↔as.length=vs.length/\∀(i:Nat) (a:AV) (v:Value),as[i]? =some a->vs[i]? =some v->RV c a v
 | [],vs=>by
  simp only[di];constructor
  ·rintro rfl;simp
  ·rintro ⟨h,_⟩;exact List.length_eq_zero_iff.1 h.symm
 | d::ds,cs=>by
  simp only[di];constructor
  ·rintro ⟨v,cs',rfl,h1,h2⟩;obtain ⟨h3,h4⟩:=bF.1 h2;refine ⟨by simp[h3],?_⟩;intro i d' v' hd hv;cases i with
   | zero=>simp at hd hv;subst hd;subst hv;exact h1
   | succ i=>simp at hd hv;exact h4 i d' v' hd hv
  ·rintro ⟨h1,h2⟩;cases cs with
   | nil=>simp at h1
   | cons v cs'=>exact ⟨v,cs',rfl,h2 0 d v rfl rfl,bF.2 ⟨by simpa using h1,λi d' v' hd hv=>h2 (i+1) d' v' (by simpa using hd) (by simpa using hv)⟩⟩
theorem eW {w:World} {Z:Nat->Prop} {b sz:Nat}:∀{xs:List D} {o:Nat},Rows w Z xs b o sz↔
  ∀(i:Nat) (x:D),xs[i]? =some x->∃cs,cs.length=sz/\RD w Z x cs/\∀j v,cs[j]? =some v->w.cell? ⟨b,o+i*sz+j,none⟩=some v
 | [],o=>by simp[Rows]
 | x::xs,o=>by
  simp only[Rows];constructor
  ·rintro ⟨h1,h2⟩ i y hy;cases i with
   | zero=>simp at hy;subst hy;simpa using h1
   | succ i=>
    simp at hy;obtain ⟨cs,h3,h4,h5⟩:=eW.1 h2 i y hy;refine ⟨cs,h3,h4,λj v hj=> ?_⟩;rw[show o+(i+1)*sz+j=o+sz+i*sz+j by rw[Nat.succ_mul];omega];exact h5 j v hj
  ·intro h;refine ⟨by simpa using h 0 x rfl,eW.2 λi y hy=> ?_⟩;obtain ⟨cs,h3,h4,h5⟩:=h (i+1) y (by simpa using hy);refine ⟨cs,h3,h4,λj v hj=> ?_⟩;rw[show o+sz+i*sz+j=o+(i+1)*sz+j by rw[Nat.succ_mul];omega];exact h5 j v hj
def Same (c c':Cx) (r:Id):Prop:=
 c'.L r=c.L r/\((c.obj r).isSome->(c'.obj r).isSome)/\(∀sz xs,(c.obj r).bind Obj.rw=some (sz,xs)->∃ys,(c'.obj r).bind Obj.rw=some (sz,ys)/\ys.length=xs.length)/\
 ∀b,c.L r=some b->(c.obj r).isSome->bX c'.w b=bX c.w b
mutual
theorem kf {c c':Cx} (hz:jV c.w c'.w c.Z c'.Z):∀(a:AV) (v:Value),(∀r∈a.refs,Same c c' r)->RV c a v->RV c' a v
 | .undef,v,_,h=>by simp only[RV]
 | .bare,v,_,h=>by simpa only [RV]using h
 | .d x,v,_,h=>by simp only[RV]at h |-;exact cS hz x _ h
 | .agg as,v,hr,h=>by
  simp only[RV]at h |-;obtain ⟨vs,h1,h2⟩:=h;exact ⟨vs,h1,cu hz as vs (by simpa [AV.refs]using hr) h2⟩
 | .tup as,v,hr,h=>by
  simp only[RV]at h |-;obtain ⟨vs,h1,h2⟩:=h;exact ⟨vs,h1,cu hz as vs (by simpa [AV.refs]using hr) h2⟩
 | .nilp,v,_,h=>by simpa only [RV]using h
 | .emp,v,_,h=>by simpa only [RV]using h
 | .ptr r off,v,hr,h=>by
  simp only[RV]at h |-;obtain ⟨b,h1,h2,h3⟩:=h;obtain ⟨k1,k2,_,_⟩:=hr r (by simp[AV.refs]);exact ⟨b,k2 h1,k1.trans h2,h3⟩
 | .prow r sz i off,v,hr,h=>by
  simp only[RV]at h |-;obtain ⟨b,h1,h2,h3⟩:=h;obtain ⟨k1,k2,_,_⟩:=hr r (by simp[AV.refs]);exact ⟨b,k2 h1,k1.trans h2,h3⟩
 | .sp cs off,v,_,h=>by
  simp only[RV]at h |-;obtain ⟨b,o,vs,h1,h2,h3,h4⟩:=h;exact ⟨b,o,vs,h1,(hz b h2).1,oP hz cs vs h3,λj u hj=>(rM (hz b h2).2).trans (h4 j u hj)⟩
 | .arr r sz g full,v,hr,h=>by
  simp only[RV]at h |-;obtain ⟨a,n,cap,xs,h1,h2,h3,h4,h5,h6,h7,h8⟩:=h;obtain ⟨k1,_,k3,k4⟩:=hr r (by simp[AV.refs]);obtain ⟨ys,k5,k6⟩:=k3 sz xs h4;refine ⟨a,n,cap,ys,h1,h2,h3,k5,λe=>by rw[k6];exact h5 e,λx m e=>by rw[k6];exact h6 x m e,λe=>h7 (k1 ▸ e),λb e=> ?_⟩;have e':=k1 ▸ e;rcases h8 b e' with m | ⟨m1,m2⟩
  ·exact .inl m
  ·exact .inr ⟨m1,by rw[k4 b e' (by cases ho:c.obj r with | none=>simp[ho]at h4 | some _=>rfl)];exact m2⟩
 | .fn f as,v,hr,h=>by
  simp only[RV]at h |-;obtain ⟨vs,h1,h2⟩:=h;exact ⟨vs,h1,cu hz as vs (by simpa [AV.refs]using hr) h2⟩
theorem cu {c c':Cx} (hz:jV c.w c'.w c.Z c'.Z):∀(as:List AV) (vs:List Value),(∀r∈AV.bE as,Same c c' r)->di c as vs->di c' as vs
 | [],vs,_,h=>by simpa only [di]using h
 | a::as,vs,hr,h=>by
  simp only[di]at h |-;obtain ⟨v,vs',h1,h2,h3⟩:=h;exact ⟨v,vs',h1,kf hz a v (λr hm=>hr r (by simp[AV.bE,hm])) h2,cu hz as vs' (λr hm=>hr r (by simp[AV.bE,hm])) h3⟩
end
mutual
theorem Df {w w':World} {Z Z':Nat->Prop} (hz:jV w w' Z Z'):∀(x:D) (v:Value) (F:List Nat),(∀k∈F,w'.heap[k]? =w.heap[k]?)->OC w Z x v F->OC w' Z' x v F
 | .own sz xs,v,F,hf,h=>by
  simp only[OC]at h |-;obtain ⟨a,c,h1,h2⟩:=h;refine ⟨a,c,h1,h2.imp id ?_⟩;rintro ⟨b,vs,F',e1,rfl,e3,e4,e5,e6,e7⟩;exact ⟨b,vs,F',e1,rfl,(hf b (by simp)).trans e3,e4,e5,e6,gm hz sz.2 xs vs.toList F' (λk hk=>hf k (by simp[hk])) e7⟩
 | .agg _,_,_,_,h=>by simp[OC]at h
 | .int k n,v,F,_,h=>by simp only[OC]at h |-;exact ⟨cS hz _ _ h.1,h.2⟩
 | .bool b,v,F,_,h=>by simp only[OC]at h |-;exact ⟨cS hz _ _ h.1,h.2⟩
 | .str s,v,F,_,h=>by simp only[OC]at h |-;exact ⟨cS hz _ _ h.1,h.2⟩
 | .lst xs,v,F,_,h=>by simp only[OC]at h |-;exact ⟨cS hz _ _ h.1,h.2⟩
theorem jC {w w':World} {Z Z':Nat->Prop} (hz:jV w w' Z Z'):∀(xs:List D) (vs:List Value) (F:List Nat),(∀k∈F,w'.heap[k]? =w.heap[k]?)->mS w Z xs vs F->mS w' Z' xs vs F
 | [],vs,F,_,h=>by simpa only [mS]using h
 | d::ds,vs,F,hf,h=>by
  simp only[mS]at h |-;obtain ⟨v,vs',F1,F2,h1,rfl,h2,h3⟩:=h;exact ⟨v,vs',F1,F2,h1,rfl,Df hz d v F1 (λk hk=>hf k (by simp[hk])) h2,jC hz ds vs' F2 (λk hk=>hf k (by simp[hk])) h3⟩
theorem I_ {w w':World} {Z Z':Nat->Prop} (hz:jV w w' Z Z'):∀(x:D) (vs:List Value) (F:List Nat),(∀k∈F,w'.heap[k]? =w.heap[k]?)->OE w Z x vs F->OE w' Z' x vs F
 | .agg ds,vs,F,hf,h=>by simp only[OE]at h |-;exact jC hz ds vs F hf h
 | .own sz xs,vs,F,hf,h=>by
  simp only[OE]at h |-;obtain ⟨v,h1,h2⟩:=h;exact ⟨v,h1,Df hz (.own sz xs) v F hf h2⟩
 | .int k n,vs,F,_,h=>by simp only[OE]at h |-;exact ⟨cS hz _ _ h.1,h.2⟩
 | .bool b,vs,F,_,h=>by simp only[OE]at h |-;exact ⟨cS hz _ _ h.1,h.2⟩
 | .str s,vs,F,_,h=>by simp only[OE]at h |-;exact ⟨cS hz _ _ h.1,h.2⟩
 | .lst xs,vs,F,_,h=>by simp only[OE]at h |-;exact ⟨cS hz _ _ h.1,h.2⟩
theorem gm {w w':World} {Z Z':Nat->Prop} (hz:jV w w' Z Z') (n:Nat):∀(xs:List D) (vs:List Value) (F:List Nat),(∀k∈F,w'.heap[k]? =w.heap[k]?)->jc w Z n xs vs F->jc w' Z' n xs vs F
 | [],vs,F,_,h=>by simpa only [jc]using h
 | x::xs,vs,F,hf,h=>by
  simp only[jc]at h |-;obtain ⟨F1,F2,h1,rfl,h2,h3⟩:=h;exact ⟨F1,F2,h1,rfl,I_ hz x _ F1 (λk hk=>hf k (by simp[hk])) h2,gm hz n xs _ F2 (λk hk=>hf k (by simp[hk])) h3⟩
end
theorem Obj.kB {p:Id->Bool} (o:Obj):(o.forget p).rw=o.rw:=by
 cases o<;>first
  | rfl
  | (simp only[Obj.forget];split<;>rfl)
theorem Obj.l_ {f:Id->Id} (o:Obj):(o.map f).rw=o.rw:=by cases o<;>rfl
theorem Obj.vL {f:Id->Id} (o:Obj):(o.map f).deep=o.deep:=by cases o<;>rfl
def Obj.has (o:Obj) (L:Loc) (r:Id) (b:Nat):Prop:=L r=some b\/(o.deep=true/\L.nest r b)
theorem Obj.dn {p:Id->Bool} {o:Obj} {L:Loc} {r:Id} {b:Nat} (h:(o.forget p).has L r b):o.has L r b:=by
 rcases h with h | ⟨h1,h2⟩
 ·exact .inl h
 ·refine .inr ⟨?_,h2⟩;cases o<;>first
   | exact h1
   | (simp only[Obj.forget]at h1;split at h1<;>first | rfl | cases h1)
def aU (s:br) (L:Loc) (b:Nat):Prop:=∃r ob,s.get r=some ob/\ob.has L r b
structure RS (s:St) (a:Act) (w:World) (L:Loc) (Z:Nat->Prop):Prop where
 defers:a.defers=[]
 env:di ⟨w,Z,L,s.sto.get⟩ s.env a.tmps.toList
 obj:∀r ob,s.sto.get r=some ob->RO ⟨w,Z,L,s.sto.get⟩ r ob
 injH:∀r r' b ob ob',s.sto.get r=some ob->s.sto.get r'=some ob'->ob.has L r b->ob'.has L r' b->r=r'
 dis:∀b,Z b->b<w.heap.size/\¬aU s.sto L b
structure Tr (np:Nat) (s s':br) (w w':World) (L L':Loc) (Z Z':Nat->Prop):Prop where
 os:w'.os=w.os
 tape:w'.tape=w.tape
 output:w'.output=w.output
 size:w.heap.size<=w'.heap.size
 keep:∀b,b<w.heap.size->¬aU s L b->w'.heap[b]? =w.heap[b]?
 lives:∀b,aU s' L' b->aU s L b\/w.heap.size<=b
 zin:∀b,Z b->Z' b
 zout:∀b,Z' b->Z b\/w.heap.size<=b\/aU s L b
 par:∀r:Id,np<=r.1->L' r=L r
 psame:∀r:Id,np<=r.1->(s'.get r).isSome->(s.get r).isSome/\Same ⟨w,Z,L,s.get⟩ ⟨w',Z',L',s'.get⟩ r
theorem Same.refl (c:Cx) (r:Id):Same c c r:=⟨rfl,λh=>h,λ_ xs h=>⟨xs,h,rfl⟩,λ_ _ _=>rfl⟩
theorem Same.trans {a b c:Cx} {r:Id} (h:Same a b r) (k:Same b c r):Same a c r:=by
 obtain ⟨h1,h2,h3,h4⟩:=h;obtain ⟨k1,k2,k3,k4⟩:=k;refine ⟨k1.trans h1,λx=>k2 (h2 x),λsz xs x=> ?_,λb hb hs=> ?_⟩
 ·obtain ⟨ys,y1,y2⟩:=h3 sz xs x;obtain ⟨zs,z1,z2⟩:=k3 sz ys y1;exact ⟨zs,z1,z2.trans y2⟩
 ·exact (k4 b (h1.trans hb) (h2 hs)).trans (h4 b hb hs)
theorem Tr.refl (np:Nat) (s:br) (w:World) (L:Loc) (Z:Nat->Prop):Tr np s s w w L L Z Z:=
 ⟨rfl,rfl,rfl,Nat.le_refl _,λ_ _ _=>rfl,λ_ h=> .inl h,λ_ h=>h,λ_ h=> .inl h,λ_ _=>rfl,λ_ _ h=>⟨h,Same.refl _ _⟩⟩
theorem Tr.trans {np:Nat} {s1 s2 s3:br} {w1 w2 w3:World} {L1 L2 L3:Loc} {Z1 Z2 Z3:Nat->Prop}
  (h:Tr np s1 s2 w1 w2 L1 L2 Z1 Z2) (k:Tr np s2 s3 w2 w3 L2 L3 Z2 Z3):Tr np s1 s3 w1 w3 L1 L3 Z1 Z3 where
 os:=k.os.trans h.os
 tape:=k.tape.trans h.tape
 output:=k.output.trans h.output
 size:=Nat.le_trans h.size k.size
 keep b hb hn:=by
  have h2:¬aU s2 L2 b:=λhl=>by
   rcases h.lives b hl with h3 | h3
   ·exact hn h3
   ·omega
  exact (k.keep b (Nat.lt_of_lt_of_le hb h.size) h2).trans (h.keep b hb hn)
 lives b hl:=by
  rcases k.lives b hl with h1 | h1
  ·exact h.lives b h1
  ·exact .inr (Nat.le_trans h.size h1)
 zin b hz:=k.zin b (h.zin b hz)
 zout b hz:=by
  rcases k.zout b hz with h1 | h1 | h1
  ·exact h.zout b h1
  ·exact .inr (.inl (Nat.le_trans h.size h1))
  ·rcases h.lives b h1 with h2 | h2
   ·exact .inr (.inr h2)
   ·exact .inr (.inl h2)
 par r hr:=(k.par r hr).trans (h.par r hr)
 psame r hr hs:=by
  obtain ⟨k1,k2⟩:=k.psame r hr hs;obtain ⟨h1,h2⟩:=h.psame r hr k1;exact ⟨h1,h2.trans k2⟩
theorem cO {s:br} {r:Id} {ob:Obj} (o:Option Obj) (h:s.get r=some ob):(s.put r o).get r=o:=by
 unfold br.get at h;split at h
 case h_1 l hl=>
  split at h
  case h_1 o' ho=>
   have h1:r.1<s.length:=(aq.1 hl).1;have h2:r.2<l.length:=(aq.1 ho).1;unfold br.put;rw[hl];unfold br.get;dsimp only;rw[List.getElem?_set_self h1];dsimp only;rw[List.getElem?_set_self h2]
  case h_2=>cases h
 case h_2=>cases h
theorem bT {s:br} {r r':Id} (o:Option Obj) (h:r'≠r):(s.put r o).get r'=s.get r':=by
 unfold br.put;split
 case h_1 l hl=>
  unfold br.get;by_cases h1:r'.1=r.1
  ·have h2:r'.2≠r.2:=λe=>h (Prod.ext h1 e)
   have h3:r.1<s.length:=(aq.1 hl).1;rw[h1,List.getElem?_set_self h3,hl];simp[List.getElem?_set,Ne.symm h2]
  ·simp[List.getElem?_set,Ne.symm h1]
 case h_2=>rfl
theorem zl {s:br} {r r':Id}:(s.put r none).get r'=if r'=r then none else s.get r':=by
 by_cases h:r'=r
 ·subst h;simp only[if_true];unfold br.put;split
  case h_1 l hl=>
   have h3:r'.1<s.length:=(aq.1 hl).1;unfold br.get;rw[List.getElem?_set_self h3];by_cases h2:r'.2<l.length
   ·simp[h2]
   ·simp[List.getElem?_set,h2]
  case h_2 hl=>
   unfold br.get;simp[hl]
 ·simp only[h,if_false];exact bT none h
theorem kU {s:br} {p:Id->Bool} {r:Id}:(s.forget p).get r=(s.get r).map (·.forget p):=by
 unfold br.forget br.get;simp only[List.getElem?_map];cases s[r.1]? with
 | none=>rfl
 | some l=>
  simp only[Option.map_some,List.getElem?_map];cases l[r.2]? with
  | none=>rfl
  | some o=>rfl
theorem dH {s s':br} {t:Nat} {l:List (Option Obj)} (h:s.lay t l=some s') (r:Id):
  s'.get r=if r.1=t then (match l[r.2]? with | some o=>o | none=>none)else s.get r:=by
 unfold br.lay at h;split at h
 case h_1 old ho=>
  split at h
  ·injection h with h;subst h;have h3:t<s.length:=(aq.1 ho).1;by_cases e:r.1=t
   ·simp only[e,if_true];unfold br.get;rw[e,List.getElem?_set_self h3];rfl
   ·simp only[e,if_false];unfold br.get;rw[List.getElem?_set_ne (Ne.symm e)]
  ·cases h
 case h_2=>cases h
theorem gq {s s':br} {t:Nat} {l:List (Option Obj)} (h:s.lay t l=some s') (r:Id) (hr:r.1=t):s.get r=none:=by
 unfold br.lay at h;split at h
 case h_1 old ho=>
  split at h
  case isTrue hall=>
   unfold br.get;rw[hr,ho];dsimp only;cases h2:old[r.2]? with
   | none=>rfl
   | some o=>
    have:=List.all_eq_true.1 hall o (List.mem_of_getElem? h2);simpa using this
  case isFalse=>cases h
 case h_2=>cases h
mutual
theorem D5 {c:Cx} {p:Id->Bool}:∀(a:AV) (v:Value),RV c a v->RV c (a.forget p) v
 | .undef,v,h=>by simpa only [AV.forget]using h
 | .bare,v,h=>by simpa only [AV.forget]using h
 | .d x,v,h=>by simpa only [AV.forget]using h
 | .agg as,v,h=>by
  simp only[AV.forget,RV]at h |-;obtain ⟨vs,h1,h2⟩:=h;exact ⟨vs,h1,fo as vs h2⟩
 | .tup as,v,h=>by
  simp only[AV.forget,RV]at h |-;obtain ⟨vs,h1,h2⟩:=h;exact ⟨vs,h1,fo as vs h2⟩
 | .nilp,v,h=>by simpa only [AV.forget]using h
 | .emp,v,h=>by simpa only [AV.forget]using h
 | .ptr r off,v,h=>by
   simp only[AV.forget];split; · simp only[RV]
   ·exact h
 | .prow r sz i off,v,h=>by
     simp only[AV.forget];split; · simp only[RV]
     ·exact h
 | .sp cs off,v,h=>by simpa only [AV.forget]using h
 | .arr r sz g full,v,h=>by
     simp only[AV.forget];split; · simp only[RV]
     ·exact h
 | .fn f as,v,h=>by
  simp only[AV.forget,RV]at h |-;obtain ⟨vs,h1,h2⟩:=h;exact ⟨vs,h1,fo as vs h2⟩
theorem fo {c:Cx} {p:Id->Bool}:∀(as:List AV) (vs:List Value),di c as vs->di c (AV.aM p as) vs
 | [],vs,h=>by simpa only [AV.aM]using h
 | a::as,vs,h=>by
  simp only[AV.aM,di]at h |-;obtain ⟨v,vs',h1,h2,h3⟩:=h;exact ⟨v,vs',h1,D5 a v h2,fo as vs' h3⟩
end
mutual
theorem iF {p:Id->Bool}:∀(a:AV),∀r∈(a.forget p).refs,p r=false
 | .undef,r,h=>by simp[AV.forget,AV.refs]at h
 | .bare,r,h=>by simp[AV.forget,AV.refs]at h
 | .d x,r,h=>by simp[AV.forget,AV.refs]at h
 | .agg as,r,h=>by simp only[AV.forget,AV.refs]at h;exact dJ as r h
 | .tup as,r,h=>by simp only[AV.forget,AV.refs]at h;exact dJ as r h
 | .nilp,r,h=>by simp[AV.forget,AV.refs]at h
 | .emp,r,h=>by simp[AV.forget,AV.refs]at h
 | .ptr q off,r,h=>by
  simp only[AV.forget]at h;split at h
  ·simp[AV.refs]at h
  ·rename_i hp;simp[AV.refs]at h;subst h;simpa using hp
 | .prow q sz i off,r,h=>by
  simp only[AV.forget]at h;split at h
  ·simp[AV.refs]at h
  ·rename_i hp;simp[AV.refs]at h;subst h;simpa using hp
 | .sp cs off,r,h=>by simp[AV.forget,AV.refs]at h
 | .arr q sz g full,r,h=>by
  simp only[AV.forget]at h;split at h
  ·simp[AV.refs]at h
  ·rename_i hp;simp[AV.refs]at h;subst h;simpa using hp
 | .fn f as,r,h=>by simp only[AV.forget,AV.refs]at h;exact dJ as r h
theorem dJ {p:Id->Bool}:∀(as:List AV),∀r∈AV.bE (AV.aM p as),p r=false
 | [],r,h=>by simp[AV.aM,AV.bE]at h
 | a::as,r,h=>by
  simp only[AV.aM,AV.bE,List.mem_append]at h;rcases h with h | h
  ·exact iF a r h
  ·exact dJ as r h
end
mutual
theorem vY {p:Id->Bool}:∀(a:AV),∀r∈(a.forget p).refs,r∈a.refs
 | .undef,r,h=>by simpa [AV.forget]using h
 | .bare,r,h=>by simpa [AV.forget]using h
 | .d x,r,h=>by simpa [AV.forget]using h
 | .agg as,r,h=>by simp only[AV.forget,AV.refs]at h |-;exact fG as r h
 | .tup as,r,h=>by simp only[AV.forget,AV.refs]at h |-;exact fG as r h
 | .nilp,r,h=>by simpa [AV.forget]using h
 | .emp,r,h=>by simpa [AV.forget]using h
 | .ptr q off,r,h=>by
  simp only[AV.forget]at h;split at h; · simp[AV.refs]at h
  ·exact h
 | .prow q sz i off,r,h=>by
    simp only[AV.forget]at h;split at h; · simp[AV.refs]at h
    ·exact h
 | .sp cs off,r,h=>by simpa [AV.forget]using h
 | .arr q sz g full,r,h=>by
    simp only[AV.forget]at h;split at h; · simp[AV.refs]at h
    ·exact h
 | .fn f as,r,h=>by simp only[AV.forget,AV.refs]at h |-;exact fG as r h
theorem fG {p:Id->Bool}:∀(as:List AV),∀r∈AV.bE (AV.aM p as),r∈AV.bE as
 | [],r,h=>by simpa [AV.aM]using h
 | a::as,r,h=>by
  simp only[AV.aM,AV.bE,List.mem_append]at h |-;rcases h with h | h
  ·exact .inl (vY a r h)
  ·exact .inr (fG as r h)
end
theorem kC {c:Cx} {p:Id->Bool} {r:Id} {ob:Obj} (h:RO c r ob):RO c r (ob.forget p):=by
 cases ob with
 | box as=>
  simp only[Obj.forget,RO]at h |-;obtain ⟨b,vs,ty,h1,h2,h3⟩:=h;exact ⟨b,vs,ty,h1,h2,fo as _ h3⟩
 | rows sz xs=>exact h
 | orows sz xs=>exact h
 | gone sz xs=>exact h
 | hrows sz xs i off q esz=>
  simp only[Obj.forget];split
  ·simp only[RO]at h |-;obtain ⟨b,vs,_,_,_,_,_,_,_,_,h1,h2,h3,_⟩:=h;refine ⟨λe=>(by rw[h1]at e;cases e),λb' e=> ?_⟩;rw[h1]at e;injection e with e;subst e;exact ⟨vs,h2,h3⟩
  ·exact h
theorem i9 {c c':Cx} {r:Id} {ob:Obj} (hz:jV c.w c'.w c.Z c'.Z) (hL:c'.L r=c.L r) (hN:c'.L.nest r=c.L.nest r) (hb:∀b,ob.has c.L r b->c'.w.heap[b]? =c.w.heap[b]?)
  (hr:∀q∈ob.refs,Same c c' q) (h:RO c r ob):RO c' r ob:=by
 cases ob with
 | box as=>
  simp only[RO]at h |-;obtain ⟨b,vs,ty,h1,h2,h3⟩:=h;exact ⟨b,vs,ty,hL.trans h1,(hb b (.inl h1)).trans h2,cu hz as _ hr h3⟩
 | rows sz xs=>
  simp only[RO]at h |-;obtain ⟨h1,h2⟩:=h;refine ⟨λe=>h1 (hL ▸ e),λb e=> ?_⟩;have e':=hL ▸ e;obtain ⟨vs,h3,h4,h5⟩:=h2 b e';exact ⟨vs,(hb b (.inl e')).trans h3,h4,mH hz (hb b (.inl e')) xs 0 sz.2 h5⟩
 | gone sz xs=>
  simp only[RO]at h |-;obtain ⟨h1,h2⟩:=h;refine ⟨λe=>h1 (hL ▸ e),λb e=> ?_⟩;have e':=hL ▸ e;obtain ⟨vs,h3,h4⟩:=h2 b e';exact ⟨vs,(hb b (.inl e')).trans h3,h4⟩
 | orows sz xs=>
  simp only[RO]at h |-;obtain ⟨h1,h2⟩:=h;refine ⟨λe=>by rw[hN];exact h1 (hL ▸ e),λb e=> ?_⟩;have e':=hL ▸ e;obtain ⟨vs,F,h3,h4,h5,h6,h7⟩:=h2 b e';exact ⟨vs,F,(hb b (.inl e')).trans h3,h4,gm hz _ _ _ _ (λk hk=>hb k (.inr ⟨rfl,(h7 k).2 hk⟩)) h5,h6,by rw[hN];exact h7⟩
 | hrows sz xs i off q esz=>
  simp only[RO]at h |-;obtain ⟨b,vs,pre,d,post,A1,A2,B1,B2,v,h1,h2,h3,h4,h5,h6,h7,h8,h9,h10,h11,h12,h13,h14,h16,h17⟩:=h;have hk:∀k∈A1++A2++B1++B2,c'.w.heap[k]? =c.w.heap[k]? :=λk hk=>hb k (.inr ⟨rfl,(h17 k).2 hk⟩)
  have hsm:=hr q (by simp[Obj.refs]);refine ⟨b,vs,pre,d,post,A1,A2,B1,B2,v,hL.trans h1,(hb b (.inl h1)).trans h2,h3,h4,h5,h6,h7,gm hz _ _ _ _ (λk m=>hk k (by simp[m])) h8,jC hz _ _ _ (λk m=>hk k (by simp[m])) h9,jC hz _ _ _ (λk m=>hk k (by simp[m])) h10,gm hz _ _ _ _ (λk m=>hk k (by simp[m])) h11,h12,
   kf hz _ _ (λr hr'=>by simp[AV.refs]at hr';subst hr';exact hsm) h13,h14,h16,by rw[hN];exact h17⟩
mutual
theorem uM {c:Cx}:∀(a:AV) (v:Value),RV c a v->∀r∈a.refs,(c.obj r).isSome
 | .undef,v,h,r,hr=>by simp[AV.refs]at hr
 | .bare,v,h,r,hr=>by simp[AV.refs]at hr
 | .d x,v,h,r,hr=>by simp[AV.refs]at hr
 | .agg as,v,h,r,hr=>by simp only[RV]at h;obtain ⟨vs,_,h2⟩:=h;exact dU as vs h2 r (by simpa [AV.refs]using hr)
 | .tup as,v,h,r,hr=>by simp only[RV]at h;obtain ⟨vs,_,h2⟩:=h;exact dU as vs h2 r (by simpa [AV.refs]using hr)
 | .nilp,v,h,r,hr=>by simp[AV.refs]at hr
 | .emp,v,h,r,hr=>by simp[AV.refs]at hr
 | .ptr q off,v,h,r,hr=>by simp only[RV]at h;obtain ⟨b,h1,_⟩:=h;simp[AV.refs]at hr;subst hr;exact h1
 | .prow q sz i off,v,h,r,hr=>by simp only[RV]at h;obtain ⟨b,h1,_⟩:=h;simp[AV.refs]at hr;subst hr;exact h1
 | .sp cs off,v,h,r,hr=>by simp[AV.refs]at hr
 | .arr q sz g full,v,h,r,hr=>by
  simp only[RV]at h;obtain ⟨_,_,_,xs,_,_,_,h4,_⟩:=h;simp[AV.refs]at hr;subst hr;cases ho:c.obj r with
  | none=>simp[ho]at h4
  | some _=>simp
 | .fn f as,v,h,r,hr=>by simp only[RV]at h;obtain ⟨vs,_,h2⟩:=h;exact dU as vs h2 r (by simpa [AV.refs]using hr)
theorem dU {c:Cx}:∀(as:List AV) (vs:List Value),di c as vs->∀r∈AV.bE as,(c.obj r).isSome
 | [],vs,h,r,hr=>by simp[AV.bE]at hr
 | a::as,vs,h,r,hr=>by
  simp only[di]at h;obtain ⟨v,vs',_,h2,h3⟩:=h;simp only[AV.bE,List.mem_append]at hr;rcases hr with hr | hr
  ·exact uM a v h2 r hr
  ·exact dU as vs' h3 r hr
end
abbrev aH (w:World) (Z:Nat->Prop) (L:Loc) (s:br):Cx:=⟨w,Z,L,s.get⟩
theorem Jk {c:Cx} {as:List AV} {vs:List Value} (h:di c as vs) (t:Nat) {a:AV} {v:Value} (hv:RV c a v):di c (as.set t a) (vs.set t v):=by
 rw[bF]at h |-;obtain ⟨h1,h2⟩:=h;refine ⟨by simpa using h1,λi x y hx hy=> ?_⟩;by_cases e:t=i
 ·subst e;have hx':=aq.1 hx;have hy':=aq.1 hy;obtain ⟨k1,k2⟩:=hx';obtain ⟨k3,k4⟩:=hy';simp at k2 k4;subst k2;subst k4;exact hv
 ·rw[List.getElem?_set_ne e]at hx hy;exact h2 i x y hx hy
theorem RS.put {s:St} {a:Act} {w:World} {L:Loc} {Z:Nat->Prop} (h:RS s a w L Z) (dst:Option Nat) {x:AV} {v:Value} (hv:RV (aH w Z L s.sto) x v):
  RS ⟨dR s.env dst x,s.sto⟩ (a.put dst v) w L Z:=by
 cases dst with
 | none=>exact h
 | some t=>
  refine ⟨h.defers,?_,h.obj,h.injH,h.dis⟩;simp only[dR,Act.put,Array.toList_setIfInBounds];exact Jk h.env t hv
theorem RS.get {s:St} {a:Act} {w:World} {L:Loc} {Z:Nat->Prop} (h:RS s a w L Z) {t:Nat} {x:AV} (hx:s.env[t]? =some x):
  RV (aH w Z L s.sto) x (a.tmps.getD t undef):=by
 obtain ⟨h1,h2⟩:=bF.1 h.env;have h3:=(aq.1 hx).1;have h4:t<a.tmps.size:=by rw[<-Array.length_toList,<-h1];exact h3
 refine h2 t x _ hx ?_;simp[Array.getD,h4]
theorem fI {s:St} {r q:Id}:(s.kill r).sto.get q=if q=r then none else (s.sto.get q).map (·.forget (· ==r)):=by
 show ((s.sto.put r none).forget _).get q=_;rw[kU,zl];split
 ·rfl
 ·rfl
theorem pR {s:St} {w:World} {L:Loc} {Z Z':Nat->Prop} {r q:Id} (h:q≠r):Same (aH w Z L s.sto) (aH w Z' L (s.kill r).sto) q:=by
 refine ⟨rfl,λk=> ?_,λsz xs k=> ?_,λ_ _ _=>rfl⟩
 ·dsimp only at k |-;rw[fI,if_neg h];simpa using k
 ·dsimp only at k |-;rw[fI,if_neg h];refine ⟨xs,?_,rfl⟩;cases ho:s.sto.get q with
  | none=>simp[ho]at k
  | some o=>simp only[ho,Option.bind_some]at k;simp[Obj.kB,k]
theorem qI {s:St} {L:Loc} {r:Id} {b:Nat} (h:aU (s.kill r).sto L b):aU s.sto L b:=by
 obtain ⟨q,ob,h1,h2⟩:=h;rw[fI]at h1;split at h1
 ·cases h1
 ·cases h3:s.sto.get q with
  | none=>simp[h3]at h1
  | some o=>
   simp[h3]at h1;subst h1;exact ⟨q,o,h3,Obj.dn h2⟩
theorem gu {s:St} {a:Act} {w:World} {L:Loc} {Z:Nat->Prop} (h:RS s a w L Z) {r:Id} {b:Nat} {ob:Obj} (hr:s.sto.get r=some ob) (hb:ob.has L r b):¬aU (s.kill r).sto L b:=by
 rintro ⟨q,ob,h1,h2⟩;rw[fI]at h1;split at h1
 ·cases h1
 ·rename_i hq;cases h3:s.sto.get q with
  | none=>simp[h3]at h1
  | some o=>
   simp[h3]at h1;subst h1;exact hq (h.injH q r b o ob h3 hr (Obj.dn h2) hb)
theorem Obj.iF {p:Id->Bool} (o:Obj):∀r∈(o.forget p).refs,p r=false:=by
 intro r hr;cases o with
 | box cs=>exact dJ cs r (by simpa [Obj.forget,Obj.refs]using hr)
 | hrows sz xs i off q esz=>
  simp only[Obj.forget]at hr;split at hr
  ·simp[Obj.refs]at hr
  ·rename_i hp;simp[Obj.refs]at hr;subst hr;simpa using hp
 | _=>simp[Obj.forget,Obj.refs]at hr
theorem RS.kill {s:St} {a:Act} {w:World} {L:Loc} {Z:Nat->Prop} (h:RS s a w L Z) (r:Id):RS (s.kill r) a w L Z where
 defers:=h.defers
 env:=by
  refine cu (c:=aH w Z L s.sto) (c':=aH w Z L (s.kill r).sto) (jV.refl _ _) _ _ (λq hq=> ?_) (fo (p:=(· ==r)) s.env _ h.env);have:=dJ s.env q hq;exact pR (by simpa using this)
 obj q ob hq:=by
  rw[fI]at hq;split at hq
  ·cases hq
  ·cases h3:s.sto.get q with
   | none=>simp[h3]at hq
   | some o=>
    simp[h3]at hq;subst hq;refine i9 (c:=aH w Z L s.sto) (c':=aH w Z L (s.kill r).sto) (jV.refl _ _) rfl rfl (λ_ _=>rfl) (λk hk=> ?_) (kC (h.obj q o h3));have:(k==r)=false:=Obj.iF o k hk;exact pR (by simpa using this)
 injH q q' b ob ob' hq hq' hb hb':=by
  have f:∀k o,(s.kill r).sto.get k=some o->∃o',s.sto.get k=some o'/\o=o'.forget (· ==r):=λk o hk=>by
   rw[fI]at hk;split at hk
   ·cases hk
   ·cases h3:s.sto.get k with
    | none=>simp[h3]at hk
    | some o'=>simp[h3]at hk;exact ⟨o',rfl,hk.symm⟩
  obtain ⟨o,h1,rfl⟩:=f q ob hq;obtain ⟨o',h2,rfl⟩:=f q' ob' hq';exact h.injH q q' b o o' h1 h2 (Obj.dn hb) (Obj.dn hb')
 dis b hb:=⟨(h.dis b hb).1,λhl=>(h.dis b hb).2 (qI hl)⟩
theorem wD {s:St} {w:World} {L:Loc} {Z Z':Nat->Prop} {r q:Id} (h:((s.kill r).sto.get q).isSome):(s.sto.get q).isSome/\Same (aH w Z L s.sto) (aH w Z' L (s.kill r).sto) q:=by
 have hne:q≠r:=λe=>by rw[fI,if_pos e]at h;cases h
 exact ⟨by rw[fI,if_neg hne]at h;simpa using h,pR hne⟩
theorem Tr.kill (np:Nat) (s:St) (w:World) (L:Loc) (Z:Nat->Prop) (r:Id):Tr np s.sto (s.kill r).sto w w L L Z Z:=
 ⟨rfl,rfl,rfl,Nat.le_refl _,λ_ _ _=>rfl,λ_ h=> .inl (qI h),λ_ h=>h,λ_ h=> .inl h,λ_ _=>rfl,λ_ _ h=>wD h⟩
mutual
theorem KM {w:World} {Z:Nat->Prop}:∀(x:D) (v:Value) (F:List Nat),OC w Z x v F->∀k∈F,k<w.heap.size
 | .own sz xs,v,F,h,k,hk=>by
  simp only[OC]at h;obtain ⟨a,c,_,h2⟩:=h;rcases h2 with ⟨_,_,rfl⟩ | ⟨b,vs,F',_,rfl,h3,_,_,_,h4⟩
  ·simp at hk
  ·rcases List.mem_cons.1 hk with rfl | hk
   ·exact (Array.getElem?_eq_some_iff.1 h3).1
   ·exact wE sz.2 xs _ F' h4 k hk
 | .agg _,_,_,h,_,_=>by simp[OC]at h
 | .int _ _,_,F,h,k,hk=>by simp only[OC]at h;rw[h.2]at hk;cases hk
 | .bool _,_,F,h,k,hk=>by simp only[OC]at h;rw[h.2]at hk;cases hk
 | .str _,_,F,h,k,hk=>by simp only[OC]at h;rw[h.2]at hk;cases hk
 | .lst _,_,F,h,k,hk=>by simp only[OC]at h;rw[h.2]at hk;cases hk
theorem zB {w:World} {Z:Nat->Prop}:∀(xs:List D) (vs:List Value) (F:List Nat),mS w Z xs vs F->∀k∈F,k<w.heap.size
 | [],_,F,h,k,hk=>by simp only[mS]at h;rw[h.2]at hk;cases hk
 | d::ds,vs,F,h,k,hk=>by
  simp only[mS]at h;obtain ⟨v,vs',F1,F2,_,rfl,h2,h3⟩:=h;rcases List.mem_append.1 hk with hk | hk
  ·exact KM d v F1 h2 k hk
  ·exact zB ds vs' F2 h3 k hk
theorem Oi {w:World} {Z:Nat->Prop}:∀(x:D) (vs:List Value) (F:List Nat),OE w Z x vs F->∀k∈F,k<w.heap.size
 | .agg ds,vs,F,h,k,hk=>by simp only[OE]at h;exact zB ds vs F h k hk
 | .own sz xs,vs,F,h,k,hk=>by simp only[OE]at h;obtain ⟨v,_,h2⟩:=h;exact KM (.own sz xs) v F h2 k hk
 | .int _ _,_,F,h,k,hk=>by simp only[OE]at h;rw[h.2]at hk;cases hk
 | .bool _,_,F,h,k,hk=>by simp only[OE]at h;rw[h.2]at hk;cases hk
 | .str _,_,F,h,k,hk=>by simp only[OE]at h;rw[h.2]at hk;cases hk
 | .lst _,_,F,h,k,hk=>by simp only[OE]at h;rw[h.2]at hk;cases hk
theorem wE {w:World} {Z:Nat->Prop} (n:Nat):∀(xs:List D) (vs:List Value) (F:List Nat),jc w Z n xs vs F->∀k∈F,k<w.heap.size
 | [],_,F,h,k,hk=>by simp only[jc]at h;rw[h]at hk;cases hk
 | x::xs,vs,F,h,k,hk=>by
  simp only[jc]at h;obtain ⟨F1,F2,_,rfl,h2,h3⟩:=h;rcases List.mem_append.1 hk with hk | hk
  ·exact Oi x _ F1 h2 k hk
  ·exact wE n xs _ F2 h3 k hk
end
theorem Ef {c:Cx} {r:Id} {ob:Obj} {b:Nat} (h1:RO c r ob) (hb:ob.has c.L r b):b<c.w.heap.size:=by
 have key:∀{o:Go.Obj} {k:Nat},c.w.heap[k]? =some o->k<c.w.heap.size:=λe=>(Array.getElem?_eq_some_iff.1 e).1
 cases ob with
 | box as=>
  simp only[RO]at h1;obtain ⟨b',vs,ty,h2,h3,_⟩:=h1;rcases hb with hb | ⟨hb,_⟩
  ·rw[hb]at h2;injection h2 with h2;subst h2;exact key h3
  ·cases hb
 | rows sz xs=>
  simp only[RO]at h1;rcases hb with hb | ⟨hb,_⟩
  ·obtain ⟨vs,h3,_⟩:=h1.2 b hb;exact key h3
  ·cases hb
 | gone sz xs=>
  simp only[RO]at h1;rcases hb with hb | ⟨hb,_⟩
  ·obtain ⟨vs,h3,_⟩:=h1.2 b hb;exact key h3
  ·cases hb
 | orows sz xs=>
  simp only[RO]at h1;rcases hb with hb | ⟨_,hb⟩
  ·obtain ⟨vs,F,h3,_⟩:=h1.2 b hb;exact key h3
  ·cases hL:c.L r with
   | none=>exact ((h1.1 hL).2 b hb).elim
   | some b'=>
    obtain ⟨vs,F,h3,_,h4,_,h5⟩:=h1.2 b' hL;exact wE _ _ _ _ h4 b ((h5 b).1 hb)
 | hrows sz xs i off q esz=>
  simp only[RO]at h1;obtain ⟨b',vs,pre,d,post,A1,A2,B1,B2,v,k1,k2,k3,k4,k5,k6,k7,k8,k9,k10,k11,k12,k13,k14,k16,k17⟩:=h1;rcases hb with hb | ⟨_,hb⟩
  ·rw[hb]at k1;injection k1 with k1;subst k1;exact key k2
  ·have:=(k17 b).1 hb;simp only[List.mem_append]at this;rcases this with ((m | m) | m) | m
   ·exact wE _ _ _ _ k8 b m
   ·exact zB _ _ _ k9 b m
   ·exact zB _ _ _ k10 b m
   ·exact wE _ _ _ _ k11 b m
theorem RS.fq {s:St} {a:Act} {w:World} {L:Loc} {Z:Nat->Prop} (h:RS s a w L Z) {r:Id} {ob:Obj} {b:Nat} (hr:s.sto.get r=some ob) (hb:ob.has L r b):b<w.heap.size:=Ef (h.obj r ob hr) hb
theorem RS.block_lt {s:St} {a:Act} {w:World} {L:Loc} {Z:Nat->Prop} (h:RS s a w L Z) {r:Id} {ob:Obj} {b:Nat} (hr:s.sto.get r=some ob) (hb:L r=some b):b<w.heap.size:=h.fq hr (.inl hb)
theorem ko {c:Cx} {r:Id} {ob:Obj} (h:RO c r ob):∀q∈ob.refs,(c.obj q).isSome:=by
 cases ob with
 | box cs=>
  simp only[RO]at h;obtain ⟨_,vs,_,_,_,h6⟩:=h;exact dU _ _ h6
 | hrows sz xs i off q esz=>
  simp only[RO]at h;obtain ⟨b',vs,pre,d,post,A1,A2,B1,B2,v,k1,k2,k3,k4,k5,k6,k7,k8,k9,k10,k11,k12,k13,k14,k16,k17⟩:=h;intro r hr;exact uM _ _ k13 r (by simpa [AV.refs,Obj.refs]using hr)
 | _=>intro q hq;simp[Obj.refs]at hq
theorem RS.Oj {s:St} {a:Act} {w:World} {L:Loc} {Z:Nat->Prop} (h:RS s a w L Z) (X:Nat->Prop) (hX:∀b,X b->b<w.heap.size/\¬aU s.sto L b):
  RS s a w L (λb=>Z b\/X b) where
 defers:=h.defers
 env:=cu (c:=aH w Z L s.sto) (c':=aH w (λb=>Z b\/X b) L s.sto) (λ_ hb=>⟨.inl hb,rfl⟩) _ _ (λq _=>⟨rfl,λk=>k,λsz xs k=>⟨xs,k,rfl⟩,λ_ _ _=>rfl⟩) h.env
 obj q ob hq:=i9 (c:=aH w Z L s.sto) (c':=aH w (λb=>Z b\/X b) L s.sto) (λ_ hb=>⟨.inl hb,rfl⟩) rfl rfl (λ_ _=>rfl) (λq _=>⟨rfl,λk=>k,λsz xs k=>⟨xs,k,rfl⟩,λ_ _ _=>rfl⟩) (h.obj q ob hq)
 injH:=h.injH
 dis b hb:=hb.elim (h.dis b) (hX b)
theorem RS.KN {s:St} {a:Act} {w:World} {L:Loc} {Z:Nat->Prop} (h:RS s a w L Z) {r:Id} {ob:Obj} (hr:s.sto.get r=some ob) (np:Nat):
  RS (s.kill r) a w L (λb=>Z b\/ob.has L r b)/\Tr np s.sto (s.kill r).sto w w L L Z (λb=>Z b\/ob.has L r b):=by
 refine ⟨(h.kill r).Oj _ λb hb=>⟨h.fq hr hb,gu h hr hb⟩,?_⟩;exact ⟨rfl,rfl,rfl,Nat.le_refl _,λ_ _ _=>rfl,λ_ h=> .inl (qI h),λ_ h=> .inl h,λb hb=>hb.imp id λe=> .inr ⟨r,ob,hr,e⟩,λ_ _=>rfl,λ_ _ h=>wD h⟩
def eX (L:Loc) (r:Id) (b:Option Nat) (N:Nat->Prop):Loc:=⟨λq=>if q=r then b else L q,λq=>if q=r then N else L.nest q⟩
def upd (L:Loc) (r:Id) (b:Option Nat):Loc:=eX L r b λ_=>False
theorem AZ (L:Loc) (r:Id) (b:Option Nat):upd L r b r=b:=by simp[upd,eX]
theorem bZ (L:Loc) (r:Id) (b:Option Nat) (N:Nat->Prop):eX L r b N r=b:=by simp[eX]
theorem js (L:Loc) (r:Id) (b:Option Nat) (N:Nat->Prop):(eX L r b N).nest r=N:=by simp[eX]
theorem sq (L:Loc) {r q:Id} (b:Option Nat) (N:Nat->Prop) (h:q≠r):eX L r b N q=L q:=by simp[eX,h]
theorem nL (L:Loc) {r q:Id} (b:Option Nat) (N:Nat->Prop) (h:q≠r):(eX L r b N).nest q=L.nest q:=by simp[eX,h]
theorem iH (L:Loc) {r q:Id} (b:Option Nat) (N:Nat->Prop) (h:q≠r) (o:Obj) (k:Nat):o.has (eX L r b N) q k↔o.has L q k:=by
 unfold Obj.has;rw[sq L b N h,nL L b N h]
theorem RS.Eg {s0 s s':St} {a:Act} {w w':World} {L:Loc} {Z:Nat->Prop} {np t:Nat} {ob:Obj} {nb:Option Nat} {N:Nat->Prop}
  (h:RS s a w L Z) (t0:Tr np s0.sto s.sto w w L L Z Z) (hl:s.lay t [some ob]=some s') (ht:t<np)
  (hos:w'.os=w.os) (htape:w'.tape=w.tape) (hout:w'.output=w.output) (hsize:w.heap.size<=w'.heap.size)
  (hkeep:∀b,b<w.heap.size->some b≠nb->w'.heap[b]? =w.heap[b]?)
  (hnb:∀b,nb=some b->¬Z b/\¬aU s.sto L b/\b<w'.heap.size/\(w.heap.size<=b\/aU s0.sto L b))
  (hN:∀b,ob.deep=true->N b->¬Z b/\¬aU s.sto L b/\b<w'.heap.size/\(w.heap.size<=b\/aU s0.sto L b))
  (hob:RO (aH w' Z (eX L (t,0) nb N) s'.sto) (t,0) ob):
  RS s' a w' (eX L (t,0) nb N) Z/\Tr np s0.sto s'.sto w w' L (eX L (t,0) nb N) Z Z/\s'.env=s.env/\
   ∀q,(s.sto.get q).isSome->Same (aH w Z L s.sto) (aH w' Z (eX L (t,0) nb N) s'.sto) q:=by
 have hlay:s.sto.lay t [some ob]=some s'.sto/\s'.env=s.env:=by
  unfold St.lay at hl;split at hl
  ·rename_i sto e;injection hl with hl;subst hl;exact ⟨e,rfl⟩
  ·cases hl
 obtain ⟨hlay,henv⟩:=hlay;have hfree:∀q:Id,q.1=t->s.sto.get q=none:=gq hlay;have hget:∀q:Id,s'.sto.get q=if q.1=t then (match [some ob][q.2]? with | some o=>o | none=>none)else s.sto.get q:=dH hlay
 have hold:∀q,(s.sto.get q).isSome->q.1≠t:=λq hq e=>by rw[hfree q e]at hq;cases hq
 have hzle:jV w w' Z Z:=λb hb=>⟨hb,hkeep b (h.dis b hb).1 λe=>(hnb b e.symm).1 hb⟩
 have hne:∀q:Id,q.1≠t->q≠(t,0):=λq hq e=>hq (by rw[e])
 have hLold:∀q:Id,q.1≠t->eX L (t,0) nb N q=L q:=λq hq=>sq L nb N (hne q hq)
 have hblk:∀q o b,s.sto.get q=some o->o.has L q b->w'.heap[b]? =w.heap[b]? :=λq o b hq hb=>
  hkeep b (h.fq hq hb) λe=>(hnb b e.symm).2.1 ⟨q,o,hq,hb⟩
 have hsame:∀q,(s.sto.get q).isSome->Same (aH w Z L s.sto) (aH w' Z (eX L (t,0) nb N) s'.sto) q:=λq hq=>by
  refine ⟨hLold q (hold q hq),λk=> ?_,λsz xs k=>⟨xs,?_,rfl⟩,λb hb hs=> ?_⟩
  ·show (s'.sto.get q).isSome;rw[hget,if_neg (hold q hq)];exact k
  ·show (s'.sto.get q).bind Obj.rw=_;rw[hget,if_neg (hold q hq)];exact k
  ·obtain ⟨o,ho⟩:=Option.isSome_iff_exists.1 hq;exact dm (hblk q o b ho (.inl hb))
 have hnew:∀q ob',s'.sto.get q=some ob'->(q=(t,0)/\ob'=ob)\/(q.1≠t/\s.sto.get q=some ob'):=λq ob' hq=>by
  rw[hget]at hq;by_cases e:q.1=t
  ·simp only[e,if_true]at hq;cases hq2:q.2 with
   | zero=>
    simp[hq2]at hq;exact .inl ⟨Prod.ext e hq2,hq.symm⟩
   | succ n=>simp[hq2]at hq
  ·simp only[e,if_false]at hq;exact .inr ⟨e,hq⟩
 have hnh:∀b,ob.has (eX L (t,0) nb N) (t,0) b->¬Z b/\¬aU s.sto L b/\b<w'.heap.size/\(w.heap.size<=b\/aU s0.sto L b):=λb hb=>by
  rcases hb with hb | ⟨h1,hb⟩
  ·rw[bZ]at hb;exact hnb b hb
  ·rw[js]at hb;exact hN b h1 hb
 have hlives:∀b,aU s'.sto (eX L (t,0) nb N) b->ob.has (eX L (t,0) nb N) (t,0) b\/aU s.sto L b:=λb hb=>by
  obtain ⟨q,ob',h1,h2⟩:=hb;rcases hnew q ob' h1 with ⟨rfl,rfl⟩ | ⟨h3,h4⟩
  ·exact .inl h2
  ·exact .inr ⟨q,ob',h4,(iH L nb N (hne q h3) ob' b).1 h2⟩
 refine ⟨⟨h.defers,?_,?_,?_,?_⟩,⟨hos.trans t0.os,htape.trans t0.tape,hout.trans t0.output,hsize,?_,?_,λb hb=>hb,λb hb=> .inl hb,?_,λq hq hs=> ?_⟩,henv,hsame⟩
 ·rw[henv];exact cu (c:=aH w Z L s.sto) hzle _ _ (λq hq=>hsame q (dU _ _ h.env q hq)) h.env
 ·intro q ob' hq;rcases hnew q ob' hq with ⟨rfl,rfl⟩ | ⟨h3,h4⟩
  ·exact hob
  ·refine i9 (c:=aH w Z L s.sto) hzle (hLold q h3) (nL L nb N (hne q h3)) (λb hb=>hblk q ob' b h4 hb) (λk hk=> ?_) (h.obj q ob' h4);exact hsame k (ko (h.obj q ob' h4) k hk)
 ·intro q q' b o o' ho ho' hb hb';rcases hnew q o ho with ⟨rfl,rfl⟩ | ⟨h3,h4⟩<;>rcases hnew q' o' ho' with ⟨rfl,rfl⟩ | ⟨h5,h6⟩
  ·rfl
  ·exact ((hnh b hb).2.1 ⟨q',o',h6,(iH L nb N (hne q' h5) o' b).1 hb'⟩).elim
  ·exact ((hnh b hb').2.1 ⟨q,o,h4,(iH L nb N (hne q h3) o b).1 hb⟩).elim
  ·exact h.injH q q' b o o' h4 h6 ((iH L nb N (hne q h3) o b).1 hb) ((iH L nb N (hne q' h5) o' b).1 hb')
 ·intro b hb;refine ⟨Nat.lt_of_lt_of_le (h.dis b hb).1 hsize,λhl=> ?_⟩;rcases hlives b hl with e | e
  ·exact (hnh b e).1 hb
  ·exact (h.dis b hb).2 e
 ·intro b hb hn;have h1:¬aU s.sto L b:=λhl=>by
   rcases t0.lives b hl with h2 | h2
   ·exact hn h2
   ·omega
  refine hkeep b hb λe=> ?_
  rcases (hnb b e.symm).2.2.2 with h2 | h2
  ·omega
  ·exact hn h2
 ·intro b hb;rcases hlives b hb with e | e
  ·rcases (hnh b e).2.2.2 with h2 | h2
   ·exact .inr h2
   ·exact .inl h2
  ·exact t0.lives b e
 ·intro r hr;exact hLold r (by intro e;rw[e]at hr;omega)
 ·obtain ⟨o,ho⟩:=Option.isSome_iff_exists.1 hs;rcases hnew q o ho with ⟨e,_⟩ | ⟨h3,h4⟩
  ·rw[e]at hq;exact absurd ht (Nat.not_lt.2 hq)
  ·obtain ⟨p1,p2⟩:=t0.psame q hq (by simp[h4]);exact ⟨p1,p2.trans (hsame q (by simp[h4]))⟩
theorem RS.lay {s0 s s':St} {a:Act} {w w':World} {L:Loc} {Z:Nat->Prop} {np t:Nat} {ob:Obj} {nb:Option Nat}
  (h:RS s a w L Z) (t0:Tr np s0.sto s.sto w w L L Z Z) (hl:s.lay t [some ob]=some s') (ht:t<np)
  (hos:w'.os=w.os) (htape:w'.tape=w.tape) (hout:w'.output=w.output) (hsize:w.heap.size<=w'.heap.size)
  (hkeep:∀b,b<w.heap.size->some b≠nb->w'.heap[b]? =w.heap[b]?)
  (hnb:∀b,nb=some b->¬Z b/\¬aU s.sto L b/\b<w'.heap.size/\(w.heap.size<=b\/aU s0.sto L b))
  (hob:RO (aH w' Z (upd L (t,0) nb) s'.sto) (t,0) ob):
  RS s' a w' (upd L (t,0) nb) Z/\Tr np s0.sto s'.sto w w' L (upd L (t,0) nb) Z Z/\s'.env=s.env/\
   ∀q,(s.sto.get q).isSome->Same (aH w Z L s.sto) (aH w' Z (upd L (t,0) nb) s'.sto) q:=
 RS.Eg h t0 hl ht hos htape hout hsize hkeep hnb (λ_ _ hb=>hb.elim) hob
theorem RS.GJ {s0 s:St} {a:Act} {w w':World} {L:Loc} {Z:Nat->Prop} {r:Id} {ob ob':Obj} {b:Nat} {N:Nat->Prop} (np:Nat)
  (h:RS s a w L Z) (t0:Tr np s0.sto s.sto w w L L Z Z) (hr:s.sto.get r=some ob) (hb:L r=some b)
  (hos:w'.os=w.os) (htape:w'.tape=w.tape) (hout:w'.output=w.output) (hsize:w'.heap.size=w.heap.size)
  (hkeep:∀k,k≠b->w'.heap[k]? =w.heap[k]?) (hblk:bX w' b=bX w b)
  (hrows:∀sz xs,ob.rw=some (sz,xs)->∃ys,ob'.rw=some (sz,ys)/\ys.length=xs.length)
  (hN:∀k,ob'.has (eX L r (some b) N) r k->ob.has L r k\/(¬Z k/\¬aU s.sto L k/\k<w.heap.size/\aU s0.sto L k))
  (hob:(∀q,(s.sto.get q).isSome->Same (aH w Z L s.sto) (aH w' Z (eX L r (some b) N) (s.sto.put r (some ob'))) q)->jV w w' Z Z->RO (aH w' Z (eX L r (some b) N) (s.sto.put r (some ob'))) r ob'):
  RS ⟨s.env,s.sto.put r (some ob')⟩ a w' (eX L r (some b) N) Z/\Tr np s0.sto (s.sto.put r (some ob')) w w' L (eX L r (some b) N) Z Z:=by
 have hzle:jV w w' Z Z:=λk hk=>⟨hk,hkeep k λe=>(h.dis k hk).2 (e ▸ ⟨r,ob,hr,.inl hb⟩)⟩
 have hget:∀q,(s.sto.put r (some ob')).get q=if q=r then some ob' else s.sto.get q:=λq=>by
  by_cases e:q=r
  ·subst e;rw[if_pos rfl];exact cO _ hr
  ·rw[if_neg e];exact bT _ e
 have hsome:∀q,((s.sto.put r (some ob')).get q).isSome->(s.sto.get q).isSome:=λq hq=>by
  rw[hget]at hq;split at hq
  ·rename_i e;subst e;simp[hr]
  ·exact hq
 have hLq:∀q,eX L r (some b) N q=L q:=λq=>by
  by_cases e:q=r
  ·subst e;rw[bZ,hb]
  ·exact sq L _ N e
 have hsame:∀q,(s.sto.get q).isSome->Same (aH w Z L s.sto) (aH w' Z (eX L r (some b) N) (s.sto.put r (some ob'))) q:=λq hq=>by
  refine ⟨hLq q,λk=> ?_,λsz xs k=> ?_,λk hk _=> ?_⟩
  ·show ((s.sto.put r (some ob')).get q).isSome;rw[hget];split; · rfl
   ·exact k
  ·show∃ys,((s.sto.put r (some ob')).get q).bind Obj.rw=_/\_;rw[hget];split
   ·rename_i e;subst e;have k':(s.sto.get q).bind Obj.rw=some (sz,xs):=k;rw[hr]at k';exact hrows sz xs k'
   ·exact ⟨xs,k,rfl⟩
  ·by_cases e:k=b
   ·subst e;exact hblk
   ·exact dm (hkeep k e)
 have hfrom:∀q o k,(s.sto.put r (some ob')).get q=some o->o.has (eX L r (some b) N) q k->(∃o2,s.sto.get q=some o2/\o2.has L q k)\/(q=r/\¬Z k/\¬aU s.sto L k/\k<w.heap.size/\aU s0.sto L k):=λq o k h1 h2=>by
  rw[hget]at h1;split at h1
  ·rename_i e;subst e;injection h1 with h1;subst h1;rcases hN k h2 with h3 | h3
   ·exact .inl ⟨ob,hr,h3⟩
   ·exact .inr ⟨rfl,h3⟩
  ·rename_i e;exact .inl ⟨o,h1,(iH L _ N e o k).1 h2⟩
 have hlives:∀k,aU (s.sto.put r (some ob')) (eX L r (some b) N) k->aU s.sto L k\/(¬Z k/\aU s0.sto L k):=λk hk=>by
  obtain ⟨q,o,h1,h2⟩:=hk;rcases hfrom q o k h1 h2 with ⟨o2,m1,m2⟩ | ⟨_,m1,_,_,m2⟩
  ·exact .inl ⟨q,o2,m1,m2⟩
  ·exact .inr ⟨m1,m2⟩
 refine ⟨⟨h.defers,?_,?_,?_,?_⟩,⟨hos.trans t0.os,htape.trans t0.tape,hout.trans t0.output,Nat.le_of_eq hsize.symm,?_,?_,λ_ h=>h,λ_ h=> .inl h,λq _=>hLq q,λq hq hs=> ?_⟩⟩
 ·exact cu (c:=aH w Z L s.sto) hzle _ _ (λq hq=>hsame q (dU _ _ h.env q hq)) h.env
 ·intro q o hq;rw[hget]at hq;split at hq
  ·rename_i e;subst e;injection hq with hq;subst hq;exact hob hsame hzle
  ·rename_i e;refine i9 (c:=aH w Z L s.sto) hzle (hLq q) (nL L _ N e) (λk hk=>hkeep k λe2=>e (h.injH q r b o ob hq hr (e2 ▸ hk) (.inl hb))) (λk hk=> ?_) (h.obj q o hq);exact hsame k (ko (h.obj q o hq) k hk)
 ·intro q q' k o o' hq hq' hk hk';rcases hfrom q o k hq hk with ⟨o2,m1,m2⟩ | ⟨e1,_,m2,_,_⟩<;>rcases hfrom q' o' k hq' hk' with ⟨o3,m3,m4⟩ | ⟨e2,_,m4,_,_⟩
  ·exact h.injH q q' k o2 o3 m1 m3 m2 m4
  ·exact (m4 ⟨q,o2,m1,m2⟩).elim
  ·exact (m2 ⟨q',o3,m3,m4⟩).elim
  ·rw[e1,e2]
 ·intro k hk;refine ⟨by rw[hsize];exact (h.dis k hk).1,λhl=> ?_⟩;rcases hlives k hl with m | ⟨m,_⟩
  ·exact (h.dis k hk).2 m
  ·exact m hk
 ·intro k hk hn;exact hkeep k λe=>by
   rcases t0.lives b ⟨r,ob,hr,.inl hb⟩with m | m
   ·exact hn (e ▸ m)
   ·omega
 ·intro k hk;rcases hlives k hk with m | ⟨_,m⟩
  ·exact t0.lives k m
  ·exact .inl m
 ·obtain ⟨p1,p2⟩:=t0.psame q hq (hsome q hs);exact ⟨p1,p2.trans (hsame q (hsome q hs))⟩
theorem zC {L:Loc} {r:Id} {b:Nat} (hb:L r=some b):eX L r (some b) (L.nest r)=L:=by
 unfold eX;have e1:(λq=>if q=r then some b else L q)=L.main:=by
  funext q;by_cases e:q=r
  ·subst e;simp[hb]
  ·simp[e]
 have e2:(λq=>if q=r then L.nest r else L.nest q)=L.nest:=by
  funext q;by_cases e:q=r
  ·subst e;simp
  ·simp[e]
 rw[e1,e2]
theorem RS.write {s:St} {a:Act} {w w':World} {L:Loc} {Z:Nat->Prop} {r:Id} {ob ob':Obj} {b:Nat} (np:Nat)
  (h:RS s a w L Z) (hr:s.sto.get r=some ob) (hb:L r=some b)
  (hos:w'.os=w.os) (htape:w'.tape=w.tape) (hout:w'.output=w.output) (hsize:w'.heap.size=w.heap.size)
  (hkeep:∀k,k≠b->w'.heap[k]? =w.heap[k]?) (hblk:bX w' b=bX w b)
  (hrows:∀sz xs,ob.rw=some (sz,xs)->∃ys,ob'.rw=some (sz,ys)/\ys.length=xs.length) (hdeep:ob'.deep=true->ob.deep=true)
  (hob:(∀q,(s.sto.get q).isSome->Same (aH w Z L s.sto) (aH w' Z L (s.sto.put r (some ob'))) q)->jV w w' Z Z->RO (aH w' Z L (s.sto.put r (some ob'))) r ob'):
  RS ⟨s.env,s.sto.put r (some ob')⟩ a w' L Z/\Tr np s.sto (s.sto.put r (some ob')) w w' L L Z Z:=by
 have:=RS.GJ (s0:=s) (N:=L.nest r) np h (Tr.refl _ _ _ _ _) hr hb hos htape hout hsize hkeep hblk hrows (by rw[zC hb];exact λk hk=> .inl (hk.imp id λm=>⟨hdeep m.1,m.2⟩)) (by rw[zC hb];exact hob);rw[zC hb]at this;exact this
end Go.Vi
