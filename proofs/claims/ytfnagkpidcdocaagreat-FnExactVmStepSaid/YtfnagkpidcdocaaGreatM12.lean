import Derived.Test.YtfnagkpidcdocaaGreatM11
set_option linter.all false
namespace Go.Vi
open Go Go.RowKit
section
variable {P:Program} {F:FuncId->Option (VF×Bool)} {T:Nat->Option VL} {o:aJ}
abbrev Pj (W:World) (b:Nat):Prop:=b<W.heap.size
def Arg (W:World) (x:AV) (v:Value):Prop:=RV ⟨W,Pj W,Loc.none,br.get [[],[]]⟩ x v
def Args (W:World) (xs:List AV) (vs:List Value):Prop:=di ⟨W,Pj W,Loc.none,br.get [[],[]]⟩ xs vs
theorem Ee (ho:aR F T o) (hmix:P.follows .mixedOrders=true) (hF:∀f vf raw,F f=some (vf,raw)->okF P T f vf=true) {f:FuncId} {as:List AV} {args:Array Value} {W:World} (hv:Args W as args.toList)
  (e:o.call f as []=some ⟨.d (.bool true),[],[]⟩) (hg:wS f=f:=by rfl):Calls P f args W λe w'=>e= .returned (.bool true)/\Below W.heap.size W w':=by
 rw[<-hg];have no_obj:∀r ob,br.get [[],[]] r=some ob->False:=by
  intro r ob hr;rcases kg hr with ⟨_,h2⟩ | ⟨_,h2⟩<;>simp[jy]at h2
 have no_lives:∀b,¬aU [[],[]] Loc.none b:=λb ⟨r,ob,h1,_⟩=>no_obj r ob h1
 refine (ho.ok hmix hF e).2 args W Loc.none (Pj W) ⟨rfl,hv,λr ob hr=>(no_obj r ob hr).elim,λr r' b ob ob' hr=>(no_obj r ob hr).elim,λb hb=>⟨hb,no_lives b⟩⟩ _ λv w' L' Z' k t=>⟨?_,t.os,t.tape,t.output,t.size,λb hb=>t.keep b hb (no_lives b)⟩
 ·have h1:=k.env;simp only[di]at h1;obtain ⟨v',vs',e1,h2,e2⟩:=h1;subst e2;have:v=v':=by have:[v]=[v']:=e1;injection this
  subst this;simp only[RV,RD]at h2;injection h2 with h2;rw[h2]
theorem AY {c:Cx}:∀{ds:List D} {vs:List Value},fk c.w c.Z ds vs->di c (ds.map .d) vs
 | [],vs,h=>by simp only[fk]at h;subst h;simp only[List.map_nil,di]
 | d::ds,vs,h=>by
  simp only[fk]at h;obtain ⟨v,vs',rfl,h1,h2⟩:=h;simp only[List.map_cons,di];exact ⟨v,vs',rfl,by simpa only [RV]using h1,AY h2⟩
variable {H:Type} {enc:TypeId×Value->H} {W:World} {spare:Nat->Bool} {held:Bool} {base:Nat} {r:Reach}
theorem wC {S:List TypeId} (hS:wA P S=true) {t:TypeId} (ht:t∈S) {fs:Array Field} (hu:P.underlying t=some (.struct fs)) {v:Value} {d:DataW H} {ps:List MemPlace} (hval:Value.okWide P W r base t v) (h:DataW.Trod enc P W 0 spare held t v d ps):
  ∃n ds,Arg W (.agg (ds.map .d)) v/\Fits P n t ds:=by
 obtain ⟨fuel,h⟩:=h;obtain ⟨ds,d1,d2⟩:=Ed hS fuel t _ _ ht h;unfold Value.okWide at hval;rw[hu]at hval;obtain ⟨cs,rfl,_⟩:=hval;refine ⟨fuel,ds,?_,d2⟩;unfold Arg;simp only[RV];exact ⟨cs.toList,by simp,AY d1⟩
end
def tD (P:Program) (S:List (TypeId×TypeId)):List Field->List Field->Bool
 | [],[]=>true
 | f::fs,g::gs=>f.offset==g.offset&&P.cellsOf f.type==P.cellsOf g.type&&S.contains (f.type,g.type)&&tD P S fs gs
 | _,_=>false
def KO (P:Program) (S:List (TypeId×TypeId)):Bool:=S.all λp=>match P.underlying p.1,P.underlying p.2 with
 | some .bool,some .bool=>true
 | some (.int k),some (.int k')=>k==k'
 | some .string,some .string=>true
 | some (.slice e),some (.slice e')=>S.contains (e,e')&&bY P e==bY P e'
 | some (.struct fs),some (.struct gs)=>P.cellsOf p.1==P.cellsOf p.2&&tD P S fs.toList gs.toList
 | _,_=>false
theorem wF {P:Program} {S:List (TypeId×TypeId)}:∀{fs gs:List Field},tD P S fs gs=true->∀g∈gs,∃f∈fs,f.offset=g.offset/\P.cellsOf f.type=P.cellsOf g.type/\(f.type,g.type)∈S
 | [],[],_,g,hg=>by simp at hg
 | f::fs,g::gs,h,x,hx=>by
  simp only[tD,af,beq_iff_eq]at h;obtain ⟨⟨⟨h1,h2⟩,h3⟩,h4⟩:=h;rcases List.mem_cons.1 hx with rfl | hx
  ·exact ⟨f,by simp,h1,h2,by simpa using h3⟩
  ·obtain ⟨f',k1,k2⟩:=wF h4 x hx;exact ⟨f',by simp[k1],k2⟩
 | [],_::_,h,_,_=>by simp[tD]at h
 | _::_,[],h,_,_=>by simp[tD]at h
theorem xX {P:Program} {S:List (TypeId×TypeId)} (hS:KO P S=true):∀(n:Nat) (t t':TypeId) (ds:List D),(t,t')∈S->Fits P n t ds->Fits P n t' ds:=by
 intro n;induction n with
 | zero=>intro t t' ds _ h;simp[Fits]at h
 | succ n ih=>
  intro t t' ds hm h;have hp:=List.all_eq_true.1 hS _ hm;simp only[Fits]at h |-;cases hu:P.underlying t with
  | none=>simp[hu]at h
  | some d=>
   cases hu':P.underlying t' with
   | none=>simp[hu,hu']at hp
   | some d'=>
    simp only[hu,hu']at hp h |-;cases d<;>cases d'<;>simp only at hp h |- <;>first
     | (cases hp;done)
     | exact h
     | (exact h.elim)
     | (have hk:_=_:=(by simpa using hp);subst hk;exact h)
     | (
      simp only[af,beq_iff_eq]at hp;obtain ⟨xs,h1,h2,h3⟩:=h;exact ⟨xs,h1,h2,λx hx=>⟨ih _ _ _ (by simpa using hp.1) (h3 x hx).1,by rw[<-hp.2];exact (h3 x hx).2⟩⟩)
     | (
      simp only[af,beq_iff_eq]at hp;obtain ⟨h1,h2⟩:=h;refine ⟨by rw[<-hp.1];exact h1,λg hg=> ?_⟩;obtain ⟨f,k1,k2,k3,k4⟩:=wF hp.2 g hg;rw[<-k2,<-k3];exact ih _ _ _ k4 (h2 f k1))
theorem aG {ds:List D} {n:Nat} (h:ds.length=n+1):∃c es,ds=c::es/\es.length=n:=by
 cases ds with
 | nil=>simp at h
 | cons c es=>exact ⟨c,es,rfl,by simpa using h⟩
mutual
def Sm (B:Nat):D->Prop
 | .str s=>s.size<=B
 | .lst xs=>xs.length<=B/\lg B xs
 | .agg cs=>lg B cs
 | _=>True
def lg (B:Nat):List D->Prop
 | []=>True
 | x::xs=>Sm B x/\lg B xs
end
theorem kq {B:Nat}:∀{xs:List D},lg B xs↔∀x∈xs,Sm B x
 | []=>by simp[lg]
 | x::xs=>by simp only[lg,kq (xs:=xs),List.mem_cons,forall_eq_or_imp]
theorem jG {B:Nat} {x:D} (h:Sm B x):lg B x.cells:=by
 cases x<;>simp only[D.cells,lg,and_true]<;>first | exact h | (simpa only [Sm]using h)
end Go.Vi
namespace Go.Vi
open Go
section
variable {P:Program} {n:Nat} {t:TypeId} {ds:List D}
theorem fits_int {k:IntKind} (hu:P.underlying t=some (.int k)) (h:Fits P n t ds):∃i,ds=[.int k i]/\(Lit.int k i).wf=true:=by
 cases n with
 | zero=>simp[Fits]at h
 | succ n=>simpa only [Fits,hu]using h
theorem fJ (hu:P.underlying t=some .string) (h:Fits P n t ds):∃s:ByteArray,ds=[.str s]/\s.size<=maxLen:=by
 cases n with
 | zero=>simp[Fits]at h
 | succ n=>simpa only [Fits,hu]using h
theorem aS {e:TypeId} (hu:P.underlying t=some (.slice e)) (h:Fits P n t ds):∃xs m,n=m+1/\ds=[.lst xs]/\xs.length<=maxLen/\∀x∈xs,Fits P m e x.cells/\x.many=bY P e:=by
 cases n with
 | zero=>simp[Fits]at h
 | succ n=>
  simp only[Fits,hu]at h;obtain ⟨xs,h1,h2,h3⟩:=h;exact ⟨xs,n,rfl,h1,h2,h3⟩
theorem cT {x:D} (h:x.many=true):x= .agg x.cells:=by cases x<;>first | rfl | simp[D.many]at h
end
end Go.Vi
namespace Go.Vi
open Go
section
variable {o:aJ}
end
end Go.Vi
namespace Go.Vi
open Go
end Go.Vi
namespace Go.Vi
open Go
def Own (P:Program):Nat->TypeId->List D->Prop
 | 0,_,_=>False
 | n+1,t,ds=>match P.underlying t with
  | some .bool=>∃b,ds=[.bool b]
  | some (.int k)=>∃i,ds=[.int k i]/\(Lit.int k i).wf=true
  | some .string=>∃s:ByteArray,ds=[.str s]/\s.size<=maxLen
  | some (.slice e)=>∃xs,ds=[.own (e,P.cellsOf e) xs]/\xs.length<=maxLen/\∀x∈xs,Own P n e x.cells/\x.many=bY P e
  | some (.struct fs)=>ds.length=P.cellsOf t/\∀f∈fs.toList,Own P n f.type ((ds.drop f.offset).take (P.cellsOf f.type))
  | _=>False
theorem eG:∀xs:List D,aT xs=xs.map bn
 | []=>rfl
 | x::xs=>by simp[aT,eG xs]
theorem A7:∀x:D,(bn x).cells=aT x.cells
 | .agg cs=>by simp[bn,D.cells]
 | .own sz xs=>by simp[bn,D.cells,aT]
 | .int _ _=>by simp[bn,D.cells,aT]
 | .bool _=>by simp[bn,D.cells,aT]
 | .str _=>by simp[bn,D.cells,aT]
 | .lst _=>by simp[bn,D.cells,aT]
theorem Cg:∀x:D,(bn x).many=x.many:=by intro x;cases x<;>simp[bn,D.many]
theorem lU:∀{xs:List D},cP xs=true↔∀x∈xs,fY x=true
 | []=>by simp[cP]
 | x::xs=>by simp[cP,lU (xs:=xs)]
section
variable {P:Program}
theorem A8:∀(n:Nat) (t:TypeId) (ds:List D),Own P n t ds->Fits P n t (aT ds):=by
 intro n;induction n with
 | zero=>intro t ds h;simp[Own]at h
 | succ n ih=>
  intro t ds h;simp only[Own]at h;simp only[Fits];cases hu:P.underlying t with
  | none=>simp[hu]at h
  | some d=>
   simp only[hu]at h;cases d<;>simp only at h |- <;>first
    | (exact h.elim)
    | (obtain ⟨b,rfl⟩:=h;exact ⟨b,by simp[aT,bn]⟩)
    | (obtain ⟨i,rfl,h2⟩:=h;exact ⟨i,by simp[aT,bn],h2⟩)
    | (
     obtain ⟨xs,rfl,h2,h3⟩:=h;refine ⟨aT xs,by simp[aT,bn],by rw[ct];exact h2,λx hx=> ?_⟩;rw[eG]at hx;obtain ⟨y,hy,rfl⟩:=List.mem_map.1 hx;rw[A7,Cg];exact ⟨ih _ _ (h3 y hy).1,(h3 y hy).2⟩)
    | (
     obtain ⟨h1,h2⟩:=h;refine ⟨by rw[ct];exact h1,λf hf=> ?_⟩;have:=ih _ _ (h2 f hf);rw[eG,List.map_take,List.map_drop,<-eG]at this;exact this)
theorem xY {Q:D->Prop} {ds:List D}:∀{fs:List Field} {off total:Nat},kZ P fs off total=true->total=ds.length->(∀f∈fs,∀x∈(ds.drop f.offset).take (P.cellsOf f.type),Q x)->∀x∈ds.drop off,Q x
 | [],off,total,h,ht,_,x,hx=>by
  simp[kZ]at h;rw[List.drop_eq_nil_of_le (by omega)]at hx;cases hx
 | f::fs,off,total,h,ht,hq,x,hx=>by
  simp only[kZ,af,beq_iff_eq]at h;obtain ⟨h1,h2⟩:=h;have:ds.drop off=(ds.drop off).take (P.cellsOf f.type)++ds.drop (off+P.cellsOf f.type):=by
   rw[<-List.drop_drop,List.take_append_drop]
  rw[this]at hx;rcases List.mem_append.1 hx with hx | hx
  ·exact hq f (by simp) x (by rw[h1];exact hx)
  ·exact xY h2 ht (λg hg=>hq g (by simp[hg])) x hx
theorem wG {S:List TypeId} (hS:wA P S=true):∀(n:Nat) (t:TypeId) (ds:List D),t∈S->Own P n t ds->cP ds=true:=by
 intro n;induction n with
 | zero=>intro t ds _ h;simp[Own]at h
 | succ n ih=>
  intro t ds ht h;have hp:=List.all_eq_true.1 hS _ ht;simp only[Own]at h;cases hu:P.underlying t with
  | none=>simp[hu]at h
  | some d=>
   simp only[hu]at h hp;cases d<;>simp only at h hp<;>first
    | (exact h.elim)
    | (obtain ⟨b,rfl⟩:=h;rfl)
    | (obtain ⟨i,rfl,h2⟩:=h;rfl)
    | (
     obtain ⟨xs,rfl,h2,h3⟩:=h;simp only[af]at hp;simp only[cP,fY,Bool.and_true];rw[lU];intro x hx;have:=ih _ _ (by simpa using hp.1) (h3 x hx).1;cases x<;>simpa [D.cells,cP,fY]using this)
    | (
     obtain ⟨h1,h2⟩:=h;simp only[af]at hp;rw[lU];intro x hx;refine xY (Q:=λx=>fY x=true) (off:=0) hp.1 h1.symm (λf hf y hy=> ?_) x (by simpa using hx);exact lU.1 (ih _ _ (by simpa using List.all_eq_true.1 hp.2 f hf) (h2 f hf)) y hy)
variable {n:Nat} {t:TypeId} {ds:List D}
theorem fu {k:IntKind} (hu:P.underlying t=some (.int k)) (h:Own P n t ds):∃i,ds=[.int k i]/\(Lit.int k i).wf=true:=by
 cases n with
 | zero=>simp[Own]at h
 | succ n=>simpa only [Own,hu]using h
theorem su (hu:P.underlying t=some .string) (h:Own P n t ds):∃s:ByteArray,ds=[.str s]/\s.size<=maxLen:=by
 cases n with
 | zero=>simp[Own]at h
 | succ n=>simpa only [Own,hu]using h
theorem kr {e:TypeId} {w:Nat} (hu:P.underlying t=some (.slice e)) (hw:P.cellsOf e=w) (h:Own P n t ds):∃xs m,n=m+1/\ds=[.own (e,w) xs]/\xs.length<=maxLen/\∀x∈xs,Own P m e x.cells/\x.many=bY P e:=by
 cases n with
 | zero=>simp[Own]at h
 | succ n=>
  simp only[Own,hu]at h;obtain ⟨xs,h1,h2,h3⟩:=h;exact ⟨xs,n,rfl,by rw[<-hw];exact h1,h2,h3⟩
theorem iA {e:TypeId} {w:Nat} {xs:List D} (hu:P.underlying t=some (.slice e)) (hw:P.cellsOf e=w) (h2:xs.length<=maxLen) (h3:∀x∈xs,Own P n e x.cells/\x.many=bY P e):Own P (n+1) t [.own (e,w) xs]:=by
 simp only[Own,hu];exact ⟨xs,by rw[hw],h2,h3⟩
theorem jt {k:IntKind} {i:Int} (hu:P.underlying t=some (.int k)) (h:(Lit.int k i).wf=true):Own P (n+1) t [.int k i]:=by simp only[Own,hu];exact ⟨i,rfl,h⟩
theorem wH {s:ByteArray} (hu:P.underlying t=some .string) (h:s.size<=maxLen):Own P (n+1) t [.str s]:=by simp only[Own,hu];exact ⟨s,rfl,h⟩
theorem eH {fs:Array Field} (hu:P.underlying t=some (.struct fs)) (h1:ds.length=P.cellsOf t) (h2:∀f∈fs.toList,Own P n f.type ((ds.drop f.offset).take (P.cellsOf f.type))):Own P (n+1) t ds:=by simp only[Own,hu];exact ⟨h1,h2⟩
theorem pq {fs:Array Field} (hu:P.underlying t=some (.struct fs)) (h1:ds.length=P.cellsOf t) (h2:∀f∈fs.toList,Fits P n f.type ((ds.drop f.offset).take (P.cellsOf f.type))):Fits P (n+1) t ds:=by simp only[Fits,hu];exact ⟨h1,h2⟩
theorem pu {e:TypeId} {xs:List D} (hu:P.underlying t=some (.slice e)) (h2:xs.length<=maxLen) (h3:∀x∈xs,Fits P n e x.cells/\x.many=bY P e):Fits P (n+1) t [.lst xs]:=by
 simp only[Fits,hu];exact ⟨xs,rfl,h2,h3⟩
theorem mO:∀(n:Nat) (t:TypeId) (ds:List D),Own P n t ds->Own P (n+1) t ds:=by
 intro n;induction n with
 | zero=>intro t ds h;simp[Own]at h
 | succ n ih=>
  intro t ds h;unfold Own at h |-;split at h<;>first
   | exact h
   | (obtain ⟨xs,h1,h2,h3⟩:=h;exact ⟨xs,h1,h2,λx hx=>⟨ih _ _ (h3 x hx).1,(h3 x hx).2⟩⟩)
   | (obtain ⟨h1,h2⟩:=h;exact ⟨h1,λf hf=>ih _ _ (h2 f hf)⟩)
end
mutual
def cnt:D->Int
 | .lst xs=>xs.length+cQ xs
 | .own _ xs=>xs.length+cQ xs
 | .agg cs=>cQ cs
 | _=>0
def cQ:List D->Int
 | []=>0
 | x::xs=>cnt x+cQ xs
end
mutual
theorem nM:∀x:D,0<=cnt x
 | .lst xs=>by have:=dh xs;simp only[cnt];omega
 | .own _ xs=>by have:=dh xs;simp only[cnt];omega
 | .agg cs=>by have:=dh cs;simp only[cnt];omega
 | .int _ _=>by simp[cnt]
 | .bool _=>by simp[cnt]
 | .str _=>by simp[cnt]
theorem dh:∀xs:List D,0<=cQ xs
 | []=>by simp[cQ]
 | x::xs=>by have:=nM x;have:=dh xs;simp only[cQ];omega
end
mutual
theorem Eh:∀x:D,cnt (bn x)=cnt x
 | .lst xs=>by simp only[bn]
 | .own _ xs=>by simp only[bn,cnt,ct,eJ xs]
 | .agg cs=>by simp only[bn,cnt,eJ cs]
 | .int _ _=>by simp only[bn]
 | .bool _=>by simp only[bn]
 | .str _=>by simp only[bn]
theorem eJ:∀xs:List D,cQ (aT xs)=cQ xs
 | []=>rfl
 | x::xs=>by simp only[aT,cQ,Eh x,eJ xs]
end
theorem xZ {xs:List D} {k:Nat} {x:D} (h:xs[k]? =some x):cQ (xs.drop k)=cnt x+cQ (xs.drop (k+1)):=by
 obtain ⟨h1,h2⟩:=aq.1 h;rw[List.drop_eq_getElem_cons h1,h2];rfl
theorem GK {xs:List D} {k:Nat} (h:xs.length<=k):cQ (xs.drop k)=0:=by rw[List.drop_eq_nil_of_le h];rfl
section
variable {F:FuncId->Option (VF×Bool)} {T:Nat->Option VL} {o:aJ} (ho:aR F T o)
include ho
theorem aR.bS (xs:List D):o.bS xs=aT xs:=by rw[ho];rfl
theorem aR.closed (xs:List D):o.closed xs=cP xs:=by rw[ho];rfl
theorem aR.flat (xs:List D):o.flat xs=xs.all λx=>match x with | .agg cs=>cs.all dF | x=>dF x:=by rw[ho];rfl
theorem aR.fits (z b:Nat) (xs:List D):o.fits z b xs=(decide (xs.length*b<=140737488355328/\xs.length<=maxLen)&&xs.all λx=>x.cells.length==z):=by rw[ho];rfl
theorem aR.ofBytes (xs:List D):o.ofBytes xs=(mP xs).map λbs=>⟨bs.toArray⟩:=by rw[ho];rfl
theorem aR.rJ (a b:ByteArray):o.rJ a b=decide (((a.size+b.size:Nat):Int)<=IntKind.i64.max):=by rw[ho];rfl
end
end Go.Vi
namespace Go.Vi
end Go.Vi
namespace Go.Vi
def E.go:Nat->Nat->List (Nat×AV)->List AV
 | 0,_,_=>[]
 | n+1,i,[]=> .undef::E.go n (i+1) []
 | n+1,i,(j,a)::l=>match Nat.beq i j with
  | true=>a::E.go n (i+1) l
  | false=> .undef::E.go n (i+1) ((j,a)::l)
def E (n:Nat) (l:List (Nat×AV)):List AV:=E.go n 0 l
def O.go:Nat->Nat->List (Nat×List (Option Obj))->br
 | 0,_,_=>[]
 | n+1,i,[]=>[]::O.go n (i+1) []
 | n+1,i,(j,a)::l=>match Nat.beq i j with
  | true=>a::O.go n (i+1) l
  | false=>[]::O.go n (i+1) ((j,a)::l)
def O (n:Nat) (l:List (Nat×List (Option Obj))):br:=O.go n 0 l
end Go.Vi
namespace Go.Vi
open Go
section
variable {F:FuncId->Option (VF×Bool)} {T:Nat->Option VL} {o:aJ} (ho:aR F T o)
include ho
theorem Dr (a b:Int):o.cmp .lss a b=decide (a<b):=by rw[ho.cmp];rfl
theorem KP (a b:Int):o.cmp .leq a b=decide (a<=b):=by rw[ho.cmp];rfl
theorem GL (a b:Int):o.cmp .gtr a b=decide (a>b):=by rw[ho.cmp];rfl
theorem KQ (a b:Int):o.cmp .geq a b=decide (a>=b):=by rw[ho.cmp];rfl
theorem Dt (a b:Int):o.cmp .eql a b=(a==b):=by rw[ho.cmp];rfl
theorem Du (a b:Int):o.cmp .neq a b=(a !=b):=by rw[ho.cmp];rfl
theorem Jl {a b:Int} (h:a<b):o.cmp .lss a b=true:=by rw[Dr ho];exact decide_eq_true h
theorem Ol {a b:Int} (h:b<=a):o.cmp .lss a b=false:=by rw[Dr ho];exact decide_eq_false (by omega)
theorem Om {a b:Int} (h:b<a):o.cmp .gtr a b=true:=by rw[GL ho];exact decide_eq_true h
theorem cw {a b:Int} (h:a=b):o.cmp .eql a b=true:=by rw[Dt ho];simp[h]
theorem bC {a b:Int} (h:a≠b):o.cmp .eql a b=false:=by rw[Dt ho];simp[h]
theorem Ml {a b:Int} (h:a≠b):o.cmp .neq a b=true:=by rw[Du ho];simp[h]
theorem Ot {a b:Int} (h:a=b):o.cmp .neq a b=false:=by rw[Du ho];simp[h]
theorem ck {a b:Int} (h1: -9223372036854775808<=a+b) (h2:a+b<=9223372036854775807):o.ar .add .i64 a b=a+b:=by
 rw[ho.ar];simp only[Ei];rw[IntKind.wrap_i64];omega
theorem dB {a b:Int} (h1: -9223372036854775808<=a-b) (h2:a-b<=9223372036854775807):o.ar .sub .i64 a b=a-b:=by
 rw[ho.ar];simp only[Ei];rw[IntKind.wrap_i64];omega
theorem KR {a b:Int} (h1: -9223372036854775808<=a*b) (h2:a*b<=9223372036854775807):o.ar .mul .i64 a b=a*b:=by
 rw[ho.ar];simp only[Ei];rw[IntKind.wrap_i64];omega
theorem iI (xs:List D):o.len xs=xs.length:=ho.len xs
theorem ak {xs:List D} {i:Int} {x:D} (h0:0<=i) (h:xs[i.toNat]? =some x):o.dD xs i=some x:=by rw[ho.dD];simp[zE,h,h0]
theorem iB {xs:List D} {a n:Int} (h0:0<=a) (h1:0<=n) (h2:a+n<=xs.length):o.sub xs a n=some ((xs.drop a.toNat).take n.toNat):=by rw[ho.sub];unfold zD;rw[if_pos ⟨h0,h1,h2⟩]
theorem cn {z b:Nat} {xs:List D} (h:(xs.length:Int)<=4194304) (hb:b<=200) (hc:∀x∈xs,x.cells.length=z):o.fits z b xs=true:=by
 rw[ho.fits];simp only[af,decide_eq_true_eq,List.all_eq_true,beq_iff_eq];refine ⟨⟨?_,by unfold maxLen;omega⟩,hc⟩;have:xs.length*b<=xs.length*200:=Nat.mul_le_mul_left _ hb;omega
theorem Mn (s:ByteArray):o.sLen s=s.size:=ho.sLen s
theorem GN {s:ByteArray} {i:Int} (h0:0<=i) (h:i<s.size):o.yU s i=some ((s[i.toNat]'(by omega)).toNat:Int):=by
 rw[ho];show (if 0<=i then (s[i.toNat]?).map λb=>(b.toNat:Int)else none)=_;rw[if_pos h0,getElem?_pos s i.toNat (by omega)];rfl
theorem Pk {a b:Int} (h:o.cmp .lss a b=true):a<b:=by rw[Dr ho]at h;exact of_decide_eq_true h
theorem Mp {a b:Int} (h:o.cmp .lss a b=false):b<=a:=by rw[Dr ho]at h;have:=of_decide_eq_false h;omega
theorem Pm {a b:Int} (h:o.cmp .leq a b=true):a<=b:=by rw[KP ho]at h;exact of_decide_eq_true h
theorem Pn {a b:Int} (h:o.cmp .leq a b=false):b<a:=by rw[KP ho]at h;have:=of_decide_eq_false h;omega
theorem Po {a b:Int} (h:o.cmp .gtr a b=true):b<a:=by rw[GL ho]at h;exact of_decide_eq_true h
theorem Pp {a b:Int} (h:o.cmp .gtr a b=false):a<=b:=by rw[GL ho]at h;have:=of_decide_eq_false h;omega
theorem Pq {a b:Int} (h:o.cmp .geq a b=true):b<=a:=by rw[KQ ho]at h;exact of_decide_eq_true h
theorem Pr {a b:Int} (h:o.cmp .geq a b=false):a<b:=by rw[KQ ho]at h;have:=of_decide_eq_false h;omega
theorem Mq {a b:Int} (h:o.cmp .eql a b=true):a=b:=by rw[Dt ho]at h;simpa using h
theorem k_ {a b:Int} (h:o.cmp .eql a b=false):a≠b:=by rw[Dt ho]at h;simpa using h
theorem Pt {a b:Int} (h:o.cmp .neq a b=true):a≠b:=by rw[Du ho]at h;simpa using h
theorem Pu {a b:Int} (h:o.cmp .neq a b=false):a=b:=by rw[Du ho]at h;simpa using h
omit ho in
theorem Ch {a b:ByteArray} (h:a.toList=b.toList):a=b:=by
 rw[ByteArray.toList_eq,ByteArray.toList_eq]at h;exact ByteArray.ext (Array.toList_inj.mp h)
theorem Pv {a b:ByteArray} (h:o.gM .eql a b=true):a=b:=by rw[ho.gM]at h;exact Ch (by simpa [uh]using h)
theorem Pw {a b:ByteArray} (h:o.gM .eql a b=false):a≠b:=by rw[ho.gM]at h;intro e;simp[uh]at h;exact h (by rw[e])
theorem Px {a b:ByteArray} (h:o.gM .neq a b=true):a≠b:=by rw[ho.gM]at h;intro e;simp[uh]at h;exact h (by rw[e])
theorem Py {a b:ByteArray} (h:o.gM .neq a b=false):a=b:=by rw[ho.gM]at h;exact Ch (by simpa [uh]using h)
omit ho in
theorem down {P:Int->Prop} (n:Int) (he:P n) (hs:∀i,0<=i->i<n->P (i+1)->P i):∀i,0<=i->i<=n->P i:=by
 have key':∀(k:Nat) (i:Int),i=n-k->0<=i->P i:=by
  intro k;induction k with
  | zero=>
    intro i hi _;have:i=n:=by omega
    subst this;exact he
  | succ k ih=>
   intro i hi h0;exact hs i h0 (by omega) (ih (i+1) (by omega) (by omega))
 intro i h0 h1;exact key' (n-i).toNat i (by omega) h0
theorem Mr {s:ByteArray} {i n:Int} (h:o.yU s i=some n):0<=n/\n<256:=by
 rw[ho]at h
 replace h:(if 0<=i then (s[i.toNat]?).map λb=>(b.toNat:Int)else none)=some n:=h
 split at h
 ·cases e:s[i.toNat]? with
  | none=>rw[e]at h;cases h
  | some b=>rw[e]at h;injection h with h;subst h;have:=b.toNat_lt;dsimp only;omega
 ·cases h
theorem Ms {n:Int} (h1: -9223372036854775808<=n) (h2:n<=9223372036854775807):o.wrap .i64 n=n:=by
 have:o.wrap .i64 n=IntKind.wrap .i64 n:=by rw[ho];rfl
 rw[this,IntKind.wrap_i64];omega
theorem Jm {n:Int} (h:0<=n/\n<256):o.wrap .i64 n=n:=Ms ho (by omega) (by omega)
end
theorem ax {xs:List D} {i n:Int} (hn:(xs.length:Int)=n) (h0:0<=i) (h:i<n):∃x,xs[i.toNat]? =some x/\xs.drop i.toNat=x::xs.drop (i+1).toNat/\x∈xs:=by
 have hlt:i.toNat<xs.length:=by omega
 refine ⟨xs[i.toNat],bg hlt,?_,List.getElem_mem hlt⟩;rw[List.drop_eq_getElem_cons hlt,show (i+1).toNat=i.toNat+1 by omega]
end Go.Vi
