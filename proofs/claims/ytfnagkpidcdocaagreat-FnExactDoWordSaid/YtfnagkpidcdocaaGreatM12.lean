import Derived.Test.YtfnagkpidcdocaaGreatM11
set_option linter.all false
namespace Go.Vi
open Go Go.RowKit
section
variable {P:Program} {F:FuncId->Option (VF×Bool)} {T:Nat->Option VL} {o:aM}
abbrev S8 (W:World) (b:Nat):Prop:=b<W.heap.size
def Arg (W:World) (x:AV) (v:Value):Prop:=RV ⟨W,S8 W,Loc.none,bC.get [[],[]]⟩ x v
def Args (W:World) (xs:List AV) (vs:List Value):Prop:=dH ⟨W,S8 W,Loc.none,bC.get [[],[]]⟩ xs vs
theorem HJ (ho:aQ F T o) (O:P.follows .mixedOrders=true) (hF:∀f vf raw,F f=some (vf,raw)->okF P T f vf=true) {f:FuncId} {as:List AV} {args:Array Value} {W:World} (U:Args W as args.toList)
  (e:o.call f as []=some ⟨.d (.bool true),[],[]⟩) (V:zh f=f:=by rfl):Calls P f args W λe w'=>e= .returned (.bool true)/\Below W.heap.size W w':=by
 rw[<-V];have j:∀r ob,bC.get [[],[]] r=some ob->False:=by
  intro r ob J;rcases kU J with ⟨_,I⟩ | ⟨_,I⟩<;>simp[jX]at I
 have E:∀b,¬aY [[],[]] Loc.none b:=λb ⟨r,ob,M,_⟩=>j r ob M
 refine (ho.ok O hF e).2 args W Loc.none (S8 W) ⟨rfl,U,λr ob J=>(j r ob J).elim,λr r' b ob ob' J=>(j r ob J).elim,λb S=>⟨S,E b⟩⟩ _ λv w' L' Z' k t=>⟨?_,t.os,t.tape,t.output,t.size,λb S=>t.keep b S (E b)⟩
 have M:=k.env;simp only[dH]at M;obtain ⟨v',vs',e1,I,e2⟩:=M;subst e2;have:v=v':=by have:[v]=[v']:=e1;injection this
 subst this;simp only[RV,RD]at I;injection I with I;rw[I]
theorem DU {c:Cx}:∀{ds:List D} {vs:List Value},fL c.w c.Z ds vs->dH c (ds.map .d) vs
 | [],vs,h=>by simp only[fL]at h;subst h;simp only[List.map_nil,dH]
 | d::ds,vs,h=>by
  simp only[fL]at h;obtain ⟨v,vs',rfl,e,j⟩:=h;simp only[List.map_cons,dH];exact ⟨v,vs',rfl,by simpa only [RV]using e,DU j⟩
variable {H:Type} {enc:TypeId×Value->H} {W:World} {spare:Nat->Bool} {held:Bool} {base:Nat} {r:Reach}
theorem EZ {S:List TypeId} (j:uR P S=true) {t:TypeId} (E:t∈S) {fs:Array Field} (I:P.underlying t=some (.struct fs)) {v:Value} {d:DataW H} {ps:List MemPlace} (e:Value.okWide P W r base t v) (h:DataW.Trod enc P W 0 spare held t v d ps):
  ∃n ds,Arg W (.agg (ds.map .d)) v/\Fits P n t ds:=by
 obtain ⟨fuel,h⟩:=h;obtain ⟨ds,J,M⟩:=AZ j fuel t _ _ E h;unfold Value.okWide at e;rw[I]at e;obtain ⟨cs,rfl,_⟩:=e;refine ⟨fuel,ds,?_,M⟩;unfold Arg;simp only[RV];exact ⟨cs.toList,by simp,DU J⟩
theorem HK {S:List TypeId} (J:uR P S=true) {t e:TypeId} (M:t∈S) (O:P.underlying t=some (.slice e)) {a:Option Addr} {len cap:Nat} {d:DataW H} {ps:List MemPlace} (h:DataW.Trod enc P W 0 spare held t (.slice a len cap) d ps):
  ∃n xs,Arg W (.d (.lst xs)) (.slice a len cap)/\Fits P n t [.lst xs]:=by
 obtain ⟨fuel,h⟩:=h;obtain ⟨ds,E,j⟩:=AZ J fuel t _ _ M h;have I:=j;cases fuel with
 | zero=>simp[Fits]at j
 | succ n=>
  simp only[Fits,O]at j;obtain ⟨xs,rfl,_⟩:=j;refine ⟨n+1,xs,?_,I⟩;unfold Arg;simp only[RV];simp only[fL]at E;obtain ⟨u,us,U,V,e2⟩:=E;subst e2;have:[Value.slice a len cap]=[u]:=U;injection this with this;subst this;exact V
end
def uS (P:Program) (S:List (TypeId×TypeId)):List Field->List Field->Bool
 | [],[]=>true
 | f::fs,g::gs=>f.offset==g.offset&&P.cellsOf f.type==P.cellsOf g.type&&S.contains (f.type,g.type)&&uS P S fs gs
 | _,_=>false
def Oc (P:Program) (S:List (TypeId×TypeId)):Bool:=S.all λp=>match P.underlying p.1,P.underlying p.2 with
 | some .bool,some .bool=>true
 | some (.int k),some (.int k')=>k==k'
 | some .string,some .string=>true
 | some (.slice e),some (.slice e')=>S.contains (e,e')&&cV P e==cV P e'
 | some (.struct fs),some (.struct gs)=>P.cellsOf p.1==P.cellsOf p.2&&uS P S fs.toList gs.toList
 | _,_=>false
theorem yT {P:Program} {S:List (TypeId×TypeId)}:∀{fs gs:List Field},uS P S fs gs=true->∀g∈gs,∃f∈fs,f.offset=g.offset/\P.cellsOf f.type=P.cellsOf g.type/\(f.type,g.type)∈S
 | [],[],_,g,j=>by simp at j
 | f::fs,g::gs,h,x,e=>by
  simp only[uS,af,beq_iff_eq]at h;obtain ⟨⟨⟨E,I⟩,h3⟩,h4⟩:=h;rcases List.mem_cons.1 e with rfl | e
  ·exact ⟨f,by simp,E,I,by simpa using h3⟩
  obtain ⟨f',J,k2⟩:=yT h4 x e;exact ⟨f',by simp[J],k2⟩
 | [],_::_,h,_,_=>by simp[uS]at h
 | _::_,[],h,_,_=>by simp[uS]at h
theorem A7 {P:Program} {S:List (TypeId×TypeId)} (U:Oc P S=true):∀(n:Nat) (t t':TypeId) (ds:List D),(t,t')∈S->Fits P n t ds->Fits P n t' ds:=by
 intro n;induction n with
 | zero=>intro t t' ds _ h;simp[Fits]at h
 | succ n M=>
  intro t t' ds V h;have e:=List.all_eq_true.1 U _ V;simp only[Fits]at h |-;cases E:P.underlying t with
  | none=>simp[E]at h
  | some d=>
   cases j:P.underlying t' with
   | none=>simp[E,j]at e
   | some d'=>
    simp only[E,j]at e h |-;cases d<;>cases d'<;>simp only at e h |- <;>first
     | (cases e;done)
     | exact h
     | (exact h.elim)
     | (have hk:_=_:=(by simpa using e);subst hk;exact h)
     | (
      simp only[af,beq_iff_eq]at e;obtain ⟨xs,I,J,h3⟩:=h;exact ⟨xs,I,J,λx O=>⟨M _ _ _ (by simpa using e.1) (h3 x O).1,by rw[<-e.2];exact (h3 x O).2⟩⟩)
     | (
      simp only[af,beq_iff_eq]at e;obtain ⟨I,J⟩:=h;refine ⟨by rw[<-e.1];exact I,λg hg=> ?_⟩;obtain ⟨f,k1,k2,k3,k4⟩:=yT e.2 g hg;rw[<-k2,<-k3];exact M _ _ _ k4 (J f k1))
theorem aq {ds:List D} {n:Nat} (h:ds.length=n+1):∃c es,ds=c::es/\es.length=n:=by
 cases ds with
 | nil=>simp at h
 | cons c es=>exact ⟨c,es,rfl,by simpa using h⟩
mutual
def Sm (B:Nat):D->Prop
 | .str s=>s.size<=B
 | .lst xs=>xs.length<=B/\kN B xs
 | .agg cs=>kN B cs
 | _=>True
def kN (B:Nat):List D->Prop
 | []=>True
 | x::xs=>Sm B x/\kN B xs
end
theorem kX {B:Nat}:∀{xs:List D},kN B xs↔∀x∈xs,Sm B x
 | []=>by simp[kN]
 | x::xs=>by simp only[kN,kX (xs:=xs),List.mem_cons,forall_eq_or_imp]
theorem kf {B:Nat} {x:D} (h:Sm B x):kN B x.cells:=by
 cases x<;>simp only[D.cells,kN,and_true]<;>first | exact h | (simpa only [Sm]using h)
end Go.Vi
namespace Go.Vi
open Go
section
variable {P:Program} {n:Nat} {t:TypeId} {ds:List D}
theorem fits_int {k:IntKind} (e:P.underlying t=some (.int k)) (h:Fits P n t ds):∃i,ds=[.int k i]/\(Lit.int k i).wf=true:=by
 cases n with
 | zero=>simp[Fits]at h
 | succ n=>simpa only [Fits,e]using h
theorem fits_bool (e:P.underlying t=some .bool) (h:Fits P n t ds):∃b,ds=[.bool b]:=by
 cases n with
 | zero=>simp[Fits]at h
 | succ n=>simpa only [Fits,e]using h
theorem bX (e:P.underlying t=some .string) (h:Fits P n t ds):∃s:ByteArray,ds=[.str s]/\s.size<=maxLen:=by
 cases n with
 | zero=>simp[Fits]at h
 | succ n=>simpa only [Fits,e]using h
theorem bF {e:TypeId} (j:P.underlying t=some (.slice e)) (h:Fits P n t ds):∃xs m,n=m+1/\ds=[.lst xs]/\xs.length<=maxLen/\∀x∈xs,Fits P m e x.cells/\x.many=cV P e:=by
 cases n with
 | zero=>simp[Fits]at h
 | succ n=>
  simp only[Fits,j]at h;obtain ⟨xs,E,I,h3⟩:=h;exact ⟨xs,n,rfl,E,I,h3⟩
theorem fK {x:D} (h:x.many=true):x= .agg x.cells:=by cases x<;>first | rfl | simp[D.many]at h
end
end Go.Vi
namespace Go.Vi
open Go
section
variable {o:aM}
end
end Go.Vi
namespace Go.Vi
open Go
end Go.Vi
namespace Go.Vi
open Go
def Own (P:Program):Nat->TypeId->List D->Prop
 | 0,_,_=>False
 | n+1,t,ds=>match P.underlying t with
  | some .bool=>∃b,ds=[.bool b]
  | some (.int k)=>∃i,ds=[.int k i]/\(Lit.int k i).wf=true
  | some .string=>∃s:ByteArray,ds=[.str s]/\s.size<=maxLen
  | some (.slice e)=>∃xs,ds=[.own (e,P.cellsOf e) xs]/\xs.length<=maxLen/\∀x∈xs,Own P n e x.cells/\x.many=cV P e
  | some (.struct fs)=>ds.length=P.cellsOf t/\∀f∈fs.toList,Own P n f.type ((ds.drop f.offset).take (P.cellsOf f.type))
  | _=>False
theorem gZ:∀xs:List D,aS xs=xs.map bB
 | []=>rfl
 | x::xs=>by simp[aS,gZ xs]
theorem DW:∀x:D,(bB x).cells=aS x.cells
 | .agg cs=>by simp[bB,D.cells]
 | .own sz xs=>by simp[bB,D.cells,aS]
 | .int _ _=>by simp[bB,D.cells,aS]
 | .bool _=>by simp[bB,D.cells,aS]
 | .str _=>by simp[bB,D.cells,aS]
 | .lst _=>by simp[bB,D.cells,aS]
theorem E_:∀x:D,(bB x).many=x.many:=by intro x;cases x<;>simp[bB,D.many]
theorem mM:∀{xs:List D},cJ xs=true↔∀x∈xs,fw x=true
 | []=>by simp[cJ]
 | x::xs=>by simp[cJ,mM (xs:=xs)]
section
variable {P:Program}
theorem DX:∀(n:Nat) (t:TypeId) (ds:List D),Own P n t ds->Fits P n t (aS ds):=by
 intro n;induction n with
 | zero=>intro t ds h;simp[Own]at h
 | succ n j=>
  intro t ds h;simp only[Own]at h;simp only[Fits];cases E:P.underlying t with
  | none=>simp[E]at h
  | some d=>
   simp only[E]at h;cases d<;>simp only at h |- <;>first
    | (exact h.elim)
    | (obtain ⟨b,rfl⟩:=h;exact ⟨b,by simp[aS,bB]⟩)
    | (obtain ⟨i,rfl,e⟩:=h;exact ⟨i,by simp[aS,bB],e⟩)
    | (
     obtain ⟨xs,rfl,e,h3⟩:=h;refine ⟨aS xs,by simp[aS,bB],by rw[cG];exact e,λx I=> ?_⟩;rw[gZ]at I;obtain ⟨y,J,rfl⟩:=List.mem_map.1 I;rw[DW,E_];exact ⟨j _ _ (h3 y J).1,(h3 y J).2⟩)
    | (
     obtain ⟨M,e⟩:=h;refine ⟨by rw[cG];exact M,λf hf=> ?_⟩;have:=j _ _ (e f hf);rw[gZ,List.map_take,List.map_drop,<-gZ]at this;exact this)
theorem A8 {Q:D->Prop} {ds:List D}:∀{fs:List Field} {off total:Nat},lV P fs off total=true->total=ds.length->(∀f∈fs,∀x∈(ds.drop f.offset).take (P.cellsOf f.type),Q x)->∀x∈ds.drop off,Q x
 | [],off,total,h,j,_,x,e=>by
  simp[lV]at h;rw[List.drop_eq_nil_of_le (by omega)]at e;cases e
 | f::fs,off,total,h,j,E,x,e=>by
  simp only[lV,af,beq_iff_eq]at h;obtain ⟨I,J⟩:=h;have:ds.drop off=(ds.drop off).take (P.cellsOf f.type)++ds.drop (off+P.cellsOf f.type):=by
   rw[<-List.drop_drop,List.take_append_drop]
  rw[this]at e;rcases List.mem_append.1 e with e | e
  ·exact E f (by simp) x (by rw[I];exact e)
  exact A8 J j (λg M=>E g (by simp[M])) x e
theorem yU {S:List TypeId} (M:uR P S=true):∀(n:Nat) (t:TypeId) (ds:List D),t∈S->Own P n t ds->cJ ds=true:=by
 intro n;induction n with
 | zero=>intro t ds _ h;simp[Own]at h
 | succ n I=>
  intro t ds O h;have e:=List.all_eq_true.1 M _ O;simp only[Own]at h;cases J:P.underlying t with
  | none=>simp[J]at h
  | some d=>
   simp only[J]at h e;cases d<;>simp only at h e<;>first
    | (exact h.elim)
    | (obtain ⟨b,rfl⟩:=h;rfl)
    | (obtain ⟨i,rfl,j⟩:=h;rfl)
    | (
     obtain ⟨xs,rfl,j,h3⟩:=h;simp only[af]at e;simp only[cJ,fw,Bool.and_true];rw[mM];intro x E;have:=I _ _ (by simpa using e.1) (h3 x E).1;cases x<;>simpa [D.cells,cJ,fw]using this)
    | (
     obtain ⟨U,j⟩:=h;simp only[af]at e;rw[mM];intro x E;refine A8 (Q:=λx=>fw x=true) (off:=0) e.1 U.symm (λf hf y V=> ?_) x (by simpa using E);exact mM.1 (I _ _ (by simpa using List.all_eq_true.1 e.2 f hf) (j f hf)) y V)
variable {n:Nat} {t:TypeId} {ds:List D}
theorem fu {k:IntKind} (e:P.underlying t=some (.int k)) (h:Own P n t ds):∃i,ds=[.int k i]/\(Lit.int k i).wf=true:=by
 cases n with
 | zero=>simp[Own]at h
 | succ n=>simpa only [Own,e]using h
theorem Kg (e:P.underlying t=some .bool) (h:Own P n t ds):∃b,ds=[.bool b]:=by
 cases n with
 | zero=>simp[Own]at h
 | succ n=>simpa only [Own,e]using h
theorem mN (e:P.underlying t=some .string) (h:Own P n t ds):∃s:ByteArray,ds=[.str s]/\s.size<=maxLen:=by
 cases n with
 | zero=>simp[Own]at h
 | succ n=>simpa only [Own,e]using h
theorem iP {e:TypeId} {w:Nat} (j:P.underlying t=some (.slice e)) (E:P.cellsOf e=w) (h:Own P n t ds):∃xs m,n=m+1/\ds=[.own (e,w) xs]/\xs.length<=maxLen/\∀x∈xs,Own P m e x.cells/\x.many=cV P e:=by
 cases n with
 | zero=>simp[Own]at h
 | succ n=>
  simp only[Own,j]at h;obtain ⟨xs,I,J,h3⟩:=h;exact ⟨xs,n,rfl,by rw[<-E];exact I,J,h3⟩
theorem lX {e:TypeId} {w:Nat} {xs:List D} (j:P.underlying t=some (.slice e)) (E:P.cellsOf e=w) (I:xs.length<=maxLen) (h3:∀x∈xs,Own P n e x.cells/\x.many=cV P e):Own P (n+1) t [.own (e,w) xs]:=by
 simp only[Own,j];exact ⟨xs,by rw[E],I,h3⟩
theorem yV {k:IntKind} {i:Int} (e:P.underlying t=some (.int k)) (h:(Lit.int k i).wf=true):Own P (n+1) t [.int k i]:=by simp only[Own,e];exact ⟨i,rfl,h⟩
theorem Fa {s:ByteArray} (e:P.underlying t=some .string) (h:s.size<=maxLen):Own P (n+1) t [.str s]:=by simp only[Own,e];exact ⟨s,rfl,h⟩
theorem ep {fs:Array Field} (e:P.underlying t=some (.struct fs)) (j:ds.length=P.cellsOf t) (E:∀f∈fs.toList,Own P n f.type ((ds.drop f.offset).take (P.cellsOf f.type))):Own P (n+1) t ds:=by simp only[Own,e];exact ⟨j,E⟩
theorem HN:∀(n:Nat) (t:TypeId) (ds:List D),Fits P n t ds->Fits P (n+1) t ds:=by
 intro n;induction n with
 | zero=>intro t ds h;simp[Fits]at h
 | succ n E=>
  intro t ds h;unfold Fits at h |-;split at h<;>first
   | exact h
   | (obtain ⟨xs,e,j,h3⟩:=h;exact ⟨xs,e,j,λx I=>⟨E _ _ (h3 x I).1,(h3 x I).2⟩⟩)
   | (obtain ⟨e,j⟩:=h;exact ⟨e,λf hf=>E _ _ (j f hf)⟩)
theorem dD:∀(n:Nat) (t:TypeId) (ds:List D),Own P n t ds->Own P (n+1) t ds:=by
 intro n;induction n with
 | zero=>intro t ds h;simp[Own]at h
 | succ n E=>
  intro t ds h;unfold Own at h |-;split at h<;>first
   | exact h
   | (obtain ⟨xs,e,j,h3⟩:=h;exact ⟨xs,e,j,λx I=>⟨E _ _ (h3 x I).1,(h3 x I).2⟩⟩)
   | (obtain ⟨e,j⟩:=h;exact ⟨e,λf hf=>E _ _ (j f hf)⟩)
end
mutual
def cnt:D->Int
 | .lst xs=>xs.length+dn xs
 | .own _ xs=>xs.length+dn xs
 | .agg cs=>dn cs
 | _=>0
def dn:List D->Int
 | []=>0
 | x::xs=>cnt x+dn xs
end
mutual
theorem qj:∀x:D,0<=cnt x
 | .lst xs=>by have:=cH xs;simp only[cnt];omega
 | .own _ xs=>by have:=cH xs;simp only[cnt];omega
 | .agg cs=>by have:=cH cs;simp only[cnt];omega
 | .int _ _=>by simp[cnt]
 | .bool _=>by simp[cnt]
 | .str _=>by simp[cnt]
theorem cH:∀xs:List D,0<=dn xs
 | []=>by simp[dn]
 | x::xs=>by have:=qj x;have:=cH xs;simp only[dn];omega
end
mutual
theorem HO:∀x:D,cnt (bB x)=cnt x
 | .lst xs=>by simp only[bB]
 | .own _ xs=>by simp only[bB,cnt,cG,fV xs]
 | .agg cs=>by simp only[bB,cnt,fV cs]
 | .int _ _=>by simp only[bB]
 | .bool _=>by simp only[bB]
 | .str _=>by simp only[bB]
theorem fV:∀xs:List D,dn (aS xs)=dn xs
 | []=>rfl
 | x::xs=>by simp only[aS,dn,HO x,fV xs]
end
theorem A9 {xs:List D} {k:Nat} {x:D} (h:xs[k]? =some x):dn (xs.drop k)=cnt x+dn (xs.drop (k+1)):=by
 obtain ⟨e,j⟩:=ax.1 h;rw[List.drop_eq_getElem_cons e,j];rfl
theorem Kh {xs:List D} {k:Nat} (h:xs.length<=k):dn (xs.drop k)=0:=by rw[List.drop_eq_nil_of_le h];rfl
section
variable {F:FuncId->Option (VF×Bool)} {T:Nat->Option VL} {o:aM} (ho:aQ F T o)
include ho
theorem aQ.bE (xs:List D):o.bE xs=aS xs:=by rw[ho];rfl
theorem aQ.closed (xs:List D):o.closed xs=cJ xs:=by rw[ho];rfl
theorem aQ.flat (xs:List D):o.flat xs=xs.all λx=>match x with | .agg cs=>cs.all dO | x=>dO x:=by rw[ho];rfl
theorem aQ.fits (z b:Nat) (xs:List D):o.fits z b xs=(decide (xs.length*b<=140737488355328/\xs.length<=maxLen)&&xs.all λx=>x.cells.length==z):=by rw[ho];rfl
theorem aQ.ofBytes (xs:List D):o.ofBytes xs=(nO xs).map λbs=>⟨bs.toArray⟩:=by rw[ho];rfl
theorem aQ.s8 (a b:ByteArray):o.s8 a b=decide (((a.size+b.size:Nat):Int)<=IntKind.i64.max):=by rw[ho];rfl
end
end Go.Vi
namespace Go.Vi
end Go.Vi
namespace Go.Vi
def E.go:Nat->Nat->List (Nat×AV)->List AV
 | 0,_,_=>[]
 | n+1,i,[]=> .undef::E.go n (i+1) []
 | n+1,i,(j,a)::l=>match Nat.beq i j with
  | true=>a::E.go n (i+1) l
  | false=> .undef::E.go n (i+1) ((j,a)::l)
def E (n:Nat) (l:List (Nat×AV)):List AV:=E.go n 0 l
def O.go:Nat->Nat->List (Nat×List (Option Obj))->bC
 | 0,_,_=>[]
 | n+1,i,[]=>[]::O.go n (i+1) []
 | n+1,i,(j,a)::l=>match Nat.beq i j with
  | true=>a::O.go n (i+1) l
  | false=>[]::O.go n (i+1) ((j,a)::l)
def O (n:Nat) (l:List (Nat×List (Option Obj))):bC:=O.go n 0 l
abbrev By:=ByteArray
abbrev Lq:=List D
end Go.Vi
namespace Go.Vi
open Go
section
variable {F:FuncId->Option (VF×Bool)} {T:Nat->Option VL} {o:aM} (ho:aQ F T o)
include ho
theorem Gr (a b:Int):o.cmp .lss a b=decide (a<b):=by rw[ho.cmp];rfl
theorem Od (a b:Int):o.cmp .leq a b=decide (a<=b):=by rw[ho.cmp];rfl
theorem Ki (a b:Int):o.cmp .gtr a b=decide (a>b):=by rw[ho.cmp];rfl
theorem Oe (a b:Int):o.cmp .geq a b=decide (a>=b):=by rw[ho.cmp];rfl
theorem Gs (a b:Int):o.cmp .eql a b=(a==b):=by rw[ho.cmp];rfl
theorem Gt (a b:Int):o.cmp .neq a b=(a !=b):=by rw[ho.cmp];rfl
theorem Kj {a b:Int} (h:a<b):o.cmp .lss a b=true:=by rw[Gr ho];exact decide_eq_true h
theorem P8 {a b:Int} (h:b<=a):o.cmp .lss a b=false:=by rw[Gr ho];exact decide_eq_false (by omega)
theorem R6 {a b:Int} (h:b<a):o.cmp .gtr a b=true:=by rw[Ki ho];exact decide_eq_true h
theorem cX {a b:Int} (h:a=b):o.cmp .eql a b=true:=by rw[Gs ho];simp[h]
theorem bN {a b:Int} (h:a≠b):o.cmp .eql a b=false:=by rw[Gs ho];simp[h]
theorem S9 {a b:Int} (h:a≠b):o.cmp .neq a b=true:=by rw[Gt ho];simp[h]
theorem S_ {a b:Int} (h:a=b):o.cmp .neq a b=false:=by rw[Gt ho];simp[h]
theorem dm {a b:Int} (e: -9223372036854775808<=a+b) (j:a+b<=9223372036854775807):o.ar .add .i64 a b=a+b:=by
 rw[ho.ar];simp only[HS];rw[IntKind.wrap_i64];omega
theorem gj {a b:Int} (e: -9223372036854775808<=a-b) (j:a-b<=9223372036854775807):o.ar .sub .i64 a b=a-b:=by
 rw[ho.ar];simp only[HS];rw[IntKind.wrap_i64];omega
theorem Og {a b:Int} (e: -9223372036854775808<=a*b) (j:a*b<=9223372036854775807):o.ar .mul .i64 a b=a*b:=by
 rw[ho.ar];simp only[HS];rw[IntKind.wrap_i64];omega
theorem jA (xs:List D):o.len xs=xs.length:=ho.len xs
theorem ay {xs:List D} {i:Int} {x:D} (e:0<=i) (h:xs[i.toNat]? =some x):o.cF xs i=some x:=by rw[ho.cF];simp[Ag,h,e]
theorem iy {xs:List D} {a n:Int} (e:0<=a) (j:0<=n) (E:a+n<=xs.length):o.sub xs a n=some ((xs.drop a.toNat).take n.toNat):=by rw[ho.sub];unfold Cz;rw[if_pos ⟨e,j,E⟩]
theorem cW {z b:Nat} {xs:List D} (h:(xs.length:Int)<=4194304) (e:b<=200) (hc:∀x∈xs,x.cells.length=z):o.fits z b xs=true:=by
 rw[ho.fits];simp only[af,decide_eq_true_eq,List.all_eq_true,beq_iff_eq];refine ⟨⟨?_,by unfold maxLen;omega⟩,hc⟩;have:xs.length*b<=xs.length*200:=Nat.mul_le_mul_left _ e;omega
theorem P9 (s:ByteArray):o.sLen s=s.size:=ho.sLen s
theorem Kk {s:ByteArray} {i:Int} (e:0<=i) (h:i<s.size):o.BS s i=some ((s[i.toNat]'(by omega)).toNat:Int):=by
 rw[ho];show (if 0<=i then (s[i.toNat]?).map λb=>(b.toNat:Int)else none)=_;rw[if_pos e,getElem?_pos s i.toNat (by omega)];rfl
theorem Ta {a b:Int} (h:o.cmp .lss a b=true):a<b:=by rw[Gr ho]at h;exact of_decide_eq_true h
theorem P_ {a b:Int} (h:o.cmp .lss a b=false):b<=a:=by rw[Gr ho]at h;have:=of_decide_eq_false h;omega
theorem Tb {a b:Int} (h:o.cmp .leq a b=true):a<=b:=by rw[Od ho]at h;exact of_decide_eq_true h
theorem Tc {a b:Int} (h:o.cmp .leq a b=false):b<a:=by rw[Od ho]at h;have:=of_decide_eq_false h;omega
theorem Td {a b:Int} (h:o.cmp .gtr a b=true):b<a:=by rw[Ki ho]at h;exact of_decide_eq_true h
theorem Te {a b:Int} (h:o.cmp .gtr a b=false):a<=b:=by rw[Ki ho]at h;have:=of_decide_eq_false h;omega
theorem Tf {a b:Int} (h:o.cmp .geq a b=true):b<=a:=by rw[Oe ho]at h;exact of_decide_eq_true h
theorem Tg {a b:Int} (h:o.cmp .geq a b=false):a<b:=by rw[Oe ho]at h;have:=of_decide_eq_false h;omega
theorem Qa {a b:Int} (h:o.cmp .eql a b=true):a=b:=by rw[Gs ho]at h;simpa using h
theorem lY {a b:Int} (h:o.cmp .eql a b=false):a≠b:=by rw[Gs ho]at h;simpa using h
theorem Ti {a b:Int} (h:o.cmp .neq a b=true):a≠b:=by rw[Gt ho]at h;simpa using h
theorem Tj {a b:Int} (h:o.cmp .neq a b=false):a=b:=by rw[Gt ho]at h;simpa using h
omit ho in
theorem Fb {a b:ByteArray} (h:a.toList=b.toList):a=b:=by
 rw[ByteArray.toList_eq,ByteArray.toList_eq]at h;exact ByteArray.ext (Array.toList_inj.mp h)
theorem Tk {a b:ByteArray} (h:o.eZ .eql a b=true):a=b:=by rw[ho.eZ]at h;exact Fb (by simpa [rC]using h)
theorem Tl {a b:ByteArray} (h:o.eZ .eql a b=false):a≠b:=by rw[ho.eZ]at h;intro e;simp[rC]at h;exact h (by rw[e])
theorem Tn {a b:ByteArray} (h:o.eZ .neq a b=true):a≠b:=by rw[ho.eZ]at h;intro e;simp[rC]at h;exact h (by rw[e])
theorem Tp {a b:ByteArray} (h:o.eZ .neq a b=false):a=b:=by rw[ho.eZ]at h;exact Fb (by simpa [rC]using h)
omit ho in
theorem down {P:Int->Prop} (n:Int) (j:P n) (E:∀i,0<=i->i<n->P (i+1)->P i):∀i,0<=i->i<=n->P i:=by
 have key':∀(k:Nat) (i:Int),i=n-k->0<=i->P i:=by
  intro k;induction k with
  | zero=>
    intro i hi _;have:i=n:=by omega
    subst this;exact j
  | succ k I=>
   intro i hi e;exact E i e (by omega) (I (i+1) (by omega) (by omega))
 intro i e J;exact key' (n-i).toNat i (by omega) e
theorem Qb {s:ByteArray} {i n:Int} (h:o.BS s i=some n):0<=n/\n<256:=by
 rw[ho]at h
 replace h:(if 0<=i then (s[i.toNat]?).map λb=>(b.toNat:Int)else none)=some n:=h
 split at h
 ·cases e:s[i.toNat]? with
  | none=>rw[e]at h;cases h
  | some b=>rw[e]at h;injection h with h;subst h;have:=b.toNat_lt;dsimp only;omega
 cases h
theorem Qc {n:Int} (e: -9223372036854775808<=n) (j:n<=9223372036854775807):o.wrap .i64 n=n:=by
 have:o.wrap .i64 n=IntKind.wrap .i64 n:=by rw[ho];rfl
 rw[this,IntKind.wrap_i64];omega
theorem Mx {n:Int} (h:0<=n/\n<256):o.wrap .i64 n=n:=Qc ho (by omega) (by omega)
end
theorem aF {xs:List D} {i n:Int} (j:(xs.length:Int)=n) (E:0<=i) (h:i<n):∃x,xs[i.toNat]? =some x/\xs.drop i.toNat=x::xs.drop (i+1).toNat/\x∈xs:=by
 have e:i.toNat<xs.length:=by omega
 refine ⟨xs[i.toNat],bA e,?_,List.getElem_mem e⟩;rw[List.drop_eq_getElem_cons e,show (i+1).toNat=i.toNat+1 by omega]
end Go.Vi
