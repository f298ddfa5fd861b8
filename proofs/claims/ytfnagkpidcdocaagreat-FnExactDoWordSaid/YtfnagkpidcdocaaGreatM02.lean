import Derived.Test.YtfnagkpidcdocaaGreatM01
import Derived.Laws.AppendOwn
import Derived.Laws.Cells
import Derived.Laws.Slices
import Derived.Laws.Entries
set_option linter.all false
namespace Go.Vi
open Go Go.RowKit
def HS (op:BinOp) (k:IntKind) (a b:Int):Int:=
 match op with
 | .add=>k.wrap (a+b)
 | .sub=>k.wrap (a-b)
 | .mul=>k.wrap (a*b)
 | .quo=>k.wrap (a.tdiv b)
 | .rem=>a.tmod b
 | .and=>k.wrap (BitVec.ofInt k.bits a&&&BitVec.ofInt k.bits b).toNat
 | .or=>k.wrap (BitVec.ofInt k.bits a ||| BitVec.ofInt k.bits b).toNat
 | .xor=>k.wrap (BitVec.ofInt k.bits a^^^BitVec.ofInt k.bits b).toNat
 | .shl=>k.wrap (a*2^(min b.toNat k.bits))
 | .shr=>a.fdiv (2^(min b.toNat k.bits))
 | _=>0
def rV (op:BinOp) (a b:Int):Bool:=
 match op with
 | .eql=>a==b
 | .neq=>a !=b
 | .lss=>decide (a<b)
 | .leq=>decide (a<=b)
 | .gtr=>decide (a>b)
 | .geq=>decide (a>=b)
 | _=>false
def rC (op:BinOp) (x y:ByteArray):Bool:=
 match op with
 | .eql=>x.toList==y.toList
 | .neq=> !(x.toList==y.toList)
 | .lss=>Op.bytesLess x.toList y.toList
 | .leq=>Op.bytesLess x.toList y.toList || x.toList==y.toList
 | .gtr=> !(Op.bytesLess x.toList y.toList || x.toList==y.toList)
 | .geq=> !(Op.bytesLess x.toList y.toList)
 | _=>false
def nO:List D->Option (List UInt8)
 | []=>some []
 | .int .u8 n::l=>match nO l with
  | some bs=>some (UInt8.ofNat n.toNat::bs)
  | none=>none
 | _=>none
def Cz (xs:List D) (a n:Int):Option (List D):=if 0<=a/\0<=n/\a+n<=xs.length then some ((xs.drop a.toNat).take n.toNat)else none
def Ag (xs:List D) (i:Int):Option D:=if 0<=i then xs[i.toNat]? else none
mutual
def bB:D->D
 | .own _ xs=> .lst (aS xs)
 | .agg cs=> .agg (aS cs)
 | x=>x
def aS:List D->List D
 | []=>[]
 | x::xs=>bB x::aS xs
end
mutual
def fw:D->Bool
 | .lst xs=>xs.isEmpty
 | .agg cs=>cJ cs
 | .own _ xs=>cJ xs
 | _=>true
def cJ:List D->Bool
 | []=>true
 | x::xs=>fw x&&cJ xs
end
theorem cG:∀xs:List D,(aS xs).length=xs.length
 | []=>rfl
 | x::xs=>by simp[aS,cG xs]
def real (call:dh) (loop:di):aM:=
 .mk call loop HS (λk n=>k.wrap n) (λa b=>a+b) (λa b=>a-b) rV (λa=>decide (a=0)) rC (λa b=>a++b) (λa b=>decide (((a.size+b.size:Nat):Int)<=IntKind.i64.max))
  (λs=>s.size) (λs i=>if 0<=i then (s[i.toNat]?).map λb=>(b.toNat:Int)else none)
  (λs l h=>if 0<=l/\l<=h/\h<=s.size then some (s.extract l.toNat h.toNat)else none)
  (λs=>s.data.toList.map λb=> .int .u8 b.toNat) (λl=>(nO l).map λbs=>⟨bs.toArray⟩)
  (λxs=>xs.length) Ag Cz (λxs ys=>xs++ys) (λxs i x=>xs.set i.toNat x) (λn x=>List.replicate n.toNat x)
  (λz b xs=>decide (xs.length*b<=140737488355328/\xs.length<=maxLen)&&xs.all λx=>x.cells.length==z) (λb n=>decide (0<=n/\n*b<=140737488355328/\n<=9223372036854775807))
  (λxs ys=>ys.take xs.length++xs.drop ys.length) aS cJ (λxs=>xs.all λx=>match x with | .agg cs=>cs.all dO | x=>dO x)
variable {P:Program} {call:dh} {loop:di}
theorem A_ {w:World} {Z:Nat->Prop} {b sz:Nat}:∀{xs:List D} {o:Nat} (k:Nat),Rows w Z xs b o sz->Rows w Z (xs.drop k) b (o+k*sz) sz:=by
 intro xs o k h;rw[fI]at h |-;intro i x e;rw[List.getElem?_drop]at e;obtain ⟨cs,E,I,h3⟩:=h (k+i) x e;refine ⟨cs,E,I,λj v J=> ?_⟩;rw[show o+k*sz+i*sz+j=o+(k+i)*sz+j by rw[Nat.add_mul];omega];exact h3 j v J
theorem nP {w:World} {Z:Nat->Prop} {b sz:Nat}:∀{xs:List D} {o:Nat} (k:Nat),Rows w Z xs b o sz->Rows w Z (xs.take k) b o sz:=by
 intro xs o k h;rw[fI]at h |-;intro i x e;rw[List.getElem?_take]at e;split at e
 ·exact h i x e
 cases e
theorem cZ {s:bC} {w:World} {L:Loc} {Z:Nat->Prop} {x:AV} {v:Value} {xs:List D}
  (a1:∀r ob,s.get r=some ob->RO (aI w Z L s) r ob) (E:RV (aI w Z L s) x v) (h:content (real call loop) s x=some xs):
  ∃A cap,v= .slice A xs.length cap/\xs.length<=cap/\(xs=[]\/∃b o sz,A=some ⟨b,o,none⟩/\Rows w Z xs b o sz/\(Z b\/∃r z g u ob,x= .arr r z g u/\s.get r=some ob/\L r=some b)):=by
 cases x with
 | d y=>
  cases y with
  | lst ys=>
   simp only[content]at h;injection h with h;subst h;simp only[RV,RD]at E;obtain ⟨a,c,j,S,h3⟩:=E;injection j with j;refine ⟨a,c,j,S,h3.imp id ?_⟩;rintro ⟨b,o,sz,h4,U,h6⟩;exact ⟨b,o,sz,h4,h6,.inl U⟩
  | _=>simp[content]at h
 | emp=>
  simp only[content]at h;injection h with h;subst h;simp only[RV]at E;obtain ⟨a,j⟩:=E;exact ⟨a,0,j,Nat.le_refl _,.inl rfl⟩
 | arr r sz g u=>
  simp only[RV]at E;obtain ⟨a,n,cap,ys,j,⟨S,_⟩,_,h4,U,h6,h7,h8⟩:=E;have J:s.get r=some (.rows sz ys):=by
   have e:(s.get r).bind Obj.rw=some (sz,ys):=h4;simp only[content]at h;split at h
   ·rename_i s' ys' hg;rw[hg]at e |-;simp only[Option.bind_some,Obj.rw]at e;injection e with e;injection e with e1 e2;rw[e1,e2]
   cases h
  have M:=a1 r _ J;simp only[RO]at M;simp only[content,J]at h;cases I:L r with
  | none=>
   have hy:ys=[]:=M.1 I;have hc:cap=0:=h7 I;have hn:n=0:=by omega
   have hx:xs=[]:=by
    cases g with
    | none=>simp only at h;injection h with h;rw[<-h];exact hy
    | some p=>
     obtain ⟨x,m⟩:=p;simp only[real,aM.sub,Cz]at h;split at h
     ·injection h with h;rw[<-h,hy];simp
     cases h
   subst hx;exact ⟨a,cap,by rw[j,hn];rfl,by simp,.inl rfl⟩
  | some b=>
   obtain ⟨vs,h9,a3,V⟩:=M.2 b I;have a0:∃r' z g' u' ob,AV.arr r sz g u= .arr r' z g' u'/\s.get r'=some ob/\L r'=some b:=⟨r,sz,g,u,_,rfl,J,I⟩
   cases g with
   | none=>
    simp only at h;injection h with h;subst h;refine ⟨a,cap,by rw[j,U rfl],by rw[<-U rfl];exact S,.inr ?_⟩;rcases h8 b I with ⟨_,k2⟩ | ⟨k1,_⟩
    ·exact (k2 rfl).elim
    exact ⟨b,0,sz.2,by simpa [br]using k1,V,.inr a0⟩
   | some p=>
    obtain ⟨x,m⟩:=p;obtain ⟨k1,k2,k3⟩:=h6 x m rfl;simp only[real,aM.sub,Cz]at h;split at h
    case isFalse=>cases h
    rename_i hc;injection h with h;have O:xs.length=n:=by
     rw[<-h,List.length_take,List.length_drop];subst k2;omega
    refine ⟨a,cap,by rw[j,O],by rw[O];exact S,?_⟩;rcases h8 b I with ⟨m1,_⟩ | ⟨m1,_⟩
    ·left;apply List.eq_nil_of_length_eq_zero;omega
    refine .inr ⟨b,br (some (x,m))*sz.2,sz.2,m1,?_,.inr a0⟩;rw[<-h];have:=nP m.toNat (A_ x.toNat V);simpa [br]using this
 | _=>simp[content]at h
theorem lZ {s:bC} {w:World} {L:Loc} {Z:Nat->Prop} {r:Id} {sz:gJ} {g:Option (Int×Int)} {u:Bool} {v:Value} {xs:List D}
  (O:∀r ob,s.get r=some ob->RO (aI w Z L s) r ob) (I:RV (aI w Z L s) (.arr r sz g u) v) (h:fG (real call loop) s (.arr r sz g u)=some xs):
  ∃A cap,v= .slice A xs.length cap:=by
 have key:∀ys,(s.get r).bind Obj.rw=some (sz,ys)->JN (real call loop) g ys=some xs->∃A cap,v= .slice A xs.length cap:=by
  intro ys S E;simp only[RV]at I;obtain ⟨a,n,cap,zs,J,_,_,h4,V,h6,_⟩:=I;have j:(s.get r).bind Obj.rw=some (sz,zs):=h4;rw[S]at j;injection j with j;injection j with _ e2;subst e2;cases g with
  | none=>
   simp only[JN]at E;injection E with E;subst E;exact ⟨a,cap,by rw[J,V rfl]⟩
  | some p=>
   obtain ⟨x,m⟩:=p;obtain ⟨k1,k2,k3⟩:=h6 x m rfl;simp only[JN,real,aM.sub,Cz]at E;split at E
   case isFalse=>cases E
   rename_i hc;injection E with E;refine ⟨a,cap,?_⟩;rw[J,<-E,List.length_take,List.length_drop];congr 1;omega
 have M:∀s' ys,(s.get r).bind Obj.rw=some (s',ys)->s'=sz:=by
  intro s' ys S;simp only[RV]at I;obtain ⟨a,n,cap,zs,J,_,_,h4,_⟩:=I;have j:(s.get r).bind Obj.rw=some (sz,zs):=h4;rw[S]at j;injection j with j;injection j with e1 _
 simp only[fG]at h;split at h
 ·rename_i s' ys U;have e:(s.get r).bind Obj.rw=some (s',ys):=by rw[U];rfl
  have:=M _ _ e;subst this;exact key ys e h
 ·rename_i s' ys _ _ _ _ U;have e:(s.get r).bind Obj.rw=some (s',ys):=by rw[U];rfl
  have:=M _ _ e;subst this;exact key ys e h
 obtain ⟨A,cap,J,_⟩:=cZ O I h;exact ⟨A,cap,J⟩
theorem CA {s:bC} {r:Id} {sz sz':gJ} {g:Option (Int×Int)} {u:Bool} {xs ys:List D} (h:content (real call loop) s (.arr r sz g u)=some xs) (h4:(s.get r).bind Obj.rw=some (sz',ys)):s.get r=some (.rows sz' ys):=by
 simp only[content]at h;split at h
 ·rename_i s' ys' e;rw[e]at h4 |-;simp only[Option.bind_some,Obj.rw]at h4;injection h4 with h4;injection h4 with j E;rw[j,E]
 cases h
theorem yX {s:bC} {r:Id} {sz:gJ} {xs:List D} (h:s.get r=some (.rows sz xs)):(s.get r).bind Obj.rw=some (sz,xs):=by rw[h];rfl
mutual
theorem Oh {w:World} {Z:Nat->Prop}:∀(x:D) (v:Value) (F:List Nat),OC w Z x v F->RD w Z x [v]
 | .own sz xs,v,F,h=>by simp only[OC]at h;obtain ⟨a,c,e,_⟩:=h;simp only[RD];exact ⟨a,_,c,by rw[e.1]⟩
 | .agg _,_,_,h=>by simp[OC]at h
 | .int k n,v,F,h=>by simp only[OC]at h;exact h.1
 | .bool b,v,F,h=>by simp only[OC]at h;exact h.1
 | .str s,v,F,h=>by simp only[OC]at h;exact h.1
 | .lst xs,v,F,h=>by simp only[OC]at h;exact h.1
theorem wC {w:World} {Z:Nat->Prop}:∀(xs:List D) (vs:List Value) (F:List Nat),nE w Z xs vs F->fL w Z xs vs
 | [],vs,F,h=>by simp only[nE]at h;simp only[fL];exact h.1
 | d::ds,vs,F,h=>by
  simp only[nE]at h;obtain ⟨v,vs',F1,F2,e,_,j,h3⟩:=h;simp only[fL];exact ⟨v,vs',e,Oh d v F1 j,wC ds vs' F2 h3⟩
theorem Oi {w:World} {Z:Nat->Prop}:∀(x:D) (vs:List Value) (F:List Nat),OE w Z x vs F->RD w Z x vs
 | .agg ds,vs,F,h=>by simp only[OE]at h;simp only[RD];exact wC ds vs F h
 | .own sz xs,vs,F,h=>by simp only[OE]at h;obtain ⟨v,rfl,e⟩:=h;exact Oh (.own sz xs) v F e
 | .int k n,vs,F,h=>by simp only[OE]at h;exact h.1
 | .bool b,vs,F,h=>by simp only[OE]at h;exact h.1
 | .str s,vs,F,h=>by simp only[OE]at h;exact h.1
 | .lst xs,vs,F,h=>by simp only[OE]at h;exact h.1
end
theorem yY {w:World} {Z:Nat->Prop} (n:Nat):∀(xs:List D) (vs:List Value) (F:List Nat),jo w Z n xs vs F->∀(b o:Nat),(∀j u,vs[j]? =some u->w.cell? ⟨b,o+j,none⟩=some u)->Rows w Z xs b o n
 | [],vs,F,_,b,o,_=>by simp only[Rows]
 | x::xs,vs,F,h,b,o,hc=>by
  simp only[jo]at h;obtain ⟨F1,F2,E,_,I,h3⟩:=h;simp only[Rows];refine ⟨⟨vs.take n,by simp[E],Oi x _ F1 I,λj u e=> ?_⟩,yY n xs _ F2 h3 b (o+n) λj u e=> ?_⟩
  ·rw[List.getElem?_take]at e;split at e
   ·exact hc j u e
   cases e
  rw[List.getElem?_drop]at e;rw[show o+n+j=o+(n+j) by omega];exact hc (n+j) u e
theorem fW {w:World} {Z:Nat->Prop} {n:Nat}:∀{xs ys:List D} {vs:List Value} {F:List Nat},jo w Z n (xs++ys) vs F↔∃A B,F=A++B/\jo w Z n xs vs A/\jo w Z n ys (vs.drop (xs.length*n)) B
 | [],ys,vs,F=>by
  simp only[List.nil_append,jo,List.length_nil,Nat.zero_mul,List.drop_zero];constructor
  ·intro h;exact ⟨[],F,rfl,rfl,h⟩
  rintro ⟨A,B,rfl,rfl,h⟩;exact h
 | x::xs,ys,vs,F=>by
  simp only[List.cons_append,jo];constructor
  ·rintro ⟨F1,F2,e,rfl,j,h3⟩;obtain ⟨A,B,rfl,h4,E⟩:=fW.1 h3;refine ⟨F1++A,B,by simp,⟨F1,A,e,rfl,j,h4⟩,?_⟩;rw[List.drop_drop]at E;rw[List.length_cons,Nat.succ_mul,Nat.add_comm];exact E
  rintro ⟨A,B,rfl,⟨F1,F2,e,rfl,j,h3⟩,h4⟩;refine ⟨F1,F2++B,e,by simp,j,fW.2 ⟨F2,B,rfl,h3,?_⟩⟩;rw[List.drop_drop];rw[List.length_cons,Nat.succ_mul,Nat.add_comm]at h4;exact h4
theorem CB {w:World} {Z:Nat->Prop} {n:Nat} {x:D} {vs:List Value} {F:List Nat}:jo w Z n [x] vs F↔n<=vs.length/\OE w Z x (vs.take n) F:=by
 simp only[jo];constructor
 ·rintro ⟨F1,F2,e,rfl,j,rfl⟩;simpa using ⟨e,j⟩
 rintro ⟨e,j⟩;exact ⟨F,[],e,by simp,j,rfl⟩
theorem yZ {w:World} {Z:Nat->Prop} {n:Nat}:∀{xs:List D} {vs:List Value} {F:List Nat},jo w Z n xs vs F->xs.length*n<=vs.length
 | [],vs,F,_=>by simp
 | x::xs,vs,F,h=>by
  simp only[jo]at h;obtain ⟨F1,F2,e,_,_,h3⟩:=h;have:=yZ h3;rw[List.length_drop]at this;rw[List.length_cons,Nat.succ_mul];omega
theorem jN {w:World} {Z:Nat->Prop} {n:Nat}:∀{xs:List D} {vs us:List Value} {F:List Nat},jo w Z n xs vs F->(∀j,j<xs.length*n->us[j]? =vs[j]?)->jo w Z n xs us F
 | [],vs,us,F,h,_=>by simpa only [jo]using h
 | x::xs,vs,us,F,h,e=>by
  have I:=yZ h;simp only[jo]at h |-;obtain ⟨F1,F2,M,J,h3,h4⟩:=h;rw[List.length_cons,Nat.succ_mul]at e I;have E:n<=us.length:=by
   by_cases O:n=0
   ·omega
   have:=e (n-1) (by omega);rw[bA (by omega:n-1<vs.length)]at this;have:=(ax.1 this).1;omega
  have htake:us.take n=vs.take n:=by
   apply List.ext_getElem?;intro j;rw[List.getElem?_take,List.getElem?_take];split
   ·exact e j (by omega)
   rfl
  refine ⟨F1,F2,E,J,by rw[htake];exact h3,jN h4 λj S=> ?_⟩;rw[List.getElem?_drop,List.getElem?_drop];exact e (n+j) (by omega)
theorem DY {xs:List D} {i:Nat} {x:D} (h:xs[i]? =some x):xs=xs.take i++([x]++xs.drop (i+1))/\(xs.take i).length=i:=by
 have hl:=(ax.1 h).1;refine ⟨?_,by rw[List.length_take];omega⟩;apply List.ext_getElem?;intro j;rw[List.getElem?_append];rw[List.length_take,Nat.min_eq_left (by omega)];split
 ·rename_i e;rw[List.getElem?_take,if_pos e]
 rename_i e;rw[List.getElem?_append];split
 ·rename_i hk;simp at hk;have:j=i:=by omega
  subst this;simp[h]
 rename_i hk;simp at hk;rw[List.getElem?_drop];simp;congr 1;omega
theorem Kl {w:World} {Z:Nat->Prop} {n:Nat} {xs:List D} {vs:List Value} {F:List Nat} {i:Nat} {x:D} (h:jo w Z n xs vs F) (j:xs[i]? =some x):
  ∃A Fi B,F=A++Fi++B/\jo w Z n (xs.take i) vs A/\OE w Z x ((vs.drop (i*n)).take n) Fi/\jo w Z n (xs.drop (i+1)) (vs.drop ((i+1)*n)) B/\(i+1)*n<=vs.length:=by
 obtain ⟨J,M⟩:=DY j;have E:=yZ h;rw[J]at h;obtain ⟨A,B',rfl,h3,h4⟩:=fW.1 h;obtain ⟨Fi,B,rfl,I,e⟩:=fW.1 h4;rw[M]at I e;obtain ⟨O,S⟩:=CB.1 I;rw[List.length_drop]at O;rw[List.drop_drop]at e;simp only[List.length_singleton,Nat.one_mul]at e;have hl:=(ax.1 j).1;refine ⟨A,Fi,B,by simp,h3,S,by rw[Nat.succ_mul];exact e,?_⟩;exact Nat.le_trans (Nat.mul_le_mul_right n hl) E
theorem CC {w:World} {Z:Nat->Prop} {n:Nat} {xs:List D} {vs:List Value} {A Fi B:List Nat} {i:Nat} {x:D} (hi:i<xs.length) (j:jo w Z n (xs.take i) vs A) (E:OE w Z x ((vs.drop (i*n)).take n) Fi) (h3:jo w Z n (xs.drop (i+1)) (vs.drop ((i+1)*n)) B) (h4:(i+1)*n<=vs.length):
  jo w Z n (xs.set i x) vs (A++Fi++B):=by
 have e:xs.set i x=xs.take i++([x]++xs.drop (i+1)):=by
  rw[List.set_eq_take_append_cons_drop,if_pos hi];simp
 have hl:(xs.take i).length=i:=by rw[List.length_take];omega
 rw[e,List.append_assoc];refine fW.2 ⟨A,Fi++B,rfl,j,fW.2 ⟨Fi,B,rfl,?_,?_⟩⟩
 ·rw[hl];refine CB.2 ⟨?_,E⟩;rw[List.length_drop];rw[Nat.succ_mul]at h4;omega
 rw[hl,List.drop_drop];simp only[List.length_singleton,Nat.one_mul];rw[Nat.succ_mul]at h3;exact h3
theorem fX {w:World} {Z:Nat->Prop}:∀{xs ys:List D} {vs:List Value} {F:List Nat},nE w Z (xs++ys) vs F↔∃e j A B,vs=e++j/\F=A++B/\e.length=xs.length/\nE w Z xs e A/\nE w Z ys j B
 | [],ys,vs,F=>by
  simp only[List.nil_append,nE];constructor
  ·intro h;exact ⟨[],vs,[],F,rfl,rfl,rfl,⟨rfl,rfl⟩,h⟩
  rintro ⟨e,j,A,B,rfl,rfl,_,⟨rfl,rfl⟩,h⟩;exact h
 | x::xs,ys,vs,F=>by
  simp only[List.cons_append,nE];constructor
  ·rintro ⟨v,vs',F1,F2,rfl,rfl,I,J⟩;obtain ⟨e,j,A,B,rfl,rfl,h3,h4,M⟩:=fX.1 J;exact ⟨v::e,j,F1++A,B,rfl,by simp,by simp[h3],⟨v,e,F1,A,rfl,rfl,I,h4⟩,M⟩
  rintro ⟨e,j,A,B,rfl,rfl,h3,⟨v,E,F1,F2,rfl,rfl,I,J⟩,M⟩;exact ⟨v,E++j,F1,F2++B,rfl,by simp,I,fX.2 ⟨E,j,F2,B,rfl,rfl,by simpa using h3,J,M⟩⟩
theorem DZ {w:World} {Z:Nat->Prop} {x:D} {v:Value} (e:dO x=true) (h:RD w Z x [v]):OC w Z x v []:=by
 cases x<;>first
  | (simp[dO]at e;done)
  | (simp only[OC];exact ⟨h,trivial⟩)
theorem qJ {w:World} {Z:Nat->Prop}:∀{xs:List D} {vs:List Value},xs.all dO=true->fL w Z xs vs->nE w Z xs vs []
 | [],vs,_,h=>by simp only[fL]at h;simp only[nE];exact ⟨h,trivial⟩
 | x::xs,vs,e,h=>by
  simp only[List.all_cons,af]at e;simp only[fL]at h;obtain ⟨v,vs',j,E,h3⟩:=h;simp only[nE];exact ⟨v,vs',[],[],j,rfl,DZ e.1 E,qJ e.2 h3⟩
theorem R7 {w:World} {L:Loc} {Z:Nat->Prop} {s:bC} {r:Id} {sz:gJ} {xs:List D} (a4:∀r ob,s.get r=some ob->RO (aI w Z L s) r ob) (h:s.rd r=some (sz,xs)):
  (L r=none->xs=[])/\∀b,L r=some b->∃vs,w.heap[b]? =some (.cells vs sz.1 (0,0))/\xs.length*sz.2<=vs.size/\Rows w Z xs b 0 sz.2:=by
 unfold bC.rd at h;split at h
 case h_2=>cases h
 rename_i ob ho;have I:=a4 r ob ho;have cells:∀{b:Nat} {vs:Array Value} {t:TypeId},w.heap[b]? =some (.cells vs t (0,0))->∀j u,vs.toList[j]? =some u->w.cell? ⟨b,0+j,none⟩=some u:=by
  intro b vs t hb j u S;simp only[World.cell?,hb,Nat.zero_add];simpa using S
 cases ob with
 | box _=>cases h
 | gone _ _=>cases h
 | rows s' ys=>
  simp only[Obj.rd]at h;injection h with h;injection h with V e2;subst V e2;simpa only [RO]using I
 | orows s' ys=>
  simp only[Obj.rd]at h;injection h with h;injection h with V e2;subst V e2;simp only[RO]at I;refine ⟨λe=>(I.1 e).1,λb hb=> ?_⟩;obtain ⟨vs,F,k1,k2,k3,_,_⟩:=I.2 b hb;exact ⟨vs,k1,k2,yY _ _ _ _ k3 b 0 (cells k1)⟩
 | hrows s' ys i off q ae=>
  simp only[Obj.rd]at h;injection h with h;injection h with V e2;subst V e2;simp only[RO]at I;obtain ⟨b,vs,pre,ag,post,A1,A2,B1,B2,v,h1,h2,h3,h4,h5,h6,h7,h8,h9,a5,a6,a7,a1,am,an,ao⟩:=I;refine ⟨λe=>(by have e':L r=none:=e;have a0:L r=some b:=h1;rw[a0]at e';cases e'),λb' a3=> ?_⟩;have a8:b=b':=by have a0:L r=some b:=h1;rw[a0]at a3;injection a3
  subst a8;refine ⟨vs,h2,h3,fI.2 λj x U=> ?_⟩;have pieces:∀(zs:List D) (k:Nat) (G:List Nat),jo w Z s'.2 zs (vs.toList.drop (k*s'.2)) G->∀(m:Nat) (x:D),zs[m]? =some x->∃cs,cs.length=s'.2/\RD w Z x cs/\∀j v,cs[j]? =some v->w.cell? ⟨b,0+(k+m)*s'.2+j,none⟩=some v:=by
   intro zs k G hG m x E;have:=yY _ _ _ _ hG b (k*s'.2) (λj u S=>by
    rw[List.getElem?_drop]at S;have:=cells h2 _ _ S
    rwa [Nat.zero_add]at this)
   obtain ⟨cs,p1,p2,p3⟩:=fI.1 this m x E;refine ⟨cs,p1,p2,λj v S=> ?_⟩;rw[Nat.zero_add,Nat.add_mul];exact p3 j v S
  by_cases a9:j<i.toNat
  ·obtain ⟨cs,p1,p2,p3⟩:=pieces (ys.take i.toNat) 0 A1 (by simpa using h8) j x (by rw[List.getElem?_take,if_pos a9];exact U);exact ⟨cs,p1,p2,λm v E=>by simpa using p3 m v E⟩
  by_cases aa:j=i.toNat
  ·subst aa;rw[h5]at U;injection U with U;subst U;have hv:∃a n c,v= .slice a n c:=by
    simp only[RV]at a1;obtain ⟨a,n,cap,_,e,_⟩:=a1;exact ⟨a,n,cap,e⟩
   obtain ⟨va,vn,vc,hv⟩:=hv;have g1:=wC _ _ _ h9;have g2:=wC _ _ _ a5;have ac:(i.toNat+1)*s'.2<=vs.size:=by
    have:=(ax.1 h5).1;exact Nat.le_trans (Nat.mul_le_mul_right _ this) h3
   rw[Nat.succ_mul]at ac;have l1:((vs.toList.drop (i.toNat*s'.2)).take off).length=off:=by simp;omega
   have l2:((vs.toList.drop (i.toNat*s'.2+off+1)).take (s'.2-(off+1))).length=post.length:=by simp;omega
   refine ⟨(vs.toList.drop (i.toNat*s'.2)).take off++v::(vs.toList.drop (i.toNat*s'.2+off+1)).take (s'.2-(off+1)),by rw[List.length_append,List.length_cons,l1,l2];omega,?_,λm u E=> ?_⟩
   ·simp only[RD];rw[dA]at g1 g2 |-;refine ⟨by simp only[List.length_append,List.length_cons];rw[l1,l2];omega,λm d u M J=> ?_⟩;rw[List.getElem?_append]at M J;rw[l1]at J;rw[h6]at M;split at M
    ·rename_i E;rw[if_pos E]at J;exact g1.2 m d u M J
    rename_i E;rw[if_neg E]at J;cases O:m-off with
    | zero=>
     simp[O]at M J;subst M J;simp only[RD];exact ⟨va,vn,vc,by rw[hv]⟩
    | succ k=>
     simp only[O,List.getElem?_cons_succ]at M J;exact g2.2 k d u M J
   rw[List.getElem?_append,l1]at E;have hcell:vs.toList[i.toNat*s'.2+m]? =some u:=by
    split at E
    ·rename_i O;rw[List.getElem?_take,if_pos O,List.getElem?_drop]at E;exact E
    rename_i O;cases hk:m-off with
    | zero=>
     simp[hk]at E;subst E;have:m=off:=by omega
     subst this;simpa using a7
    | succ k=>
     simp only[hk,List.getElem?_cons_succ]at E;rw[List.getElem?_take]at E;split at E
     ·rw[List.getElem?_drop]at E;rw[show i.toNat*s'.2+m=i.toNat*s'.2+off+1+k by omega];exact E
     cases E
   have:=cells h2 _ _ hcell
   rwa [<-Nat.add_assoc]at this
  obtain ⟨cs,p1,p2,p3⟩:=pieces (ys.drop (i.toNat+1)) (i.toNat+1) B2 a6 (j-(i.toNat+1)) x (by rw[List.getElem?_drop,show i.toNat+1+(j-(i.toNat+1))=j by omega];exact U);refine ⟨cs,p1,p2,λm v E=> ?_⟩;have:=p3 m v E
  rwa [show i.toNat+1+(j-(i.toNat+1))=j by omega]at this
mutual
theorem D0 {w:World} {Z Z':Nat->Prop} (E:∀b,Z b->Z' b):∀(x:D) (v:Value) (F:List Nat),(∀k∈F,Z' k)->OC w Z x v F->RD w Z' (bB x) [v]
 | .own sz xs,v,F,hf,h=>by
  simp only[OC]at h;obtain ⟨a,c,I,J⟩:=h;simp only[bB,RD];rcases J with ⟨rfl,rfl,_⟩ | ⟨b,vs,F',M,rfl,O,S,U,V,e7⟩
  ·exact ⟨a,0,by rw[I.1];rfl,Nat.le_refl _,.inl rfl⟩
  refine ⟨a,c,by rw[I.1,cG],?_,.inr ⟨b,0,sz.2,M,hf b (by simp),?_⟩⟩
  ·rw[cG];refine Nat.le_of_mul_le_mul_right (c:=sz.2) ?_ U;rw[S];exact V
  refine qK E sz.2 xs vs.toList F' (λk hk=>hf k (by simp[hk])) e7 b 0 λj u hj=> ?_
  simp only[World.cell?,O];simpa using hj
 | .agg _,_,_,_,h=>by simp[OC]at h
 | .int k n,v,F,_,h=>by simp only[OC]at h;simp only[bB];exact dx (λb e=>⟨E b e,rfl⟩) _ _ h.1
 | .bool b,v,F,_,h=>by simp only[OC]at h;simp only[bB];exact dx (λb e=>⟨E b e,rfl⟩) _ _ h.1
 | .str s,v,F,_,h=>by simp only[OC]at h;simp only[bB];exact dx (λb e=>⟨E b e,rfl⟩) _ _ h.1
 | .lst xs,v,F,_,h=>by simp only[OC]at h;simp only[bB];exact dx (λb e=>⟨E b e,rfl⟩) _ _ h.1
theorem Ba {w:World} {Z Z':Nat->Prop} (e:∀b,Z b->Z' b):∀(xs:List D) (vs:List Value) (F:List Nat),(∀k∈F,Z' k)->nE w Z xs vs F->fL w Z' (aS xs) vs
 | [],vs,F,_,h=>by simp only[nE]at h;simp only[aS,fL];exact h.1
 | d::ds,vs,F,hf,h=>by
  simp only[nE]at h;obtain ⟨v,vs',F1,F2,j,rfl,E,h3⟩:=h;simp only[aS,fL];exact ⟨v,vs',j,D0 e d v F1 (λk hk=>hf k (by simp[hk])) E,Ba e ds vs' F2 (λk hk=>hf k (by simp[hk])) h3⟩
theorem Km {w:World} {Z Z':Nat->Prop} (j:∀b,Z b->Z' b):∀(x:D) (vs:List Value) (F:List Nat),(∀k∈F,Z' k)->OE w Z x vs F->RD w Z' (bB x) vs
 | .agg ds,vs,F,hf,h=>by simp only[OE]at h;simp only[bB,RD];exact Ba j ds vs F hf h
 | .own sz xs,vs,F,hf,h=>by
  simp only[OE]at h;obtain ⟨v,rfl,E⟩:=h;exact D0 j (.own sz xs) v F hf E
 | .int k n,v,F,_,h=>by simp only[OE]at h;simp only[bB];exact dx (λb e=>⟨j b e,rfl⟩) _ _ h.1
 | .bool b,v,F,_,h=>by simp only[OE]at h;simp only[bB];exact dx (λb e=>⟨j b e,rfl⟩) _ _ h.1
 | .str s,v,F,_,h=>by simp only[OE]at h;simp only[bB];exact dx (λb e=>⟨j b e,rfl⟩) _ _ h.1
 | .lst xs,v,F,_,h=>by simp only[OE]at h;simp only[bB];exact dx (λb e=>⟨j b e,rfl⟩) _ _ h.1
theorem qK {w:World} {Z Z':Nat->Prop} (E:∀b,Z b->Z' b) (n:Nat):∀(xs:List D) (vs:List Value) (F:List Nat),(∀k∈F,Z' k)->jo w Z n xs vs F->∀(b o:Nat),(∀j u,vs[j]? =some u->w.cell? ⟨b,o+j,none⟩=some u)->Rows w Z' (aS xs) b o n
 | [],vs,F,_,_,b,o,_=>by simp only[aS,Rows]
 | x::xs,vs,F,hf,h,b,o,hc=>by
  simp only[jo]at h;obtain ⟨F1,F2,I,rfl,J,h3⟩:=h;simp only[aS,Rows];refine ⟨⟨vs.take n,by simp[I],Km E x _ F1 (λk hk=>hf k (by simp[hk])) J,λj u e=> ?_⟩,qK E n xs _ F2 (λk hk=>hf k (by simp[hk])) h3 b (o+n) λj u e=> ?_⟩
  ·rw[List.getElem?_take]at e;split at e
   ·exact hc j u e
   cases e
  rw[List.getElem?_drop]at e;rw[show o+n+j=o+(n+j) by omega];exact hc (n+j) u e
end
theorem y9 {w:World} {L:Loc} {Z Z':Nat->Prop} {s:bC} {r:Id} {sz e:gJ} {xs:List D} {u:Bool} {v:Value} (hz:∀b,Z b->Z' b) (hg:s.get r=some (.orows e xs)) (I:RO (aI w Z L s) r (.orows e xs))
  (O:∀b,(Obj.orows e xs).has L r b->Z' b) (S:RV (aI w Z L s) (.arr r sz none u) v):RD w Z' (.lst (aS xs)) [v]:=by
 simp only[RV]at S;obtain ⟨a,n,cap,ys,U,⟨V,_⟩,_,h4,h5,_,h7,h8⟩:=S;have E:(s.get r).bind Obj.rw=some (sz,ys):=h4;rw[hg]at E;simp only[Option.bind_some,Obj.rw]at E;injection E with E;injection E with e1 e2;subst e1 e2;have J:=h5 trivial;simp only[RO]at I;simp only[RD];cases M:L r with
 | none=>
  have hx:=(I.1 M).1;refine ⟨a,cap,by rw[U,J,cG],by rw[cG,<-J];exact V,.inl ?_⟩;rw[hx];rfl
 | some b=>
  obtain ⟨vs,F,k1,k2,k3,k4,k5⟩:=I.2 b M;refine ⟨a,cap,by rw[U,J,cG],by rw[cG,<-J];exact V,.inr ?_⟩;rcases h8 b M with ⟨_,m⟩ | ⟨m,_⟩
  ·exact (m rfl).elim
  refine ⟨b,0,e.2,by simpa [br]using m,O b (.inl M),qK hz e.2 xs vs.toList F (λk hk=>O k (.inr ⟨rfl,(k5 k).2 hk⟩)) k3 b 0 λj u hj=> ?_⟩;simp only[World.cell?,k1];simpa using hj
def Kept (w:World) (L:Loc) (e Z:Nat->Prop) (s0 s:bC):Prop:=
 (∀b,e b->Z b)/\∀q,(s.get q).isSome->(s0.get q).isSome/\Same (aI w e L s0) (aI w Z L s) q
theorem Kept.refl (w:World) (L:Loc) (Z:Nat->Prop) (s:bC):Kept w L Z Z s s:=
 ⟨λ_ h=>h,λ_ e=>⟨e,rfl,λk=>k,λ_ xs k=>⟨xs,k,rfl⟩,λ_ _ _=>rfl⟩⟩
theorem Kept.kill {w:World} {L:Loc} {I Z Z':Nat->Prop} {s0:bC} {s:St} (h:Kept w L I Z s0 s.sto) (r:Id) (O:∀b,Z b->Z' b):Kept w L I Z' s0 (s.kill r).sto:=by
 refine ⟨λb J=>O b (h.1 b J),λq j=> ?_⟩;have E:q≠r:=λe=>by rw[gh,if_pos e]at j;cases j
 have M:(s.sto.get q).isSome:=by rw[gh,if_neg E]at j;simpa using j
 obtain ⟨S,U,k2,V,k4⟩:=h.2 q M;obtain ⟨m1,m2,m3,m4⟩:=qI (s:=s) (w:=w) (L:=L) (Z:=Z) (Z':=Z') E;refine ⟨S,m1.trans U,λk=>m2 (k2 k),λsz xs k=> ?_,λb J hs=>rfl⟩;obtain ⟨ys,n1,n2⟩:=V sz xs k;obtain ⟨zs,n3,n4⟩:=m3 sz ys n1;exact ⟨zs,n3,n4.trans n2⟩
theorem Kept.rv {w:World} {L:Loc} {e Z:Nat->Prop} {s0 s:bC} (h:Kept w L e Z s0 s) {x:AV} {v:Value} (j:∀r∈x.refs,(s.get r).isSome) (E:RV (aI w e L s0) x v):RV (aI w Z L s) x v:=
 jU (c:=aI w e L s0) (c':=aI w Z L s) (λb I=>⟨h.1 b I,rfl⟩) x v (λr J=>(h.2 r (j r J)).2) E
def Tq (c:Cx) (x:AV) (v:Value):Prop:=(∀r∈x.refs,(c.obj r).isSome)->RV c x v
def R8 (c:Cx) (xs:List AV) (vs:List Value):Prop:=(∀r∈AV.bR xs,(c.obj r).isSome)->dH c xs vs
theorem Kept.trans {w:World} {L:Loc} {e j E:Nat->Prop} {s0 s1 s2:bC} (h:Kept w L e j s0 s1) (k:Kept w L j E s1 s2):Kept w L e E s0 s2:=by
 refine ⟨λb I=>k.1 b (h.1 b I),λq J=> ?_⟩;obtain ⟨M,a2,O,S,a5⟩:=k.2 q J;obtain ⟨U,V,b3,b4,b5⟩:=h.2 q M;refine ⟨U,a2.trans V,λm=>O (b3 m),λsz xs m=> ?_,λ_ _ _=>rfl⟩;obtain ⟨ys,n1,n2⟩:=b4 sz xs m;obtain ⟨zs,n3,n4⟩:=S sz ys n1;exact ⟨zs,n3,n4.trans n2⟩
mutual
theorem tT {a:Act} {w:World} {L:Loc} {Z0:Nat->Prop} {s0:bC} (np:Nat):∀(x:AV) (v:Value) (s s':St) (x':AV) (Z:Nat->Prop),RS s a w L Z->Kept w L Z0 Z s0 s.sto->RV (aI w Z0 L s0) x v->
  fz (real call loop) s x=some (x',s')->∃Z',RS s' a w L Z'/\Tr np s.sto s'.sto w w L L Z Z'/\Kept w L Z Z' s.sto s'.sto/\Tq (aI w Z' L s'.sto) x' v
 | .emp,v,s,s',x',Z,h,hk,E,e=>by
  simp only[fz]at e;injection e with e;injection e with j I;subst j I;refine ⟨Z,h,Tr.refl _ _ _ _ _,Kept.refl _ _ _ _,λ_=> ?_⟩;simp only[RV]at E;obtain ⟨A,O⟩:=E;simp only[RV,RD];exact ⟨A,0,by rw[O];rfl,Nat.le_refl _,.inl trivial⟩
 | .arr r sz g u,v,s,s',x',Z,h,hk,E,e=>by
  simp only[fz]at e;split at e
  case h_1 a3 xs hg=>
     cases g with
     | some p=>cases e
     | none=>
      simp only at e;injection e with e;injection e with j I;subst j I;have V:=hk.rv (x:= .arr r sz none u) (by intro q hq;simp[AV.refs]at hq;subst hq;simp[hg]) E;obtain ⟨S,k2⟩:=h.Oa hg np;refine ⟨_,S,k2,Kept.kill (Kept.refl _ _ _ _) r (λb M=> .inl M),λ_=> ?_⟩;simp only[RV];exact y9 (λb M=> .inl M) hg (h.obj r _ hg) (λb M=> .inr M) V
  rename_i a1;split at e
  case h_2=>cases e
  rename_i xs hc;injection e with e;injection e with j I;subst j I;have U:(s.sto.get r).isSome:=by
   simp only[content]at hc;split at hc
   ·rename_i J;simp[J]
   cases hc
  obtain ⟨ob,a0⟩:=Option.isSome_iff_exists.1 U;have V:=hk.rv (x:= .arr r sz g u) (by intro q hq;simp[AV.refs]at hq;subst hq;exact U) E;obtain ⟨A,cap,O,h2,h3⟩:=cZ h.obj V hc;obtain ⟨S,k2⟩:=h.Oa a0 np;refine ⟨_,S,k2,Kept.kill (Kept.refl _ _ _ _) r (λb M=> .inl M),λ_=> ?_⟩;simp only[RV,RD];refine ⟨A,cap,by rw[O],h2,h3.imp id ?_⟩;rintro ⟨b,o,z,h4,h5,h6⟩;refine ⟨b,o,z,h4,?_,nF (w:=w) (w':=w) (Z:=Z) (λb M=>⟨.inl M,rfl⟩) rfl _ _ _ h5⟩;rcases h6 with h6 | ⟨r',z',g',u',ob',j,I,e3⟩
  ·exact .inl h6
  injection j with j;subst j;exact .inr (.inl e3)
 | .agg cs,v,s,s',x',Z,h,hk,E,e=>by
  simp only[fz]at e;split at e
  case h_2=>cases e
  rename_i ds s2 hc;injection e with e;injection e with j I;subst j I;simp only[RV]at E;obtain ⟨vs,O,h2⟩:=E;obtain ⟨Z',S,k2,k3,k4⟩:=lm np cs vs s _ _ Z h hk h2 hc;refine ⟨Z',S,k2,k3,λJ=> ?_⟩;simp only[RV];exact ⟨vs,O,k4 (by simpa [AV.refs]using J)⟩
 | .tup cs,v,s,s',x',Z,h,hk,E,e=>by
  simp only[fz]at e;split at e
  case h_2=>cases e
  rename_i ds s2 hc;injection e with e;injection e with j I;subst j I;simp only[RV]at E;obtain ⟨vs,O,h2⟩:=E;obtain ⟨Z',S,k2,k3,k4⟩:=lm np cs vs s _ _ Z h hk h2 hc;refine ⟨Z',S,k2,k3,λJ=> ?_⟩;simp only[RV];exact ⟨vs,O,k4 (by simpa [AV.refs]using J)⟩
 | .undef,v,s,s',x',Z,h,hk,E,e=>by
  simp only[fz]at e;injection e with e;injection e with j I;subst j I;exact ⟨Z,h,Tr.refl _ _ _ _ _,Kept.refl _ _ _ _,λJ=>hk.rv J E⟩
 | .bare,v,s,s',x',Z,h,hk,E,e=>by
  simp only[fz]at e;injection e with e;injection e with j I;subst j I;exact ⟨Z,h,Tr.refl _ _ _ _ _,Kept.refl _ _ _ _,λJ=>hk.rv J E⟩
 | .d y,v,s,s',x',Z,h,hk,E,e=>by
  simp only[fz]at e;injection e with e;injection e with j I;subst j I;exact ⟨Z,h,Tr.refl _ _ _ _ _,Kept.refl _ _ _ _,λJ=>hk.rv J E⟩
 | .nilp,v,s,s',x',Z,h,hk,E,e=>by
  simp only[fz]at e;injection e with e;injection e with j I;subst j I;exact ⟨Z,h,Tr.refl _ _ _ _ _,Kept.refl _ _ _ _,λJ=>hk.rv J E⟩
 | .ptr _ _,v,s,s',x',Z,h,hk,E,e=>by
  simp only[fz]at e;injection e with e;injection e with j I;subst j I;exact ⟨Z,h,Tr.refl _ _ _ _ _,Kept.refl _ _ _ _,λJ=>hk.rv J E⟩
 | .prow _ _ _ _,v,s,s',x',Z,h,hk,E,e=>by
  simp only[fz]at e;injection e with e;injection e with j I;subst j I;exact ⟨Z,h,Tr.refl _ _ _ _ _,Kept.refl _ _ _ _,λJ=>hk.rv J E⟩
 | .sp _ _,v,s,s',x',Z,h,hk,E,e=>by
  simp only[fz]at e;injection e with e;injection e with j I;subst j I;exact ⟨Z,h,Tr.refl _ _ _ _ _,Kept.refl _ _ _ _,λJ=>hk.rv J E⟩
 | .fn _ _,v,s,s',x',Z,h,hk,E,e=>by
  simp only[fz]at e;injection e with e;injection e with j I;subst j I;exact ⟨Z,h,Tr.refl _ _ _ _ _,Kept.refl _ _ _ _,λJ=>hk.rv J E⟩
theorem lm {a:Act} {w:World} {L:Loc} {S:Nat->Prop} {s0:bC} (np:Nat):∀(xs:List AV) (vs:List Value) (s s':St) (xs':List AV) (Z:Nat->Prop),RS s a w L Z->Kept w L S Z s0 s.sto->dH (aI w S L s0) xs vs->
  BT (real call loop) s xs=some (xs',s')->∃Z',RS s' a w L Z'/\Tr np s.sto s'.sto w w L L Z Z'/\Kept w L Z Z' s.sto s'.sto/\R8 (aI w Z' L s'.sto) xs' vs
 | [],vs,s,s',xs',Z,h,hk,E,e=>by
  simp only[BT]at e;injection e with e;injection e with J M;subst J M;refine ⟨Z,h,Tr.refl _ _ _ _ _,Kept.refl _ _ _ _,λ_=>by simpa only [dH]using E⟩
 | x::xs,vs,s,s',xs',Z,h,hk,E,e=>by
  simp only[BT]at e;split at e
  case h_2=>cases e
  rename_i y s2 hc;split at e
  case h_2=>cases e
  rename_i ys s3 U;injection e with e;injection e with J M;subst J M;simp only[dH]at E;obtain ⟨v,vs',h1,h2,h3⟩:=E;obtain ⟨Z1,k1,k2,V,k4⟩:=tT np x v s s2 y Z h hk h2 hc;obtain ⟨Z2,m1,m2,O,m4⟩:=lm np xs vs' s2 s3 ys Z1 k1 (hk.trans V) h3 U;refine ⟨Z2,m1,k2.trans m2,V.trans O,λI=> ?_⟩;simp only[dH];simp only[AV.bR,List.mem_append]at I;refine ⟨v,vs',h1,?_,m4 λr j=>I r (.inr j)⟩;exact O.rv (λr j=>I r (.inl j)) (k4 λr j=>(O.2 r (I r (.inl j))).1)
end
theorem uT {w:World} {Z:Nat->Prop} {b n:Nat} {vs:Array Value} {t:TypeId} (I:w.heap[b]? =some (.cells vs t (0,0))):∀(xs:List D) (o:Nat),(real call loop).flat xs=true->xs.length*n+o<=vs.size->Rows w Z xs b o n->jo w Z n xs (vs.toList.drop o) []
 | [],o,_,_,_=>by simp only[jo]
 | x::xs,o,hf,hl,h=>by
  simp only[real,aM.flat,List.all_cons,af]at hf;simp only[Rows]at h;obtain ⟨⟨cs,O,e,h3⟩,h4⟩:=h;rw[List.length_cons,Nat.succ_mul]at hl;have J:(vs.toList.drop o).take n=cs:=by
   apply List.ext_getElem?;intro j;rw[List.getElem?_take];split
   ·rename_i M;rw[List.getElem?_drop];have E:cs[j]? =some cs[j]:=bA (by omega);have:=h3 j _ E;simp only[World.cell?,I]at this;rw[E];simpa using this
   rename_i M;rw[List.getElem?_eq_none (by omega)]
  simp only[jo];refine ⟨[],[],by simp;omega,rfl,?_,?_⟩
  ·rw[J];cases x with
   | agg ds=>simp only[OE];simp only[RD]at e;exact qJ hf.1 e
   | own _ _=>simp[dO]at hf
   | int _ _=>simp only[OE];exact ⟨e,trivial⟩
   | bool _=>simp only[OE];exact ⟨e,trivial⟩
   | str _=>simp only[OE];exact ⟨e,trivial⟩
   | lst _=>simp only[OE];exact ⟨e,trivial⟩
  rw[List.drop_drop];exact uT I xs (o+n) (by simpa only [real,aM.flat]using hf.2) (by omega) h4
def CD (w:World) (L:Loc) (Z:Nat->Prop) (s0 s:bC) (F:List Nat):Prop:=F.Nodup/\∀k∈F,¬Z k/\aY s0 L k/\¬aY s L k/\k<w.heap.size
theorem rW {a:Act} {w:World} {L:Loc} {Z0 Z:Nat->Prop} {a0:bC} (np:Nat) (x:AV) (v:Value) (s s':St) (d:D) (h:RS s a w L Z) (hk:Kept w L Z0 Z a0 s.sto) (V:RV (aI w Z0 L a0) x v)
  (e:kT (real call loop) s x=some (d,s')):RS s' a w L Z/\Tr np s.sto s'.sto w w L L Z Z/\Kept w L Z Z s.sto s'.sto/\∃F,OC w Z d v F/\CD w L Z s.sto s'.sto F:=by
 have plain:∀y,dO y=true->RD w Z y [v]->OC w Z y v []:=λy hp hr=>DZ hp hr
 cases x with
 | d y=>
  simp only[kT]at e;split at e
  case h_2=>cases e
  rename_i hp;injection e with e;injection e with I J;subst I J;have:=hk.rv (x:= .d y) (by simp[AV.refs]) V;simp only[RV]at this;exact ⟨h,Tr.refl _ _ _ _ _,Kept.refl _ _ _ _,[],plain y hp this,by simp[CD]⟩
 | emp=>
  simp only[kT]at e;injection e with e;injection e with I J;subst I J;simp only[RV]at V;obtain ⟨A,V⟩:=V;refine ⟨h,Tr.refl _ _ _ _ _,Kept.refl _ _ _ _,[],plain _ rfl ?_,by simp[CD]⟩;simp only[RD];exact ⟨A,0,by rw[V];rfl,Nat.le_refl _,.inl trivial⟩
 | arr r sz g u=>
  cases g with
  | some p=>simp[kT]at e
  | none=>
   simp only[kT]at e;split at e
   ·cases e
   rename_i m a6;have a4:0<sz.2:=by omega
   have main:∀(ob:Obj) (j:gJ) (ys:List D),s.sto.get r=some ob->ob.rw=some (j,ys)->(L r=none->ys=[])->
     (∀b,L r=some b->∃vs F,w.heap[b]? =some (.cells vs j.1 (0,0))/\ys.length*j.2<=vs.size/\jo w Z j.2 ys vs.toList F/\(b::F).Nodup/\∀k∈F,ob.has L r k)->
     RS (s.kill r) a w L Z/\Tr np s.sto (s.kill r).sto w w L L Z Z/\Kept w L Z Z s.sto (s.kill r).sto/\∃F,OC w Z (.own sz ys) v F/\CD w L Z s.sto (s.kill r).sto F:=by
    intro ob j ys ho a5 h0 h1;have a1:=hk.rv (x:= .arr r sz none u) (by intro q hq;simp[AV.refs]at hq;subst hq;simp[ho]) V;refine ⟨h.kill r,Tr.kill np s w L Z r,Kept.kill (Kept.refl _ _ _ _) r (λ_ hb=>hb),?_⟩;simp only[RV]at a1;obtain ⟨A,n,cap,zs,k1,⟨k2,a3⟩,_,k4,k5,_,k7,k8⟩:=a1;have O:(s.sto.get r).bind Obj.rw=some (sz,zs):=k4;rw[ho]at O;simp only[Option.bind_some,a5]at O;injection O with O;injection O with I J;subst I J;have hn:=k5 trivial;simp only[OC];cases hL:L r with
    | none=>
     have hy:=h0 hL;have hc:=k7 hL;exact ⟨[],⟨A,cap,⟨by rw[k1,hn],a3⟩,.inl ⟨hc,hy,rfl⟩⟩,by simp[CD]⟩
    | some b=>
     obtain ⟨vs,F,U,m2,m3,m4,m5⟩:=h1 b hL;rcases k8 b hL with ⟨_,q⟩ | ⟨q1,q2⟩
     ·exact (q rfl).elim
     refine ⟨b::F,⟨A,cap,⟨by rw[k1,hn],a3⟩,.inr ⟨b,vs,F,by simpa [br]using q1,rfl,U,?_,a4,m2,m3⟩⟩,m4,λk S=> ?_⟩
     ·simp only[br,Nat.zero_add,b_,U]at q2;exact q2
     have M:ob.has L r k:=by
      rcases List.mem_cons.1 S with rfl | S
      ·exact .inl hL
      exact m5 k S
     refine ⟨λhz=>(h.dis k hz).2 ⟨r,ob,ho,M⟩,⟨r,ob,ho,M⟩,gY h ho M,h.fJ ho M⟩
   split at e
   ·rename_i j ys ho;injection e with e;injection e with I J;subst I J;have E:=h.obj r _ ho;simp only[RO]at E;refine main _ j ys ho rfl (λe=>(E.1 e).1) λb hb=> ?_
    obtain ⟨vs,F,U,m2,m3,m4,m5⟩:=E.2 b hb;exact ⟨vs,F,U,m2,m3,m4,λk S=> .inr ⟨rfl,(m5 k).2 S⟩⟩
   ·rename_i j ys ho;split at e
    case h_2=>cases e
    rename_i hf;injection e with e;injection e with I J;subst I J;have E:=h.obj r _ ho;simp only[RO]at E;refine main _ j ys ho rfl E.1 λb hb=> ?_
    obtain ⟨vs,U,m2,m3⟩:=E.2 b hb;exact ⟨vs,[],U,m2,by simpa using uT U ys 0 hf (by simpa using m2) m3,by simp,by simp⟩
   cases e
 | _=>simp[kT]at e
theorem rX {a:Act} {w:World} {L:Loc} {Z0 Z:Nat->Prop} {J:bC} (np:Nat):∀(xs:List AV) (vs:List Value) (s s':St) (ds:List D),RS s a w L Z->Kept w L Z0 Z J s.sto->dH (aI w Z0 L J) xs vs->
  bM (real call loop) s xs=some (ds,s')->RS s' a w L Z/\Tr np s.sto s'.sto w w L L Z Z/\Kept w L Z Z s.sto s'.sto/\∃F,nE w Z ds vs F/\CD w L Z s.sto s'.sto F
 | [],vs,s,s',ds,h,hk,E,e=>by
  simp only[bM]at e;injection e with e;injection e with M O;subst M O;simp only[dH]at E;exact ⟨h,Tr.refl _ _ _ _ _,Kept.refl _ _ _ _,[],by simp only[nE];exact ⟨E,trivial⟩,by simp[CD]⟩
 | x::xs,vs,s,s',ds,h,hk,E,e=>by
  simp only[bM]at e;split at e
  case h_2=>cases e
  rename_i y s2 hc;split at e
  case h_2=>cases e
  rename_i ys s3 a0;injection e with e;injection e with M O;subst M O;simp only[dH]at E;obtain ⟨v,vs',h1,h2,h3⟩:=E;obtain ⟨k1,k2,k3,F1,k4,k5,k6⟩:=rW np x v s s2 y h hk h2 hc;obtain ⟨m1,m2,m3,F2,m4,m5,m6⟩:=rX np xs vs' s2 s3 ys k1 (hk.trans k3) h3 a0;have back:∀k,aY s2.sto L k->aY s.sto L k:=λk hl=>by
   rcases k2.lives k hl with m | m
   ·exact m
   obtain ⟨q,ob,g1,g2⟩:=hl;have:=k1.fJ g1 g2;omega
  have I:∀k,aY s3.sto L k->aY s2.sto L k:=λk hl=>by
   rcases m2.lives k hl with m | m
   ·exact m
   obtain ⟨q,ob,g1,g2⟩:=hl;have:=m1.fJ g1 g2;omega
  refine ⟨m1,k2.trans m2,k3.trans m3,F1++F2,?_,?_,λk j=> ?_⟩
  ·simp only[nE];exact ⟨v,vs',F1,F2,h1,rfl,k4,m4⟩
  ·rw[List.nodup_append];refine ⟨k5,m5,λx hx y hy a1=> ?_⟩;subst a1;exact (k6 x hx).2.2.1 (m6 x hy).2.1
  rcases List.mem_append.1 j with j | j
  ·obtain ⟨p1,S,U,V⟩:=k6 k j;exact ⟨p1,S,λhl=>U (I k hl),V⟩
  obtain ⟨p1,S,U,V⟩:=m6 k j;exact ⟨p1,back k S,U,V⟩
def CF:Value->AV->Bool
 | _,.undef=>true
 | .int k n,.d (.int k' n')=>k==k'&&n==n'
 | .bool b,.d (.bool b')=>b==b'
 | .string s,.d (.str s')=>s.data==s'.data
 | .slice none 0 0,.emp=>true
 | .slice none 0 0,.d (.lst [])=>true
 | .pointer none,.nilp=>true
 | _,_=>false
def eF:List Value->List AV->Bool
 | [],[]=>true
 | v::vs,a::as=>CF v a&&eF vs as
 | _,_=>false
def Kn:Value->AV->Bool
 | .agg vs,.agg as=>eF vs.toList as
 | v,a=>CF v a
def dr:Operand->VX->Bool
 | .tmp t,.tmp t'=>t==t'
 | .tmp t,.home t'=>t==t'
 | .const v,.const a=>Kn v a
 | .func f,.const (.fn g [])=>f==zh g
 | _,_=>false
def vW:List Operand->List VX->Bool
 | [],[]=>true
 | x::xs,y::ys=>dr x y&&vW xs ys
 | _,_=>false
def Ah:Option Operand->Option VX->Bool
 | none,none=>true
 | some x,some y=>dr x y
 | _,_=>false
theorem oL {c:Cx} {v:Value} {a:AV} (h:CF v a=true):RV c a v:=by
 unfold CF at h;split at h
 ·simp only[RV]
 ·simp only[af,beq_iff_eq]at h;obtain ⟨rfl,rfl⟩:=h;simp only[RV,RD]
 ·simp only[beq_iff_eq]at h;subst h;simp only[RV,RD]
 ·simp only[beq_iff_eq]at h;simp only[RV,RD,List.cons.injEq,Value.string.injEq,and_true];exact ByteArray.ext h
 ·simp only[RV];exact ⟨_,rfl⟩
 ·simp only[RV,RD];exact ⟨none,0,rfl,Nat.le_refl _,.inl trivial⟩
 ·simp only[RV]
 cases h
theorem kY {c:Cx}:∀{vs:List Value} {as:List AV},eF vs as=true->dH c as vs
 | [],[],_=>by simp only[dH]
 | v::vs,a::as,h=>by
  simp only[eF,af]at h;simp only[dH];exact ⟨v,vs,rfl,oL h.1,kY h.2⟩
 | [],_::_,h=>by simp[eF]at h
 | _::_,[],h=>by simp[eF]at h
theorem D1 {c:Cx} {v:Value} {a:AV} (h:Kn v a=true):RV c a v:=by
 unfold Kn at h;split at h
 ·simp only[RV];exact ⟨_,(Array.toArray_toList).symm ▸ rfl,kY h⟩
 exact oL h
section
variable {P:Program} {call:dh} {loop:di}
variable {s:St} {a:Act} {w:World} {L:Loc} {Z:Nat->Prop}
theorem aO (h:RS s a w L Z) {x:Operand} {x':VX} (j:dr x x'=true) {y:AV} (e:ev s.env x'=some y):RV (aI w Z L s.sto) y (a.eval x):=by
 unfold dr at j;split at j
 ·simp only[beq_iff_eq]at j;subst j;simp only[ev]at e;exact h.get e
 ·simp only[beq_iff_eq]at j;subst j;simp only[ev]at e;split at e
  ·rename_i E;split at e
   ·injection e with e;subst e;exact h.get E
   cases e
  cases e
 ·simp only[ev]at e;injection e with e;subst e;exact D1 j
 ·simp only[beq_iff_eq]at j;subst j;simp only[ev]at e;injection e with e;subst e;simp only[RV];exact ⟨[],rfl,by simp only[dH]⟩
 cases j
theorem qL (h:RS s a w L Z):∀{xs:List Operand} {xs':List VX},vW xs xs'=true->∀{ys:List AV},zi s.env xs'=some ys->dH (aI w Z L s.sto) ys (xs.map a.eval)
 | [],[],_,ys,e=>by simp only[zi]at e;injection e with e;subst e;simp only[dH,List.map_nil]
 | x::xs,x'::xs',j,ys,e=>by
  simp only[vW,af]at j;simp only[zi]at e;split at e
  case h_2=>cases e
  rename_i y E;split at e
  case h_2=>cases e
  rename_i ys' I;injection e with e;subst e;simp only[dH,List.map_cons];exact ⟨_,_,rfl,aO h j.1 E,qL h j.2 I⟩
 | [],_::_,h,_,_=>by simp[vW]at h
 | _::_,[],h,_,_=>by simp[vW]at h
def aZ (P:Program) (np:Nat) (o:Oper) (s:St) (a:Act) (w:World) (L:Loc) (Z:Nat->Prop) (x:AV) (s':St):Prop:=
 ∀(K:Act->World->Prop) (Q:Exit->Act->World->Prop),
  (∀u w' L' Z',RS s' a w' L' Z'->Tr np s.sto s'.sto w w' L L' Z Z'->RV (aI w' Z' L' s'.sto) x u->K (a.put o.dst u) w')->o.wp P a w K Q
theorem aZ.value {np:Nat} {o:Oper} {x:AV} {s':St} {u:Value} {w':World} {L':Loc} {Z':Nat->Prop} (e:(execOp a.eval o).run P w= .ok (.value u) w')
  (h:RS s' a w' L' Z') (t:Tr np s.sto s'.sto w w' L L' Z Z') (j:RV (aI w' Z' L' s'.sto) x u):aZ P np o s a w L Z x s':=by
 intro K Q hk;unfold Oper.wp;rw[e];exact hk u w' L' Z' h t j
theorem aZ.skip {np:Nat} {o:Oper} {s':St} {w':World} {L':Loc} {Z':Nat->Prop} (e:(execOp a.eval o).run P w= .ok .skip w')
  (h:RS s' a w' L' Z') (t:Tr np s.sto s'.sto w w' L L' Z Z'):aZ P np o s a w L Z .bare s':=by
 intro K Q hk;unfold Oper.wp;rw[e];exact hk undef w' L' Z' h t (by simp only[RV])
theorem aZ.pure {np:Nat} {o:Oper} {x:AV} {u:Value} (h:RS s a w L Z) (e:(execOp a.eval o).run P w= .ok (.value u) w) (j:RV (aI w Z L s.sto) x u):aZ P np o s a w L Z x s:=
 aZ.value e h (Tr.refl _ _ _ _ _) j
theorem eJ {o:Oper} {ρ:Operand->Value} {m:Sem Value} {u:Value} {w':World} (e:execOp ρ o=(do pure (.value (<-m)))) (j:m.run P w= .ok u w'):(execOp ρ o).run P w= .ok (.value u) w':=by
 rw[e];simp[j]
theorem Bb (np:Nat) (h:RS s a w L Z) {o:Oper} {x:Operand} {x':VX} (ho:o.op= .move x\/o.op= .assign x) (j:dr x x'=true) {y:AV} (e:ev s.env x'=some y):aZ P np o s a w L Z y s:=by
 refine aZ.pure h (u:=a.eval x) ?_ (aO h j e);rcases ho with ho | ho<;>(unfold execOp;rw[ho];rfl)
theorem HT (np:Nat) (h:RS s a w L Z) {o:Oper} {c x y:Operand} {c' x' y':VX} (ho:o.op= .pick c x y) (hc:dr c c'=true) (j:dr x x'=true) (E:dr y y'=true) {t:Bool} {u v:AV}
  (I:ev s.env c'=some (.d (.bool t))) (J:ev s.env x'=some u) (M:ev s.env y'=some v):aZ P np o s a w L Z (match t with | true=>u | false=>v) s:=by
 have e:=aO h hc I;simp only[RV,RD]at e;injection e with e;refine aZ.pure h (u:=if t then a.eval x else a.eval y) ?_ ?_
 ·unfold execOp;rw[ho];simp[e,asBool]
 cases t
 ·exact aO h E M
 exact aO h j J
theorem Mz {op:BinOp} {t:TypeId} {k k':IntKind} {p q:Int} {r:AV} (e:bin (real call loop) op (.d (.int k p)) (.d (.int k' q))=some r):
  ∃m,(binOp op t (.int k p) (.int k' q)).run P w= .ok m w/\∀c,RV c r m:=by
 unfold bin at e;simp only[real,aM.ar,aM.cmp,aM.isZero]at e;cases op<;>simp only at e<;>(repeat' split at e)<;>first
  | (cases e;done)
  | (rename_i hk _ E;cases e;subst hk;refine ⟨_,?_,λc=>by simp only[RV,RD,HS,rV];rfl⟩;have j:¬q=0:=(by simpa using E);simp[binOp,Op.intDiv,j];done)
  | (rename_i E;cases e;refine ⟨_,?_,λc=>by simp only[RV,RD,HS,rV];rfl⟩;have j:¬q<0:=(by simpa [rV]using E);simp[binOp,Op.shift,j];done)
  | (rename_i hk;cases e;subst hk;refine ⟨_,?_,λc=>by simp only[RV,RD,HS,rV];rfl⟩;simp[binOp,Op.intArith,Op.intBits,Op.intCmp];done)
theorem MA {op:BinOp} {t:TypeId} {p q:ByteArray} {r:AV} (e:bin (real call loop) op (.d (.str p)) (.d (.str q))=some r):
  ∃m,(binOp op t (.string p) (.string q)).run P w= .ok m w/\∀c,RV c r m:=by
 unfold bin at e;simp only[real,aM.s8,aM.BR,aM.eZ]at e;cases op<;>simp only at e<;>(repeat' split at e)<;>first
  | (cases e;done)
  | (rename_i hk;cases e;refine ⟨_,?_,λc=>by simp only[RV,RD];rfl⟩;have j:=of_decide_eq_true hk;simp only[binOp,Op.stringOp];rw[if_neg (by omega)];rfl)
  | (cases e;refine ⟨_,?_,λc=>by simp only[RV,RD,rC];rfl⟩;simp[binOp,Op.stringOp];done)
theorem Fc {t:TypeId} (e:P.underlying t=some .bool) (p q:Bool):(Op.equal t (.bool p) (.bool q)).run P w= .ok (p==q) w:=by
 have:∀d,(Op.equalIn (d+1) t (.bool p) (.bool q)).run P w= .ok (p==q) w:=by
  intro d;rw[Op.equalIn];simp[run_underlying e]
 exact this 9999
theorem Ko {op:BinOp} {t:TypeId} {p q:Bool} {r:AV} (j:P.underlying t=some .bool) (e:bin (real call loop) op (.d (.bool p)) (.d (.bool q))=some r):
  ∃m,(binOp op t (.bool p) (.bool q)).run P w= .ok m w/\∀c,RV c r m:=by
 unfold bin at e;cases op<;>simp only at e<;>first
  | (cases e;done)
  | (cases e;refine ⟨_,?_,λc=>by simp only[RV,RD];rfl⟩;simp only[binOp];rw[Sem.run_bind,Fc j];rfl)
theorem Kq (np:Nat) (h:RS s a w L Z) {o:Oper} {op:BinOp} {t t':TypeId} {x y:Operand} {x' y':VX} (ho:o.op= .binOp op t x y t') (S:dr x x'=true) (U:dr y y'=true)
  {u v r:AV} (V:∀p,u= .d (.bool p)->P.underlying t=some .bool)
  (e2:ev s.env x'=some u) (e3:ev s.env y'=some v) (e:bin (real call loop) op u v=some r):aZ P np o s a w L Z r s:=by
 have I:=aO h S e2;have J:=aO h U e3;have j:∀{m:Value},(do eqGuard op t x y (a.eval x) (a.eval y);binOp op t (a.eval x) (a.eval y):Sem Value).run P w= .ok m w->(execOp a.eval o).run P w= .ok (.value m) w:=by
  intro m E;refine eJ (m:=do eqGuard op t x y (a.eval x) (a.eval y);binOp op t (a.eval x) (a.eval y)) ?_ E;unfold execOp;rw[ho]
 have e':=e;unfold bin at e;split at e
 ·rename_i k p k' q;simp only[RV,RD,List.cons.injEq,and_true]at I J;rw[I,J]at j;have M:(eqGuard op t x y (.int k p) (.int k' q)).run P w= .ok () w:=by unfold eqGuard;cases op<;>rfl
  obtain ⟨m,E,O⟩:=Mz (P:=P) (w:=w) (t:=t) e';exact aZ.pure h (j (by simp[M,E])) (O _)
 ·rename_i p q;simp only[RV,RD,List.cons.injEq,and_true]at I J;rw[I,J]at j;have M:(eqGuard op t x y (.string p) (.string q)).run P w= .ok () w:=by unfold eqGuard;cases op<;>rfl
  obtain ⟨m,E,O⟩:=MA (P:=P) (w:=w) (t:=t) e';exact aZ.pure h (j (by simp[M,E])) (O _)
 ·rename_i p q;simp only[RV,RD,List.cons.injEq,and_true]at I J;rw[I,J]at j;have M:(eqGuard op t x y (.bool p) (.bool q)).run P w= .ok () w:=by unfold eqGuard;cases op<;>rfl
  obtain ⟨m,E,O⟩:=Ko (P:=P) (w:=w) (t:=t) (V p rfl) e';exact aZ.pure h (j (by simp[M,E])) (O _)
 cases e
theorem Bc {t e:TypeId} (j:P.underlying t=some (.pointer e)) (p:Option Addr):(Op.equal t (.pointer p) (.pointer none)).run P w= .ok p.isNone w:=by
 have:∀d,(Op.equalIn (d+1) t (.pointer p) (.pointer none)).run P w= .ok p.isNone w:=by
  intro d;rw[Op.equalIn];cases p<;>simp[run_underlying j]
 exact this 9999
theorem y_ (np:Nat) (h:RS s a w L Z) {o:Oper} {op:BinOp} {t t' e:TypeId} {x:Operand} {x':VX} {ne:Bool} (ho:o.op= .binOp op t x (.const (.pointer none)) t') (J:op=match ne with | true=> .neq | false=> .eql) (U:dr x x'=true) (S:P.underlying t=some (.pointer e))
  {u:AV} {b:Bool} (V:ev s.env x'=some u) (E:(u= .nilp/\b= !ne)\/((∃p,∀v,RV (aI w Z L s.sto) u v->∃q,v= .pointer (some q)/\p=())/\b=ne)):aZ P np o s a w L Z (.d (.bool b)) s:=by
 have M:=aO h U V;have I:∀(p:Option Addr),a.eval x= .pointer p->(b=match ne with | true=> !p.isNone | false=>p.isNone)->aZ P np o s a w L Z (.d (.bool b)) s:=by
  intro p O j;refine aZ.pure h (u:= .bool b) ?_ (by simp only[RV,RD]);refine eJ (m:=do eqGuard op t x (.const (.pointer none)) (a.eval x) (.pointer none);binOp op t (a.eval x) (.pointer none)) (by unfold execOp;rw[ho];rfl) ?_;rw[O];have hg:(eqGuard op t x (.const (.pointer none)) (.pointer p) (.pointer none)).run P w= .ok () w:=by
   unfold eqGuard;subst J;cases ne<;>rfl
  have hm:(binOp op t (.pointer p) (.pointer none)).run P w= .ok (.bool b) w:=by
   subst J;cases ne
   ·simp only at j;simp only[binOp];rw[Sem.run_bind,Bc S,j];rfl
   simp only at j;simp only[binOp];rw[Sem.run_bind,Bc S,j];rfl
  simp[hg,hm]
 rcases E with ⟨rfl,E⟩ | ⟨⟨p,O⟩,E⟩
 ·simp only[RV]at M;exact I none M (by subst E;cases ne<;>rfl)
 obtain ⟨q,hq,_⟩:=O _ M;exact I (some q) hq (by subst E;cases b<;>rfl)
end
end Go.Vi
