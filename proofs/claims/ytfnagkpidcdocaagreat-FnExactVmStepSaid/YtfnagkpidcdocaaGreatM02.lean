import Derived.Test.YtfnagkpidcdocaaGreatM01
import Derived.Laws.AppendOwn
import Derived.Laws.Cells
import Derived.Laws.Slices
import Derived.Laws.Entries
set_option linter.all false
namespace Go.Vi
open Go Go.RowKit
def Ei (op:BinOp) (k:IntKind) (a b:Int):Int:=
 match op with
 | .add=>k.wrap (a+b)
 | .sub=>k.wrap (a-b)
 | .mul=>k.wrap (a*b)
 | .quo=>k.wrap (a.tdiv b)
 | .rem=>a.tmod b
 | .and=>k.wrap (BitVec.ofInt k.bits a&&&BitVec.ofInt k.bits b).toNat
 | .or=>k.wrap (BitVec.ofInt k.bits a ||| BitVec.ofInt k.bits b).toNat
 | .xor=>k.wrap (BitVec.ofInt k.bits a^^^BitVec.ofInt k.bits b).toNat
 | .shl=>k.wrap (a*2^(min b.toNat k.bits))
 | .shr=>a.fdiv (2^(min b.toNat k.bits))
 | _=>0
def qJ (op:BinOp) (a b:Int):Bool:=
 match op with
 | .eql=>a==b
 | .neq=>a !=b
 | .lss=>decide (a<b)
 | .leq=>decide (a<=b)
 | .gtr=>decide (a>b)
 | .geq=>decide (a>=b)
 | _=>false
def uh (op:BinOp) (x y:ByteArray):Bool:=
 match op with
 | .eql=>x.toList==y.toList
 | .neq=> !(x.toList==y.toList)
 | .lss=>Op.bytesLess x.toList y.toList
 | .leq=>Op.bytesLess x.toList y.toList || x.toList==y.toList
 | .gtr=> !(Op.bytesLess x.toList y.toList || x.toList==y.toList)
 | .geq=> !(Op.bytesLess x.toList y.toList)
 | _=>false
def mP:List D->Option (List UInt8)
 | []=>some []
 | .int .u8 n::l=>match mP l with
  | some bs=>some (UInt8.ofNat n.toNat::bs)
  | none=>none
 | _=>none
def zD (xs:List D) (a n:Int):Option (List D):=if 0<=a/\0<=n/\a+n<=xs.length then some ((xs.drop a.toNat).take n.toNat)else none
def zE (xs:List D) (i:Int):Option D:=if 0<=i then xs[i.toNat]? else none
mutual
def bn:D->D
 | .own _ xs=> .lst (aT xs)
 | .agg cs=> .agg (aT cs)
 | x=>x
def aT:List D->List D
 | []=>[]
 | x::xs=>bn x::aT xs
end
mutual
def fY:D->Bool
 | .lst xs=>xs.isEmpty
 | .agg cs=>cP cs
 | .own _ xs=>cP xs
 | _=>true
def cP:List D->Bool
 | []=>true
 | x::xs=>fY x&&cP xs
end
theorem ct:∀xs:List D,(aT xs).length=xs.length
 | []=>rfl
 | x::xs=>by simp[aT,ct xs]
def real (call:cM) (loop:cN):aJ:=
 .mk call loop Ei (λk n=>k.wrap n) (λa b=>a+b) (λa b=>a-b) qJ (λa=>decide (a=0)) uh (λa b=>a++b) (λa b=>decide (((a.size+b.size:Nat):Int)<=IntKind.i64.max))
  (λs=>s.size) (λs i=>if 0<=i then (s[i.toNat]?).map λb=>(b.toNat:Int)else none)
  (λs l h=>if 0<=l/\l<=h/\h<=s.size then some (s.extract l.toNat h.toNat)else none)
  (λs=>s.data.toList.map λb=> .int .u8 b.toNat) (λl=>(mP l).map λbs=>⟨bs.toArray⟩)
  (λxs=>xs.length) zE zD (λxs ys=>xs++ys) (λxs i x=>xs.set i.toNat x) (λn x=>List.replicate n.toNat x)
  (λz b xs=>decide (xs.length*b<=140737488355328/\xs.length<=maxLen)&&xs.all λx=>x.cells.length==z) (λb n=>decide (0<=n/\n*b<=140737488355328/\n<=9223372036854775807))
  (λxs ys=>ys.take xs.length++xs.drop ys.length) aT cP (λxs=>xs.all λx=>match x with | .agg cs=>cs.all dF | x=>dF x)
variable {P:Program} {call:cM} {loop:cN}
theorem x7 {w:World} {Z:Nat->Prop} {b sz:Nat}:∀{xs:List D} {o:Nat} (k:Nat),Rows w Z xs b o sz->Rows w Z (xs.drop k) b (o+k*sz) sz:=by
 intro xs o k h;rw[eW]at h |-;intro i x hx;rw[List.getElem?_drop]at hx;obtain ⟨cs,h1,h2,h3⟩:=h (k+i) x hx;refine ⟨cs,h1,h2,λj v hj=> ?_⟩;rw[show o+k*sz+i*sz+j=o+(k+i)*sz+j by rw[Nat.add_mul];omega];exact h3 j v hj
theorem mQ {w:World} {Z:Nat->Prop} {b sz:Nat}:∀{xs:List D} {o:Nat} (k:Nat),Rows w Z xs b o sz->Rows w Z (xs.take k) b o sz:=by
 intro xs o k h;rw[eW]at h |-;intro i x hx;rw[List.getElem?_take]at hx;split at hx
 ·exact h i x hx
 ·cases hx
theorem cG {s:br} {w:World} {L:Loc} {Z:Nat->Prop} {x:AV} {v:Value} {xs:List D}
  (hobj:∀r ob,s.get r=some ob->RO (aH w Z L s) r ob) (hv:RV (aH w Z L s) x v) (h:content (real call loop) s x=some xs):
  ∃A cap,v= .slice A xs.length cap/\xs.length<=cap/\(xs=[]\/∃b o sz,A=some ⟨b,o,none⟩/\Rows w Z xs b o sz/\(Z b\/∃r z g u ob,x= .arr r z g u/\s.get r=some ob/\L r=some b)):=by
 cases x with
 | d y=>
  cases y with
  | lst ys=>
   simp only[content]at h;injection h with h;subst h;simp only[RV,RD]at hv;obtain ⟨a,c,h1,h2,h3⟩:=hv;injection h1 with h1;refine ⟨a,c,h1,h2,h3.imp id ?_⟩;rintro ⟨b,o,sz,h4,h5,h6⟩;exact ⟨b,o,sz,h4,h6,.inl h5⟩
  | _=>simp[content]at h
 | emp=>
  simp only[content]at h;injection h with h;subst h;simp only[RV]at hv;obtain ⟨a,h1⟩:=hv;exact ⟨a,0,h1,Nat.le_refl _,.inl rfl⟩
 | arr r sz g u=>
  simp only[RV]at hv;obtain ⟨a,n,cap,ys,h1,⟨h2,_⟩,_,h4,h5,h6,h7,h8⟩:=hv;have h4':s.get r=some (.rows sz ys):=by
   have h4'':(s.get r).bind Obj.rw=some (sz,ys):=h4;simp only[content]at h;split at h
   ·rename_i s' ys' hg;rw[hg]at h4'' |-;simp only[Option.bind_some,Obj.rw]at h4'';injection h4'' with h4'';injection h4'' with e1 e2;rw[e1,e2]
   ·cases h
  have hro:=hobj r _ h4';simp only[RO]at hro;simp only[content,h4']at h;cases hL:L r with
  | none=>
   have hy:ys=[]:=hro.1 hL;have hc:cap=0:=h7 hL;have hn:n=0:=by omega
   have hx:xs=[]:=by
    cases g with
    | none=>simp only at h;injection h with h;rw[<-h];exact hy
    | some p=>
     obtain ⟨x,m⟩:=p;simp only[real,aJ.sub,zD]at h;split at h
     ·injection h with h;rw[<-h,hy];simp
     ·cases h
   subst hx;exact ⟨a,cap,by rw[h1,hn];rfl,by simp,.inl rfl⟩
  | some b=>
   obtain ⟨vs,h9,h10,h11⟩:=hro.2 b hL;have hlv:∃r' z g' u' ob,AV.arr r sz g u= .arr r' z g' u'/\s.get r'=some ob/\L r'=some b:=⟨r,sz,g,u,_,rfl,h4',hL⟩
   cases g with
   | none=>
    simp only at h;injection h with h;subst h;refine ⟨a,cap,by rw[h1,h5 rfl],by rw[<-h5 rfl];exact h2,.inr ?_⟩;rcases h8 b hL with ⟨_,k2⟩ | ⟨k1,_⟩
    ·exact (k2 rfl).elim
    ·exact ⟨b,0,sz.2,by simpa [bq]using k1,h11,.inr hlv⟩
   | some p=>
    obtain ⟨x,m⟩:=p;obtain ⟨k1,k2,k3⟩:=h6 x m rfl;simp only[real,aJ.sub,zD]at h;split at h
    case isFalse=>cases h
    case isTrue hc=>
     injection h with h;have hlen:xs.length=n:=by
      rw[<-h,List.length_take,List.length_drop];subst k2;omega
     refine ⟨a,cap,by rw[h1,hlen],by rw[hlen];exact h2,?_⟩;rcases h8 b hL with ⟨m1,_⟩ | ⟨m1,_⟩
     ·left;apply List.eq_nil_of_length_eq_zero;omega
     ·refine .inr ⟨b,bq (some (x,m))*sz.2,sz.2,m1,?_,.inr hlv⟩;rw[<-h];have:=mQ m.toNat (x7 x.toNat h11);simpa [bq]using this
 | _=>simp[content]at h
theorem ld {s:br} {w:World} {L:Loc} {Z:Nat->Prop} {r:Id} {sz:gG} {g:Option (Int×Int)} {u:Bool} {v:Value} {xs:List D}
  (hobj:∀r ob,s.get r=some ob->RO (aH w Z L s) r ob) (hv:RV (aH w Z L s) (.arr r sz g u) v) (h:eV (real call loop) s (.arr r sz g u)=some xs):
  ∃A cap,v= .slice A xs.length cap:=by
 have key:∀ys,(s.get r).bind Obj.rw=some (sz,ys)->Gc (real call loop) g ys=some xs->∃A cap,v= .slice A xs.length cap:=by
  intro ys hy hx;simp only[RV]at hv;obtain ⟨a,n,cap,zs,h1,_,_,h4,h5,h6,_⟩:=hv;have h4':(s.get r).bind Obj.rw=some (sz,zs):=h4;rw[hy]at h4';injection h4' with h4';injection h4' with _ e2;subst e2;cases g with
  | none=>
   simp only[Gc]at hx;injection hx with hx;subst hx;exact ⟨a,cap,by rw[h1,h5 rfl]⟩
  | some p=>
   obtain ⟨x,m⟩:=p;obtain ⟨k1,k2,k3⟩:=h6 x m rfl;simp only[Gc,real,aJ.sub,zD]at hx;split at hx
   case isFalse=>cases hx
   case isTrue hc=>
    injection hx with hx;refine ⟨a,cap,?_⟩;rw[h1,<-hx,List.length_take,List.length_drop];congr 1;omega
 have hsz:∀s' ys,(s.get r).bind Obj.rw=some (s',ys)->s'=sz:=by
  intro s' ys hy;simp only[RV]at hv;obtain ⟨a,n,cap,zs,h1,_,_,h4,_⟩:=hv;have h4':(s.get r).bind Obj.rw=some (sz,zs):=h4;rw[hy]at h4';injection h4' with h4';injection h4' with e1 _
 simp only[eV]at h;split at h
 ·rename_i s' ys hg;have e:(s.get r).bind Obj.rw=some (s',ys):=by rw[hg];rfl
  have:=hsz _ _ e;subst this;exact key ys e h
 ·rename_i s' ys _ _ _ _ hg;have e:(s.get r).bind Obj.rw=some (s',ys):=by rw[hg];rfl
  have:=hsz _ _ e;subst this;exact key ys e h
 ·obtain ⟨A,cap,h1,_⟩:=cG hobj hv h;exact ⟨A,cap,h1⟩
theorem zF {s:br} {r:Id} {sz sz':gG} {g:Option (Int×Int)} {u:Bool} {xs ys:List D} (h:content (real call loop) s (.arr r sz g u)=some xs) (h4:(s.get r).bind Obj.rw=some (sz',ys)):s.get r=some (.rows sz' ys):=by
 simp only[content]at h;split at h
 ·rename_i s' ys' hg;rw[hg]at h4 |-;simp only[Option.bind_some,Obj.rw]at h4;injection h4 with h4;injection h4 with e1 e2;rw[e1,e2]
 ·cases h
theorem wI {s:br} {r:Id} {sz:gG} {xs:List D} (h:s.get r=some (.rows sz xs)):(s.get r).bind Obj.rw=some (sz,xs):=by rw[h];rfl
mutual
theorem KS {w:World} {Z:Nat->Prop}:∀(x:D) (v:Value) (F:List Nat),OC w Z x v F->RD w Z x [v]
 | .own sz xs,v,F,h=>by simp only[OC]at h;obtain ⟨a,c,h1,_⟩:=h;simp only[RD];exact ⟨a,_,c,by rw[h1.1]⟩
 | .agg _,_,_,h=>by simp[OC]at h
 | .int k n,v,F,h=>by simp only[OC]at h;exact h.1
 | .bool b,v,F,h=>by simp only[OC]at h;exact h.1
 | .str s,v,F,h=>by simp only[OC]at h;exact h.1
 | .lst xs,v,F,h=>by simp only[OC]at h;exact h.1
theorem uP {w:World} {Z:Nat->Prop}:∀(xs:List D) (vs:List Value) (F:List Nat),mS w Z xs vs F->fk w Z xs vs
 | [],vs,F,h=>by simp only[mS]at h;simp only[fk];exact h.1
 | d::ds,vs,F,h=>by
  simp only[mS]at h;obtain ⟨v,vs',F1,F2,h1,_,h2,h3⟩:=h;simp only[fk];exact ⟨v,vs',h1,KS d v F1 h2,uP ds vs' F2 h3⟩
theorem KT {w:World} {Z:Nat->Prop}:∀(x:D) (vs:List Value) (F:List Nat),OE w Z x vs F->RD w Z x vs
 | .agg ds,vs,F,h=>by simp only[OE]at h;simp only[RD];exact uP ds vs F h
 | .own sz xs,vs,F,h=>by simp only[OE]at h;obtain ⟨v,rfl,h2⟩:=h;exact KS (.own sz xs) v F h2
 | .int k n,vs,F,h=>by simp only[OE]at h;exact h.1
 | .bool b,vs,F,h=>by simp only[OE]at h;exact h.1
 | .str s,vs,F,h=>by simp only[OE]at h;exact h.1
 | .lst xs,vs,F,h=>by simp only[OE]at h;exact h.1
end
theorem wJ {w:World} {Z:Nat->Prop} (n:Nat):∀(xs:List D) (vs:List Value) (F:List Nat),jc w Z n xs vs F->∀(b o:Nat),(∀j u,vs[j]? =some u->w.cell? ⟨b,o+j,none⟩=some u)->Rows w Z xs b o n
 | [],vs,F,_,b,o,_=>by simp only[Rows]
 | x::xs,vs,F,h,b,o,hc=>by
  simp only[jc]at h;obtain ⟨F1,F2,h1,_,h2,h3⟩:=h;simp only[Rows];refine ⟨⟨vs.take n,by simp[h1],KT x _ F1 h2,λj u hj=> ?_⟩,wJ n xs _ F2 h3 b (o+n) λj u hj=> ?_⟩
  ·rw[List.getElem?_take]at hj;split at hj
   ·exact hc j u hj
   ·cases hj
  ·rw[List.getElem?_drop]at hj;rw[show o+n+j=o+(n+j) by omega];exact hc (n+j) u hj
theorem fw {w:World} {Z:Nat->Prop} {n:Nat}:∀{xs ys:List D} {vs:List Value} {F:List Nat},jc w Z n (xs++ys) vs F↔∃A B,F=A++B/\jc w Z n xs vs A/\jc w Z n ys (vs.drop (xs.length*n)) B
 | [],ys,vs,F=>by
  simp only[List.nil_append,jc,List.length_nil,Nat.zero_mul,List.drop_zero];constructor
  ·intro h;exact ⟨[],F,rfl,rfl,h⟩
  ·rintro ⟨A,B,rfl,rfl,h⟩;exact h
 | x::xs,ys,vs,F=>by
  simp only[List.cons_append,jc];constructor
  ·rintro ⟨F1,F2,h1,rfl,h2,h3⟩;obtain ⟨A,B,rfl,h4,h5⟩:=fw.1 h3;refine ⟨F1++A,B,by simp,⟨F1,A,h1,rfl,h2,h4⟩,?_⟩;rw[List.drop_drop]at h5;rw[List.length_cons,Nat.succ_mul,Nat.add_comm];exact h5
  ·rintro ⟨A,B,rfl,⟨F1,F2,h1,rfl,h2,h3⟩,h4⟩;refine ⟨F1,F2++B,h1,by simp,h2,fw.2 ⟨F2,B,rfl,h3,?_⟩⟩;rw[List.drop_drop];rw[List.length_cons,Nat.succ_mul,Nat.add_comm]at h4;exact h4
theorem zG {w:World} {Z:Nat->Prop} {n:Nat} {x:D} {vs:List Value} {F:List Nat}:jc w Z n [x] vs F↔n<=vs.length/\OE w Z x (vs.take n) F:=by
 simp only[jc];constructor
 ·rintro ⟨F1,F2,h1,rfl,h2,rfl⟩;simpa using ⟨h1,h2⟩
 ·rintro ⟨h1,h2⟩;exact ⟨F,[],h1,by simp,h2,rfl⟩
theorem wK {w:World} {Z:Nat->Prop} {n:Nat}:∀{xs:List D} {vs:List Value} {F:List Nat},jc w Z n xs vs F->xs.length*n<=vs.length
 | [],vs,F,_=>by simp
 | x::xs,vs,F,h=>by
  simp only[jc]at h;obtain ⟨F1,F2,h1,_,_,h3⟩:=h;have:=wK h3;rw[List.length_drop]at this;rw[List.length_cons,Nat.succ_mul];omega
theorem ju {w:World} {Z:Nat->Prop} {n:Nat}:∀{xs:List D} {vs us:List Value} {F:List Nat},jc w Z n xs vs F->(∀j,j<xs.length*n->us[j]? =vs[j]?)->jc w Z n xs us F
 | [],vs,us,F,h,_=>by simpa only [jc]using h
 | x::xs,vs,us,F,h,hu=>by
  have hsz:=wK h;simp only[jc]at h |-;obtain ⟨F1,F2,h1,h2,h3,h4⟩:=h;rw[List.length_cons,Nat.succ_mul]at hu hsz;have hlen:n<=us.length:=by
   by_cases hn:n=0
   ·omega
   ·have:=hu (n-1) (by omega);rw[bg (by omega:n-1<vs.length)]at this;have:=(aq.1 this).1;omega
  have htake:us.take n=vs.take n:=by
   apply List.ext_getElem?;intro j;rw[List.getElem?_take,List.getElem?_take];split
   ·exact hu j (by omega)
   ·rfl
  refine ⟨F1,F2,hlen,h2,by rw[htake];exact h3,ju h4 λj hj=> ?_⟩;rw[List.getElem?_drop,List.getElem?_drop];exact hu (n+j) (by omega)
theorem A9 {xs:List D} {i:Nat} {x:D} (h:xs[i]? =some x):xs=xs.take i++([x]++xs.drop (i+1))/\(xs.take i).length=i:=by
 have hl:=(aq.1 h).1;refine ⟨?_,by rw[List.length_take];omega⟩;apply List.ext_getElem?;intro j;rw[List.getElem?_append];rw[List.length_take,Nat.min_eq_left (by omega)];split
 ·rename_i hj;rw[List.getElem?_take,if_pos hj]
 ·rename_i hj;rw[List.getElem?_append];split
  ·rename_i hk;simp at hk;have:j=i:=by omega
   subst this;simp[h]
  ·rename_i hk;simp at hk;rw[List.getElem?_drop];simp;congr 1;omega
theorem GP {w:World} {Z:Nat->Prop} {n:Nat} {xs:List D} {vs:List Value} {F:List Nat} {i:Nat} {x:D} (h:jc w Z n xs vs F) (hx:xs[i]? =some x):
  ∃A Fi B,F=A++Fi++B/\jc w Z n (xs.take i) vs A/\OE w Z x ((vs.drop (i*n)).take n) Fi/\jc w Z n (xs.drop (i+1)) (vs.drop ((i+1)*n)) B/\(i+1)*n<=vs.length:=by
 obtain ⟨h1,h2⟩:=A9 hx;have hsz:=wK h;rw[h1]at h;obtain ⟨A,B',rfl,h3,h4⟩:=fw.1 h;obtain ⟨Fi,B,rfl,h5,h6⟩:=fw.1 h4;rw[h2]at h5 h6;obtain ⟨h7,h8⟩:=zG.1 h5;rw[List.length_drop]at h7;rw[List.drop_drop]at h6;simp only[List.length_singleton,Nat.one_mul]at h6;have hl:=(aq.1 hx).1;refine ⟨A,Fi,B,by simp,h3,h8,by rw[Nat.succ_mul];exact h6,?_⟩;exact Nat.le_trans (Nat.mul_le_mul_right n hl) hsz
theorem Dv {w:World} {Z:Nat->Prop} {n:Nat} {xs:List D} {vs:List Value} {A Fi B:List Nat} {i:Nat} {x:D} (hi:i<xs.length) (h1:jc w Z n (xs.take i) vs A) (h2:OE w Z x ((vs.drop (i*n)).take n) Fi) (h3:jc w Z n (xs.drop (i+1)) (vs.drop ((i+1)*n)) B) (h4:(i+1)*n<=vs.length):
  jc w Z n (xs.set i x) vs (A++Fi++B):=by
 have e:xs.set i x=xs.take i++([x]++xs.drop (i+1)):=by
  rw[List.set_eq_take_append_cons_drop,if_pos hi];simp
 have hl:(xs.take i).length=i:=by rw[List.length_take];omega
 rw[e,List.append_assoc];refine fw.2 ⟨A,Fi++B,rfl,h1,fw.2 ⟨Fi,B,rfl,?_,?_⟩⟩
 ·rw[hl];refine zG.2 ⟨?_,h2⟩;rw[List.length_drop];rw[Nat.succ_mul]at h4;omega
 ·rw[hl,List.drop_drop];simp only[List.length_singleton,Nat.one_mul];rw[Nat.succ_mul]at h3;exact h3
theorem gy {w:World} {Z:Nat->Prop}:∀{xs ys:List D} {vs:List Value} {F:List Nat},mS w Z (xs++ys) vs F↔∃v1 v2 A B,vs=v1++v2/\F=A++B/\v1.length=xs.length/\mS w Z xs v1 A/\mS w Z ys v2 B
 | [],ys,vs,F=>by
  simp only[List.nil_append,mS];constructor
  ·intro h;exact ⟨[],vs,[],F,rfl,rfl,rfl,⟨rfl,rfl⟩,h⟩
  ·rintro ⟨v1,v2,A,B,rfl,rfl,_,⟨rfl,rfl⟩,h⟩;exact h
 | x::xs,ys,vs,F=>by
  simp only[List.cons_append,mS];constructor
  ·rintro ⟨v,vs',F1,F2,rfl,rfl,h1,h2⟩;obtain ⟨v1,v2,A,B,rfl,rfl,h3,h4,h5⟩:=gy.1 h2;exact ⟨v::v1,v2,F1++A,B,rfl,by simp,by simp[h3],⟨v,v1,F1,A,rfl,rfl,h1,h4⟩,h5⟩
  ·rintro ⟨v1,v2,A,B,rfl,rfl,h3,⟨v,v1',F1,F2,rfl,rfl,h1,h2⟩,h5⟩;exact ⟨v,v1'++v2,F1,F2++B,rfl,by simp,h1,gy.2 ⟨v1',v2,F2,B,rfl,rfl,by simpa using h3,h2,h5⟩⟩
theorem A_ {w:World} {Z:Nat->Prop} {x:D} {v:Value} (hp:dF x=true) (h:RD w Z x [v]):OC w Z x v []:=by
 cases x<;>first
  | (simp[dF]at hp;done)
  | (simp only[OC];exact ⟨h,trivial⟩)
theorem pT {w:World} {Z:Nat->Prop}:∀{xs:List D} {vs:List Value},xs.all dF=true->fk w Z xs vs->mS w Z xs vs []
 | [],vs,_,h=>by simp only[fk]at h;simp only[mS];exact ⟨h,trivial⟩
 | x::xs,vs,hp,h=>by
  simp only[List.all_cons,af]at hp;simp only[fk]at h;obtain ⟨v,vs',h1,h2,h3⟩:=h;simp only[mS];exact ⟨v,vs',[],[],h1,rfl,A_ hp.1 h2,pT hp.2 h3⟩
theorem Ou {w:World} {L:Loc} {Z:Nat->Prop} {s:br} {r:Id} {sz:gG} {xs:List D} (hobj:∀r ob,s.get r=some ob->RO (aH w Z L s) r ob) (h:s.rd r=some (sz,xs)):
  (L r=none->xs=[])/\∀b,L r=some b->∃vs,w.heap[b]? =some (.cells vs sz.1 (0,0))/\xs.length*sz.2<=vs.size/\Rows w Z xs b 0 sz.2:=by
 unfold br.rd at h;split at h
 case h_2=>cases h
 case h_1 ob ho=>
  have hro:=hobj r ob ho;have cells:∀{b:Nat} {vs:Array Value} {t:TypeId},w.heap[b]? =some (.cells vs t (0,0))->∀j u,vs.toList[j]? =some u->w.cell? ⟨b,0+j,none⟩=some u:=by
   intro b vs t hb j u hj;simp only[World.cell?,hb,Nat.zero_add];simpa using hj
  cases ob with
  | box _=>cases h
  | gone _ _=>cases h
  | rows s' ys=>
   simp only[Obj.rd]at h;injection h with h;injection h with e1 e2;subst e1;subst e2;simpa only [RO]using hro
  | orows s' ys=>
   simp only[Obj.rd]at h;injection h with h;injection h with e1 e2;subst e1;subst e2;simp only[RO]at hro;refine ⟨λe=>(hro.1 e).1,λb hb=> ?_⟩;obtain ⟨vs,F,k1,k2,k3,_,_⟩:=hro.2 b hb;exact ⟨vs,k1,k2,wJ _ _ _ _ k3 b 0 (cells k1)⟩
  | hrows s' ys i off q esz=>
   simp only[Obj.rd]at h;injection h with h;injection h with e1 e2;subst e1;subst e2;simp only[RO]at hro;obtain ⟨b,vs,pre,ys0,post,A1,A2,B1,B2,v,h1,h2,h3,h4,h5,h6,h7,h8,h9,h10,h11,h12,h13,h14,h16,h17⟩:=hro;refine ⟨λe=>(by have e':L r=none:=e;have h1':L r=some b:=h1;rw[h1']at e';cases e'),λb' hb'=> ?_⟩;have hbb:b=b':=by have h1':L r=some b:=h1;rw[h1']at hb';injection hb'
   subst hbb;refine ⟨vs,h2,h3,eW.2 λj x hx=> ?_⟩;have pieces:∀(zs:List D) (k:Nat) (G:List Nat),jc w Z s'.2 zs (vs.toList.drop (k*s'.2)) G->∀(m:Nat) (x:D),zs[m]? =some x->∃cs,cs.length=s'.2/\RD w Z x cs/\∀j v,cs[j]? =some v->w.cell? ⟨b,0+(k+m)*s'.2+j,none⟩=some v:=by
    intro zs k G hG m x hm;have:=wJ _ _ _ _ hG b (k*s'.2) (λj u hj=>by
     rw[List.getElem?_drop]at hj;have:=cells h2 _ _ hj
     rwa [Nat.zero_add]at this)
    obtain ⟨cs,p1,p2,p3⟩:=eW.1 this m x hm;refine ⟨cs,p1,p2,λj v hj=> ?_⟩;rw[Nat.zero_add,Nat.add_mul];exact p3 j v hj
   by_cases hlt:j<i.toNat
   ·obtain ⟨cs,p1,p2,p3⟩:=pieces (ys.take i.toNat) 0 A1 (by simpa using h8) j x (by rw[List.getElem?_take,if_pos hlt];exact hx);exact ⟨cs,p1,p2,λm v hm=>by simpa using p3 m v hm⟩
   ·by_cases heq:j=i.toNat
    ·subst heq;rw[h5]at hx;injection hx with hx;subst hx;have hv:∃a n c,v= .slice a n c:=by
      simp only[RV]at h13;obtain ⟨a,n,cap,_,e,_⟩:=h13;exact ⟨a,n,cap,e⟩
     obtain ⟨va,vn,vc,hv⟩:=hv;have g1:=uP _ _ _ h9;have g2:=uP _ _ _ h10;have hx':(i.toNat+1)*s'.2<=vs.size:=by
      have:=(aq.1 h5).1;exact Nat.le_trans (Nat.mul_le_mul_right _ this) h3
     rw[Nat.succ_mul]at hx';have l1:((vs.toList.drop (i.toNat*s'.2)).take off).length=off:=by simp;omega
     have l2:((vs.toList.drop (i.toNat*s'.2+off+1)).take (s'.2-(off+1))).length=post.length:=by simp;omega
     refine ⟨(vs.toList.drop (i.toNat*s'.2)).take off++v::(vs.toList.drop (i.toNat*s'.2+off+1)).take (s'.2-(off+1)),by rw[List.length_append,List.length_cons,l1,l2];omega,?_,λm u hm=> ?_⟩
     ·simp only[RD];rw[eC]at g1 g2 |-;refine ⟨by simp only[List.length_append,List.length_cons];rw[l1,l2];omega,λm d u hd hu=> ?_⟩;rw[List.getElem?_append]at hd hu;rw[l1]at hu;rw[h6]at hd;split at hd
      ·rename_i hm;rw[if_pos hm]at hu;exact g1.2 m d u hd hu
      ·rename_i hm;rw[if_neg hm]at hu;cases hmo:m-off with
       | zero=>
        simp[hmo]at hd hu;subst hd;subst hu;simp only[RD];exact ⟨va,vn,vc,by rw[hv]⟩
       | succ k=>
        simp only[hmo,List.getElem?_cons_succ]at hd hu;exact g2.2 k d u hd hu
     ·rw[List.getElem?_append,l1]at hm;have hcell:vs.toList[i.toNat*s'.2+m]? =some u:=by
       split at hm
       ·rename_i hmo;rw[List.getElem?_take,if_pos hmo,List.getElem?_drop]at hm;exact hm
       ·rename_i hmo;cases hk:m-off with
        | zero=>
         simp[hk]at hm;subst hm;have:m=off:=by omega
         subst this;simpa using h12
        | succ k=>
         simp only[hk,List.getElem?_cons_succ]at hm;rw[List.getElem?_take]at hm;split at hm
         ·rw[List.getElem?_drop]at hm;rw[show i.toNat*s'.2+m=i.toNat*s'.2+off+1+k by omega];exact hm
         ·cases hm
      have:=cells h2 _ _ hcell
      rwa [<-Nat.add_assoc]at this
    ·obtain ⟨cs,p1,p2,p3⟩:=pieces (ys.drop (i.toNat+1)) (i.toNat+1) B2 h11 (j-(i.toNat+1)) x (by rw[List.getElem?_drop,show i.toNat+1+(j-(i.toNat+1))=j by omega];exact hx);refine ⟨cs,p1,p2,λm v hm=> ?_⟩;have:=p3 m v hm
     rwa [show i.toNat+1+(j-(i.toNat+1))=j by omega]at this
mutual
theorem Ba {w:World} {Z Z':Nat->Prop} (hz:∀b,Z b->Z' b):∀(x:D) (v:Value) (F:List Nat),(∀k∈F,Z' k)->OC w Z x v F->RD w Z' (bn x) [v]
 | .own sz xs,v,F,hf,h=>by
  simp only[OC]at h;obtain ⟨a,c,h1,h2⟩:=h;simp only[bn,RD];rcases h2 with ⟨rfl,rfl,_⟩ | ⟨b,vs,F',e1,rfl,e3,e4,e5,e6,e7⟩
  ·exact ⟨a,0,by rw[h1.1];rfl,Nat.le_refl _,.inl rfl⟩
  ·refine ⟨a,c,by rw[h1.1,ct],?_,.inr ⟨b,0,sz.2,e1,hf b (by simp),?_⟩⟩
   ·rw[ct];refine Nat.le_of_mul_le_mul_right (c:=sz.2) ?_ e5;rw[e4];exact e6
   ·refine tE hz sz.2 xs vs.toList F' (λk hk=>hf k (by simp[hk])) e7 b 0 λj u hj=> ?_
    simp only[World.cell?,e3];simpa using hj
 | .agg _,_,_,_,h=>by simp[OC]at h
 | .int k n,v,F,_,h=>by simp only[OC]at h;simp only[bn];exact cS (λb hb=>⟨hz b hb,rfl⟩) _ _ h.1
 | .bool b,v,F,_,h=>by simp only[OC]at h;simp only[bn];exact cS (λb hb=>⟨hz b hb,rfl⟩) _ _ h.1
 | .str s,v,F,_,h=>by simp only[OC]at h;simp only[bn];exact cS (λb hb=>⟨hz b hb,rfl⟩) _ _ h.1
 | .lst xs,v,F,_,h=>by simp only[OC]at h;simp only[bn];exact cS (λb hb=>⟨hz b hb,rfl⟩) _ _ h.1
theorem x9 {w:World} {Z Z':Nat->Prop} (hz:∀b,Z b->Z' b):∀(xs:List D) (vs:List Value) (F:List Nat),(∀k∈F,Z' k)->mS w Z xs vs F->fk w Z' (aT xs) vs
 | [],vs,F,_,h=>by simp only[mS]at h;simp only[aT,fk];exact h.1
 | d::ds,vs,F,hf,h=>by
  simp only[mS]at h;obtain ⟨v,vs',F1,F2,h1,rfl,h2,h3⟩:=h;simp only[aT,fk];exact ⟨v,vs',h1,Ba hz d v F1 (λk hk=>hf k (by simp[hk])) h2,x9 hz ds vs' F2 (λk hk=>hf k (by simp[hk])) h3⟩
theorem GQ {w:World} {Z Z':Nat->Prop} (hz:∀b,Z b->Z' b):∀(x:D) (vs:List Value) (F:List Nat),(∀k∈F,Z' k)->OE w Z x vs F->RD w Z' (bn x) vs
 | .agg ds,vs,F,hf,h=>by simp only[OE]at h;simp only[bn,RD];exact x9 hz ds vs F hf h
 | .own sz xs,vs,F,hf,h=>by
  simp only[OE]at h;obtain ⟨v,rfl,h2⟩:=h;exact Ba hz (.own sz xs) v F hf h2
 | .int k n,v,F,_,h=>by simp only[OE]at h;simp only[bn];exact cS (λb hb=>⟨hz b hb,rfl⟩) _ _ h.1
 | .bool b,v,F,_,h=>by simp only[OE]at h;simp only[bn];exact cS (λb hb=>⟨hz b hb,rfl⟩) _ _ h.1
 | .str s,v,F,_,h=>by simp only[OE]at h;simp only[bn];exact cS (λb hb=>⟨hz b hb,rfl⟩) _ _ h.1
 | .lst xs,v,F,_,h=>by simp only[OE]at h;simp only[bn];exact cS (λb hb=>⟨hz b hb,rfl⟩) _ _ h.1
theorem tE {w:World} {Z Z':Nat->Prop} (hz:∀b,Z b->Z' b) (n:Nat):∀(xs:List D) (vs:List Value) (F:List Nat),(∀k∈F,Z' k)->jc w Z n xs vs F->∀(b o:Nat),(∀j u,vs[j]? =some u->w.cell? ⟨b,o+j,none⟩=some u)->Rows w Z' (aT xs) b o n
 | [],vs,F,_,_,b,o,_=>by simp only[aT,Rows]
 | x::xs,vs,F,hf,h,b,o,hc=>by
  simp only[jc]at h;obtain ⟨F1,F2,h1,rfl,h2,h3⟩:=h;simp only[aT,Rows];refine ⟨⟨vs.take n,by simp[h1],GQ hz x _ F1 (λk hk=>hf k (by simp[hk])) h2,λj u hj=> ?_⟩,tE hz n xs _ F2 (λk hk=>hf k (by simp[hk])) h3 b (o+n) λj u hj=> ?_⟩
  ·rw[List.getElem?_take]at hj;split at hj
   ·exact hc j u hj
   ·cases hj
  ·rw[List.getElem?_drop]at hj;rw[show o+n+j=o+(n+j) by omega];exact hc (n+j) u hj
end
theorem wL {w:World} {L:Loc} {Z Z':Nat->Prop} {s:br} {r:Id} {sz esz:gG} {xs:List D} {u:Bool} {v:Value} (hz:∀b,Z b->Z' b) (hg:s.get r=some (.orows esz xs)) (hro:RO (aH w Z L s) r (.orows esz xs))
  (hZ:∀b,(Obj.orows esz xs).has L r b->Z' b) (hv:RV (aH w Z L s) (.arr r sz none u) v):RD w Z' (.lst (aT xs)) [v]:=by
 simp only[RV]at hv;obtain ⟨a,n,cap,ys,h1,⟨h2,_⟩,_,h4,h5,_,h7,h8⟩:=hv;have h4':(s.get r).bind Obj.rw=some (sz,ys):=h4;rw[hg]at h4';simp only[Option.bind_some,Obj.rw]at h4';injection h4' with h4';injection h4' with e1 e2;subst e1;subst e2;have hn:=h5 trivial;simp only[RO]at hro;simp only[RD];cases hL:L r with
 | none=>
  have hx:=(hro.1 hL).1;refine ⟨a,cap,by rw[h1,hn,ct],by rw[ct,<-hn];exact h2,.inl ?_⟩;rw[hx];rfl
 | some b=>
  obtain ⟨vs,F,k1,k2,k3,k4,k5⟩:=hro.2 b hL;refine ⟨a,cap,by rw[h1,hn,ct],by rw[ct,<-hn];exact h2,.inr ?_⟩;rcases h8 b hL with ⟨_,m⟩ | ⟨m,_⟩
  ·exact (m rfl).elim
  ·refine ⟨b,0,esz.2,by simpa [bq]using m,hZ b (.inl hL),tE hz esz.2 xs vs.toList F (λk hk=>hZ k (.inr ⟨rfl,(k5 k).2 hk⟩)) k3 b 0 λj u hj=> ?_⟩;simp only[World.cell?,k1];simpa using hj
def Kept (w:World) (L:Loc) (Z0 Z:Nat->Prop) (s0 s:br):Prop:=
 (∀b,Z0 b->Z b)/\∀q,(s.get q).isSome->(s0.get q).isSome/\Same (aH w Z0 L s0) (aH w Z L s) q
theorem Kept.refl (w:World) (L:Loc) (Z:Nat->Prop) (s:br):Kept w L Z Z s s:=
 ⟨λ_ h=>h,λ_ hq=>⟨hq,rfl,λk=>k,λ_ xs k=>⟨xs,k,rfl⟩,λ_ _ _=>rfl⟩⟩
theorem Kept.kill {w:World} {L:Loc} {Z0 Z Z':Nat->Prop} {s0:br} {s:St} (h:Kept w L Z0 Z s0 s.sto) (r:Id) (hz:∀b,Z b->Z' b):Kept w L Z0 Z' s0 (s.kill r).sto:=by
 refine ⟨λb hb=>hz b (h.1 b hb),λq hq=> ?_⟩;have hne:q≠r:=λe=>by rw[fI,if_pos e]at hq;cases hq
 have hq':(s.sto.get q).isSome:=by rw[fI,if_neg hne]at hq;simpa using hq
 obtain ⟨k0,k1,k2,k3,k4⟩:=h.2 q hq';obtain ⟨m1,m2,m3,m4⟩:=pR (s:=s) (w:=w) (L:=L) (Z:=Z) (Z':=Z') hne;refine ⟨k0,m1.trans k1,λk=>m2 (k2 k),λsz xs k=> ?_,λb hb hs=>rfl⟩;obtain ⟨ys,n1,n2⟩:=k3 sz xs k;obtain ⟨zs,n3,n4⟩:=m3 sz ys n1;exact ⟨zs,n3,n4.trans n2⟩
theorem Kept.rv {w:World} {L:Loc} {Z0 Z:Nat->Prop} {s0 s:br} (h:Kept w L Z0 Z s0 s) {x:AV} {v:Value} (hr:∀r∈x.refs,(s.get r).isSome) (hv:RV (aH w Z0 L s0) x v):RV (aH w Z L s) x v:=
 kf (c:=aH w Z0 L s0) (c':=aH w Z L s) (λb hb=>⟨h.1 b hb,rfl⟩) x v (λr hm=>(h.2 r (hr r hm)).2) hv
def Pz (c:Cx) (x:AV) (v:Value):Prop:=(∀r∈x.refs,(c.obj r).isSome)->RV c x v
def Ov (c:Cx) (xs:List AV) (vs:List Value):Prop:=(∀r∈AV.bE xs,(c.obj r).isSome)->di c xs vs
theorem Kept.trans {w:World} {L:Loc} {Z0 Z1 Z2:Nat->Prop} {s0 s1 s2:br} (h:Kept w L Z0 Z1 s0 s1) (k:Kept w L Z1 Z2 s1 s2):Kept w L Z0 Z2 s0 s2:=by
 refine ⟨λb hb=>k.1 b (h.1 b hb),λq hq=> ?_⟩;obtain ⟨a1,a2,a3,a4,a5⟩:=k.2 q hq;obtain ⟨b1,b2,b3,b4,b5⟩:=h.2 q a1;refine ⟨b1,a2.trans b2,λm=>a3 (b3 m),λsz xs m=> ?_,λ_ _ _=>rfl⟩;obtain ⟨ys,n1,n2⟩:=b4 sz xs m;obtain ⟨zs,n3,n4⟩:=a4 sz ys n1;exact ⟨zs,n3,n4.trans n2⟩
mutual
theorem wM {a:Act} {w:World} {L:Loc} {Z0:Nat->Prop} {s0:br} (np:Nat):∀(x:AV) (v:Value) (s s':St) (x':AV) (Z:Nat->Prop),RS s a w L Z->Kept w L Z0 Z s0 s.sto->RV (aH w Z0 L s0) x v->
  fz (real call loop) s x=some (x',s')->∃Z',RS s' a w L Z'/\Tr np s.sto s'.sto w w L L Z Z'/\Kept w L Z Z' s.sto s'.sto/\Pz (aH w Z' L s'.sto) x' v
 | .emp,v,s,s',x',Z,h,hk,hv,e=>by
  simp only[fz]at e;injection e with e;injection e with e1 e2;subst e1;subst e2;refine ⟨Z,h,Tr.refl _ _ _ _ _,Kept.refl _ _ _ _,λ_=> ?_⟩;simp only[RV]at hv;obtain ⟨A,h1⟩:=hv;simp only[RV,RD];exact ⟨A,0,by rw[h1];rfl,Nat.le_refl _,.inl trivial⟩
 | .arr r sz g u,v,s,s',x',Z,h,hk,hv,e=>by
  simp only[fz]at e;split at e
  case h_1 esz xs hg=>
     cases g with
     | some p=>cases e
     | none=>
      simp only at e;injection e with e;injection e with e1 e2;subst e1;subst e2;have hv':=hk.rv (x:= .arr r sz none u) (by intro q hq;simp[AV.refs]at hq;subst hq;simp[hg]) hv;obtain ⟨k1,k2⟩:=h.KN hg np;refine ⟨_,k1,k2,Kept.kill (Kept.refl _ _ _ _) r (λb hb=> .inl hb),λ_=> ?_⟩;simp only[RV];exact wL (λb hb=> .inl hb) hg (h.obj r _ hg) (λb hb=> .inr hb) hv'
  case h_2 hnot=>
   split at e
   case h_2=>cases e
   case h_1 xs hc=>
     injection e with e;injection e with e1 e2;subst e1;subst e2;have hlive:(s.sto.get r).isSome:=by
      simp only[content]at hc;split at hc
      ·rename_i hr;simp[hr]
      ·cases hc
     obtain ⟨ob,hob⟩:=Option.isSome_iff_exists.1 hlive;have hv':=hk.rv (x:= .arr r sz g u) (by intro q hq;simp[AV.refs]at hq;subst hq;exact hlive) hv;obtain ⟨A,cap,h1,h2,h3⟩:=cG h.obj hv' hc;obtain ⟨k1,k2⟩:=h.KN hob np;refine ⟨_,k1,k2,Kept.kill (Kept.refl _ _ _ _) r (λb hb=> .inl hb),λ_=> ?_⟩;simp only[RV,RD];refine ⟨A,cap,by rw[h1],h2,h3.imp id ?_⟩;rintro ⟨b,o,z,h4,h5,h6⟩;refine ⟨b,o,z,h4,?_,mH (w:=w) (w':=w) (Z:=Z) (λb hb=>⟨.inl hb,rfl⟩) rfl _ _ _ h5⟩;rcases h6 with h6 | ⟨r',z',g',u',ob',e1,e2,e3⟩
     ·exact .inl h6
     ·injection e1 with e1;subst e1;exact .inr (.inl e3)
 | .agg cs,v,s,s',x',Z,h,hk,hv,e=>by
  simp only[fz]at e;split at e
  case h_2=>cases e
  case h_1 ds s2 hc=>
    injection e with e;injection e with e1 e2;subst e1;subst e2;simp only[RV]at hv;obtain ⟨vs,h1,h2⟩:=hv;obtain ⟨Z',k1,k2,k3,k4⟩:=kE np cs vs s _ _ Z h hk h2 hc;refine ⟨Z',k1,k2,k3,λhr=> ?_⟩;simp only[RV];exact ⟨vs,h1,k4 (by simpa [AV.refs]using hr)⟩
 | .tup cs,v,s,s',x',Z,h,hk,hv,e=>by
  simp only[fz]at e;split at e
  case h_2=>cases e
  case h_1 ds s2 hc=>
    injection e with e;injection e with e1 e2;subst e1;subst e2;simp only[RV]at hv;obtain ⟨vs,h1,h2⟩:=hv;obtain ⟨Z',k1,k2,k3,k4⟩:=kE np cs vs s _ _ Z h hk h2 hc;refine ⟨Z',k1,k2,k3,λhr=> ?_⟩;simp only[RV];exact ⟨vs,h1,k4 (by simpa [AV.refs]using hr)⟩
 | .undef,v,s,s',x',Z,h,hk,hv,e=>by
  simp only[fz]at e;injection e with e;injection e with e1 e2;subst e1;subst e2;exact ⟨Z,h,Tr.refl _ _ _ _ _,Kept.refl _ _ _ _,λhr=>hk.rv hr hv⟩
 | .bare,v,s,s',x',Z,h,hk,hv,e=>by
  simp only[fz]at e;injection e with e;injection e with e1 e2;subst e1;subst e2;exact ⟨Z,h,Tr.refl _ _ _ _ _,Kept.refl _ _ _ _,λhr=>hk.rv hr hv⟩
 | .d y,v,s,s',x',Z,h,hk,hv,e=>by
  simp only[fz]at e;injection e with e;injection e with e1 e2;subst e1;subst e2;exact ⟨Z,h,Tr.refl _ _ _ _ _,Kept.refl _ _ _ _,λhr=>hk.rv hr hv⟩
 | .nilp,v,s,s',x',Z,h,hk,hv,e=>by
  simp only[fz]at e;injection e with e;injection e with e1 e2;subst e1;subst e2;exact ⟨Z,h,Tr.refl _ _ _ _ _,Kept.refl _ _ _ _,λhr=>hk.rv hr hv⟩
 | .ptr _ _,v,s,s',x',Z,h,hk,hv,e=>by
  simp only[fz]at e;injection e with e;injection e with e1 e2;subst e1;subst e2;exact ⟨Z,h,Tr.refl _ _ _ _ _,Kept.refl _ _ _ _,λhr=>hk.rv hr hv⟩
 | .prow _ _ _ _,v,s,s',x',Z,h,hk,hv,e=>by
  simp only[fz]at e;injection e with e;injection e with e1 e2;subst e1;subst e2;exact ⟨Z,h,Tr.refl _ _ _ _ _,Kept.refl _ _ _ _,λhr=>hk.rv hr hv⟩
 | .sp _ _,v,s,s',x',Z,h,hk,hv,e=>by
  simp only[fz]at e;injection e with e;injection e with e1 e2;subst e1;subst e2;exact ⟨Z,h,Tr.refl _ _ _ _ _,Kept.refl _ _ _ _,λhr=>hk.rv hr hv⟩
 | .fn _ _,v,s,s',x',Z,h,hk,hv,e=>by
  simp only[fz]at e;injection e with e;injection e with e1 e2;subst e1;subst e2;exact ⟨Z,h,Tr.refl _ _ _ _ _,Kept.refl _ _ _ _,λhr=>hk.rv hr hv⟩
theorem kE {a:Act} {w:World} {L:Loc} {Z0:Nat->Prop} {s0:br} (np:Nat):∀(xs:List AV) (vs:List Value) (s s':St) (xs':List AV) (Z:Nat->Prop),RS s a w L Z->Kept w L Z0 Z s0 s.sto->di (aH w Z0 L s0) xs vs->
  yV (real call loop) s xs=some (xs',s')->∃Z',RS s' a w L Z'/\Tr np s.sto s'.sto w w L L Z Z'/\Kept w L Z Z' s.sto s'.sto/\Ov (aH w Z' L s'.sto) xs' vs
 | [],vs,s,s',xs',Z,h,hk,hv,e=>by
  simp only[yV]at e;injection e with e;injection e with e1 e2;subst e1;subst e2;refine ⟨Z,h,Tr.refl _ _ _ _ _,Kept.refl _ _ _ _,λ_=>by simpa only [di]using hv⟩
 | x::xs,vs,s,s',xs',Z,h,hk,hv,e=>by
  simp only[yV]at e;split at e
  case h_2=>cases e
  case h_1 y s2 hc=>
   split at e
   case h_2=>cases e
   case h_1 ys s3 hc2=>
    injection e with e;injection e with e1 e2;subst e1;subst e2;simp only[di]at hv;obtain ⟨v,vs',h1,h2,h3⟩:=hv;obtain ⟨Z1,k1,k2,k3,k4⟩:=wM np x v s s2 y Z h hk h2 hc;obtain ⟨Z2,m1,m2,m3,m4⟩:=kE np xs vs' s2 s3 ys Z1 k1 (hk.trans k3) h3 hc2;refine ⟨Z2,m1,k2.trans m2,k3.trans m3,λhr=> ?_⟩;simp only[di];simp only[AV.bE,List.mem_append]at hr;refine ⟨v,vs',h1,?_,m4 λr hm=>hr r (.inr hm)⟩;exact m3.rv (λr hm=>hr r (.inl hm)) (k4 λr hm=>(m3.2 r (hr r (.inl hm))).1)
end
theorem tF {w:World} {Z:Nat->Prop} {b n:Nat} {vs:Array Value} {t:TypeId} (hb:w.heap[b]? =some (.cells vs t (0,0))):∀(xs:List D) (o:Nat),(real call loop).flat xs=true->xs.length*n+o<=vs.size->Rows w Z xs b o n->jc w Z n xs (vs.toList.drop o) []
 | [],o,_,_,_=>by simp only[jc]
 | x::xs,o,hf,hl,h=>by
  simp only[real,aJ.flat,List.all_cons,af]at hf;simp only[Rows]at h;obtain ⟨⟨cs,h1,h2,h3⟩,h4⟩:=h;rw[List.length_cons,Nat.succ_mul]at hl;have hcs:(vs.toList.drop o).take n=cs:=by
   apply List.ext_getElem?;intro j;rw[List.getElem?_take];split
   ·rename_i hj;rw[List.getElem?_drop];have hjc:cs[j]? =some cs[j]:=bg (by omega);have:=h3 j _ hjc;simp only[World.cell?,hb]at this;rw[hjc];simpa using this
   ·rename_i hj;rw[List.getElem?_eq_none (by omega)]
  simp only[jc];refine ⟨[],[],by simp;omega,rfl,?_,?_⟩
  ·rw[hcs];cases x with
   | agg ds=>simp only[OE];simp only[RD]at h2;exact pT hf.1 h2
   | own _ _=>simp[dF]at hf
   | int _ _=>simp only[OE];exact ⟨h2,trivial⟩
   | bool _=>simp only[OE];exact ⟨h2,trivial⟩
   | str _=>simp only[OE];exact ⟨h2,trivial⟩
   | lst _=>simp only[OE];exact ⟨h2,trivial⟩
  ·rw[List.drop_drop];exact tF hb xs (o+n) (by simpa only [real,aJ.flat]using hf.2) (by omega) h4
def zH (w:World) (L:Loc) (Z:Nat->Prop) (s0 s:br) (F:List Nat):Prop:=F.Nodup/\∀k∈F,¬Z k/\aU s0 L k/\¬aU s L k/\k<w.heap.size
theorem qK {a:Act} {w:World} {L:Loc} {Z0 Z:Nat->Prop} {s00:br} (np:Nat) (x:AV) (v:Value) (s s':St) (d:D) (h:RS s a w L Z) (hk:Kept w L Z0 Z s00 s.sto) (hv:RV (aH w Z0 L s00) x v)
  (e:j_ (real call loop) s x=some (d,s')):RS s' a w L Z/\Tr np s.sto s'.sto w w L L Z Z/\Kept w L Z Z s.sto s'.sto/\∃F,OC w Z d v F/\zH w L Z s.sto s'.sto F:=by
 have plain:∀y,dF y=true->RD w Z y [v]->OC w Z y v []:=λy hp hr=>A_ hp hr
 cases x with
 | d y=>
  simp only[j_]at e;split at e
  case h_2=>cases e
  case h_1 hp=>
   injection e with e;injection e with e1 e2;subst e1;subst e2;have:=hk.rv (x:= .d y) (by simp[AV.refs]) hv;simp only[RV]at this;exact ⟨h,Tr.refl _ _ _ _ _,Kept.refl _ _ _ _,[],plain y hp this,by simp[zH]⟩
 | emp=>
  simp only[j_]at e;injection e with e;injection e with e1 e2;subst e1;subst e2;simp only[RV]at hv;obtain ⟨A,hv⟩:=hv;refine ⟨h,Tr.refl _ _ _ _ _,Kept.refl _ _ _ _,[],plain _ rfl ?_,by simp[zH]⟩;simp only[RD];exact ⟨A,0,by rw[hv];rfl,Nat.le_refl _,.inl trivial⟩
 | arr r sz g u=>
  cases g with
  | some p=>simp[j_]at e
  | none=>
   simp only[j_]at e;split at e
   ·cases e
   rename_i m hsz;have hpos:0<sz.2:=by omega
   have main:∀(ob:Obj) (esz:gG) (ys:List D),s.sto.get r=some ob->ob.rw=some (esz,ys)->(L r=none->ys=[])->
     (∀b,L r=some b->∃vs F,w.heap[b]? =some (.cells vs esz.1 (0,0))/\ys.length*esz.2<=vs.size/\jc w Z esz.2 ys vs.toList F/\(b::F).Nodup/\∀k∈F,ob.has L r k)->
     RS (s.kill r) a w L Z/\Tr np s.sto (s.kill r).sto w w L L Z Z/\Kept w L Z Z s.sto (s.kill r).sto/\∃F,OC w Z (.own sz ys) v F/\zH w L Z s.sto (s.kill r).sto F:=by
    intro ob esz ys ho hrw h0 h1;have hv':=hk.rv (x:= .arr r sz none u) (by intro q hq;simp[AV.refs]at hq;subst hq;simp[ho]) hv;refine ⟨h.kill r,Tr.kill np s w L Z r,Kept.kill (Kept.refl _ _ _ _) r (λ_ hb=>hb),?_⟩;simp only[RV]at hv';obtain ⟨A,n,cap,zs,k1,⟨k2,k2'⟩,_,k4,k5,_,k7,k8⟩:=hv';have k4':(s.sto.get r).bind Obj.rw=some (sz,zs):=k4;rw[ho]at k4';simp only[Option.bind_some,hrw]at k4';injection k4' with k4';injection k4' with e1 e2;subst e1;subst e2;have hn:=k5 trivial;simp only[OC];cases hL:L r with
    | none=>
     have hy:=h0 hL;have hc:=k7 hL;exact ⟨[],⟨A,cap,⟨by rw[k1,hn],k2'⟩,.inl ⟨hc,hy,rfl⟩⟩,by simp[zH]⟩
    | some b=>
     obtain ⟨vs,F,m1,m2,m3,m4,m5⟩:=h1 b hL;rcases k8 b hL with ⟨_,q⟩ | ⟨q1,q2⟩
     ·exact (q rfl).elim
     ·refine ⟨b::F,⟨A,cap,⟨by rw[k1,hn],k2'⟩,.inr ⟨b,vs,F,by simpa [bq]using q1,rfl,m1,?_,hpos,m2,m3⟩⟩,m4,λk hk'=> ?_⟩
      ·simp only[bq,Nat.zero_add,bX,m1]at q2;exact q2
      ·have hhas:ob.has L r k:=by
        rcases List.mem_cons.1 hk' with rfl | hk'
        ·exact .inl hL
        ·exact m5 k hk'
       refine ⟨λhz=>(h.dis k hz).2 ⟨r,ob,ho,hhas⟩,⟨r,ob,ho,hhas⟩,gu h ho hhas,h.fq ho hhas⟩
   split at e
   ·rename_i esz ys ho;injection e with e;injection e with e1 e2;subst e1;subst e2;have hro:=h.obj r _ ho;simp only[RO]at hro;refine main _ esz ys ho rfl (λe=>(hro.1 e).1) λb hb=> ?_
    obtain ⟨vs,F,m1,m2,m3,m4,m5⟩:=hro.2 b hb;exact ⟨vs,F,m1,m2,m3,m4,λk hk'=> .inr ⟨rfl,(m5 k).2 hk'⟩⟩
   ·rename_i esz ys ho;split at e
    case h_2=>cases e
    case h_1 hf=>
     injection e with e;injection e with e1 e2;subst e1;subst e2;have hro:=h.obj r _ ho;simp only[RO]at hro;refine main _ esz ys ho rfl hro.1 λb hb=> ?_
     obtain ⟨vs,m1,m2,m3⟩:=hro.2 b hb;exact ⟨vs,[],m1,m2,by simpa using tF m1 ys 0 hf (by simpa using m2) m3,by simp,by simp⟩
   ·cases e
 | _=>simp[j_]at e
theorem qL {a:Act} {w:World} {L:Loc} {Z0 Z:Nat->Prop} {s00:br} (np:Nat):∀(xs:List AV) (vs:List Value) (s s':St) (ds:List D),RS s a w L Z->Kept w L Z0 Z s00 s.sto->di (aH w Z0 L s00) xs vs->
  bQ (real call loop) s xs=some (ds,s')->RS s' a w L Z/\Tr np s.sto s'.sto w w L L Z Z/\Kept w L Z Z s.sto s'.sto/\∃F,mS w Z ds vs F/\zH w L Z s.sto s'.sto F
 | [],vs,s,s',ds,h,hk,hv,e=>by
  simp only[bQ]at e;injection e with e;injection e with e1 e2;subst e1;subst e2;simp only[di]at hv;exact ⟨h,Tr.refl _ _ _ _ _,Kept.refl _ _ _ _,[],by simp only[mS];exact ⟨hv,trivial⟩,by simp[zH]⟩
 | x::xs,vs,s,s',ds,h,hk,hv,e=>by
  simp only[bQ]at e;split at e
  case h_2=>cases e
  case h_1 y s2 hc=>
   split at e
   case h_2=>cases e
   case h_1 ys s3 hc2=>
    injection e with e;injection e with e1 e2;subst e1;subst e2;simp only[di]at hv;obtain ⟨v,vs',h1,h2,h3⟩:=hv;obtain ⟨k1,k2,k3,F1,k4,k5,k6⟩:=qK np x v s s2 y h hk h2 hc;obtain ⟨m1,m2,m3,F2,m4,m5,m6⟩:=qL np xs vs' s2 s3 ys k1 (hk.trans k3) h3 hc2;have back:∀k,aU s2.sto L k->aU s.sto L k:=λk hl=>by
     rcases k2.lives k hl with m | m
     ·exact m
     ·obtain ⟨q,ob,g1,g2⟩:=hl;have:=k1.fq g1 g2;omega
    have back':∀k,aU s3.sto L k->aU s2.sto L k:=λk hl=>by
     rcases m2.lives k hl with m | m
     ·exact m
     ·obtain ⟨q,ob,g1,g2⟩:=hl;have:=m1.fq g1 g2;omega
    refine ⟨m1,k2.trans m2,k3.trans m3,F1++F2,?_,?_,λk hk'=> ?_⟩
    ·simp only[mS];exact ⟨v,vs',F1,F2,h1,rfl,k4,m4⟩
    ·rw[List.nodup_append];refine ⟨k5,m5,λx hx y hy hxy=> ?_⟩;subst hxy;exact (k6 x hx).2.2.1 (m6 x hy).2.1
    ·rcases List.mem_append.1 hk' with hk' | hk'
     ·obtain ⟨p1,p2,p3,p4⟩:=k6 k hk';exact ⟨p1,p2,λhl=>p3 (back' k hl),p4⟩
     ·obtain ⟨p1,p2,p3,p4⟩:=m6 k hk';exact ⟨p1,back k p2,p3,p4⟩
def zI:Value->AV->Bool
 | _,.undef=>true
 | .int k n,.d (.int k' n')=>k==k'&&n==n'
 | .bool b,.d (.bool b')=>b==b'
 | .string s,.d (.str s')=>s.data==s'.data
 | .slice none 0 0,.emp=>true
 | .slice none 0 0,.d (.lst [])=>true
 | .pointer none,.nilp=>true
 | _,_=>false
def eK:List Value->List AV->Bool
 | [],[]=>true
 | v::vs,a::as=>zI v a&&eK vs as
 | _,_=>false
def GR:Value->AV->Bool
 | .agg vs,.agg as=>eK vs.toList as
 | v,a=>zI v a
def cR:Operand->VX->Bool
 | .tmp t,.tmp t'=>t==t'
 | .tmp t,.home t'=>t==t'
 | .const v,.const a=>GR v a
 | .func f,.const (.fn g [])=>f==wS g
 | _,_=>false
def ux:List Operand->List VX->Bool
 | [],[]=>true
 | x::xs,y::ys=>cR x y&&ux xs ys
 | _,_=>false
def xq:Option Operand->Option VX->Bool
 | none,none=>true
 | some x,some y=>cR x y
 | _,_=>false
theorem nN {c:Cx} {v:Value} {a:AV} (h:zI v a=true):RV c a v:=by
 unfold zI at h;split at h
 ·simp only[RV]
 ·simp only[af,beq_iff_eq]at h;obtain ⟨rfl,rfl⟩:=h;simp only[RV,RD]
 ·simp only[beq_iff_eq]at h;subst h;simp only[RV,RD]
 ·simp only[beq_iff_eq]at h;simp only[RV,RD,List.cons.injEq,Value.string.injEq,and_true];exact ByteArray.ext h
 ·simp only[RV];exact ⟨_,rfl⟩
 ·simp only[RV,RD];exact ⟨none,0,rfl,Nat.le_refl _,.inl trivial⟩
 ·simp only[RV]
 ·cases h
theorem ku {c:Cx}:∀{vs:List Value} {as:List AV},eK vs as=true->di c as vs
 | [],[],_=>by simp only[di]
 | v::vs,a::as,h=>by
  simp only[eK,af]at h;simp only[di];exact ⟨v,vs,rfl,nN h.1,ku h.2⟩
 | [],_::_,h=>by simp[eK]at h
 | _::_,[],h=>by simp[eK]at h
theorem Bb {c:Cx} {v:Value} {a:AV} (h:GR v a=true):RV c a v:=by
 unfold GR at h;split at h
 ·simp only[RV];exact ⟨_,(Array.toArray_toList).symm ▸ rfl,ku h⟩
 ·exact nN h
section
variable {P:Program} {call:cM} {loop:cN}
variable {s:St} {a:Act} {w:World} {L:Loc} {Z:Nat->Prop}
theorem aL (h:RS s a w L Z) {x:Operand} {x':VX} (hx:cR x x'=true) {y:AV} (e:ev s.env x'=some y):RV (aH w Z L s.sto) y (a.eval x):=by
 unfold cR at hx;split at hx
 ·simp only[beq_iff_eq]at hx;subst hx;simp only[ev]at e;exact h.get e
 ·simp only[beq_iff_eq]at hx;subst hx;simp only[ev]at e;split at e
  ·rename_i he;split at e
   ·injection e with e;subst e;exact h.get he
   ·cases e
  ·cases e
 ·simp only[ev]at e;injection e with e;subst e;exact Bb hx
 ·simp only[beq_iff_eq]at hx;subst hx;simp only[ev]at e;injection e with e;subst e;simp only[RV];exact ⟨[],rfl,by simp only[di]⟩
 ·cases hx
theorem pU (h:RS s a w L Z):∀{xs:List Operand} {xs':List VX},ux xs xs'=true->∀{ys:List AV},wT s.env xs'=some ys->di (aH w Z L s.sto) ys (xs.map a.eval)
 | [],[],_,ys,e=>by simp only[wT]at e;injection e with e;subst e;simp only[di,List.map_nil]
 | x::xs,x'::xs',hx,ys,e=>by
  simp only[ux,af]at hx;simp only[wT]at e;split at e
  case h_2=>cases e
  case h_1 y e1=>
   split at e
   case h_2=>cases e
   case h_1 ys' e2=>
    injection e with e;subst e;simp only[di,List.map_cons];exact ⟨_,_,rfl,aL h hx.1 e1,pU h hx.2 e2⟩
 | [],_::_,h,_,_=>by simp[ux]at h
 | _::_,[],h,_,_=>by simp[ux]at h
def aV (P:Program) (np:Nat) (o:Oper) (s:St) (a:Act) (w:World) (L:Loc) (Z:Nat->Prop) (x:AV) (s':St):Prop:=
 ∀(K:Act->World->Prop) (Q:Exit->Act->World->Prop),
  (∀u w' L' Z',RS s' a w' L' Z'->Tr np s.sto s'.sto w w' L L' Z Z'->RV (aH w' Z' L' s'.sto) x u->K (a.put o.dst u) w')->o.wp P a w K Q
theorem aV.value {np:Nat} {o:Oper} {x:AV} {s':St} {u:Value} {w':World} {L':Loc} {Z':Nat->Prop} (e:(execOp a.eval o).run P w= .ok (.value u) w')
  (h:RS s' a w' L' Z') (t:Tr np s.sto s'.sto w w' L L' Z Z') (hv:RV (aH w' Z' L' s'.sto) x u):aV P np o s a w L Z x s':=by
 intro K Q hk;unfold Oper.wp;rw[e];exact hk u w' L' Z' h t hv
theorem aV.skip {np:Nat} {o:Oper} {s':St} {w':World} {L':Loc} {Z':Nat->Prop} (e:(execOp a.eval o).run P w= .ok .skip w')
  (h:RS s' a w' L' Z') (t:Tr np s.sto s'.sto w w' L L' Z Z'):aV P np o s a w L Z .bare s':=by
 intro K Q hk;unfold Oper.wp;rw[e];exact hk undef w' L' Z' h t (by simp only[RV])
theorem aV.pure {np:Nat} {o:Oper} {x:AV} {u:Value} (h:RS s a w L Z) (e:(execOp a.eval o).run P w= .ok (.value u) w) (hv:RV (aH w Z L s.sto) x u):aV P np o s a w L Z x s:=
 aV.value e h (Tr.refl _ _ _ _ _) hv
theorem eE {o:Oper} {ρ:Operand->Value} {m:Sem Value} {u:Value} {w':World} (e:execOp ρ o=(do pure (.value (<-m)))) (hm:m.run P w= .ok u w'):(execOp ρ o).run P w= .ok (.value u) w':=by
 rw[e];simp[hm]
theorem x_ (np:Nat) (h:RS s a w L Z) {o:Oper} {x:Operand} {x':VX} (ho:o.op= .move x\/o.op= .assign x) (hx:cR x x'=true) {y:AV} (e:ev s.env x'=some y):aV P np o s a w L Z y s:=by
 refine aV.pure h (u:=a.eval x) ?_ (aL h hx e);rcases ho with ho | ho<;>(unfold execOp;rw[ho];rfl)
theorem Ej (np:Nat) (h:RS s a w L Z) {o:Oper} {c x y:Operand} {c' x' y':VX} (ho:o.op= .pick c x y) (hc:cR c c'=true) (hx:cR x x'=true) (hy:cR y y'=true) {t:Bool} {u v:AV}
  (e1:ev s.env c'=some (.d (.bool t))) (e2:ev s.env x'=some u) (e3:ev s.env y'=some v):aV P np o s a w L Z (match t with | true=>u | false=>v) s:=by
 have h1:=aL h hc e1;simp only[RV,RD]at h1;injection h1 with h1;refine aV.pure h (u:=if t then a.eval x else a.eval y) ?_ ?_
 ·unfold execOp;rw[ho];simp[h1,asBool]
 ·cases t
  ·exact aL h hy e3
  ·exact aL h hx e2
theorem Jo {op:BinOp} {t:TypeId} {k k':IntKind} {p q:Int} {r:AV} (e:bin (real call loop) op (.d (.int k p)) (.d (.int k' q))=some r):
  ∃m,(binOp op t (.int k p) (.int k' q)).run P w= .ok m w/\∀c,RV c r m:=by
 unfold bin at e;simp only[real,aJ.ar,aJ.cmp,aJ.isZero]at e;cases op<;>simp only at e<;>(repeat' split at e)<;>first
  | (cases e;done)
  | (rename_i hk _ hq;cases e;subst hk;refine ⟨_,?_,λc=>by simp only[RV,RD,Ei,qJ];rfl⟩;have hq':¬q=0:=(by simpa using hq);simp[binOp,Op.intDiv,hq'];done)
  | (rename_i hq;cases e;refine ⟨_,?_,λc=>by simp only[RV,RD,Ei,qJ];rfl⟩;have hq':¬q<0:=(by simpa [qJ]using hq);simp[binOp,Op.shift,hq'];done)
  | (rename_i hk;cases e;subst hk;refine ⟨_,?_,λc=>by simp only[RV,RD,Ei,qJ];rfl⟩;simp[binOp,Op.intArith,Op.intBits,Op.intCmp];done)
theorem Jp {op:BinOp} {t:TypeId} {p q:ByteArray} {r:AV} (e:bin (real call loop) op (.d (.str p)) (.d (.str q))=some r):
  ∃m,(binOp op t (.string p) (.string q)).run P w= .ok m w/\∀c,RV c r m:=by
 unfold bin at e;simp only[real,aJ.rJ,aJ.yT,aJ.gM]at e;cases op<;>simp only at e<;>(repeat' split at e)<;>first
  | (cases e;done)
  | (rename_i hk;cases e;refine ⟨_,?_,λc=>by simp only[RV,RD];rfl⟩;have hk':=of_decide_eq_true hk;simp only[binOp,Op.stringOp];rw[if_neg (by omega)];rfl)
  | (cases e;refine ⟨_,?_,λc=>by simp only[RV,RD,uh];rfl⟩;simp[binOp,Op.stringOp];done)
theorem Ci {t:TypeId} (ht:P.underlying t=some .bool) (p q:Bool):(Op.equal t (.bool p) (.bool q)).run P w= .ok (p==q) w:=by
 have:∀d,(Op.equalIn (d+1) t (.bool p) (.bool q)).run P w= .ok (p==q) w:=by
  intro d;rw[Op.equalIn];simp[run_underlying ht]
 exact this 9999
theorem GS {op:BinOp} {t:TypeId} {p q:Bool} {r:AV} (ht:P.underlying t=some .bool) (e:bin (real call loop) op (.d (.bool p)) (.d (.bool q))=some r):
  ∃m,(binOp op t (.bool p) (.bool q)).run P w= .ok m w/\∀c,RV c r m:=by
 unfold bin at e;cases op<;>simp only at e<;>first
  | (cases e;done)
  | (cases e;refine ⟨_,?_,λc=>by simp only[RV,RD];rfl⟩;simp only[binOp];rw[Sem.run_bind,Ci ht];rfl)
theorem GU (np:Nat) (h:RS s a w L Z) {o:Oper} {op:BinOp} {t t':TypeId} {x y:Operand} {x' y':VX} (ho:o.op= .binOp op t x y t') (hx:cR x x'=true) (hy:cR y y'=true)
  {u v r:AV} (hb:∀p,u= .d (.bool p)->P.underlying t=some .bool)
  (e2:ev s.env x'=some u) (e3:ev s.env y'=some v) (e:bin (real call loop) op u v=some r):aV P np o s a w L Z r s:=by
 have h1:=aL h hx e2;have h2:=aL h hy e3;have hrun:∀{m:Value},(do eqGuard op t x y (a.eval x) (a.eval y);binOp op t (a.eval x) (a.eval y):Sem Value).run P w= .ok m w->(execOp a.eval o).run P w= .ok (.value m) w:=by
  intro m hm;refine eE (m:=do eqGuard op t x y (a.eval x) (a.eval y);binOp op t (a.eval x) (a.eval y)) ?_ hm;unfold execOp;rw[ho]
 have e':=e;unfold bin at e;split at e
 ·rename_i k p k' q;simp only[RV,RD,List.cons.injEq,and_true]at h1 h2;rw[h1,h2]at hrun;have hg:(eqGuard op t x y (.int k p) (.int k' q)).run P w= .ok () w:=by unfold eqGuard;cases op<;>rfl
  obtain ⟨m,hm,hr⟩:=Jo (P:=P) (w:=w) (t:=t) e';exact aV.pure h (hrun (by simp[hg,hm])) (hr _)
 ·rename_i p q;simp only[RV,RD,List.cons.injEq,and_true]at h1 h2;rw[h1,h2]at hrun;have hg:(eqGuard op t x y (.string p) (.string q)).run P w= .ok () w:=by unfold eqGuard;cases op<;>rfl
  obtain ⟨m,hm,hr⟩:=Jp (P:=P) (w:=w) (t:=t) e';exact aV.pure h (hrun (by simp[hg,hm])) (hr _)
 ·rename_i p q;simp only[RV,RD,List.cons.injEq,and_true]at h1 h2;rw[h1,h2]at hrun;have hg:(eqGuard op t x y (.bool p) (.bool q)).run P w= .ok () w:=by unfold eqGuard;cases op<;>rfl
  obtain ⟨m,hm,hr⟩:=GS (P:=P) (w:=w) (t:=t) (hb p rfl) e';exact aV.pure h (hrun (by simp[hg,hm])) (hr _)
 ·cases e
theorem yc {t e:TypeId} (ht:P.underlying t=some (.pointer e)) (p:Option Addr):(Op.equal t (.pointer p) (.pointer none)).run P w= .ok p.isNone w:=by
 have:∀d,(Op.equalIn (d+1) t (.pointer p) (.pointer none)).run P w= .ok p.isNone w:=by
  intro d;rw[Op.equalIn];cases p<;>simp[run_underlying ht]
 exact this 9999
theorem wN (np:Nat) (h:RS s a w L Z) {o:Oper} {op:BinOp} {t t' e:TypeId} {x:Operand} {x':VX} {ne:Bool} (ho:o.op= .binOp op t x (.const (.pointer none)) t') (hop:op=match ne with | true=> .neq | false=> .eql) (hx:cR x x'=true) (hu:P.underlying t=some (.pointer e))
  {u:AV} {b:Bool} (e2:ev s.env x'=some u) (hb:(u= .nilp/\b= !ne)\/((∃p,∀v,RV (aH w Z L s.sto) u v->∃q,v= .pointer (some q)/\p=())/\b=ne)):aV P np o s a w L Z (.d (.bool b)) s:=by
 have h1:=aL h hx e2;have hrun:∀(p:Option Addr),a.eval x= .pointer p->(b=match ne with | true=> !p.isNone | false=>p.isNone)->aV P np o s a w L Z (.d (.bool b)) s:=by
  intro p hp hbb;refine aV.pure h (u:= .bool b) ?_ (by simp only[RV,RD]);refine eE (m:=do eqGuard op t x (.const (.pointer none)) (a.eval x) (.pointer none);binOp op t (a.eval x) (.pointer none)) (by unfold execOp;rw[ho];rfl) ?_;rw[hp];have hg:(eqGuard op t x (.const (.pointer none)) (.pointer p) (.pointer none)).run P w= .ok () w:=by
   unfold eqGuard;subst hop;cases ne<;>rfl
  have hm:(binOp op t (.pointer p) (.pointer none)).run P w= .ok (.bool b) w:=by
   subst hop;cases ne
   ·simp only at hbb;simp only[binOp];rw[Sem.run_bind,yc hu,hbb];rfl
   ·simp only at hbb;simp only[binOp];rw[Sem.run_bind,yc hu,hbb];rfl
  simp[hg,hm]
 rcases hb with ⟨rfl,hb⟩ | ⟨⟨p,hp⟩,hb⟩
 ·simp only[RV]at h1;exact hrun none h1 (by subst hb;cases ne<;>rfl)
 ·obtain ⟨q,hq,_⟩:=hp _ h1;exact hrun (some q) hq (by subst hb;cases b<;>rfl)
end
end Go.Vi
