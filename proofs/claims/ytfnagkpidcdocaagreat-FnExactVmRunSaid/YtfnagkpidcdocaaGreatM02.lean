import Derived.Test.YtfnagkpidcdocaaGreatM01
import Derived.Laws.AppendOwn
import Derived.Laws.Cells
import Derived.Laws.Slices
import Derived.Laws.Entries
set_option linter.all false
namespace Go.Vi
open Go Go.RowKit
def Ev (op:BinOp) (k:IntKind) (a b:Int):Int:=
 match op with
 | .add=>k.wrap (a+b)
 | .sub=>k.wrap (a-b)
 | .mul=>k.wrap (a*b)
 | .quo=>k.wrap (a.tdiv b)
 | .rem=>a.tmod b
 | .and=>k.wrap (BitVec.ofInt k.bits a&&&BitVec.ofInt k.bits b).toNat
 | .or=>k.wrap (BitVec.ofInt k.bits a ||| BitVec.ofInt k.bits b).toNat
 | .xor=>k.wrap (BitVec.ofInt k.bits a^^^BitVec.ofInt k.bits b).toNat
 | .shl=>k.wrap (a*2^(min b.toNat k.bits))
 | .shr=>a.fdiv (2^(min b.toNat k.bits))
 | _=>0
def eV (op:BinOp) (a b:Int):Bool:=
 match op with
 | .eql=>a==b
 | .neq=>a !=b
 | .lss=>decide (a<b)
 | .leq=>decide (a<=b)
 | .gtr=>decide (a>b)
 | .geq=>decide (a>=b)
 | _=>false
def s8 (op:BinOp) (x y:ByteArray):Bool:=
 match op with
 | .eql=>x.toList==y.toList
 | .neq=> !(x.toList==y.toList)
 | .lss=>Op.bytesLess x.toList y.toList
 | .leq=>Op.bytesLess x.toList y.toList || x.toList==y.toList
 | .gtr=> !(Op.bytesLess x.toList y.toList || x.toList==y.toList)
 | .geq=> !(Op.bytesLess x.toList y.toList)
 | _=>false
def lT:List D->Option (List UInt8)
 | []=>some []
 | .int .u8 n::l=>match lT l with
  | some bs=>some (UInt8.ofNat n.toNat::bs)
  | none=>none
 | _=>none
def zp (xs:List D) (a n:Int):Option (List D):=if 0<=a/\0<=n/\a+n<=xs.length then some ((xs.drop a.toNat).take n.toNat)else none
def wX (xs:List D) (i:Int):Option D:=if 0<=i then xs[i.toNat]? else none
mutual
def bD:D->D
 | .own _ xs=> .lst (aV xs)
 | .agg cs=> .agg (aV cs)
 | x=>x
def aV:List D->List D
 | []=>[]
 | x::xs=>bD x::aV xs
end
mutual
def gk:D->Bool
 | .lst xs=>xs.isEmpty
 | .agg cs=>cP cs
 | .own _ xs=>cP xs
 | _=>true
def cP:List D->Bool
 | []=>true
 | x::xs=>gk x&&cP xs
end
theorem cj:∀xs:List D,(aV xs).length=xs.length
 | []=>rfl
 | x::xs=>by simp [aV,cj xs]
def real (call:FuncId->List AV->List (Option Obj)->Option bk) (loop:Nat->St->Option (Out×St)):aK:=
 .mk call loop Ev (fun k n=>k.wrap n) (fun a b=>a+b) (fun a b=>a-b) eV (fun a=>decide (a=0)) s8 (fun a b=>a++b) (fun a b=>decide (((a.size+b.size:Nat):Int)<=IntKind.i64.max))
  (fun s=>s.size) (fun s i=>if 0<=i then (s[i.toNat]?).map fun b=>(b.toNat:Int)else none)
  (fun s l h=>if 0<=l/\l<=h/\h<=s.size then some (s.extract l.toNat h.toNat)else none)
  (fun s=>s.data.toList.map fun b=> .int .u8 b.toNat) (fun l=>(lT l).map fun bs=>⟨bs.toArray⟩)
  (fun xs=>xs.length) wX zp (fun xs ys=>xs++ys) (fun xs i x=>xs.set i.toNat x) (fun n x=>List.replicate n.toNat x)
  (fun z b xs=>decide (xs.length*b<=140737488355328/\xs.length<=maxLen)&&xs.all fun x=>x.cells.length==z) (fun b n=>decide (0<=n/\n*b<=140737488355328/\n<=9223372036854775807))
  (fun xs ys=>ys.take xs.length++xs.drop ys.length) aV cP (fun xs=>xs.all fun x=>match x with | .agg cs=>cs.all dD | x=>dD x)
variable {P:Program} {call:FuncId->List AV->List (Option Obj)->Option bk} {loop:Nat->St->Option (Out×St)}
theorem xO {w:World} {Z:Nat->Prop} {b sz:Nat}:∀{xs:List D} {o:Nat} (k:Nat),Rows w Z xs b o sz->Rows w Z (xs.drop k) b (o+k*sz) sz:=by
 intro xs o k h;rw [eK]at h |-;intro i x hx;rw [List.getElem?_drop]at hx;obtain ⟨cs,h1,h2,h3⟩:=h (k+i) x hx;refine ⟨cs,h1,h2,fun j v hj=> ?_⟩;rw [show o+k*sz+i*sz+j=o+(k+i)*sz+j by rw [Nat.add_mul];omega];exact h3 j v hj
theorem lU {w:World} {Z:Nat->Prop} {b sz:Nat}:∀{xs:List D} {o:Nat} (k:Nat),Rows w Z xs b o sz->Rows w Z (xs.take k) b o sz:=by
 intro xs o k h;rw [eK]at h |-;intro i x hx;rw [List.getElem?_take]at hx;split at hx
 ·exact h i x hx
 ·cases hx
theorem cG {s:bF} {w:World} {L:Loc} {Z:Nat->Prop} {x:AV} {v:Value} {xs:List D}
  (hobj:∀r ob,s.get r=some ob->RO (aF w Z L s) r ob) (hv:RV (aF w Z L s) x v) (h:content (real call loop) s x=some xs):
  ∃A cap,v= .slice A xs.length cap/\xs.length<=cap/\(xs=[]\/∃b o sz,A=some ⟨b,o,none⟩/\Rows w Z xs b o sz/\(Z b\/∃r z g u ob,x= .arr r z g u/\s.get r=some ob/\L r=some b)):=by
 cases x with
 | d y=>
  cases y with
  | lst ys=>
   simp only [content]at h;injection h with h;subst h;simp only [RV,RD]at hv;obtain ⟨a,c,h1,h2,h3⟩:=hv;injection h1 with h1;refine ⟨a,c,h1,h2,h3.imp id ?_⟩;rintro ⟨b,o,sz,h4,h5,h6⟩;exact ⟨b,o,sz,h4,h6,.inl h5⟩
  | _=>simp [content]at h
 | emp=>
  simp only [content]at h;injection h with h;subst h;simp only [RV]at hv;obtain ⟨a,h1⟩:=hv;exact ⟨a,0,h1,Nat.le_refl _,.inl rfl⟩
 | arr r sz g u=>
  simp only [RV]at hv;obtain ⟨a,n,cap,ys,h1,⟨h2,_⟩,_,h4,h5,h6,h7,h8⟩:=hv;have h4':s.get r=some (.rows sz ys):=by
   have h4'':(s.get r).bind Obj.rw=some (sz,ys):=h4;simp only [content]at h;split at h
   ·rename_i s' ys' hg;rw [hg]at h4'' |-;simp only [Option.bind_some,Obj.rw]at h4'';injection h4'' with h4'';injection h4'' with e1 e2;rw [e1,e2]
   ·cases h
  have hro:=hobj r _ h4';simp only [RO]at hro;simp only [content,h4']at h;cases hL:L r with
  | none=>
   have hy:ys=[]:=hro.1 hL;have hc:cap=0:=h7 hL;have hn:n=0:=by omega
   have hx:xs=[]:=by
    cases g with
    | none=>simp only at h;injection h with h;rw [<-h];exact hy
    | some p=>
     obtain ⟨x,m⟩:=p;simp only [real,aK.sub,zp]at h;split at h
     ·injection h with h;rw [<-h,hy];simp
     ·cases h
   subst hx;exact ⟨a,cap,by rw [h1,hn];rfl,by simp,.inl rfl⟩
  | some b=>
   obtain ⟨vs,h9,h10,h11⟩:=hro.2 b hL;have hlv:∃r' z g' u' ob,AV.arr r sz g u= .arr r' z g' u'/\s.get r'=some ob/\L r'=some b:=⟨r,sz,g,u,_,rfl,h4',hL⟩
   cases g with
   | none=>
    simp only at h;injection h with h;subst h;refine ⟨a,cap,by rw [h1,h5 rfl],by rw [<-h5 rfl];exact h2,.inr ?_⟩;rcases h8 b hL with ⟨_,k2⟩ | ⟨k1,_⟩
    ·exact (k2 rfl).elim
    ·exact ⟨b,0,sz.2,by simpa [bC]using k1,h11,.inr hlv⟩
   | some p=>
    obtain ⟨x,m⟩:=p;obtain ⟨k1,k2,k3⟩:=h6 x m rfl;simp only [real,aK.sub,zp]at h;split at h
    case isFalse=>cases h
    case isTrue hc=>
     injection h with h;have hlen:xs.length=n:=by
      rw [<-h,List.length_take,List.length_drop];subst k2;omega
     refine ⟨a,cap,by rw [h1,hlen],by rw [hlen];exact h2,?_⟩;rcases h8 b hL with ⟨m1,_⟩ | ⟨m1,_⟩
     ·left;apply List.eq_nil_of_length_eq_zero;omega
     ·refine .inr ⟨b,bC (some (x,m))*sz.2,sz.2,m1,?_,.inr hlv⟩;rw [<-h];have:=lU m.toNat (xO x.toNat h11);simpa [bC]using this
 | _=>simp [content]at h
theorem kC {s:bF} {w:World} {L:Loc} {Z:Nat->Prop} {r:Id} {sz:gq} {g:Option (Int×Int)} {u:Bool} {v:Value} {xs:List D}
  (hobj:∀r ob,s.get r=some ob->RO (aF w Z L s) r ob) (hv:RV (aF w Z L s) (.arr r sz g u) v) (h:eH (real call loop) s (.arr r sz g u)=some xs):
  ∃A cap,v= .slice A xs.length cap:=by
 have key:∀ys,(s.get r).bind Obj.rw=some (sz,ys)->Gk (real call loop) g ys=some xs->∃A cap,v= .slice A xs.length cap:=by
  intro ys hy hx;simp only [RV]at hv;obtain ⟨a,n,cap,zs,h1,_,_,h4,h5,h6,_⟩:=hv;have h4':(s.get r).bind Obj.rw=some (sz,zs):=h4;rw [hy]at h4';injection h4' with h4';injection h4' with _ e2;subst e2;cases g with
  | none=>
   simp only [Gk]at hx;injection hx with hx;subst hx;exact ⟨a,cap,by rw [h1,h5 rfl]⟩
  | some p=>
   obtain ⟨x,m⟩:=p;obtain ⟨k1,k2,k3⟩:=h6 x m rfl;simp only [Gk,real,aK.sub,zp]at hx;split at hx
   case isFalse=>cases hx
   case isTrue hc=>
    injection hx with hx;refine ⟨a,cap,?_⟩;rw [h1,<-hx,List.length_take,List.length_drop];congr 1;omega
 have hsz:∀s' ys,(s.get r).bind Obj.rw=some (s',ys)->s'=sz:=by
  intro s' ys hy;simp only [RV]at hv;obtain ⟨a,n,cap,zs,h1,_,_,h4,_⟩:=hv;have h4':(s.get r).bind Obj.rw=some (sz,zs):=h4;rw [hy]at h4';injection h4' with h4';injection h4' with e1 _
 simp only [eH]at h;split at h
 ·rename_i s' ys hg;have e:(s.get r).bind Obj.rw=some (s',ys):=by rw [hg];rfl
  have:=hsz _ _ e;subst this;exact key ys e h
 ·rename_i s' ys _ _ _ _ hg;have e:(s.get r).bind Obj.rw=some (s',ys):=by rw [hg];rfl
  have:=hsz _ _ e;subst this;exact key ys e h
 ·obtain ⟨A,cap,h1,_⟩:=cG hobj hv h;exact ⟨A,cap,h1⟩
theorem zq {s:bF} {r:Id} {sz sz':gq} {g:Option (Int×Int)} {u:Bool} {xs ys:List D} (h:content (real call loop) s (.arr r sz g u)=some xs) (h4:(s.get r).bind Obj.rw=some (sz',ys)):s.get r=some (.rows sz' ys):=by
 simp only [content]at h;split at h
 ·rename_i s' ys' hg;rw [hg]at h4 |-;simp only [Option.bind_some,Obj.rw]at h4;injection h4 with h4;injection h4 with e1 e2;rw [e1,e2]
 ·cases h
theorem v8 {s:bF} {r:Id} {sz:gq} {xs:List D} (h:s.get r=some (.rows sz xs)):(s.get r).bind Obj.rw=some (sz,xs):=by rw [h];rfl
mutual
theorem Kw {w:World} {Z:Nat->Prop}:∀(x:D) (v:Value) (F:List Nat),OC w Z x v F->RD w Z x [v]
 | .own sz xs,v,F,h=>by simp only [OC]at h;obtain ⟨a,c,h1,_⟩:=h;simp only [RD];exact ⟨a,_,c,by rw [h1.1]⟩
 | .agg _,_,_,h=>by simp [OC]at h
 | .int k n,v,F,h=>by simp only [OC]at h;exact h.1
 | .bool b,v,F,h=>by simp only [OC]at h;exact h.1
 | .str s,v,F,h=>by simp only [OC]at h;exact h.1
 | .lst xs,v,F,h=>by simp only [OC]at h;exact h.1
theorem t_ {w:World} {Z:Nat->Prop}:∀(xs:List D) (vs:List Value) (F:List Nat),lX w Z xs vs F->eR w Z xs vs
 | [],vs,F,h=>by simp only [lX]at h;simp only [eR];exact h.1
 | d::ds,vs,F,h=>by
  simp only [lX]at h;obtain ⟨v,vs',F1,F2,h1,_,h2,h3⟩:=h;simp only [eR];exact ⟨v,vs',h1,Kw d v F1 h2,t_ ds vs' F2 h3⟩
theorem Kx {w:World} {Z:Nat->Prop}:∀(x:D) (vs:List Value) (F:List Nat),OE w Z x vs F->RD w Z x vs
 | .agg ds,vs,F,h=>by simp only [OE]at h;simp only [RD];exact t_ ds vs F h
 | .own sz xs,vs,F,h=>by simp only [OE]at h;obtain ⟨v,rfl,h2⟩:=h;exact Kw (.own sz xs) v F h2
 | .int k n,vs,F,h=>by simp only [OE]at h;exact h.1
 | .bool b,vs,F,h=>by simp only [OE]at h;exact h.1
 | .str s,vs,F,h=>by simp only [OE]at h;exact h.1
 | .lst xs,vs,F,h=>by simp only [OE]at h;exact h.1
end
theorem v9 {w:World} {Z:Nat->Prop} (n:Nat):∀(xs:List D) (vs:List Value) (F:List Nat),iO w Z n xs vs F->∀(b o:Nat),(∀j u,vs[j]? =some u->w.cell? ⟨b,o+j,none⟩=some u)->Rows w Z xs b o n
 | [],vs,F,_,b,o,_=>by simp only [Rows]
 | x::xs,vs,F,h,b,o,hc=>by
  simp only [iO]at h;obtain ⟨F1,F2,h1,_,h2,h3⟩:=h;simp only [Rows];refine ⟨⟨vs.take n,by simp [h1],Kx x _ F1 h2,fun j u hj=> ?_⟩,v9 n xs _ F2 h3 b (o+n) fun j u hj=> ?_⟩
  ·rw [List.getElem?_take]at hj;split at hj
   ·exact hc j u hj
   ·cases hj
  ·rw [List.getElem?_drop]at hj;rw [show o+n+j=o+(n+j) by omega];exact hc (n+j) u hj
theorem eZ {w:World} {Z:Nat->Prop} {n:Nat}:∀{xs ys:List D} {vs:List Value} {F:List Nat},iO w Z n (xs++ys) vs F↔∃A B,F=A++B/\iO w Z n xs vs A/\iO w Z n ys (vs.drop (xs.length*n)) B
 | [],ys,vs,F=>by
  simp only [List.nil_append,iO,List.length_nil,Nat.zero_mul,List.drop_zero];constructor
  ·intro h;exact ⟨[],F,rfl,rfl,h⟩
  ·rintro ⟨A,B,rfl,rfl,h⟩;exact h
 | x::xs,ys,vs,F=>by
  simp only [List.cons_append,iO];constructor
  ·rintro ⟨F1,F2,h1,rfl,h2,h3⟩;obtain ⟨A,B,rfl,h4,h5⟩:=eZ.1 h3;refine ⟨F1++A,B,by simp,⟨F1,A,h1,rfl,h2,h4⟩,?_⟩;rw [List.drop_drop]at h5;rw [List.length_cons,Nat.succ_mul,Nat.add_comm];exact h5
  ·rintro ⟨A,B,rfl,⟨F1,F2,h1,rfl,h2,h3⟩,h4⟩;refine ⟨F1,F2++B,h1,by simp,h2,eZ.2 ⟨F2,B,rfl,h3,?_⟩⟩;rw [List.drop_drop];rw [List.length_cons,Nat.succ_mul,Nat.add_comm]at h4;exact h4
theorem zu {w:World} {Z:Nat->Prop} {n:Nat} {x:D} {vs:List Value} {F:List Nat}:iO w Z n [x] vs F↔n<=vs.length/\OE w Z x (vs.take n) F:=by
 simp only [iO];constructor
 ·rintro ⟨F1,F2,h1,rfl,h2,rfl⟩;simpa using ⟨h1,h2⟩
 ·rintro ⟨h1,h2⟩;exact ⟨F,[],h1,by simp,h2,rfl⟩
theorem v_ {w:World} {Z:Nat->Prop} {n:Nat}:∀{xs:List D} {vs:List Value} {F:List Nat},iO w Z n xs vs F->xs.length*n<=vs.length
 | [],vs,F,_=>by simp
 | x::xs,vs,F,h=>by
  simp only [iO]at h;obtain ⟨F1,F2,h1,_,_,h3⟩:=h;have:=v_ h3;rw [List.length_drop]at this;rw [List.length_cons,Nat.succ_mul];omega
theorem i9 {w:World} {Z:Nat->Prop} {n:Nat}:∀{xs:List D} {vs us:List Value} {F:List Nat},iO w Z n xs vs F->(∀j,j<xs.length*n->us[j]? =vs[j]?)->iO w Z n xs us F
 | [],vs,us,F,h,_=>by simpa only [iO]using h
 | x::xs,vs,us,F,h,hu=>by
  have hsz:=v_ h;simp only [iO]at h |-;obtain ⟨F1,F2,h1,h2,h3,h4⟩:=h;rw [List.length_cons,Nat.succ_mul]at hu hsz;have hlen:n<=us.length:=by
   by_cases hn:n=0
   ·omega
   ·have:=hu (n-1) (by omega);rw [aN (by omega:n-1<vs.length)]at this;have:=(ai.1 this).1;omega
  have htake:us.take n=vs.take n:=by
   apply List.ext_getElem?;intro j;rw [List.getElem?_take,List.getElem?_take];split
   ·exact hu j (by omega)
   ·rfl
  refine ⟨F1,F2,hlen,h2,by rw [htake];exact h3,i9 h4 fun j hj=> ?_⟩;rw [List.getElem?_drop,List.getElem?_drop];exact hu (n+j) (by omega)
theorem Bd {xs:List D} {i:Nat} {x:D} (h:xs[i]? =some x):xs=xs.take i++([x]++xs.drop (i+1))/\(xs.take i).length=i:=by
 have hl:=(ai.1 h).1;refine ⟨?_,by rw [List.length_take];omega⟩;apply List.ext_getElem?;intro j;rw [List.getElem?_append];rw [List.length_take,Nat.min_eq_left (by omega)];split
 ·rename_i hj;rw [List.getElem?_take,if_pos hj]
 ·rename_i hj;rw [List.getElem?_append];split
  ·rename_i hk;simp at hk;have:j=i:=by omega
   subst this;simp [h]
  ·rename_i hk;simp at hk;rw [List.getElem?_drop];simp;congr 1;omega
theorem G1 {w:World} {Z:Nat->Prop} {n:Nat} {xs:List D} {vs:List Value} {F:List Nat} {i:Nat} {x:D} (h:iO w Z n xs vs F) (hx:xs[i]? =some x):
  ∃A Fi B,F=A++Fi++B/\iO w Z n (xs.take i) vs A/\OE w Z x ((vs.drop (i*n)).take n) Fi/\iO w Z n (xs.drop (i+1)) (vs.drop ((i+1)*n)) B/\(i+1)*n<=vs.length:=by
 obtain ⟨h1,h2⟩:=Bd hx;have hsz:=v_ h;rw [h1]at h;obtain ⟨A,B',rfl,h3,h4⟩:=eZ.1 h;obtain ⟨Fi,B,rfl,h5,h6⟩:=eZ.1 h4;rw [h2]at h5 h6;obtain ⟨h7,h8⟩:=zu.1 h5;rw [List.length_drop]at h7;rw [List.drop_drop]at h6;simp only [List.length_singleton,Nat.one_mul]at h6;have hl:=(ai.1 hx).1;refine ⟨A,Fi,B,by simp,h3,h8,by rw [Nat.succ_mul];exact h6,?_⟩;exact Nat.le_trans (Nat.mul_le_mul_right n hl) hsz
theorem Dv {w:World} {Z:Nat->Prop} {n:Nat} {xs:List D} {vs:List Value} {A Fi B:List Nat} {i:Nat} {x:D} (hi:i<xs.length) (h1:iO w Z n (xs.take i) vs A) (h2:OE w Z x ((vs.drop (i*n)).take n) Fi) (h3:iO w Z n (xs.drop (i+1)) (vs.drop ((i+1)*n)) B) (h4:(i+1)*n<=vs.length):
  iO w Z n (xs.set i x) vs (A++Fi++B):=by
 have e:xs.set i x=xs.take i++([x]++xs.drop (i+1)):=by
  rw [List.set_eq_take_append_cons_drop,if_pos hi];simp
 have hl:(xs.take i).length=i:=by rw [List.length_take];omega
 rw [e,List.append_assoc];refine eZ.2 ⟨A,Fi++B,rfl,h1,eZ.2 ⟨Fi,B,rfl,?_,?_⟩⟩
 ·rw [hl];refine zu.2 ⟨?_,h2⟩;rw [List.length_drop];rw [Nat.succ_mul]at h4;omega
 ·rw [hl,List.drop_drop];simp only [List.length_singleton,Nat.one_mul];rw [Nat.succ_mul]at h3;exact h3
theorem f_ {w:World} {Z:Nat->Prop}:∀{xs ys:List D} {vs:List Value} {F:List Nat},lX w Z (xs++ys) vs F↔∃v1 v2 A B,vs=v1++v2/\F=A++B/\v1.length=xs.length/\lX w Z xs v1 A/\lX w Z ys v2 B
 | [],ys,vs,F=>by
  simp only [List.nil_append,lX];constructor
  ·intro h;exact ⟨[],vs,[],F,rfl,rfl,rfl,⟨rfl,rfl⟩,h⟩
  ·rintro ⟨v1,v2,A,B,rfl,rfl,_,⟨rfl,rfl⟩,h⟩;exact h
 | x::xs,ys,vs,F=>by
  simp only [List.cons_append,lX];constructor
  ·rintro ⟨v,vs',F1,F2,rfl,rfl,h1,h2⟩;obtain ⟨v1,v2,A,B,rfl,rfl,h3,h4,h5⟩:=f_.1 h2;exact ⟨v::v1,v2,F1++A,B,rfl,by simp,by simp [h3],⟨v,v1,F1,A,rfl,rfl,h1,h4⟩,h5⟩
  ·rintro ⟨v1,v2,A,B,rfl,rfl,h3,⟨v,v1',F1,F2,rfl,rfl,h1,h2⟩,h5⟩;exact ⟨v,v1'++v2,F1,F2++B,rfl,by simp,h1,f_.2 ⟨v1',v2,F2,B,rfl,rfl,by simpa using h3,h2,h5⟩⟩
theorem Be {w:World} {Z:Nat->Prop} {x:D} {v:Value} (hp:dD x=true) (h:RD w Z x [v]):OC w Z x v []:=by
 cases x<;>first
  | (simp [dD]at hp;done)
  | (simp only [OC];exact ⟨h,trivial⟩)
theorem oM {w:World} {Z:Nat->Prop}:∀{xs:List D} {vs:List Value},xs.all dD=true->eR w Z xs vs->lX w Z xs vs []
 | [],vs,_,h=>by simp only [eR]at h;simp only [lX];exact ⟨h,trivial⟩
 | x::xs,vs,hp,h=>by
  simp only [List.all_cons,ah]at hp;simp only [eR]at h;obtain ⟨v,vs',h1,h2,h3⟩:=h;simp only [lX];exact ⟨v,vs',[],[],h1,rfl,Be hp.1 h2,oM hp.2 h3⟩
theorem Nz {w:World} {L:Loc} {Z:Nat->Prop} {s:bF} {r:Id} {sz:gq} {xs:List D} (hobj:∀r ob,s.get r=some ob->RO (aF w Z L s) r ob) (h:s.rd r=some (sz,xs)):
  (L r=none->xs=[])/\∀b,L r=some b->∃vs,w.heap[b]? =some (.cells vs sz.1 (0,0))/\xs.length*sz.2<=vs.size/\Rows w Z xs b 0 sz.2:=by
 unfold bF.rd at h;split at h
 case h_2=>cases h
 case h_1 ob ho=>
  have hro:=hobj r ob ho;have cells:∀{b:Nat} {vs:Array Value} {t:TypeId},w.heap[b]? =some (.cells vs t (0,0))->∀j u,vs.toList[j]? =some u->w.cell? ⟨b,0+j,none⟩=some u:=by
   intro b vs t hb j u hj;simp only [World.cell?,hb,Nat.zero_add];simpa using hj
  cases ob with
  | box _=>cases h
  | gone _ _=>cases h
  | rows s' ys=>
   simp only [Obj.rd]at h;injection h with h;injection h with e1 e2;subst e1;subst e2;simpa only [RO]using hro
  | orows s' ys=>
   simp only [Obj.rd]at h;injection h with h;injection h with e1 e2;subst e1;subst e2;simp only [RO]at hro;refine ⟨fun e=>(hro.1 e).1,fun b hb=> ?_⟩;obtain ⟨vs,F,k1,k2,k3,_,_⟩:=hro.2 b hb;exact ⟨vs,k1,k2,v9 _ _ _ _ k3 b 0 (cells k1)⟩
  | hrows s' ys i off q esz=>
   simp only [Obj.rd]at h;injection h with h;injection h with e1 e2;subst e1;subst e2;simp only [RO]at hro;obtain ⟨b,vs,pre,ys0,post,A1,A2,B1,B2,v,h1,h2,h3,h4,h5,h6,h7,h8,h9,h10,h11,h12,h13,h14,h16,h17⟩:=hro;refine ⟨fun e=>(by have e':L r=none:=e;have h1':L r=some b:=h1;rw [h1']at e';cases e'),fun b' hb'=> ?_⟩;have hbb:b=b':=by have h1':L r=some b:=h1;rw [h1']at hb';injection hb'
   subst hbb;refine ⟨vs,h2,h3,eK.2 fun j x hx=> ?_⟩;have pieces:∀(zs:List D) (k:Nat) (G:List Nat),iO w Z s'.2 zs (vs.toList.drop (k*s'.2)) G->∀(m:Nat) (x:D),zs[m]? =some x->∃cs,cs.length=s'.2/\RD w Z x cs/\∀j v,cs[j]? =some v->w.cell? ⟨b,0+(k+m)*s'.2+j,none⟩=some v:=by
    intro zs k G hG m x hm;have:=v9 _ _ _ _ hG b (k*s'.2) (fun j u hj=>by
     rw [List.getElem?_drop]at hj;have:=cells h2 _ _ hj
     rwa [Nat.zero_add]at this)
    obtain ⟨cs,p1,p2,p3⟩:=eK.1 this m x hm;refine ⟨cs,p1,p2,fun j v hj=> ?_⟩;rw [Nat.zero_add,Nat.add_mul];exact p3 j v hj
   by_cases hlt:j<i.toNat
   ·obtain ⟨cs,p1,p2,p3⟩:=pieces (ys.take i.toNat) 0 A1 (by simpa using h8) j x (by rw [List.getElem?_take,if_pos hlt];exact hx);exact ⟨cs,p1,p2,fun m v hm=>by simpa using p3 m v hm⟩
   ·by_cases heq:j=i.toNat
    ·subst heq;rw [h5]at hx;injection hx with hx;subst hx;have hv:∃a n c,v= .slice a n c:=by
      simp only [RV]at h13;obtain ⟨a,n,cap,_,e,_⟩:=h13;exact ⟨a,n,cap,e⟩
     obtain ⟨va,vn,vc,hv⟩:=hv;have g1:=t_ _ _ _ h9;have g2:=t_ _ _ _ h10;have hx':(i.toNat+1)*s'.2<=vs.size:=by
      have:=(ai.1 h5).1;exact Nat.le_trans (Nat.mul_le_mul_right _ this) h3
     rw [Nat.succ_mul]at hx';have l1:((vs.toList.drop (i.toNat*s'.2)).take off).length=off:=by simp;omega
     have l2:((vs.toList.drop (i.toNat*s'.2+off+1)).take (s'.2-(off+1))).length=post.length:=by simp;omega
     refine ⟨(vs.toList.drop (i.toNat*s'.2)).take off++v::(vs.toList.drop (i.toNat*s'.2+off+1)).take (s'.2-(off+1)),by rw [List.length_append,List.length_cons,l1,l2];omega,?_,fun m u hm=> ?_⟩
     ·simp only [RD];rw [dV]at g1 g2 |-;refine ⟨by simp only [List.length_append,List.length_cons];rw [l1,l2];omega,fun m d u hd hu=> ?_⟩;rw [List.getElem?_append]at hd hu;rw [l1]at hu;rw [h6]at hd;split at hd
      ·rename_i hm;rw [if_pos hm]at hu;exact g1.2 m d u hd hu
      ·rename_i hm;rw [if_neg hm]at hu;cases hmo:m-off with
       | zero=>
        simp [hmo]at hd hu;subst hd;subst hu;simp only [RD];exact ⟨va,vn,vc,by rw [hv]⟩
       | succ k=>
        simp only [hmo,List.getElem?_cons_succ]at hd hu;exact g2.2 k d u hd hu
     ·rw [List.getElem?_append,l1]at hm;have hcell:vs.toList[i.toNat*s'.2+m]? =some u:=by
       split at hm
       ·rename_i hmo;rw [List.getElem?_take,if_pos hmo,List.getElem?_drop]at hm;exact hm
       ·rename_i hmo;cases hk:m-off with
        | zero=>
         simp [hk]at hm;subst hm;have:m=off:=by omega
         subst this;simpa using h12
        | succ k=>
         simp only [hk,List.getElem?_cons_succ]at hm;rw [List.getElem?_take]at hm;split at hm
         ·rw [List.getElem?_drop]at hm;rw [show i.toNat*s'.2+m=i.toNat*s'.2+off+1+k by omega];exact hm
         ·cases hm
      have:=cells h2 _ _ hcell
      rwa [<-Nat.add_assoc]at this
    ·obtain ⟨cs,p1,p2,p3⟩:=pieces (ys.drop (i.toNat+1)) (i.toNat+1) B2 h11 (j-(i.toNat+1)) x (by rw [List.getElem?_drop,show i.toNat+1+(j-(i.toNat+1))=j by omega];exact hx);refine ⟨cs,p1,p2,fun m v hm=> ?_⟩;have:=p3 m v hm
     rwa [show i.toNat+1+(j-(i.toNat+1))=j by omega]at this
mutual
theorem Bf {w:World} {Z Z':Nat->Prop} (hz:∀b,Z b->Z' b):∀(x:D) (v:Value) (F:List Nat),(∀k∈F,Z' k)->OC w Z x v F->RD w Z' (bD x) [v]
 | .own sz xs,v,F,hf,h=>by
  simp only [OC]at h;obtain ⟨a,c,h1,h2⟩:=h;simp only [bD,RD];rcases h2 with ⟨rfl,rfl,_⟩ | ⟨b,vs,F',e1,rfl,e3,e4,e5,e6,e7⟩
  ·exact ⟨a,0,by rw [h1.1];rfl,Nat.le_refl _,.inl rfl⟩
  ·refine ⟨a,c,by rw [h1.1,cj],?_,.inr ⟨b,0,sz.2,e1,hf b (by simp),?_⟩⟩
   ·rw [cj];refine Nat.le_of_mul_le_mul_right (c:=sz.2) ?_ e5;rw [e4];exact e6
   ·refine r_ hz sz.2 xs vs.toList F' (fun k hk=>hf k (by simp [hk])) e7 b 0 fun j u hj=> ?_
    simp only [World.cell?,e3];simpa using hj
 | .agg _,_,_,_,h=>by simp [OC]at h
 | .int k n,v,F,_,h=>by simp only [OC]at h;simp only [bD];exact cO (fun b hb=>⟨hz b hb,rfl⟩) _ _ h.1
 | .bool b,v,F,_,h=>by simp only [OC]at h;simp only [bD];exact cO (fun b hb=>⟨hz b hb,rfl⟩) _ _ h.1
 | .str s,v,F,_,h=>by simp only [OC]at h;simp only [bD];exact cO (fun b hb=>⟨hz b hb,rfl⟩) _ _ h.1
 | .lst xs,v,F,_,h=>by simp only [OC]at h;simp only [bD];exact cO (fun b hb=>⟨hz b hb,rfl⟩) _ _ h.1
theorem xP {w:World} {Z Z':Nat->Prop} (hz:∀b,Z b->Z' b):∀(xs:List D) (vs:List Value) (F:List Nat),(∀k∈F,Z' k)->lX w Z xs vs F->eR w Z' (aV xs) vs
 | [],vs,F,_,h=>by simp only [lX]at h;simp only [aV,eR];exact h.1
 | d::ds,vs,F,hf,h=>by
  simp only [lX]at h;obtain ⟨v,vs',F1,F2,h1,rfl,h2,h3⟩:=h;simp only [aV,eR];exact ⟨v,vs',h1,Bf hz d v F1 (fun k hk=>hf k (by simp [hk])) h2,xP hz ds vs' F2 (fun k hk=>hf k (by simp [hk])) h3⟩
theorem G3 {w:World} {Z Z':Nat->Prop} (hz:∀b,Z b->Z' b):∀(x:D) (vs:List Value) (F:List Nat),(∀k∈F,Z' k)->OE w Z x vs F->RD w Z' (bD x) vs
 | .agg ds,vs,F,hf,h=>by simp only [OE]at h;simp only [bD,RD];exact xP hz ds vs F hf h
 | .own sz xs,vs,F,hf,h=>by
  simp only [OE]at h;obtain ⟨v,rfl,h2⟩:=h;exact Bf hz (.own sz xs) v F hf h2
 | .int k n,v,F,_,h=>by simp only [OE]at h;simp only [bD];exact cO (fun b hb=>⟨hz b hb,rfl⟩) _ _ h.1
 | .bool b,v,F,_,h=>by simp only [OE]at h;simp only [bD];exact cO (fun b hb=>⟨hz b hb,rfl⟩) _ _ h.1
 | .str s,v,F,_,h=>by simp only [OE]at h;simp only [bD];exact cO (fun b hb=>⟨hz b hb,rfl⟩) _ _ h.1
 | .lst xs,v,F,_,h=>by simp only [OE]at h;simp only [bD];exact cO (fun b hb=>⟨hz b hb,rfl⟩) _ _ h.1
theorem r_ {w:World} {Z Z':Nat->Prop} (hz:∀b,Z b->Z' b) (n:Nat):∀(xs:List D) (vs:List Value) (F:List Nat),(∀k∈F,Z' k)->iO w Z n xs vs F->∀(b o:Nat),(∀j u,vs[j]? =some u->w.cell? ⟨b,o+j,none⟩=some u)->Rows w Z' (aV xs) b o n
 | [],vs,F,_,_,b,o,_=>by simp only [aV,Rows]
 | x::xs,vs,F,hf,h,b,o,hc=>by
  simp only [iO]at h;obtain ⟨F1,F2,h1,rfl,h2,h3⟩:=h;simp only [aV,Rows];refine ⟨⟨vs.take n,by simp [h1],G3 hz x _ F1 (fun k hk=>hf k (by simp [hk])) h2,fun j u hj=> ?_⟩,r_ hz n xs _ F2 (fun k hk=>hf k (by simp [hk])) h3 b (o+n) fun j u hj=> ?_⟩
  ·rw [List.getElem?_take]at hj;split at hj
   ·exact hc j u hj
   ·cases hj
  ·rw [List.getElem?_drop]at hj;rw [show o+n+j=o+(n+j) by omega];exact hc (n+j) u hj
end
theorem wg {w:World} {L:Loc} {Z Z':Nat->Prop} {s:bF} {r:Id} {sz esz:gq} {xs:List D} {u:Bool} {v:Value} (hz:∀b,Z b->Z' b) (hg:s.get r=some (.orows esz xs)) (hro:RO (aF w Z L s) r (.orows esz xs))
  (hZ:∀b,(Obj.orows esz xs).has L r b->Z' b) (hv:RV (aF w Z L s) (.arr r sz none u) v):RD w Z' (.lst (aV xs)) [v]:=by
 simp only [RV]at hv;obtain ⟨a,n,cap,ys,h1,⟨h2,_⟩,_,h4,h5,_,h7,h8⟩:=hv;have h4':(s.get r).bind Obj.rw=some (sz,ys):=h4;rw [hg]at h4';simp only [Option.bind_some,Obj.rw]at h4';injection h4' with h4';injection h4' with e1 e2;subst e1;subst e2;have hn:=h5 trivial;simp only [RO]at hro;simp only [RD];cases hL:L r with
 | none=>
  have hx:=(hro.1 hL).1;refine ⟨a,cap,by rw [h1,hn,cj],by rw [cj,<-hn];exact h2,.inl ?_⟩;rw [hx];rfl
 | some b=>
  obtain ⟨vs,F,k1,k2,k3,k4,k5⟩:=hro.2 b hL;refine ⟨a,cap,by rw [h1,hn,cj],by rw [cj,<-hn];exact h2,.inr ?_⟩;rcases h8 b hL with ⟨_,m⟩ | ⟨m,_⟩
  ·exact (m rfl).elim
  ·refine ⟨b,0,esz.2,by simpa [bC]using m,hZ b (.inl hL),r_ hz esz.2 xs vs.toList F (fun k hk=>hZ k (.inr ⟨rfl,(k5 k).2 hk⟩)) k3 b 0 fun j u hj=> ?_⟩;simp only [World.cell?,k1];simpa using hj
def Kept (w:World) (L:Loc) (Z0 Z:Nat->Prop) (s0 s:bF):Prop:=
 (∀b,Z0 b->Z b)/\∀q,(s.get q).isSome->(s0.get q).isSome/\Same (aF w Z0 L s0) (aF w Z L s) q
theorem Kept.refl (w:World) (L:Loc) (Z:Nat->Prop) (s:bF):Kept w L Z Z s s:=
 ⟨fun _ h=>h,fun _ hq=>⟨hq,rfl,fun k=>k,fun _ xs k=>⟨xs,k,rfl⟩,fun _ _ _=>rfl⟩⟩
theorem Kept.kill {w:World} {L:Loc} {Z0 Z Z':Nat->Prop} {s0:bF} {s:St} (h:Kept w L Z0 Z s0 s.sto) (r:Id) (hz:∀b,Z b->Z' b):Kept w L Z0 Z' s0 (s.kill r).sto:=by
 refine ⟨fun b hb=>hz b (h.1 b hb),fun q hq=> ?_⟩;have hne:q≠r:=fun e=>by rw [fq,if_pos e]at hq;cases hq
 have hq':(s.sto.get q).isSome:=by rw [fq,if_neg hne]at hq;simpa using hq
 obtain ⟨k0,k1,k2,k3,k4⟩:=h.2 q hq';obtain ⟨m1,m2,m3,m4⟩:=oL (s:=s) (w:=w) (L:=L) (Z:=Z) (Z':=Z') hne;refine ⟨k0,m1.trans k1,fun k=>m2 (k2 k),fun sz xs k=> ?_,fun b hb hs=>rfl⟩;obtain ⟨ys,n1,n2⟩:=k3 sz xs k;obtain ⟨zs,n3,n4⟩:=m3 sz ys n1;exact ⟨zs,n3,n4.trans n2⟩
theorem Kept.rv {w:World} {L:Loc} {Z0 Z:Nat->Prop} {s0 s:bF} (h:Kept w L Z0 Z s0 s) {x:AV} {v:Value} (hr:∀r∈x.refs,(s.get r).isSome) (hv:RV (aF w Z0 L s0) x v):RV (aF w Z L s) x v:=
 jI (c:=aF w Z0 L s0) (c':=aF w Z L s) (fun b hb=>⟨h.1 b hb,rfl⟩) x v (fun r hm=>(h.2 r (hr r hm)).2) hv
def OI (c:Cx) (x:AV) (v:Value):Prop:=(∀r∈x.refs,(c.obj r).isSome)->RV c x v
def NA (c:Cx) (xs:List AV) (vs:List Value):Prop:=(∀r∈AV.bO xs,(c.obj r).isSome)->dg c xs vs
theorem Kept.trans {w:World} {L:Loc} {Z0 Z1 Z2:Nat->Prop} {s0 s1 s2:bF} (h:Kept w L Z0 Z1 s0 s1) (k:Kept w L Z1 Z2 s1 s2):Kept w L Z0 Z2 s0 s2:=by
 refine ⟨fun b hb=>k.1 b (h.1 b hb),fun q hq=> ?_⟩;obtain ⟨a1,a2,a3,a4,a5⟩:=k.2 q hq;obtain ⟨b1,b2,b3,b4,b5⟩:=h.2 q a1;refine ⟨b1,a2.trans b2,fun m=>a3 (b3 m),fun sz xs m=> ?_,fun _ _ _=>rfl⟩;obtain ⟨ys,n1,n2⟩:=b4 sz xs m;obtain ⟨zs,n3,n4⟩:=a4 sz ys n1;exact ⟨zs,n3,n4.trans n2⟩
mutual
theorem wh {a:Act} {w:World} {L:Loc} {Z0:Nat->Prop} {s0:bF} (np:Nat):∀(x:AV) (v:Value) (s s':St) (x':AV) (Z:Nat->Prop),RS s a w L Z->Kept w L Z0 Z s0 s.sto->RV (aF w Z0 L s0) x v->
  fz (real call loop) s x=some (x',s')->∃Z',RS s' a w L Z'/\Tr np s.sto s'.sto w w L L Z Z'/\Kept w L Z Z' s.sto s'.sto/\OI (aF w Z' L s'.sto) x' v
 | .emp,v,s,s',x',Z,h,hk,hv,e=>by
  simp only [fz]at e;injection e with e;injection e with e1 e2;subst e1;subst e2;refine ⟨Z,h,Tr.refl _ _ _ _ _,Kept.refl _ _ _ _,fun _=> ?_⟩;simp only [RV]at hv;obtain ⟨A,h1⟩:=hv;simp only [RV,RD];exact ⟨A,0,by rw [h1];rfl,Nat.le_refl _,.inl trivial⟩
 | .arr r sz g u,v,s,s',x',Z,h,hk,hv,e=>by
  simp only [fz]at e;split at e
  case h_1 esz xs hg=>
     cases g with
     | some p=>cases e
     | none=>
      simp only at e;injection e with e;injection e with e1 e2;subst e1;subst e2;have hv':=hk.rv (x:= .arr r sz none u) (by intro q hq;simp [AV.refs]at hq;subst hq;simp [hg]) hv;obtain ⟨k1,k2⟩:=h.Kr hg np;refine ⟨_,k1,k2,Kept.kill (Kept.refl _ _ _ _) r (fun b hb=> .inl hb),fun _=> ?_⟩;simp only [RV];exact wg (fun b hb=> .inl hb) hg (h.obj r _ hg) (fun b hb=> .inr hb) hv'
  case h_2 hnot=>
   split at e
   case h_2=>cases e
   case h_1 xs hc=>
     injection e with e;injection e with e1 e2;subst e1;subst e2;have hlive:(s.sto.get r).isSome:=by
      simp only [content]at hc;split at hc
      ·rename_i hr;simp [hr]
      ·cases hc
     obtain ⟨ob,hob⟩:=Option.isSome_iff_exists.1 hlive;have hv':=hk.rv (x:= .arr r sz g u) (by intro q hq;simp [AV.refs]at hq;subst hq;exact hlive) hv;obtain ⟨A,cap,h1,h2,h3⟩:=cG h.obj hv' hc;obtain ⟨k1,k2⟩:=h.Kr hob np;refine ⟨_,k1,k2,Kept.kill (Kept.refl _ _ _ _) r (fun b hb=> .inl hb),fun _=> ?_⟩;simp only [RV,RD];refine ⟨A,cap,by rw [h1],h2,h3.imp id ?_⟩;rintro ⟨b,o,z,h4,h5,h6⟩;refine ⟨b,o,z,h4,?_,lH (w:=w) (w':=w) (Z:=Z) (fun b hb=>⟨.inl hb,rfl⟩) rfl _ _ _ h5⟩;rcases h6 with h6 | ⟨r',z',g',u',ob',e1,e2,e3⟩
     ·exact .inl h6
     ·injection e1 with e1;subst e1;exact .inr (.inl e3)
 | .agg cs,v,s,s',x',Z,h,hk,hv,e=>by
  simp only [fz]at e;split at e
  case h_2=>cases e
  case h_1 ds s2 hc=>
    injection e with e;injection e with e1 e2;subst e1;subst e2;simp only [RV]at hv;obtain ⟨vs,h1,h2⟩:=hv;obtain ⟨Z',k1,k2,k3,k4⟩:=jS np cs vs s _ _ Z h hk h2 hc;refine ⟨Z',k1,k2,k3,fun hr=> ?_⟩;simp only [RV];exact ⟨vs,h1,k4 (by simpa [AV.refs]using hr)⟩
 | .tup cs,v,s,s',x',Z,h,hk,hv,e=>by
  simp only [fz]at e;split at e
  case h_2=>cases e
  case h_1 ds s2 hc=>
    injection e with e;injection e with e1 e2;subst e1;subst e2;simp only [RV]at hv;obtain ⟨vs,h1,h2⟩:=hv;obtain ⟨Z',k1,k2,k3,k4⟩:=jS np cs vs s _ _ Z h hk h2 hc;refine ⟨Z',k1,k2,k3,fun hr=> ?_⟩;simp only [RV];exact ⟨vs,h1,k4 (by simpa [AV.refs]using hr)⟩
 | .undef,v,s,s',x',Z,h,hk,hv,e=>by
  simp only [fz]at e;injection e with e;injection e with e1 e2;subst e1;subst e2;exact ⟨Z,h,Tr.refl _ _ _ _ _,Kept.refl _ _ _ _,fun hr=>hk.rv hr hv⟩
 | .bare,v,s,s',x',Z,h,hk,hv,e=>by
  simp only [fz]at e;injection e with e;injection e with e1 e2;subst e1;subst e2;exact ⟨Z,h,Tr.refl _ _ _ _ _,Kept.refl _ _ _ _,fun hr=>hk.rv hr hv⟩
 | .d y,v,s,s',x',Z,h,hk,hv,e=>by
  simp only [fz]at e;injection e with e;injection e with e1 e2;subst e1;subst e2;exact ⟨Z,h,Tr.refl _ _ _ _ _,Kept.refl _ _ _ _,fun hr=>hk.rv hr hv⟩
 | .nilp,v,s,s',x',Z,h,hk,hv,e=>by
  simp only [fz]at e;injection e with e;injection e with e1 e2;subst e1;subst e2;exact ⟨Z,h,Tr.refl _ _ _ _ _,Kept.refl _ _ _ _,fun hr=>hk.rv hr hv⟩
 | .ptr _ _,v,s,s',x',Z,h,hk,hv,e=>by
  simp only [fz]at e;injection e with e;injection e with e1 e2;subst e1;subst e2;exact ⟨Z,h,Tr.refl _ _ _ _ _,Kept.refl _ _ _ _,fun hr=>hk.rv hr hv⟩
 | .prow _ _ _ _,v,s,s',x',Z,h,hk,hv,e=>by
  simp only [fz]at e;injection e with e;injection e with e1 e2;subst e1;subst e2;exact ⟨Z,h,Tr.refl _ _ _ _ _,Kept.refl _ _ _ _,fun hr=>hk.rv hr hv⟩
 | .sp _ _,v,s,s',x',Z,h,hk,hv,e=>by
  simp only [fz]at e;injection e with e;injection e with e1 e2;subst e1;subst e2;exact ⟨Z,h,Tr.refl _ _ _ _ _,Kept.refl _ _ _ _,fun hr=>hk.rv hr hv⟩
 | .fn _ _,v,s,s',x',Z,h,hk,hv,e=>by
  simp only [fz]at e;injection e with e;injection e with e1 e2;subst e1;subst e2;exact ⟨Z,h,Tr.refl _ _ _ _ _,Kept.refl _ _ _ _,fun hr=>hk.rv hr hv⟩
theorem jS {a:Act} {w:World} {L:Loc} {Z0:Nat->Prop} {s0:bF} (np:Nat):∀(xs:List AV) (vs:List Value) (s s':St) (xs':List AV) (Z:Nat->Prop),RS s a w L Z->Kept w L Z0 Z s0 s.sto->dg (aF w Z0 L s0) xs vs->
  yK (real call loop) s xs=some (xs',s')->∃Z',RS s' a w L Z'/\Tr np s.sto s'.sto w w L L Z Z'/\Kept w L Z Z' s.sto s'.sto/\NA (aF w Z' L s'.sto) xs' vs
 | [],vs,s,s',xs',Z,h,hk,hv,e=>by
  simp only [yK]at e;injection e with e;injection e with e1 e2;subst e1;subst e2;refine ⟨Z,h,Tr.refl _ _ _ _ _,Kept.refl _ _ _ _,fun _=>by simpa only [dg]using hv⟩
 | x::xs,vs,s,s',xs',Z,h,hk,hv,e=>by
  simp only [yK]at e;split at e
  case h_2=>cases e
  case h_1 y s2 hc=>
   split at e
   case h_2=>cases e
   case h_1 ys s3 hc2=>
    injection e with e;injection e with e1 e2;subst e1;subst e2;simp only [dg]at hv;obtain ⟨v,vs',h1,h2,h3⟩:=hv;obtain ⟨Z1,k1,k2,k3,k4⟩:=wh np x v s s2 y Z h hk h2 hc;obtain ⟨Z2,m1,m2,m3,m4⟩:=jS np xs vs' s2 s3 ys Z1 k1 (hk.trans k3) h3 hc2;refine ⟨Z2,m1,k2.trans m2,k3.trans m3,fun hr=> ?_⟩;simp only [dg];simp only [AV.bO,List.mem_append]at hr;refine ⟨v,vs',h1,?_,m4 fun r hm=>hr r (.inr hm)⟩;exact m3.rv (fun r hm=>hr r (.inl hm)) (k4 fun r hm=>(m3.2 r (hr r (.inl hm))).1)
end
theorem si {w:World} {Z:Nat->Prop} {b n:Nat} {vs:Array Value} {t:TypeId} (hb:w.heap[b]? =some (.cells vs t (0,0))):∀(xs:List D) (o:Nat),(real call loop).flat xs=true->xs.length*n+o<=vs.size->Rows w Z xs b o n->iO w Z n xs (vs.toList.drop o) []
 | [],o,_,_,_=>by simp only [iO]
 | x::xs,o,hf,hl,h=>by
  simp only [real,aK.flat,List.all_cons,ah]at hf;simp only [Rows]at h;obtain ⟨⟨cs,h1,h2,h3⟩,h4⟩:=h;rw [List.length_cons,Nat.succ_mul]at hl;have hcs:(vs.toList.drop o).take n=cs:=by
   apply List.ext_getElem?;intro j;rw [List.getElem?_take];split
   ·rename_i hj;rw [List.getElem?_drop];have hjc:cs[j]? =some cs[j]:=aN (by omega);have:=h3 j _ hjc;simp only [World.cell?,hb]at this;rw [hjc];simpa using this
   ·rename_i hj;rw [List.getElem?_eq_none (by omega)]
  simp only [iO];refine ⟨[],[],by simp;omega,rfl,?_,?_⟩
  ·rw [hcs];cases x with
   | agg ds=>simp only [OE];simp only [RD]at h2;exact oM hf.1 h2
   | own _ _=>simp [dD]at hf
   | int _ _=>simp only [OE];exact ⟨h2,trivial⟩
   | bool _=>simp only [OE];exact ⟨h2,trivial⟩
   | str _=>simp only [OE];exact ⟨h2,trivial⟩
   | lst _=>simp only [OE];exact ⟨h2,trivial⟩
  ·rw [List.drop_drop];exact si hb xs (o+n) (by simpa only [real,aK.flat]using hf.2) (by omega) h4
def zw (w:World) (L:Loc) (Z:Nat->Prop) (s0 s:bF) (F:List Nat):Prop:=F.Nodup/\∀k∈F,¬Z k/\aW s0 L k/\¬aW s L k/\k<w.heap.size
theorem pT {a:Act} {w:World} {L:Loc} {Z0 Z:Nat->Prop} {s00:bF} (np:Nat) (x:AV) (v:Value) (s s':St) (d:D) (h:RS s a w L Z) (hk:Kept w L Z0 Z s00 s.sto) (hv:RV (aF w Z0 L s00) x v)
  (e:jH (real call loop) s x=some (d,s')):RS s' a w L Z/\Tr np s.sto s'.sto w w L L Z Z/\Kept w L Z Z s.sto s'.sto/\∃F,OC w Z d v F/\zw w L Z s.sto s'.sto F:=by
 have plain:∀y,dD y=true->RD w Z y [v]->OC w Z y v []:=fun y hp hr=>Be hp hr
 cases x with
 | d y=>
  simp only [jH]at e;split at e
  case h_2=>cases e
  case h_1 hp=>
   injection e with e;injection e with e1 e2;subst e1;subst e2;have:=hk.rv (x:= .d y) (by simp [AV.refs]) hv;simp only [RV]at this;exact ⟨h,Tr.refl _ _ _ _ _,Kept.refl _ _ _ _,[],plain y hp this,by simp [zw]⟩
 | emp=>
  simp only [jH]at e;injection e with e;injection e with e1 e2;subst e1;subst e2;simp only [RV]at hv;obtain ⟨A,hv⟩:=hv;refine ⟨h,Tr.refl _ _ _ _ _,Kept.refl _ _ _ _,[],plain _ rfl ?_,by simp [zw]⟩;simp only [RD];exact ⟨A,0,by rw [hv];rfl,Nat.le_refl _,.inl trivial⟩
 | arr r sz g u=>
  cases g with
  | some p=>simp [jH]at e
  | none=>
   simp only [jH]at e;split at e
   ·cases e
   rename_i m hsz;have hpos:0<sz.2:=by omega
   have main:∀(ob:Obj) (esz:gq) (ys:List D),s.sto.get r=some ob->ob.rw=some (esz,ys)->(L r=none->ys=[])->
     (∀b,L r=some b->∃vs F,w.heap[b]? =some (.cells vs esz.1 (0,0))/\ys.length*esz.2<=vs.size/\iO w Z esz.2 ys vs.toList F/\(b::F).Nodup/\∀k∈F,ob.has L r k)->
     RS (s.kill r) a w L Z/\Tr np s.sto (s.kill r).sto w w L L Z Z/\Kept w L Z Z s.sto (s.kill r).sto/\∃F,OC w Z (.own sz ys) v F/\zw w L Z s.sto (s.kill r).sto F:=by
    intro ob esz ys ho hrw h0 h1;have hv':=hk.rv (x:= .arr r sz none u) (by intro q hq;simp [AV.refs]at hq;subst hq;simp [ho]) hv;refine ⟨h.kill r,Tr.kill np s w L Z r,Kept.kill (Kept.refl _ _ _ _) r (fun _ hb=>hb),?_⟩;simp only [RV]at hv';obtain ⟨A,n,cap,zs,k1,⟨k2,k2'⟩,_,k4,k5,_,k7,k8⟩:=hv';have k4':(s.sto.get r).bind Obj.rw=some (sz,zs):=k4;rw [ho]at k4';simp only [Option.bind_some,hrw]at k4';injection k4' with k4';injection k4' with e1 e2;subst e1;subst e2;have hn:=k5 trivial;simp only [OC];cases hL:L r with
    | none=>
     have hy:=h0 hL;have hc:=k7 hL;exact ⟨[],⟨A,cap,⟨by rw [k1,hn],k2'⟩,.inl ⟨hc,hy,rfl⟩⟩,by simp [zw]⟩
    | some b=>
     obtain ⟨vs,F,m1,m2,m3,m4,m5⟩:=h1 b hL;rcases k8 b hL with ⟨_,q⟩ | ⟨q1,q2⟩
     ·exact (q rfl).elim
     ·refine ⟨b::F,⟨A,cap,⟨by rw [k1,hn],k2'⟩,.inr ⟨b,vs,F,by simpa [bC]using q1,rfl,m1,?_,hpos,m2,m3⟩⟩,m4,fun k hk'=> ?_⟩
      ·simp only [bC,Nat.zero_add,bX,m1]at q2;exact q2
      ·have hhas:ob.has L r k:=by
        rcases List.mem_cons.1 hk' with rfl | hk'
        ·exact .inl hL
        ·exact m5 k hk'
       refine ⟨fun hz=>(h.dis k hz).2 ⟨r,ob,ho,hhas⟩,⟨r,ob,ho,hhas⟩,f8 h ho hhas,h.eY ho hhas⟩
   split at e
   ·rename_i esz ys ho;injection e with e;injection e with e1 e2;subst e1;subst e2;have hro:=h.obj r _ ho;simp only [RO]at hro;refine main _ esz ys ho rfl (fun e=>(hro.1 e).1) fun b hb=> ?_
    obtain ⟨vs,F,m1,m2,m3,m4,m5⟩:=hro.2 b hb;exact ⟨vs,F,m1,m2,m3,m4,fun k hk'=> .inr ⟨rfl,(m5 k).2 hk'⟩⟩
   ·rename_i esz ys ho;split at e
    case h_2=>cases e
    case h_1 hf=>
     injection e with e;injection e with e1 e2;subst e1;subst e2;have hro:=h.obj r _ ho;simp only [RO]at hro;refine main _ esz ys ho rfl hro.1 fun b hb=> ?_
     obtain ⟨vs,m1,m2,m3⟩:=hro.2 b hb;exact ⟨vs,[],m1,m2,by simpa using si m1 ys 0 hf (by simpa using m2) m3,by simp,by simp⟩
   ·cases e
 | _=>simp [jH]at e
theorem pU {a:Act} {w:World} {L:Loc} {Z0 Z:Nat->Prop} {s00:bF} (np:Nat):∀(xs:List AV) (vs:List Value) (s s':St) (ds:List D),RS s a w L Z->Kept w L Z0 Z s00 s.sto->dg (aF w Z0 L s00) xs vs->
  yL (real call loop) s xs=some (ds,s')->RS s' a w L Z/\Tr np s.sto s'.sto w w L L Z Z/\Kept w L Z Z s.sto s'.sto/\∃F,lX w Z ds vs F/\zw w L Z s.sto s'.sto F
 | [],vs,s,s',ds,h,hk,hv,e=>by
  simp only [yL]at e;injection e with e;injection e with e1 e2;subst e1;subst e2;simp only [dg]at hv;exact ⟨h,Tr.refl _ _ _ _ _,Kept.refl _ _ _ _,[],by simp only [lX];exact ⟨hv,trivial⟩,by simp [zw]⟩
 | x::xs,vs,s,s',ds,h,hk,hv,e=>by
  simp only [yL]at e;split at e
  case h_2=>cases e
  case h_1 y s2 hc=>
   split at e
   case h_2=>cases e
   case h_1 ys s3 hc2=>
    injection e with e;injection e with e1 e2;subst e1;subst e2;simp only [dg]at hv;obtain ⟨v,vs',h1,h2,h3⟩:=hv;obtain ⟨k1,k2,k3,F1,k4,k5,k6⟩:=pT np x v s s2 y h hk h2 hc;obtain ⟨m1,m2,m3,F2,m4,m5,m6⟩:=pU np xs vs' s2 s3 ys k1 (hk.trans k3) h3 hc2;have back:∀k,aW s2.sto L k->aW s.sto L k:=fun k hl=>by
     rcases k2.lives k hl with m | m
     ·exact m
     ·obtain ⟨q,ob,g1,g2⟩:=hl;have:=k1.eY g1 g2;omega
    have back':∀k,aW s3.sto L k->aW s2.sto L k:=fun k hl=>by
     rcases m2.lives k hl with m | m
     ·exact m
     ·obtain ⟨q,ob,g1,g2⟩:=hl;have:=m1.eY g1 g2;omega
    refine ⟨m1,k2.trans m2,k3.trans m3,F1++F2,?_,?_,fun k hk'=> ?_⟩
    ·simp only [lX];exact ⟨v,vs',F1,F2,h1,rfl,k4,m4⟩
    ·rw [List.nodup_append];refine ⟨k5,m5,fun x hx y hy hxy=> ?_⟩;subst hxy;exact (k6 x hx).2.2.1 (m6 x hy).2.1
    ·rcases List.mem_append.1 hk' with hk' | hk'
     ·obtain ⟨p1,p2,p3,p4⟩:=k6 k hk';exact ⟨p1,p2,fun hl=>p3 (back' k hl),p4⟩
     ·obtain ⟨p1,p2,p3,p4⟩:=m6 k hk';exact ⟨p1,back k p2,p3,p4⟩
def zx:Value->AV->Bool
 | _,.undef=>true
 | .int k n,.d (.int k' n')=>k==k'&&n==n'
 | .bool b,.d (.bool b')=>b==b'
 | .string s,.d (.str s')=>s.data==s'.data
 | .slice none 0 0,.emp=>true
 | .slice none 0 0,.d (.lst [])=>true
 | .pointer none,.nilp=>true
 | _,_=>false
def d_:List Value->List AV->Bool
 | [],[]=>true
 | v::vs,a::as=>zx v a&&d_ vs as
 | _,_=>false
def G5:Value->AV->Bool
 | .agg vs,.agg as=>d_ vs.toList as
 | v,a=>zx v a
def cN:Operand->VX->Bool
 | .tmp t,.tmp t'=>t==t'
 | .const v,.const a=>G5 v a
 | .func f,.const (.fn g [])=>f==g
 | _,_=>false
def tE:List Operand->List VX->Bool
 | [],[]=>true
 | x::xs,y::ys=>cN x y&&tE xs ys
 | _,_=>false
def wY:Option Operand->Option VX->Bool
 | none,none=>true
 | some x,some y=>cN x y
 | _,_=>false
theorem mQ {c:Cx} {v:Value} {a:AV} (h:zx v a=true):RV c a v:=by
 unfold zx at h;split at h
 ·simp only [RV]
 ·simp only [ah,beq_iff_eq]at h;obtain ⟨rfl,rfl⟩:=h;simp only [RV,RD]
 ·simp only [beq_iff_eq]at h;subst h;simp only [RV,RD]
 ·simp only [beq_iff_eq]at h;simp only [RV,RD,List.cons.injEq,Value.string.injEq,and_true];exact ByteArray.ext h
 ·simp only [RV];exact ⟨_,rfl⟩
 ·simp only [RV,RD];exact ⟨none,0,rfl,Nat.le_refl _,.inl trivial⟩
 ·simp only [RV]
 ·cases h
theorem jM {c:Cx}:∀{vs:List Value} {as:List AV},d_ vs as=true->dg c as vs
 | [],[],_=>by simp only [dg]
 | v::vs,a::as,h=>by
  simp only [d_,ah]at h;simp only [dg];exact ⟨v,vs,rfl,mQ h.1,jM h.2⟩
 | [],_::_,h=>by simp [d_]at h
 | _::_,[],h=>by simp [d_]at h
theorem Bg {c:Cx} {v:Value} {a:AV} (h:G5 v a=true):RV c a v:=by
 unfold G5 at h;split at h
 ·simp only [RV];exact ⟨_,(Array.toArray_toList).symm ▸ rfl,jM h⟩
 ·exact mQ h
section
variable {P:Program} {call:FuncId->List AV->List (Option Obj)->Option bk} {loop:Nat->St->Option (Out×St)}
variable {s:St} {a:Act} {w:World} {L:Loc} {Z:Nat->Prop}
theorem aL (h:RS s a w L Z) {x:Operand} {x':VX} (hx:cN x x'=true) {y:AV} (e:ev s.env x'=some y):RV (aF w Z L s.sto) y (a.eval x):=by
 unfold cN at hx;split at hx
 ·simp only [beq_iff_eq]at hx;subst hx;simp only [ev]at e;exact h.get e
 ·simp only [ev]at e;injection e with e;subst e;exact Bg hx
 ·simp only [beq_iff_eq]at hx;subst hx;simp only [ev]at e;injection e with e;subst e;simp only [RV];exact ⟨[],rfl,by simp only [dg]⟩
 ·cases hx
theorem oN (h:RS s a w L Z):∀{xs:List Operand} {xs':List VX},tE xs xs'=true->∀{ys:List AV},wP s.env xs'=some ys->dg (aF w Z L s.sto) ys (xs.map a.eval)
 | [],[],_,ys,e=>by simp only [wP]at e;injection e with e;subst e;simp only [dg,List.map_nil]
 | x::xs,x'::xs',hx,ys,e=>by
  simp only [tE,ah]at hx;simp only [wP]at e;split at e
  case h_2=>cases e
  case h_1 y e1=>
   split at e
   case h_2=>cases e
   case h_1 ys' e2=>
    injection e with e;subst e;simp only [dg,List.map_cons];exact ⟨_,_,rfl,aL h hx.1 e1,oN h hx.2 e2⟩
 | [],_::_,h,_,_=>by simp [tE]at h
 | _::_,[],h,_,_=>by simp [tE]at h
def aX (P:Program) (np:Nat) (o:Oper) (s:St) (a:Act) (w:World) (L:Loc) (Z:Nat->Prop) (x:AV) (s':St):Prop:=
 ∀(K:Act->World->Prop) (Q:Exit->Act->World->Prop),
  (∀u w' L' Z',RS s' a w' L' Z'->Tr np s.sto s'.sto w w' L L' Z Z'->RV (aF w' Z' L' s'.sto) x u->K (a.put o.dst u) w')->o.wp P a w K Q
theorem aX.value {np:Nat} {o:Oper} {x:AV} {s':St} {u:Value} {w':World} {L':Loc} {Z':Nat->Prop} (e:(execOp a.eval o).run P w= .ok (.value u) w')
  (h:RS s' a w' L' Z') (t:Tr np s.sto s'.sto w w' L L' Z Z') (hv:RV (aF w' Z' L' s'.sto) x u):aX P np o s a w L Z x s':=by
 intro K Q hk;unfold Oper.wp;rw [e];exact hk u w' L' Z' h t hv
theorem aX.skip {np:Nat} {o:Oper} {s':St} {w':World} {L':Loc} {Z':Nat->Prop} (e:(execOp a.eval o).run P w= .ok .skip w')
  (h:RS s' a w' L' Z') (t:Tr np s.sto s'.sto w w' L L' Z Z'):aX P np o s a w L Z .bare s':=by
 intro K Q hk;unfold Oper.wp;rw [e];exact hk undef w' L' Z' h t (by simp only [RV])
theorem aX.pure {np:Nat} {o:Oper} {x:AV} {u:Value} (h:RS s a w L Z) (e:(execOp a.eval o).run P w= .ok (.value u) w) (hv:RV (aF w Z L s.sto) x u):aX P np o s a w L Z x s:=
 aX.value e h (Tr.refl _ _ _ _ _) hv
theorem dX {o:Oper} {ρ:Operand->Value} {m:Sem Value} {u:Value} {w':World} (e:execOp ρ o=(do pure (.value (<-m)))) (hm:m.run P w= .ok u w'):(execOp ρ o).run P w= .ok (.value u) w':=by
 rw [e];simp [hm]
theorem xQ (np:Nat) (h:RS s a w L Z) {o:Oper} {x:Operand} {x':VX} (ho:o.op= .move x\/o.op= .assign x) (hx:cN x x'=true) {y:AV} (e:ev s.env x'=some y):aX P np o s a w L Z y s:=by
 refine aX.pure h (u:=a.eval x) ?_ (aL h hx e);rcases ho with ho | ho<;>(unfold execOp;rw [ho];rfl)
theorem Ew (np:Nat) (h:RS s a w L Z) {o:Oper} {c x y:Operand} {c' x' y':VX} (ho:o.op= .pick c x y) (hc:cN c c'=true) (hx:cN x x'=true) (hy:cN y y'=true) {t:Bool} {u v:AV}
  (e1:ev s.env c'=some (.d (.bool t))) (e2:ev s.env x'=some u) (e3:ev s.env y'=some v):aX P np o s a w L Z (match t with | true=>u | false=>v) s:=by
 have h1:=aL h hc e1;simp only [RV,RD]at h1;injection h1 with h1;refine aX.pure h (u:=if t then a.eval x else a.eval y) ?_ ?_
 ·unfold execOp;rw [ho];simp [h1,asBool]
 ·cases t
  ·exact aL h hy e3
  ·exact aL h hx e2
theorem Je {op:BinOp} {t:TypeId} {k k':IntKind} {p q:Int} {r:AV} (e:bin (real call loop) op (.d (.int k p)) (.d (.int k' q))=some r):
  ∃m,(binOp op t (.int k p) (.int k' q)).run P w= .ok m w/\∀c,RV c r m:=by
 unfold bin at e;simp only [real,aK.ar,aK.cmp,aK.isZero]at e;cases op<;>simp only at e<;>(repeat' split at e)<;>first
  | (cases e;done)
  | (rename_i hk _ hq;cases e;subst hk;refine ⟨_,?_,fun c=>by simp only [RV,RD,Ev,eV];rfl⟩;have hq':¬q=0:=(by simpa using hq);simp [binOp,Op.intDiv,hq'];done)
  | (rename_i hq;cases e;refine ⟨_,?_,fun c=>by simp only [RV,RD,Ev,eV];rfl⟩;have hq':¬q<0:=(by simpa [eV]using hq);simp [binOp,Op.shift,hq'];done)
  | (rename_i hk;cases e;subst hk;refine ⟨_,?_,fun c=>by simp only [RV,RD,Ev,eV];rfl⟩;simp [binOp,Op.intArith,Op.intBits,Op.intCmp];done)
theorem Jf {op:BinOp} {t:TypeId} {p q:ByteArray} {r:AV} (e:bin (real call loop) op (.d (.str p)) (.d (.str q))=some r):
  ∃m,(binOp op t (.string p) (.string q)).run P w= .ok m w/\∀c,RV c r m:=by
 unfold bin at e;simp only [real,aK.qB,aK.yI,aK.gW]at e;cases op<;>simp only at e<;>(repeat' split at e)<;>first
  | (cases e;done)
  | (rename_i hk;cases e;refine ⟨_,?_,fun c=>by simp only [RV,RD];rfl⟩;have hk':=of_decide_eq_true hk;simp only [binOp,Op.stringOp];rw [if_neg (by omega)];rfl)
  | (cases e;refine ⟨_,?_,fun c=>by simp only [RV,RD,s8];rfl⟩;simp [binOp,Op.stringOp];done)
theorem Cs {t:TypeId} (ht:P.underlying t=some .bool) (p q:Bool):(Op.equal t (.bool p) (.bool q)).run P w= .ok (p==q) w:=by
 have:∀d,(Op.equalIn (d+1) t (.bool p) (.bool q)).run P w= .ok (p==q) w:=by
  intro d;rw [Op.equalIn];simp [run_underlying ht]
 exact this 9999
theorem G6 {op:BinOp} {t:TypeId} {p q:Bool} {r:AV} (ht:P.underlying t=some .bool) (e:bin (real call loop) op (.d (.bool p)) (.d (.bool q))=some r):
  ∃m,(binOp op t (.bool p) (.bool q)).run P w= .ok m w/\∀c,RV c r m:=by
 unfold bin at e;cases op<;>simp only at e<;>first
  | (cases e;done)
  | (cases e;refine ⟨_,?_,fun c=>by simp only [RV,RD];rfl⟩;simp only [binOp];rw [Sem.run_bind,Cs ht];rfl)
theorem G7 (np:Nat) (h:RS s a w L Z) {o:Oper} {op:BinOp} {t t':TypeId} {x y:Operand} {x' y':VX} (ho:o.op= .binOp op t x y t') (hx:cN x x'=true) (hy:cN y y'=true)
  {u v r:AV} (hb:∀p,u= .d (.bool p)->P.underlying t=some .bool)
  (e2:ev s.env x'=some u) (e3:ev s.env y'=some v) (e:bin (real call loop) op u v=some r):aX P np o s a w L Z r s:=by
 have h1:=aL h hx e2;have h2:=aL h hy e3;have hrun:∀{m:Value},(do eqGuard op t x y (a.eval x) (a.eval y);binOp op t (a.eval x) (a.eval y):Sem Value).run P w= .ok m w->(execOp a.eval o).run P w= .ok (.value m) w:=by
  intro m hm;refine dX (m:=do eqGuard op t x y (a.eval x) (a.eval y);binOp op t (a.eval x) (a.eval y)) ?_ hm;unfold execOp;rw [ho]
 have e':=e;unfold bin at e;split at e
 ·rename_i k p k' q;simp only [RV,RD,List.cons.injEq,and_true]at h1 h2;rw [h1,h2]at hrun;have hg:(eqGuard op t x y (.int k p) (.int k' q)).run P w= .ok () w:=by unfold eqGuard;cases op<;>rfl
  obtain ⟨m,hm,hr⟩:=Je (P:=P) (w:=w) (t:=t) e';exact aX.pure h (hrun (by simp [hg,hm])) (hr _)
 ·rename_i p q;simp only [RV,RD,List.cons.injEq,and_true]at h1 h2;rw [h1,h2]at hrun;have hg:(eqGuard op t x y (.string p) (.string q)).run P w= .ok () w:=by unfold eqGuard;cases op<;>rfl
  obtain ⟨m,hm,hr⟩:=Jf (P:=P) (w:=w) (t:=t) e';exact aX.pure h (hrun (by simp [hg,hm])) (hr _)
 ·rename_i p q;simp only [RV,RD,List.cons.injEq,and_true]at h1 h2;rw [h1,h2]at hrun;have hg:(eqGuard op t x y (.bool p) (.bool q)).run P w= .ok () w:=by unfold eqGuard;cases op<;>rfl
  obtain ⟨m,hm,hr⟩:=G6 (P:=P) (w:=w) (t:=t) (hb p rfl) e';exact aX.pure h (hrun (by simp [hg,hm])) (hr _)
 ·cases e
theorem xR {t e:TypeId} (ht:P.underlying t=some (.pointer e)) (p:Option Addr):(Op.equal t (.pointer p) (.pointer none)).run P w= .ok p.isNone w:=by
 have:∀d,(Op.equalIn (d+1) t (.pointer p) (.pointer none)).run P w= .ok p.isNone w:=by
  intro d;rw [Op.equalIn];cases p<;>simp [run_underlying ht]
 exact this 9999
theorem wj (np:Nat) (h:RS s a w L Z) {o:Oper} {op:BinOp} {t t' e:TypeId} {x:Operand} {x':VX} {ne:Bool} (ho:o.op= .binOp op t x (.const (.pointer none)) t') (hop:op=match ne with | true=> .neq | false=> .eql) (hx:cN x x'=true) (hu:P.underlying t=some (.pointer e))
  {u:AV} {b:Bool} (e2:ev s.env x'=some u) (hb:(u= .nilp/\b= !ne)\/((∃p,∀v,RV (aF w Z L s.sto) u v->∃q,v= .pointer (some q)/\p=())/\b=ne)):aX P np o s a w L Z (.d (.bool b)) s:=by
 have h1:=aL h hx e2;have hrun:∀(p:Option Addr),a.eval x= .pointer p->(b=match ne with | true=> !p.isNone | false=>p.isNone)->aX P np o s a w L Z (.d (.bool b)) s:=by
  intro p hp hbb;refine aX.pure h (u:= .bool b) ?_ (by simp only [RV,RD]);refine dX (m:=do eqGuard op t x (.const (.pointer none)) (a.eval x) (.pointer none);binOp op t (a.eval x) (.pointer none)) (by unfold execOp;rw [ho];rfl) ?_;rw [hp];have hg:(eqGuard op t x (.const (.pointer none)) (.pointer p) (.pointer none)).run P w= .ok () w:=by
   unfold eqGuard;subst hop;cases ne<;>rfl
  have hm:(binOp op t (.pointer p) (.pointer none)).run P w= .ok (.bool b) w:=by
   subst hop;cases ne
   ·simp only at hbb;simp only [binOp];rw [Sem.run_bind,xR hu,hbb];rfl
   ·simp only at hbb;simp only [binOp];rw [Sem.run_bind,xR hu,hbb];rfl
  simp [hg,hm]
 rcases hb with ⟨rfl,hb⟩ | ⟨⟨p,hp⟩,hb⟩
 ·simp only [RV]at h1;exact hrun none h1 (by subst hb;cases ne<;>rfl)
 ·obtain ⟨q,hq,_⟩:=hp _ h1;exact hrun (some q) hq (by subst hb;cases b<;>rfl)
end
end Go.Vi
