import Derived.Test.YtfnagkpidcdocaaGreatM05
set_option linter.all false
namespace Go.Vi
open Go Go.RowKit
section
variable {P:Program} {call:dh} {loop:di}
variable {s:St} {a:Act} {w:World} {L:Loc} {Z:Nat->Prop}
theorem Du:∀{xs:List D} {bs:List UInt8},nO xs=some bs->∃ns:List Int,xs=ns.map (λn=>D.int .u8 n)/\bs=ns.map λn=>UInt8.ofNat n.toNat
 | [],bs,e=>by simp only[nO]at e;injection e with e;subst e;exact ⟨[],rfl,rfl⟩
 | .int .u8 n::l,bs,e=>by
  simp only[nO]at e;split at e
  ·rename_i bs' j;injection e with e;subst e;obtain ⟨ns,E,I⟩:=Du j;exact ⟨n::ns,by simp[E],by simp[I]⟩
  cases e
theorem vU (np:Nat) (h:RS s a w L Z) {o:Oper} {t t' e:TypeId} {x:Operand} {x':VX} (ho:o.op= .convert t t' x) (hx:dr x x'=true) {A:AV} {xs:List D} {u:ByteArray}
  (M:P.underlying t=some (.slice e)) (O:P.underlying e=some (.int .u8)) (S:P.underlying t'=some .string)
  (e1:ev s.env x'=some A) (e2:content (real call loop) s.sto A=some xs) (U:(real call loop).ofBytes xs=some u):aZ P np o s a w L Z (.d (.str u)) s:=by
 have h1:=aO h hx e1;obtain ⟨B,cap,b1,b2,b3⟩:=cZ h.obj h1 e2;simp only[real,aM.ofBytes,Option.map_eq_some_iff]at U;obtain ⟨bs,e4,e5⟩:=U;obtain ⟨ns,n1,n2⟩:=Du e4;refine aZ.pure h (eJ (m:=convert t t' (a.eval x)) (by unfold execOp;rw[ho]) (u:= .string u) ?_) (by simp only[RV,RD]);rw[b1];have V:u=strOfNums ns:=by rw[<-e5,n2];rfl
 by_cases I:xs=[]
 ·have hn:ns=[]:=by rw[I]at n1;simpa using n1.symm
  have E:xs.length=0:=by rw[I];rfl
  rw[E,V,hn];cases B with
  | none=>exact run_convert_bytes_nil w t e M O 0 cap t' S
  | some ad=>exact run_convert_bytes_back w t t' e ad cap [] M O S (λj hj=>by simp at hj)
 obtain ⟨b,off,sz,c1,c2,_⟩:=b3.resolve_left I;subst c1;rw[V];have E:ns.length=xs.length:=by rw[n1];simp
 refine run_convert_bytes_arg w t e M O b off xs.length cap ns E (λi hi=> ?_) t' S;have J:i<ns.length:=by omega
 obtain ⟨cs,d1,d2,d3⟩:=fI.1 c2 i (D.int .u8 ns[i]) (by rw[n1];simp[bA J]);simp only[RD]at d2;subst d2;have a0:sz=1:=by simpa using d1.symm
 subst a0;have:=d3 0 _ rfl;simp only[Nat.mul_one,Nat.add_zero]at this;rw[this];simp[List.getD,bA J]
theorem jW {t e:TypeId} {i:TypeInfo} (S:P.underlying t=some (.slice e)) (hi:P.info? e=some i) {A:Option Addr} {n cap:Nat} {lo I:Option Value} {l h:Int}
  (U:(lo=none/\l=0)\/∃k,lo=some (.int k l)) (J:(I=none/\h=n/\n<=cap)\/∃k,I=some (.int k h)) (V:0<=l) (M:l<=h) (h2:h<=cap):
  (Instr.slice t (.slice A n cap) lo I none).run P w= .ok (sliced A l.toNat h.toNat cap i.size) w:=by
 have he:P.elem t=e:=by simp[Program.elem,S]
 have j:P.underlying t=some (.slice (P.elem t)):=by rw[he];exact S
 have E:(sizeOf (P.elem t)).run P w= .ok i.size w:=by rw[he];simp[sizeOf,typeInfo,hi]
 rcases U with ⟨rfl,rfl⟩ | ⟨kl,rfl⟩
 ·rcases J with ⟨rfl,rfl,hn⟩ | ⟨O,rfl⟩
  ·rw[run_slice_all w t A n cap j,E];simp[Result.andThen]
  rw[run_slice_h w t A n cap j O h M h2,E];simp[Result.andThen]
 rcases J with ⟨rfl,rfl,hn⟩ | ⟨O,rfl⟩
 ·rw[run_slice_l w t A n cap j kl l V M,E];simp[Result.andThen]
 rw[run_slice_lh w t A n cap j kl O l h V M h2,E];simp[Result.andThen]
theorem nJ (
      h:RS s a w L Z) {x:Option Operand} {x':Option VX} (I:Ah x x'=true) {y:Option AV} {n:Option Int} (e:Gf s.env x'=some y) (j:lK y=some n):
  (x.map a.eval=none/\n=none)\/∃k m,n=some m/\x.map a.eval=some (.int k m):=by
 unfold Ah at I;split at I
 ·simp only[Gf]at e;injection e with e;subst e;simp only[lK]at j;injection j with j;subst j;exact .inl ⟨rfl,rfl⟩
 ·simp only[Gf]at e;split at e
  ·rename_i u M;injection e with e;subst e;have J:=aO h I M;simp only[lK]at j;split at j
   ·rename_i m E;injection j with j;subst j;cases u with
    | d y=>
     cases y with
     | int k q=>
      simp only[asInt]at E;injection E with E;subst E;simp only[RV,RD,List.cons.injEq,and_true]at J;exact .inr ⟨k,q,rfl,by simp[J]⟩
     | _=>simp[asInt]at E
    | _=>simp[asInt]at E
   cases j
  cases e
 cases I
theorem Dv {xs ys:List D} {x n:Int} (e:(real call loop).sub xs x n=some ys):0<=x/\0<=n/\x+n<=xs.length/\ys=(xs.drop x.toNat).take n.toNat:=by
 simp only[real,aM.sub,Cz]at e;split at e
 ·rename_i h;injection e with e;exact ⟨h.1,h.2.1,h.2.2,e.symm⟩
 cases e
theorem z8 (np:Nat) (h:RS s a w L Z) {o:Oper} {t:TypeId} {x:Operand} {lo hi mx:Option Operand} {x':VX} {lo' U:Option VX} (ho:o.op= .slice t x lo hi mx) (hx:dr x x'=true)
  (V:Ah lo lo'=true) (a0:Ah hi U=true) (a1:mx=none) (M:P.underlying t=some .string) {u v:ByteArray} {y1 y2:Option AV} {l h':Option Int}
  (e1:ev s.env x'=some (.d (.str u))) (e2:Gf s.env lo'=some y1) (e3:Gf s.env U=some y2) (e4:lK y1=some l) (e5:lK y2=some h')
  (e:(real call loop).Mi u (l.getD 0) (h'.getD ((real call loop).sLen u))=some v):aZ P np o s a w L Z (.d (.str v)) s:=by
 have h1:=aO h hx e1;simp only[RV,RD,List.cons.injEq,and_true]at h1;have k1:=nJ h V e2 e4;have k2:=nJ h a0 e3 e5;simp only[real,aM.Mi,aM.sLen]at e;split at e
 case isFalse=>cases e
 rename_i hc;injection e with e;subst a1;refine aZ.pure h (eJ (m:=Instr.sliceAt t (a.eval x) (lo.map a.eval) (hi.map a.eval) none) (by unfold execOp;rw[ho];rfl) (u:= .string v) ?_) (by simp only[RV,RD]);rw[run_sliceAt_string w t _ _ _ _ M,h1];obtain ⟨J,c2,j⟩:=hc;rcases k1 with ⟨O,S⟩ | ⟨kl,ml,S,O⟩
 ·rcases k2 with ⟨E,I⟩ | ⟨kh,mh,I,E⟩
  ·subst S I;simp only[Option.getD_none]at J c2 j e;simp[Instr.slice,run_underlying M,Instr.sliceBounds,O,E];simpa using e
  subst S I;simp only[Option.getD_none,Option.getD_some]at J c2 j e;simp[Instr.slice,run_underlying M,Instr.sliceBounds,O,E,run_sliceBound,c2,j];simpa using e
 rcases k2 with ⟨E,I⟩ | ⟨kh,mh,I,E⟩
 ·subst S I;simp only[Option.getD_none,Option.getD_some]at J c2 j e;simp[Instr.slice,run_underlying M,Instr.sliceBounds,O,E,run_sliceBound,J,c2,j];simpa using e
 subst S I;simp only[Option.getD_some]at J c2 j e;have em:(mh.toNat:Int)=mh:=Int.toNat_of_nonneg (by omega);simp[Instr.slice,run_underlying M,Instr.sliceBounds,O,E,run_sliceBound,J,c2,j,em,(by omega:0<=mh)];simpa using e
theorem EC (
      np:Nat) (h:RS s a w L Z) {o:Oper} {t e:TypeId} {i:TypeInfo} {x:Operand} {lo hi mx:Option Operand} {x':VX} {lo' ag am:Option VX} (ho:o.op= .slice t x lo hi mx) (hx:dr x x'=true)
  (b7:Ah lo lo'=true) (b8:Ah hi ag=true) (b9:Ah mx am=true) (hu:P.underlying t=some (.slice e)) (O:P.info? e=some i) {A v:AV} {y1 y2 y3:Option AV} {l h' m:Option Int}
  (e1:ev s.env x'=some A) (e2:Gf s.env lo'=some y1) (e3:Gf s.env ag=some y2) (e6:Gf s.env am=some y3) (e4:lK y1=some l) (e5:lK y2=some h') (e7:lK y3=some m)
  (es:sliceAt (real call loop) s.sto (e,i.size) A l h' m=some v):aZ P np o s a w L Z v s:=by
 have I:=aO h hx e1;have k1:=nJ h b7 e2 e4;have k2:=nJ h b8 e3 e5;have k3:=nJ h b9 e6 e7;have he:P.elem t=e:=by simp[Program.elem,hu]
 have an:P.underlying t=some (.slice (P.elem t)):=by rw[he];exact hu
 have E:∀{u:Value},(Instr.slice t (a.eval x) (lo.map a.eval) (hi.map a.eval) (mx.map a.eval)).run P w= .ok u w->(execOp a.eval o).run P w= .ok (.value u) w:=by
  intro u hm;refine eJ (m:=Instr.sliceAt t (a.eval x) (lo.map a.eval) (hi.map a.eval) (mx.map a.eval)) (by unfold execOp;rw[ho]) ?_;rw[run_sliceAt_slice w t _ _ _ _ an];exact hm
 unfold sliceAt at es;split at es
 ·rename_i mm;obtain ⟨km,bl,J,M⟩:=k3.resolve_left (by rintro ⟨_,q⟩;cases q);injection J with J;subst J;split at es
  case h_2=>cases es
  rename_i xs hh hc;split at es
  case h_2=>cases es
  rename_i ao ap;injection es with es;subst es;simp only[real,aM.isZero]at ao ap;have z1:=of_decide_eq_true ao;have z2:=of_decide_eq_true ap;subst z1 z2;obtain ⟨k4,q3⟩:lo.map a.eval=none/\True:=by
   rcases k1 with ⟨q,_⟩ | ⟨_,_,q,_⟩
   ·exact ⟨q,trivial⟩
   cases q
  obtain ⟨kh,bm,q4,q5⟩:=k2.resolve_left (by rintro ⟨_,q⟩;cases q);injection q4 with q4;subst q4;obtain ⟨B,cap,b1,b2,_⟩:=cZ h.obj I hc;have:=run_slice_hm (P:=P) w t B xs.length cap an kh km 0 0 (Int.le_refl _) (Int.le_refl _) (by omega);refine aZ.pure h (E (u:= .slice B 0 0) ?_) (by simp only[RV];exact ⟨B,rfl⟩);rw[b1,k4,q5,M,this,he];simp[sizeOf,typeInfo,O,Result.andThen,sliced]
 have q0:mx.map a.eval=none:=by
  rcases k3 with ⟨q,_⟩ | ⟨_,_,q,_⟩
  ·exact q
  cases q
 rw[q0]at E;have hl:∃ll:Int,((lo.map a.eval=none/\ll=0)\/∃k,lo.map a.eval=some (.int k ll))/\ll=l.getD 0:=by
  rcases k1 with ⟨J,M⟩ | ⟨k,m',J,M⟩
  ·exact ⟨0,.inl ⟨J,rfl⟩,by rw[M];rfl⟩
  exact ⟨m',.inr ⟨k,M⟩,by rw[J];rfl⟩
 obtain ⟨ll,a0,S⟩:=hl;have hh:∀n cap:Nat,n<=cap->((hi.map a.eval=none/\h'.getD n=n/\n<=cap)\/∃k,hi.map a.eval=some (.int k (h'.getD n))):=by
  intro n cap hn;rcases k2 with ⟨J,M⟩ | ⟨k,m',J,M⟩
  ·exact .inl ⟨J,by rw[M];rfl,hn⟩
  exact .inr ⟨k,by rw[M,J];rfl⟩
 split at es
 ·simp only[RV]at I;obtain ⟨B,I⟩:=I;rw[I]at E;have hz:l.getD 0=0/\h'.getD 0=0/\v= .emp:=by
   split at es
   ·injection es with es;exact ⟨rfl,rfl,es.symm⟩
   split at es
   ·rename_i z1 z2;injection es with es;simp only[real,aM.isZero]at z1 z2;exact ⟨of_decide_eq_true z1,of_decide_eq_true z2,es.symm⟩
   cases es
  obtain ⟨z1,z2,rfl⟩:=hz;have V:=jW (P:=P) (w:=w) (A:=B) (n:=0) (cap:=0) hu O a0 (hh 0 0 (Nat.le_refl _)) (by omega) (by simp;omega) (by simp;omega);refine aZ.pure h (E V) ?_;simp only[RV];have bb:(h'.getD ((0:Nat):Int)).toNat=0:=by have:h'.getD ((0:Nat):Int)=0:=z2;rw[this];rfl
  rw[bb,S,z1];exact ⟨B,by simp[sliced]⟩
 ·rename_i xs;simp only[RV,RD]at I;obtain ⟨B,cap,I,b2,b3⟩:=I;injection I with I;rw[I]at E;split at es
  case h_2=>cases es
  rename_i b5;split at es
  case h_2=>cases es
  rename_i ys a6;injection es with es;subst es;obtain ⟨c1,c2,c3,U⟩:=Dv a6;simp only[real,aM.minus,aM.len]at c1 c2 c3 U;have V:=jW (P:=P) (w:=w) (A:=B) (n:=xs.length) (cap:=cap) hu O a0 (hh _ _ b2) (by omega) (by omega) (by omega);refine aZ.pure h (E V) ?_;have ae:ys.length=(h'.getD xs.length).toNat-ll.toNat:=by
   rw[U,List.length_take,List.length_drop];omega
  simp only[RV,RD,sliced];refine ⟨_,cap-ll.toNat,by rw[ae],by omega,?_⟩;by_cases a7:ys=[]
  ·exact .inl a7
  right;have bj:=List.length_pos_iff.2 a7;have a8:xs≠[]:=by rintro rfl;simp at U;exact a7 U
  obtain ⟨b,off,sz,d1,d2,d3⟩:=b3.resolve_left a8;rw[if_neg (by omega),d1];simp only[Option.map_some,add_plain];by_cases a3:ll=0
  ·refine ⟨b,off+ll.toNat*i.size,sz,rfl,d2,?_⟩;rw[U,<-S,a3];simpa using nP _ d3
  have a4:(real call loop).fits i.size 0 xs=true:=by
   cases l with
   | none=>exact (a3 S).elim
   | some l=>exact b5
  simp only[real,aM.fits,af]at a4;have b6:=List.all_eq_true.1 a4.2;have a9:sz=i.size:=by
   obtain ⟨x0,aw⟩:=List.exists_mem_of_ne_nil _ a8;have a1:=b6 x0 aw;simp only[beq_iff_eq]at a1;obtain ⟨j,hj⟩:=List.getElem?_of_mem aw;obtain ⟨cs,r1,r2,_⟩:=fI.1 d3 j x0 hj;rw[<-r1,BV r2,a1]
  subst a9;refine ⟨b,off+ll.toNat*i.size,i.size,rfl,d2,?_⟩;rw[U,<-S];exact nP _ (A_ _ d3)
 ·rename_i r sz g u;split at es
  ·cases es
  rename_i xs bc;obtain ⟨B,cap,b1⟩:=lZ h.obj I bc;rw[b1]at E;have az:=I;simp only[RV]at az;obtain ⟨a',n',cap',b0,m1,⟨m2,bo⟩,m3,m4,m5,m6,m7,m8⟩:=az;rw[b1]at m1;injection m1 with w1 w2 w3;have b2:xs.length<=cap:=by omega
  subst w1 w3;split at es
  ·injection es with es;subst es;have a3:ll=0:=S;subst a3;have V:=jW (P:=P) (w:=w) (A:=B) (n:=xs.length) (cap:=cap) hu O a0 (hh _ _ b2) (by omega) (by simp) (by simp;omega);refine aZ.pure h (E V) ?_;have:sliced B (0:Int).toNat ((none:Option Int).getD (xs.length:Int)).toNat cap i.size= .slice B xs.length cap:=by
    simp only[sliced,Int.toNat_zero,Option.getD_none,Int.toNat_natCast,Nat.sub_zero,Nat.zero_mul];split
    ·rfl
    rename_i a5;have:L r≠none:=λhL=>a5 (m7 hL)
    obtain ⟨b,hb⟩:=Option.ne_none_iff_exists'.1 this;rcases m8 b hb with ⟨k,_⟩ | ⟨k,_⟩
    ·exact (a5 k).elim
    rw[k];simp[add_plain]
   rw[this,<-b1];exact I
  split at es
  case isFalse=>cases es
  rename_i a9;subst a9;split at es
  case h_2=>cases es
  rename_i ys a6;injection es with es;subst es;obtain ⟨c1,c2,c3,U⟩:=Dv a6;simp only[real,aM.minus,aM.len]at c1 c2 c3 U;have V:=jW (P:=P) (w:=w) (A:=B) (n:=xs.length) (cap:=cap) hu O a0 (hh _ _ b2) (by omega) (by omega) (by omega);refine aZ.pure h (E V) ?_;have hbase:∃base:Int,((g=none/\base=0)\/∃m,g=some (base,m))/\0<=base/\base.toNat=br g/\base.toNat+xs.length<=b0.length:=by
   cases g with
   | none=>exact ⟨0,.inl ⟨rfl,rfl⟩,Int.le_refl _,rfl,by have:=m5 rfl;simp;omega⟩
   | some p=>
    obtain ⟨p1,p2⟩:=p;obtain ⟨r1,r2,r3⟩:=m6 p1 p2 rfl;exact ⟨p1,.inr ⟨p2,rfl⟩,r1,rfl,by omega⟩
  obtain ⟨base,g1,g2,g3,g4⟩:=hbase
  suffices hX:∀X:Int,X=base+l.getD 0->RV (aI w Z L s.sto) (.arr r (e,i.size) (some (X,(real call loop).minus (h'.getD ((real call loop).len xs)) (l.getD 0))) false) (sliced B ll.toNat (h'.getD ↑xs.length).toNat cap i.size) by
   refine hX _ ?_;rcases g1 with ⟨rfl,rfl⟩ | ⟨mm,rfl⟩
   ·simp
   rfl
  intro X bd;subst bd;simp only[RV,sliced];have be:br (some (base+l.getD 0,(real call loop).minus (h'.getD ((real call loop).len xs)) (l.getD 0)))=br g+ll.toNat:=by
   show (base+l.getD 0).toNat=br g+ll.toNat;omega
  refine ⟨_,(h'.getD xs.length).toNat-ll.toNat,cap-ll.toNat,b0,rfl,⟨by omega,by omega⟩,λe=>(by cases e),m4,λe=>(by cases e),λx m e=> ?_,λe=> ?_,λb hb=> ?_⟩
  ·injection e with e;injection e with e3 e4;subst e3 e4;refine ⟨by omega,?_,?_⟩
   ·simp only[real,aM.minus,aM.len];omega
   omega
  ·have:=m7 e;omega
  rw[be];rcases m8 b hb with ⟨aa,ac⟩ | ⟨aa,ac⟩
  ·left;exact ⟨by omega,by omega⟩
  by_cases a5:cap-ll.toNat=0
  ·by_cases b4:br g+ll.toNat=0
   ·right;have bi:cap=ll.toNat:=by omega
    refine ⟨?_,?_⟩
    ·rw[if_pos bi,aa,b4];have:br g=0:=by omega
     rw[this]
    rw[<-ac];congr 1;omega
   left;exact ⟨a5,b4⟩
  right;refine ⟨?_,?_⟩
  ·rw[if_neg (by omega),aa];simp only[Option.map_some,add_plain,Nat.add_mul]
  rw[<-ac];congr 1;omega
 cases es
def oq (places:List (Nat×Nat)):List (Nat×Operand)->List (Nat×Nat×VX)->Bool
 | [],[]=>true
 | (i,x)::l,(off,n,y)::r=>(match places[i]? with | some p=>p.1==off&&p.2==n | none=>false)&&dr x y&&oq places l r
 | _,_=>false
theorem Hp {c:Cx} {x:AV} {v:Value} (h:RV c x v) (e:x.whole=true):dH c x.cells v.cells.toList:=by
 refine ql h ?_ ?_ ?_
 ·rintro vs rfl;cases e
 ·rintro rfl;cases e
 rintro rfl;cases e
theorem yh (
      h:RS s a w L Z) {places:List (Nat×Nat)}:∀{ps:List (Nat×Operand)} {qs:List (Nat×Nat×VX)} {rs:List (Nat×List AV)} {cs r:List AV} {cells:Array Value},oq places ps qs=true->jT s.env qs=some rs->
  dH (aI w Z L s.sto) cs cells.toList->xY cs rs=some r->∃cells',Instr.fill (places.toArray[·]?) cells (ps.map λp=>(p.1,a.eval p.2))=some cells'/\dH (aI w Z L s.sto) r cells'.toList
 | [],[],rs,cs,r,cells,_,e,hc,j=>by
  simp only[jT]at e;injection e with e;subst e;simp only[xY]at j;injection j with j;subst j;exact ⟨cells,rfl,hc⟩
 | (i,
    x)::ps,(off,n,y)::qs,rs,cs,r,cells,hk,e,hc,j=>by
  simp only[oq,af]at hk;obtain ⟨⟨I,h2⟩,h3⟩:=hk;split at I
  case h_2=>cases I
  rename_i p hp;simp only[af,beq_iff_eq]at I;obtain ⟨M,O⟩:=I;simp only[jT]at e;split at e
  case h_2=>cases e
  rename_i u eu;split at e
  case h_2=>cases e
  rename_i hw hn;split at e
  case h_2=>cases e
  rename_i rs' er;injection e with e;subst e;simp only[xY]at j;split at j
  case h_2=>cases j
  rename_i cs' el;have a0:u.cells.length=n:=by simpa using hn
  have S:=Hp (aO h h2 eu) hw;have J:=(bJ.1 S).1;have U:=(bJ.1 hc).1;obtain ⟨l1,l2⟩:=ju el;have V:(a.eval x).cells.size=n:=by simp at J;omega
  have E:places.toArray[i]? =some (off,(a.eval x).cells.size):=by
   rw[V,List.getElem?_toArray,hp,<-M,<-O]
  simp only[List.map_cons];rw[qA E (by simp at U;omega)];exact yh h h3 er (by have:=Gw hc S el;simpa using this) j
 | [],_::_,_,_,_,_,hk,_,_,_=>by simp[oq]at hk
 | _::_,[],_,_,_,_,hk,_,_,_=>by simp[oq]at hk
theorem ED (np:Nat) (h:RS s a w L Z) {o:Oper} {t:TypeId} {i:TypeInfo} {z:Value} {fields:Array Field} {places:List (Nat×Nat)} {ps:Array (Nat×Operand)} {qs:List (Nat×Nat×VX)} {zero cs:List AV} {rs:List (Nat×List AV)}
  (ho:o.op= .build t ps) (E:P.underlying t=some (.struct fields)) (hi:P.info? t=some i) (I:i.zero=some z) (e:fields.toList.mapM (λf=>(P.info? f.type).map λi=>(f.offset,i.size))=some places)
  (hk:oq places ps.toList qs=true) (j:eF z.cells.toList zero=true) (J:jT s.env qs=some rs) (M:xY zero rs=some cs):aZ P np o s a w L Z (.agg cs) s:=by
 obtain ⟨cells',O,c2⟩:=yh h hk J (kY j) M;have S:P.built t (ps.map λ(i,x)=>(i,a.eval x)).toList=some cells':=by
  unfold Program.built;simp only[hi,E,I,e];simpa using O
 refine aZ.pure h (eJ (m:=Instr.build t (ps.map λ(i,x)=>(i,a.eval x))) (by unfold execOp;rw[ho]) (run_build w t _ cells' S)) ?_;simp only[RV];exact ⟨cells'.toList,by simp,c2⟩
end
def PY (c c':Cx) (f:Id->Id) (r:Id):Prop:=
 c'.L (f r)=c.L r/\((c.obj r).isSome->(c'.obj (f r)).isSome)/\∀sz xs,(c.obj r).bind Obj.rw=some (sz,xs)->(c'.obj (f r)).bind Obj.rw=some (sz,xs)
mutual
theorem Cc {w:World} {Z:Nat->Prop} {L L':Loc} {ob ob':Id->Option Obj} {f:Id->Id}:∀(a:AV) (v:Value),(∀r∈a.refs,PY ⟨w,Z,L,ob⟩ ⟨w,Z,L',ob'⟩ f r)->RV ⟨w,Z,L,ob⟩ a v->RV ⟨w,Z,L',ob'⟩ (a.map f) v
 | .undef,v,_,h=>by simp only[AV.map,RV]
 | .bare,v,_,h=>by simpa only [AV.map,RV]using h
 | .d x,v,_,h=>by simpa only [AV.map,RV]using h
 | .agg as,v,j,h=>by
  simp only[AV.map,RV]at h |-;obtain ⟨vs,E,I⟩:=h;exact ⟨vs,E,ou as vs (by simpa [AV.refs]using j) I⟩
 | .tup as,v,j,h=>by
  simp only[AV.map,RV]at h |-;obtain ⟨vs,E,I⟩:=h;exact ⟨vs,E,ou as vs (by simpa [AV.refs]using j) I⟩
 | .nilp,v,_,h=>by simpa only [AV.map,RV]using h
 | .emp,v,_,h=>by simpa only [AV.map,RV]using h
 | .ptr r off,v,j,h=>by
  simp only[AV.map,RV]at h |-;obtain ⟨b,E,I,h3⟩:=h;obtain ⟨J,k2,_⟩:=j r (by simp[AV.refs]);exact ⟨b,k2 E,J.trans I,h3⟩
 | .prow r sz i off,v,j,h=>by
  simp only[AV.map,RV]at h |-;obtain ⟨b,E,I,h3⟩:=h;obtain ⟨J,k2,_⟩:=j r (by simp[AV.refs]);exact ⟨b,k2 E,J.trans I,h3⟩
 | .sp cs off,v,_,h=>by simpa only [AV.map,RV]using h
 | .arr r sz g full,v,j,h=>by
  simp only[AV.map,RV]at h |-;obtain ⟨a,n,cap,xs,E,I,h3,h4,M,O,S,U⟩:=h;obtain ⟨J,_,V⟩:=j r (by simp[AV.refs]);exact ⟨a,n,cap,xs,E,I,h3,V sz xs h4,M,O,λe=>S (J.symm.trans e),λb e=>U b (J.symm.trans e)⟩
 | .fn g as,v,j,h=>by
  simp only[AV.map,RV]at h |-;obtain ⟨vs,E,I⟩:=h;exact ⟨vs,E,ou as vs (by simpa [AV.refs]using j) I⟩
theorem ou {w:World} {Z:Nat->Prop} {L L':Loc} {ob ob':Id->Option Obj} {f:Id->Id}:∀(as:List AV) (vs:List Value),(∀r∈AV.bR as,PY ⟨w,Z,L,ob⟩ ⟨w,Z,L',ob'⟩ f r)->dH ⟨w,Z,L,ob⟩ as vs->dH ⟨w,Z,L',ob'⟩ (AV.ol f as) vs
 | [],vs,_,h=>by simpa only [AV.ol,dH]using h
 | a::as,vs,j,h=>by
  simp only[AV.ol,dH]at h |-;obtain ⟨v,vs',E,I,h3⟩:=h;exact ⟨v,vs',E,Cc a v (λr e=>j r (by simp[AV.bR,e])) I,ou as vs' (λr e=>j r (by simp[AV.bR,e])) h3⟩
end
theorem Cd {w:World} {Z:Nat->Prop} {L L':Loc} {g g':Id->Option Obj} {f:Id->Id} {r r':Id} {ob:Obj} (h:RO ⟨w,Z,L,g⟩ r ob) (e:L' r'=L r) (I:ob.deep=true->L'.nest r'=L.nest r)
  (J:∀q∈ob.refs,PY ⟨w,Z,L,g⟩ ⟨w,Z,L',g'⟩ f q):RO ⟨w,Z,L',g'⟩ r' (ob.map f):=by
 cases ob with
 | box as=>
  simp only[Obj.map,RO]at h |-;obtain ⟨b,vs,ty,j,E,h3⟩:=h;exact ⟨b,vs,ty,e.trans j,E,ou as _ J h3⟩
 | rows sz xs=>
  simp only[Obj.map,RO]at h |-;rw[e];exact h
 | gone sz xs=>
  simp only[Obj.map,RO]at h |-;rw[e];exact h
 | orows sz xs=>
  simp only[Obj.map,RO]at h |-;rw[e,I rfl];exact h
 | hrows sz xs i off q M=>
  simp only[Obj.map,RO]at h |-;rw[e,I rfl];obtain ⟨b,vs,pre,d,post,A1,A2,B1,B2,v,j,E,h3,h4,h5,h6,h7,h8,h9,O,S,U,V,a0,a1,a3⟩:=h;exact ⟨b,vs,pre,d,post,A1,A2,B1,B2,v,j,E,h3,h4,h5,h6,h7,h8,h9,O,S,U,Cc (.arr q M none false) v (λk hk=>J k (by simpa [AV.refs,Obj.refs]using hk)) V,a0,a1,a3⟩
theorem mF {s:bC}:∀(n:Nat) (todo acc ids:List Id),reach s n todo acc=some ids->acc.Nodup->(∀r∈acc,(s.get r).isSome)->(∀r∈acc,∀ob,s.get r=some ob->∀q∈ob.refs,q∈acc\/q∈todo)->
  ids.Nodup/\(∀r∈ids,(s.get r).isSome)/\(∀r∈todo,r∈ids)/\(∀r∈acc,r∈ids)/\∀r∈ids,∀ob,s.get r=some ob->∀q∈ob.refs,q∈ids
 | n,[],acc,ids,e,J,M,h3=>by
  simp only[reach]at e;injection e with e;subst e;exact ⟨J,M,by simp,λr U=>U,λr U ob ho q j=>by simpa using h3 r U ob ho q j⟩
 | 0,_::_,acc,ids,e,_,_,_=>by simp[reach]at e
 | n+1,r::todo,acc,ids,e,J,M,h3=>by
  simp only[reach]at e;split at e
  ·rename_i hc;have E:r∈acc:=by simpa using hc
   obtain ⟨V,k2,k3,I,k5⟩:=mF n todo acc ids e J M (λq j ob ho p O=>by
    rcases h3 q j ob ho p O with m | m
    ·exact .inl m
    rcases List.mem_cons.1 m with m | m
    ·subst m;exact .inl E
    exact .inr m)
   exact ⟨V,k2,λq j=>by
    rcases List.mem_cons.1 j with m | m
    ·subst m;exact I _ E
    exact k3 q m,I,k5⟩
  rename_i hc;have E:r∉acc:=by simpa using hc
  split at e
  case h_2=>cases e
  rename_i ob S;obtain ⟨V,k2,k3,I,k5⟩:=mF n (ob.refs++todo) (acc++[r]) ids e (by
   rw[List.nodup_append];exact ⟨J,by simp,λa ha b hb=>by simp at hb;subst hb;exact λe=>E (e ▸ ha)⟩) (λq j=>by
   rcases List.mem_append.1 j with m | m
   ·exact M q m
   ·simp at m;subst m;simp[S]) (λq j ob' ho p O=>by
   rcases List.mem_append.1 j with m | m
   ·rcases h3 q m ob' ho p O with x | x
    ·exact .inl (List.mem_append.2 (.inl x))
    rcases List.mem_cons.1 x with x | x
    ·subst x;exact .inl (by simp)
    exact .inr (List.mem_append.2 (.inr x))
   simp at m;subst m;rw[S]at ho;injection ho with ho;subst ho;exact .inr (List.mem_append.2 (.inl O)))
  exact ⟨V,k2,λq j=>by
   rcases List.mem_cons.1 j with m | m
   ·subst m;exact I _ (by simp)
   exact k3 q (List.mem_append.2 (.inr m)),λq j=>I q (List.mem_append.2 (.inl j)),k5⟩
theorem tv {ids:List Id} {r:Id} (h:r∈ids):ids[idx ids r]? =some r:=by
 unfold idx;have e:ids.findIdx (· ==r)<ids.length:=List.findIdx_lt_length_of_exists ⟨r,h,by simp⟩;have j:=List.findIdx_getElem (w:=e);rw[bA e];simpa using j
theorem yj {ids:List Id} (j:ids.Nodup) {i:Nat} {r:Id} (h:ids[i]? =some r):idx ids r=i:=by
 have e:=tv (List.mem_of_getElem? h);exact (List.getElem?_inj (ax.1 e).1 j).1 (e.trans h.symm)
theorem yp {f:Id->Id}:∀{ids:List Id} {obs:List (Option Obj)} {s s':bC},gB s f ids obs=some s'->ids.Nodup->(∀r∈ids,(s.get r).isSome)->
  ids.length=obs.length/\(∀q,q∉ids->s'.get q=s.get q)/\∀(i:Nat) (r:Id),ids[i]? =some r->s'.get r=(match obs[i]? with | some o=>Option.map (Obj.map f) o | none=>none)
 | [],[],s,s',e,_,_=>by simp only[gB]at e;injection e with e;subst e;simp
 | r::ids,ob::obs,s,s',e,M,I=>by
  simp only[gB]at e;obtain ⟨E,J⟩:=List.nodup_cons.1 M;obtain ⟨o,ho⟩:=Option.isSome_iff_exists.1 (I r (by simp));obtain ⟨O,k2,S⟩:=yp e J (λq j=>by
   rw[bU _ (by rintro rfl;exact E j)];exact I q (by simp[j]))
  refine ⟨by simp[O],λq j=> ?_,λi q j=> ?_⟩
  ·rw[k2 q (λm=>j (by simp[m])),bU _ (λe=>j (by simp[e]))]
  cases i with
  | zero=>
   simp at j;subst j;rw[k2 _ E,cR _ ho];simp
  | succ i=>simp at j |-;exact S i q j
 | [],_::_,_,_,e,_,_=>by simp[gB]at e
 | _::_,[],_,_,e,_,_=>by simp[gB]at e
section
variable {P:Program} {call:dh} {loop:di}
theorem EF {w:World} {L:Loc} {Z Z':Nat->Prop} {s:bC} {r q:Id} {sz E e:gJ} {xs ys cs cs':List D} {i:Int} {off:Nat} {u:Bool} {v:Value} (hz:∀b,Z b->Z' b)
  (hr:s.get r=some (.hrows E xs i off q e)) (hq:s.get q=some (.orows e ys)) (a0:RO (aI w Z L s) r (.hrows E xs i off q e)) (S:RO (aI w Z L s) q (.orows e ys))
  (V:xs[i.toNat]? =some (.agg cs)) (hl:Go.Vi.lay cs off [.own e ys]=some cs') (hZ:∀p ob,s.get p=some ob->∀b,ob.has L p b->Z' b) (hv:RV (aI w Z L s) (.arr r sz none u) v):RD w Z' (.lst (aS (xs.set i.toNat (.agg cs')))) [v]:=by
 simp only[RV]at hv;obtain ⟨a,n,cap,zs,k1,⟨k2,_⟩,_,k4,k5,_,k7,k8⟩:=hv;have J:(s.get r).bind Obj.rw=some (sz,zs):=k4;rw[hr]at J;simp only[Option.bind_some,Obj.rw]at J;injection J with J;injection J with e1 e2;subst e1 e2;have hn:=k5 trivial;simp only[RO]at a0 S;obtain ⟨b,vs,pre,a7,post,A1,A2,B1,B2,v1,h1,h2,h3,h4,h5,h6,h7,h8,h9,a8,a9,aa,a1,ac,az,ae⟩:=a0;have ag:cs=pre++ .own e a7::post:=by rw[h5]at V;injection V with V;injection V with V;exact V.symm
 have a5:cs'=pre++ .own e ys::post:=by
  rw[(ju hl).2,ag,<-h6];simp
 have hi:i.toNat<xs.length:=(ax.1 h5).1;simp only[RV]at a1;obtain ⟨va,n',cap',zs',p1,⟨p2,p3⟩,_,p4,p5,_,p7,p8⟩:=a1;have I:(s.get q).bind Obj.rw=some (e,zs'):=p4;rw[hq]at I;injection I with I;injection I with _ I;subst I;have am:=p5 trivial;subst am;have a3:L r=some b:=h1;obtain ⟨
     M,an,ao⟩:∃M,OC w Z (.own e ys) v1 M/\∀k,k∈M->(Obj.orows e ys).has L q k:=by
  cases O:L q with
  | none=>
   refine ⟨[],?_,λk hk=>(by cases hk)⟩;simp only[OC];exact ⟨va,cap',⟨p1,p3⟩,.inl ⟨p7 O,(S.1 O).1,trivial⟩⟩
  | some b'=>
   obtain ⟨vs',F',m1,m2,m3,m4,m5⟩:=S.2 b' O;refine ⟨b'::F',?_,λk hk=> ?_⟩
   ·simp only[OC];rcases p8 b' O with ⟨_,k⟩ | ⟨k1,k2⟩
    ·exact (k rfl).elim
    refine ⟨va,cap',⟨p1,p3⟩,.inr ⟨b',vs',F',by simpa [br]using k1,rfl,m1,?_,ac,m2,m3⟩⟩;have ap:(br none+cap')*e.2=b_ w b':=k2;simpa [br,b_,m1]using ap
   rcases List.mem_cons.1 hk with rfl | hk
   ·exact .inl O
   exact .inr ⟨rfl,(m5 k).2 hk⟩
 have U:(i.toNat+1)*E.2<=vs.toList.length:=Nat.le_trans (Nat.mul_le_mul_right _ hi) (by simpa using h3);have a6:off<E.2:=by omega
 have hE:jo w Z E.2 (xs.set i.toNat (.agg cs')) vs.toList (A1++(A2++(M++B1))++B2):=by
  refine CC hi h8 ?_ a9 U;simp only[OE];rw[a5,AJ (v:=v1) (off:=off) (by rw[List.getElem?_drop];simpa using aa) a6];refine fX.2 ⟨_,_,A2,M++B1,rfl,rfl,?_,h9,?_⟩
  ·rw[List.length_take,List.length_drop];rw[Nat.succ_mul]at U;omega
  simp only[nE];refine ⟨v1,_,M,B1,rfl,rfl,an,?_⟩;rw[List.drop_drop];exact a8
 have hF:∀k∈A1++(A2++(M++B1))++B2,Z' k:=λk hk=>by
  by_cases a4:k∈M
  ·exact hZ q _ hq k (ao k a4)
  refine hZ r _ hr k (.inr ⟨rfl,(ae k).2 ?_⟩);simp only[List.mem_append]at hk |-;rcases hk with (hk | hk | hk | hk) | hk
  ·exact .inl (.inl (.inl hk))
  ·exact .inl (.inl (.inr hk))
  ·exact (a4 hk).elim
  ·exact .inl (.inr hk)
  exact .inr hk
 simp only[RD];refine ⟨a,cap,by rw[k1,hn,cG,List.length_set],by rw[cG,List.length_set,<-hn];exact k2,.inr ?_⟩;rcases k8 b a3 with ⟨_,m⟩ | ⟨m,_⟩
 ·exact (m rfl).elim
 refine ⟨b,0,E.2,by simpa [br]using m,hZ r _ hr b (.inl a3),qK hz E.2 _ vs.toList _ hF hE b 0 λj u hj=> ?_⟩;have aw:w.heap[b]? =some (.cells vs E.1 (0,0)):=h2;simp only[World.cell?,aw];simpa using hj
theorem vh {w:World} {Z Zc:Nat->Prop} {L:Loc} {s:bC} (j:∀r ob,s.get r=some ob->RO (aI w Z L s) r ob) (J:∀b,Z b->Zc b) {r:Id} {sz:gJ} {gg:Option (Int×Int)} {u:Bool} {v:Value} {xs:List D}
  (M:RV (aI w Z L s) (.arr r sz gg u) v) (O:∀q ob,s.get q=some ob->∀b,ob.has L q b->Zc b) (e:rp (real call loop) s r sz gg u=some xs):RD w Zc (.lst xs) [v]:=by
 unfold rp at e;split at e
 ·rename_i a0 ys E;cases gg with
  | some p=>cases e
  | none=>
   simp only at e;injection e with e;subst e;exact y9 J E (j r _ E) (O r _ E) M
 ·rename_i z ys i off q a0 E;split at e
  ·rename_i a4 zs cs hq S;split at e
   case isFalse=>cases e
   rename_i a1;subst a1;split at e
   case h_2=>cases e
   rename_i cs' hl;injection e with e;subst e;have I:=j r _ E;have h4:0<=i:=by
    simp only[RO]at I;obtain ⟨b,vs,pre,a5,post,A1,A2,B1,B2,v,h1,h2,h3,h4,_⟩:=I;exact h4
   have a3:ys[i.toNat]? =some (.agg cs):=by
    simp only[real,aM.cF,Ag]at S;rw[if_pos h4]at S;exact S
   exact EF J E hq I (j q _ hq) a3 hl O M
  cases e
 obtain ⟨A,cap,h1,h2,h3⟩:=cZ j M e;simp only[RD];refine ⟨A,cap,by rw[h1],h2,h3.imp id ?_⟩;rintro ⟨b,o,z,h4,h5,U⟩;refine ⟨b,o,z,h4,?_,nF (w:=w) (w':=w) (Z:=Z) (λb hb=>⟨J b hb,rfl⟩) rfl _ _ _ h5⟩;rcases U with U | ⟨r',z',g',u',ob',V,e2,e3⟩
 ·exact J b U
 injection V with V;subst V;exact O r ob' e2 b (.inl e3)
theorem mG {w:World} {Z Zc:Nat->Prop} {L:Loc} {s:bC} (J:∀r ob,s.get r=some ob->RO (aI w Z L s) r ob) (O:∀b,Z b->Zc b) (V:∀q ob,s.get q=some ob->∀b,ob.has L q b->Zc b):
  ∀(cs:List AV) (vs:List Value) (ds:List D),dH (aI w Z L s) cs vs->dB (real call loop) s cs=some ds->fL w Zc ds vs
 | [],vs,ds,I,e=>by
  simp only[dB]at e;injection e with e;subst e;simpa only [dH,fL]using I
 | .d x::l,vs,ds,I,e=>by
  simp only[dB]at e;split at e
  case h_2=>cases e
  rename_i ds' S;injection e with e;subst e;simp only[dH]at I;obtain ⟨v,vs',rfl,M,h3⟩:=I;have j:=mG J O V l vs' ds' h3 S;rw[dA]at j |-;have U:RD w Zc x [v]:=by
   have:=jU (c:=aI w Z L s) (c':=⟨w,Zc,L,s.get⟩) (λb hb=>⟨O b hb,rfl⟩) _ _ (by simp[AV.refs]) M;simpa only [RV]using this
  refine ⟨by simp[j.1],λi d u hi E=> ?_⟩;cases i with
  | zero=>simp at hi E;subst hi E;exact U
  | succ i=>exact j.2 i d u (by simpa using hi) (by simpa using E)
 | .emp::l,vs,ds,I,e=>by
  simp only[dB]at e;split at e
  case h_2=>cases e
  rename_i ds' S;injection e with e;subst e;simp only[dH]at I;obtain ⟨v,vs',rfl,M,h3⟩:=I;have j:=mG J O V l vs' ds' h3 S;rw[dA]at j |-;have U:RD w Zc (.lst []) [v]:=by
   simp only[RV]at M;obtain ⟨A,h1⟩:=M;simp only[RD];exact ⟨A,0,by rw[h1];rfl,Nat.le_refl _,.inl trivial⟩
  refine ⟨by simp[j.1],λi d u hi E=> ?_⟩;cases i with
  | zero=>simp at hi E;subst hi E;exact U
  | succ i=>exact j.2 i d u (by simpa using hi) (by simpa using E)
 | .arr r sz g u::l,vs,ds,I,e=>by
  simp only[dB]at e;split at e
  case h_2=>cases e
  rename_i xs a0;split at e
  case h_2=>cases e
  rename_i ds' S;injection e with e;subst e;rw[dH]at I;obtain ⟨v,vs',rfl,M,h3⟩:=I;have j:=mG J O V l vs' ds' h3 S;rw[dA]at j |-;have U:RD w Zc (.lst xs) [v]:=vh J O M V a0;refine ⟨by simp[j.1],λi d u hi E=> ?_⟩;cases i with
  | zero=>simp at hi E;subst hi E;exact U
  | succ i=>exact j.2 i d u (by simpa using hi) (by simpa using E)
 | .undef::_,_,_,_,e=>by simp[dB]at e
 | .bare::_,_,_,_,e=>by simp[dB]at e
 | .agg _::_,_,_,_,e=>by simp[dB]at e
 | .tup _::_,_,_,_,e=>by simp[dB]at e
 | .nilp::_,_,_,_,e=>by simp[dB]at e
 | .ptr _ _::_,_,_,_,e=>by simp[dB]at e
 | .prow _ _ _ _::_,_,_,_,e=>by simp[dB]at e
 | .sp _ _::_,_,_,_,e=>by simp[dB]at e
 | .fn _ _::_,_,_,_,e=>by simp[dB]at e
mutual
theorem EG {w:World} {Z Zc:Nat->Prop} {L:Loc} {s:bC} (J:∀r ob,s.get r=some ob->RO (aI w Z L s) r ob) (S:∀b,Z b->Zc b):∀(x:AV) (v:Value) (x':AV),
  RV (aI w Z L s) x v->(x.refs≠[]->∀q ob,s.get q=some ob->∀b,ob.has L q b->Zc b)->snap (real call loop) s x=some x'->x'.refs=[]->∀L' g,RV ⟨w,Zc,L',g⟩ x' v
 | .emp,v,x',E,_,e,_,L',g=>by
  simp only[snap]at e;injection e with e;subst e;simp only[RV]at E;obtain ⟨A,h1⟩:=E;simp only[RV,RD];exact ⟨A,0,by rw[h1];rfl,Nat.le_refl _,.inl trivial⟩
 | .arr r sz gg u,v,x',E,O,e,_,L',g=>by
  simp only[snap]at e;split at e
  case h_2=>cases e
  rename_i xs U;injection e with e;subst e;simp only[RV];exact vh J S E (O (by simp[AV.refs])) U
 | .agg cs,v,x',E,O,e,I,L',g=>by
  simp only[snap]at e;split at e
  case h_2=>cases e
  rename_i ds hc;injection e with e;subst e;simp only[RV]at E |-;obtain ⟨vs,h1,h2⟩:=E;exact ⟨vs,h1,mH J S cs vs ds h2 (by simpa [AV.refs]using O) hc (by simpa [AV.refs]using I) L' g⟩
 | .undef,v,x',E,_,e,I,L',g=>by
  simp only[snap]at e;injection e with e;subst e;simp only[RV]
 | .bare,v,x',E,_,e,I,L',g=>by
  simp only[snap]at e;injection e with e;subst e;simpa only [RV]using E
 | .d y,v,x',E,_,e,I,L',g=>by
  simp only[snap]at e;injection e with e;subst e;exact jU (c:=aI w Z L s) (c':=⟨w,Zc,L',g⟩) (λb M=>⟨S b M,rfl⟩) _ _ (by simp[AV.refs]) E
 | .tup cs,v,x',E,_,e,I,L',g=>by
  simp only[snap]at e;injection e with e;subst e;exact jU (c:=aI w Z L s) (c':=⟨w,Zc,L',g⟩) (λb M=>⟨S b M,rfl⟩) _ _ (by rw[I];simp) E
 | .nilp,v,x',E,_,e,I,L',g=>by
  simp only[snap]at e;injection e with e;subst e;simpa only [RV]using E
 | .ptr r off,v,x',E,O,e,I,L',g=>by
  simp only[snap]at e;split at e
  case h_2=>cases e
  rename_i cs U;split at e
  case h_2=>cases e
  rename_i ds hd;injection e with e;subst e;have O:=O (by simp[AV.refs]);simp only[RV]at E |-;obtain ⟨b,_,h2,h3⟩:=E;have V:=J r _ U;simp only[RO]at V;obtain ⟨b',vs,ty,k1,k2,k3⟩:=V;have M:b'=b:=by
   have a1:L r=some b':=k1;have a0:L r=some b:=h2;rw[a1]at a0;injection a0
  subst M;refine ⟨b',0,vs.toList,by rw[h3];simp,O r _ U b' (.inl k1),mG J S O cs vs.toList ds k3 hd,λj u hj=> ?_⟩;have a3:w.heap[b']? =some (.cells vs ty (0,0)):=k2;simp only[World.cell?,a3];simpa using hj
 | .prow _ _ _ _,v,x',E,_,e,I,L',g=>by
  simp only[snap]at e;injection e with e;subst e;simp[AV.refs]at I
 | .sp _ _,v,x',E,_,e,I,L',g=>by
  simp only[snap]at e;injection e with e;subst e;exact jU (c:=aI w Z L s) (c':=⟨w,Zc,L',g⟩) (λb M=>⟨S b M,rfl⟩) _ _ (by simp[AV.refs]) E
 | .fn _ _,v,x',E,_,e,I,L',g=>by
  simp only[snap]at e;injection e with e;subst e;exact jU (c:=aI w Z L s) (c':=⟨w,Zc,L',g⟩) (λb M=>⟨S b M,rfl⟩) _ _ (by rw[I];simp) E
theorem mH {w:World} {Z Zc:Nat->Prop} {L:Loc} {s:bC} (j:∀r ob,s.get r=some ob->RO (aI w Z L s) r ob) (J:∀b,Z b->Zc b):∀(xs:List AV) (vs:List Value) (xs':List AV),
  dH (aI w Z L s) xs vs->(AV.bR xs≠[]->∀q ob,s.get q=some ob->∀b,ob.has L q b->Zc b)->jz (real call loop) s xs=some xs'->AV.bR xs'=[]->∀L' g,dH ⟨w,Zc,L',g⟩ xs' vs
 | [],vs,xs',E,_,e,_,L',g=>by
  simp only[jz]at e;injection e with e;subst e;simpa only [dH]using E
 | x::xs,vs,xs',E,M,e,I,L',g=>by
  simp only[jz]at e;split at e
  case h_2=>cases e
  rename_i y hc;split at e
  case h_2=>cases e
  rename_i ys O;injection e with e;subst e;simp only[dH]at E |-;obtain ⟨v,vs',S,U,h3⟩:=E;simp only[AV.bR,List.append_eq_nil_iff]at I;exact ⟨v,vs',S,EG j J x v y U (λm=>M (by simp[AV.bR,m])) hc I.1 L' g,mH j J xs vs' ys h3 (λm=>M (by simp[AV.bR,m])) O I.2 L' g⟩
end
end
def jq (P:Program) (f:FuncId):Bool:=match P.funcs[f]? with
 | some fn=>fn.body.isSome&& !(fn.name== "runtime.NumGoroutine")
 | none=>false
def iS (P:Program) (call:dh):Prop:=
 ∀f as cs c,call f as cs=some c->jq P (zh f)=true/\∀(vs:Array Value) (w:World) (L:Loc) (Z:Nat->Prop),RS ⟨as,[[],cs]⟩ ⟨vs,[]⟩ w L Z->
  ∀Q:Ending->World->Prop,(∀v w' L' Z',RS ⟨[c.ret],[c.extra,c.pars]⟩ ⟨#[v],[]⟩ w' L' Z'->Tr 1 [[],cs] [c.extra,c.pars] w w' L L' Z Z'->Q (.returned v) w')->Calls P (zh f) vs w Q
def jX (l:List (Option Obj)) (j:Nat):Option Obj:=match l[j]? with | some o=>o | none=>none
theorem yq (A B:List (Option Obj)) (j:Nat):bC.get [A,B] (0,j)=jX A j:=rfl
theorem lN (A B:List (Option Obj)) (j:Nat):bC.get [A,B] (1,j)=jX B j:=rfl
theorem Ce (A B:List (Option Obj)) (i j:Nat):bC.get [A,B] (i+2,j)=none:=rfl
theorem Dw {l:List (Option Obj)} {j:Nat} {o:Obj} (h:jX l j=some o):l[j]? =some (some o):=by
 unfold jX at h;split at h
 ·rename_i x e;subst h;exact e
 cases h
theorem Gj {l:List (Option Obj)} {f:Obj->Obj} {j:Nat}:jX (l.map λob=>ob.map f) j=(jX l j).map f:=by
 unfold jX;rw[List.getElem?_map];cases l[j]? <;>rfl
mutual
theorem Cf {p:Id->Bool} (h:∀r,p r=false):∀a:AV,a.forget p=a
 | .undef=>rfl
 | .bare=>rfl
 | .d x=>rfl
 | .agg as=>by simp only[AV.forget,dG h as]
 | .tup as=>by simp only[AV.forget,dG h as]
 | .nilp=>rfl
 | .emp=>rfl
 | .ptr r o=>by simp[AV.forget,h]
 | .prow r s i o=>by simp[AV.forget,h]
 | .sp cs o=>rfl
 | .arr r s g u=>by simp[AV.forget,h]
 | .fn g as=>by simp only[AV.forget,dG h as]
theorem dG {p:Id->Bool} (h:∀r,p r=false):∀as:List AV,AV.aP p as=as
 | []=>rfl
 | a::as=>by simp only[AV.aP,Cf h a,dG h as]
end
theorem nK {p:Id->Bool} (h:∀r,p r=false):∀o:Obj,o.forget p=o:=by
 intro o;cases o with
 | box cs=>simp[Obj.forget,dG h]
 | hrows sz xs i off q e=>simp[Obj.forget,h]
 | _=>rfl
mutual
theorem qb {f g:Id->Id}:∀(a:AV),(∀r∈a.refs,f r=g r)->a.map f=a.map g
 | .undef,_=>rfl
 | .bare,_=>rfl
 | .d _,_=>rfl
 | .nilp,_=>rfl
 | .emp,_=>rfl
 | .sp _ _,_=>rfl
 | .agg cs,h=>by simp only[AV.map];rw[iO cs (by simpa [AV.refs]using h)]
 | .tup cs,h=>by simp only[AV.map];rw[iO cs (by simpa [AV.refs]using h)]
 | .fn _ cs,h=>by simp only[AV.map];rw[iO cs (by simpa [AV.refs]using h)]
 | .ptr r _,h=>by simp only[AV.map];rw[h r (by simp[AV.refs])]
 | .prow r _ _ _,h=>by simp only[AV.map];rw[h r (by simp[AV.refs])]
 | .arr r _ _ _,h=>by simp only[AV.map];rw[h r (by simp[AV.refs])]
theorem iO {f g:Id->Id}:∀(as:List AV),(∀r∈AV.bR as,f r=g r)->AV.ol f as=AV.ol g as
 | [],_=>rfl
 | a::as,h=>by
  simp only[AV.ol];rw[qb a (λr e=>h r (by simp[AV.bR,e])),iO as (λr e=>h r (by simp[AV.bR,e]))]
end
theorem nL {p:Id->Bool} (h:∀r,p r=false) (s:bC):s.forget p=s:=by
 unfold bC.forget;have j:∀o:Obj,o.forget p=o:=by
  intro o;cases o with
  | box cs=>simp[Obj.forget,dG h]
  | hrows sz xs i off q e=>simp[Obj.forget,h]
  | _=>rfl
 have E:(λo:Option Obj=>o.map (·.forget p))=id:=by
  funext o;cases o<;>simp[j]
 have h3:(λl:List (Option Obj)=>l.map λo=>o.map (·.forget p))=id:=by
  funext l;rw[E];simp
 rw[h3];simp
theorem EH {l:List (Option Obj)} (h:gK l=true):∀j,j<l.length->(jX l j).isSome:=by
 induction l with
 | nil=>intro j e;simp at e
 | cons o l E=>
  intro j e;cases o with
  | none=>simp[gK]at h
  | some o=>
   cases j with
   | zero=>rfl
   | succ j=>exact E (by simpa [gK]using h) j (by simpa using e)
section
variable {P:Program} {call:dh} {loop:di}
variable {s:St} {a:Act} {w:World} {L:Loc} {Z:Nat->Prop}
def Dx (ids:List Id) (L:Loc):Loc:=⟨λr=>if r.1=1 then (match ids[r.2]? with | some q=>L q | none=>none)else none,λr=>match ids[r.2]? with | some q=>L.nest q | none=>λ_=>False⟩
def EJ (s:bC) (ids:List Id):List (Option Obj):=ids.map λr=>(s.get r).map (·.map λr=>(1,idx ids r))
theorem Cg {s:bC} {ids:List Id} (j:Nat):jX (EJ s ids) j=match ids[j]? with | some q=>(s.get q).map (·.map λr=>(1,idx ids r)) | none=>none:=by
 unfold EJ jX;rw[List.getElem?_map];cases ids[j]? <;>rfl
theorem Ch {s:bC} {ids:List Id} {r:Id} {ob:Obj} (h:bC.get [[],EJ s ids] r=some ob):∃j q o,r=(1,j)/\ids[j]? =some q/\s.get q=some o/\ob=o.map λr=>(1,idx ids r):=by
 obtain ⟨i,j⟩:=r
 match i with
 | 0=>rw[yq]at h;simp[jX]at h
 | 1=>
  rw[lN,Cg]at h;split at h
  ·rename_i q e;cases ho:s.get q with
   | none=>simp[ho]at h
   | some o=>simp[ho]at h;exact ⟨j,q,o,rfl,e,ho,h.symm⟩
  cases h
 | i+2=>rw[Ce]at h;cases h
theorem EK {ids:List Id} {L:Loc} {j:Nat} {q:Id} {o:Obj} {f:Id->Id} {b:Nat} (h3:ids[j]? =some q):(o.map f).has (Dx ids L) (1,j) b↔o.has L q b:=by
 unfold Obj.has;simp[Dx,h3,Obj.x9]
theorem tw {s:bC} {ids:List Id} {L:Loc} {b:Nat} (h:aY [[],EJ s ids] (Dx ids L) b):∃q∈ids,∃o,s.get q=some o/\o.has L q b:=by
 obtain ⟨r,ob,e,E⟩:=h;obtain ⟨j,q,o,rfl,h3,h4,rfl⟩:=Ch e;exact ⟨q,List.mem_of_getElem? h3,o,h4,(EK h3).1 E⟩
theorem JW {w:World} {Z:Nat->Prop} {s:bC} {ids:List Id} {L:Loc} {r:Id} (e:r∈ids):PY (aI w Z L s) ⟨w,Z,Dx ids L,bC.get [[],EJ s ids]⟩ (λr=>(1,idx ids r)) r:=by
 have h:=tv e;refine ⟨?_,λk=> ?_,λsz xs k=> ?_⟩
 ·simp[Dx,h]
 ·show (bC.get [[],EJ s ids] (1,idx ids r)).isSome;rw[lN,Cg,h];simpa using k
 show (bC.get [[],EJ s ids] (1,idx ids r)).bind Obj.rw=_;rw[lN,Cg,h];have k':(s.get r).bind Obj.rw=some (sz,xs):=k;cases ho:s.get r with
 | none=>simp[ho]at k'
 | some o=>simp[ho]at k';simp[ho,Obj.ng,k']
theorem Mn (h:RS s a w L Z) {ids:List Id} (J:ids.Nodup) (hc:∀r∈ids,∀ob,s.sto.get r=some ob->∀q∈ob.refs,q∈ids) {as:List AV} {vs:List Value} (U:dH (aI w Z L s.sto) as vs) (has:∀r∈AV.bR as,r∈ids):
  RS ⟨AV.ol (λr=>(1,idx ids r)) as,[[],EJ s.sto ids]⟩ ⟨vs.toArray,[]⟩ w (Dx ids L) Z where
 defers:=rfl
 env:=ou (ob:=s.sto.get) as _ (λr I=>JW (has r I)) (by simpa using U)
 obj r ob I:=by
  obtain ⟨j,q,o,rfl,h3,h4,rfl⟩:=Ch I;have V:q∈ids:=List.mem_of_getElem? h3;exact Cd (g:=s.sto.get) (h.obj q o h4) (by simp[Dx,h3]) (λ_=>by simp[Dx,h3]) (λp hp=>JW (hc q V o h4 p hp))
 injH r r' b ob ob' ho M e O:=by
  obtain ⟨j,q,o,rfl,h3,h4,rfl⟩:=Ch ho;obtain ⟨j',q',o',rfl,E,S,rfl⟩:=Ch M;have:=h.injH q q' b o o' h4 S ((EK h3).1 e) ((EK E).1 O);subst this;have:=(yj J h3).symm.trans (yj J E);rw[this]
 dis b e:=⟨(h.dis b e).1,λhl=>by
  obtain ⟨q,_,o,h2,h3⟩:=tw hl;exact (h.dis b e).2 ⟨q,o,h2,h3⟩⟩
end
section
section
variable {P:Program} {call:dh} {loop:di}
variable {s:St} {a:Act} {w w':World} {L L':Loc} {Z Z':Nat->Prop}
theorem kU {A B:List (Option Obj)} {r:Id} {ob:Obj} (h:bC.get [A,B] r=some ob):(r.1=0/\jX A r.2=some ob)\/(r.1=1/\jX B r.2=some ob):=by
 obtain ⟨i,j⟩:=r
 match i with
 | 0=>exact .inl ⟨rfl,h⟩
 | 1=>exact .inr ⟨rfl,h⟩
 | i+2=>rw[Ce]at h;cases h
theorem tA {o:Obj} {L L':Loc} {q r:Id} {b:Nat} (e:L q=L' r) (j:L.nest q=L'.nest r):o.has L q b↔o.has L' r b:=by
 unfold Obj.has;rw[e,j]
theorem wz {o:Obj} {L:Loc} {q:Id} {b:Nat} {f:Id->Id}:(o.map f).has L q b↔o.has L q b:=by
 unfold Obj.has;rw[Obj.x9]
theorem qB {ids:List Id} {ret:AV} {X pars:List (Option Obj)} {v:Value} {np tt:Nat} {sto fin:bC} {env:List AV} (h:RS s a w L Z) (hn:ids.Nodup) (hs:∀r∈ids,(s.sto.get r).isSome)
  (k:RS ⟨[ret],[X,pars]⟩ ⟨#[v],[]⟩ w' L' Z') (t:Tr 1 [[],EJ s.sto ids] [X,pars] w w' (Dx ids L) L' Z Z') (hX:X≠[]->tt<np)
  (back:Id->Id) (hback:∀r,back r=if r.1=1 then ids.getD r.2 (0,0)else (tt,r.2))
  (bm:ids.length=pars.length) (a8:∀q,q∉ids->sto.get q=s.sto.get q) (a3:∀(i:Nat) (q:Id),ids[i]? =some q->sto.get q=(jX pars i).map (·.map back))
  (dead:Id->Bool) (ap:∀r,dead r=(ids.contains r&&(sto.get r).isNone)) (bo:env=AV.aP dead s.env)
  (U:∀q,fin.get q=if X≠[]/\q.1=tt then (jX X q.2).map (·.map back)else (sto.get q).map (·.forget dead)) (hfree:X≠[]->∀q:Id,q.1=tt->sto.get q=none):
  ∃b2,RS ⟨env,fin⟩ a w' b2 Z'/\Tr np s.sto fin w w' L b2 Z Z'/\RV (aI w' Z' b2 fin) (ret.map back) v:=by
 have b3:∀(i:Nat) (q:Id),ids[i]? =some q->L' (1,i)=L q:=λi q hi=>by
  rw[t.par (1,i) (Nat.le_refl _)];simp[Dx,hi]
 have V:∀b,aY [[],EJ s.sto ids] (Dx ids L) b->aY s.sto L b:=λb hl=>by
  obtain ⟨q,_,o,I,h3⟩:=tw hl;exact ⟨q,o,I,h3⟩
 have b4:∀q o b,s.sto.get q=some o->o.has L q b->b<w.heap.size:=λq o b E j=>h.fJ E j
 have b5:∀q o b,q∉ids->s.sto.get q=some o->o.has L q b->¬aY [[],EJ s.sto ids] (Dx ids L) b:=λq o b E aw j hl=>by
  obtain ⟨p,hp,o',I,h3⟩:=tw hl;exact E ((h.injH q p b o o' aw I j h3) ▸ hp)
 have az:∀q o b,q∉ids->s.sto.get q=some o->o.has L q b->w'.heap[b]? =w.heap[b]? :=λq o b E aw j=>t.keep b (b4 q o b aw j) (b5 q o b E aw j)
 have b6:ko w w' Z Z':=λb j=>⟨t.zin b j,t.keep b (h.dis b j).1 λhl=>(h.dis b j).2 (V b hl)⟩
 generalize ag:(⟨λq:Id=>if X≠[]/\q.1=tt then L' (0,q.2)else L q,λq:Id=>if X≠[]/\q.1=tt then L'.nest (0,q.2)else if q∈ids then L'.nest (1,idx ids q)else L.nest q⟩:Loc)=M;have b7:∀q:Id,X≠[]->q.1=tt->M q=L' (0,q.2):=λq J I=>by rw[<-ag];simp[J,I]
 have a7:∀q:Id,¬(X≠[]/\q.1=tt)->M q=L q:=λq J=>by rw[<-ag];simp only;rw[if_neg J]
 have bs:∀q:Id,X≠[]->q.1=tt->M.nest q=L'.nest (0,q.2):=λq J I=>by rw[<-ag];simp[J,I]
 have bt:∀q:Id,¬(X≠[]/\q.1=tt)->q∉ids->M.nest q=L.nest q:=λq J I=>by rw[<-ag];simp only;rw[if_neg J,if_neg I]
 have bu:∀(q:Id) (i:Nat),¬(X≠[]/\q.1=tt)->ids[i]? =some q->M.nest q=L'.nest (1,i):=λq i J I=>by rw[<-ag];simp only;rw[if_neg J,if_pos (List.mem_of_getElem? I),yj hn I]
 have a1:∀q,(sto.get q).isSome->¬(X≠[]/\q.1=tt):=λq E ⟨J,I⟩=>by rw[hfree J q I]at E;cases E
 have b8:∀q∈ids,∃i:Nat,ids[i]? =some q:=λq E=>⟨_,tv E⟩
 have b9:∀r,(bC.get [X,pars] r).isSome->PY ⟨w',Z',L',bC.get [X,pars]⟩ (aI w' Z' M fin) back r:=by
  intro r hr;obtain ⟨o,ho⟩:=Option.isSome_iff_exists.1 hr;rcases kU ho with ⟨J,I⟩ | ⟨J,I⟩
  ·have bb:X≠[]:=by rintro rfl;simp[jX]at I
   have j:back r=(tt,r.2):=by rw[hback,J];simp
   have hg:fin.get (tt,r.2)=some (o.map back):=by rw[U,if_pos ⟨bb,rfl⟩,I];rfl
   refine ⟨?_,λ_=> ?_,λsz xs e=> ?_⟩
   ·show M (back r)=L' r;rw[j,b7 _ bb rfl];congr 1;exact Prod.ext J.symm rfl
   ·show (fin.get (back r)).isSome;rw[j,hg];rfl
   show (fin.get (back r)).bind Obj.rw=_;have e':(bC.get [X,pars] r).bind Obj.rw=some (sz,xs):=e;rw[ho]at e';rw[j,hg];simpa [Obj.ng]using e'
  have h3:=Dw I;have h4:r.2<ids.length:=by rw[bm];exact (ax.1 h3).1
  obtain ⟨q,E⟩:∃q,ids[r.2]? =some q:=⟨_,bA h4⟩
  have j:back r=q:=by rw[hback,if_pos J];simp[List.getD,E]
  have O:sto.get q=some (o.map back):=by rw[a3 _ _ E,I];rfl
  have a0:=a1 q (by simp[O]);have hg:fin.get q=some ((o.map back).forget dead):=by rw[U,if_neg a0,O];rfl
  refine ⟨?_,λ_=> ?_,λsz xs e=> ?_⟩
  ·show M (back r)=L' r;rw[j,a7 _ a0,<-b3 _ _ E];congr 1;exact Prod.ext J.symm rfl
  ·show (fin.get (back r)).isSome;rw[j,hg];rfl
  show (fin.get (back r)).bind Obj.rw=_;have e':(bC.get [X,pars] r).bind Obj.rw=some (sz,xs):=e;rw[ho]at e';rw[j,hg];simpa [Obj.ng,Obj.ld]using e'
 have a4:∀q ob,fin.get q=some ob->(∃r o,bC.get [X,pars] r=some o/\back r=q/\(M q=L' r/\M.nest q=L'.nest r)/\(ob=o.map back\/ob=(o.map back).forget dead))\/
   (q∉ids/\¬(X≠[]/\q.1=tt)/\(M q=L q/\M.nest q=L.nest q)/\∃o,s.sto.get q=some o/\ob=o.forget dead):=by
  intro q ob E;rw[U]at E;by_cases hc:X≠[]/\q.1=tt
  ·rw[if_pos hc]at E;left;cases ho:jX X q.2 with
   | none=>simp[ho]at E
   | some o=>
    simp[ho]at E;refine ⟨(0,q.2),o,ho,?_,⟨b7 q hc.1 hc.2,bs q hc.1 hc.2⟩,.inl E.symm⟩;rw[hback];simp[<-hc.2]
  rw[if_neg hc]at E;by_cases hm:q∈ids
  ·left;obtain ⟨i,hi⟩:=b8 q hm;rw[a3 i q hi]at E;cases ho:jX pars i with
   | none=>simp[ho]at E
   | some o=>
    simp[ho]at E;refine ⟨(1,i),o,ho,?_,⟨?_,bu q i hc hi⟩,.inr E.symm⟩
    ·rw[hback];simp[hi]
    rw[a7 q hc,b3 i q hi]
  right;rw[a8 q hm]at E;cases ho:s.sto.get q with
  | none=>simp[ho]at E
  | some o=>simp[ho]at E;exact ⟨hm,hc,⟨a7 q hc,bt q hc hm⟩,o,rfl,E.symm⟩
 have hsame:∀r,(s.sto.get r).isSome->dead r=false->Same (aI w Z L s.sto) (aI w' Z' M fin) r:=by
  intro r hr hd;by_cases hm:r∈ids
  ·obtain ⟨i,hi⟩:=b8 r hm;have O:(sto.get r).isSome:=by
    rw[ap]at hd;have hc:ids.contains r=true:=by simpa using hm
    rw[hc,Bool.true_and]at hd;cases hx:sto.get r with
    | none=>simp[hx]at hd
    | some _=>rfl
   have a0:=a1 r O;rw[a3 i r hi]at O;have bv:(bC.get [X,pars] (1,i)).isSome:=by rw[lN];simpa using O
   obtain ⟨_,p1,p2,p3,p4⟩:=t.psame (1,i) (Nat.le_refl _) bv;have bc:bC.get [[],EJ s.sto ids] (1,i)=(s.sto.get r).map (·.map λr=>(1,idx ids r)):=by rw[lN,Cg,hi]
   refine ⟨a7 r a0,λ_=> ?_,λsz xs e=> ?_,λb j bd=> ?_⟩
   ·show (fin.get r).isSome;rw[U,if_neg a0,a3 i r hi];simpa using O
   ·have e':(s.sto.get r).bind Obj.rw=some (sz,xs):=e;obtain ⟨ys,y1,y2⟩:=p3 sz xs (by
     show (bC.get [[],EJ s.sto ids] (1,i)).bind Obj.rw=_;rw[bc];cases ho:s.sto.get r with
     | none=>simp[ho]at e'
     | some o=>simp[ho]at e';simp[Obj.ng,e'])
    have be:(jX pars i).bind Obj.rw=some (sz,ys):=y1;refine ⟨ys,?_,y2⟩;show (fin.get r).bind Obj.rw=_;rw[U,if_neg a0,a3 i r hi];cases ho:jX pars i with
    | none=>simp[ho]at be
    | some o=>simp[ho]at be;simp[Obj.ng,Obj.ld,be]
   exact p4 b (by show Dx ids L (1,i)=_;simpa [Dx,hi]using j) (by show (bC.get [[],EJ s.sto ids] (1,i)).isSome;rw[bc];simpa using hr)
  have O:(sto.get r).isSome:=by rw[a8 r hm];exact hr
  have a0:=a1 r O;refine ⟨a7 r a0,λ_=> ?_,λsz xs e=>⟨xs,?_,rfl⟩,λb j bd=>by
   obtain ⟨o,ho⟩:=Option.isSome_iff_exists.1 hr;exact dP (az r o b hm ho (.inl j))⟩
  ·show (fin.get r).isSome;rw[U,if_neg a0];simpa using O
  have e':(s.sto.get r).bind Obj.rw=some (sz,xs):=e;show (fin.get r).bind Obj.rw=_;rw[U,if_neg a0,a8 r hm];cases ho:s.sto.get r with
  | none=>simp[ho]at e'
  | some o=>simp[ho]at e';simp[Obj.ld,e']
 have ao:∀b,aY [X,pars] L' b->(∃q∈ids,∃o,s.sto.get q=some o/\o.has L q b)\/w.heap.size<=b:=λb hl=>(t.lives b hl).imp tw id
 have a5:∀{q r:Id} {o ob:Obj} {b:Nat},M q=L' r/\M.nest q=L'.nest r->(ob=o.map back\/ob=(o.map back).forget dead)->ob.has M q b->o.has L' r b:=by
  intro q r o ob b e1 e2 j;refine (tA e1.1 e1.2).1 (wz (f:=back) |>.1 ?_);rcases e2 with rfl | rfl
  ·exact j
  exact Obj.dQ j
 have a6:∀{q:Id} {o ob:Obj} {b:Nat},M q=L q/\M.nest q=L.nest q->ob=o.forget dead->ob.has M q b->o.has L q b:=by
  intro q o ob b e1 e2 j;subst e2;exact (tA e1.1 e1.2).1 (Obj.dQ j)
 have am:∀b,aY fin M b->aY [X,pars] L' b\/∃q,q∉ids/\∃o,s.sto.get q=some o/\o.has L q b:=by
  intro b hl;obtain ⟨q,ob,J,I⟩:=hl;rcases a4 q ob J with ⟨r,o,g1,g2,g3,S⟩ | ⟨g1,_,g2,o,g3,S⟩
  ·exact .inl ⟨r,o,g1,a5 g3 S I⟩
  exact .inr ⟨q,g1,o,g3,a6 g2 S I⟩
 refine ⟨M,⟨h.defers,?_,?_,?_,?_⟩,⟨t.os,t.tape,t.output,t.size,?_,?_,t.zin,?_,?_,?_⟩,?_⟩
 ·rw[bo];refine cO (c:=aI w Z L s.sto) (c':=aI w' Z' M fin) b6 _ _ (λq E=> ?_) (fU (p:=dead) s.env _ h.env);exact hsame q (eE _ _ h.env q (gb s.env q E)) (dY s.env q E)
 ·intro q ob E;rcases a4 q ob E with ⟨r,o,g1,g2,g3,S⟩ | ⟨g1,gc,g2,o,g3,S⟩
  ·have an:=k.obj r o g1;have:=Cd (w:=w') (Z:=Z') (L:=L') (L':=M) (g:=bC.get [X,pars]) (g':=fin.get) (f:=back) (r:=r) (r':=q) an g3.1 (λ_=>g3.2) (λp hp=>b9 p (kV an p hp));rcases S with S | S
   ·rw[S];exact this
   rw[S];exact lf this
  rw[S];have an:=h.obj q o g3;refine jr (c:=aI w Z L s.sto) (c':=aI w' Z' M fin) b6 g2.1 g2.2 (λb j=>az q o b g1 g3 (Obj.dQ j)) (λp hp=> ?_) (lf an);exact hsame p (kV (lf (p:=dead) an) p hp) (Obj.iZ o p hp)
 ·intro q q' b ob ob' ho bj j b0;have b1:∀r o p o',bC.get [X,pars] r=some o->o.has L' r b->p∉ids->s.sto.get p=some o'->o'.has L p b->False:=by
   intro r o p o' g1 g2 g3 S g5;rcases ao b ⟨r,o,g1,g2⟩with ⟨x,x1,o2,x2,x3⟩ | x
   ·exact g3 ((h.injH p x b o' o2 S x2 g5 x3) ▸ x1)
   have:=b4 p o' b S g5;omega
  rcases a4 q ob ho with ⟨r,o,g1,g2,g3,S⟩ | ⟨g1,_,g2,o,g3,S⟩
  ·rcases a4 q' ob' bj with ⟨r',o',ac,ae,a9,aa⟩ | ⟨ac,_,ae,o',a9,aa⟩
   ·have:=k.injH r r' b o o' g1 ac (a5 g3 S j) (a5 a9 aa b0);rw[<-g2,<-ae,this]
   exact (b1 r o q' o' g1 (a5 g3 S j) ac a9 (a6 ae aa b0)).elim
  rcases a4 q' ob' bj with ⟨r',o',ac,ae,a9,aa⟩ | ⟨ac,_,ae,o',a9,aa⟩
  ·exact (b1 r' o' q o ac (a5 a9 aa b0) g1 g3 (a6 g2 S j)).elim
  exact h.injH q q' b o o' g3 a9 (a6 g2 S j) (a6 ae aa b0)
 ·intro b j;refine ⟨(k.dis b j).1,λhl=> ?_⟩;rcases am b hl with g | ⟨q,g1,o,g2,g3⟩
  ·exact (k.dis b j).2 g
  rcases t.zout b j with x | x | x
  ·exact (h.dis b x).2 ⟨q,o,g2,g3⟩
  ·have:=b4 q o b g2 g3;omega
  exact b5 q o b g1 g2 g3 x
 ·intro b j bz;exact t.keep b j λhl=>bz (V b hl)
 ·intro b hl;rcases am b hl with g | ⟨q,g1,o,g2,g3⟩
  ·exact (t.lives b g).imp (V b) id
  exact .inl ⟨q,o,g2,g3⟩
 ·intro b j;exact (t.zout b j).imp id λx=>x.imp id (V b)
 ·intro r hr;exact a7 r λ⟨J,I⟩=>by have:=hX J;omega
 ·intro r hr bd;obtain ⟨ob,ho⟩:=Option.isSome_iff_exists.1 bd;have bi:¬(X≠[]/\r.1=tt):=λ⟨J,I⟩=>by have:=hX J;omega
  have O:(sto.get r).isSome:=by rw[U,if_neg bi]at ho;cases hx:sto.get r with
   | none=>simp[hx]at ho
   | some _=>rfl
  have c0:dead r=false:=by
   rw[ap];cases hx:sto.get r with
   | none=>simp[hx]at O
   | some _=>simp
  have bl:(s.sto.get r).isSome:=by
   by_cases hm:r∈ids
   ·exact hs r hm
   rw[a8 r hm]at O;exact O
  exact ⟨bl,hsame r bl c0⟩
 have J:=k.env;simp only[dH]at J;obtain ⟨v',vs',e1,I,e2⟩:=J;subst e2;have:v'=v:=by have:[v]=[v']:=e1;injection this with this;exact this.symm
 subst this;exact Cc (w:=w') (Z:=Z') (L:=L') (ob:=bC.get [X,pars]) ret _ (λr hr=>b9 r (wA _ _ I r hr)) I
end
end
end Go.Vi
