import Derived.Test.YtfnagkpidcdocaaGreatM05
set_option linter.all false
namespace Go.Vi
open Go Go.RowKit
section
variable {P:Program} {call:cM} {loop:cN}
variable {s:St} {a:Act} {w:World} {L:Loc} {Z:Nat->Prop}
theorem Aq:∀{xs:List D} {bs:List UInt8},mP xs=some bs->∃ns:List Int,xs=ns.map (λn=>D.int .u8 n)/\bs=ns.map λn=>UInt8.ofNat n.toNat
 | [],bs,e=>by simp only[mP]at e;injection e with e;subst e;exact ⟨[],rfl,rfl⟩
 | .int .u8 n::l,bs,e=>by
  simp only[mP]at e;split at e
  ·rename_i bs' e2;injection e with e;subst e;obtain ⟨ns,h1,h2⟩:=Aq e2;exact ⟨n::ns,by simp[h1],by simp[h2]⟩
  ·cases e
theorem ur (np:Nat) (h:RS s a w L Z) {o:Oper} {t t' e:TypeId} {x:Operand} {x':VX} (ho:o.op= .convert t t' x) (hx:cR x x'=true) {A:AV} {xs:List D} {u:ByteArray}
  (hs:P.underlying t=some (.slice e)) (he:P.underlying e=some (.int .u8)) (hd:P.underlying t'=some .string)
  (e1:ev s.env x'=some A) (e2:content (real call loop) s.sto A=some xs) (e3:(real call loop).ofBytes xs=some u):aV P np o s a w L Z (.d (.str u)) s:=by
 have h1:=aL h hx e1;obtain ⟨B,cap,b1,b2,b3⟩:=cG h.obj h1 e2;simp only[real,aJ.ofBytes,Option.map_eq_some_iff]at e3;obtain ⟨bs,e4,e5⟩:=e3;obtain ⟨ns,n1,n2⟩:=Aq e4;refine aV.pure h (eE (m:=convert t t' (a.eval x)) (by unfold execOp;rw[ho]) (u:= .string u) ?_) (by simp only[RV,RD]);rw[b1];have hu:u=strOfNums ns:=by rw[<-e5,n2];rfl
 by_cases hne:xs=[]
 ·have hn:ns=[]:=by rw[hne]at n1;simpa using n1.symm
  have hlen:xs.length=0:=by rw[hne];rfl
  rw[hlen,hu,hn];cases B with
  | none=>exact run_convert_bytes_nil w t e hs he 0 cap t' hd
  | some ad=>exact run_convert_bytes_back w t t' e ad cap [] hs he hd (λj hj=>by simp at hj)
 ·obtain ⟨b,off,sz,c1,c2,_⟩:=b3.resolve_left hne;subst c1;rw[hu];have hlen:ns.length=xs.length:=by rw[n1];simp
  refine run_convert_bytes_arg w t e hs he b off xs.length cap ns hlen (λi hi=> ?_) t' hd;have hi':i<ns.length:=by omega
  obtain ⟨cs,d1,d2,d3⟩:=eW.1 c2 i (D.int .u8 ns[i]) (by rw[n1];simp[bg hi']);simp only[RD]at d2;subst d2;have hsz:sz=1:=by simpa using d1.symm
  subst hsz;have:=d3 0 _ rfl;simp only[Nat.mul_one,Nat.add_zero]at this;rw[this];simp[List.getD,bg hi']
theorem jx {t e:TypeId} {i:TypeInfo} (hu:P.underlying t=some (.slice e)) (hi:P.info? e=some i) {A:Option Addr} {n cap:Nat} {lo hi':Option Value} {l h:Int}
  (hlo:(lo=none/\l=0)\/∃k,lo=some (.int k l)) (hhi:(hi'=none/\h=n/\n<=cap)\/∃k,hi'=some (.int k h)) (h0:0<=l) (h1:l<=h) (h2:h<=cap):
  (Instr.slice t (.slice A n cap) lo hi' none).run P w= .ok (sliced A l.toNat h.toNat cap i.size) w:=by
 have he:P.elem t=e:=by simp[Program.elem,hu]
 have hu':P.underlying t=some (.slice (P.elem t)):=by rw[he];exact hu
 have hsz:(sizeOf (P.elem t)).run P w= .ok i.size w:=by rw[he];simp[sizeOf,typeInfo,hi]
 rcases hlo with ⟨rfl,rfl⟩ | ⟨kl,rfl⟩
 ·rcases hhi with ⟨rfl,rfl,hn⟩ | ⟨kh,rfl⟩
  ·rw[run_slice_all w t A n cap hu',hsz];simp[Result.andThen]
  ·rw[run_slice_h w t A n cap hu' kh h h1 h2,hsz];simp[Result.andThen]
 ·rcases hhi with ⟨rfl,rfl,hn⟩ | ⟨kh,rfl⟩
  ·rw[run_slice_l w t A n cap hu' kl l h0 h1,hsz];simp[Result.andThen]
  ·rw[run_slice_lh w t A n cap hu' kl kh l h h0 h1 h2,hsz];simp[Result.andThen]
theorem mJ (
      h:RS s a w L Z) {x:Option Operand} {x':Option VX} (hx:xq x x'=true) {y:Option AV} {n:Option Int} (e1:Dc s.env x'=some y) (e2:kR y=some n):
  (x.map a.eval=none/\n=none)\/∃k m,n=some m/\x.map a.eval=some (.int k m):=by
 unfold xq at hx;split at hx
 ·simp only[Dc]at e1;injection e1 with e1;subst e1;simp only[kR]at e2;injection e2 with e2;subst e2;exact .inl ⟨rfl,rfl⟩
 ·simp only[Dc]at e1;split at e1
  ·rename_i u e3;injection e1 with e1;subst e1;have h1:=aL h hx e3;simp only[kR]at e2;split at e2
   ·rename_i m e4;injection e2 with e2;subst e2;cases u with
    | d y=>
     cases y with
     | int k q=>
      simp only[asInt]at e4;injection e4 with e4;subst e4;simp only[RV,RD,List.cons.injEq,and_true]at h1;exact .inr ⟨k,q,rfl,by simp[h1]⟩
     | _=>simp[asInt]at e4
    | _=>simp[asInt]at e4
   ·cases e2
  ·cases e1
 ·cases hx
theorem Au {xs ys:List D} {x n:Int} (e:(real call loop).sub xs x n=some ys):0<=x/\0<=n/\x+n<=xs.length/\ys=(xs.drop x.toNat).take n.toNat:=by
 simp only[real,aJ.sub,zD]at e;split at e
 ·rename_i h;injection e with e;exact ⟨h.1,h.2.1,h.2.2,e.symm⟩
 ·cases e
theorem w8 (np:Nat) (h:RS s a w L Z) {o:Oper} {t:TypeId} {x:Operand} {lo hi mx:Option Operand} {x':VX} {lo' hi':Option VX} (ho:o.op= .slice t x lo hi mx) (hx:cR x x'=true)
  (hlo:xq lo lo'=true) (hhi:xq hi hi'=true) (hmx:mx=none) (ht:P.underlying t=some .string) {u v:ByteArray} {y1 y2:Option AV} {l h':Option Int}
  (e1:ev s.env x'=some (.d (.str u))) (e2:Dc s.env lo'=some y1) (e3:Dc s.env hi'=some y2) (e4:kR y1=some l) (e5:kR y2=some h')
  (e:(real call loop).I9 u (l.getD 0) (h'.getD ((real call loop).sLen u))=some v):aV P np o s a w L Z (.d (.str v)) s:=by
 have h1:=aL h hx e1;simp only[RV,RD,List.cons.injEq,and_true]at h1;have k1:=mJ h hlo e2 e4;have k2:=mJ h hhi e3 e5;simp only[real,aJ.I9,aJ.sLen]at e;split at e
 case isFalse=>cases e
 case isTrue hc=>
  injection e with e;subst hmx;refine aV.pure h (eE (m:=Instr.sliceAt t (a.eval x) (lo.map a.eval) (hi.map a.eval) none) (by unfold execOp;rw[ho];rfl) (u:= .string v) ?_) (by simp only[RV,RD]);rw[run_sliceAt_string w t _ _ _ _ ht,h1];obtain ⟨c1,c2,c3⟩:=hc;rcases k1 with ⟨q1,q2⟩ | ⟨kl,ml,q2,q1⟩
  ·rcases k2 with ⟨q3,q4⟩ | ⟨kh,mh,q4,q3⟩
   ·subst q2;subst q4;simp only[Option.getD_none]at c1 c2 c3 e;simp[Instr.slice,run_underlying ht,Instr.sliceBounds,q1,q3];simpa using e
   ·subst q2;subst q4;simp only[Option.getD_none,Option.getD_some]at c1 c2 c3 e;simp[Instr.slice,run_underlying ht,Instr.sliceBounds,q1,q3,run_sliceBound,c2,c3];simpa using e
  ·rcases k2 with ⟨q3,q4⟩ | ⟨kh,mh,q4,q3⟩
   ·subst q2;subst q4;simp only[Option.getD_none,Option.getD_some]at c1 c2 c3 e;simp[Instr.slice,run_underlying ht,Instr.sliceBounds,q1,q3,run_sliceBound,c1,c2,c3];simpa using e
   ·subst q2;subst q4;simp only[Option.getD_some]at c1 c2 c3 e;have em:(mh.toNat:Int)=mh:=Int.toNat_of_nonneg (by omega);simp[Instr.slice,run_underlying ht,Instr.sliceBounds,q1,q3,run_sliceBound,c1,c2,c3,em,(by omega:0<=mh)];simpa using e
theorem BP (
      np:Nat) (h:RS s a w L Z) {o:Oper} {t e:TypeId} {i:TypeInfo} {x:Operand} {lo hi mx:Option Operand} {x':VX} {lo' hi' mx':Option VX} (ho:o.op= .slice t x lo hi mx) (hx:cR x x'=true)
  (hlo:xq lo lo'=true) (hhi:xq hi hi'=true) (hmx:xq mx mx'=true) (hu:P.underlying t=some (.slice e)) (hi0:P.info? e=some i) {A v:AV} {y1 y2 y3:Option AV} {l h' m:Option Int}
  (e1:ev s.env x'=some A) (e2:Dc s.env lo'=some y1) (e3:Dc s.env hi'=some y2) (e6:Dc s.env mx'=some y3) (e4:kR y1=some l) (e5:kR y2=some h') (e7:kR y3=some m)
  (es:sliceAt (real call loop) s.sto (e,i.size) A l h' m=some v):aV P np o s a w L Z v s:=by
 have h1:=aL h hx e1;have k1:=mJ h hlo e2 e4;have k2:=mJ h hhi e3 e5;have k3:=mJ h hmx e6 e7;have he:P.elem t=e:=by simp[Program.elem,hu]
 have hu':P.underlying t=some (.slice (P.elem t)):=by rw[he];exact hu
 have hrun:∀{u:Value},(Instr.slice t (a.eval x) (lo.map a.eval) (hi.map a.eval) (mx.map a.eval)).run P w= .ok u w->(execOp a.eval o).run P w= .ok (.value u) w:=by
  intro u hm;refine eE (m:=Instr.sliceAt t (a.eval x) (lo.map a.eval) (hi.map a.eval) (mx.map a.eval)) (by unfold execOp;rw[ho]) ?_;rw[run_sliceAt_slice w t _ _ _ _ hu'];exact hm
 unfold sliceAt at es;split at es
 ·rename_i mm;obtain ⟨km,mm',q1,q2⟩:=k3.resolve_left (by rintro ⟨_,q⟩;cases q);injection q1 with q1;subst q1;split at es
  case h_2=>cases es
  case h_1 xs hh hc=>
   split at es
   case h_2=>cases es
   case h_1 hz1 hz2=>
    injection es with es;subst es;simp only[real,aJ.isZero]at hz1 hz2;have z1:=of_decide_eq_true hz1;have z2:=of_decide_eq_true hz2;subst z1;subst z2;obtain ⟨k4,q3⟩:lo.map a.eval=none/\True:=by
     rcases k1 with ⟨q,_⟩ | ⟨_,_,q,_⟩
     ·exact ⟨q,trivial⟩
     ·cases q
    obtain ⟨kh,hh',q4,q5⟩:=k2.resolve_left (by rintro ⟨_,q⟩;cases q);injection q4 with q4;subst q4;obtain ⟨B,cap,b1,b2,_⟩:=cG h.obj h1 hc;have:=run_slice_hm (P:=P) w t B xs.length cap hu' kh km 0 0 (Int.le_refl _) (Int.le_refl _) (by omega);refine aV.pure h (hrun (u:= .slice B 0 0) ?_) (by simp only[RV];exact ⟨B,rfl⟩);rw[b1,k4,q5,q2,this,he];simp[sizeOf,typeInfo,hi0,Result.andThen,sliced]
 ·have q0:mx.map a.eval=none:=by
   rcases k3 with ⟨q,_⟩ | ⟨_,_,q,_⟩
   ·exact q
   ·cases q
  rw[q0]at hrun;have hl:∃ll:Int,((lo.map a.eval=none/\ll=0)\/∃k,lo.map a.eval=some (.int k ll))/\ll=l.getD 0:=by
   rcases k1 with ⟨q1,q2⟩ | ⟨k,m',q1,q2⟩
   ·exact ⟨0,.inl ⟨q1,rfl⟩,by rw[q2];rfl⟩
   ·exact ⟨m',.inr ⟨k,q2⟩,by rw[q1];rfl⟩
  obtain ⟨ll,hl1,hl2⟩:=hl;have hh:∀n cap:Nat,n<=cap->((hi.map a.eval=none/\h'.getD n=n/\n<=cap)\/∃k,hi.map a.eval=some (.int k (h'.getD n))):=by
   intro n cap hn;rcases k2 with ⟨q1,q2⟩ | ⟨k,m',q1,q2⟩
   ·exact .inl ⟨q1,by rw[q2];rfl,hn⟩
   ·exact .inr ⟨k,by rw[q2,q1];rfl⟩
  split at es
  ·simp only[RV]at h1;obtain ⟨B,h1⟩:=h1;rw[h1]at hrun;have hz:l.getD 0=0/\h'.getD 0=0/\v= .emp:=by
    split at es
    ·injection es with es;exact ⟨rfl,rfl,es.symm⟩
    ·split at es
     ·rename_i z1 z2;injection es with es;simp only[real,aJ.isZero]at z1 z2;exact ⟨of_decide_eq_true z1,of_decide_eq_true z2,es.symm⟩
     ·cases es
   obtain ⟨z1,z2,rfl⟩:=hz;have hg:=jx (P:=P) (w:=w) (A:=B) (n:=0) (cap:=0) hu hi0 hl1 (hh 0 0 (Nat.le_refl _)) (by omega) (by simp;omega) (by simp;omega);refine aV.pure h (hrun hg) ?_;simp only[RV];have z2':(h'.getD ((0:Nat):Int)).toNat=0:=by have:h'.getD ((0:Nat):Int)=0:=z2;rw[this];rfl
   rw[z2',hl2,z1];exact ⟨B,by simp[sliced]⟩
  ·rename_i xs;simp only[RV,RD]at h1;obtain ⟨B,cap,h1,b2,b3⟩:=h1;injection h1 with h1;rw[h1]at hrun;split at es
   case h_2=>cases es
   case h_1 hfit=>
    split at es
    case h_2=>cases es
    case h_1 ys hys=>
     injection es with es;subst es;obtain ⟨c1,c2,c3,c4⟩:=Au hys;simp only[real,aJ.minus,aJ.len]at c1 c2 c3 c4;have hg:=jx (P:=P) (w:=w) (A:=B) (n:=xs.length) (cap:=cap) hu hi0 hl1 (hh _ _ b2) (by omega) (by omega) (by omega);refine aV.pure h (hrun hg) ?_;have hylen:ys.length=(h'.getD xs.length).toNat-ll.toNat:=by
      rw[c4,List.length_take,List.length_drop];omega
     simp only[RV,RD,sliced];refine ⟨_,cap-ll.toNat,by rw[hylen],by omega,?_⟩;by_cases hy0:ys=[]
     ·exact .inl hy0
     ·right;have hpos:=List.length_pos_iff.2 hy0;have hxne:xs≠[]:=by rintro rfl;simp at c4;exact hy0 c4
      obtain ⟨b,off,sz,d1,d2,d3⟩:=b3.resolve_left hxne;rw[if_neg (by omega),d1];simp only[Option.map_some,add_plain];by_cases hl0:ll=0
      ·refine ⟨b,off+ll.toNat*i.size,sz,rfl,d2,?_⟩;rw[c4,<-hl2,hl0];simpa using mQ _ d3
      ·have hfit':(real call loop).fits i.size 0 xs=true:=by
        cases l with
        | none=>exact (hl0 hl2).elim
        | some l=>exact hfit
       simp only[real,aJ.fits,af]at hfit';have hall:=List.all_eq_true.1 hfit'.2;have hsz:sz=i.size:=by
        obtain ⟨x0,hx0⟩:=List.exists_mem_of_ne_nil _ hxne;have a1:=hall x0 hx0;simp only[beq_iff_eq]at a1;obtain ⟨j,hj⟩:=List.getElem?_of_mem hx0;obtain ⟨cs,r1,r2,_⟩:=eW.1 d3 j x0 hj;rw[<-r1,yY r2,a1]
       subst hsz;refine ⟨b,off+ll.toNat*i.size,i.size,rfl,d2,?_⟩;rw[c4,<-hl2];exact mQ _ (x7 _ d3)
  ·rename_i r sz g u;split at es
   ·cases es
   rename_i xs hxs;obtain ⟨B,cap,b1⟩:=ld h.obj h1 hxs;rw[b1]at hrun;have h1':=h1;simp only[RV]at h1';obtain ⟨a',n',cap',xs0,m1,⟨m2,m2'⟩,m3,m4,m5,m6,m7,m8⟩:=h1';rw[b1]at m1;injection m1 with w1 w2 w3;have b2:xs.length<=cap:=by omega
   subst w1;subst w3;split at es
   ·injection es with es;subst es;have hl0:ll=0:=hl2;subst hl0;have hg:=jx (P:=P) (w:=w) (A:=B) (n:=xs.length) (cap:=cap) hu hi0 hl1 (hh _ _ b2) (by omega) (by simp) (by simp;omega);refine aV.pure h (hrun hg) ?_;have:sliced B (0:Int).toNat ((none:Option Int).getD (xs.length:Int)).toNat cap i.size= .slice B xs.length cap:=by
     simp only[sliced,Int.toNat_zero,Option.getD_none,Int.toNat_natCast,Nat.sub_zero,Nat.zero_mul];split
     ·rfl
     ·rename_i hc0;have:L r≠none:=λhL=>hc0 (m7 hL)
      obtain ⟨b,hb⟩:=Option.ne_none_iff_exists'.1 this;rcases m8 b hb with ⟨k,_⟩ | ⟨k,_⟩
      ·exact (hc0 k).elim
      ·rw[k];simp[add_plain]
    rw[this,<-b1];exact h1
   ·split at es
    case isFalse=>cases es
    case isTrue hsz=>
     subst hsz;split at es
     case h_2=>cases es
     case h_1 ys hys=>
      injection es with es;subst es;obtain ⟨c1,c2,c3,c4⟩:=Au hys;simp only[real,aJ.minus,aJ.len]at c1 c2 c3 c4;have hg:=jx (P:=P) (w:=w) (A:=B) (n:=xs.length) (cap:=cap) hu hi0 hl1 (hh _ _ b2) (by omega) (by omega) (by omega);refine aV.pure h (hrun hg) ?_;have hbase:∃base:Int,((g=none/\base=0)\/∃m,g=some (base,m))/\0<=base/\base.toNat=bq g/\base.toNat+xs.length<=xs0.length:=by
       cases g with
       | none=>exact ⟨0,.inl ⟨rfl,rfl⟩,Int.le_refl _,rfl,by have:=m5 rfl;simp;omega⟩
       | some p=>
        obtain ⟨p1,p2⟩:=p;obtain ⟨r1,r2,r3⟩:=m6 p1 p2 rfl;exact ⟨p1,.inr ⟨p2,rfl⟩,r1,rfl,by omega⟩
      obtain ⟨base,g1,g2,g3,g4⟩:=hbase
      suffices hX:∀X:Int,X=base+l.getD 0->RV (aH w Z L s.sto) (.arr r (e,i.size) (some (X,(real call loop).minus (h'.getD ((real call loop).len xs)) (l.getD 0))) false) (sliced B ll.toNat (h'.getD ↑xs.length).toNat cap i.size) by
       refine hX _ ?_;rcases g1 with ⟨rfl,rfl⟩ | ⟨mm,rfl⟩
       ·simp
       ·rfl
      intro X hXe;subst hXe;simp only[RV,sliced];have hro:bq (some (base+l.getD 0,(real call loop).minus (h'.getD ((real call loop).len xs)) (l.getD 0)))=bq g+ll.toNat:=by
       show (base+l.getD 0).toNat=bq g+ll.toNat;omega
      refine ⟨_,(h'.getD xs.length).toNat-ll.toNat,cap-ll.toNat,xs0,rfl,⟨by omega,by omega⟩,λe=>(by cases e),m4,λe=>(by cases e),λx m e=> ?_,λe=> ?_,λb hb=> ?_⟩
      ·injection e with e;injection e with e3 e4;subst e3;subst e4;refine ⟨by omega,?_,?_⟩
       ·simp only[real,aJ.minus,aJ.len];omega
       ·omega
      ·have:=m7 e;omega
      ·rw[hro];rcases m8 b hb with ⟨k1',k2'⟩ | ⟨k1',k2'⟩
       ·left;exact ⟨by omega,by omega⟩
       ·by_cases hc0:cap-ll.toNat=0
        ·by_cases hr0:bq g+ll.toNat=0
         ·right;have hcl:cap=ll.toNat:=by omega
          refine ⟨?_,?_⟩
          ·rw[if_pos hcl,k1',hr0];have:bq g=0:=by omega
           rw[this]
          ·rw[<-k2'];congr 1;omega
         ·left;exact ⟨hc0,hr0⟩
        ·right;refine ⟨?_,?_⟩
         ·rw[if_neg (by omega),k1'];simp only[Option.map_some,add_plain,Nat.add_mul]
         ·rw[<-k2'];congr 1;omega
  ·cases es
def nA (places:List (Nat×Nat)):List (Nat×Operand)->List (Nat×Nat×VX)->Bool
 | [],[]=>true
 | (i,x)::l,(off,n,y)::r=>(match places[i]? with | some p=>p.1==off&&p.2==n | none=>false)&&cR x y&&nA places l r
 | _,_=>false
theorem DW {c:Cx} {x:AV} {v:Value} (h:RV c x v) (hx:x.whole=true):di c x.cells v.cells.toList:=by
 refine pA h ?_ ?_ ?_
 ·rintro vs rfl;cases hx
 ·rintro rfl;cases hx
 ·rintro rfl;cases hx
theorem vQ (
      h:RS s a w L Z) {places:List (Nat×Nat)}:∀{ps:List (Nat×Operand)} {qs:List (Nat×Nat×VX)} {rs:List (Nat×List AV)} {cs r:List AV} {cells:Array Value},nA places ps qs=true->jw s.env qs=some rs->
  di (aH w Z L s.sto) cs cells.toList->vK cs rs=some r->∃cells',Instr.fill (places.toArray[·]?) cells (ps.map λp=>(p.1,a.eval p.2))=some cells'/\di (aH w Z L s.sto) r cells'.toList
 | [],[],rs,cs,r,cells,_,e1,hc,e2=>by
  simp only[jw]at e1;injection e1 with e1;subst e1;simp only[vK]at e2;injection e2 with e2;subst e2;exact ⟨cells,rfl,hc⟩
 | (i,
    x)::ps,(off,n,y)::qs,rs,cs,r,cells,hk,e1,hc,e2=>by
  simp only[nA,af]at hk;obtain ⟨⟨h1,h2⟩,h3⟩:=hk;split at h1
  case h_2=>cases h1
  case h_1 p hp=>
   simp only[af,beq_iff_eq]at h1;obtain ⟨h1a,h1b⟩:=h1;simp only[jw]at e1;split at e1
   case h_2=>cases e1
   case h_1 u eu=>
    split at e1
    case h_2=>cases e1
    case h_1 hw hn=>
     split at e1
     case h_2=>cases e1
     case h_1 rs' er=>
      injection e1 with e1;subst e1;simp only[vK]at e2;split at e2
      case h_2=>cases e2
      case h_1 cs' el=>
       have hn':u.cells.length=n:=by simpa using hn
       have hv:=DW (aL h h2 eu) hw;have hlen:=(bF.1 hv).1;have hcl:=(bF.1 hc).1;obtain ⟨l1,l2⟩:=jH el;have hsz:(a.eval x).cells.size=n:=by simp at hlen;omega
       have hplace:places.toArray[i]? =some (off,(a.eval x).cells.size):=by
        rw[hsz,List.getElem?_toArray,hp,<-h1a,<-h1b]
       simp only[List.map_cons];rw[pJ hplace (by simp at hcl;omega)];exact vQ h h3 er (by have:=Dy hc hv el;simpa using this) e2
 | [],_::_,_,_,_,_,hk,_,_,_=>by simp[nA]at hk
 | _::_,[],_,_,_,_,hk,_,_,_=>by simp[nA]at hk
theorem BQ (np:Nat) (h:RS s a w L Z) {o:Oper} {t:TypeId} {i:TypeInfo} {z:Value} {fields:Array Field} {places:List (Nat×Nat)} {ps:Array (Nat×Operand)} {qs:List (Nat×Nat×VX)} {zero cs:List AV} {rs:List (Nat×List AV)}
  (ho:o.op= .build t ps) (hu:P.underlying t=some (.struct fields)) (hi:P.info? t=some i) (hz:i.zero=some z) (hpl:fields.toList.mapM (λf=>(P.info? f.type).map λi=>(f.offset,i.size))=some places)
  (hk:nA places ps.toList qs=true) (hok:eK z.cells.toList zero=true) (e1:jw s.env qs=some rs) (e2:vK zero rs=some cs):aV P np o s a w L Z (.agg cs) s:=by
 obtain ⟨cells',c1,c2⟩:=vQ h hk e1 (ku hok) e2;have hb:P.built t (ps.map λ(i,x)=>(i,a.eval x)).toList=some cells':=by
  unfold Program.built;simp only[hi,hu,hz,hpl];simpa using c1
 refine aV.pure h (eE (m:=Instr.build t (ps.map λ(i,x)=>(i,a.eval x))) (by unfold execOp;rw[ho]) (run_build w t _ cells' hb)) ?_;simp only[RV];exact ⟨cells'.toList,by simp,c2⟩
end
def Md (c c':Cx) (f:Id->Id) (r:Id):Prop:=
 c'.L (f r)=c.L r/\((c.obj r).isSome->(c'.obj (f r)).isSome)/\∀sz xs,(c.obj r).bind Obj.rw=some (sz,xs)->(c'.obj (f r)).bind Obj.rw=some (sz,xs)
mutual
theorem za {w:World} {Z:Nat->Prop} {L L':Loc} {ob ob':Id->Option Obj} {f:Id->Id}:∀(a:AV) (v:Value),(∀r∈a.refs,Md ⟨w,Z,L,ob⟩ ⟨w,Z,L',ob'⟩ f r)->RV ⟨w,Z,L,ob⟩ a v->RV ⟨w,Z,L',ob'⟩ (a.map f) v
 | .undef,v,_,h=>by simp only[AV.map,RV]
 | .bare,v,_,h=>by simpa only [AV.map,RV]using h
 | .d x,v,_,h=>by simpa only [AV.map,RV]using h
 | .agg as,v,hr,h=>by
  simp only[AV.map,RV]at h |-;obtain ⟨vs,h1,h2⟩:=h;exact ⟨vs,h1,nB as vs (by simpa [AV.refs]using hr) h2⟩
 | .tup as,v,hr,h=>by
  simp only[AV.map,RV]at h |-;obtain ⟨vs,h1,h2⟩:=h;exact ⟨vs,h1,nB as vs (by simpa [AV.refs]using hr) h2⟩
 | .nilp,v,_,h=>by simpa only [AV.map,RV]using h
 | .emp,v,_,h=>by simpa only [AV.map,RV]using h
 | .ptr r off,v,hr,h=>by
  simp only[AV.map,RV]at h |-;obtain ⟨b,h1,h2,h3⟩:=h;obtain ⟨k1,k2,_⟩:=hr r (by simp[AV.refs]);exact ⟨b,k2 h1,k1.trans h2,h3⟩
 | .prow r sz i off,v,hr,h=>by
  simp only[AV.map,RV]at h |-;obtain ⟨b,h1,h2,h3⟩:=h;obtain ⟨k1,k2,_⟩:=hr r (by simp[AV.refs]);exact ⟨b,k2 h1,k1.trans h2,h3⟩
 | .sp cs off,v,_,h=>by simpa only [AV.map,RV]using h
 | .arr r sz g full,v,hr,h=>by
  simp only[AV.map,RV]at h |-;obtain ⟨a,n,cap,xs,h1,h2,h3,h4,h5,h6,h7,h8⟩:=h;obtain ⟨k1,_,k3⟩:=hr r (by simp[AV.refs]);exact ⟨a,n,cap,xs,h1,h2,h3,k3 sz xs h4,h5,h6,λe=>h7 (k1.symm.trans e),λb e=>h8 b (k1.symm.trans e)⟩
 | .fn g as,v,hr,h=>by
  simp only[AV.map,RV]at h |-;obtain ⟨vs,h1,h2⟩:=h;exact ⟨vs,h1,nB as vs (by simpa [AV.refs]using hr) h2⟩
theorem nB {w:World} {Z:Nat->Prop} {L L':Loc} {ob ob':Id->Option Obj} {f:Id->Id}:∀(as:List AV) (vs:List Value),(∀r∈AV.bE as,Md ⟨w,Z,L,ob⟩ ⟨w,Z,L',ob'⟩ f r)->di ⟨w,Z,L,ob⟩ as vs->di ⟨w,Z,L',ob'⟩ (AV.nu f as) vs
 | [],vs,_,h=>by simpa only [AV.nu,di]using h
 | a::as,vs,hr,h=>by
  simp only[AV.nu,di]at h |-;obtain ⟨v,vs',h1,h2,h3⟩:=h;exact ⟨v,vs',h1,za a v (λr hm=>hr r (by simp[AV.bE,hm])) h2,nB as vs' (λr hm=>hr r (by simp[AV.bE,hm])) h3⟩
end
theorem zb {w:World} {Z:Nat->Prop} {L L':Loc} {g g':Id->Option Obj} {f:Id->Id} {r r':Id} {ob:Obj} (h:RO ⟨w,Z,L,g⟩ r ob) (hL:L' r'=L r) (hN:ob.deep=true->L'.nest r'=L.nest r)
  (hr:∀q∈ob.refs,Md ⟨w,Z,L,g⟩ ⟨w,Z,L',g'⟩ f q):RO ⟨w,Z,L',g'⟩ r' (ob.map f):=by
 cases ob with
 | box as=>
  simp only[Obj.map,RO]at h |-;obtain ⟨b,vs,ty,h1,h2,h3⟩:=h;exact ⟨b,vs,ty,hL.trans h1,h2,nB as _ hr h3⟩
 | rows sz xs=>
  simp only[Obj.map,RO]at h |-;rw[hL];exact h
 | gone sz xs=>
  simp only[Obj.map,RO]at h |-;rw[hL];exact h
 | orows sz xs=>
  simp only[Obj.map,RO]at h |-;rw[hL,hN rfl];exact h
 | hrows sz xs i off q esz=>
  simp only[Obj.map,RO]at h |-;rw[hL,hN rfl];obtain ⟨b,vs,pre,d,post,A1,A2,B1,B2,v,h1,h2,h3,h4,h5,h6,h7,h8,h9,h10,h11,h12,h13,h14,h16,h17⟩:=h;exact ⟨b,vs,pre,d,post,A1,A2,B1,B2,v,h1,h2,h3,h4,h5,h6,h7,h8,h9,h10,h11,h12,za (.arr q esz none false) v (λk hk=>hr k (by simpa [AV.refs,Obj.refs]using hk)) h13,h14,h16,h17⟩
theorem lO {s:br}:∀(n:Nat) (todo acc ids:List Id),reach s n todo acc=some ids->acc.Nodup->(∀r∈acc,(s.get r).isSome)->(∀r∈acc,∀ob,s.get r=some ob->∀q∈ob.refs,q∈acc\/q∈todo)->
  ids.Nodup/\(∀r∈ids,(s.get r).isSome)/\(∀r∈todo,r∈ids)/\(∀r∈acc,r∈ids)/\∀r∈ids,∀ob,s.get r=some ob->∀q∈ob.refs,q∈ids
 | n,[],acc,ids,e,h1,h2,h3=>by
  simp only[reach]at e;injection e with e;subst e;exact ⟨h1,h2,by simp,λr hr=>hr,λr hr ob ho q hq=>by simpa using h3 r hr ob ho q hq⟩
 | 0,_::_,acc,ids,e,_,_,_=>by simp[reach]at e
 | n+1,r::todo,acc,ids,e,h1,h2,h3=>by
  simp only[reach]at e;split at e
  ·rename_i hc;have hc':r∈acc:=by simpa using hc
   obtain ⟨k1,k2,k3,k4,k5⟩:=lO n todo acc ids e h1 h2 (λq hq ob ho p hp=>by
    rcases h3 q hq ob ho p hp with m | m
    ·exact .inl m
    ·rcases List.mem_cons.1 m with m | m
     ·subst m;exact .inl hc'
     ·exact .inr m)
   exact ⟨k1,k2,λq hq=>by
    rcases List.mem_cons.1 hq with m | m
    ·subst m;exact k4 _ hc'
    ·exact k3 q m,k4,k5⟩
  ·rename_i hc;have hc':r∉acc:=by simpa using hc
   split at e
   case h_2=>cases e
   case h_1 ob hob=>
    obtain ⟨k1,k2,k3,k4,k5⟩:=lO n (ob.refs++todo) (acc++[r]) ids e (by
     rw[List.nodup_append];exact ⟨h1,by simp,λa ha b hb=>by simp at hb;subst hb;exact λe=>hc' (e ▸ ha)⟩) (λq hq=>by
     rcases List.mem_append.1 hq with m | m
     ·exact h2 q m
     ·simp at m;subst m;simp[hob]) (λq hq ob' ho p hp=>by
     rcases List.mem_append.1 hq with m | m
     ·rcases h3 q m ob' ho p hp with x | x
      ·exact .inl (List.mem_append.2 (.inl x))
      ·rcases List.mem_cons.1 x with x | x
       ·subst x;exact .inl (by simp)
       ·exact .inr (List.mem_append.2 (.inr x))
     ·simp at m;subst m;rw[hob]at ho;injection ho with ho;subst ho;exact .inr (List.mem_append.2 (.inl hp)))
    exact ⟨k1,k2,λq hq=>by
     rcases List.mem_cons.1 hq with m | m
     ·subst m;exact k4 _ (by simp)
     ·exact k3 q (List.mem_append.2 (.inr m)),λq hq=>k4 q (List.mem_append.2 (.inl hq)),k5⟩
theorem rP {ids:List Id} {r:Id} (h:r∈ids):ids[idx ids r]? =some r:=by
 unfold idx;have h1:ids.findIdx (· ==r)<ids.length:=List.findIdx_lt_length_of_exists ⟨r,h,by simp⟩;have h2:=List.findIdx_getElem (w:=h1);rw[bg h1];simpa using h2
theorem vR {ids:List Id} (hn:ids.Nodup) {i:Nat} {r:Id} (h:ids[i]? =some r):idx ids r=i:=by
 have h1:=rP (List.mem_of_getElem? h);exact (List.getElem?_inj (aq.1 h1).1 hn).1 (h1.trans h.symm)
theorem vS {f:Id->Id}:∀{ids:List Id} {obs:List (Option Obj)} {s s':br},fQ s f ids obs=some s'->ids.Nodup->(∀r∈ids,(s.get r).isSome)->
  ids.length=obs.length/\(∀q,q∉ids->s'.get q=s.get q)/\∀(i:Nat) (r:Id),ids[i]? =some r->s'.get r=(match obs[i]? with | some o=>Option.map (Obj.map f) o | none=>none)
 | [],[],s,s',e,_,_=>by simp only[fQ]at e;injection e with e;subst e;simp
 | r::ids,ob::obs,s,s',e,hn,hs=>by
  simp only[fQ]at e;obtain ⟨hn1,hn2⟩:=List.nodup_cons.1 hn;obtain ⟨o,ho⟩:=Option.isSome_iff_exists.1 (hs r (by simp));obtain ⟨k1,k2,k3⟩:=vS e hn2 (λq hq=>by
   rw[bT _ (by rintro rfl;exact hn1 hq)];exact hs q (by simp[hq]))
  refine ⟨by simp[k1],λq hq=> ?_,λi q hq=> ?_⟩
  ·rw[k2 q (λm=>hq (by simp[m])),bT _ (λe=>hq (by simp[e]))]
  ·cases i with
   | zero=>
    simp at hq;subst hq;rw[k2 _ hn1,cO _ ho];simp
   | succ i=>simp at hq |-;exact k3 i q hq
 | [],_::_,_,_,e,_,_=>by simp[fQ]at e
 | _::_,[],_,_,e,_,_=>by simp[fQ]at e
section
variable {P:Program} {call:cM} {loop:cN}
mutual
theorem BR {w:World} {Z Zc:Nat->Prop} {L:Loc} {s:br} (hobj:∀r ob,s.get r=some ob->RO (aH w Z L s) r ob) (hz:∀b,Z b->Zc b):∀(x:AV) (v:Value) (x':AV),
  RV (aH w Z L s) x v->(∀r∈x.refs,∀ob,s.get r=some ob->∀b,ob.has L r b->Zc b)->snap (real call loop) s x=some x'->x'.refs=[]->∀L' g,RV ⟨w,Zc,L',g⟩ x' v
 | .emp,v,x',hv,_,e,_,L',g=>by
  simp only[snap]at e;injection e with e;subst e;simp only[RV]at hv;obtain ⟨A,h1⟩:=hv;simp only[RV,RD];exact ⟨A,0,by rw[h1];rfl,Nat.le_refl _,.inl trivial⟩
 | .arr r sz gg u,v,x',hv,hr,e,_,L',g=>by
  simp only[snap]at e;split at e
  case h_1 esz xs hg=>
    cases gg with
    | some p=>cases e
    | none=>
     simp only at e;injection e with e;subst e;simp only[RV];exact wL hz hg (hobj r _ hg) (hr r (by simp[AV.refs]) _ hg) hv
  case h_2 hnot=>
   split at e
   case h_2=>cases e
   case h_1 xs hc=>
    injection e with e;subst e;obtain ⟨A,cap,h1,h2,h3⟩:=cG hobj hv hc;simp only[RV,RD];refine ⟨A,cap,by rw[h1],h2,h3.imp id ?_⟩;rintro ⟨b,o,z,h4,h5,h6⟩;refine ⟨b,o,z,h4,?_,mH (w:=w) (w':=w) (Z:=Z) (λb hb=>⟨hz b hb,rfl⟩) rfl _ _ _ h5⟩;rcases h6 with h6 | ⟨r',z',g',u',ob',e1,e2,e3⟩
    ·exact hz b h6
    ·injection e1 with e1;subst e1;exact hr r (by simp[AV.refs]) ob' e2 b (.inl e3)
 | .agg cs,v,x',hv,hr,e,he,L',g=>by
  simp only[snap]at e;split at e
  case h_2=>cases e
  case h_1 ds hc=>
    injection e with e;subst e;simp only[RV]at hv |-;obtain ⟨vs,h1,h2⟩:=hv;exact ⟨vs,h1,lQ hobj hz cs vs ds h2 (by simpa [AV.refs]using hr) hc (by simpa [AV.refs]using he) L' g⟩
 | .undef,v,x',hv,_,e,he,L',g=>by
  simp only[snap]at e;injection e with e;subst e;simp only[RV]
 | .bare,v,x',hv,_,e,he,L',g=>by
  simp only[snap]at e;injection e with e;subst e;simpa only [RV]using hv
 | .d y,v,x',hv,_,e,he,L',g=>by
  simp only[snap]at e;injection e with e;subst e;exact kf (c:=aH w Z L s) (c':=⟨w,Zc,L',g⟩) (λb hb=>⟨hz b hb,rfl⟩) _ _ (by simp[AV.refs]) hv
 | .tup cs,v,x',hv,_,e,he,L',g=>by
  simp only[snap]at e;injection e with e;subst e;exact kf (c:=aH w Z L s) (c':=⟨w,Zc,L',g⟩) (λb hb=>⟨hz b hb,rfl⟩) _ _ (by rw[he];simp) hv
 | .nilp,v,x',hv,_,e,he,L',g=>by
  simp only[snap]at e;injection e with e;subst e;simpa only [RV]using hv
 | .ptr _ _,v,x',hv,_,e,he,L',g=>by
  simp only[snap]at e;injection e with e;subst e;simp[AV.refs]at he
 | .prow _ _ _ _,v,x',hv,_,e,he,L',g=>by
  simp only[snap]at e;injection e with e;subst e;simp[AV.refs]at he
 | .sp _ _,v,x',hv,_,e,he,L',g=>by
  simp only[snap]at e;injection e with e;subst e;exact kf (c:=aH w Z L s) (c':=⟨w,Zc,L',g⟩) (λb hb=>⟨hz b hb,rfl⟩) _ _ (by simp[AV.refs]) hv
 | .fn _ _,v,x',hv,_,e,he,L',g=>by
  simp only[snap]at e;injection e with e;subst e;exact kf (c:=aH w Z L s) (c':=⟨w,Zc,L',g⟩) (λb hb=>⟨hz b hb,rfl⟩) _ _ (by rw[he];simp) hv
theorem lQ {w:World} {Z Zc:Nat->Prop} {L:Loc} {s:br} (hobj:∀r ob,s.get r=some ob->RO (aH w Z L s) r ob) (hz:∀b,Z b->Zc b):∀(xs:List AV) (vs:List Value) (xs':List AV),
  di (aH w Z L s) xs vs->(∀r∈AV.bE xs,∀ob,s.get r=some ob->∀b,ob.has L r b->Zc b)->jh (real call loop) s xs=some xs'->AV.bE xs'=[]->∀L' g,di ⟨w,Zc,L',g⟩ xs' vs
 | [],vs,xs',hv,_,e,_,L',g=>by
  simp only[jh]at e;injection e with e;subst e;simpa only [di]using hv
 | x::xs,vs,xs',hv,hr,e,he,L',g=>by
  simp only[jh]at e;split at e
  case h_2=>cases e
  case h_1 y hc=>
   split at e
   case h_2=>cases e
   case h_1 ys hc2=>
    injection e with e;subst e;simp only[di]at hv |-;obtain ⟨v,vs',h1,h2,h3⟩:=hv;simp only[AV.bE,List.append_eq_nil_iff]at he;exact ⟨v,vs',h1,BR hobj hz x v y h2 (λr m=>hr r (by simp[AV.bE,m])) hc he.1 L' g,lQ hobj hz xs vs' ys h3 (λr m=>hr r (by simp[AV.bE,m])) hc2 he.2 L' g⟩
end
end
def iZ (P:Program) (f:FuncId):Bool:=match P.funcs[f]? with
 | some fn=>fn.body.isSome&& !(fn.name== "runtime.NumGoroutine")
 | none=>false
def iy (P:Program) (call:cM):Prop:=
 ∀f as cs c,call f as cs=some c->iZ P (wS f)=true/\∀(vs:Array Value) (w:World) (L:Loc) (Z:Nat->Prop),RS ⟨as,[[],cs]⟩ ⟨vs,[]⟩ w L Z->
  ∀Q:Ending->World->Prop,(∀v w' L' Z',RS ⟨[c.ret],[c.extra,c.pars]⟩ ⟨#[v],[]⟩ w' L' Z'->Tr 1 [[],cs] [c.extra,c.pars] w w' L L' Z Z'->Q (.returned v) w')->Calls P (wS f) vs w Q
def jy (l:List (Option Obj)) (j:Nat):Option Obj:=match l[j]? with | some o=>o | none=>none
theorem vT (A B:List (Option Obj)) (j:Nat):br.get [A,B] (0,j)=jy A j:=rfl
theorem kT (A B:List (Option Obj)) (j:Nat):br.get [A,B] (1,j)=jy B j:=rfl
theorem ze (A B:List (Option Obj)) (i j:Nat):br.get [A,B] (i+2,j)=none:=rfl
theorem Av {l:List (Option Obj)} {j:Nat} {o:Obj} (h:jy l j=some o):l[j]? =some (some o):=by
 unfold jy at h;split at h
 ·rename_i x e;subst h;exact e
 ·cases h
theorem Di {l:List (Option Obj)} {f:Obj->Obj} {j:Nat}:jy (l.map λob=>ob.map f) j=(jy l j).map f:=by
 unfold jy;rw[List.getElem?_map];cases l[j]? <;>rfl
mutual
theorem zf {p:Id->Bool} (h:∀r,p r=false):∀a:AV,a.forget p=a
 | .undef=>rfl
 | .bare=>rfl
 | .d x=>rfl
 | .agg as=>by simp only[AV.forget,cW h as]
 | .tup as=>by simp only[AV.forget,cW h as]
 | .nilp=>rfl
 | .emp=>rfl
 | .ptr r o=>by simp[AV.forget,h]
 | .prow r s i o=>by simp[AV.forget,h]
 | .sp cs o=>rfl
 | .arr r s g u=>by simp[AV.forget,h]
 | .fn g as=>by simp only[AV.forget,cW h as]
theorem cW {p:Id->Bool} (h:∀r,p r=false):∀as:List AV,AV.aM p as=as
 | []=>rfl
 | a::as=>by simp only[AV.aM,zf h a,cW h as]
end
theorem mK {p:Id->Bool} (h:∀r,p r=false):∀o:Obj,o.forget p=o:=by
 intro o;cases o with
 | box cs=>simp[Obj.forget,cW h]
 | hrows sz xs i off q e=>simp[Obj.forget,h]
 | _=>rfl
mutual
theorem oR {f g:Id->Id}:∀(a:AV),(∀r∈a.refs,f r=g r)->a.map f=a.map g
 | .undef,_=>rfl
 | .bare,_=>rfl
 | .d _,_=>rfl
 | .nilp,_=>rfl
 | .emp,_=>rfl
 | .sp _ _,_=>rfl
 | .agg cs,h=>by simp only[AV.map];rw[ic cs (by simpa [AV.refs]using h)]
 | .tup cs,h=>by simp only[AV.map];rw[ic cs (by simpa [AV.refs]using h)]
 | .fn _ cs,h=>by simp only[AV.map];rw[ic cs (by simpa [AV.refs]using h)]
 | .ptr r _,h=>by simp only[AV.map];rw[h r (by simp[AV.refs])]
 | .prow r _ _ _,h=>by simp only[AV.map];rw[h r (by simp[AV.refs])]
 | .arr r _ _ _,h=>by simp only[AV.map];rw[h r (by simp[AV.refs])]
theorem ic {f g:Id->Id}:∀(as:List AV),(∀r∈AV.bE as,f r=g r)->AV.nu f as=AV.nu g as
 | [],_=>rfl
 | a::as,h=>by
  simp only[AV.nu];rw[oR a (λr hr=>h r (by simp[AV.bE,hr])),ic as (λr hr=>h r (by simp[AV.bE,hr]))]
end
theorem mL {p:Id->Bool} (h:∀r,p r=false) (s:br):s.forget p=s:=by
 unfold br.forget;have h1:∀o:Obj,o.forget p=o:=by
  intro o;cases o with
  | box cs=>simp[Obj.forget,cW h]
  | hrows sz xs i off q e=>simp[Obj.forget,h]
  | _=>rfl
 have h2:(λo:Option Obj=>o.map (·.forget p))=id:=by
  funext o;cases o<;>simp[h1]
 have h3:(λl:List (Option Obj)=>l.map λo=>o.map (·.forget p))=id:=by
  funext l;rw[h2];simp
 rw[h3];simp
theorem BS {l:List (Option Obj)} (h:fX l=true):∀j,j<l.length->(jy l j).isSome:=by
 induction l with
 | nil=>intro j hj;simp at hj
 | cons o l ih=>
  intro j hj;cases o with
  | none=>simp[fX]at h
  | some o=>
   cases j with
   | zero=>rfl
   | succ j=>exact ih (by simpa [fX]using h) j (by simpa using hj)
section
variable {P:Program} {call:cM} {loop:cN}
variable {s:St} {a:Act} {w:World} {L:Loc} {Z:Nat->Prop}
def Aw (ids:List Id) (L:Loc):Loc:=⟨λr=>if r.1=1 then (match ids[r.2]? with | some q=>L q | none=>none)else none,λr=>match ids[r.2]? with | some q=>L.nest q | none=>λ_=>False⟩
def BT (s:br) (ids:List Id):List (Option Obj):=ids.map λr=>(s.get r).map (·.map λr=>(1,idx ids r))
theorem zh {s:br} {ids:List Id} (j:Nat):jy (BT s ids) j=match ids[j]? with | some q=>(s.get q).map (·.map λr=>(1,idx ids r)) | none=>none:=by
 unfold BT jy;rw[List.getElem?_map];cases ids[j]? <;>rfl
theorem zi {s:br} {ids:List Id} {r:Id} {ob:Obj} (h:br.get [[],BT s ids] r=some ob):∃j q o,r=(1,j)/\ids[j]? =some q/\s.get q=some o/\ob=o.map λr=>(1,idx ids r):=by
 obtain ⟨i,j⟩:=r
 match i with
 | 0=>rw[vT]at h;simp[jy]at h
 | 1=>
  rw[kT,zh]at h;split at h
  ·rename_i q hq;cases ho:s.get q with
   | none=>simp[ho]at h
   | some o=>simp[ho]at h;exact ⟨j,q,o,rfl,hq,ho,h.symm⟩
  ·cases h
 | i+2=>rw[ze]at h;cases h
theorem BU {ids:List Id} {L:Loc} {j:Nat} {q:Id} {o:Obj} {f:Id->Id} {b:Nat} (h3:ids[j]? =some q):(o.map f).has (Aw ids L) (1,j) b↔o.has L q b:=by
 unfold Obj.has;simp[Aw,h3,Obj.vL]
theorem rQ {s:br} {ids:List Id} {L:Loc} {b:Nat} (h:aU [[],BT s ids] (Aw ids L) b):∃q∈ids,∃o,s.get q=some o/\o.has L q b:=by
 obtain ⟨r,ob,h1,h2⟩:=h;obtain ⟨j,q,o,rfl,h3,h4,rfl⟩:=zi h1;exact ⟨q,List.mem_of_getElem? h3,o,h4,(BU h3).1 h2⟩
theorem Gk {w:World} {Z:Nat->Prop} {s:br} {ids:List Id} {L:Loc} {r:Id} (hr:r∈ids):Md (aH w Z L s) ⟨w,Z,Aw ids L,br.get [[],BT s ids]⟩ (λr=>(1,idx ids r)) r:=by
 have h:=rP hr;refine ⟨?_,λk=> ?_,λsz xs k=> ?_⟩
 ·simp[Aw,h]
 ·show (br.get [[],BT s ids] (1,idx ids r)).isSome;rw[kT,zh,h];simpa using k
 ·show (br.get [[],BT s ids] (1,idx ids r)).bind Obj.rw=_;rw[kT,zh,h];have k':(s.get r).bind Obj.rw=some (sz,xs):=k;cases ho:s.get r with
  | none=>simp[ho]at k'
  | some o=>simp[ho]at k';simp[ho,Obj.l_,k']
theorem Jc (h:RS s a w L Z) {ids:List Id} (hn:ids.Nodup) (hc:∀r∈ids,∀ob,s.sto.get r=some ob->∀q∈ob.refs,q∈ids) {as:List AV} {vs:List Value} (hv:di (aH w Z L s.sto) as vs) (has:∀r∈AV.bE as,r∈ids):
  RS ⟨AV.nu (λr=>(1,idx ids r)) as,[[],BT s.sto ids]⟩ ⟨vs.toArray,[]⟩ w (Aw ids L) Z where
 defers:=rfl
 env:=nB (ob:=s.sto.get) as _ (λr hr=>Gk (has r hr)) (by simpa using hv)
 obj r ob hr:=by
  obtain ⟨j,q,o,rfl,h3,h4,rfl⟩:=zi hr;have hq:q∈ids:=List.mem_of_getElem? h3;exact zb (g:=s.sto.get) (h.obj q o h4) (by simp[Aw,h3]) (λ_=>by simp[Aw,h3]) (λp hp=>Gk (hc q hq o h4 p hp))
 injH r r' b ob ob' ho ho' hb hb':=by
  obtain ⟨j,q,o,rfl,h3,h4,rfl⟩:=zi ho;obtain ⟨j',q',o',rfl,h3',h4',rfl⟩:=zi ho';have:=h.injH q q' b o o' h4 h4' ((BU h3).1 hb) ((BU h3').1 hb');subst this;have:=(vR hn h3).symm.trans (vR hn h3');rw[this]
 dis b hb:=⟨(h.dis b hb).1,λhl=>by
  obtain ⟨q,_,o,h2,h3⟩:=rQ hl;exact (h.dis b hb).2 ⟨q,o,h2,h3⟩⟩
end
section
section
variable {P:Program} {call:cM} {loop:cN}
variable {s:St} {a:Act} {w w':World} {L L':Loc} {Z Z':Nat->Prop}
theorem kg {A B:List (Option Obj)} {r:Id} {ob:Obj} (h:br.get [A,B] r=some ob):(r.1=0/\jy A r.2=some ob)\/(r.1=1/\jy B r.2=some ob):=by
 obtain ⟨i,j⟩:=r
 match i with
 | 0=>exact .inl ⟨rfl,h⟩
 | 1=>exact .inr ⟨rfl,h⟩
 | i+2=>rw[ze]at h;cases h
theorem rR {o:Obj} {L L':Loc} {q r:Id} {b:Nat} (h1:L q=L' r) (h2:L.nest q=L'.nest r):o.has L q b↔o.has L' r b:=by
 unfold Obj.has;rw[h1,h2]
theorem uL {o:Obj} {L:Loc} {q:Id} {b:Nat} {f:Id->Id}:(o.map f).has L q b↔o.has L q b:=by
 unfold Obj.has;rw[Obj.vL]
theorem pK {ids:List Id} {ret:AV} {X pars:List (Option Obj)} {v:Value} {np tt:Nat} {sto fin:br} {env:List AV} (h:RS s a w L Z) (hn:ids.Nodup) (hs:∀r∈ids,(s.sto.get r).isSome)
  (k:RS ⟨[ret],[X,pars]⟩ ⟨#[v],[]⟩ w' L' Z') (t:Tr 1 [[],BT s.sto ids] [X,pars] w w' (Aw ids L) L' Z Z') (hX:X≠[]->tt<np)
  (back:Id->Id) (hback:∀r,back r=if r.1=1 then ids.getD r.2 (0,0)else (tt,r.2))
  (hlen:ids.length=pars.length) (hsto1:∀q,q∉ids->sto.get q=s.sto.get q) (hsto2:∀(i:Nat) (q:Id),ids[i]? =some q->sto.get q=(jy pars i).map (·.map back))
  (dead:Id->Bool) (hdead:∀r,dead r=(ids.contains r&&(sto.get r).isNone)) (henv:env=AV.aM dead s.env)
  (hfin:∀q,fin.get q=if X≠[]/\q.1=tt then (jy X q.2).map (·.map back)else (sto.get q).map (·.forget dead)) (hfree:X≠[]->∀q:Id,q.1=tt->sto.get q=none):
  ∃L'',RS ⟨env,fin⟩ a w' L'' Z'/\Tr np s.sto fin w w' L L'' Z Z'/\RV (aH w' Z' L'' fin) (ret.map back) v:=by
 have hpar:∀(i:Nat) (q:Id),ids[i]? =some q->L' (1,i)=L q:=λi q hi=>by
  rw[t.par (1,i) (Nat.le_refl _)];simp[Aw,hi]
 have hinlive:∀b,aU [[],BT s.sto ids] (Aw ids L) b->aU s.sto L b:=λb hl=>by
  obtain ⟨q,_,o,h2,h3⟩:=rQ hl;exact ⟨q,o,h2,h3⟩
 have hlt:∀q o b,s.sto.get q=some o->o.has L q b->b<w.heap.size:=λq o b hq hb=>h.fq hq hb
 have hout:∀q o b,q∉ids->s.sto.get q=some o->o.has L q b->¬aU [[],BT s.sto ids] (Aw ids L) b:=λq o b hq hqs hb hl=>by
  obtain ⟨p,hp,o',h2,h3⟩:=rQ hl;exact hq ((h.injH q p b o o' hqs h2 hb h3) ▸ hp)
 have hheap:∀q o b,q∉ids->s.sto.get q=some o->o.has L q b->w'.heap[b]? =w.heap[b]? :=λq o b hq hqs hb=>t.keep b (hlt q o b hqs hb) (hout q o b hq hqs hb)
 have hzle:jV w w' Z Z':=λb hb=>⟨t.zin b hb,t.keep b (h.dis b hb).1 λhl=>(h.dis b hb).2 (hinlive b hl)⟩
 generalize hL2:(⟨λq:Id=>if X≠[]/\q.1=tt then L' (0,q.2)else L q,λq:Id=>if X≠[]/\q.1=tt then L'.nest (0,q.2)else if q∈ids then L'.nest (1,idx ids q)else L.nest q⟩:Loc)=L2;have hL2a:∀q:Id,X≠[]->q.1=tt->L2 q=L' (0,q.2):=λq h1 h2=>by rw[<-hL2];simp[h1,h2]
 have hL2b:∀q:Id,¬(X≠[]/\q.1=tt)->L2 q=L q:=λq h1=>by rw[<-hL2];simp only;rw[if_neg h1]
 have hN2a:∀q:Id,X≠[]->q.1=tt->L2.nest q=L'.nest (0,q.2):=λq h1 h2=>by rw[<-hL2];simp[h1,h2]
 have hN2b:∀q:Id,¬(X≠[]/\q.1=tt)->q∉ids->L2.nest q=L.nest q:=λq h1 h2=>by rw[<-hL2];simp only;rw[if_neg h1,if_neg h2]
 have hN2c:∀(q:Id) (i:Nat),¬(X≠[]/\q.1=tt)->ids[i]? =some q->L2.nest q=L'.nest (1,i):=λq i h1 h2=>by rw[<-hL2];simp only;rw[if_neg h1,if_pos (List.mem_of_getElem? h2),vR hn h2]
 have hnotslot:∀q,(sto.get q).isSome->¬(X≠[]/\q.1=tt):=λq hq ⟨h1,h2⟩=>by rw[hfree h1 q h2]at hq;cases hq
 have hmem:∀q∈ids,∃i:Nat,ids[i]? =some q:=λq hq=>⟨_,rP hq⟩
 have hren:∀r,(br.get [X,pars] r).isSome->Md ⟨w',Z',L',br.get [X,pars]⟩ (aH w' Z' L2 fin) back r:=by
  intro r hr;obtain ⟨o,ho⟩:=Option.isSome_iff_exists.1 hr;rcases kg ho with ⟨h1,h2⟩ | ⟨h1,h2⟩
  ·have hXne:X≠[]:=by rintro rfl;simp[jy]at h2
   have hb:back r=(tt,r.2):=by rw[hback,h1];simp
   have hg:fin.get (tt,r.2)=some (o.map back):=by rw[hfin,if_pos ⟨hXne,rfl⟩,h2];rfl
   refine ⟨?_,λ_=> ?_,λsz xs e=> ?_⟩
   ·show L2 (back r)=L' r;rw[hb,hL2a _ hXne rfl];congr 1;exact Prod.ext h1.symm rfl
   ·show (fin.get (back r)).isSome;rw[hb,hg];rfl
   ·show (fin.get (back r)).bind Obj.rw=_;have e':(br.get [X,pars] r).bind Obj.rw=some (sz,xs):=e;rw[ho]at e';rw[hb,hg];simpa [Obj.l_]using e'
  ·have h3:=Av h2;have h4:r.2<ids.length:=by rw[hlen];exact (aq.1 h3).1
   obtain ⟨q,hq⟩:∃q,ids[r.2]? =some q:=⟨_,bg h4⟩
   have hb:back r=q:=by rw[hback,if_pos h1];simp[List.getD,hq]
   have hsg:sto.get q=some (o.map back):=by rw[hsto2 _ _ hq,h2];rfl
   have hns:=hnotslot q (by simp[hsg]);have hg:fin.get q=some ((o.map back).forget dead):=by rw[hfin,if_neg hns,hsg];rfl
   refine ⟨?_,λ_=> ?_,λsz xs e=> ?_⟩
   ·show L2 (back r)=L' r;rw[hb,hL2b _ hns,<-hpar _ _ hq];congr 1;exact Prod.ext h1.symm rfl
   ·show (fin.get (back r)).isSome;rw[hb,hg];rfl
   ·show (fin.get (back r)).bind Obj.rw=_;have e':(br.get [X,pars] r).bind Obj.rw=some (sz,xs):=e;rw[ho]at e';rw[hb,hg];simpa [Obj.l_,Obj.kB]using e'
 have hfrom:∀q ob,fin.get q=some ob->(∃r o,br.get [X,pars] r=some o/\back r=q/\(L2 q=L' r/\L2.nest q=L'.nest r)/\(ob=o.map back\/ob=(o.map back).forget dead))\/
   (q∉ids/\¬(X≠[]/\q.1=tt)/\(L2 q=L q/\L2.nest q=L.nest q)/\∃o,s.sto.get q=some o/\ob=o.forget dead):=by
  intro q ob hq;rw[hfin]at hq;by_cases hc:X≠[]/\q.1=tt
  ·rw[if_pos hc]at hq;left;cases ho:jy X q.2 with
   | none=>simp[ho]at hq
   | some o=>
    simp[ho]at hq;refine ⟨(0,q.2),o,ho,?_,⟨hL2a q hc.1 hc.2,hN2a q hc.1 hc.2⟩,.inl hq.symm⟩;rw[hback];simp[<-hc.2]
  ·rw[if_neg hc]at hq;by_cases hm:q∈ids
   ·left;obtain ⟨i,hi⟩:=hmem q hm;rw[hsto2 i q hi]at hq;cases ho:jy pars i with
    | none=>simp[ho]at hq
    | some o=>
     simp[ho]at hq;refine ⟨(1,i),o,ho,?_,⟨?_,hN2c q i hc hi⟩,.inr hq.symm⟩
     ·rw[hback];simp[hi]
     ·rw[hL2b q hc,hpar i q hi]
   ·right;rw[hsto1 q hm]at hq;cases ho:s.sto.get q with
    | none=>simp[ho]at hq
    | some o=>simp[ho]at hq;exact ⟨hm,hc,⟨hL2b q hc,hN2b q hc hm⟩,o,rfl,hq.symm⟩
 have hsame:∀r,(s.sto.get r).isSome->dead r=false->Same (aH w Z L s.sto) (aH w' Z' L2 fin) r:=by
  intro r hr hd;by_cases hm:r∈ids
  ·obtain ⟨i,hi⟩:=hmem r hm;have hsg:(sto.get r).isSome:=by
    rw[hdead]at hd;have hc:ids.contains r=true:=by simpa using hm
    rw[hc,Bool.true_and]at hd;cases hx:sto.get r with
    | none=>simp[hx]at hd
    | some _=>rfl
   have hns:=hnotslot r hsg;rw[hsto2 i r hi]at hsg;have hps:(br.get [X,pars] (1,i)).isSome:=by rw[kT];simpa using hsg
   obtain ⟨_,p1,p2,p3,p4⟩:=t.psame (1,i) (Nat.le_refl _) hps;have hing:br.get [[],BT s.sto ids] (1,i)=(s.sto.get r).map (·.map λr=>(1,idx ids r)):=by rw[kT,zh,hi]
   refine ⟨hL2b r hns,λ_=> ?_,λsz xs e=> ?_,λb hb hs'=> ?_⟩
   ·show (fin.get r).isSome;rw[hfin,if_neg hns,hsto2 i r hi];simpa using hsg
   ·have e':(s.sto.get r).bind Obj.rw=some (sz,xs):=e;obtain ⟨ys,y1,y2⟩:=p3 sz xs (by
     show (br.get [[],BT s.sto ids] (1,i)).bind Obj.rw=_;rw[hing];cases ho:s.sto.get r with
     | none=>simp[ho]at e'
     | some o=>simp[ho]at e';simp[Obj.l_,e'])
    have y1':(jy pars i).bind Obj.rw=some (sz,ys):=y1;refine ⟨ys,?_,y2⟩;show (fin.get r).bind Obj.rw=_;rw[hfin,if_neg hns,hsto2 i r hi];cases ho:jy pars i with
    | none=>simp[ho]at y1'
    | some o=>simp[ho]at y1';simp[Obj.l_,Obj.kB,y1']
   ·exact p4 b (by show Aw ids L (1,i)=_;simpa [Aw,hi]using hb) (by show (br.get [[],BT s.sto ids] (1,i)).isSome;rw[hing];simpa using hr)
  ·have hsg:(sto.get r).isSome:=by rw[hsto1 r hm];exact hr
   have hns:=hnotslot r hsg;refine ⟨hL2b r hns,λ_=> ?_,λsz xs e=>⟨xs,?_,rfl⟩,λb hb hs'=>by
    obtain ⟨o,ho⟩:=Option.isSome_iff_exists.1 hr;exact dm (hheap r o b hm ho (.inl hb))⟩
   ·show (fin.get r).isSome;rw[hfin,if_neg hns];simpa using hsg
   ·have e':(s.sto.get r).bind Obj.rw=some (sz,xs):=e;show (fin.get r).bind Obj.rw=_;rw[hfin,if_neg hns,hsto1 r hm];cases ho:s.sto.get r with
    | none=>simp[ho]at e'
    | some o=>simp[ho]at e';simp[Obj.kB,e']
 have houtlive:∀b,aU [X,pars] L' b->(∃q∈ids,∃o,s.sto.get q=some o/\o.has L q b)\/w.heap.size<=b:=λb hl=>(t.lives b hl).imp rQ id
 have hhas1:∀{q r:Id} {o ob:Obj} {b:Nat},L2 q=L' r/\L2.nest q=L'.nest r->(ob=o.map back\/ob=(o.map back).forget dead)->ob.has L2 q b->o.has L' r b:=by
  intro q r o ob b e1 e2 hb;refine (rR e1.1 e1.2).1 (uL (f:=back) |>.1 ?_);rcases e2 with rfl | rfl
  ·exact hb
  ·exact Obj.dn hb
 have hhas2:∀{q:Id} {o ob:Obj} {b:Nat},L2 q=L q/\L2.nest q=L.nest q->ob=o.forget dead->ob.has L2 q b->o.has L q b:=by
  intro q o ob b e1 e2 hb;subst e2;exact (rR e1.1 e1.2).1 (Obj.dn hb)
 have hlives:∀b,aU fin L2 b->aU [X,pars] L' b\/∃q,q∉ids/\∃o,s.sto.get q=some o/\o.has L q b:=by
  intro b hl;obtain ⟨q,ob,h1,h2⟩:=hl;rcases hfrom q ob h1 with ⟨r,o,g1,g2,g3,g4⟩ | ⟨g1,_,g2,o,g3,g4⟩
  ·exact .inl ⟨r,o,g1,hhas1 g3 g4 h2⟩
  ·exact .inr ⟨q,g1,o,g3,hhas2 g2 g4 h2⟩
 refine ⟨L2,⟨h.defers,?_,?_,?_,?_⟩,⟨t.os,t.tape,t.output,t.size,?_,?_,t.zin,?_,?_,?_⟩,?_⟩
 ·rw[henv];refine cu (c:=aH w Z L s.sto) (c':=aH w' Z' L2 fin) hzle _ _ (λq hq=> ?_) (fo (p:=dead) s.env _ h.env);exact hsame q (dU _ _ h.env q (fG s.env q hq)) (dJ s.env q hq)
 ·intro q ob hq;rcases hfrom q ob hq with ⟨r,o,g1,g2,g3,g4⟩ | ⟨g1,gc,g2,o,g3,g4⟩
  ·have hro:=k.obj r o g1;have:=zb (w:=w') (Z:=Z') (L:=L') (L':=L2) (g:=br.get [X,pars]) (g':=fin.get) (f:=back) (r:=r) (r':=q) hro g3.1 (λ_=>g3.2) (λp hp=>hren p (ko hro p hp));rcases g4 with g4 | g4
   ·rw[g4];exact this
   ·rw[g4];exact kC this
  ·rw[g4];have hro:=h.obj q o g3;refine i9 (c:=aH w Z L s.sto) (c':=aH w' Z' L2 fin) hzle g2.1 g2.2 (λb hb=>hheap q o b g1 g3 (Obj.dn hb)) (λp hp=> ?_) (kC hro);exact hsame p (ko (kC (p:=dead) hro) p hp) (Obj.iF o p hp)
 ·intro q q' b ob ob' ho ho' hb hb';have cross:∀r o p o',br.get [X,pars] r=some o->o.has L' r b->p∉ids->s.sto.get p=some o'->o'.has L p b->False:=by
   intro r o p o' g1 g2 g3 g4 g5;rcases houtlive b ⟨r,o,g1,g2⟩with ⟨x,x1,o2,x2,x3⟩ | x
   ·exact g3 ((h.injH p x b o' o2 g4 x2 g5 x3) ▸ x1)
   ·have:=hlt p o' b g4 g5;omega
  rcases hfrom q ob ho with ⟨r,o,g1,g2,g3,g4⟩ | ⟨g1,_,g2,o,g3,g4⟩
  ·rcases hfrom q' ob' ho' with ⟨r',o',g1',g2',g3',g4'⟩ | ⟨g1',_,g2',o',g3',g4'⟩
   ·have:=k.injH r r' b o o' g1 g1' (hhas1 g3 g4 hb) (hhas1 g3' g4' hb');rw[<-g2,<-g2',this]
   ·exact (cross r o q' o' g1 (hhas1 g3 g4 hb) g1' g3' (hhas2 g2' g4' hb')).elim
  ·rcases hfrom q' ob' ho' with ⟨r',o',g1',g2',g3',g4'⟩ | ⟨g1',_,g2',o',g3',g4'⟩
   ·exact (cross r' o' q o g1' (hhas1 g3' g4' hb') g1 g3 (hhas2 g2 g4 hb)).elim
   ·exact h.injH q q' b o o' g3 g3' (hhas2 g2 g4 hb) (hhas2 g2' g4' hb')
 ·intro b hb;refine ⟨(k.dis b hb).1,λhl=> ?_⟩;rcases hlives b hl with g | ⟨q,g1,o,g2,g3⟩
  ·exact (k.dis b hb).2 g
  ·rcases t.zout b hb with x | x | x
   ·exact (h.dis b x).2 ⟨q,o,g2,g3⟩
   ·have:=hlt q o b g2 g3;omega
   ·exact hout q o b g1 g2 g3 x
 ·intro b hb hnl;exact t.keep b hb λhl=>hnl (hinlive b hl)
 ·intro b hl;rcases hlives b hl with g | ⟨q,g1,o,g2,g3⟩
  ·exact (t.lives b g).imp (hinlive b) id
  ·exact .inl ⟨q,o,g2,g3⟩
 ·intro b hb;exact (t.zout b hb).imp id λx=>x.imp id (hinlive b)
 ·intro r hr;exact hL2b r λ⟨h1,h2⟩=>by have:=hX h1;omega
 ·intro r hr hs';obtain ⟨ob,ho⟩:=Option.isSome_iff_exists.1 hs';have hslot:¬(X≠[]/\r.1=tt):=λ⟨h1,h2⟩=>by have:=hX h1;omega
  have hsg:(sto.get r).isSome:=by rw[hfin,if_neg hslot]at ho;cases hx:sto.get r with
   | none=>simp[hx]at ho
   | some _=>rfl
  have hdd:dead r=false:=by
   rw[hdead];cases hx:sto.get r with
   | none=>simp[hx]at hsg
   | some _=>simp
  have hss:(s.sto.get r).isSome:=by
   by_cases hm:r∈ids
   ·exact hs r hm
   ·rw[hsto1 r hm]at hsg;exact hsg
  exact ⟨hss,hsame r hss hdd⟩
 ·have h1:=k.env;simp only[di]at h1;obtain ⟨v',vs',e1,h2,e2⟩:=h1;subst e2;have:v'=v:=by have:[v]=[v']:=e1;injection this with this;exact this.symm
  subst this;exact za (w:=w') (Z:=Z') (L:=L') (ob:=br.get [X,pars]) ret _ (λr hr=>hren r (uM _ _ h2 r hr)) h2
end
end
end Go.Vi
