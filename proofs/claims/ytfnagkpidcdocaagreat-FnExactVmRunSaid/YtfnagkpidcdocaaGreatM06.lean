import Derived.Test.YtfnagkpidcdocaaGreatM05
set_option linter.all false
namespace Go.Vi
open Go Go.RowKit
section
variable {P:Program} {call:FuncId->List AV->List (Option Obj)->Option bk} {loop:Nat->St->Option (Out×St)}
variable {s:St} {a:Act} {w:World} {L:Loc} {Z:Nat->Prop}
theorem Az:∀{xs:List D} {bs:List UInt8},lT xs=some bs->∃ns:List Int,xs=ns.map (fun n=>D.int .u8 n)/\bs=ns.map fun n=>UInt8.ofNat n.toNat
 | [],bs,e=>by simp only [lT]at e;injection e with e;subst e;exact ⟨[],rfl,rfl⟩
 | .int .u8 n::l,bs,e=>by
  simp only [lT]at e;split at e
  ·rename_i bs' e2;injection e with e;subst e;obtain ⟨ns,h1,h2⟩:=Az e2;exact ⟨n::ns,by simp [h1],by simp [h2]⟩
  ·cases e
theorem tC (np:Nat) (h:RS s a w L Z) {o:Oper} {t t' e:TypeId} {x:Operand} {x':VX} (ho:o.op= .convert t t' x) (hx:cN x x'=true) {A:AV} {xs:List D} {u:ByteArray}
  (hs:P.underlying t=some (.slice e)) (he:P.underlying e=some (.int .u8)) (hd:P.underlying t'=some .string)
  (e1:ev s.env x'=some A) (e2:content (real call loop) s.sto A=some xs) (e3:(real call loop).ofBytes xs=some u):aX P np o s a w L Z (.d (.str u)) s:=by
 have h1:=aL h hx e1;obtain ⟨B,cap,b1,b2,b3⟩:=cG h.obj h1 e2;simp only [real,aK.ofBytes,Option.map_eq_some_iff]at e3;obtain ⟨bs,e4,e5⟩:=e3;obtain ⟨ns,n1,n2⟩:=Az e4;refine aX.pure h (dX (m:=convert t t' (a.eval x)) (by unfold execOp;rw [ho]) (u:= .string u) ?_) (by simp only [RV,RD]);rw [b1];have hu:u=strOfNums ns:=by rw [<-e5,n2];rfl
 by_cases hne:xs=[]
 ·have hn:ns=[]:=by rw [hne]at n1;simpa using n1.symm
  have hlen:xs.length=0:=by rw [hne];rfl
  rw [hlen,hu,hn];cases B with
  | none=>exact run_convert_bytes_nil w t e hs he 0 cap t' hd
  | some ad=>exact run_convert_bytes_back w t t' e ad cap [] hs he hd (fun j hj=>by simp at hj)
 ·obtain ⟨b,off,sz,c1,c2,_⟩:=b3.resolve_left hne;subst c1;rw [hu];have hlen:ns.length=xs.length:=by rw [n1];simp
  refine run_convert_bytes_arg w t e hs he b off xs.length cap ns hlen (fun i hi=> ?_) t' hd;have hi':i<ns.length:=by omega
  obtain ⟨cs,d1,d2,d3⟩:=eK.1 c2 i (D.int .u8 ns[i]) (by rw [n1];simp [aN hi']);simp only [RD]at d2;subst d2;have hsz:sz=1:=by simpa using d1.symm
  subst hsz;have:=d3 0 _ rfl;simp only [Nat.mul_one,Nat.add_zero]at this;rw [this];simp [List.getD,aN hi']
theorem jf {t e:TypeId} {i:TypeInfo} (hu:P.underlying t=some (.slice e)) (hi:P.info? e=some i) {A:Option Addr} {n cap:Nat} {lo hi':Option Value} {l h:Int}
  (hlo:(lo=none/\l=0)\/∃k,lo=some (.int k l)) (hhi:(hi'=none/\h=n/\n<=cap)\/∃k,hi'=some (.int k h)) (h0:0<=l) (h1:l<=h) (h2:h<=cap):
  (Instr.slice t (.slice A n cap) lo hi' none).run P w= .ok (sliced A l.toNat h.toNat cap i.size) w:=by
 have he:P.elem t=e:=by simp [Program.elem,hu]
 have hu':P.underlying t=some (.slice (P.elem t)):=by rw [he];exact hu
 have hsz:(sizeOf (P.elem t)).run P w= .ok i.size w:=by rw [he];simp [sizeOf,typeInfo,hi]
 rcases hlo with ⟨rfl,rfl⟩ | ⟨kl,rfl⟩
 ·rcases hhi with ⟨rfl,rfl,hn⟩ | ⟨kh,rfl⟩
  ·rw [run_slice_all w t A n cap hu',hsz];simp [Result.andThen]
  ·rw [run_slice_h w t A n cap hu' kh h h1 h2,hsz];simp [Result.andThen]
 ·rcases hhi with ⟨rfl,rfl,hn⟩ | ⟨kh,rfl⟩
  ·rw [run_slice_l w t A n cap hu' kl l h0 h1,hsz];simp [Result.andThen]
  ·rw [run_slice_lh w t A n cap hu' kl kh l h h0 h1 h2,hsz];simp [Result.andThen]
theorem lJ (
      h:RS s a w L Z) {x:Option Operand} {x':Option VX} (hx:wY x x'=true) {y:Option AV} {n:Option Int} (e1:Dc s.env x'=some y) (e2:j9 y=some n):
  (x.map a.eval=none/\n=none)\/∃k m,n=some m/\x.map a.eval=some (.int k m):=by
 unfold wY at hx;split at hx
 ·simp only [Dc]at e1;injection e1 with e1;subst e1;simp only [j9]at e2;injection e2 with e2;subst e2;exact .inl ⟨rfl,rfl⟩
 ·simp only [Dc]at e1;split at e1
  ·rename_i u e3;injection e1 with e1;subst e1;have h1:=aL h hx e3;simp only [j9]at e2;split at e2
   ·rename_i m e4;injection e2 with e2;subst e2;cases u with
    | d y=>
     cases y with
     | int k q=>
      simp only [asInt]at e4;injection e4 with e4;subst e4;simp only [RV,RD,List.cons.injEq,and_true]at h1;exact .inr ⟨k,q,rfl,by simp [h1]⟩
     | _=>simp [asInt]at e4
    | _=>simp [asInt]at e4
   ·cases e2
  ·cases e1
 ·cases hx
theorem AA {xs ys:List D} {x n:Int} (e:(real call loop).sub xs x n=some ys):0<=x/\0<=n/\x+n<=xs.length/\ys=(xs.drop x.toNat).take n.toNat:=by
 simp only [real,aK.sub,zp]at e;split at e
 ·rename_i h;injection e with e;exact ⟨h.1,h.2.1,h.2.2,e.symm⟩
 ·cases e
theorem wR (np:Nat) (h:RS s a w L Z) {o:Oper} {t:TypeId} {x:Operand} {lo hi mx:Option Operand} {x':VX} {lo' hi':Option VX} (ho:o.op= .slice t x lo hi mx) (hx:cN x x'=true)
  (hlo:wY lo lo'=true) (hhi:wY hi hi'=true) (hmx:mx=none) (ht:P.underlying t=some .string) {u v:ByteArray} {y1 y2:Option AV} {l h':Option Int}
  (e1:ev s.env x'=some (.d (.str u))) (e2:Dc s.env lo'=some y1) (e3:Dc s.env hi'=some y2) (e4:j9 y1=some l) (e5:j9 y2=some h')
  (e:(real call loop).I0 u (l.getD 0) (h'.getD ((real call loop).sLen u))=some v):aX P np o s a w L Z (.d (.str v)) s:=by
 have h1:=aL h hx e1;simp only [RV,RD,List.cons.injEq,and_true]at h1;have k1:=lJ h hlo e2 e4;have k2:=lJ h hhi e3 e5;simp only [real,aK.I0,aK.sLen]at e;split at e
 case isFalse=>cases e
 case isTrue hc=>
  injection e with e;subst hmx;refine aX.pure h (dX (m:=Instr.sliceAt t (a.eval x) (lo.map a.eval) (hi.map a.eval) none) (by unfold execOp;rw [ho];rfl) (u:= .string v) ?_) (by simp only [RV,RD]);rw [run_sliceAt_string w t _ _ _ _ ht,h1];obtain ⟨c1,c2,c3⟩:=hc;rcases k1 with ⟨q1,q2⟩ | ⟨kl,ml,q2,q1⟩
  ·rcases k2 with ⟨q3,q4⟩ | ⟨kh,mh,q4,q3⟩
   ·subst q2;subst q4;simp only [Option.getD_none]at c1 c2 c3 e;simp [Instr.slice,run_underlying ht,Instr.sliceBounds,q1,q3];simpa using e
   ·subst q2;subst q4;simp only [Option.getD_none,Option.getD_some]at c1 c2 c3 e;simp [Instr.slice,run_underlying ht,Instr.sliceBounds,q1,q3,run_sliceBound,c2,c3];simpa using e
  ·rcases k2 with ⟨q3,q4⟩ | ⟨kh,mh,q4,q3⟩
   ·subst q2;subst q4;simp only [Option.getD_none,Option.getD_some]at c1 c2 c3 e;simp [Instr.slice,run_underlying ht,Instr.sliceBounds,q1,q3,run_sliceBound,c1,c2,c3];simpa using e
   ·subst q2;subst q4;simp only [Option.getD_some]at c1 c2 c3 e;have em:(mh.toNat:Int)=mh:=Int.toNat_of_nonneg (by omega);simp [Instr.slice,run_underlying ht,Instr.sliceBounds,q1,q3,run_sliceBound,c1,c2,c3,em,(by omega:0<=mh)];simpa using e
theorem BX (
      np:Nat) (h:RS s a w L Z) {o:Oper} {t e:TypeId} {i:TypeInfo} {x:Operand} {lo hi mx:Option Operand} {x':VX} {lo' hi' mx':Option VX} (ho:o.op= .slice t x lo hi mx) (hx:cN x x'=true)
  (hlo:wY lo lo'=true) (hhi:wY hi hi'=true) (hmx:wY mx mx'=true) (hu:P.underlying t=some (.slice e)) (hi0:P.info? e=some i) {A v:AV} {y1 y2 y3:Option AV} {l h' m:Option Int}
  (e1:ev s.env x'=some A) (e2:Dc s.env lo'=some y1) (e3:Dc s.env hi'=some y2) (e6:Dc s.env mx'=some y3) (e4:j9 y1=some l) (e5:j9 y2=some h') (e7:j9 y3=some m)
  (es:sliceAt (real call loop) s.sto (e,i.size) A l h' m=some v):aX P np o s a w L Z v s:=by
 have h1:=aL h hx e1;have k1:=lJ h hlo e2 e4;have k2:=lJ h hhi e3 e5;have k3:=lJ h hmx e6 e7;have he:P.elem t=e:=by simp [Program.elem,hu]
 have hu':P.underlying t=some (.slice (P.elem t)):=by rw [he];exact hu
 have hrun:∀{u:Value},(Instr.slice t (a.eval x) (lo.map a.eval) (hi.map a.eval) (mx.map a.eval)).run P w= .ok u w->(execOp a.eval o).run P w= .ok (.value u) w:=by
  intro u hm;refine dX (m:=Instr.sliceAt t (a.eval x) (lo.map a.eval) (hi.map a.eval) (mx.map a.eval)) (by unfold execOp;rw [ho]) ?_;rw [run_sliceAt_slice w t _ _ _ _ hu'];exact hm
 unfold sliceAt at es;split at es
 ·rename_i mm;obtain ⟨km,mm',q1,q2⟩:=k3.resolve_left (by rintro ⟨_,q⟩;cases q);injection q1 with q1;subst q1;split at es
  case h_2=>cases es
  case h_1 xs hh hc=>
   split at es
   case h_2=>cases es
   case h_1 hz1 hz2=>
    injection es with es;subst es;simp only [real,aK.isZero]at hz1 hz2;have z1:=of_decide_eq_true hz1;have z2:=of_decide_eq_true hz2;subst z1;subst z2;obtain ⟨k4,q3⟩:lo.map a.eval=none/\True:=by
     rcases k1 with ⟨q,_⟩ | ⟨_,_,q,_⟩
     ·exact ⟨q,trivial⟩
     ·cases q
    obtain ⟨kh,hh',q4,q5⟩:=k2.resolve_left (by rintro ⟨_,q⟩;cases q);injection q4 with q4;subst q4;obtain ⟨B,cap,b1,b2,_⟩:=cG h.obj h1 hc;have:=run_slice_hm (P:=P) w t B xs.length cap hu' kh km 0 0 (Int.le_refl _) (Int.le_refl _) (by omega);refine aX.pure h (hrun (u:= .slice B 0 0) ?_) (by simp only [RV];exact ⟨B,rfl⟩);rw [b1,k4,q5,q2,this,he];simp [sizeOf,typeInfo,hi0,Result.andThen,sliced]
 ·have q0:mx.map a.eval=none:=by
   rcases k3 with ⟨q,_⟩ | ⟨_,_,q,_⟩
   ·exact q
   ·cases q
  rw [q0]at hrun;have hl:∃ll:Int,((lo.map a.eval=none/\ll=0)\/∃k,lo.map a.eval=some (.int k ll))/\ll=l.getD 0:=by
   rcases k1 with ⟨q1,q2⟩ | ⟨k,m',q1,q2⟩
   ·exact ⟨0,.inl ⟨q1,rfl⟩,by rw [q2];rfl⟩
   ·exact ⟨m',.inr ⟨k,q2⟩,by rw [q1];rfl⟩
  obtain ⟨ll,hl1,hl2⟩:=hl;have hh:∀n cap:Nat,n<=cap->((hi.map a.eval=none/\h'.getD n=n/\n<=cap)\/∃k,hi.map a.eval=some (.int k (h'.getD n))):=by
   intro n cap hn;rcases k2 with ⟨q1,q2⟩ | ⟨k,m',q1,q2⟩
   ·exact .inl ⟨q1,by rw [q2];rfl,hn⟩
   ·exact .inr ⟨k,by rw [q2,q1];rfl⟩
  split at es
  ·simp only [RV]at h1;obtain ⟨B,h1⟩:=h1;rw [h1]at hrun;have hz:l.getD 0=0/\h'.getD 0=0/\v= .emp:=by
    split at es
    ·injection es with es;exact ⟨rfl,rfl,es.symm⟩
    ·split at es
     ·rename_i z1 z2;injection es with es;simp only [real,aK.isZero]at z1 z2;exact ⟨of_decide_eq_true z1,of_decide_eq_true z2,es.symm⟩
     ·cases es
   obtain ⟨z1,z2,rfl⟩:=hz;have hg:=jf (P:=P) (w:=w) (A:=B) (n:=0) (cap:=0) hu hi0 hl1 (hh 0 0 (Nat.le_refl _)) (by omega) (by simp;omega) (by simp;omega);refine aX.pure h (hrun hg) ?_;simp only [RV];have z2':(h'.getD ((0:Nat):Int)).toNat=0:=by have:h'.getD ((0:Nat):Int)=0:=z2;rw [this];rfl
   rw [z2',hl2,z1];exact ⟨B,by simp [sliced]⟩
  ·rename_i xs;simp only [RV,RD]at h1;obtain ⟨B,cap,h1,b2,b3⟩:=h1;injection h1 with h1;rw [h1]at hrun;split at es
   case h_2=>cases es
   case h_1 hfit=>
    split at es
    case h_2=>cases es
    case h_1 ys hys=>
     injection es with es;subst es;obtain ⟨c1,c2,c3,c4⟩:=AA hys;simp only [real,aK.minus,aK.len]at c1 c2 c3 c4;have hg:=jf (P:=P) (w:=w) (A:=B) (n:=xs.length) (cap:=cap) hu hi0 hl1 (hh _ _ b2) (by omega) (by omega) (by omega);refine aX.pure h (hrun hg) ?_;have hylen:ys.length=(h'.getD xs.length).toNat-ll.toNat:=by
      rw [c4,List.length_take,List.length_drop];omega
     simp only [RV,RD,sliced];refine ⟨_,cap-ll.toNat,by rw [hylen],by omega,?_⟩;by_cases hy0:ys=[]
     ·exact .inl hy0
     ·right;have hpos:=List.length_pos_iff.2 hy0;have hxne:xs≠[]:=by rintro rfl;simp at c4;exact hy0 c4
      obtain ⟨b,off,sz,d1,d2,d3⟩:=b3.resolve_left hxne;rw [if_neg (by omega),d1];simp only [Option.map_some,add_plain];by_cases hl0:ll=0
      ·refine ⟨b,off+ll.toNat*i.size,sz,rfl,d2,?_⟩;rw [c4,<-hl2,hl0];simpa using lU _ d3
      ·have hfit':(real call loop).fits i.size 0 xs=true:=by
        cases l with
        | none=>exact (hl0 hl2).elim
        | some l=>exact hfit
       simp only [real,aK.fits,ah]at hfit';have hall:=List.all_eq_true.1 hfit'.2;have hsz:sz=i.size:=by
        obtain ⟨x0,hx0⟩:=List.exists_mem_of_ne_nil _ hxne;have a1:=hall x0 hx0;simp only [beq_iff_eq]at a1;obtain ⟨j,hj⟩:=List.getElem?_of_mem hx0;obtain ⟨cs,r1,r2,_⟩:=eK.1 d3 j x0 hj;rw [<-r1,yN r2,a1]
       subst hsz;refine ⟨b,off+ll.toNat*i.size,i.size,rfl,d2,?_⟩;rw [c4,<-hl2];exact lU _ (xO _ d3)
  ·rename_i r sz g u;split at es
   ·cases es
   rename_i xs hxs;obtain ⟨B,cap,b1⟩:=kC h.obj h1 hxs;rw [b1]at hrun;have h1':=h1;simp only [RV]at h1';obtain ⟨a',n',cap',xs0,m1,⟨m2,m2'⟩,m3,m4,m5,m6,m7,m8⟩:=h1';rw [b1]at m1;injection m1 with w1 w2 w3;have b2:xs.length<=cap:=by omega
   subst w1;subst w3;split at es
   ·injection es with es;subst es;have hl0:ll=0:=hl2;subst hl0;have hg:=jf (P:=P) (w:=w) (A:=B) (n:=xs.length) (cap:=cap) hu hi0 hl1 (hh _ _ b2) (by omega) (by simp) (by simp;omega);refine aX.pure h (hrun hg) ?_;have:sliced B (0:Int).toNat ((none:Option Int).getD (xs.length:Int)).toNat cap i.size= .slice B xs.length cap:=by
     simp only [sliced,Int.toNat_zero,Option.getD_none,Int.toNat_natCast,Nat.sub_zero,Nat.zero_mul];split
     ·rfl
     ·rename_i hc0;have:L r≠none:=fun hL=>hc0 (m7 hL)
      obtain ⟨b,hb⟩:=Option.ne_none_iff_exists'.1 this;rcases m8 b hb with ⟨k,_⟩ | ⟨k,_⟩
      ·exact (hc0 k).elim
      ·rw [k];simp [add_plain]
    rw [this,<-b1];exact h1
   ·split at es
    case isFalse=>cases es
    case isTrue hsz=>
     subst hsz;split at es
     case h_2=>cases es
     case h_1 ys hys=>
      injection es with es;subst es;obtain ⟨c1,c2,c3,c4⟩:=AA hys;simp only [real,aK.minus,aK.len]at c1 c2 c3 c4;have hg:=jf (P:=P) (w:=w) (A:=B) (n:=xs.length) (cap:=cap) hu hi0 hl1 (hh _ _ b2) (by omega) (by omega) (by omega);refine aX.pure h (hrun hg) ?_;have hbase:∃base:Int,((g=none/\base=0)\/∃m,g=some (base,m))/\0<=base/\base.toNat=bC g/\base.toNat+xs.length<=xs0.length:=by
       cases g with
       | none=>exact ⟨0,.inl ⟨rfl,rfl⟩,Int.le_refl _,rfl,by have:=m5 rfl;simp;omega⟩
       | some p=>
        obtain ⟨p1,p2⟩:=p;obtain ⟨r1,r2,r3⟩:=m6 p1 p2 rfl;exact ⟨p1,.inr ⟨p2,rfl⟩,r1,rfl,by omega⟩
      obtain ⟨base,g1,g2,g3,g4⟩:=hbase
      suffices hX:∀X:Int,X=base+l.getD 0->RV (aF w Z L s.sto) (.arr r (e,i.size) (some (X,(real call loop).minus (h'.getD ((real call loop).len xs)) (l.getD 0))) false) (sliced B ll.toNat (h'.getD ↑xs.length).toNat cap i.size) by
       refine hX _ ?_;rcases g1 with ⟨rfl,rfl⟩ | ⟨mm,rfl⟩
       ·simp
       ·rfl
      intro X hXe;subst hXe;simp only [RV,sliced];have hro:bC (some (base+l.getD 0,(real call loop).minus (h'.getD ((real call loop).len xs)) (l.getD 0)))=bC g+ll.toNat:=by
       show (base+l.getD 0).toNat=bC g+ll.toNat;omega
      refine ⟨_,(h'.getD xs.length).toNat-ll.toNat,cap-ll.toNat,xs0,rfl,⟨by omega,by omega⟩,fun e=>(by cases e),m4,fun e=>(by cases e),fun x m e=> ?_,fun e=> ?_,fun b hb=> ?_⟩
      ·injection e with e;injection e with e3 e4;subst e3;subst e4;refine ⟨by omega,?_,?_⟩
       ·simp only [real,aK.minus,aK.len];omega
       ·omega
      ·have:=m7 e;omega
      ·rw [hro];rcases m8 b hb with ⟨k1',k2'⟩ | ⟨k1',k2'⟩
       ·left;exact ⟨by omega,by omega⟩
       ·by_cases hc0:cap-ll.toNat=0
        ·by_cases hr0:bC g+ll.toNat=0
         ·right;have hcl:cap=ll.toNat:=by omega
          refine ⟨?_,?_⟩
          ·rw [if_pos hcl,k1',hr0];have:bC g=0:=by omega
           rw [this]
          ·rw [<-k2'];congr 1;omega
         ·left;exact ⟨hc0,hr0⟩
        ·right;refine ⟨?_,?_⟩
         ·rw [if_neg (by omega),k1'];simp only [Option.map_some,add_plain,Nat.add_mul]
         ·rw [<-k2'];congr 1;omega
  ·cases es
def mE (places:List (Nat×Nat)):List (Nat×Operand)->List (Nat×Nat×VX)->Bool
 | [],[]=>true
 | (i,x)::l,(off,n,y)::r=>(match places[i]? with | some p=>p.1==off&&p.2==n | none=>false)&&cN x y&&mE places l r
 | _,_=>false
theorem D8 {c:Cx} {x:AV} {v:Value} (h:RV c x v) (hx:x.whole=true):dg c x.cells v.cells.toList:=by
 refine om h ?_ ?_ ?_
 ·rintro vs rfl;cases hx
 ·rintro rfl;cases hx
 ·rintro rfl;cases hx
theorem vv (
      h:RS s a w L Z) {places:List (Nat×Nat)}:∀{ps:List (Nat×Operand)} {qs:List (Nat×Nat×VX)} {rs:List (Nat×List AV)} {cs r:List AV} {cells:Array Value},mE places ps qs=true->je s.env qs=some rs->
  dg (aF w Z L s.sto) cs cells.toList->vk cs rs=some r->∃cells',Instr.fill (places.toArray[·]?) cells (ps.map fun p=>(p.1,a.eval p.2))=some cells'/\dg (aF w Z L s.sto) r cells'.toList
 | [],[],rs,cs,r,cells,_,e1,hc,e2=>by
  simp only [je]at e1;injection e1 with e1;subst e1;simp only [vk]at e2;injection e2 with e2;subst e2;exact ⟨cells,rfl,hc⟩
 | (i,
    x)::ps,(off,n,y)::qs,rs,cs,r,cells,hk,e1,hc,e2=>by
  simp only [mE,ah]at hk;obtain ⟨⟨h1,h2⟩,h3⟩:=hk;split at h1
  case h_2=>cases h1
  case h_1 p hp=>
   simp only [ah,beq_iff_eq]at h1;obtain ⟨h1a,h1b⟩:=h1;simp only [je]at e1;split at e1
   case h_2=>cases e1
   case h_1 u eu=>
    split at e1
    case h_2=>cases e1
    case h_1 hw hn=>
     split at e1
     case h_2=>cases e1
     case h_1 rs' er=>
      injection e1 with e1;subst e1;simp only [vk]at e2;split at e2
      case h_2=>cases e2
      case h_1 cs' el=>
       have hn':u.cells.length=n:=by simpa using hn
       have hv:=D8 (aL h h2 eu) hw;have hlen:=(bL.1 hv).1;have hcl:=(bL.1 hc).1;obtain ⟨l1,l2⟩:=jq el;have hsz:(a.eval x).cells.size=n:=by simp at hlen;omega
       have hplace:places.toArray[i]? =some (off,(a.eval x).cells.size):=by
        rw [hsz,List.getElem?_toArray,hp,<-h1a,<-h1b]
       simp only [List.map_cons];rw [oE hplace (by simp at hcl;omega)];exact vv h h3 er (by have:=Dy hc hv el;simpa using this) e2
 | [],_::_,_,_,_,_,hk,_,_,_=>by simp [mE]at hk
 | _::_,[],_,_,_,_,hk,_,_,_=>by simp [mE]at hk
theorem BZ (np:Nat) (h:RS s a w L Z) {o:Oper} {t:TypeId} {i:TypeInfo} {z:Value} {fields:Array Field} {places:List (Nat×Nat)} {ps:Array (Nat×Operand)} {qs:List (Nat×Nat×VX)} {zero cs:List AV} {rs:List (Nat×List AV)}
  (ho:o.op= .build t ps) (hu:P.underlying t=some (.struct fields)) (hi:P.info? t=some i) (hz:i.zero=some z) (hpl:fields.toList.mapM (fun f=>(P.info? f.type).map fun i=>(f.offset,i.size))=some places)
  (hk:mE places ps.toList qs=true) (hok:d_ z.cells.toList zero=true) (e1:je s.env qs=some rs) (e2:vk zero rs=some cs):aX P np o s a w L Z (.agg cs) s:=by
 obtain ⟨cells',c1,c2⟩:=vv h hk e1 (jM hok) e2;have hb:P.built t (ps.map fun (i,x)=>(i,a.eval x)).toList=some cells':=by
  unfold Program.built;simp only [hi,hu,hz,hpl];simpa using c1
 refine aX.pure h (dX (m:=Instr.build t (ps.map fun (i,x)=>(i,a.eval x))) (by unfold execOp;rw [ho]) (run_build w t _ cells' hb)) ?_;simp only [RV];exact ⟨cells'.toList,by simp,c2⟩
end
def LD (c c':Cx) (f:Id->Id) (r:Id):Prop:=
 c'.L (f r)=c.L r/\((c.obj r).isSome->(c'.obj (f r)).isSome)/\∀sz xs,(c.obj r).bind Obj.rw=some (sz,xs)->(c'.obj (f r)).bind Obj.rw=some (sz,xs)
mutual
theorem yU {w:World} {Z:Nat->Prop} {L L':Loc} {ob ob':Id->Option Obj} {f:Id->Id}:∀(a:AV) (v:Value),(∀r∈a.refs,LD ⟨w,Z,L,ob⟩ ⟨w,Z,L',ob'⟩ f r)->RV ⟨w,Z,L,ob⟩ a v->RV ⟨w,Z,L',ob'⟩ (a.map f) v
 | .undef,v,_,h=>by simp only [AV.map,RV]
 | .bare,v,_,h=>by simpa only [AV.map,RV]using h
 | .d x,v,_,h=>by simpa only [AV.map,RV]using h
 | .agg as,v,hr,h=>by
  simp only [AV.map,RV]at h |-;obtain ⟨vs,h1,h2⟩:=h;exact ⟨vs,h1,mF as vs (by simpa [AV.refs]using hr) h2⟩
 | .tup as,v,hr,h=>by
  simp only [AV.map,RV]at h |-;obtain ⟨vs,h1,h2⟩:=h;exact ⟨vs,h1,mF as vs (by simpa [AV.refs]using hr) h2⟩
 | .nilp,v,_,h=>by simpa only [AV.map,RV]using h
 | .emp,v,_,h=>by simpa only [AV.map,RV]using h
 | .ptr r off,v,hr,h=>by
  simp only [AV.map,RV]at h |-;obtain ⟨b,h1,h2,h3⟩:=h;obtain ⟨k1,k2,_⟩:=hr r (by simp [AV.refs]);exact ⟨b,k2 h1,k1.trans h2,h3⟩
 | .prow r sz i off,v,hr,h=>by
  simp only [AV.map,RV]at h |-;obtain ⟨b,h1,h2,h3⟩:=h;obtain ⟨k1,k2,_⟩:=hr r (by simp [AV.refs]);exact ⟨b,k2 h1,k1.trans h2,h3⟩
 | .sp cs off,v,_,h=>by simpa only [AV.map,RV]using h
 | .arr r sz g full,v,hr,h=>by
  simp only [AV.map,RV]at h |-;obtain ⟨a,n,cap,xs,h1,h2,h3,h4,h5,h6,h7,h8⟩:=h;obtain ⟨k1,_,k3⟩:=hr r (by simp [AV.refs]);exact ⟨a,n,cap,xs,h1,h2,h3,k3 sz xs h4,h5,h6,fun e=>h7 (k1.symm.trans e),fun b e=>h8 b (k1.symm.trans e)⟩
 | .fn g as,v,hr,h=>by
  simp only [AV.map,RV]at h |-;obtain ⟨vs,h1,h2⟩:=h;exact ⟨vs,h1,mF as vs (by simpa [AV.refs]using hr) h2⟩
theorem mF {w:World} {Z:Nat->Prop} {L L':Loc} {ob ob':Id->Option Obj} {f:Id->Id}:∀(as:List AV) (vs:List Value),(∀r∈AV.bO as,LD ⟨w,Z,L,ob⟩ ⟨w,Z,L',ob'⟩ f r)->dg ⟨w,Z,L,ob⟩ as vs->dg ⟨w,Z,L',ob'⟩ (AV.mC f as) vs
 | [],vs,_,h=>by simpa only [AV.mC,dg]using h
 | a::as,vs,hr,h=>by
  simp only [AV.mC,dg]at h |-;obtain ⟨v,vs',h1,h2,h3⟩:=h;exact ⟨v,vs',h1,yU a v (fun r hm=>hr r (by simp [AV.bO,hm])) h2,mF as vs' (fun r hm=>hr r (by simp [AV.bO,hm])) h3⟩
end
theorem yV {w:World} {Z:Nat->Prop} {L L':Loc} {g g':Id->Option Obj} {f:Id->Id} {r r':Id} {ob:Obj} (h:RO ⟨w,Z,L,g⟩ r ob) (hL:L' r'=L r) (hN:ob.deep=true->L'.nest r'=L.nest r)
  (hr:∀q∈ob.refs,LD ⟨w,Z,L,g⟩ ⟨w,Z,L',g'⟩ f q):RO ⟨w,Z,L',g'⟩ r' (ob.map f):=by
 cases ob with
 | box as=>
  simp only [Obj.map,RO]at h |-;obtain ⟨b,vs,ty,h1,h2,h3⟩:=h;exact ⟨b,vs,ty,hL.trans h1,h2,mF as _ hr h3⟩
 | rows sz xs=>
  simp only [Obj.map,RO]at h |-;rw [hL];exact h
 | gone sz xs=>
  simp only [Obj.map,RO]at h |-;rw [hL];exact h
 | orows sz xs=>
  simp only [Obj.map,RO]at h |-;rw [hL,hN rfl];exact h
 | hrows sz xs i off q esz=>
  simp only [Obj.map,RO]at h |-;rw [hL,hN rfl];obtain ⟨b,vs,pre,d,post,A1,A2,B1,B2,v,h1,h2,h3,h4,h5,h6,h7,h8,h9,h10,h11,h12,h13,h14,h16,h17⟩:=h;exact ⟨b,vs,pre,d,post,A1,A2,B1,B2,v,h1,h2,h3,h4,h5,h6,h7,h8,h9,h10,h11,h12,yU (.arr q esz none false) v (fun k hk=>hr k (by simpa [AV.refs,Obj.refs]using hk)) h13,h14,h16,h17⟩
theorem kJ {s:bF}:∀(n:Nat) (todo acc ids:List Id),reach s n todo acc=some ids->acc.Nodup->(∀r∈acc,(s.get r).isSome)->(∀r∈acc,∀ob,s.get r=some ob->∀q∈ob.refs,q∈acc\/q∈todo)->
  ids.Nodup/\(∀r∈ids,(s.get r).isSome)/\(∀r∈todo,r∈ids)/\(∀r∈acc,r∈ids)/\∀r∈ids,∀ob,s.get r=some ob->∀q∈ob.refs,q∈ids
 | n,[],acc,ids,e,h1,h2,h3=>by
  simp only [reach]at e;injection e with e;subst e;exact ⟨h1,h2,by simp,fun r hr=>hr,fun r hr ob ho q hq=>by simpa using h3 r hr ob ho q hq⟩
 | 0,_::_,acc,ids,e,_,_,_=>by simp [reach]at e
 | n+1,r::todo,acc,ids,e,h1,h2,h3=>by
  simp only [reach]at e;split at e
  ·rename_i hc;have hc':r∈acc:=by simpa using hc
   obtain ⟨k1,k2,k3,k4,k5⟩:=kJ n todo acc ids e h1 h2 (fun q hq ob ho p hp=>by
    rcases h3 q hq ob ho p hp with m | m
    ·exact .inl m
    ·rcases List.mem_cons.1 m with m | m
     ·subst m;exact .inl hc'
     ·exact .inr m)
   exact ⟨k1,k2,fun q hq=>by
    rcases List.mem_cons.1 hq with m | m
    ·subst m;exact k4 _ hc'
    ·exact k3 q m,k4,k5⟩
  ·rename_i hc;have hc':r∉acc:=by simpa using hc
   split at e
   case h_2=>cases e
   case h_1 ob hob=>
    obtain ⟨k1,k2,k3,k4,k5⟩:=kJ n (ob.refs++todo) (acc++[r]) ids e (by
     rw [List.nodup_append];exact ⟨h1,by simp,fun a ha b hb=>by simp at hb;subst hb;exact fun e=>hc' (e ▸ ha)⟩) (fun q hq=>by
     rcases List.mem_append.1 hq with m | m
     ·exact h2 q m
     ·simp at m;subst m;simp [hob]) (fun q hq ob' ho p hp=>by
     rcases List.mem_append.1 hq with m | m
     ·rcases h3 q m ob' ho p hp with x | x
      ·exact .inl (List.mem_append.2 (.inl x))
      ·rcases List.mem_cons.1 x with x | x
       ·subst x;exact .inl (by simp)
       ·exact .inr (List.mem_append.2 (.inr x))
     ·simp at m;subst m;rw [hob]at ho;injection ho with ho;subst ho;exact .inr (List.mem_append.2 (.inl hp)))
    exact ⟨k1,k2,fun q hq=>by
     rcases List.mem_cons.1 hq with m | m
     ·subst m;exact k4 _ (by simp)
     ·exact k3 q (List.mem_append.2 (.inr m)),fun q hq=>k4 q (List.mem_append.2 (.inl hq)),k5⟩
theorem qH {ids:List Id} {r:Id} (h:r∈ids):ids[idx ids r]? =some r:=by
 unfold idx;have h1:ids.findIdx (· ==r)<ids.length:=List.findIdx_lt_length_of_exists ⟨r,h,by simp⟩;have h2:=List.findIdx_getElem (w:=h1);rw [aN h1];simpa using h2
theorem vw {ids:List Id} (hn:ids.Nodup) {i:Nat} {r:Id} (h:ids[i]? =some r):idx ids r=i:=by
 have h1:=qH (List.mem_of_getElem? h);exact (List.getElem?_inj (ai.1 h1).1 hn).1 (h1.trans h.symm)
theorem vz {f:Id->Id}:∀{ids:List Id} {obs:List (Option Obj)} {s s':bF},iG s f ids obs=some s'->ids.Nodup->(∀r∈ids,(s.get r).isSome)->
  ids.length=obs.length/\(∀q,q∉ids->s'.get q=s.get q)/\∀(i:Nat) (r:Id),ids[i]? =some r->s'.get r=(match obs[i]? with | some o=>Option.map (Obj.map f) o | none=>none)
 | [],[],s,s',e,_,_=>by simp only [iG]at e;injection e with e;subst e;simp
 | r::ids,ob::obs,s,s',e,hn,hs=>by
  simp only [iG]at e;obtain ⟨hn1,hn2⟩:=List.nodup_cons.1 hn;obtain ⟨o,ho⟩:=Option.isSome_iff_exists.1 (hs r (by simp));obtain ⟨k1,k2,k3⟩:=vz e hn2 (fun q hq=>by
   rw [cg _ (by rintro rfl;exact hn1 hq)];exact hs q (by simp [hq]))
  refine ⟨by simp [k1],fun q hq=> ?_,fun i q hq=> ?_⟩
  ·rw [k2 q (fun m=>hq (by simp [m])),cg _ (fun e=>hq (by simp [e]))]
  ·cases i with
   | zero=>
    simp at hq;subst hq;rw [k2 _ hn1,cK _ ho];simp
   | succ i=>simp at hq |-;exact k3 i q hq
 | [],_::_,_,_,e,_,_=>by simp [iG]at e
 | _::_,[],_,_,e,_,_=>by simp [iG]at e
section
variable {P:Program} {call:FuncId->List AV->List (Option Obj)->Option bk} {loop:Nat->St->Option (Out×St)}
mutual
theorem B6 {w:World} {Z Zc:Nat->Prop} {L:Loc} {s:bF} (hobj:∀r ob,s.get r=some ob->RO (aF w Z L s) r ob) (hz:∀b,Z b->Zc b):∀(x:AV) (v:Value) (x':AV),
  RV (aF w Z L s) x v->(∀r∈x.refs,∀ob,s.get r=some ob->∀b,ob.has L r b->Zc b)->snap (real call loop) s x=some x'->x'.refs=[]->∀L' g,RV ⟨w,Zc,L',g⟩ x' v
 | .emp,v,x',hv,_,e,_,L',g=>by
  simp only [snap]at e;injection e with e;subst e;simp only [RV]at hv;obtain ⟨A,h1⟩:=hv;simp only [RV,RD];exact ⟨A,0,by rw [h1];rfl,Nat.le_refl _,.inl trivial⟩
 | .arr r sz gg u,v,x',hv,hr,e,_,L',g=>by
  simp only [snap]at e;split at e
  case h_1 esz xs hg=>
    cases gg with
    | some p=>cases e
    | none=>
     simp only at e;injection e with e;subst e;simp only [RV];exact wg hz hg (hobj r _ hg) (hr r (by simp [AV.refs]) _ hg) hv
  case h_2 hnot=>
   split at e
   case h_2=>cases e
   case h_1 xs hc=>
    injection e with e;subst e;obtain ⟨A,cap,h1,h2,h3⟩:=cG hobj hv hc;simp only [RV,RD];refine ⟨A,cap,by rw [h1],h2,h3.imp id ?_⟩;rintro ⟨b,o,z,h4,h5,h6⟩;refine ⟨b,o,z,h4,?_,lH (w:=w) (w':=w) (Z:=Z) (fun b hb=>⟨hz b hb,rfl⟩) rfl _ _ _ h5⟩;rcases h6 with h6 | ⟨r',z',g',u',ob',e1,e2,e3⟩
    ·exact hz b h6
    ·injection e1 with e1;subst e1;exact hr r (by simp [AV.refs]) ob' e2 b (.inl e3)
 | .agg cs,v,x',hv,hr,e,he,L',g=>by
  simp only [snap]at e;split at e
  case h_2=>cases e
  case h_1 ds hc=>
    injection e with e;subst e;simp only [RV]at hv |-;obtain ⟨vs,h1,h2⟩:=hv;exact ⟨vs,h1,kK hobj hz cs vs ds h2 (by simpa [AV.refs]using hr) hc (by simpa [AV.refs]using he) L' g⟩
 | .undef,v,x',hv,_,e,he,L',g=>by
  simp only [snap]at e;injection e with e;subst e;simp only [RV]
 | .bare,v,x',hv,_,e,he,L',g=>by
  simp only [snap]at e;injection e with e;subst e;simpa only [RV]using hv
 | .d y,v,x',hv,_,e,he,L',g=>by
  simp only [snap]at e;injection e with e;subst e;exact jI (c:=aF w Z L s) (c':=⟨w,Zc,L',g⟩) (fun b hb=>⟨hz b hb,rfl⟩) _ _ (by simp [AV.refs]) hv
 | .tup cs,v,x',hv,_,e,he,L',g=>by
  simp only [snap]at e;injection e with e;subst e;exact jI (c:=aF w Z L s) (c':=⟨w,Zc,L',g⟩) (fun b hb=>⟨hz b hb,rfl⟩) _ _ (by rw [he];simp) hv
 | .nilp,v,x',hv,_,e,he,L',g=>by
  simp only [snap]at e;injection e with e;subst e;simpa only [RV]using hv
 | .ptr _ _,v,x',hv,_,e,he,L',g=>by
  simp only [snap]at e;injection e with e;subst e;simp [AV.refs]at he
 | .prow _ _ _ _,v,x',hv,_,e,he,L',g=>by
  simp only [snap]at e;injection e with e;subst e;simp [AV.refs]at he
 | .sp _ _,v,x',hv,_,e,he,L',g=>by
  simp only [snap]at e;injection e with e;subst e;exact jI (c:=aF w Z L s) (c':=⟨w,Zc,L',g⟩) (fun b hb=>⟨hz b hb,rfl⟩) _ _ (by simp [AV.refs]) hv
 | .fn _ _,v,x',hv,_,e,he,L',g=>by
  simp only [snap]at e;injection e with e;subst e;exact jI (c:=aF w Z L s) (c':=⟨w,Zc,L',g⟩) (fun b hb=>⟨hz b hb,rfl⟩) _ _ (by rw [he];simp) hv
theorem kK {w:World} {Z Zc:Nat->Prop} {L:Loc} {s:bF} (hobj:∀r ob,s.get r=some ob->RO (aF w Z L s) r ob) (hz:∀b,Z b->Zc b):∀(xs:List AV) (vs:List Value) (xs':List AV),
  dg (aF w Z L s) xs vs->(∀r∈AV.bO xs,∀ob,s.get r=some ob->∀b,ob.has L r b->Zc b)->iS (real call loop) s xs=some xs'->AV.bO xs'=[]->∀L' g,dg ⟨w,Zc,L',g⟩ xs' vs
 | [],vs,xs',hv,_,e,_,L',g=>by
  simp only [iS]at e;injection e with e;subst e;simpa only [dg]using hv
 | x::xs,vs,xs',hv,hr,e,he,L',g=>by
  simp only [iS]at e;split at e
  case h_2=>cases e
  case h_1 y hc=>
   split at e
   case h_2=>cases e
   case h_1 ys hc2=>
    injection e with e;subst e;simp only [dg]at hv |-;obtain ⟨v,vs',h1,h2,h3⟩:=hv;simp only [AV.bO,List.append_eq_nil_iff]at he;exact ⟨v,vs',h1,B6 hobj hz x v y h2 (fun r m=>hr r (by simp [AV.bO,m])) hc he.1 L' g,kK hobj hz xs vs' ys h3 (fun r m=>hr r (by simp [AV.bO,m])) hc2 he.2 L' g⟩
end
end
def iI (P:Program) (f:FuncId):Bool:=match P.funcs[f]? with
 | some fn=>fn.body.isSome&& !(fn.name== "runtime.NumGoroutine")
 | none=>false
def gX (P:Program) (call:FuncId->List AV->List (Option Obj)->Option bk):Prop:=
 ∀f as cs c,call f as cs=some c->iI P f=true/\∀(vs:Array Value) (w:World) (L:Loc) (Z:Nat->Prop),RS ⟨as,[[],cs]⟩ ⟨vs,[]⟩ w L Z->
  ∀Q:Ending->World->Prop,(∀v w' L' Z',RS ⟨[c.ret],[c.extra,c.pars]⟩ ⟨#[v],[]⟩ w' L' Z'->Tr 1 [[],cs] [c.extra,c.pars] w w' L L' Z Z'->Q (.returned v) w')->Calls P f vs w Q
def jg (l:List (Option Obj)) (j:Nat):Option Obj:=match l[j]? with | some o=>o | none=>none
theorem vA (A B:List (Option Obj)) (j:Nat):bF.get [A,B] (0,j)=jg A j:=rfl
theorem kf (A B:List (Option Obj)) (j:Nat):bF.get [A,B] (1,j)=jg B j:=rfl
theorem yX (A B:List (Option Obj)) (i j:Nat):bF.get [A,B] (i+2,j)=none:=rfl
theorem AB {l:List (Option Obj)} {j:Nat} {o:Obj} (h:jg l j=some o):l[j]? =some (some o):=by
 unfold jg at h;split at h
 ·rename_i x e;subst h;exact e
 ·cases h
theorem Di {l:List (Option Obj)} {f:Obj->Obj} {j:Nat}:jg (l.map fun ob=>ob.map f) j=(jg l j).map f:=by
 unfold jg;rw [List.getElem?_map];cases l[j]? <;>rfl
mutual
theorem yY {p:Id->Bool} (h:∀r,p r=false):∀a:AV,a.forget p=a
 | .undef=>rfl
 | .bare=>rfl
 | .d x=>rfl
 | .agg as=>by simp only [AV.forget,cV h as]
 | .tup as=>by simp only [AV.forget,cV h as]
 | .nilp=>rfl
 | .emp=>rfl
 | .ptr r o=>by simp [AV.forget,h]
 | .prow r s i o=>by simp [AV.forget,h]
 | .sp cs o=>rfl
 | .arr r s g u=>by simp [AV.forget,h]
 | .fn g as=>by simp only [AV.forget,cV h as]
theorem cV {p:Id->Bool} (h:∀r,p r=false):∀as:List AV,AV.aO p as=as
 | []=>rfl
 | a::as=>by simp only [AV.aO,yY h a,cV h as]
end
theorem lK {p:Id->Bool} (h:∀r,p r=false):∀o:Obj,o.forget p=o:=by
 intro o;cases o with
 | box cs=>simp [Obj.forget,cV h]
 | hrows sz xs i off q e=>simp [Obj.forget,h]
 | _=>rfl
mutual
theorem nV {f g:Id->Id}:∀(a:AV),(∀r∈a.refs,f r=g r)->a.map f=a.map g
 | .undef,_=>rfl
 | .bare,_=>rfl
 | .d _,_=>rfl
 | .nilp,_=>rfl
 | .emp,_=>rfl
 | .sp _ _,_=>rfl
 | .agg cs,h=>by simp only [AV.map];rw [gT cs (by simpa [AV.refs]using h)]
 | .tup cs,h=>by simp only [AV.map];rw [gT cs (by simpa [AV.refs]using h)]
 | .fn _ cs,h=>by simp only [AV.map];rw [gT cs (by simpa [AV.refs]using h)]
 | .ptr r _,h=>by simp only [AV.map];rw [h r (by simp [AV.refs])]
 | .prow r _ _ _,h=>by simp only [AV.map];rw [h r (by simp [AV.refs])]
 | .arr r _ _ _,h=>by simp only [AV.map];rw [h r (by simp [AV.refs])]
theorem gT {f g:Id->Id}:∀(as:List AV),(∀r∈AV.bO as,f r=g r)->AV.mC f as=AV.mC g as
 | [],_=>rfl
 | a::as,h=>by
  simp only [AV.mC];rw [nV a (fun r hr=>h r (by simp [AV.bO,hr])),gT as (fun r hr=>h r (by simp [AV.bO,hr]))]
end
theorem lM {p:Id->Bool} (h:∀r,p r=false) (s:bF):s.forget p=s:=by
 unfold bF.forget;have h1:∀o:Obj,o.forget p=o:=by
  intro o;cases o with
  | box cs=>simp [Obj.forget,cV h]
  | hrows sz xs i off q e=>simp [Obj.forget,h]
  | _=>rfl
 have h2:(fun o:Option Obj=>o.map (·.forget p))=id:=by
  funext o;cases o<;>simp [h1]
 have h3:(fun l:List (Option Obj)=>l.map fun o=>o.map (·.forget p))=id:=by
  funext l;rw [h2];simp
 rw [h3];simp
theorem B_ {l:List (Option Obj)} (h:iH l=true):∀j,j<l.length->(jg l j).isSome:=by
 induction l with
 | nil=>intro j hj;simp at hj
 | cons o l ih=>
  intro j hj;cases o with
  | none=>simp [iH]at h
  | some o=>
   cases j with
   | zero=>rfl
   | succ j=>exact ih (by simpa [iH]using h) j (by simpa using hj)
section
variable {P:Program} {call:FuncId->List AV->List (Option Obj)->Option bk} {loop:Nat->St->Option (Out×St)}
variable {s:St} {a:Act} {w:World} {L:Loc} {Z:Nat->Prop}
def AE (ids:List Id) (L:Loc):Loc:=⟨fun r=>if r.1=1 then (match ids[r.2]? with | some q=>L q | none=>none)else none,fun r=>match ids[r.2]? with | some q=>L.nest q | none=>fun _=>False⟩
def Ca (s:bF) (ids:List Id):List (Option Obj):=ids.map fun r=>(s.get r).map (·.map fun r=>(1,idx ids r))
theorem yZ {s:bF} {ids:List Id} (j:Nat):jg (Ca s ids) j=match ids[j]? with | some q=>(s.get q).map (·.map fun r=>(1,idx ids r)) | none=>none:=by
 unfold Ca jg;rw [List.getElem?_map];cases ids[j]? <;>rfl
theorem y6 {s:bF} {ids:List Id} {r:Id} {ob:Obj} (h:bF.get [[],Ca s ids] r=some ob):∃j q o,r=(1,j)/\ids[j]? =some q/\s.get q=some o/\ob=o.map fun r=>(1,idx ids r):=by
 obtain ⟨i,j⟩:=r
 match i with
 | 0=>rw [vA]at h;simp [jg]at h
 | 1=>
  rw [kf,yZ]at h;split at h
  ·rename_i q hq;cases ho:s.get q with
   | none=>simp [ho]at h
   | some o=>simp [ho]at h;exact ⟨j,q,o,rfl,hq,ho,h.symm⟩
  ·cases h
 | i+2=>rw [yX]at h;cases h
theorem Cb {ids:List Id} {L:Loc} {j:Nat} {q:Id} {o:Obj} {f:Id->Id} {b:Nat} (h3:ids[j]? =some q):(o.map f).has (AE ids L) (1,j) b↔o.has L q b:=by
 unfold Obj.has;simp [AE,h3,Obj.vo]
theorem qI {s:bF} {ids:List Id} {L:Loc} {b:Nat} (h:aW [[],Ca s ids] (AE ids L) b):∃q∈ids,∃o,s.get q=some o/\o.has L q b:=by
 obtain ⟨r,ob,h1,h2⟩:=h;obtain ⟨j,q,o,rfl,h3,h4,rfl⟩:=y6 h1;exact ⟨q,List.mem_of_getElem? h3,o,h4,(Cb h3).1 h2⟩
theorem Gt {w:World} {Z:Nat->Prop} {s:bF} {ids:List Id} {L:Loc} {r:Id} (hr:r∈ids):LD (aF w Z L s) ⟨w,Z,AE ids L,bF.get [[],Ca s ids]⟩ (fun r=>(1,idx ids r)) r:=by
 have h:=qH hr;refine ⟨?_,fun k=> ?_,fun sz xs k=> ?_⟩
 ·simp [AE,h]
 ·show (bF.get [[],Ca s ids] (1,idx ids r)).isSome;rw [kf,yZ,h];simpa using k
 ·show (bF.get [[],Ca s ids] (1,idx ids r)).bind Obj.rw=_;rw [kf,yZ,h];have k':(s.get r).bind Obj.rw=some (sz,xs):=k;cases ho:s.get r with
  | none=>simp [ho]at k'
  | some o=>simp [ho]at k';simp [ho,Obj.ld,k']
theorem I6 (h:RS s a w L Z) {ids:List Id} (hn:ids.Nodup) (hc:∀r∈ids,∀ob,s.sto.get r=some ob->∀q∈ob.refs,q∈ids) {as:List AV} {vs:List Value} (hv:dg (aF w Z L s.sto) as vs) (has:∀r∈AV.bO as,r∈ids):
  RS ⟨AV.mC (fun r=>(1,idx ids r)) as,[[],Ca s.sto ids]⟩ ⟨vs.toArray,[]⟩ w (AE ids L) Z where
 defers:=rfl
 env:=mF (ob:=s.sto.get) as _ (fun r hr=>Gt (has r hr)) (by simpa using hv)
 obj r ob hr:=by
  obtain ⟨j,q,o,rfl,h3,h4,rfl⟩:=y6 hr;have hq:q∈ids:=List.mem_of_getElem? h3;exact yV (g:=s.sto.get) (h.obj q o h4) (by simp [AE,h3]) (fun _=>by simp [AE,h3]) (fun p hp=>Gt (hc q hq o h4 p hp))
 injH r r' b ob ob' ho ho' hb hb':=by
  obtain ⟨j,q,o,rfl,h3,h4,rfl⟩:=y6 ho;obtain ⟨j',q',o',rfl,h3',h4',rfl⟩:=y6 ho';have:=h.injH q q' b o o' h4 h4' ((Cb h3).1 hb) ((Cb h3').1 hb');subst this;have:=(vw hn h3).symm.trans (vw hn h3');rw [this]
 dis b hb:=⟨(h.dis b hb).1,fun hl=>by
  obtain ⟨q,_,o,h2,h3⟩:=qI hl;exact (h.dis b hb).2 ⟨q,o,h2,h3⟩⟩
end
section
section
variable {P:Program} {call:FuncId->List AV->List (Option Obj)->Option bk} {loop:Nat->St->Option (Out×St)}
variable {s:St} {a:Act} {w w':World} {L L':Loc} {Z Z':Nat->Prop}
theorem jJ {A B:List (Option Obj)} {r:Id} {ob:Obj} (h:bF.get [A,B] r=some ob):(r.1=0/\jg A r.2=some ob)\/(r.1=1/\jg B r.2=some ob):=by
 obtain ⟨i,j⟩:=r
 match i with
 | 0=>exact .inl ⟨rfl,h⟩
 | 1=>exact .inr ⟨rfl,h⟩
 | i+2=>rw [yX]at h;cases h
theorem qJ {o:Obj} {L L':Loc} {q r:Id} {b:Nat} (h1:L q=L' r) (h2:L.nest q=L'.nest r):o.has L q b↔o.has L' r b:=by
 unfold Obj.has;rw [h1,h2]
theorem tV {o:Obj} {L:Loc} {q:Id} {b:Nat} {f:Id->Id}:(o.map f).has L q b↔o.has L q b:=by
 unfold Obj.has;rw [Obj.vo]
theorem oF {ids:List Id} {ret:AV} {X pars:List (Option Obj)} {v:Value} {np tt:Nat} {sto fin:bF} {env:List AV} (h:RS s a w L Z) (hn:ids.Nodup) (hs:∀r∈ids,(s.sto.get r).isSome)
  (k:RS ⟨[ret],[X,pars]⟩ ⟨#[v],[]⟩ w' L' Z') (t:Tr 1 [[],Ca s.sto ids] [X,pars] w w' (AE ids L) L' Z Z') (hX:X≠[]->tt<np)
  (back:Id->Id) (hback:∀r,back r=if r.1=1 then ids.getD r.2 (0,0)else (tt,r.2))
  (hlen:ids.length=pars.length) (hsto1:∀q,q∉ids->sto.get q=s.sto.get q) (hsto2:∀(i:Nat) (q:Id),ids[i]? =some q->sto.get q=(jg pars i).map (·.map back))
  (dead:Id->Bool) (hdead:∀r,dead r=(ids.contains r&&(sto.get r).isNone)) (henv:env=AV.aO dead s.env)
  (hfin:∀q,fin.get q=if X≠[]/\q.1=tt then (jg X q.2).map (·.map back)else (sto.get q).map (·.forget dead)) (hfree:X≠[]->∀q:Id,q.1=tt->sto.get q=none):
  ∃L'',RS ⟨env,fin⟩ a w' L'' Z'/\Tr np s.sto fin w w' L L'' Z Z'/\RV (aF w' Z' L'' fin) (ret.map back) v:=by
 have hpar:∀(i:Nat) (q:Id),ids[i]? =some q->L' (1,i)=L q:=fun i q hi=>by
  rw [t.par (1,i) (Nat.le_refl _)];simp [AE,hi]
 have hinlive:∀b,aW [[],Ca s.sto ids] (AE ids L) b->aW s.sto L b:=fun b hl=>by
  obtain ⟨q,_,o,h2,h3⟩:=qI hl;exact ⟨q,o,h2,h3⟩
 have hlt:∀q o b,s.sto.get q=some o->o.has L q b->b<w.heap.size:=fun q o b hq hb=>h.eY hq hb
 have hout:∀q o b,q∉ids->s.sto.get q=some o->o.has L q b->¬aW [[],Ca s.sto ids] (AE ids L) b:=fun q o b hq hqs hb hl=>by
  obtain ⟨p,hp,o',h2,h3⟩:=qI hl;exact hq ((h.injH q p b o o' hqs h2 hb h3) ▸ hp)
 have hheap:∀q o b,q∉ids->s.sto.get q=some o->o.has L q b->w'.heap[b]? =w.heap[b]? :=fun q o b hq hqs hb=>t.keep b (hlt q o b hqs hb) (hout q o b hq hqs hb)
 have hzle:jA w w' Z Z':=fun b hb=>⟨t.zin b hb,t.keep b (h.dis b hb).1 fun hl=>(h.dis b hb).2 (hinlive b hl)⟩
 generalize hL2:(⟨fun q:Id=>if X≠[]/\q.1=tt then L' (0,q.2)else L q,fun q:Id=>if X≠[]/\q.1=tt then L'.nest (0,q.2)else if q∈ids then L'.nest (1,idx ids q)else L.nest q⟩:Loc)=L2;have hL2a:∀q:Id,X≠[]->q.1=tt->L2 q=L' (0,q.2):=fun q h1 h2=>by rw [<-hL2];simp [h1,h2]
 have hL2b:∀q:Id,¬(X≠[]/\q.1=tt)->L2 q=L q:=fun q h1=>by rw [<-hL2];simp only;rw [if_neg h1]
 have hN2a:∀q:Id,X≠[]->q.1=tt->L2.nest q=L'.nest (0,q.2):=fun q h1 h2=>by rw [<-hL2];simp [h1,h2]
 have hN2b:∀q:Id,¬(X≠[]/\q.1=tt)->q∉ids->L2.nest q=L.nest q:=fun q h1 h2=>by rw [<-hL2];simp only;rw [if_neg h1,if_neg h2]
 have hN2c:∀(q:Id) (i:Nat),¬(X≠[]/\q.1=tt)->ids[i]? =some q->L2.nest q=L'.nest (1,i):=fun q i h1 h2=>by rw [<-hL2];simp only;rw [if_neg h1,if_pos (List.mem_of_getElem? h2),vw hn h2]
 have hnotslot:∀q,(sto.get q).isSome->¬(X≠[]/\q.1=tt):=fun q hq ⟨h1,h2⟩=>by rw [hfree h1 q h2]at hq;cases hq
 have hmem:∀q∈ids,∃i:Nat,ids[i]? =some q:=fun q hq=>⟨_,qH hq⟩
 have hren:∀r,(bF.get [X,pars] r).isSome->LD ⟨w',Z',L',bF.get [X,pars]⟩ (aF w' Z' L2 fin) back r:=by
  intro r hr;obtain ⟨o,ho⟩:=Option.isSome_iff_exists.1 hr;rcases jJ ho with ⟨h1,h2⟩ | ⟨h1,h2⟩
  ·have hXne:X≠[]:=by rintro rfl;simp [jg]at h2
   have hb:back r=(tt,r.2):=by rw [hback,h1];simp
   have hg:fin.get (tt,r.2)=some (o.map back):=by rw [hfin,if_pos ⟨hXne,rfl⟩,h2];rfl
   refine ⟨?_,fun _=> ?_,fun sz xs e=> ?_⟩
   ·show L2 (back r)=L' r;rw [hb,hL2a _ hXne rfl];congr 1;exact Prod.ext h1.symm rfl
   ·show (fin.get (back r)).isSome;rw [hb,hg];rfl
   ·show (fin.get (back r)).bind Obj.rw=_;have e':(bF.get [X,pars] r).bind Obj.rw=some (sz,xs):=e;rw [ho]at e';rw [hb,hg];simpa [Obj.ld]using e'
  ·have h3:=AB h2;have h4:r.2<ids.length:=by rw [hlen];exact (ai.1 h3).1
   obtain ⟨q,hq⟩:∃q,ids[r.2]? =some q:=⟨_,aN h4⟩
   have hb:back r=q:=by rw [hback,if_pos h1];simp [List.getD,hq]
   have hsg:sto.get q=some (o.map back):=by rw [hsto2 _ _ hq,h2];rfl
   have hns:=hnotslot q (by simp [hsg]);have hg:fin.get q=some ((o.map back).forget dead):=by rw [hfin,if_neg hns,hsg];rfl
   refine ⟨?_,fun _=> ?_,fun sz xs e=> ?_⟩
   ·show L2 (back r)=L' r;rw [hb,hL2b _ hns,<-hpar _ _ hq];congr 1;exact Prod.ext h1.symm rfl
   ·show (fin.get (back r)).isSome;rw [hb,hg];rfl
   ·show (fin.get (back r)).bind Obj.rw=_;have e':(bF.get [X,pars] r).bind Obj.rw=some (sz,xs):=e;rw [ho]at e';rw [hb,hg];simpa [Obj.ld,Obj.jP]using e'
 have hfrom:∀q ob,fin.get q=some ob->(∃r o,bF.get [X,pars] r=some o/\back r=q/\(L2 q=L' r/\L2.nest q=L'.nest r)/\(ob=o.map back\/ob=(o.map back).forget dead))\/
   (q∉ids/\¬(X≠[]/\q.1=tt)/\(L2 q=L q/\L2.nest q=L.nest q)/\∃o,s.sto.get q=some o/\ob=o.forget dead):=by
  intro q ob hq;rw [hfin]at hq;by_cases hc:X≠[]/\q.1=tt
  ·rw [if_pos hc]at hq;left;cases ho:jg X q.2 with
   | none=>simp [ho]at hq
   | some o=>
    simp [ho]at hq;refine ⟨(0,q.2),o,ho,?_,⟨hL2a q hc.1 hc.2,hN2a q hc.1 hc.2⟩,.inl hq.symm⟩;rw [hback];simp [<-hc.2]
  ·rw [if_neg hc]at hq;by_cases hm:q∈ids
   ·left;obtain ⟨i,hi⟩:=hmem q hm;rw [hsto2 i q hi]at hq;cases ho:jg pars i with
    | none=>simp [ho]at hq
    | some o=>
     simp [ho]at hq;refine ⟨(1,i),o,ho,?_,⟨?_,hN2c q i hc hi⟩,.inr hq.symm⟩
     ·rw [hback];simp [hi]
     ·rw [hL2b q hc,hpar i q hi]
   ·right;rw [hsto1 q hm]at hq;cases ho:s.sto.get q with
    | none=>simp [ho]at hq
    | some o=>simp [ho]at hq;exact ⟨hm,hc,⟨hL2b q hc,hN2b q hc hm⟩,o,rfl,hq.symm⟩
 have hsame:∀r,(s.sto.get r).isSome->dead r=false->Same (aF w Z L s.sto) (aF w' Z' L2 fin) r:=by
  intro r hr hd;by_cases hm:r∈ids
  ·obtain ⟨i,hi⟩:=hmem r hm;have hsg:(sto.get r).isSome:=by
    rw [hdead]at hd;have hc:ids.contains r=true:=by simpa using hm
    rw [hc,Bool.true_and]at hd;cases hx:sto.get r with
    | none=>simp [hx]at hd
    | some _=>rfl
   have hns:=hnotslot r hsg;rw [hsto2 i r hi]at hsg;have hps:(bF.get [X,pars] (1,i)).isSome:=by rw [kf];simpa using hsg
   obtain ⟨_,p1,p2,p3,p4⟩:=t.psame (1,i) (Nat.le_refl _) hps;have hing:bF.get [[],Ca s.sto ids] (1,i)=(s.sto.get r).map (·.map fun r=>(1,idx ids r)):=by rw [kf,yZ,hi]
   refine ⟨hL2b r hns,fun _=> ?_,fun sz xs e=> ?_,fun b hb hs'=> ?_⟩
   ·show (fin.get r).isSome;rw [hfin,if_neg hns,hsto2 i r hi];simpa using hsg
   ·have e':(s.sto.get r).bind Obj.rw=some (sz,xs):=e;obtain ⟨ys,y1,y2⟩:=p3 sz xs (by
     show (bF.get [[],Ca s.sto ids] (1,i)).bind Obj.rw=_;rw [hing];cases ho:s.sto.get r with
     | none=>simp [ho]at e'
     | some o=>simp [ho]at e';simp [Obj.ld,e'])
    have y1':(jg pars i).bind Obj.rw=some (sz,ys):=y1;refine ⟨ys,?_,y2⟩;show (fin.get r).bind Obj.rw=_;rw [hfin,if_neg hns,hsto2 i r hi];cases ho:jg pars i with
    | none=>simp [ho]at y1'
    | some o=>simp [ho]at y1';simp [Obj.ld,Obj.jP,y1']
   ·exact p4 b (by show AE ids L (1,i)=_;simpa [AE,hi]using hb) (by show (bF.get [[],Ca s.sto ids] (1,i)).isSome;rw [hing];simpa using hr)
  ·have hsg:(sto.get r).isSome:=by rw [hsto1 r hm];exact hr
   have hns:=hnotslot r hsg;refine ⟨hL2b r hns,fun _=> ?_,fun sz xs e=>⟨xs,?_,rfl⟩,fun b hb hs'=>by
    obtain ⟨o,ho⟩:=Option.isSome_iff_exists.1 hr;exact dh (hheap r o b hm ho (.inl hb))⟩
   ·show (fin.get r).isSome;rw [hfin,if_neg hns];simpa using hsg
   ·have e':(s.sto.get r).bind Obj.rw=some (sz,xs):=e;show (fin.get r).bind Obj.rw=_;rw [hfin,if_neg hns,hsto1 r hm];cases ho:s.sto.get r with
    | none=>simp [ho]at e'
    | some o=>simp [ho]at e';simp [Obj.jP,e']
 have houtlive:∀b,aW [X,pars] L' b->(∃q∈ids,∃o,s.sto.get q=some o/\o.has L q b)\/w.heap.size<=b:=fun b hl=>(t.lives b hl).imp qI id
 have hhas1:∀{q r:Id} {o ob:Obj} {b:Nat},L2 q=L' r/\L2.nest q=L'.nest r->(ob=o.map back\/ob=(o.map back).forget dead)->ob.has L2 q b->o.has L' r b:=by
  intro q r o ob b e1 e2 hb;refine (qJ e1.1 e1.2).1 (tV (f:=back) |>.1 ?_);rcases e2 with rfl | rfl
  ·exact hb
  ·exact Obj.di hb
 have hhas2:∀{q:Id} {o ob:Obj} {b:Nat},L2 q=L q/\L2.nest q=L.nest q->ob=o.forget dead->ob.has L2 q b->o.has L q b:=by
  intro q o ob b e1 e2 hb;subst e2;exact (qJ e1.1 e1.2).1 (Obj.di hb)
 have hlives:∀b,aW fin L2 b->aW [X,pars] L' b\/∃q,q∉ids/\∃o,s.sto.get q=some o/\o.has L q b:=by
  intro b hl;obtain ⟨q,ob,h1,h2⟩:=hl;rcases hfrom q ob h1 with ⟨r,o,g1,g2,g3,g4⟩ | ⟨g1,_,g2,o,g3,g4⟩
  ·exact .inl ⟨r,o,g1,hhas1 g3 g4 h2⟩
  ·exact .inr ⟨q,g1,o,g3,hhas2 g2 g4 h2⟩
 refine ⟨L2,⟨h.defers,?_,?_,?_,?_⟩,⟨t.os,t.tape,t.output,t.size,?_,?_,t.zin,?_,?_,?_⟩,?_⟩
 ·rw [henv];refine ct (c:=aF w Z L s.sto) (c':=aF w' Z' L2 fin) hzle _ _ (fun q hq=> ?_) (eX (p:=dead) s.env _ h.env);exact hsame q (dF _ _ h.env q (fo s.env q hq)) (dx s.env q hq)
 ·intro q ob hq;rcases hfrom q ob hq with ⟨r,o,g1,g2,g3,g4⟩ | ⟨g1,gc,g2,o,g3,g4⟩
  ·have hro:=k.obj r o g1;have:=yV (w:=w') (Z:=Z') (L:=L') (L':=L2) (g:=bF.get [X,pars]) (g':=fin.get) (f:=back) (r:=r) (r':=q) hro g3.1 (fun _=>g3.2) (fun p hp=>hren p (jK hro p hp));rcases g4 with g4 | g4
   ·rw [g4];exact this
   ·rw [g4];exact jQ this
  ·rw [g4];have hro:=h.obj q o g3;refine iJ (c:=aF w Z L s.sto) (c':=aF w' Z' L2 fin) hzle g2.1 g2.2 (fun b hb=>hheap q o b g1 g3 (Obj.di hb)) (fun p hp=> ?_) (jQ hro);exact hsame p (jK (jQ (p:=dead) hro) p hp) (Obj.ia o p hp)
 ·intro q q' b ob ob' ho ho' hb hb';have cross:∀r o p o',bF.get [X,pars] r=some o->o.has L' r b->p∉ids->s.sto.get p=some o'->o'.has L p b->False:=by
   intro r o p o' g1 g2 g3 g4 g5;rcases houtlive b ⟨r,o,g1,g2⟩with ⟨x,x1,o2,x2,x3⟩ | x
   ·exact g3 ((h.injH p x b o' o2 g4 x2 g5 x3) ▸ x1)
   ·have:=hlt p o' b g4 g5;omega
  rcases hfrom q ob ho with ⟨r,o,g1,g2,g3,g4⟩ | ⟨g1,_,g2,o,g3,g4⟩
  ·rcases hfrom q' ob' ho' with ⟨r',o',g1',g2',g3',g4'⟩ | ⟨g1',_,g2',o',g3',g4'⟩
   ·have:=k.injH r r' b o o' g1 g1' (hhas1 g3 g4 hb) (hhas1 g3' g4' hb');rw [<-g2,<-g2',this]
   ·exact (cross r o q' o' g1 (hhas1 g3 g4 hb) g1' g3' (hhas2 g2' g4' hb')).elim
  ·rcases hfrom q' ob' ho' with ⟨r',o',g1',g2',g3',g4'⟩ | ⟨g1',_,g2',o',g3',g4'⟩
   ·exact (cross r' o' q o g1' (hhas1 g3' g4' hb') g1 g3 (hhas2 g2 g4 hb)).elim
   ·exact h.injH q q' b o o' g3 g3' (hhas2 g2 g4 hb) (hhas2 g2' g4' hb')
 ·intro b hb;refine ⟨(k.dis b hb).1,fun hl=> ?_⟩;rcases hlives b hl with g | ⟨q,g1,o,g2,g3⟩
  ·exact (k.dis b hb).2 g
  ·rcases t.zout b hb with x | x | x
   ·exact (h.dis b x).2 ⟨q,o,g2,g3⟩
   ·have:=hlt q o b g2 g3;omega
   ·exact hout q o b g1 g2 g3 x
 ·intro b hb hnl;exact t.keep b hb fun hl=>hnl (hinlive b hl)
 ·intro b hl;rcases hlives b hl with g | ⟨q,g1,o,g2,g3⟩
  ·exact (t.lives b g).imp (hinlive b) id
  ·exact .inl ⟨q,o,g2,g3⟩
 ·intro b hb;exact (t.zout b hb).imp id fun x=>x.imp id (hinlive b)
 ·intro r hr;exact hL2b r fun ⟨h1,h2⟩=>by have:=hX h1;omega
 ·intro r hr hs';obtain ⟨ob,ho⟩:=Option.isSome_iff_exists.1 hs';have hslot:¬(X≠[]/\r.1=tt):=fun ⟨h1,h2⟩=>by have:=hX h1;omega
  have hsg:(sto.get r).isSome:=by rw [hfin,if_neg hslot]at ho;cases hx:sto.get r with
   | none=>simp [hx]at ho
   | some _=>rfl
  have hdd:dead r=false:=by
   rw [hdead];cases hx:sto.get r with
   | none=>simp [hx]at hsg
   | some _=>simp
  have hss:(s.sto.get r).isSome:=by
   by_cases hm:r∈ids
   ·exact hs r hm
   ·rw [hsto1 r hm]at hsg;exact hsg
  exact ⟨hss,hsame r hss hdd⟩
 ·have h1:=k.env;simp only [dg]at h1;obtain ⟨v',vs',e1,h2,e2⟩:=h1;subst e2;have:v'=v:=by have:[v]=[v']:=e1;injection this with this;exact this.symm
  subst this;exact yU (w:=w') (Z:=Z') (L:=L') (ob:=bF.get [X,pars]) ret _ (fun r hr=>hren r (tW _ _ h2 r hr)) h2
end
end
end Go.Vi
