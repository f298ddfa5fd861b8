import Derived.Test.YtfnagkpidcdocaaGreatM28
import Derived.Test.YtfnagkpidcdocaaGreatProg
import Derived.KernelRfl
import Derived.Test.YtfnagkpidcdocaaGreatM29
set_option linter.all false
open Go Go.Vi Go.Proofs
namespace T2
set_option maxRecDepth 100000
set_option maxHeartbeats 4000000
variable {o:aK} (ho:aU cF bE o)
def FP (o:aK) (n:Nat):Prop:=∀ds left,Fits Tryz.prog n 25 ds->0<=left->left<=1048576->∃r,o.call 14 [.agg (ds.map .d),.d (.int .i64 left)] []=some ⟨.d (.int .i64 r),[],[]⟩/\(r= -1\/(0<=r/\r+cL ds<=left/\kO 1048576 ds))
def C4 (o:aK) (n:Nat):Prop:=∀xs left,Fits Tryz.prog n 26 [.lst xs]->0<=left->left<=1048576->∃r,o.call 15 [.d (.lst xs),.d (.int .i64 left)] []=some ⟨.d (.int .i64 r),[],[]⟩/\(r= -1\/(0<=r/\r+cnt (.lst xs)<=left/\Sm 1048576 (.lst xs)))
def Kg (o:aK) (n:Nat):Prop:=∀xs left,Fits Tryz.prog n 22 [.lst xs]->0<=left->left<=1048576->∃r,o.call 79 [.d (.lst xs),.d (.int .i64 left)] []=some ⟨.d (.int .i64 r),[],[]⟩/\(r= -1\/(0<=r/\r+cnt (.lst xs)<=left/\Sm 1048576 (.lst xs)))
def FQ (o:aK) (n:Nat):Prop:=∀xs left,Fits Tryz.prog n 23 [.lst xs]->0<=left->left<=1048576->∃r,o.call 80 [.d (.lst xs),.d (.int .i64 left)] []=some ⟨.d (.int .i64 r),[],[]⟩/\(r= -1\/(0<=r/\r+cnt (.lst xs)<=left/\Sm 1048576 (.lst xs)))
def FR (o:aK) (n:Nat):Prop:=∀ds left,Fits Tryz.prog n 62 ds->0<=left->left<=1048576->∃r,o.call 81 [.agg (ds.map .d),.d (.int .i64 left)] []=some ⟨.d (.int .i64 r),[],[]⟩/\(r= -1\/(0<=r/\r+cL ds<=left/\kO 1048576 ds))
def Nn (o:aK) (n:Nat):Prop:=∀ds left,Fits Tryz.prog n 242 ds->0<=left->left<=1048576->∃r,o.call 175 [.agg (ds.map .d),.d (.int .i64 left)] []=some ⟨.d (.int .i64 r),[],[]⟩/\(r= -1\/(0<=r/\r+cL ds<=left/\kO 1048576 ds))
def Kh (o:aK) (n:Nat):Prop:=∀ds left,Fits Tryz.prog n 245 ds->0<=left->left<=1048576->∃r,o.call 176 [.agg (ds.map .d),.d (.int .i64 left)] []=some ⟨.d (.int .i64 r),[],[]⟩/\(r= -1\/(0<=r/\r+cL ds<=left/\kO 1048576 ds))
def FU (o:aK) (n:Nat):Prop:=∀xs left,Fits Tryz.prog n 240 [.lst xs]->0<=left->left<=1048576->∃r,o.call 274 [.d (.lst xs),.d (.int .i64 left)] []=some ⟨.d (.int .i64 r),[],[]⟩/\(r= -1\/(0<=r/\r+cnt (.lst xs)<=left/\Sm 1048576 (.lst xs)))
def Ki (o:aK) (n:Nat):Prop:=∀ds left,Fits Tryz.prog n 388 ds->0<=left->left<=1048576->∃r,o.call 341 [.agg (ds.map .d),.d (.int .i64 left)] []=some ⟨.d (.int .i64 r),[],[]⟩/\(r= -1\/(0<=r/\r+cL ds<=left/\kO 1048576 ds))
def nM (o:aK) (n:Nat):Prop:=FP o n/\C4 o n/\Kg o n/\FQ o n/\FR o n/\Nn o n/\Kh o n/\FU o n/\Ki o n
theorem FV {n:Int} (h0:n<0) (h1: -9223372036854775808<=n):IntKind.i64.wrap n=n:=by
 have h2:n%(18446744073709551616:Int)=n+18446744073709551616:=by omega
 show (if (true&&decide (n%(18446744073709551616:Int)>=(9223372036854775808:Int)))=true then n%(18446744073709551616:Int)-(18446744073709551616:Int)else n%(18446744073709551616:Int))=n;rw [h2];rw [if_pos (by simp;omega)];omega
include ho
theorem nN {a b:Int} (h0:0<=a) (h1:a<=1048576) (h2:0<=b) (h3:b<=9223372036854775807):o.ar .sub .i64 a b=a-b:=by
 rw [ho.ar];simp only [Ev];by_cases h:0<=a-b
 ·exact uf h (by omega)
 ·exact FV (by omega) (by omega)
theorem BJ (c0 c1:D) (x0 x1:List D) (r0 r1:Int) (q0:o.call 79 [Al x0,Ai r0] []=Ar (Ai r1)) (b0:o.cmp .lss r1 0=true):o.call 14 [.agg [Al x0,Al x1],Ai r0] []=Ar (Ai (-1)):=by
 refine ho.aq ?_
 cbv
 rw [q0]
 cbv
 rw [b0]
 cbv
theorem BK (c0 c1:D) (x0 x1:List D) (r0 r1 r2:Int) (q0:o.call 79 [Al x0,Ai r0] []=Ar (Ai r1)) (b0:o.cmp .lss r1 0=false) (q1:o.call 80 [Al x1,Ai r1] []=Ar (Ai r2)) (b1:o.cmp .lss r2 0=true):o.call 14 [.agg [Al x0,Al x1],Ai r0] []=Ar (Ai (-1)):=by
 refine ho.aq ?_
 cbv
 rw [q0]
 cbv
 rw [b0]
 cbv
 rw [q1]
 cbv
 rw [b1]
 cbv
theorem DS (c0 c1:D) (x0 x1:List D) (r0 r1 r2:Int) (q0:o.call 79 [Al x0,Ai r0] []=Ar (Ai r1)) (b0:o.cmp .lss r1 0=false) (q1:o.call 80 [Al x1,Ai r1] []=Ar (Ai r2)) (b1:o.cmp .lss r2 0=false):o.call 14 [.agg [Al x0,Al x1],Ai r0] []=Ar (Ai r2):=by
 refine ho.aq ?_
 cbv
 rw [q0]
 cbv
 rw [b0]
 cbv
 rw [q1]
 cbv
 rw [b1]
 cbv
theorem BL (c0 c1 c2 c3:D) (x2:ByteArray) (x3:List D) (r0 r1:Int) (q0:o.ar .sub .i64 r0 (o.sLen x2)=r1) (b0:o.cmp .lss r1 0=true):o.call 81 [.agg [.d c0,.d c1,As x2,Al x3],Ai r0] []=Ar (Ai (-1)):=by
 refine ho.aq ?_
 cbv
 rw [q0]
 cbv
 rw [b0]
 cbv
theorem BM (c0 c1 c2 c3:D) (x2:ByteArray) (x3:List D) (r0 r1 r2:Int) (q0:o.ar .sub .i64 r0 (o.sLen x2)=r1) (b0:o.cmp .lss r1 0=false) (q1:o.call 15 [Al x3,Ai r1] []=Ar (Ai r2)) (b1:o.cmp .lss r2 0=true):o.call 81 [.agg [.d c0,.d c1,As x2,Al x3],Ai r0] []=Ar (Ai (-1)):=by
 refine ho.aq ?_
 cbv
 rw [q0]
 cbv
 rw [b0]
 cbv
 rw [q1]
 cbv
 rw [b1]
 cbv
theorem DT (c0 c1 c2 c3:D) (x2:ByteArray) (x3:List D) (r0 r1 r2:Int) (q0:o.ar .sub .i64 r0 (o.sLen x2)=r1) (b0:o.cmp .lss r1 0=false) (q1:o.call 15 [Al x3,Ai r1] []=Ar (Ai r2)) (b1:o.cmp .lss r2 0=false):o.call 81 [.agg [.d c0,.d c1,As x2,Al x3],Ai r0] []=Ar (Ai r2):=by
 refine ho.aq ?_
 cbv
 rw [q0]
 cbv
 rw [b0]
 cbv
 rw [q1]
 cbv
 rw [b1]
 cbv
theorem FW (c0 c1 c2 c3:D) (x0:ByteArray) (x3:List D) (r0 r1:Int) (q0:o.ar .sub .i64 r0 (o.sLen x0)=r1) (b0:o.cmp .lss r1 0=true):o.call 175 [.agg [As x0,.d c1,.d c2,Al x3],Ai r0] []=Ar (Ai (-1)):=by
 refine ho.aq ?_
 cbv
 rw [q0]
 cbv
 rw [b0]
 cbv
theorem FX (c0 c1 c2 c3:D) (x0:ByteArray) (x3:List D) (r0 r1 r2:Int) (q0:o.ar .sub .i64 r0 (o.sLen x0)=r1) (b0:o.cmp .lss r1 0=false) (q1:o.call 274 [Al x3,Ai r1] []=Ar (Ai r2)) (b1:o.cmp .lss r2 0=true):o.call 175 [.agg [As x0,.d c1,.d c2,Al x3],Ai r0] []=Ar (Ai (-1)):=by
 refine ho.aq ?_
 cbv
 rw [q0]
 cbv
 rw [b0]
 cbv
 rw [q1]
 cbv
 rw [b1]
 cbv
theorem IW (c0 c1 c2 c3:D) (x0:ByteArray) (x3:List D) (r0 r1 r2:Int) (q0:o.ar .sub .i64 r0 (o.sLen x0)=r1) (b0:o.cmp .lss r1 0=false) (q1:o.call 274 [Al x3,Ai r1] []=Ar (Ai r2)) (b1:o.cmp .lss r2 0=false):o.call 175 [.agg [As x0,.d c1,.d c2,Al x3],Ai r0] []=Ar (Ai r2):=by
 refine ho.aq ?_
 cbv
 rw [q0]
 cbv
 rw [b0]
 cbv
 rw [q1]
 cbv
 rw [b1]
 cbv
theorem DU (c0 c1 c2 c3:D) (x2:ByteArray) (x3:List D) (r0 r1:Int) (q0:o.ar .sub .i64 r0 (o.sLen x2)=r1) (b0:o.cmp .lss r1 0=true):o.call 176 [.agg [.d c0,.d c1,As x2,Al x3],Ai r0] []=Ar (Ai (-1)):=by
 refine ho.aq ?_
 cbv
 rw [q0]
 cbv
 rw [b0]
 cbv
theorem DV (c0 c1 c2 c3:D) (x2:ByteArray) (x3:List D) (r0 r1 r2:Int) (q0:o.ar .sub .i64 r0 (o.sLen x2)=r1) (b0:o.cmp .lss r1 0=false) (q1:o.call 80 [Al x3,Ai r1] []=Ar (Ai r2)) (b1:o.cmp .lss r2 0=true):o.call 176 [.agg [.d c0,.d c1,As x2,Al x3],Ai r0] []=Ar (Ai (-1)):=by
 refine ho.aq ?_
 cbv
 rw [q0]
 cbv
 rw [b0]
 cbv
 rw [q1]
 cbv
 rw [b1]
 cbv
theorem FY (c0 c1 c2 c3:D) (x2:ByteArray) (x3:List D) (r0 r1 r2:Int) (q0:o.ar .sub .i64 r0 (o.sLen x2)=r1) (b0:o.cmp .lss r1 0=false) (q1:o.call 80 [Al x3,Ai r1] []=Ar (Ai r2)) (b1:o.cmp .lss r2 0=false):o.call 176 [.agg [.d c0,.d c1,As x2,Al x3],Ai r0] []=Ar (Ai r2):=by
 refine ho.aq ?_
 cbv
 rw [q0]
 cbv
 rw [b0]
 cbv
 rw [q1]
 cbv
 rw [b1]
 cbv
theorem DW (c0 c1 c2 c3:D) (x2:ByteArray) (r0 r1:Int) (q0:o.ar .sub .i64 r0 (o.sLen x2)=r1) (b0:o.cmp .lss r1 0=true):o.call 341 [.agg [.d c0,.d c1,As x2,.d c3],Ai r0] []=Ar (Ai (-1)):=by
 refine ho.aq ?_
 cbv
 rw [q0]
 cbv
 rw [b0]
 cbv
theorem FZ (c0 c1 c2 c3:D) (x2:ByteArray) (r0 r1:Int) (q0:o.ar .sub .i64 r0 (o.sLen x2)=r1) (b0:o.cmp .lss r1 0=false):o.call 341 [.agg [.d c0,.d c1,As x2,.d c3],Ai r0] []=Ar (Ai r1):=by
 refine ho.aq ?_
 cbv
 rw [q0]
 cbv
 rw [b0]
 cbv
theorem ju {a:Int} (h:0<=a):o.cmp .lss a 0=false:=by rw [ho.cmp];simp [Vi.eV];omega
theorem nO {a:Int} (h:a<0):o.cmp .lss a 0=true:=by rw [ho.cmp];simp [Vi.eV];omega
theorem qw (xs:List D) (n:Int) (hn:o.len xs=n) (hm:n<=9223372036854775807) (hx:∀x∈xs,∃c0 c1 c2 c3,x= .agg [c0,c1,c2,c3]/\∀left,0<=left->left<=1048576->∃r,o.call 81 [.agg [.d c0,.d c1,.d c2,.d c3],Ai left] []=Ar (Ai r)/\(r= -1\/(0<=r/\r+cL [c0,c1,c2,c3]<=left/\kO 1048576 [c0,c1,c2,c3]))):∀(m:Nat) (k r:Int),0<=k->k+m=n->0<=r->r<=1048576->
  (∃r2,o.loop 1500 ⟨[Al xs,Ai r,U,U,U,Ai k,U,U,U,U,U,U,U,U,U,U,U,U,U,U,U,U,U,U,U,U,U],lY⟩=some (.exit 0,⟨[U,Ai r2,U,U,U,U,U,U,U,U,U,U,U,U,U,U,U,U,U,U,U,U,U,U,U,U,U],lY⟩)/\0<=r2/\r2+cL (xs.drop k.toNat)<=r/\∀j,k.toNat<=j->∀x,xs[j]? =some x->Sm 1048576 x)\/(∃r2,o.loop 1500 ⟨[Al xs,Ai r,U,U,U,Ai k,U,U,U,U,U,U,U,U,U,U,U,U,U,U,U,U,U,U,U,U,U],lY⟩=some (.ret,⟨[U,Ai r2,U,U,Ai (-1),U,U,U,U,U,U,U,U,U,U,U,U,U,U,U,U,U,U,U,U,U,U],lY⟩))
 | 0,k,r,h0,h,g0,g1=>by
  have hk:k=n:=by omega
  subst hk;have hl:(xs.length:Int)=k:=by rw [<-hn,ho.len]
  have h2:=jm ho k;refine .inl ⟨r,ho.ay ?_,g0,(by rw [qZ (by omega)];omega),fun j hj x hx=> ?_⟩
  ·clear hx hm g1 hl
   cbv
   repeat ((first | rw [hn] | rw [h2]);(try cbv))
  ·have:=(ai.1 hx).1;omega
 | m+1,k,r,h0,h,g0,g1=>by
  have hl:(xs.length:Int)=n:=by rw [<-hn,ho.len]
  have hk:k.toNat<xs.length:=by omega
  obtain ⟨x,hxk⟩:∃x,xs[k.toNat]? =some x:=⟨_,aN hk⟩
  obtain ⟨c0,c1,c2,c3,rfl,hc⟩:=hx x (List.mem_of_getElem? hxk);obtain ⟨r1,hc,hr⟩:=hc r g0 g1;have h2:=fX ho (show k<n by omega);have h3:=bN ho xs k _ h0 hxk;have h4:=inc ho h0 (show k<n by omega) hm;rcases hr with rfl | ⟨s0,s1,s2⟩
  ·refine .inr ⟨-1,ho.ay ?_⟩;have h5:=nO ho (show (-1:Int)<0 by omega);clear hx hl
   cbv
   repeat ((first | rw [hn] | rw [h2] | rw [h3] | rw [hc] | rw [h5]);(try cbv))
  ·have h5:=ju ho s0;have hr1:r1<=r:=by have:=bV [c0,c1,c2,c3];omega
   have ih:=qw xs n hn hm hx m (k+1) r1 (by omega) (by omega) s0 (by omega);rcases ih with ⟨r2,i1,i2,i3,i4⟩ | ⟨r2,i1⟩
   ·refine .inl ⟨r2,ho.ay ?_,i2,(by have hcd:=ig hxk;rw [show k.toNat+1=(k+1).toNat by omega]at hcd;simp only [cnt]at hcd;omega),fun j hj x hxj=> ?_⟩
    ·clear hx hl i4
     cbv
     repeat ((first | rw [hn] | rw [h2] | rw [h3] | rw [hc] | rw [h5] | rw [h4] | exact i1);(try cbv))
    ·by_cases hjk:j=k.toNat
     ·subst hjk;rw [hxk]at hxj;injection hxj with hxj;subst hxj;simpa only [Sm]using s2
     ·exact i4 j (by omega) x hxj
   ·refine .inr ⟨r2,ho.ay ?_⟩;clear hx hl
    cbv
    repeat ((first | rw [hn] | rw [h2] | rw [h3] | rw [hc] | rw [h5] | rw [h4] | exact i1);(try cbv))
theorem u6 (xs:List D) (n:Int) (hn:o.len xs=n) (hm:n<=9223372036854775807) (hx:∀x∈xs,∃c0 c1 c2 c3,x= .agg [c0,c1,c2,c3]/\∀left,0<=left->left<=1048576->∃r,o.call 175 [.agg [.d c0,.d c1,.d c2,.d c3],Ai left] []=Ar (Ai r)/\(r= -1\/(0<=r/\r+cL [c0,c1,c2,c3]<=left/\kO 1048576 [c0,c1,c2,c3]))):∀(m:Nat) (k r:Int),0<=k->k+m=n->0<=r->r<=1048576->
  (∃r2,o.loop 7900 ⟨[Al xs,Ai r,U,U,U,Ai k,U,U,U,U,U,U,U,U,U,U,U,U,U,U,U,U,U,U,U,U,U],lY⟩=some (.exit 0,⟨[U,Ai r2,U,U,U,U,U,U,U,U,U,U,U,U,U,U,U,U,U,U,U,U,U,U,U,U,U],lY⟩)/\0<=r2/\r2+cL (xs.drop k.toNat)<=r/\∀j,k.toNat<=j->∀x,xs[j]? =some x->Sm 1048576 x)\/(∃r2,o.loop 7900 ⟨[Al xs,Ai r,U,U,U,Ai k,U,U,U,U,U,U,U,U,U,U,U,U,U,U,U,U,U,U,U,U,U],lY⟩=some (.ret,⟨[U,Ai r2,U,U,Ai (-1),U,U,U,U,U,U,U,U,U,U,U,U,U,U,U,U,U,U,U,U,U,U],lY⟩))
 | 0,k,r,h0,h,g0,g1=>by
  have hk:k=n:=by omega
  subst hk;have hl:(xs.length:Int)=k:=by rw [<-hn,ho.len]
  have h2:=jm ho k;refine .inl ⟨r,ho.ay ?_,g0,(by rw [qZ (by omega)];omega),fun j hj x hx=> ?_⟩
  ·clear hx hm g1 hl
   cbv
   repeat ((first | rw [hn] | rw [h2]);(try cbv))
  ·have:=(ai.1 hx).1;omega
 | m+1,k,r,h0,h,g0,g1=>by
  have hl:(xs.length:Int)=n:=by rw [<-hn,ho.len]
  have hk:k.toNat<xs.length:=by omega
  obtain ⟨x,hxk⟩:∃x,xs[k.toNat]? =some x:=⟨_,aN hk⟩
  obtain ⟨c0,c1,c2,c3,rfl,hc⟩:=hx x (List.mem_of_getElem? hxk);obtain ⟨r1,hc,hr⟩:=hc r g0 g1;have h2:=fX ho (show k<n by omega);have h3:=bN ho xs k _ h0 hxk;have h4:=inc ho h0 (show k<n by omega) hm;rcases hr with rfl | ⟨s0,s1,s2⟩
  ·refine .inr ⟨-1,ho.ay ?_⟩;have h5:=nO ho (show (-1:Int)<0 by omega);clear hx hl
   cbv
   repeat ((first | rw [hn] | rw [h2] | rw [h3] | rw [hc] | rw [h5]);(try cbv))
  ·have h5:=ju ho s0;have hr1:r1<=r:=by have:=bV [c0,c1,c2,c3];omega
   have ih:=u6 xs n hn hm hx m (k+1) r1 (by omega) (by omega) s0 (by omega);rcases ih with ⟨r2,i1,i2,i3,i4⟩ | ⟨r2,i1⟩
   ·refine .inl ⟨r2,ho.ay ?_,i2,(by have hcd:=ig hxk;rw [show k.toNat+1=(k+1).toNat by omega]at hcd;simp only [cnt]at hcd;omega),fun j hj x hxj=> ?_⟩
    ·clear hx hl i4
     cbv
     repeat ((first | rw [hn] | rw [h2] | rw [h3] | rw [hc] | rw [h5] | rw [h4] | exact i1);(try cbv))
    ·by_cases hjk:j=k.toNat
     ·subst hjk;rw [hxk]at hxj;injection hxj with hxj;subst hxj;simpa only [Sm]using s2
     ·exact i4 j (by omega) x hxj
   ·refine .inr ⟨r2,ho.ay ?_⟩;clear hx hl
    cbv
    repeat ((first | rw [hn] | rw [h2] | rw [h3] | rw [hc] | rw [h5] | rw [h4] | exact i1);(try cbv))
theorem sH (xs:List D) (n:Int) (hn:o.len xs=n) (hm:n<=9223372036854775807) (hx:∀x∈xs,∃c0 c1 c2 c3,x= .agg [c0,c1,c2,c3]/\∀left,0<=left->left<=1048576->∃r,o.call 176 [.agg [.d c0,.d c1,.d c2,.d c3],Ai left] []=Ar (Ai r)/\(r= -1\/(0<=r/\r+cL [c0,c1,c2,c3]<=left/\kO 1048576 [c0,c1,c2,c3]))):∀(m:Nat) (k r:Int),0<=k->k+m=n->0<=r->r<=1048576->
  (∃r2,o.loop 8000 ⟨[Al xs,Ai r,U,U,U,Ai k,U,U,U,U,U,U,U,U,U,U,U,U,U,U,U,U,U,U,U,U,U],lY⟩=some (.exit 0,⟨[U,Ai r2,U,U,U,U,U,U,U,U,U,U,U,U,U,U,U,U,U,U,U,U,U,U,U,U,U],lY⟩)/\0<=r2/\r2+cL (xs.drop k.toNat)<=r/\∀j,k.toNat<=j->∀x,xs[j]? =some x->Sm 1048576 x)\/(∃r2,o.loop 8000 ⟨[Al xs,Ai r,U,U,U,Ai k,U,U,U,U,U,U,U,U,U,U,U,U,U,U,U,U,U,U,U,U,U],lY⟩=some (.ret,⟨[U,Ai r2,U,U,Ai (-1),U,U,U,U,U,U,U,U,U,U,U,U,U,U,U,U,U,U,U,U,U,U],lY⟩))
 | 0,k,r,h0,h,g0,g1=>by
  have hk:k=n:=by omega
  subst hk;have hl:(xs.length:Int)=k:=by rw [<-hn,ho.len]
  have h2:=jm ho k;refine .inl ⟨r,ho.ay ?_,g0,(by rw [qZ (by omega)];omega),fun j hj x hx=> ?_⟩
  ·clear hx hm g1 hl
   cbv
   repeat ((first | rw [hn] | rw [h2]);(try cbv))
  ·have:=(ai.1 hx).1;omega
 | m+1,k,r,h0,h,g0,g1=>by
  have hl:(xs.length:Int)=n:=by rw [<-hn,ho.len]
  have hk:k.toNat<xs.length:=by omega
  obtain ⟨x,hxk⟩:∃x,xs[k.toNat]? =some x:=⟨_,aN hk⟩
  obtain ⟨c0,c1,c2,c3,rfl,hc⟩:=hx x (List.mem_of_getElem? hxk);obtain ⟨r1,hc,hr⟩:=hc r g0 g1;have h2:=fX ho (show k<n by omega);have h3:=bN ho xs k _ h0 hxk;have h4:=inc ho h0 (show k<n by omega) hm;rcases hr with rfl | ⟨s0,s1,s2⟩
  ·refine .inr ⟨-1,ho.ay ?_⟩;have h5:=nO ho (show (-1:Int)<0 by omega);clear hx hl
   cbv
   repeat ((first | rw [hn] | rw [h2] | rw [h3] | rw [hc] | rw [h5]);(try cbv))
  ·have h5:=ju ho s0;have hr1:r1<=r:=by have:=bV [c0,c1,c2,c3];omega
   have ih:=sH xs n hn hm hx m (k+1) r1 (by omega) (by omega) s0 (by omega);rcases ih with ⟨r2,i1,i2,i3,i4⟩ | ⟨r2,i1⟩
   ·refine .inl ⟨r2,ho.ay ?_,i2,(by have hcd:=ig hxk;rw [show k.toNat+1=(k+1).toNat by omega]at hcd;simp only [cnt]at hcd;omega),fun j hj x hxj=> ?_⟩
    ·clear hx hl i4
     cbv
     repeat ((first | rw [hn] | rw [h2] | rw [h3] | rw [hc] | rw [h5] | rw [h4] | exact i1);(try cbv))
    ·by_cases hjk:j=k.toNat
     ·subst hjk;rw [hxk]at hxj;injection hxj with hxj;subst hxj;simpa only [Sm]using s2
     ·exact i4 j (by omega) x hxj
   ·refine .inr ⟨r2,ho.ay ?_⟩;clear hx hl
    cbv
    repeat ((first | rw [hn] | rw [h2] | rw [h3] | rw [hc] | rw [h5] | rw [h4] | exact i1);(try cbv))
theorem sI (xs:List D) (n:Int) (hn:o.len xs=n) (hm:n<=9223372036854775807) (hx:∀x∈xs,∃c0 c1 c2 c3,x= .agg [c0,c1,c2,c3]/\∀left,0<=left->left<=1048576->∃r,o.call 341 [.agg [.d c0,.d c1,.d c2,.d c3],Ai left] []=Ar (Ai r)/\(r= -1\/(0<=r/\r+cL [c0,c1,c2,c3]<=left/\kO 1048576 [c0,c1,c2,c3]))):∀(m:Nat) (k r:Int),0<=k->k+m=n->0<=r->r<=1048576->
  (∃r2,o.loop 27400 ⟨[Al xs,Ai r,U,U,U,Ai k,U,U,U,U,U,U,U,U,U,U,U,U,U,U,U,U,U,U,U,U,U],lY⟩=some (.exit 0,⟨[U,Ai r2,U,U,U,U,U,U,U,U,U,U,U,U,U,U,U,U,U,U,U,U,U,U,U,U,U],lY⟩)/\0<=r2/\r2+cL (xs.drop k.toNat)<=r/\∀j,k.toNat<=j->∀x,xs[j]? =some x->Sm 1048576 x)\/(∃r2,o.loop 27400 ⟨[Al xs,Ai r,U,U,U,Ai k,U,U,U,U,U,U,U,U,U,U,U,U,U,U,U,U,U,U,U,U,U],lY⟩=some (.ret,⟨[U,Ai r2,U,U,Ai (-1),U,U,U,U,U,U,U,U,U,U,U,U,U,U,U,U,U,U,U,U,U,U],lY⟩))
 | 0,k,r,h0,h,g0,g1=>by
  have hk:k=n:=by omega
  subst hk;have hl:(xs.length:Int)=k:=by rw [<-hn,ho.len]
  have h2:=jm ho k;refine .inl ⟨r,ho.ay ?_,g0,(by rw [qZ (by omega)];omega),fun j hj x hx=> ?_⟩
  ·clear hx hm g1 hl
   cbv
   repeat ((first | rw [hn] | rw [h2]);(try cbv))
  ·have:=(ai.1 hx).1;omega
 | m+1,k,r,h0,h,g0,g1=>by
  have hl:(xs.length:Int)=n:=by rw [<-hn,ho.len]
  have hk:k.toNat<xs.length:=by omega
  obtain ⟨x,hxk⟩:∃x,xs[k.toNat]? =some x:=⟨_,aN hk⟩
  obtain ⟨c0,c1,c2,c3,rfl,hc⟩:=hx x (List.mem_of_getElem? hxk);obtain ⟨r1,hc,hr⟩:=hc r g0 g1;have h2:=fX ho (show k<n by omega);have h3:=bN ho xs k _ h0 hxk;have h4:=inc ho h0 (show k<n by omega) hm;rcases hr with rfl | ⟨s0,s1,s2⟩
  ·refine .inr ⟨-1,ho.ay ?_⟩;have h5:=nO ho (show (-1:Int)<0 by omega);clear hx hl
   cbv
   repeat ((first | rw [hn] | rw [h2] | rw [h3] | rw [hc] | rw [h5]);(try cbv))
  ·have h5:=ju ho s0;have hr1:r1<=r:=by have:=bV [c0,c1,c2,c3];omega
   have ih:=sI xs n hn hm hx m (k+1) r1 (by omega) (by omega) s0 (by omega);rcases ih with ⟨r2,i1,i2,i3,i4⟩ | ⟨r2,i1⟩
   ·refine .inl ⟨r2,ho.ay ?_,i2,(by have hcd:=ig hxk;rw [show k.toNat+1=(k+1).toNat by omega]at hcd;simp only [cnt]at hcd;omega),fun j hj x hxj=> ?_⟩
    ·clear hx hl i4
     cbv
     repeat ((first | rw [hn] | rw [h2] | rw [h3] | rw [hc] | rw [h5] | rw [h4] | exact i1);(try cbv))
    ·by_cases hjk:j=k.toNat
     ·subst hjk;rw [hxk]at hxj;injection hxj with hxj;subst hxj;simpa only [Sm]using s2
     ·exact i4 j (by omega) x hxj
   ·refine .inr ⟨r2,ho.ay ?_⟩;clear hx hl
    cbv
    repeat ((first | rw [hn] | rw [h2] | rw [h3] | rw [hc] | rw [h5] | rw [h4] | exact i1);(try cbv))
theorem Ah (xs:List D) (n r0 r1:Int) (hn:o.len xs=n) (q:o.ar .sub .i64 r0 n=r1) (b:o.cmp .lss r1 0=true):o.call 15 [Al xs,Ai r0] []=Ar (Ai (-1)):=by
 refine ho.aq ?_
 cbv
 rw [hn]
 cbv
 rw [q]
 cbv
 rw [b]
 cbv
theorem BN (xs:List D) (n r0 r1:Int) (hn:o.len xs=n) (q:o.ar .sub .i64 r0 n=r1) (b:o.cmp .lss r1 0=false) (r2:Int) (l:o.loop 1500 ⟨[Al xs,Ai r1,U,U,U,Ai 0,U,U,U,U,U,U,U,U,U,U,U,U,U,U,U,U,U,U,U,U,U],lY⟩=some (.exit 0,⟨[U,Ai r2,U,U,U,U,U,U,U,U,U,U,U,U,U,U,U,U,U,U,U,U,U,U,U,U,U],lY⟩)):o.call 15 [Al xs,Ai r0] []=Ar (Ai r2):=by
 refine ho.aq ?_
 cbv
 rw [hn]
 cbv
 rw [q]
 cbv
 rw [b]
 cbv
 rw [l]
 cbv
theorem Aj (xs:List D) (n r0 r1:Int) (hn:o.len xs=n) (q:o.ar .sub .i64 r0 n=r1) (b:o.cmp .lss r1 0=false) (r2:Int) (l:o.loop 1500 ⟨[Al xs,Ai r1,U,U,U,Ai 0,U,U,U,U,U,U,U,U,U,U,U,U,U,U,U,U,U,U,U,U,U],lY⟩=some (.ret,⟨[U,Ai r2,U,U,Ai (-1),U,U,U,U,U,U,U,U,U,U,U,U,U,U,U,U,U,U,U,U,U,U],lY⟩)):o.call 15 [Al xs,Ai r0] []=Ar (Ai (-1)):=by
 refine ho.aq ?_
 cbv
 rw [hn]
 cbv
 rw [q]
 cbv
 rw [b]
 cbv
 rw [l]
 cbv
theorem IX {n:Nat} (ih:nM o n):C4 o (n+1):=by
 intro xs r0 h g0 g1;obtain ⟨ys,m,em,e_,w,v⟩:=bn Tryz.underlying26 h;injection e_ with e_;injection e_ with e_;subst e_;injection em with em;subst em;have hn:=ho.len xs;have hw:((xs.length:Nat):Int)<=9223372036854775807:=by unfold maxLen at w;omega
 have q:=nN ho g0 g1 (show (0:Int)<=((xs.length:Nat):Int) by omega) hw;by_cases hneg:r0-((xs.length:Nat):Int)<0
 ·exact ⟨-1,Ah ho xs _ r0 _ hn q (nO ho hneg),.inl rfl⟩
 ·have hx:∀x∈xs,∃c0 c1 c2 c3,x= .agg [c0,c1,c2,c3]/\∀left,0<=left->left<=1048576->∃r,o.call 81 [.agg [.d c0,.d c1,.d c2,.d c3],Ai left] []=Ar (Ai r)/\(r= -1\/(0<=r/\r+cL [c0,c1,c2,c3]<=left/\kO 1048576 [c0,c1,c2,c3])):=by
   intro x hx;obtain ⟨f1,f2⟩:=v x hx;rw [show cE Tryz.prog 62=true by unfold cE;rw [Tryz.underlying62]]at f2;cases n with
   | zero=>simp [Fits]at f1
   | succ n=>
    obtain ⟨c0,c1,c2,c3,e1,_⟩:=yB f1;have q:=fun left=>(ih.2.2.2.2.1) _ left f1
    rw [e1]at q;exact ⟨c0,c1,c2,c3,by rw [bZ f2,e1],q⟩
  rcases qw ho xs _ hn hw hx xs.length 0 (r0-((xs.length:Nat):Int)) (Int.le_refl _) (by omega) (by omega) (by omega)with ⟨r2,i1,i2,i3,i4⟩ | ⟨r2,i1⟩
  ·refine ⟨r2,BN ho xs _ r0 _ hn q (ju ho (by omega)) r2 i1,.inr ⟨i2,by simp only [cnt];simp at i3;omega,?_⟩⟩;simp only [Sm,gj];refine ⟨by omega,fun x hx=> ?_⟩;obtain ⟨j,hj⟩:=List.getElem?_of_mem hx;exact i4 j (by simp) x hj
  ·exact ⟨-1,Aj ho xs _ r0 _ hn q (ju ho (by omega)) r2 i1,.inl rfl⟩
theorem DX (xs:List D) (n r0 r1:Int) (hn:o.len xs=n) (q:o.ar .sub .i64 r0 n=r1) (b:o.cmp .lss r1 0=true):o.call 79 [Al xs,Ai r0] []=Ar (Ai (-1)):=by
 refine ho.aq ?_
 cbv
 rw [hn]
 cbv
 rw [q]
 cbv
 rw [b]
 cbv
theorem F9 (xs:List D) (n r0 r1:Int) (hn:o.len xs=n) (q:o.ar .sub .i64 r0 n=r1) (b:o.cmp .lss r1 0=false) (r2:Int) (l:o.loop 7900 ⟨[Al xs,Ai r1,U,U,U,Ai 0,U,U,U,U,U,U,U,U,U,U,U,U,U,U,U,U,U,U,U,U,U],lY⟩=some (.exit 0,⟨[U,Ai r2,U,U,U,U,U,U,U,U,U,U,U,U,U,U,U,U,U,U,U,U,U,U,U,U,U],lY⟩)):o.call 79 [Al xs,Ai r0] []=Ar (Ai r2):=by
 refine ho.aq ?_
 cbv
 rw [hn]
 cbv
 rw [q]
 cbv
 rw [b]
 cbv
 rw [l]
 cbv
theorem DY (xs:List D) (n r0 r1:Int) (hn:o.len xs=n) (q:o.ar .sub .i64 r0 n=r1) (b:o.cmp .lss r1 0=false) (r2:Int) (l:o.loop 7900 ⟨[Al xs,Ai r1,U,U,U,Ai 0,U,U,U,U,U,U,U,U,U,U,U,U,U,U,U,U,U,U,U,U,U],lY⟩=some (.ret,⟨[U,Ai r2,U,U,Ai (-1),U,U,U,U,U,U,U,U,U,U,U,U,U,U,U,U,U,U,U,U,U,U],lY⟩)):o.call 79 [Al xs,Ai r0] []=Ar (Ai (-1)):=by
 refine ho.aq ?_
 cbv
 rw [hn]
 cbv
 rw [q]
 cbv
 rw [b]
 cbv
 rw [l]
 cbv
theorem Np {n:Nat} (ih:nM o n):Kg o (n+1):=by
 intro xs r0 h g0 g1;obtain ⟨ys,m,em,e_,w,v⟩:=bn Tryz.underlying22 h;injection e_ with e_;injection e_ with e_;subst e_;injection em with em;subst em;have hn:=ho.len xs;have hw:((xs.length:Nat):Int)<=9223372036854775807:=by unfold maxLen at w;omega
 have q:=nN ho g0 g1 (show (0:Int)<=((xs.length:Nat):Int) by omega) hw;by_cases hneg:r0-((xs.length:Nat):Int)<0
 ·exact ⟨-1,DX ho xs _ r0 _ hn q (nO ho hneg),.inl rfl⟩
 ·have hx:∀x∈xs,∃c0 c1 c2 c3,x= .agg [c0,c1,c2,c3]/\∀left,0<=left->left<=1048576->∃r,o.call 175 [.agg [.d c0,.d c1,.d c2,.d c3],Ai left] []=Ar (Ai r)/\(r= -1\/(0<=r/\r+cL [c0,c1,c2,c3]<=left/\kO 1048576 [c0,c1,c2,c3])):=by
   intro x hx;obtain ⟨f1,f2⟩:=v x hx;rw [show cE Tryz.prog 242=true by unfold cE;rw [Tryz.underlying242]]at f2;cases n with
   | zero=>simp [Fits]at f1
   | succ n=>
    obtain ⟨c0,c1,c2,c3,e1,_⟩:=tR f1;have q:=fun left=>(ih.2.2.2.2.2.1) _ left f1
    rw [e1]at q;exact ⟨c0,c1,c2,c3,by rw [bZ f2,e1],q⟩
  rcases u6 ho xs _ hn hw hx xs.length 0 (r0-((xs.length:Nat):Int)) (Int.le_refl _) (by omega) (by omega) (by omega)with ⟨r2,i1,i2,i3,i4⟩ | ⟨r2,i1⟩
  ·refine ⟨r2,F9 ho xs _ r0 _ hn q (ju ho (by omega)) r2 i1,.inr ⟨i2,by simp only [cnt];simp at i3;omega,?_⟩⟩;simp only [Sm,gj];refine ⟨by omega,fun x hx=> ?_⟩;obtain ⟨j,hj⟩:=List.getElem?_of_mem hx;exact i4 j (by simp) x hj
  ·exact ⟨-1,DY ho xs _ r0 _ hn q (ju ho (by omega)) r2 i1,.inl rfl⟩
theorem BO (xs:List D) (n r0 r1:Int) (hn:o.len xs=n) (q:o.ar .sub .i64 r0 n=r1) (b:o.cmp .lss r1 0=true):o.call 80 [Al xs,Ai r0] []=Ar (Ai (-1)):=by
 refine ho.aq ?_
 cbv
 rw [hn]
 cbv
 rw [q]
 cbv
 rw [b]
 cbv
theorem DZ (xs:List D) (n r0 r1:Int) (hn:o.len xs=n) (q:o.ar .sub .i64 r0 n=r1) (b:o.cmp .lss r1 0=false) (r2:Int) (l:o.loop 8000 ⟨[Al xs,Ai r1,U,U,U,Ai 0,U,U,U,U,U,U,U,U,U,U,U,U,U,U,U,U,U,U,U,U,U],lY⟩=some (.exit 0,⟨[U,Ai r2,U,U,U,U,U,U,U,U,U,U,U,U,U,U,U,U,U,U,U,U,U,U,U,U,U],lY⟩)):o.call 80 [Al xs,Ai r0] []=Ar (Ai r2):=by
 refine ho.aq ?_
 cbv
 rw [hn]
 cbv
 rw [q]
 cbv
 rw [b]
 cbv
 rw [l]
 cbv
theorem BP (xs:List D) (n r0 r1:Int) (hn:o.len xs=n) (q:o.ar .sub .i64 r0 n=r1) (b:o.cmp .lss r1 0=false) (r2:Int) (l:o.loop 8000 ⟨[Al xs,Ai r1,U,U,U,Ai 0,U,U,U,U,U,U,U,U,U,U,U,U,U,U,U,U,U,U,U,U,U],lY⟩=some (.ret,⟨[U,Ai r2,U,U,Ai (-1),U,U,U,U,U,U,U,U,U,U,U,U,U,U,U,U,U,U,U,U,U,U],lY⟩)):o.call 80 [Al xs,Ai r0] []=Ar (Ai (-1)):=by
 refine ho.aq ?_
 cbv
 rw [hn]
 cbv
 rw [q]
 cbv
 rw [b]
 cbv
 rw [l]
 cbv
theorem Lu {n:Nat} (ih:nM o n):FQ o (n+1):=by
 intro xs r0 h g0 g1;obtain ⟨ys,m,em,e_,w,v⟩:=bn Tryz.underlying23 h;injection e_ with e_;injection e_ with e_;subst e_;injection em with em;subst em;have hn:=ho.len xs;have hw:((xs.length:Nat):Int)<=9223372036854775807:=by unfold maxLen at w;omega
 have q:=nN ho g0 g1 (show (0:Int)<=((xs.length:Nat):Int) by omega) hw;by_cases hneg:r0-((xs.length:Nat):Int)<0
 ·exact ⟨-1,BO ho xs _ r0 _ hn q (nO ho hneg),.inl rfl⟩
 ·have hx:∀x∈xs,∃c0 c1 c2 c3,x= .agg [c0,c1,c2,c3]/\∀left,0<=left->left<=1048576->∃r,o.call 176 [.agg [.d c0,.d c1,.d c2,.d c3],Ai left] []=Ar (Ai r)/\(r= -1\/(0<=r/\r+cL [c0,c1,c2,c3]<=left/\kO 1048576 [c0,c1,c2,c3])):=by
   intro x hx;obtain ⟨f1,f2⟩:=v x hx;rw [show cE Tryz.prog 245=true by unfold cE;rw [Tryz.underlying245]]at f2;cases n with
   | zero=>simp [Fits]at f1
   | succ n=>
    obtain ⟨c0,c1,c2,c3,e1,_⟩:=tT f1;have q:=fun left=>(ih.2.2.2.2.2.2.1) _ left f1
    rw [e1]at q;exact ⟨c0,c1,c2,c3,by rw [bZ f2,e1],q⟩
  rcases sH ho xs _ hn hw hx xs.length 0 (r0-((xs.length:Nat):Int)) (Int.le_refl _) (by omega) (by omega) (by omega)with ⟨r2,i1,i2,i3,i4⟩ | ⟨r2,i1⟩
  ·refine ⟨r2,DZ ho xs _ r0 _ hn q (ju ho (by omega)) r2 i1,.inr ⟨i2,by simp only [cnt];simp at i3;omega,?_⟩⟩;simp only [Sm,gj];refine ⟨by omega,fun x hx=> ?_⟩;obtain ⟨j,hj⟩:=List.getElem?_of_mem hx;exact i4 j (by simp) x hj
  ·exact ⟨-1,BP ho xs _ r0 _ hn q (ju ho (by omega)) r2 i1,.inl rfl⟩
theorem BQ (xs:List D) (n r0 r1:Int) (hn:o.len xs=n) (q:o.ar .sub .i64 r0 n=r1) (b:o.cmp .lss r1 0=true):o.call 274 [Al xs,Ai r0] []=Ar (Ai (-1)):=by
 refine ho.aq ?_
 cbv
 rw [hn]
 cbv
 rw [q]
 cbv
 rw [b]
 cbv
theorem D0 (xs:List D) (n r0 r1:Int) (hn:o.len xs=n) (q:o.ar .sub .i64 r0 n=r1) (b:o.cmp .lss r1 0=false) (r2:Int) (l:o.loop 27400 ⟨[Al xs,Ai r1,U,U,U,Ai 0,U,U,U,U,U,U,U,U,U,U,U,U,U,U,U,U,U,U,U,U,U],lY⟩=some (.exit 0,⟨[U,Ai r2,U,U,U,U,U,U,U,U,U,U,U,U,U,U,U,U,U,U,U,U,U,U,U,U,U],lY⟩)):o.call 274 [Al xs,Ai r0] []=Ar (Ai r2):=by
 refine ho.aq ?_
 cbv
 rw [hn]
 cbv
 rw [q]
 cbv
 rw [b]
 cbv
 rw [l]
 cbv
theorem BR (xs:List D) (n r0 r1:Int) (hn:o.len xs=n) (q:o.ar .sub .i64 r0 n=r1) (b:o.cmp .lss r1 0=false) (r2:Int) (l:o.loop 27400 ⟨[Al xs,Ai r1,U,U,U,Ai 0,U,U,U,U,U,U,U,U,U,U,U,U,U,U,U,U,U,U,U,U,U],lY⟩=some (.ret,⟨[U,Ai r2,U,U,Ai (-1),U,U,U,U,U,U,U,U,U,U,U,U,U,U,U,U,U,U,U,U,U,U],lY⟩)):o.call 274 [Al xs,Ai r0] []=Ar (Ai (-1)):=by
 refine ho.aq ?_
 cbv
 rw [hn]
 cbv
 rw [q]
 cbv
 rw [b]
 cbv
 rw [l]
 cbv
theorem Lv {n:Nat} (ih:nM o n):FU o (n+1):=by
 intro xs r0 h g0 g1;obtain ⟨ys,m,em,e_,w,v⟩:=bn Tryz.underlying240 h;injection e_ with e_;injection e_ with e_;subst e_;injection em with em;subst em;have hn:=ho.len xs;have hw:((xs.length:Nat):Int)<=9223372036854775807:=by unfold maxLen at w;omega
 have q:=nN ho g0 g1 (show (0:Int)<=((xs.length:Nat):Int) by omega) hw;by_cases hneg:r0-((xs.length:Nat):Int)<0
 ·exact ⟨-1,BQ ho xs _ r0 _ hn q (nO ho hneg),.inl rfl⟩
 ·have hx:∀x∈xs,∃c0 c1 c2 c3,x= .agg [c0,c1,c2,c3]/\∀left,0<=left->left<=1048576->∃r,o.call 341 [.agg [.d c0,.d c1,.d c2,.d c3],Ai left] []=Ar (Ai r)/\(r= -1\/(0<=r/\r+cL [c0,c1,c2,c3]<=left/\kO 1048576 [c0,c1,c2,c3])):=by
   intro x hx;obtain ⟨f1,f2⟩:=v x hx;rw [show cE Tryz.prog 388=true by unfold cE;rw [Tryz.underlying388]]at f2;cases n with
   | zero=>simp [Fits]at f1
   | succ n=>
    obtain ⟨c0,c1,c2,c3,e1,_⟩:=yC f1;have q:=fun left=>(ih.2.2.2.2.2.2.2.2) _ left f1
    rw [e1]at q;exact ⟨c0,c1,c2,c3,by rw [bZ f2,e1],q⟩
  rcases sI ho xs _ hn hw hx xs.length 0 (r0-((xs.length:Nat):Int)) (Int.le_refl _) (by omega) (by omega) (by omega)with ⟨r2,i1,i2,i3,i4⟩ | ⟨r2,i1⟩
  ·refine ⟨r2,D0 ho xs _ r0 _ hn q (ju ho (by omega)) r2 i1,.inr ⟨i2,by simp only [cnt];simp at i3;omega,?_⟩⟩;simp only [Sm,gj];refine ⟨by omega,fun x hx=> ?_⟩;obtain ⟨j,hj⟩:=List.getElem?_of_mem hx;exact i4 j (by simp) x hj
  ·exact ⟨-1,BR ho xs _ r0 _ hn q (ju ho (by omega)) r2 i1,.inl rfl⟩
theorem Lw {n:Nat} (ih:nM o n):FP o (n+1):=by
 intro ds r0 h g0 u0;obtain ⟨ac0,ac1,rfl,ah0,ah1⟩:=yA h;have k0:=ah0;obtain ⟨x0,m0,em0,e_,w0,v0⟩:=bn Tryz.underlying22 ah0;injection e_ with e_;subst e_;have k1:=ah1;obtain ⟨x1,m1,em1,e_,w1,v1⟩:=bn Tryz.underlying23 ah1;injection e_ with e_;subst e_;obtain ⟨r1,q0,hr1⟩:=(ih.2.2.1) x0 r0 k0 g0 u0;rcases hr1 with e0 | ⟨g1,yy0,s0⟩
 ·subst e0;exact ⟨-1,BJ ho (.lst []) (.lst []) x0 x1 r0 (-1) q0 (nO ho (by omega)),.inl rfl⟩
 have y0:=Int.le_trans (Int.le_add_of_nonneg_right (r9 _)) yy0;have u1:r1<=1048576:=by omega
 obtain ⟨r2,q1,hr2⟩:=(ih.2.2.2.1) x1 r1 k1 g1 u1;rcases hr2 with e1 | ⟨g2,yy1,s1⟩
 ·subst e1;exact ⟨-1,BK ho (.lst []) (.lst []) x0 x1 r0 r1 (-1) q0 (ju ho g1) q1 (nO ho (by omega)),.inl rfl⟩
 have y1:=Int.le_trans (Int.le_add_of_nonneg_right (r9 _)) yy1;have u2:r2<=1048576:=by omega
 refine ⟨r2,DS ho (.lst []) (.lst []) x0 x1 r0 r1 r2 q0 (ju ho g1) q1 (ju ho g2),.inr ⟨g2,(by simp only [cL,cnt]at*;omega),?_⟩⟩;simp only [Sm,kO]at*;simp [*]
theorem Lx {n:Nat} (ih:nM o n):FR o (n+1):=by
 intro ds r0 h g0 u0;obtain ⟨ac0,ac1,ac2,ac3,rfl,ah0,ah1,ah2,ah3⟩:=yB h;obtain ⟨x0,e_,w0⟩:=fits_int Tryz.underlying3 ah0;injection e_ with e_;subst e_;obtain ⟨x1,e_,w1⟩:=fits_int Tryz.underlying3 ah1;injection e_ with e_;subst e_;obtain ⟨x2,e_,w2⟩:=fu Tryz.underlying9 ah2;injection e_ with e_;subst e_;have k3:=ah3;obtain ⟨x3,m3,em3,e_,w3,v3⟩:=bn Tryz.underlying26 ah3;injection e_ with e_;subst e_;have l0:=ho.sLen x2;have z0:((x2.size:Nat):Int)<=9223372036854775807:=by unfold maxLen at w2;omega
 have q0:o.ar .sub .i64 r0 (o.sLen x2)=r0-((x2.size:Nat):Int):=by rw [l0];exact nN ho g0 u0 (by omega) z0
 generalize hr1:r0-((x2.size:Nat):Int)=r1 at q0;by_cases n0:r1<0
 ·exact ⟨-1,BL ho (.int .i64 x0) (.int .i64 x1) (.lst []) (.lst []) x2 x3 r0 r1 q0 (nO ho n0),.inl rfl⟩
 have g1:0<=r1:=by omega
 have u1:r1<=1048576:=by omega
 have y0:r1<=r0:=by omega
 have s0:x2.size<=1048576:=by omega
 obtain ⟨r2,q1,hr2⟩:=(ih.2.1) x3 r1 k3 g1 u1;rcases hr2 with e1 | ⟨g2,yy1,s1⟩
 ·subst e1;exact ⟨-1,BM ho (.int .i64 x0) (.int .i64 x1) (.lst []) (.lst []) x2 x3 r0 r1 (-1) q0 (ju ho g1) q1 (nO ho (by omega)),.inl rfl⟩
 have y1:=Int.le_trans (Int.le_add_of_nonneg_right (r9 _)) yy1;have u2:r2<=1048576:=by omega
 refine ⟨r2,DT ho (.int .i64 x0) (.int .i64 x1) (.lst []) (.lst []) x2 x3 r0 r1 r2 q0 (ju ho g1) q1 (ju ho g2),.inr ⟨g2,(by simp only [cL,cnt]at*;omega),?_⟩⟩;simp only [Sm,kO]at*;simp [*]
theorem Od {n:Nat} (ih:nM o n):Nn o (n+1):=by
 intro ds r0 h g0 u0;obtain ⟨ac0,ac1,ac2,ac3,rfl,ah0,ah1,ah2,ah3⟩:=tR h;obtain ⟨x0,e_,w0⟩:=fu Tryz.underlying9 ah0;injection e_ with e_;subst e_;obtain ⟨x1,e_,w1⟩:=fits_int Tryz.underlying3 ah1;injection e_ with e_;subst e_;obtain ⟨x2,e_,w2⟩:=fits_int Tryz.underlying3 ah2;injection e_ with e_;subst e_;have k3:=ah3;obtain ⟨x3,m3,em3,e_,w3,v3⟩:=bn Tryz.underlying240 ah3;injection e_ with e_;subst e_;have l0:=ho.sLen x0;have z0:((x0.size:Nat):Int)<=9223372036854775807:=by unfold maxLen at w0;omega
 have q0:o.ar .sub .i64 r0 (o.sLen x0)=r0-((x0.size:Nat):Int):=by rw [l0];exact nN ho g0 u0 (by omega) z0
 generalize hr1:r0-((x0.size:Nat):Int)=r1 at q0;by_cases n0:r1<0
 ·exact ⟨-1,FW ho (.lst []) (.int .i64 x1) (.int .i64 x2) (.lst []) x0 x3 r0 r1 q0 (nO ho n0),.inl rfl⟩
 have g1:0<=r1:=by omega
 have u1:r1<=1048576:=by omega
 have y0:r1<=r0:=by omega
 have s0:x0.size<=1048576:=by omega
 obtain ⟨r2,q1,hr2⟩:=(ih.2.2.2.2.2.2.2.1) x3 r1 k3 g1 u1;rcases hr2 with e1 | ⟨g2,yy1,s1⟩
 ·subst e1;exact ⟨-1,FX ho (.lst []) (.int .i64 x1) (.int .i64 x2) (.lst []) x0 x3 r0 r1 (-1) q0 (ju ho g1) q1 (nO ho (by omega)),.inl rfl⟩
 have y1:=Int.le_trans (Int.le_add_of_nonneg_right (r9 _)) yy1;have u2:r2<=1048576:=by omega
 refine ⟨r2,IW ho (.lst []) (.int .i64 x1) (.int .i64 x2) (.lst []) x0 x3 r0 r1 r2 q0 (ju ho g1) q1 (ju ho g2),.inr ⟨g2,(by simp only [cL,cnt]at*;omega),?_⟩⟩;simp only [Sm,kO]at*;simp [*]
theorem Nq {n:Nat} (ih:nM o n):Kh o (n+1):=by
 intro ds r0 h g0 u0;obtain ⟨ac0,ac1,ac2,ac3,rfl,ah0,ah1,ah2,ah3⟩:=tT h;obtain ⟨x0,e_,w0⟩:=fits_int Tryz.underlying3 ah0;injection e_ with e_;subst e_;obtain ⟨x1,e_,w1⟩:=fits_int Tryz.underlying3 ah1;injection e_ with e_;subst e_;obtain ⟨x2,e_,w2⟩:=fu Tryz.underlying9 ah2;injection e_ with e_;subst e_;have k3:=ah3;obtain ⟨x3,m3,em3,e_,w3,v3⟩:=bn Tryz.underlying23 ah3;injection e_ with e_;subst e_;have l0:=ho.sLen x2;have z0:((x2.size:Nat):Int)<=9223372036854775807:=by unfold maxLen at w2;omega
 have q0:o.ar .sub .i64 r0 (o.sLen x2)=r0-((x2.size:Nat):Int):=by rw [l0];exact nN ho g0 u0 (by omega) z0
 generalize hr1:r0-((x2.size:Nat):Int)=r1 at q0;by_cases n0:r1<0
 ·exact ⟨-1,DU ho (.int .i64 x0) (.int .i64 x1) (.lst []) (.lst []) x2 x3 r0 r1 q0 (nO ho n0),.inl rfl⟩
 have g1:0<=r1:=by omega
 have u1:r1<=1048576:=by omega
 have y0:r1<=r0:=by omega
 have s0:x2.size<=1048576:=by omega
 obtain ⟨r2,q1,hr2⟩:=(ih.2.2.2.1) x3 r1 k3 g1 u1;rcases hr2 with e1 | ⟨g2,yy1,s1⟩
 ·subst e1;exact ⟨-1,DV ho (.int .i64 x0) (.int .i64 x1) (.lst []) (.lst []) x2 x3 r0 r1 (-1) q0 (ju ho g1) q1 (nO ho (by omega)),.inl rfl⟩
 have y1:=Int.le_trans (Int.le_add_of_nonneg_right (r9 _)) yy1;have u2:r2<=1048576:=by omega
 refine ⟨r2,FY ho (.int .i64 x0) (.int .i64 x1) (.lst []) (.lst []) x2 x3 r0 r1 r2 q0 (ju ho g1) q1 (ju ho g2),.inr ⟨g2,(by simp only [cL,cnt]at*;omega),?_⟩⟩;simp only [Sm,kO]at*;simp [*]
theorem Nr {n:Nat} (ih:nM o n):Ki o (n+1):=by
 intro ds r0 h g0 u0;obtain ⟨ac0,ac1,ac2,ac3,rfl,ah0,ah1,ah2,ah3⟩:=yC h;obtain ⟨x0,e_,w0⟩:=fits_int Tryz.underlying3 ah0;injection e_ with e_;subst e_;obtain ⟨x1,e_,w1⟩:=fits_int Tryz.underlying3 ah1;injection e_ with e_;subst e_;obtain ⟨x2,e_,w2⟩:=fu Tryz.underlying9 ah2;injection e_ with e_;subst e_;obtain ⟨x3,e_,w3⟩:=fits_int Tryz.underlying3 ah3;injection e_ with e_;subst e_;have l0:=ho.sLen x2;have z0:((x2.size:Nat):Int)<=9223372036854775807:=by unfold maxLen at w2;omega
 have q0:o.ar .sub .i64 r0 (o.sLen x2)=r0-((x2.size:Nat):Int):=by rw [l0];exact nN ho g0 u0 (by omega) z0
 generalize hr1:r0-((x2.size:Nat):Int)=r1 at q0;by_cases n0:r1<0
 ·exact ⟨-1,DW ho (.int .i64 x0) (.int .i64 x1) (.lst []) (.int .i64 x3) x2 r0 r1 q0 (nO ho n0),.inl rfl⟩
 have g1:0<=r1:=by omega
 have u1:r1<=1048576:=by omega
 have y0:r1<=r0:=by omega
 have s0:x2.size<=1048576:=by omega
 refine ⟨r1,FZ ho (.int .i64 x0) (.int .i64 x1) (.lst []) (.int .i64 x3) x2 r0 r1 q0 (ju ho g1),.inr ⟨g1,(by simp only [cL,cnt]at*;omega),?_⟩⟩;simp only [Sm,kO]at*;simp [*]
theorem F_:∀n,nM o n
 | 0=>by
  unfold nM;refine ⟨?_,?_,?_,?_,?_,?_,?_,?_,?_⟩<;>(intro x l h;simp [Fits]at h)
 | n+1=>have ih:=F_ n;⟨Lw ho ih,IX ho ih,Np ho ih,Lu ho ih,Lx ho ih,Od ho ih,Nq ho ih,Lv ho ih,Nr ho ih⟩
end T2
namespace T2
open Go Go.Vi Go.Proofs
set_option maxRecDepth 100000
set_option maxHeartbeats 4000000
section
variable {o:aK} (ho:aU cF bE o)
include ho
def fY (i:Int) (t:ByteArray):St:=⟨E 20 [(0,Ai i),(3,As t)],O 20 []⟩
def iW (t:ByteArray):St:=⟨E 20 [(3,As t)],O 20 []⟩
theorem rG {i n1 n2 n3:Int} {s1 t s2:ByteArray} {n4:Int} (e1:o.cmp .gtr i 0=true) (e3:o.ar .rem .i64 i 10=n1) (e4:o.ar .add .i64 48 n1=n2) (e5:o.wrap .u8 n2=n3) (e6:o.ofBytes [.int .u8 n3]=some s1) (e7:o.qB s1 t=true) (e8:o.yI s1 t=s2) (e9:o.ar .quo .i64 i 10=n4):∀z,o.loop 9600 (fY n4 s2)=some z->o.loop 9600 (fY i t)=some z:=by
 intro z hz;refine ho.ay ?_;rw [<-hz];clear hz;have f2:o.isZero 10=false:=by rw [ho.isZero];rfl
 cbv
 repeat' (first | (rw [e1];try cbv) | (rw [f2];try cbv) | (rw [e3];try cbv) | (rw [e4];try cbv) | (rw [e5];try cbv) | (rw [e6];try cbv) | (rw [e7];try cbv) | (rw [e8];try cbv) | (rw [e9];try cbv))
theorem rH {i:Int} {t:ByteArray} (e1:o.cmp .gtr i 0=false):o.loop 9600 (fY i t)=some (.exit 0,iW t):=by
 refine ho.ay ?_
 cbv
 repeat' (first | (rw [e1];try cbv))
theorem u_ {a0:Int} (e1:o.cmp .leq a0 0=true):o.call 96 [Ai a0] []=Ar (As ⟨#[109,48]⟩):=by
 refine ho.aq ?_
 cbv
 repeat' (first | (rw [e1];try cbv))
theorem ve {a0:Int} {s1 s2:ByteArray} (e1:o.cmp .leq a0 0=false) (e2:o.loop 9600 (fY a0 ⟨#[]⟩)=some (.exit 0,iW s1)) (e3:o.qB ⟨#[109]⟩ s1=true) (e4:o.yI ⟨#[109]⟩ s1=s2):o.call 96 [Ai a0] []=Ar (As s2):=by
 refine ho.aq ?_
 cbv at e2
 cbv
 repeat' (first | (rw [e1];try cbv) | (rw [e2];try cbv) | (rw [e3];try cbv) | (rw [e4];try cbv))
theorem vg {k:Int} {c_0:List D} {n1:Int} {l1 c_1:List D} {n2:Int} {l2:List D} (e1:o.call 94 [.arr (1,0) (226,4) none true,Ai k] [some (.orows (226,4) c_0)]=some ⟨Ai n1,[some (.orows (226,4) l1)],[]⟩) (e2:o.call 95 [.arr (1,0) (249,4) none true,Ai n1] [some (.orows (249,4) c_1)]=some ⟨Ai n2,[some (.orows (249,4) l2)],[]⟩):o.call 23 [.agg [.arr (1,0) (226,4) none true,.arr (1,1) (249,4) none true],Ai k] [some (.orows (226,4) c_0),some (.orows (249,4) c_1)]=some ⟨Ai n2,[some (.orows (226,4) l1),some (.orows (249,4) l2)],[]⟩:=by
 refine ho.aq ?_
 cbv
 repeat' (first | (rw [e1];try cbv) | (rw [e2];try cbv))
theorem vh {k:Int} {l:List D} {n1:Int} {l1:List D} {m n:Int} {s:ByteArray} (e1:o.call 24 [.arr (1,0) (31,4) none false,Ai k] [Oq l]=some ⟨Ai n1,[Oq l1],[]⟩):o.call 25 [.agg [Ai m,Ai n,As s,.arr (1,0) (31,4) none false],Ai k] [Oq l]=some ⟨Ai n1,[Oq l1],[]⟩:=by
 refine ho.aq ?_
 cbv
 repeat' (first | (rw [e1];try cbv))
theorem tA {k n1 m n:Int} {s:ByteArray} (e1:o.call 24 [.emp,Ai k] []=Ar (Ai n1)):o.call 25 [.agg [Ai m,Ai n,As s,.emp],Ai k] []=Ar (Ai n1):=by
 refine ho.aq ?_
 cbv
 repeat' (first | (rw [e1];try cbv))
theorem nQ {l:List D} {k n1 m n:Int} {s:ByteArray} (e1:o.call 97 [Al l,Ai k] []=Ar (Ai n1)) (e2:o.cmp .lss n1 0=false):o.call 26 [At m n s l,Ai k] []=Ar (Ai n1):=by
 refine ho.aq ?_
 cbv
 repeat' (first | (rw [e1];try cbv) | (rw [e2];try cbv))
def mW (k:Int):St:=⟨E 42 [(0,.emp),(1,Ai k),(5,Ai 0)],O 42 []⟩
def kG (k:Int):St:=⟨E 42 [(1,Ai k)],O 42 []⟩
theorem qA {k:Int}:o.loop 2400 (mW k)=some (.exit 0,kG k):=by
 refine ho.ay ?_;have f1:o.cmp .lss 0 0=false:=by rw [ho.cmp];rfl
 cbv
 repeat' (first | (rw [f1];try cbv))
theorem rI {k:Int} (e1:o.loop 2400 (mW k)=some (.exit 0,kG k)):o.call 24 [.emp,Ai k] []=Ar (Ai k):=by
 refine ho.aq ?_
 cbv at e1
 cbv
 repeat' (first | (rw [e1];try cbv))
theorem pD {a1:ByteArray} {n1:Int} {a0_0 a0_1 a2:List D} {a3:Int} (e1:o.sLen a1=n1) (e2:o.cmp .gtr n1 1048576=true):o.call 3 [.agg [Al a0_0,Al a0_1],As a1,Al a2,Ai a3] []=Ar (Ab true):=by
 refine ho.aq ?_
 cbv
 repeat' (first | (rw [e1];try cbv) | (rw [e2];try cbv))
theorem pE {a1:ByteArray} {n1:Int} {a0_0 a0_1:List D} {n2:Int} {a2:List D} {a3:Int} (e1:o.sLen a1=n1) (e2:o.cmp .gtr n1 1048576=false) (e3:o.call 14 [.agg [Al a0_0,Al a0_1],Ai 1048576] []=Ar (Ai n2)) (e4:o.cmp .lss n2 0=true):o.call 3 [.agg [Al a0_0,Al a0_1],As a1,Al a2,Ai a3] []=Ar (Ab true):=by
 refine ho.aq ?_
 cbv
 repeat' (first | (rw [e1];try cbv) | (rw [e2];try cbv) | (rw [e3];try cbv) | (rw [e4];try cbv))
theorem pF {a1:ByteArray} {n1:Int} {a0_0 a0_1:List D} {n2:Int} {a2:List D} {n3 a3:Int} (e1:o.sLen a1=n1) (e2:o.cmp .gtr n1 1048576=false) (e3:o.call 14 [.agg [Al a0_0,Al a0_1],Ai 1048576] []=Ar (Ai n2)) (e4:o.cmp .lss n2 0=false) (e5:o.call 15 [Al a2,Ai n2] []=Ar (Ai n3)) (e6:o.cmp .lss n3 0=true):o.call 3 [.agg [Al a0_0,Al a0_1],As a1,Al a2,Ai a3] []=Ar (Ab true):=by
 refine ho.aq ?_
 cbv
 repeat' (first | (rw [e1];try cbv) | (rw [e2];try cbv) | (rw [e3];try cbv) | (rw [e4];try cbv) | (rw [e5];try cbv) | (rw [e6];try cbv))
theorem oP {a1:ByteArray} {n1:Int} {a0_0 a0_1:List D} {n2:Int} {a2:List D} {n3:Int} {l1 l2 l3 l4 l5 l6:List D} {a3 n4 n5:Int} {s1:ByteArray} {l7:List D} {n6 n7 n8:Int} {s2:ByteArray} {l8 l9:List D} {n9:Int} {l10 l11:List D} {n10:Int} {l12:List D} {n11:Int} {l13 l14:List D} {n12:Int} (e1:o.sLen a1=n1) (e2:o.cmp .gtr n1 1048576=false) (e3:o.call 14 [.agg [Al a0_0,Al a0_1],Ai 1048576] []=Ar (Ai n2)) (e4:o.cmp .lss n2 0=false) (e5:o.call 15 [Al a2,Ai n2] []=Ar (Ai n3)) (e6:o.cmp .lss n3 0=false) (e7:o.call 17 [.agg [Al a0_0,Al a0_1]] []=some ⟨.agg [.arr (0,0) (226,4) none true,.arr (0,1) (249,4) none true],[],[some (.orows (226,4) l1),some (.orows (249,4) l2)]⟩) (e8:o.call 18 [Al a2] []=some ⟨.arr (0,0) (31,4) none true,[],[Oq l3]⟩) (e9:o.fk l1=l4) (e10:o.fk l2=l5) (e11:o.fk l3=l6) (e12:o.call 16 [.agg [Al l4,Al l5],As a1,Al l6,Ai a3] []=Ar (.tup [At n4 n5 s1 l7,Ai n6])) (e13:o.call 19 [.agg [Al l4,Al l5],As a1,Al l6,Ai a3] []=some ⟨.tup [.agg [Ai n7,Ai n8,As s2,.arr (0,0) (31,4) none false],Ai 0],[],[Oq l8]⟩) (e14:o.closed l8=true) (e15:o.fk l8=l9) (e16:o.call 20 [At n7 n8 s2 l9,At n4 n5 s1 l7] []=Ar (Ab true)) (e17:o.cmp .neq 0 n6=false) (e18:o.call 21 [.agg [Al l4,Al l5],.agg [Al l4,Al l5]] []=Ar (Ab true)) (e19:o.call 22 [Al l6,Al l6] []=Ar (Ab true)) (e20:o.call 23 [.agg [.arr (1,0) (226,4) none true,.arr (1,1) (249,4) none true],Ai 1] [some (.orows (226,4) l1),some (.orows (249,4) l2)]=some ⟨Ai n9,[some (.orows (226,4) l10),some (.orows (249,4) l11)],[]⟩) (e21:o.call 24 [.arr (1,0) (31,4) none true,Ai n9] [Oq l3]=some ⟨Ai n10,[Oq l12],[]⟩) (e22:o.cmp .lss n10 0=false) (e23:o.call 25 [.agg [Ai n7,Ai n8,As s2,.arr (1,0) (31,4) none false],Ai 1] [Oq l8]=some ⟨Ai n11,[Oq l13],[]⟩) (e24:o.fk l13=l14) (e25:o.call 26 [At n7 n8 s2 l14,Ai 1] []=Ar (Ai n12)) (e26:o.cmp .lss n12 0=false) (e27:o.cmp .neq n12 n11=false):o.call 3 [.agg [Al a0_0,Al a0_1],As a1,Al a2,Ai a3] []=Ar (Ab true):=by
 refine ho.aq ?_
 cbv
 repeat' (first | (rw [e1];try cbv) | (rw [e2];try cbv) | (rw [e3];try cbv) | (rw [e4];try cbv) | (rw [e5];try cbv) | (rw [e6];try cbv) | (rw [e7];try cbv) | (rw [e8];try cbv) | (rw [e9];try cbv) | (rw [e10];try cbv) | (rw [e11];try cbv) | (rw [e12];try cbv) | (rw [e13];try cbv) | (rw [e14];try cbv) | (rw [e15];try cbv) | (rw [e16];try cbv) | (rw [e17];try cbv) | (rw [e18];try cbv) | (rw [e19];try cbv) | (rw [e20];try cbv) | (rw [e21];try cbv) | (rw [e22];try cbv) | (rw [e23];try cbv) | (rw [e24];try cbv) | (rw [e25];try cbv) | (rw [e26];try cbv) | (rw [e27];try cbv))
theorem oQ {a1:ByteArray} {n1:Int} {a0_0 a0_1:List D} {n2:Int} {a2:List D} {n3:Int} {l1 l2 l3 l4 l5 l6:List D} {a3 n4 n5:Int} {s1:ByteArray} {l7:List D} {n6 n7 n8:Int} {l8 l9:List D} {n9:Int} {l10:List D} {n10 n11:Int} (e1:o.sLen a1=n1) (e2:o.cmp .gtr n1 1048576=false) (e3:o.call 14 [.agg [Al a0_0,Al a0_1],Ai 1048576] []=Ar (Ai n2)) (e4:o.cmp .lss n2 0=false) (e5:o.call 15 [Al a2,Ai n2] []=Ar (Ai n3)) (e6:o.cmp .lss n3 0=false) (e7:o.call 17 [.agg [Al a0_0,Al a0_1]] []=some ⟨.agg [.arr (0,0) (226,4) none true,.arr (0,1) (249,4) none true],[],[some (.orows (226,4) l1),some (.orows (249,4) l2)]⟩) (e8:o.call 18 [Al a2] []=some ⟨.arr (0,0) (31,4) none true,[],[Oq l3]⟩) (e9:o.fk l1=l4) (e10:o.fk l2=l5) (e11:o.fk l3=l6) (e12:o.call 16 [.agg [Al l4,Al l5],As a1,Al l6,Ai a3] []=Ar (.tup [At n4 n5 s1 l7,Ai n6])) (e13:o.call 19 [.agg [Al l4,Al l5],As a1,Al l6,Ai a3] []=Ar (.tup [.agg [Ai 0,Ai 0,As ⟨#[]⟩,.emp],Ai n7])) (e14:o.call 20 [At 0 0 ⟨#[]⟩ [],At n4 n5 s1 l7] []=Ar (Ab true)) (e15:o.cmp .neq n7 n6=false) (e16:o.call 21 [.agg [Al l4,Al l5],.agg [Al l4,Al l5]] []=Ar (Ab true)) (e17:o.call 22 [Al l6,Al l6] []=Ar (Ab true)) (e18:o.call 23 [.agg [.arr (1,0) (226,4) none true,.arr (1,1) (249,4) none true],Ai 1] [some (.orows (226,4) l1),some (.orows (249,4) l2)]=some ⟨Ai n8,[some (.orows (226,4) l8),some (.orows (249,4) l9)],[]⟩) (e19:o.call 24 [.arr (1,0) (31,4) none true,Ai n8] [Oq l3]=some ⟨Ai n9,[Oq l10],[]⟩) (e20:o.cmp .lss n9 0=false) (e21:o.call 25 [.agg [Ai 0,Ai 0,As ⟨#[]⟩,.emp],Ai 1] []=Ar (Ai n10)) (e22:o.call 26 [At 0 0 ⟨#[]⟩ [],Ai 1] []=Ar (Ai n11)) (e23:o.cmp .lss n11 0=false) (e24:o.cmp .neq n11 n10=false):o.call 3 [.agg [Al a0_0,Al a0_1],As a1,Al a2,Ai a3] []=Ar (Ab true):=by
 refine ho.aq ?_
 cbv
 repeat' (first | (rw [e1];try cbv) | (rw [e2];try cbv) | (rw [e3];try cbv) | (rw [e4];try cbv) | (rw [e5];try cbv) | (rw [e6];try cbv) | (rw [e7];try cbv) | (rw [e8];try cbv) | (rw [e9];try cbv) | (rw [e10];try cbv) | (rw [e11];try cbv) | (rw [e12];try cbv) | (rw [e13];try cbv) | (rw [e14];try cbv) | (rw [e15];try cbv) | (rw [e16];try cbv) | (rw [e17];try cbv) | (rw [e18];try cbv) | (rw [e19];try cbv) | (rw [e20];try cbv) | (rw [e21];try cbv) | (rw [e22];try cbv) | (rw [e23];try cbv) | (rw [e24];try cbv))
theorem Gg (c:Int):∃t,o.ofBytes [.int .u8 c]=some t/\t.size=1:=⟨⟨#[UInt8.ofNat c.toNat]⟩,by rw [ho.ofBytes];rfl,rfl⟩
theorem sJ {a b:ByteArray} (h:a.size+b.size<=2000):o.qB a b=true:=by
 rw [ho.qB];simp only [decide_eq_true_eq];have:IntKind.i64.max=9223372036854775807:=rfl;rw [this];omega
theorem C_:∀(q:Nat) (k:Int) (u:ByteArray),0<=k->k<=9223372036854775807->k<10^q->u.size+q<=1000->∃s,o.loop 9600 (fY k u)=some (.exit 0,iW s)/\s.size<=1000
 | q,k,
     u,h0,hk9,h1,h2=>by
  rcases fe ho k 0 with ⟨e,g⟩ | ⟨e,g⟩
  ·exact ⟨u,rH ho e,by omega⟩
  ·cases q with
   | zero=>simp at h1;omega
   | succ q=>
    obtain ⟨t,ht,hts⟩:=Gg ho (o.wrap .u8 (o.ar .add .i64 48 (o.ar .rem .i64 k 10)));have hq:o.ar .quo .i64 k 10=k/10:=by
     rw [ho.ar];simp only [Ev];rw [Int.tdiv_eq_ediv_of_nonneg h0];exact uf (by omega) (by omega)
    obtain ⟨s,i1,i2⟩:=C_ q (k/10) (o.yI t u) (by omega) (by omega) (by rw [Int.pow_succ]at h1;omega) (by rw [ho.yI,ByteArray.size_append];omega);exact ⟨s,rG ho e rfl rfl rfl ht (sJ ho (by omega)) rfl hq _ i1,i2⟩
theorem mt:MT o:=by
 intro k h0 h1;rcases jy ho k 0 with ⟨e,g⟩ | ⟨e,g⟩
 ·obtain ⟨s,i1,i2⟩:=C_ ho 19 k ⟨#[]⟩ h0 (by omega) (by omega) (by decide);exact ⟨_,ve ho e i1 (sJ ho (by have:ByteArray.size ⟨#[109]⟩=1:=rfl;omega)) rfl⟩
 ·exact ⟨_,u_ ho e⟩
omit ho in
theorem Ly {k m:Int} {s:ByteArray} {l:List D} (h:iP o k m s l=true):(Lit.int .i64 k).wf=true/\(Lit.int .i64 m).wf=true:=by
 have e0:∀i:Int,-1000000000000<=i->i<=1000000000000->(Lit.int .i64 i).wf=true:=fun i a b=>by simp [Lit.wf,IntKind.min,IntKind.max,IntKind.signed,IntKind.bits];omega
 unfold iP at h;split at h
 ·simp only [ah]at h;have:=cT h.1.1;exact ⟨e0 _ (by omega) (by omega),e0 _ (by omega) (by omega)⟩
 split at h
 ·simp only [ah,decide_eq_true_eq]at h;exact ⟨e0 _ (by omega) (by omega),e0 _ (by omega) (by omega)⟩
 split at h
 ·simp only [ah]at h;have:=cT h.1.1;exact ⟨e0 _ (by omega) (by omega),e0 _ (by omega) (by omega)⟩
 split at h
 ·simp only [ah,decide_eq_true_eq]at h;exact ⟨e0 _ (by omega) (by omega),e0 _ (by omega) (by omega)⟩
 split at h
 ·simp only [ah,decide_eq_true_eq]at h;exact ⟨e0 _ (by omega) (by omega),e0 _ (by omega) (by omega)⟩
 ·cases h
omit ho in
theorem Gh:∀{n:Nat} {d:D},Ot o n d->Own Tryz.prog (2*n) 31 d.cells/\d.many=true
 | 0,d,h=>h.elim
 | n+1,d,⟨k,m,s,l,e,h,hl⟩=>by
  subst e;have hw:=Ly h;have hb:=ga h;rw [cj]at hb;refine ⟨?_,rfl⟩;rw [show 2*(n+1)=2*n+1+1 by omega];exact CU ⟨vZ Tryz.underlying3 hw.1,vZ Tryz.underlying3 hw.2,Cq Tryz.underlying9 (by unfold maxLen;omega),kA Tryz.underlying29 Ae (by unfold maxLen;omega) fun x hx=>by
   obtain ⟨a,b⟩:=Gh (hl x hx);exact ⟨a,by rw [b];unfold cE;rw [Tryz.underlying31]⟩⟩
omit ho in
theorem Da {c:Int}:∀{l:List D},(∀x∈l,cnt x<=c)->cL l<=l.length*c
 | [],_=>by simp [cL]
 | x::l,h=>by
  have:=h x (by simp);have:=Da (l:=l) fun y hy=>h y (by simp [hy])
  simp only [cL,List.length_cons];rw [show ((l.length+1:Nat):Int)*c=l.length*c+c by rw [Int.natCast_add,Int.add_mul];simp];omega
def cB:Nat->Int
 | 0=>0
 | n+1=>60+60*cB n
omit ho in
theorem Kk:∀n,0<=cB n
 | 0=>Int.le_refl _
 | n+1=>by have:=Kk n;show 0<=60+60*cB n;omega
omit ho in
theorem Gi:∀{n:Nat} {d:D},Ot o n d->cnt d<=cB n
 | 0,d,h=>h.elim
 | n+1,d,⟨k,m,s,l,e,h,hl⟩=>by
  subst e;have hb:=ga h;rw [cj]at hb;have:=Da fun x hx=>Gi (hl x hx)
  have h2:(l.length:Int)*cB n<=60*cB n:=Int.mul_le_mul_of_nonneg_right hb.2 (Kk n);show cnt _<=60+60*cB n;simp only [cnt,cL];omega
end
end T2
namespace T2
open Go Go.Vi Go.Proofs
set_option maxRecDepth 100000
def twins:List (TypeId×TypeId):=[(25,37),(22,34),(242,226),(240,216),(388,224),(23,35),(245,249),(26,29),(62,31),(3,3),(9,9)]
theorem Gj:Ks Tryz.prog twins=true:=by kernel_rfl
def Lz:List TypeId:=[37,34,226,216,224,35,249,29,31,3,9]
theorem LA:rY Tryz.prog Lz=true:=by kernel_rfl
section
variable {o:aK} (ho:aU cF bE o)
include ho
theorem D3 {n n2:Nat} {ds xs:List D} (hf:Fits Tryz.prog n 25 ds) (s:ByteArray) (hx:Fits Tryz.prog n2 26 [.lst xs]) (q:Int):o.call 3 [.agg (ds.map .d),As s,Al xs,Ai q] []=Ar (Ab true):=by
 obtain ⟨left,e3,hl⟩:=(F_ ho n).1 ds 1048576 hf (by omega) (Int.le_refl _);obtain ⟨fns,ps,rfl⟩:∃fns ps,ds=[.lst fns,.lst ps]:=by
  cases n with
  | zero=>simp [Fits]at hf
  | succ n=>
   obtain ⟨c0,c1,rfl,g0,g1⟩:=yA hf;obtain ⟨fns,_,_,e_,_⟩:=bn Tryz.underlying22 g0;injection e_ with e_;subst e_;obtain ⟨ps,_,_,e_,_⟩:=bn Tryz.underlying23 g1;injection e_ with e_;subst e_;exact ⟨fns,ps,rfl⟩
 simp only [List.map_cons,List.map_nil]at e3 |-;obtain ⟨n1,e1,g1⟩:=uh ho s;rcases fe ho n1 1048576 with ⟨e2,g2⟩ | ⟨e2,g2⟩
 rotate_left
 ·exact pD ho e1 e2
 rcases hl with rfl | ⟨hl0,hl1,hsm⟩
 ·exact pE ho e1 e2 e3 (GZ ho (by omega))
 have e4:=yD ho hl0;obtain ⟨r2,e5,hr⟩:=(F_ ho n2).2.1 xs left hx hl0 (by have:=bV [D.lst fns,.lst ps];omega);rcases hr with rfl | ⟨hr0,hr1,hsx⟩
 ·exact pF ho e1 e2 e3 e4 e5 (GZ ho (by omega))
 have e6:=yD ho hr0;obtain ⟨_,_,he,hK⟩:=D1 ho hf hsm;simp only [List.cons.injEq,D.lst.injEq,and_true]at he;obtain ⟨rfl,rfl⟩:=he;have hT:=Ga ho hx hsx;have hxl:(xs.length:Int)<=1048576:=by simp only [Sm]at hsx;omega
 obtain ⟨x0,y0,x1,y1,ed,e7,hO,fA,fB⟩:=(sG ho n).1 _ hf hsm;simp only [List.cons.injEq,D.lst.injEq,and_true]at ed;obtain ⟨rfl,rfl⟩:=ed;obtain ⟨ys,e8,fC,hO2⟩:=(sG ho n2).2.1 xs hx hsx;simp only [List.map_cons,List.map_nil]at e7;obtain ⟨c,k,m,s',l',eI,eS⟩:=BB ho hK q s xs hT hxl;have ec:=(Ag ho n).2.1 _ (xL Gj n 25 37 _ (by decide) hf);have et:=(Ag ho n2).2.2.1 xs (xL Gj n2 26 29 _ (by decide) hx);simp only [List.map_cons,List.map_nil]at ec;have cA:cL y0=cL fns:=by rw [<-fA,iZ]
 have lA:y0.length=fns.length:=by rw [<-fA,cj]
 have cB':cL y1=cL ps:=by rw [<-fB,iZ]
 have lB:y1.length=ps.length:=by rw [<-fB,cj]
 have cC:cL ys=cL xs:=by rw [<-fC,iZ]
 have lC:ys.length=xs.length:=by rw [<-fC,cj]
 have a0:=bV fns;have a1:=bV ps;have a2:=bV xs;simp only [cL,cnt]at hl1 hr1;cases n with
 | zero=>simp [Fits]at hf
 | succ n=>
 obtain ⟨d0,d1,e_,oA,oB⟩:=Nd hO;simp only [List.cons.injEq,and_true]at e_;obtain ⟨rfl,rfl⟩:=e_;obtain ⟨z0,k1,C0,_,q0,r0⟩:=(qz ho (T2.mt ho) n).2.1 y0 oA 1 true (by omega) (by simp only [cnt];omega);simp only [cnt]at r0;obtain ⟨z1,k2,C1,_,q1,r1⟩:=(qz ho (T2.mt ho) n).2.2.1 y1 oB k1 true (by omega) (by simp only [cnt];omega);simp only [cnt]at r1;obtain ⟨z2,k3,C2,_,q2,r2'⟩:=(qz ho (T2.mt ho) n2).1 ys hO2 k2 true (by omega) (by simp only [cnt];omega);have m0:=vg ho C0 C1;rcases eI with ⟨⟨rfl,rfl,rfl,rfl⟩,e13⟩ | ⟨rfl,zs,hz,hOt,e13⟩
 ·have q4:=(Ag ho 2).1 [.int .i64 0,.int .i64 0,.str ⟨#[]⟩,.lst []] (FA ⟨(by simp only [Fits,Tryz.underlying3];exact ⟨0,rfl,by decide⟩),(by simp only [Fits,Tryz.underlying3];exact ⟨0,rfl,by decide⟩),(by simp only [Fits,Tryz.underlying9];exact ⟨_,rfl,by decide⟩),Bc Tryz.underlying29 (by decide) (fun x hx=>by cases hx)⟩);simp only [List.map_cons,List.map_nil]at q4;have h4:o.call 97 [Al [],Ai 1] []=Ar (Ai 1):=qx ho [] 1 1 (j7 ho [] 0 rfl (by omega) 0 0 1 1 (Int.le_refl _) rfl (by simp [Chain]));exact oQ ho e1 e2 e3 e4 e5 e6 e7 e8 (by rw [ho.fk];exact fA) (by rw [ho.fk];exact fB) (by rw [ho.fk];exact fC) eS e13 q4 (eq_int ho _) ec et m0 C2 (yD ho (by omega)) (tA ho (rI ho (qA ho))) (nQ ho h4 (yD ho (by omega))) (yD ho (by omega)) (eq_int ho _)
 ·have hw:=(Gh hOt).1;have hq:=GX _ _ _ hw;obtain ⟨d0,d1,d2,d3,e_,_,_,_,o3⟩:=J_ hw;simp only [D.cells,List.cons.injEq,and_true]at e_;obtain ⟨rfl,rfl,rfl,rfl⟩:=e_;simp only [D.cells,aV,bD,hz]at hq;have q4:=(Ag ho _).1 _ hq;simp only [List.map_cons,List.map_nil]at q4;have hc:=Gi hOt;simp only [cnt,cL]at hc;have h60:cB 8<=100000000000000000:=by decide
  have a3:=bV zs;obtain ⟨z3,k4,C3,H3,q3,r3⟩:=(qz ho (T2.mt ho) _).1 zs o3 1 false (by omega) (by simp only [cnt];omega);exact oP ho e1 e2 e3 e4 e5 e6 e7 e8 (by rw [ho.fk];exact fA) (by rw [ho.fk];exact fB) (by rw [ho.fk];exact fC) eS e13
   (by rw [ho.closed];have:=Cp LA _ _ _ (by decide) o3;simpa [cP,gk]using this) (by rw [ho.fk];exact hz) q4 (eq_int ho _) ec et m0 C2 (yD ho (by omega)) (vh ho C3) (ho.fk z3) (nQ ho H3 (yD ho (by omega))) (yD ho (by omega)) (eq_int ho _)
end
end T2
