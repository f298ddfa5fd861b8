import Derived.Test.YtfnagkpidcdocaaGreatM29
import Derived.Test.YtfnagkpidcdocaaGreatM39
set_option linter.all false
namespace T2
open Go Go.Vi
set_option maxRecDepth 100000
abbrev Fr:=Int×Int×List D
def dS (f:Fr):D:= .agg [.int .i64 f.1,.int .i64 f.2.1,.lst f.2.2]
def dI (f:Fr):D:= .agg [.int .i64 f.1,.int .i64 f.2.1,.own (31,4) f.2.2]
def gS (R:List Fr) (f:Fr):List D:=R.reverse.map dS++[dS f]
def gI (R:List Fr) (f:Fr):List D:=R.reverse.map dI++[dI f]
def fH (o:aJ) (fns:List D) (f:Fr):Int:=match fns[f.1.toNat]? with | some (.agg [.str _,.int _ _,.int _ _,.lst xs])=>gt (um o xs) f.2.1 | _=>0
def sL (o:aJ) (fns:List D) (f:Fr):Prop:=0<=f.1/\f.1<fns.length/\∃nm a sl xs,fns[f.1.toNat]? =some (.agg [.str nm,.int .i64 a,.int .i64 sl,.lst xs])/\0<=f.2.1/\f.2.1<xs.length/\(f.2.2.length:Int)=sl/\∀x∈f.2.2,Sl o x
def qp (o:aJ) (fns:List D):List Fr->Int
 | []=>0
 | g::R=>fH o fns g-1+qp o fns R
def Inv (o:aJ) (fns:List D) (R:List Fr) (f:Fr) (st:List D):Prop:=(R.length:Int)+1<=40/\(∀g∈R,sL o fns g/\1<=fH o fns g)/\sL o fns f/\(st.length:Int)=fH o fns f+qp o fns R/\∀x∈st,Rt o 8 x
def bx (a b:Nat×Nat):Option Vi.Obj:=some (.box [.arr a (192,3) none false,.arr b (31,4) none false])
def Ir (r:Option bW) (c:Int) (F st:List D):Prop:=
 r=some ⟨.d (.int .i64 c),[bx (1,1) (1,2),some (.orows (192,3) F),some (.rows (31,4) st)],[]⟩\/r=some ⟨.d (.int .i64 c),[bx (1,1) (0,0),some (.orows (192,3) F),none],[some (.rows (31,4) st)]⟩
 \/r=some ⟨.d (.int .i64 c),[bx (0,0) (0,1),none,none],[some (.orows (192,3) F),some (.rows (31,4) st)]⟩\/r=some ⟨.d (.int .i64 c),[bx (0,0) (1,2),none,some (.rows (31,4) st)],[some (.orows (192,3) F)]⟩
def Iu (r:Option bW) (t:AV) (c:Int) (F st:List D):Prop:=
 r=some ⟨.tup [t,.d (.int .i64 c)],[bx (1,1) (1,2),some (.rows (192,3) F),some (.rows (31,4) st)],[]⟩\/r=some ⟨.tup [t,.d (.int .i64 c)],[bx (1,1) (0,0),some (.rows (192,3) F),none],[some (.rows (31,4) st)]⟩
 \/r=some ⟨.tup [t,.d (.int .i64 c)],[bx (0,0) (0,1),none,none],[some (.rows (192,3) F),some (.rows (31,4) st)]⟩\/r=some ⟨.tup [t,.d (.int .i64 c)],[bx (0,0) (1,2),none,some (.rows (31,4) st)],[some (.rows (192,3) F)]⟩
def zT:AV:= .agg [.d (.int .i64 0),.d (.int .i64 0),.d (.str ⟨#[]⟩),.emp]
def OD (o:aJ) (c_0 c_1 fs st:List D):Option bW:=o.call 104 [.ptr (1,0) 0,.sp [.lst c_0,.lst c_1] 0] [bx (1,1) (1,2),some (.orows (192,3) fs),some (.rows (31,4) st)]
def OG (o:aJ) (c_0 c_1 fs st:List D):Option bW:=o.call 100 [.agg [.d (.lst c_0),.d (.lst c_1)],.ptr (1,0) 0] [bx (1,1) (1,2),some (.rows (192,3) fs),some (.rows (31,4) st)]
theorem ES {α:Type} {d:α->D} {R:List α} {f:α}:((R.reverse.map d++[d f]).length:Int)=R.length+1:=by simp
theorem Kn {α:Type} {d:α->D} {R:List α} {f:α}:(R.reverse.map d++[d f])[((R.length:Int)).toNat]? =some (d f):=by
 rw[Int.toNat_natCast,List.getElem?_append_right (by simp)];simp
theorem CG {α:Type} {d:α->D} {R:List α} {f:α} {x:D}:(R.reverse.map d++[d f]).set ((R.length:Int)).toNat x=R.reverse.map d++[x]:=by
 rw[Int.toNat_natCast,List.set_append_right _ _ (by simp)];simp
theorem ET {α:Type} {d:α->D} {R:List α} {f:α}:(R.reverse.map d++[d f]).take ((R.length:Int)).toNat=R.reverse.map d:=by
 rw[Int.toNat_natCast,List.take_append_of_le_length (by simp),List.take_of_length_le (by simp)]
theorem EU {α:Type} {d:α->D} {R:List α} {f g:α}:(R.reverse.map d++[d f])++[d g]=(f::R).reverse.map d++[d g]:=by simp
theorem Ko {α:Type} {d:α->D} {R:List α} {g:α}:(g::R).reverse.map d=R.reverse.map d++[d g]:=by simp
section
variable {o:aJ} (ho:aR cF bB o) {fns ps:List D} (hK:f8 fns ps) (hB:cJ o fns ps true=true)
include ho hK hB
theorem CH {f:Fr} (h:sL o fns f):∃nm a sl xs op N s to,fns[f.1.toNat]? =some (.agg [.str nm,.int .i64 a,.int .i64 sl,.lst xs])/\xs[f.2.1.toNat]? =some (.agg [.int .i64 op,.int .i64 N,.str s,.int .i64 to])/\aQ o fns ps sl xs.length (f.2.1+1) op N s to=true/\M9 xs (um o xs)/\fH o fns f=gt (um o xs) f.2.1/\
  0<=f.2.1/\f.2.1<xs.length/\(xs.length:Int)<=1500/\(f.2.2.length:Int)=sl/\sl<=400/\(∀x∈f.2.2,Sl o x)/\(∀(pc:Int) (S:List D),0<=pc->pc<xs.length->(S.length:Int)=sl->(∀x∈S,Sl o x)->sL o fns (f.1,pc,S)/\fH o fns (f.1,pc,S)=gt (um o xs) pc):=by
 obtain ⟨h0,h1,nm,a,sl,xs,hg,p0,p1,hS,hSl⟩:=h;obtain ⟨nm',a',sl',xs',hg',hA,ha,hs,hl,hF,hins⟩:=kK hK.1 ho hB h0 h1;rw[hg]at hg';injection hg' with hg';injection hg' with hg';simp only[List.cons.injEq,D.int.injEq,D.str.injEq,D.lst.injEq,true_and,and_true]at hg';obtain ⟨rfl,rfl,rfl,rfl⟩:=hg';obtain ⟨op,N,s,to,hi,hp⟩:=hins _ p0 p1;have hfH:∀(pc:Int) (S:List D),fH o fns (f.1,pc,S)=gt (um o xs) pc:=λpc S=>by
  show (match fns[f.1.toNat]? with | some (.agg [.str _,.int _ _,.int _ _,.lst xs])=>gt (um o xs) pc | _=>0)=_;rw[hg]
 exact ⟨nm,a,sl,xs,op,N,s,to,hg,hi,hp,hF.1,hfH f.2.1 f.2.2,p0,p1,hl.2,hS,hs.2,hSl,λpc S q0 q1 q2 q3=>⟨⟨h0,h1,nm,a,sl,xs,hg,q0,q1,q2,q3⟩,hfH pc S⟩⟩
theorem EV {f:Fr} (h:sL o fns f):fH o fns f<=300:=by
 obtain ⟨nm,a,sl,xs,op,N,s,to,hg,hi,hp,hH,e,p0,_⟩:=CH ho hK hB h;rw[e];exact (hH.2.2 _ _ _ _ _ p0 hi).2.1
theorem yJ:∀{R:List Fr},(∀g∈R,sL o fns g/\1<=fH o fns g)->0<=qp o fns R/\qp o fns R<=300*R.length
 | [],_=>⟨Int.le_refl _,by simp[qp]⟩
 | g::R,h=>by
  have h1:=yJ (R:=R) λx hx=>h x (by simp[hx])
  have h2:=h g (by simp);have h3:=EV ho hK hB h2.1;simp only[qp,List.length_cons];omega
theorem CI {R:List Fr} {f:Fr} {st:List D} (h:Inv o fns R f st):stk o st/\fH o fns f<=st.length:=by
 have h1:=yJ ho hK hB h.2.1;have h2:=EV ho hK hB h.2.2.1;have h3:=h.1;have h4:=h.2.2.2.1;exact ⟨⟨by omega,h.2.2.2.2⟩,by omega⟩
end
end T2
namespace T2
open Go Go.Vi
set_option maxRecDepth 100000
set_option maxHeartbeats 4000000
def Nw (o:aJ) (fns ps:List D) (R:List Fr) (f:Fr) (st:List D):Prop:=
 (∃R' f' st',Inv o fns R' f' st'/\Ir (OD o fns ps (gI R f) st) 7 (gI R' f') st'/\Iu (OG o fns ps (gS R f) st) zT 7 (gS R' f') st')
 \/(∃k n s l F,Rt o 8 (.agg [.int .i64 k,.int .i64 n,.str s,.lst l])/\Ir (OD o fns ps (gI R f) st) 0 F [.agg [.int .i64 k,.int .i64 n,.str s,.lst l]]/\Iu (OG o fns ps (gS R f) st) (.agg [.d (.int .i64 k),.d (.int .i64 n),.d (.str s),.d (.lst l)]) 0 [] [])
 \/(∃c F st' F2 st2,c≠7/\c≠0/\Ir (OD o fns ps (gI R f) st) c F st'/\Iu (OG o fns ps (gS R f) st) zT c F2 st2)
theorem qq {o:aJ} {st:List D} {t:D} (h:∀x∈st,Rt o 8 x) (ht:Rt o 8 t):∀x∈st++[t],Rt o 8 x:=by
 intro x hx;rcases List.mem_append.1 hx with h1 | h1
 ·exact h x h1
 ·rw[List.mem_singleton.1 h1];exact ht
section
variable {o:aJ} (ho:aR cF bB o) {fns ps:List D} (hK:f8 fns ps) (hB:cJ o fns ps true=true)
include ho hK hB
theorem uG {R:List Fr} {f f':Fr} {st rest:List D} {r:D×Int} (hr:HW o r)
  (hI:OD o fns ps (gI R f) st=some ⟨Ai (if r.2=0 then 7 else r.2),[bx (1,1) (0,0),Oo (gI R f'),none],[Os (if r.2=0 then rest++[r.1]else rest)]⟩)
  (hS:OG o fns ps (gS R f) st=some ⟨.tup [zT,Ai (if r.2=0 then 7 else r.2)],[bx (1,1) (0,0),Op (gS R f'),none],[Os (if r.2=0 then rest++[r.1]else rest)]⟩)
  (hN:Rt o 8 r.1->Inv o fns R f' (rest++[r.1])):Nw o fns ps R f st:=by
 obtain ⟨k,n,s,l,e,hc,hrt⟩:=hr;by_cases h0:r.2=0
 ·rw[if_pos h0,if_pos h0]at hI hS;exact .inl ⟨R,f',_,hN (hrt h0),.inr (.inl hI),.inr (.inl hS)⟩
 ·rw[if_neg h0,if_neg h0]at hI hS;exact .inr (.inr ⟨r.2,_,_,_,_,by omega,h0,.inr (.inl hI),.inr (.inl hS)⟩)
theorem DJ {R:List Fr} {f:Fr} {st:List D} (h:Inv o fns R f st):Nw o fns ps R f st:=by
 obtain ⟨hst,hle⟩:=CI ho hK hB h;obtain ⟨Q,hG,hf,hlen,hrt⟩:=h;have hf0:=hf.1;obtain ⟨nm,a,sl,xs,op,N,s,to,hg,hi,hp,hH,hfe,p0,p1,hxl,hS,hsl,hSl,hmk⟩:=CH ho hK hB hf;have hq:=hH.2.2 f.2.1 op N s to p0 hi;have ho2:=gP hp;have hk:(R.length:Int)=((gI R f).length:Int)-1:=by rw[show gI R f=R.reverse.map dI++[dI f]from rfl,ES];omega
 have hkS:(R.length:Int)=((gS R f).length:Int)-1:=by rw[show gS R f=R.reverse.map dS++[dS f]from rfl,ES];omega
 have gi:(gI R f)[((R.length:Int)).toNat]? =some (dI f):=Kn;have gs:(gS R f)[((R.length:Int)).toNat]? =some (dS f):=Kn;have setI:∀g:Fr,gI R g=(gI R f).set ((R.length:Int)).toNat (dI g):=λg=>CG.symm
 have setS:∀g:Fr,gS R g=(gS R f).set ((R.length:Int)).toNat (dS g):=λg=>CG.symm
 have htk:0<=tk op N:=by
  by_cases h8:op=8
  ·have h9:=ho2.2.2.2.2 h8;have hb:=ou fns s;have:=mo hK.1 hB (i:=jJ fns s) h9.1 (by omega);have e:tk op N=N:=by unfold tk;rw[if_pos (by omega)]
   omega
  ·exact (ho2.2.2.2.1 h8).1
 have next:op<=8->op≠8->∀st':List D,(st'.length:Int)=st.length-tk op N+1->(∀x∈st',Rt o 8 x)->Inv o fns R (f.1,f.2.1+1,f.2.2) st':=λh8 _ st' hl hx=>by
  have h1:=hq.2.2.2.2.2 h8;have h2:=hmk (f.2.1+1) f.2.2 (by omega) (by omega) hS hSl;exact ⟨Q,hG,h2.1,by rw[h2.2,h1.2];omega,hx⟩
 have hN0:op≠8->tk op N<=20:=λh8=>(ho2.2.2.2.1 h8).2
 have hz:=hst.1;unfold aQ at hp;by_cases o1:op=1
 ·subst o1;rw[if_pos rfl]at hp;have hr:=bH (ba hp).2;have i1:=Lf ho (gI R f) st fns ps hst R.length hk (by omega) (by omega) f.1 f.2.1 f.2.2 gi hSl hf0 nm a sl xs hg p0 (by omega) 1 N s to hi (f.2.1+1) rfl _ (setI (f.1,f.2.1+1,f.2.2)) rfl;have s1:=Ih ho (gS R f) st fns ps hst R.length hkS (by omega) (by omega) f.1 f.2.1 f.2.2 gs hSl hf0 nm a sl xs hg p0 (by omega) 1 N s to hi (f.2.1+1) rfl _ (setS (f.1,f.2.1+1,f.2.2)) rfl;refine .inl ⟨R,(f.1,f.2.1+1,f.2.2),_,next (by omega) (by omega) _ ?_ (qq hrt ⟨_,_,_,_,rfl,?_,λx hx=>by cases hx⟩),.inr (.inl i1),.inr (.inl s1)⟩
  ·rw[List.length_append];simp[tk]
  ·unfold jf;rw[if_pos rfl,dr (by omega)];rfl
 rw[if_neg o1]at hp;by_cases o2:op=2
 ·subst o2;rw[if_pos rfl]at hp;have hr:=(ba (ba hp).1).1;have hN:=of_decide_eq_true (ba (ba hp).1).2;have i1:=Lg ho (gI R f) st fns ps hst R.length hk (by omega) (by omega) f.1 f.2.1 f.2.2 gi hSl hf0 nm a sl xs hg p0 (by omega) 2 N s to hi (f.2.1+1) rfl _ (setI (f.1,f.2.1+1,f.2.2)) rfl;have s1:=Ii ho (gS R f) st fns ps hst R.length hkS (by omega) (by omega) f.1 f.2.1 f.2.2 gs hSl hf0 nm a sl xs hg p0 (by omega) 2 N s to hi (f.2.1+1) rfl _ (setS (f.1,f.2.1+1,f.2.2)) rfl;refine .inl ⟨R,(f.1,f.2.1+1,f.2.2),_,next (by omega) (by omega) _ ?_ (qq hrt ⟨_,_,_,_,rfl,?_,λx hx=>by cases hx⟩),.inr (.inl i1),.inr (.inl s1)⟩
  ·rw[List.length_append];simp[tk]
  ·unfold gD at hr;unfold jf;rw[if_neg (by omega),if_pos rfl,(ba hr).1];rfl
 rw[if_neg o2]at hp;by_cases o3:op=3
 ·subst o3;rw[if_pos rfl]at hp;have hr:=bH (ba hp).2;obtain ⟨x,hx0,_,hx2⟩:=ax hS hr.1 (by omega);obtain ⟨k1,k2,k3,k4,rfl⟩:=DH (hSl _ hx2);have i1:=Lh ho (gI R f) st fns ps hst R.length hk (by omega) (by omega) f.1 f.2.1 f.2.2 gi hSl hf0 nm a sl xs hg p0 (by omega) 3 N s to hi (f.2.1+1) rfl _ (setI (f.1,f.2.1+1,f.2.2)) rfl hr.1 k1 k2 k3 k4 hx0;have s1:=Ij ho (gS R f) st fns ps hst R.length hkS (by omega) (by omega) f.1 f.2.1 f.2.2 gs hSl hf0 nm a sl xs hg p0 (by omega) 3 N s to hi (f.2.1+1) rfl _ (setS (f.1,f.2.1+1,f.2.2)) rfl hr.1 k1 k2 k3 k4 hx0;cases hz:bN (.agg [.int .i64 k1,.int .i64 k2,.str k3,.lst k4]) lf
  ·rw[hz,if_neg Bool.false_ne_true]at i1 s1;have hne:=lz hz;have hrx:Rt o 8 (.agg [.int .i64 k1,.int .i64 k2,.str k3,.lst k4]):=by
    rcases hSl _ hx2 with h | h
    ·exact absurd h hne
    ·exact h
   refine .inl ⟨R,(f.1,f.2.1+1,f.2.2),_,next (by omega) (by omega) _ ?_ (qq hrt hrx),.inr (.inl i1),.inr (.inl s1)⟩;rw[List.length_append];simp[tk]
  ·rw[hz,if_pos rfl]at i1 s1;exact .inr (.inr ⟨1,_,_,_,_,by omega,by omega,.inl i1,.inl s1⟩)
 rw[if_neg o3]at hp;have valk:∀(lo hi':Int) (r:D×Int),(op=4\/op=5\/op=6)->iK N lo hi'=true->0<=lo->hi'<=20->tk op N=N->HW o r->True:=λ_ _ _ _ _ _ _ _ _=>trivial
 by_cases o4:op=4
 ·subst o4;rw[if_pos rfl]at hp;have hr:=bH (ba hp).2;have et:tk 4 N=N:=by unfold tk;simp
  have i1:=Li ho (gI R f) st fns ps hst R.length hk (by omega) (by omega) f.1 f.2.1 f.2.2 gi hSl hf0 nm a sl xs hg p0 (by omega) 4 N s to hi (f.2.1+1) rfl _ (setI (f.1,f.2.1+1,f.2.2)) rfl (by omega) (by omega) (by omega);have s1:=Ik ho (gS R f) st fns ps hst R.length hkS (by omega) (by omega) f.1 f.2.1 f.2.2 gs hSl hf0 nm a sl xs hg p0 (by omega) 4 N s to hi (f.2.1+1) rfl _ (setS (f.1,f.2.1+1,f.2.2)) rfl (by omega) (by omega) (by omega);refine uG ho hK hB (f':=(f.1,f.2.1+1,f.2.2)) (mW (o:=o) (k:=4) (λx hx=>hrt x (List.mem_of_mem_drop hx)) (by rw[List.length_drop];omega)) i1 s1 λhrr=>next (by omega) (by omega) _ ?_ (qq (λx hx=>hrt x (List.mem_of_mem_take hx)) hrr)
  rw[List.length_append,List.length_take,et];simp only[List.length_cons,List.length_nil];omega
 rw[if_neg o4]at hp;by_cases o5:op=5
 ·subst o5;rw[if_pos rfl]at hp;have hr:=bH (ba hp).2;have et:tk 5 N=N:=by unfold tk;simp
  have i1:=Lj ho (gI R f) st fns ps hst R.length hk (by omega) (by omega) f.1 f.2.1 f.2.2 gi hSl hf0 nm a sl xs hg p0 (by omega) 5 N s to hi (f.2.1+1) rfl _ (setI (f.1,f.2.1+1,f.2.2)) rfl (by omega) (by omega) (by omega);have s1:=Il ho (gS R f) st fns ps hst R.length hkS (by omega) (by omega) f.1 f.2.1 f.2.2 gs hSl hf0 nm a sl xs hg p0 (by omega) 5 N s to hi (f.2.1+1) rfl _ (setS (f.1,f.2.1+1,f.2.2)) rfl (by omega) (by omega) (by omega);refine uG ho hK hB (f':=(f.1,f.2.1+1,f.2.2)) (mW (o:=o) (k:=5) (λx hx=>hrt x (List.mem_of_mem_drop hx)) (by rw[List.length_drop];omega)) i1 s1 λhrr=>next (by omega) (by omega) _ ?_ (qq (λx hx=>hrt x (List.mem_of_mem_take hx)) hrr)
  rw[List.length_append,List.length_take,et];simp only[List.length_cons,List.length_nil];omega
 rw[if_neg o5]at hp;by_cases o6:op=6
 ·subst o6;rw[if_pos rfl]at hp;have hr:=bH (ba hp).2;have et:tk 6 N=N:=by unfold tk;simp
  have i1:=Ll ho (gI R f) st fns ps hst R.length hk (by omega) (by omega) f.1 f.2.1 f.2.2 gi hSl hf0 nm a sl xs hg p0 (by omega) 6 N s to hi (f.2.1+1) rfl _ (setI (f.1,f.2.1+1,f.2.2)) rfl (by omega) (by omega) (by omega);have s1:=Im ho (gS R f) st fns ps hst R.length hkS (by omega) (by omega) f.1 f.2.1 f.2.2 gs hSl hf0 nm a sl xs hg p0 (by omega) 6 N s to hi (f.2.1+1) rfl _ (setS (f.1,f.2.1+1,f.2.2)) rfl (by omega) (by omega) (by omega);refine uG ho hK hB (f':=(f.1,f.2.1+1,f.2.2)) (mW (o:=o) (k:=6) (λx hx=>hrt x (List.mem_of_mem_drop hx)) (by rw[List.length_drop];omega)) i1 s1 λhrr=>next (by omega) (by omega) _ ?_ (qq (λx hx=>hrt x (List.mem_of_mem_take hx)) hrr)
  rw[List.length_append,List.length_take,et];simp only[List.length_cons,List.length_nil];omega
 rw[if_neg o6]at hp;by_cases o7:op=7
 ·subst o7;have et:tk 7 N=2:=by unfold tk;simp
  have h2:2<=(st.length:Int):=by omega
  have hd:(st.drop ((st.length:Int)-2).toNat).length=2:=by rw[List.length_drop];omega
  obtain ⟨A,hA,_,hA2⟩:=ax (xs:=st.drop ((st.length:Int)-2).toNat) (n:=2) (by omega) (i:=0) (by omega) (by omega);obtain ⟨B,hB',_,hB2⟩:=ax (xs:=st.drop ((st.length:Int)-2).toNat) (n:=2) (by omega) (i:=1) (by omega) (by omega);have rA:=hrt _ (List.mem_of_mem_drop hA2);have rB:=hrt _ (List.mem_of_mem_drop hB2);obtain ⟨_,a1,a2,a3,a4,_,rfl,_⟩:=gb rA;obtain ⟨_,b1,b2,b3,b4,_,rfl,_⟩:=gb rB;have i1:=Lm ho (gI R f) st fns ps hst R.length hk (by omega) (by omega) f.1 f.2.1 f.2.2 gi hSl hf0 nm a sl xs hg p0 (by omega) 7 N s to hi (f.2.1+1) rfl _ (setI (f.1,f.2.1+1,f.2.2)) rfl h2 _ _ _ _ hA _ _ _ _ hB';have s1:=Io ho (gS R f) st fns ps hst R.length hkS (by omega) (by omega) f.1 f.2.1 f.2.2 gs hSl hf0 nm a sl xs hg p0 (by omega) 7 N s to hi (f.2.1+1) rfl _ (setS (f.1,f.2.1+1,f.2.2)) rfl h2 _ _ _ _ hA _ _ _ _ hB';refine uG ho hK hB (f':=(f.1,f.2.1+1,f.2.2)) (yI ho s rA rB) i1 s1 λhrr=>next (by omega) (by omega) _ ?_ (qq (λx hx=>hrt x (List.mem_of_mem_take hx)) hrr)
  rw[List.length_append,List.length_take,et];simp only[List.length_cons,List.length_nil];omega
 rw[if_neg o7]at hp;by_cases o8:op=8
 ·subst o8;rw[if_pos rfl]at hp;have hat:=of_decide_eq_true (ba (ba hp).1).1;have hN:=of_decide_eq_true (ba (ba hp).1).2;have et:tk 8 N=N:=by unfold tk;simp
  have hb:=ou fns s;have hlt:jJ fns s<fns.length:=by omega
  obtain ⟨nm2,a2,sl2,xs2,hg2,hA2,ha2,hs2,hl2,hF2,hins2⟩:=kK hK.1 ho hB hat hlt;have hNa:a2=N:=by
   rw[<-hN];unfold lm;rw[hg2]
  have hc3:∀{d:Fr->D},(∀g,(d g).cells.length=3)->∀x∈R.reverse.map d++[d f],x.cells.length=3:=λhd x hx=>by
   rcases List.mem_append.1 hx with h | h
   ·obtain ⟨g,_,rfl⟩:=List.mem_map.1 h;exact hd g
   ·rw[List.mem_singleton.1 h];exact hd f
  have i1:=Ln ho (gI R f) st fns ps hst R.length hk (by omega) (by omega) f.1 f.2.1 f.2.2 gi hSl hf0 nm a sl xs hg p0 (by omega) 8 N s to hi (f.2.1+1) rfl _ (setI (f.1,f.2.1+1,f.2.2)) rfl hK.1 hK.2.1 _ rfl nm2 a2 sl2 xs2 hat hg2 (by omega) (by omega) (by omega) (by omega) (hc3 λg=>rfl) (by omega);have s1:=Ip ho (gS R f) st fns ps hst R.length hkS (by omega) (by omega) f.1 f.2.1 f.2.2 gs hSl hf0 nm a sl xs hg p0 (by omega) 8 N s to hi (f.2.1+1) rfl _ (setS (f.1,f.2.1+1,f.2.2)) rfl hK.1 hK.2.1 _ rfl nm2 a2 sl2 xs2 hat hg2 (by omega) (by omega) (by omega) (by omega) (hc3 λg=>rfl) (by omega);by_cases h40:(R.length:Int)=39
  ·rw[if_pos (by omega)]at i1 s1;exact .inr (.inr ⟨5,_,_,_,_,by omega,by omega,.inl i1,.inl s1⟩)
  ·rw[if_neg (by omega)]at i1 s1;have hH2:=hF2.1;have hla:((st.drop ((st.length:Int)-N).toNat).length:Int)=N:=by rw[List.length_drop];omega
   have hsl2:((dQ sl2 (st.drop ((st.length:Int)-N).toNat)).length:Int)=sl2:=Bt (by omega);have e1:=hq.2.2.2.2.2 (by omega);have e2:=hmk (f.2.1+1) f.2.2 (by omega) (by omega) hS hSl;have hnew:fH o fns (jJ fns s,0,dQ sl2 (st.drop ((st.length:Int)-N).toNat))=0:=by
    show (match fns[(jJ fns s).toNat]? with | some (.agg [.str _,.int _ _,.int _ _,.lst xs])=>gt (um o xs) 0 | _=>0)=_;rw[hg2];exact hH2.2.1
   refine .inl ⟨(f.1,f.2.1+1,f.2.2)::R,(jJ fns s,0,dQ sl2 (st.drop ((st.length:Int)-N).toNat)),st.take ((st.length:Int)-N).toNat,⟨by simp only[List.length_cons];omega,?_,⟨hat,hlt,nm2,a2,sl2,xs2,hg2,Int.le_refl _,by show (0:Int)<_;omega,hsl2,xB λx hx=>hrt x (List.mem_of_mem_drop hx)⟩,?_,λx hx=>hrt x (List.mem_of_mem_take hx)⟩,.inr (.inr (.inl ?_)),.inr (.inr (.inl ?_))⟩
   ·intro g hg';rcases List.mem_cons.1 hg' with h | h
    ·rw[h,e2.2,e1.2];exact ⟨e2.1,by omega⟩
    ·exact hG g h
   ·rw[hnew];simp only[qp];rw[e2.2,e1.2,List.length_take,et];omega
   ·rw[<-show _=gI ((f.1,f.2.1+1,f.2.2)::R) (jJ fns s,0,dQ sl2 (st.drop ((st.length:Int)-N).toNat))from EU];exact i1
   ·rw[<-show _=gS ((f.1,f.2.1+1,f.2.2)::R) (jJ fns s,0,dQ sl2 (st.drop ((st.length:Int)-N).toNat))from EU];exact s1
 rw[if_neg o8]at hp;have top:1<=(st.length:Int)->∃k n s l,st[((st.length:Int)-1).toNat]? =some (.agg [.int .i64 k,.int .i64 n,.str s,.lst l])/\Rt o 8 (.agg [.int .i64 k,.int .i64 n,.str s,.lst l]):=λh1=>by
  obtain ⟨x,hx0,_,hx2⟩:=ax (xs:=st) rfl (i:=(st.length:Int)-1) (by omega) (by omega);have hr:=hrt x hx2;obtain ⟨_,a1,a2,a3,a4,_,rfl,_⟩:=gb hr;exact ⟨_,_,_,_,hx0,hr⟩
 by_cases o9:op=9
 ·subst o9;rw[if_pos rfl]at hp;have hpp:=(ba hp).2;have hNr:=bH (ba (ba hp).1).2;have hto:=bH (ba (ba (ba hp).1).1).2;have e1:=hq.2.2.2.2.1 rfl;have et:tk 9 N=1:=by unfold tk;simp
  obtain ⟨t0,t1,t2,t3,ht,hrt0⟩:=top (by omega);obtain ⟨_,_,⟨m,hP⟩,hPb⟩:=hK;obtain ⟨P,hP0,_,hP2⟩:=ax (xs:=ps) rfl hNr.1 (by omega);have hTP:=hP _ hP2;obtain ⟨_,q1,q2,q3,q4,_,rfl,_⟩:=bP hTP;unfold DE at hpp;rw[hP0]at hpp;have hpm:=of_decide_eq_true (ba (ba (show (iK sl 0 400&&(decide (dc o sl 10 _<=300)&&okV [] _))=true from hpp)).2).1;have i1:=Lo ho (gI R f) st fns ps hst R.length hk (by omega) (by omega) f.1 f.2.1 f.2.2 gi hSl hf0 nm a sl xs hg p0 (by omega) 9 N s to hi (f.2.1+1) rfl _ (setI (f.1,f.2.1+1,f.2.2)) rfl (by omega) _ _ _ _ ht sl hS hsl hNr.1 _ _ _ _ hP0 hTP hpm;have s1:=Iq ho (gS R f) st fns ps hst R.length hkS (by omega) (by omega) f.1 f.2.1 f.2.2 gs hSl hf0 nm a sl xs hg p0 (by omega) 9 N s to hi (f.2.1+1) rfl _ (setS (f.1,f.2.1+1,f.2.2)) rfl (by omega) _ _ _ _ ht sl hS hsl hNr.1 _ _ _ _ hP0 hTP hpm;have hbs:=lp (o:=o) 10 (.agg [.int .i64 q1,.int .i64 q2,.str q3,.lst q4]) _ f.2.2 hrt0 hSl;cases hb:(aD 10 (.agg [.int .i64 q1,.int .i64 q2,.str q3,.lst q4]) (.agg [.int .i64 t0,.int .i64 t1,.str t2,.lst t3]) f.2.2).1
  ·rw[hb,if_neg Bool.false_ne_true]at i1 s1;have e2:=hmk to f.2.2 (by omega) (by omega) hS hSl;refine .inl ⟨R,(f.1,to,f.2.2),st,⟨Q,hG,e2.1,by rw[e2.2,e1.1];omega,hrt⟩,.inl ?_,.inl ?_⟩
   ·rw[show gI R (f.1,to,f.2.2)=(gI R (f.1,f.2.1+1,f.2.2)).set ((R.length:Int)).toNat (dI (f.1,to,f.2.2))from CG.symm];exact i1
   ·rw[setS (f.1,to,f.2.2)];exact s1
  ·rw[hb,if_pos rfl]at i1 s1;have e2:=hmk (f.2.1+1) (aD 10 (.agg [.int .i64 q1,.int .i64 q2,.str q3,.lst q4]) (.agg [.int .i64 t0,.int .i64 t1,.str t2,.lst t3]) f.2.2).2 (by omega) (by omega) (by rw[hbs.1];exact hS) hbs.2;refine .inl ⟨R,(f.1,f.2.1+1,(aD 10 (.agg [.int .i64 q1,.int .i64 q2,.str q3,.lst q4]) (.agg [.int .i64 t0,.int .i64 t1,.str t2,.lst t3]) f.2.2).2),st.take ((st.length:Int)-1).toNat,⟨Q,hG,e2.1,by rw[e2.2,e1.2.2,List.length_take];omega,λx hx=>hrt x (List.mem_of_mem_take hx)⟩,.inr (.inl ?_),.inr (.inl ?_)⟩
   ·rw[show gI R (f.1,f.2.1+1,(aD 10 (.agg [.int .i64 q1,.int .i64 q2,.str q3,.lst q4]) (.agg [.int .i64 t0,.int .i64 t1,.str t2,.lst t3]) f.2.2).2)=(gI R (f.1,f.2.1+1,f.2.2)).set ((R.length:Int)).toNat (dI (f.1,f.2.1+1,(aD 10 (.agg [.int .i64 q1,.int .i64 q2,.str q3,.lst q4]) (.agg [.int .i64 t0,.int .i64 t1,.str t2,.lst t3]) f.2.2).2))from CG.symm];exact i1
   ·rw[setS (f.1,f.2.1+1,(aD 10 (.agg [.int .i64 q1,.int .i64 q2,.str q3,.lst q4]) (.agg [.int .i64 t0,.int .i64 t1,.str t2,.lst t3]) f.2.2).2)];exact s1
 rw[if_neg o9]at hp;by_cases o10:op=10
 ·subst o10;rw[if_pos rfl]at hp;have hto:=bH (ba (ba hp).1).2;have e1:=hq.2.2.2.1 rfl;have e2:=hmk to f.2.2 (by omega) (by omega) hS hSl;have i1:=Ic ho (gI R f) st fns ps hst R.length hk (by omega) (by omega) f.1 f.2.1 f.2.2 gi hSl hf0 nm a sl xs hg p0 (by omega) 10 N s to hi (f.2.1+1) rfl _ (setI (f.1,f.2.1+1,f.2.2)) rfl;have s1:=EP ho (gS R f) st fns ps hst R.length hkS (by omega) (by omega) f.1 f.2.1 f.2.2 gs hSl hf0 nm a sl xs hg p0 (by omega) 10 N s to hi (f.2.1+1) rfl _ (setS (f.1,f.2.1+1,f.2.2)) rfl;refine .inl ⟨R,(f.1,to,f.2.2),st,⟨Q,hG,e2.1,by rw[e2.2,e1];omega,hrt⟩,.inl ?_,.inl ?_⟩
  ·rw[setI (f.1,to,f.2.2)];exact i1
  ·rw[setS (f.1,to,f.2.2)];exact s1
 rw[if_neg o10]at hp;by_cases o11:op=11
 ·subst o11;have i1:=Ie ho (gI R f) st fns ps hst R.length hk (by omega) (by omega) f.1 f.2.1 f.2.2 gi hSl hf0 nm a sl xs hg p0 (by omega) 11 N s to hi (f.2.1+1) rfl _ (setI (f.1,f.2.1+1,f.2.2)) rfl;have s1:=EQ ho (gS R f) st fns ps hst R.length hkS (by omega) (by omega) f.1 f.2.1 f.2.2 gs hSl hf0 nm a sl xs hg p0 (by omega) 11 N s to hi (f.2.1+1) rfl _ (setS (f.1,f.2.1+1,f.2.2)) rfl;exact .inr (.inr ⟨2,_,_,_,_,by omega,by omega,.inl i1,.inl s1⟩)
 rw[if_neg o11]at hp;by_cases o12:op=12
 ·subst o12;have e1:=hq.2.2.1 rfl;obtain ⟨t0,t1,t2,t3,ht,hrt0⟩:=top (by omega);have i1:=Ig ho (gI R f) st fns ps hst R.length hk (by omega) (by omega) f.1 f.2.1 f.2.2 gi hSl hf0 nm a sl xs hg p0 (by omega) 12 N s to hi (f.2.1+1) rfl _ (setI (f.1,f.2.1+1,f.2.2)) rfl;have s1:=ER ho (gS R f) st fns ps hst R.length hkS (by omega) (by omega) f.1 f.2.1 f.2.2 gs hSl hf0 nm a sl xs hg p0 (by omega) 12 N s to hi (f.2.1+1) rfl _ (setS (f.1,f.2.1+1,f.2.2)) rfl (by omega) t0 t1 t2 t3 ht;have tI:(gI R f).take ((R.length:Int)).toNat=R.reverse.map dI:=ET;have tS:(gS R f).take ((R.length:Int)).toNat=R.reverse.map dS:=ET;rw[tI]at i1;rw[tS]at s1;cases R with
  | nil=>
   simp only[qp]at hlen;have hl1:st.length=1:=by omega
   have hst1:st=[.agg [.int .i64 t0,.int .i64 t1,.str t2,.lst t3]]:=by
    match st,hl1,ht with
    | [x],_,ht=>simpa using ht
   have h00:((([]:List Fr).length:Nat):Int)=0:=rfl;rw[if_pos h00]at i1 s1;refine .inr (.inl ⟨t0,t1,t2,t3,([]:List Fr).reverse.map dI,hrt0,.inr (.inr (.inr ?_)),.inr (.inr (.inl ?_))⟩)
   ·rw[hst1]at i1 |-;exact i1
   ·rw[hst1]at s1 |-;exact s1
  | cons g R=>
   rw[if_neg (by simp only[List.length_cons];omega)]at i1 s1;have hgg:=hG g (by simp);simp only[qp]at hlen;refine .inl ⟨R,g,st,⟨by simp only[List.length_cons]at Q;omega,λx hx=>hG x (by simp[hx]),hgg.1,by omega,hrt⟩,.inr (.inr (.inr ?_)),.inr (.inr (.inr ?_))⟩
   ·rw[Ko]at i1;exact i1
   ·rw[Ko]at s1;exact s1
 rw[if_neg o12]at hp;cases hp
end
end T2
