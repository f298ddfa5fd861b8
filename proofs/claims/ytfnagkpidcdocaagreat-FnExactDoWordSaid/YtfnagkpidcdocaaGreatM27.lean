import Derived.Test.YtfnagkpidcdocaaGreatM26
set_option linter.all false
namespace T2
open Go Go.Vi
set_option maxRecDepth 100000
abbrev Fr:=Int×Int×Lq
def dS (f:Fr):D:= .agg [.int .i64 f.1,.int .i64 f.2.1,.lst f.2.2]
def dI (f:Fr):D:= .agg [.int .i64 f.1,.int .i64 f.2.1,.own (31,4) f.2.2]
def gS (R:List Fr) (f:Fr):Lq:=R.reverse.map dS++[dS f]
def gI (R:List Fr) (f:Fr):Lq:=R.reverse.map dI++[dI f]
def fH (o:aM) (fns:Lq) (f:Fr):Int:=match fns[f.1.toNat]? with | some (.agg [.str _,.int _ _,.int _ _,.lst xs])=>gt (D6 o xs) f.2.1 | _=>0
def GN (o:aM) (fns:Lq) (f:Fr):Prop:=0<=f.1/\f.1<fns.length/\∃nm a sl xs,fns[f.1.toNat]? =some (.agg [.str nm,.int .i64 a,.int .i64 sl,.lst xs])/\0<=f.2.1/\f.2.1<xs.length/\(f.2.2.length:Int)=sl/\∀x∈f.2.2,Sl o x
def zm (o:aM) (fns:Lq):List Fr->Int
 | []=>0
 | g::R=>fH o fns g-1+zm o fns R
def Inv (o:aM) (fns:Lq) (R:List Fr) (f:Fr) (st:Lq):Prop:=(R.length:Int)+1<=40/\(∀g∈R,GN o fns g/\1<=fH o fns g)/\GN o fns f/\(st.length:Int)=fH o fns f+zm o fns R/\∀x∈st,Rt o 8 x
def bx (a b:Nat×Nat):Option Vi.Obj:=some (.box [.arr a (192,3) none false,.arr b (31,4) none false])
def SB (r:Option cn) (c:Int) (F st:Lq):Prop:=
 r=some ⟨.d (.int .i64 c),[bx (1,1) (1,2),some (.orows (192,3) F),some (.rows (31,4) st)],[]⟩\/r=some ⟨.d (.int .i64 c),[bx (1,1) (0,0),some (.orows (192,3) F),none],[some (.rows (31,4) st)]⟩
 \/r=some ⟨.d (.int .i64 c),[bx (0,0) (0,1),none,none],[some (.orows (192,3) F),some (.rows (31,4) st)]⟩\/r=some ⟨.d (.int .i64 c),[bx (0,0) (1,2),none,some (.rows (31,4) st)],[some (.orows (192,3) F)]⟩
def SC (r:Option cn) (t:AV) (c:Int) (F st:Lq):Prop:=
 r=some ⟨.tup [t,.d (.int .i64 c)],[bx (1,1) (1,2),some (.rows (192,3) F),some (.rows (31,4) st)],[]⟩\/r=some ⟨.tup [t,.d (.int .i64 c)],[bx (1,1) (0,0),some (.rows (192,3) F),none],[some (.rows (31,4) st)]⟩
 \/r=some ⟨.tup [t,.d (.int .i64 c)],[bx (0,0) (0,1),none,none],[some (.rows (192,3) F),some (.rows (31,4) st)]⟩\/r=some ⟨.tup [t,.d (.int .i64 c)],[bx (0,0) (1,2),none,some (.rows (31,4) st)],[some (.rows (192,3) F)]⟩
def zT:AV:= .agg [.d (.int .i64 0),.d (.int .i64 0),.d (.str ⟨#[]⟩),.emp]
def Se (o:aM) (c_0 c_1 fs st:Lq):Option cn:=o.call 104 [.ptr (1,0) 0,.sp [.lst c_0,.lst c_1] 0] [bx (1,1) (1,2),some (.orows (192,3) fs),some (.rows (31,4) st)]
def Sf (o:aM) (c_0 c_1 fs st:Lq):Option cn:=o.call 100 [.agg [.d (.lst c_0),.d (.lst c_1)],.ptr (1,0) 0] [bx (1,1) (1,2),some (.rows (192,3) fs),some (.rows (31,4) st)]
theorem ND {α:Type} {d:α->D} {R:List α} {f:α}:((R.reverse.map d++[d f]).length:Int)=R.length+1:=by simp
theorem NE {α:Type} {d:α->D} {R:List α} {f:α}:(R.reverse.map d++[d f])[((R.length:Int)).toNat]? =some (d f):=by
 rw[Int.toNat_natCast,List.getElem?_append_right (by simp)];simp
theorem FB {α:Type} {d:α->D} {R:List α} {f:α} {x:D}:(R.reverse.map d++[d f]).set ((R.length:Int)).toNat x=R.reverse.map d++[x]:=by
 rw[Int.toNat_natCast,List.set_append_right _ _ (by simp)];simp
theorem Iv {α:Type} {d:α->D} {R:List α} {f:α}:(R.reverse.map d++[d f]).take ((R.length:Int)).toNat=R.reverse.map d:=by
 rw[Int.toNat_natCast,List.take_append_of_le_length (by simp),List.take_of_length_le (by simp)]
theorem Iw {α:Type} {d:α->D} {R:List α} {f g:α}:(R.reverse.map d++[d f])++[d g]=(f::R).reverse.map d++[d g]:=by simp
theorem NG {α:Type} {d:α->D} {R:List α} {g:α}:(g::R).reverse.map d=R.reverse.map d++[d g]:=by simp
section
variable {o:aM} (ho:aQ cu bw o) {fns ps:Lq} (hK:jZ fns ps) (hB:eB o fns ps true=true)
include ho hK hB
theorem NH {f:Fr} (h:GN o fns f):∃nm a sl xs op N s to,fns[f.1.toNat]? =some (.agg [.str nm,.int .i64 a,.int .i64 sl,.lst xs])/\xs[f.2.1.toNat]? =some (.agg [.int .i64 op,.int .i64 N,.str s,.int .i64 to])/\aV o fns ps sl xs.length (f.2.1+1) op N s to=true/\Sb xs (D6 o xs)/\fH o fns f=gt (D6 o xs) f.2.1/\
  0<=f.2.1/\f.2.1<xs.length/\(xs.length:Int)<=1500/\(f.2.2.length:Int)=sl/\sl<=400/\(∀x∈f.2.2,Sl o x)/\(∀(pc:Int) (S:Lq),0<=pc->pc<xs.length->(S.length:Int)=sl->(∀x∈S,Sl o x)->GN o fns (f.1,pc,S)/\fH o fns (f.1,pc,S)=gt (D6 o xs) pc):=by
 obtain ⟨J,M,nm,a,sl,xs,j,O,p1,U,hSl⟩:=h;obtain ⟨a0,a',sl',xs',e,hA,ha,V,hl,hF,I⟩:=pF hK.1 ho hB J M;rw[j]at e;injection e with e;injection e with e;simp only[List.cons.injEq,D.int.injEq,D.str.injEq,D.lst.injEq,true_and,and_true]at e;obtain ⟨rfl,rfl,rfl,rfl⟩:=e;obtain ⟨op,N,s,to,hi,hp⟩:=I _ O p1;have E:∀(pc:Int) (S:Lq),fH o fns (f.1,pc,S)=gt (D6 o xs) pc:=λpc S=>by
  show (match fns[f.1.toNat]? with | some (.agg [.str _,.int _ _,.int _ _,.lst xs])=>gt (D6 o xs) pc | _=>0)=_;rw[j]
 exact ⟨nm,a,sl,xs,op,N,s,to,j,hi,hp,hF.1,E f.2.1 f.2.2,O,p1,hl.2,U,V.2,hSl,λpc S q0 q1 q2 q3=>⟨⟨J,M,nm,a,sl,xs,j,q0,q1,q2,q3⟩,E pc S⟩⟩
theorem NI {f:Fr} (h:GN o fns f):fH o fns f<=300:=by
 obtain ⟨nm,a,sl,xs,op,N,s,to,I,hi,J,j,e,E,_⟩:=NH ho hK hB h;rw[e];exact (j.2.2 _ _ _ _ _ E hi).2.1
theorem FC:∀{R:List Fr},(∀g∈R,GN o fns g/\1<=fH o fns g)->0<=zm o fns R/\zm o fns R<=300*R.length
 | [],_=>⟨Int.le_refl _,by simp[zm]⟩
 | g::R,h=>by
  have E:=FC (R:=R) λx e=>h x (by simp[e])
  have j:=h g (by simp);have h3:=NI ho hK hB j.1;simp only[zm,List.length_cons];omega
theorem LO {R:List Fr} {f:Fr} {st:Lq} (h:Inv o fns R f st):stk o st/\fH o fns f<=st.length:=by
 have e:=FC ho hK hB h.2.1;have j:=NI ho hK hB h.2.2.1;have h3:=h.1;have h4:=h.2.2.2.1;exact ⟨⟨by omega,h.2.2.2.2⟩,by omega⟩
end
set_option maxHeartbeats 4000000
def Rp (o:aM) (fns ps:Lq) (R:List Fr) (f:Fr) (st:Lq):Prop:=
 (∃R' f' st',Inv o fns R' f' st'/\SB (Se o fns ps (gI R f) st) 7 (gI R' f') st'/\SC (Sf o fns ps (gS R f) st) zT 7 (gS R' f') st')
 \/(∃k n s l F,Rt o 8 (.agg [.int .i64 k,.int .i64 n,.str s,.lst l])/\SB (Se o fns ps (gI R f) st) 0 F [.agg [.int .i64 k,.int .i64 n,.str s,.lst l]]/\SC (Sf o fns ps (gS R f) st) (.agg [.d (.int .i64 k),.d (.int .i64 n),.d (.str s),.d (.lst l)]) 0 [] [])
 \/(∃c F st' F2 e,c≠7/\c≠0/\SB (Se o fns ps (gI R f) st) c F st'/\SC (Sf o fns ps (gS R f) st) zT c F2 e)
theorem rJ {o:aM} {st:Lq} {t:D} (h:∀x∈st,Rt o 8 x) (j:Rt o 8 t):∀x∈st++[t],Rt o 8 x:=by
 intro x E;rcases List.mem_append.1 E with e | e
 ·exact h x e
 rw[List.mem_singleton.1 e];exact j
section
variable {o:aM} (ho:aQ cu bw o) {fns ps:Lq} (hK:jZ fns ps) (hB:eB o fns ps true=true)
include ho hK hB
theorem v9 {R:List Fr} {f f':Fr} {st rest:Lq} {r:D×Int} (J:Ln o r)
  (hI:Se o fns ps (gI R f) st=some ⟨Ai (if r.2=0 then 7 else r.2),[bx (1,1) (0,0),Oo (gI R f'),none],[Os (if r.2=0 then rest++[r.1]else rest)]⟩)
  (E:Sf o fns ps (gS R f) st=some ⟨.tup [zT,Ai (if r.2=0 then 7 else r.2)],[bx (1,1) (0,0),Op (gS R f'),none],[Os (if r.2=0 then rest++[r.1]else rest)]⟩)
  (M:Rt o 8 r.1->Inv o fns R f' (rest++[r.1])):Rp o fns ps R f st:=by
 obtain ⟨k,n,s,l,e,hc,I⟩:=J;by_cases j:r.2=0
 ·rw[if_pos j,if_pos j]at hI E;exact .inl ⟨R,f',_,M (I j),.inr (.inl hI),.inr (.inl E)⟩
 rw[if_neg j,if_neg j]at hI E;exact .inr (.inr ⟨r.2,_,_,_,_,by omega,j,.inr (.inl hI),.inr (.inl E)⟩)
theorem GP {R:List Fr} {f:Fr} {st:Lq} (h:Inv o fns R f st):Rp o fns ps R f st:=by
 obtain ⟨hst,c9⟩:=LO ho hK hB h;obtain ⟨Q,hG,hf,ag,M⟩:=h;have I:=hf.1;obtain ⟨nm,a,sl,xs,op,N,s,to,V,hi,E,hH,ch,U,p1,ci,hS,b6,hSl,a7⟩:=NH ho hK hB hf;have hq:=hH.2.2 f.2.1 op N s to U hi;have am:=pE E;have hk:(R.length:Int)=((gI R f).length:Int)-1:=by rw[show gI R f=R.reverse.map dI++[dI f]from rfl,ND];omega
 have a0:(R.length:Int)=((gS R f).length:Int)-1:=by rw[show gS R f=R.reverse.map dS++[dS f]from rfl,ND];omega
 have gi:(gI R f)[((R.length:Int)).toNat]? =some (dI f):=NE;have gs:(gS R f)[((R.length:Int)).toNat]? =some (dS f):=NE;have S:∀g:Fr,gI R g=(gI R f).set ((R.length:Int)).toNat (dI g):=λg=>FB.symm
 have J:∀g:Fr,gS R g=(gS R f).set ((R.length:Int)).toNat (dS g):=λg=>FB.symm
 have cl:0<=tk op N:=by
  by_cases h8:op=8
  ·have h9:=am.2.2.2.2 h8;have hb:=pD fns s;have:=Aj hK.1 hB (i:=iB fns s) h9.1 (by omega);have e:tk op N=N:=by unfold tk;rw[if_pos (by omega)]
   omega
  exact (am.2.2.2.1 h8).1
 have next:op<=8->op≠8->∀st':Lq,(st'.length:Int)=st.length-tk op N+1->(∀x∈st',Rt o 8 x)->Inv o fns R (f.1,f.2.1+1,f.2.2) st':=λh8 _ st' hl O=>by
  have h1:=hq.2.2.2.2.2 h8;have h2:=a7 (f.2.1+1) f.2.2 (by omega) (by omega) hS hSl;exact ⟨Q,hG,h2.1,by rw[h2.2,h1.2];omega,O⟩
 have co:op≠8->tk op N<=20:=λh8=>(am.2.2.2.1 h8).2
 have hz:=hst.1;unfold aV at E;by_cases o1:op=1
 ·subst o1;rw[if_pos rfl]at E;have hr:=cL (ba E).2;have j:=OW ho (gI R f) st fns ps hst R.length hk (by omega) (by omega) f.1 f.2.1 f.2.2 gi hSl I nm a sl xs V U (by omega) 1 N s to hi (f.2.1+1) rfl _ (S (f.1,f.2.1+1,f.2.2)) rfl;have s1:=LD ho (gS R f) st fns ps hst R.length a0 (by omega) (by omega) f.1 f.2.1 f.2.2 gs hSl I nm a sl xs V U (by omega) 1 N s to hi (f.2.1+1) rfl _ (J (f.1,f.2.1+1,f.2.2)) rfl;refine .inl ⟨R,(f.1,f.2.1+1,f.2.2),_,next (by omega) (by omega) _ ?_ (rJ M ⟨_,_,_,_,rfl,?_,λx O=>by cases O⟩),.inr (.inl j),.inr (.inl s1)⟩
  ·rw[List.length_append];simp[tk]
  unfold jw;rw[if_pos rfl,fN (by omega)];rfl
 rw[if_neg o1]at E;by_cases o2:op=2
 ·subst o2;rw[if_pos rfl]at E;have hr:=(ba (ba E).1).1;have hN:=of_decide_eq_true (ba (ba E).1).2;have j:=OX ho (gI R f) st fns ps hst R.length hk (by omega) (by omega) f.1 f.2.1 f.2.2 gi hSl I nm a sl xs V U (by omega) 2 N s to hi (f.2.1+1) rfl _ (S (f.1,f.2.1+1,f.2.2)) rfl;have s1:=LF ho (gS R f) st fns ps hst R.length a0 (by omega) (by omega) f.1 f.2.1 f.2.2 gs hSl I nm a sl xs V U (by omega) 2 N s to hi (f.2.1+1) rfl _ (J (f.1,f.2.1+1,f.2.2)) rfl;refine .inl ⟨R,(f.1,f.2.1+1,f.2.2),_,next (by omega) (by omega) _ ?_ (rJ M ⟨_,_,_,_,rfl,?_,λx O=>by cases O⟩),.inr (.inl j),.inr (.inl s1)⟩
  ·rw[List.length_append];simp[tk]
  unfold ia at hr;unfold jw;rw[if_neg (by omega),if_pos rfl,(ba hr).1];rfl
 rw[if_neg o2]at E;by_cases o3:op=3
 ·subst o3;rw[if_pos rfl]at E;have hr:=cL (ba E).2;obtain ⟨x,aa,_,ac⟩:=aF hS hr.1 (by omega);obtain ⟨k1,k2,k3,k4,rfl⟩:=GL (hSl _ ac);have j:=OY ho (gI R f) st fns ps hst R.length hk (by omega) (by omega) f.1 f.2.1 f.2.2 gi hSl I nm a sl xs V U (by omega) 3 N s to hi (f.2.1+1) rfl _ (S (f.1,f.2.1+1,f.2.2)) rfl hr.1 k1 k2 k3 k4 aa;have s1:=LG ho (gS R f) st fns ps hst R.length a0 (by omega) (by omega) f.1 f.2.1 f.2.2 gs hSl I nm a sl xs V U (by omega) 3 N s to hi (f.2.1+1) rfl _ (J (f.1,f.2.1+1,f.2.2)) rfl hr.1 k1 k2 k3 k4 aa;cases hz:cE (.agg [.int .i64 k1,.int .i64 k2,.str k3,.lst k4]) nB
  ·rw[hz,if_neg Bool.false_ne_true]at j s1;have bs:=mr hz;have bt:Rt o 8 (.agg [.int .i64 k1,.int .i64 k2,.str k3,.lst k4]):=by
    rcases hSl _ ac with h | h
    ·exact absurd h bs
    exact h
   refine .inl ⟨R,(f.1,f.2.1+1,f.2.2),_,next (by omega) (by omega) _ ?_ (rJ M bt),.inr (.inl j),.inr (.inl s1)⟩;rw[List.length_append];simp[tk]
  rw[hz,if_pos rfl]at j s1;exact .inr (.inr ⟨1,_,_,_,_,by omega,by omega,.inl j,.inl s1⟩)
 rw[if_neg o3]at E;have c8:∀(lo b7:Int) (r:D×Int),(op=4\/op=5\/op=6)->jx N lo b7=true->0<=lo->b7<=20->tk op N=N->Ln o r->True:=λ_ _ _ _ _ _ _ _ _=>trivial
 by_cases o4:op=4
 ·subst o4;rw[if_pos rfl]at E;have hr:=cL (ba E).2;have et:tk 4 N=N:=by unfold tk;simp
  have j:=OZ ho (gI R f) st fns ps hst R.length hk (by omega) (by omega) f.1 f.2.1 f.2.2 gi hSl I nm a sl xs V U (by omega) 4 N s to hi (f.2.1+1) rfl _ (S (f.1,f.2.1+1,f.2.2)) rfl (by omega) (by omega) (by omega);have s1:=LH ho (gS R f) st fns ps hst R.length a0 (by omega) (by omega) f.1 f.2.1 f.2.2 gs hSl I nm a sl xs V U (by omega) 4 N s to hi (f.2.1+1) rfl _ (J (f.1,f.2.1+1,f.2.2)) rfl (by omega) (by omega) (by omega);refine v9 ho hK hB (f':=(f.1,f.2.1+1,f.2.2)) (nX (o:=o) (k:=4) (λx O=>M x (List.mem_of_mem_drop O)) (by rw[List.length_drop];omega)) j s1 λa6=>next (by omega) (by omega) _ ?_ (rJ (λx O=>M x (List.mem_of_mem_take O)) a6)
  rw[List.length_append,List.length_take,et];simp only[List.length_cons,List.length_nil];omega
 rw[if_neg o4]at E;by_cases o5:op=5
 ·subst o5;rw[if_pos rfl]at E;have hr:=cL (ba E).2;have et:tk 5 N=N:=by unfold tk;simp
  have j:=O0 ho (gI R f) st fns ps hst R.length hk (by omega) (by omega) f.1 f.2.1 f.2.2 gi hSl I nm a sl xs V U (by omega) 5 N s to hi (f.2.1+1) rfl _ (S (f.1,f.2.1+1,f.2.2)) rfl (by omega) (by omega) (by omega);have s1:=LI ho (gS R f) st fns ps hst R.length a0 (by omega) (by omega) f.1 f.2.1 f.2.2 gs hSl I nm a sl xs V U (by omega) 5 N s to hi (f.2.1+1) rfl _ (J (f.1,f.2.1+1,f.2.2)) rfl (by omega) (by omega) (by omega);refine v9 ho hK hB (f':=(f.1,f.2.1+1,f.2.2)) (nX (o:=o) (k:=5) (λx O=>M x (List.mem_of_mem_drop O)) (by rw[List.length_drop];omega)) j s1 λa6=>next (by omega) (by omega) _ ?_ (rJ (λx O=>M x (List.mem_of_mem_take O)) a6)
  rw[List.length_append,List.length_take,et];simp only[List.length_cons,List.length_nil];omega
 rw[if_neg o5]at E;by_cases o6:op=6
 ·subst o6;rw[if_pos rfl]at E;have hr:=cL (ba E).2;have et:tk 6 N=N:=by unfold tk;simp
  have j:=O1 ho (gI R f) st fns ps hst R.length hk (by omega) (by omega) f.1 f.2.1 f.2.2 gi hSl I nm a sl xs V U (by omega) 6 N s to hi (f.2.1+1) rfl _ (S (f.1,f.2.1+1,f.2.2)) rfl (by omega) (by omega) (by omega);have s1:=LJ ho (gS R f) st fns ps hst R.length a0 (by omega) (by omega) f.1 f.2.1 f.2.2 gs hSl I nm a sl xs V U (by omega) 6 N s to hi (f.2.1+1) rfl _ (J (f.1,f.2.1+1,f.2.2)) rfl (by omega) (by omega) (by omega);refine v9 ho hK hB (f':=(f.1,f.2.1+1,f.2.2)) (nX (o:=o) (k:=6) (λx O=>M x (List.mem_of_mem_drop O)) (by rw[List.length_drop];omega)) j s1 λa6=>next (by omega) (by omega) _ ?_ (rJ (λx O=>M x (List.mem_of_mem_take O)) a6)
  rw[List.length_append,List.length_take,et];simp only[List.length_cons,List.length_nil];omega
 rw[if_neg o6]at E;by_cases o7:op=7
 ·subst o7;have et:tk 7 N=2:=by unfold tk;simp
  have h2:2<=(st.length:Int):=by omega
  have hd:(st.drop ((st.length:Int)-2).toNat).length=2:=by rw[List.length_drop];omega
  obtain ⟨A,hA,_,b8⟩:=aF (xs:=st.drop ((st.length:Int)-2).toNat) (n:=2) (by omega) (i:=0) (by omega) (by omega);obtain ⟨B,b9,_,bu⟩:=aF (xs:=st.drop ((st.length:Int)-2).toNat) (n:=2) (by omega) (i:=1) (by omega) (by omega);have rA:=M _ (List.mem_of_mem_drop b8);have rB:=M _ (List.mem_of_mem_drop bu);obtain ⟨_,a1,a2,a3,a4,_,rfl,_⟩:=fE rA;obtain ⟨_,b1,b2,b3,b4,_,rfl,_⟩:=fE rB;have j:=O2 ho (gI R f) st fns ps hst R.length hk (by omega) (by omega) f.1 f.2.1 f.2.2 gi hSl I nm a sl xs V U (by omega) 7 N s to hi (f.2.1+1) rfl _ (S (f.1,f.2.1+1,f.2.2)) rfl h2 _ _ _ _ hA _ _ _ _ b9;have s1:=LL ho (gS R f) st fns ps hst R.length a0 (by omega) (by omega) f.1 f.2.1 f.2.2 gs hSl I nm a sl xs V U (by omega) 7 N s to hi (f.2.1+1) rfl _ (J (f.1,f.2.1+1,f.2.2)) rfl h2 _ _ _ _ hA _ _ _ _ b9;refine v9 ho hK hB (f':=(f.1,f.2.1+1,f.2.2)) (Br ho s rA rB) j s1 λa6=>next (by omega) (by omega) _ ?_ (rJ (λx O=>M x (List.mem_of_mem_take O)) a6)
  rw[List.length_append,List.length_take,et];simp only[List.length_cons,List.length_nil];omega
 rw[if_neg o7]at E;by_cases o8:op=8
 ·subst o8;rw[if_pos rfl]at E;have ae:=of_decide_eq_true (ba (ba E).1).1;have hN:=of_decide_eq_true (ba (ba E).1).2;have et:tk 8 N=N:=by unfold tk;simp
  have hb:=pD fns s;have bb:iB fns s<fns.length:=by omega
  obtain ⟨an,a2,a5,ao,a8,b8,cp,hs2,ct,bv,c7⟩:=pF hK.1 ho hB ae bb;have cx:a2=N:=by
   rw[<-hN];unfold iU;rw[a8]
  have bc:∀{d:Fr->D},(∀g,(d g).cells.length=3)->∀x∈R.reverse.map d++[d f],x.cells.length=3:=λhd x O=>by
   rcases List.mem_append.1 O with h | h
   ·obtain ⟨g,_,rfl⟩:=List.mem_map.1 h;exact hd g
   rw[List.mem_singleton.1 h];exact hd f
  have j:=O3 ho (gI R f) st fns ps hst R.length hk (by omega) (by omega) f.1 f.2.1 f.2.2 gi hSl I nm a sl xs V U (by omega) 8 N s to hi (f.2.1+1) rfl _ (S (f.1,f.2.1+1,f.2.2)) rfl hK.1 hK.2.1 _ rfl an a2 a5 ao ae a8 (by omega) (by omega) (by omega) (by omega) (bc λg=>rfl) (by omega);have s1:=LM ho (gS R f) st fns ps hst R.length a0 (by omega) (by omega) f.1 f.2.1 f.2.2 gs hSl I nm a sl xs V U (by omega) 8 N s to hi (f.2.1+1) rfl _ (J (f.1,f.2.1+1,f.2.2)) rfl hK.1 hK.2.1 _ rfl an a2 a5 ao ae a8 (by omega) (by omega) (by omega) (by omega) (bc λg=>rfl) (by omega);by_cases cy:(R.length:Int)=39
  ·rw[if_pos (by omega)]at j s1;exact .inr (.inr ⟨5,_,_,_,_,by omega,by omega,.inl j,.inl s1⟩)
  rw[if_neg (by omega)]at j s1;have bz:=bv.1;have cz:((st.drop ((st.length:Int)-N).toNat).length:Int)=N:=by rw[List.length_drop];omega
  have bm:((cU a5 (st.drop ((st.length:Int)-N).toNat)).length:Int)=a5:=wY (by omega);have e1:=hq.2.2.2.2.2 (by omega);have e2:=a7 (f.2.1+1) f.2.2 (by omega) (by omega) hS hSl;have bo:fH o fns (iB fns s,0,cU a5 (st.drop ((st.length:Int)-N).toNat))=0:=by
   show (match fns[(iB fns s).toNat]? with | some (.agg [.str _,.int _ _,.int _ _,.lst xs])=>gt (D6 o xs) 0 | _=>0)=_;rw[a8];exact bz.2.1
  refine .inl ⟨(f.1,f.2.1+1,f.2.2)::R,(iB fns s,0,cU a5 (st.drop ((st.length:Int)-N).toNat)),st.take ((st.length:Int)-N).toNat,⟨by simp only[List.length_cons];omega,?_,⟨ae,bb,an,a2,a5,ao,a8,Int.le_refl _,by show (0:Int)<_;omega,bm,qt λx O=>M x (List.mem_of_mem_drop O)⟩,?_,λx O=>M x (List.mem_of_mem_take O)⟩,.inr (.inr (.inl ?_)),.inr (.inr (.inl ?_))⟩
  ·intro g c0;rcases List.mem_cons.1 c0 with h | h
   ·rw[h,e2.2,e1.2];exact ⟨e2.1,by omega⟩
   exact hG g h
  ·rw[bo];simp only[zm];rw[e2.2,e1.2,List.length_take,et];omega
  ·rw[<-show _=gI ((f.1,f.2.1+1,f.2.2)::R) (iB fns s,0,cU a5 (st.drop ((st.length:Int)-N).toNat))from Iw];exact j
  rw[<-show _=gS ((f.1,f.2.1+1,f.2.2)::R) (iB fns s,0,cU a5 (st.drop ((st.length:Int)-N).toNat))from Iw];exact s1
 rw[if_neg o8]at E;have top:1<=(st.length:Int)->∃k n s l,st[((st.length:Int)-1).toNat]? =some (.agg [.int .i64 k,.int .i64 n,.str s,.lst l])/\Rt o 8 (.agg [.int .i64 k,.int .i64 n,.str s,.lst l]):=λh1=>by
  obtain ⟨x,aa,_,ac⟩:=aF (xs:=st) rfl (i:=(st.length:Int)-1) (by omega) (by omega);have hr:=M x ac;obtain ⟨_,a1,a2,a3,a4,_,rfl,_⟩:=fE hr;exact ⟨_,_,_,_,aa,hr⟩
 by_cases o9:op=9
 ·subst o9;rw[if_pos rfl]at E;have ap:=(ba E).2;have aw:=cL (ba (ba E).1).2;have c1:=cL (ba (ba (ba E).1).1).2;have e1:=hq.2.2.2.2.1 rfl;have et:tk 9 N=1:=by unfold tk;simp
  obtain ⟨t0,t1,t2,t3,ht,a9⟩:=top (by omega);obtain ⟨_,_,⟨m,hP⟩,hPb⟩:=hK;obtain ⟨P,az,_,c3⟩:=aF (xs:=ps) rfl aw.1 (by omega);have b0:=hP _ c3;obtain ⟨_,q1,q2,q3,q4,_,rfl,_⟩:=bH b0;unfold GH at ap;rw[az]at ap;have bd:=of_decide_eq_true (ba (ba (show (jx sl 0 400&&(decide (dM o sl 10 _<=300)&&okV [] _))=true from ap)).2).1;have j:=O4 ho (gI R f) st fns ps hst R.length hk (by omega) (by omega) f.1 f.2.1 f.2.2 gi hSl I nm a sl xs V U (by omega) 9 N s to hi (f.2.1+1) rfl _ (S (f.1,f.2.1+1,f.2.2)) rfl (by omega) _ _ _ _ ht sl hS b6 aw.1 _ _ _ _ az b0 bd;have s1:=LN ho (gS R f) st fns ps hst R.length a0 (by omega) (by omega) f.1 f.2.1 f.2.2 gs hSl I nm a sl xs V U (by omega) 9 N s to hi (f.2.1+1) rfl _ (J (f.1,f.2.1+1,f.2.2)) rfl (by omega) _ _ _ _ ht sl hS b6 aw.1 _ _ _ _ az b0 bd;have be:=mq (o:=o) 10 (.agg [.int .i64 q1,.int .i64 q2,.str q3,.lst q4]) _ f.2.2 a9 hSl;cases hb:(aH 10 (.agg [.int .i64 q1,.int .i64 q2,.str q3,.lst q4]) (.agg [.int .i64 t0,.int .i64 t1,.str t2,.lst t3]) f.2.2).1
  ·rw[hb,if_neg Bool.false_ne_true]at j s1;have e2:=a7 to f.2.2 (by omega) (by omega) hS hSl;refine .inl ⟨R,(f.1,to,f.2.2),st,⟨Q,hG,e2.1,by rw[e2.2,e1.1];omega,M⟩,.inl ?_,.inl ?_⟩
   ·rw[show gI R (f.1,to,f.2.2)=(gI R (f.1,f.2.1+1,f.2.2)).set ((R.length:Int)).toNat (dI (f.1,to,f.2.2))from FB.symm];exact j
   rw[J (f.1,to,f.2.2)];exact s1
  rw[hb,if_pos rfl]at j s1;have e2:=a7 (f.2.1+1) (aH 10 (.agg [.int .i64 q1,.int .i64 q2,.str q3,.lst q4]) (.agg [.int .i64 t0,.int .i64 t1,.str t2,.lst t3]) f.2.2).2 (by omega) (by omega) (by rw[be.1];exact hS) be.2;refine .inl ⟨R,(f.1,f.2.1+1,(aH 10 (.agg [.int .i64 q1,.int .i64 q2,.str q3,.lst q4]) (.agg [.int .i64 t0,.int .i64 t1,.str t2,.lst t3]) f.2.2).2),st.take ((st.length:Int)-1).toNat,⟨Q,hG,e2.1,by rw[e2.2,e1.2.2,List.length_take];omega,λx O=>M x (List.mem_of_mem_take O)⟩,.inr (.inl ?_),.inr (.inl ?_)⟩
  ·rw[show gI R (f.1,f.2.1+1,(aH 10 (.agg [.int .i64 q1,.int .i64 q2,.str q3,.lst q4]) (.agg [.int .i64 t0,.int .i64 t1,.str t2,.lst t3]) f.2.2).2)=(gI R (f.1,f.2.1+1,f.2.2)).set ((R.length:Int)).toNat (dI (f.1,f.2.1+1,(aH 10 (.agg [.int .i64 q1,.int .i64 q2,.str q3,.lst q4]) (.agg [.int .i64 t0,.int .i64 t1,.str t2,.lst t3]) f.2.2).2))from FB.symm];exact j
  rw[J (f.1,f.2.1+1,(aH 10 (.agg [.int .i64 q1,.int .i64 q2,.str q3,.lst q4]) (.agg [.int .i64 t0,.int .i64 t1,.str t2,.lst t3]) f.2.2).2)];exact s1
 rw[if_neg o9]at E;by_cases bi:op=10
 ·subst bi;rw[if_pos rfl]at E;have c1:=cL (ba (ba E).1).2;have e1:=hq.2.2.2.1 rfl;have e2:=a7 to f.2.2 (by omega) (by omega) hS hSl;have j:=LA ho (gI R f) st fns ps hst R.length hk (by omega) (by omega) f.1 f.2.1 f.2.2 gi hSl I nm a sl xs V U (by omega) 10 N s to hi (f.2.1+1) rfl _ (S (f.1,f.2.1+1,f.2.2)) rfl;have s1:=Iq ho (gS R f) st fns ps hst R.length a0 (by omega) (by omega) f.1 f.2.1 f.2.2 gs hSl I nm a sl xs V U (by omega) 10 N s to hi (f.2.1+1) rfl _ (J (f.1,f.2.1+1,f.2.2)) rfl;refine .inl ⟨R,(f.1,to,f.2.2),st,⟨Q,hG,e2.1,by rw[e2.2,e1];omega,M⟩,.inl ?_,.inl ?_⟩
  ·rw[S (f.1,to,f.2.2)];exact j
  rw[J (f.1,to,f.2.2)];exact s1
 rw[if_neg bi]at E;by_cases bj:op=11
 ·subst bj;have j:=LB ho (gI R f) st fns ps hst R.length hk (by omega) (by omega) f.1 f.2.1 f.2.2 gi hSl I nm a sl xs V U (by omega) 11 N s to hi (f.2.1+1) rfl _ (S (f.1,f.2.1+1,f.2.2)) rfl;have s1:=Ir ho (gS R f) st fns ps hst R.length a0 (by omega) (by omega) f.1 f.2.1 f.2.2 gs hSl I nm a sl xs V U (by omega) 11 N s to hi (f.2.1+1) rfl _ (J (f.1,f.2.1+1,f.2.2)) rfl;exact .inr (.inr ⟨2,_,_,_,_,by omega,by omega,.inl j,.inl s1⟩)
 rw[if_neg bj]at E;by_cases bl:op=12
 ·subst bl;have e1:=hq.2.2.1 rfl;obtain ⟨t0,t1,t2,t3,ht,a9⟩:=top (by omega);have j:=LC ho (gI R f) st fns ps hst R.length hk (by omega) (by omega) f.1 f.2.1 f.2.2 gi hSl I nm a sl xs V U (by omega) 12 N s to hi (f.2.1+1) rfl _ (S (f.1,f.2.1+1,f.2.2)) rfl;have s1:=Iu ho (gS R f) st fns ps hst R.length a0 (by omega) (by omega) f.1 f.2.1 f.2.2 gs hSl I nm a sl xs V U (by omega) 12 N s to hi (f.2.1+1) rfl _ (J (f.1,f.2.1+1,f.2.2)) rfl (by omega) t0 t1 t2 t3 ht;have tI:(gI R f).take ((R.length:Int)).toNat=R.reverse.map dI:=Iv;have tS:(gS R f).take ((R.length:Int)).toNat=R.reverse.map dS:=Iv;rw[tI]at j;rw[tS]at s1;cases R with
  | nil=>
   simp only[zm]at ag;have c4:st.length=1:=by omega
   have b5:st=[.agg [.int .i64 t0,.int .i64 t1,.str t2,.lst t3]]:=by
    match st,c4,ht with
    | [x],_,ht=>simpa using ht
   have c5:((([]:List Fr).length:Nat):Int)=0:=rfl;rw[if_pos c5]at j s1;refine .inr (.inl ⟨t0,t1,t2,t3,([]:List Fr).reverse.map dI,a9,.inr (.inr (.inr ?_)),.inr (.inr (.inl ?_))⟩)
   ·rw[b5]at j |-;exact j
   rw[b5]at s1 |-;exact s1
  | cons g R=>
   rw[if_neg (by simp only[List.length_cons];omega)]at j s1;have c6:=hG g (by simp);simp only[zm]at ag;refine .inl ⟨R,g,st,⟨by simp only[List.length_cons]at Q;omega,λx O=>hG x (by simp[O]),c6.1,by omega,M⟩,.inr (.inr (.inr ?_)),.inr (.inr (.inr ?_))⟩
   ·rw[NG]at j;exact j
   rw[NG]at s1;exact s1
 rw[if_neg bl]at E;cases E
end
section
variable {o:aM} (ho:aQ cu bw o)
include ho
def a_ (c_0 c_1:Lq) (n i:Int) (y e:Lq):St:=⟨E 42 [(0,Sc c_0 c_1),(8,.ptr (8,0) 0),(10,.ptr (10,0) 0),(23,Ai n),(24,Ai i)],O 42 [(8,[some (.box [Ai 0,Ai 0,As ⟨#[]⟩,.emp])]),(10,[some (Ob (20,0) (21,0))]),(17,[none]),(20,[Oo y]),(21,[Os e])]⟩
def mR (y e:Lq):St:=⟨E 42 [(8,.ptr (8,0) 0)],O 42 [(8,[some (.box [Ai 0,Ai 0,As ⟨#[]⟩,.emp])]),(17,[none]),(20,[Oo y]),(21,[Os e])]⟩
def mS (n4 n5:Int) (s2:By) (l1 l2 e:Lq):St:=⟨E 42 [(8,.ptr (8,0) 0),(9,Ai 0)],O 42 [(8,[some (.box [Ai n4,Ai n5,As s2,.arr (37,0) (31,4) none false])]),(17,[none]),(20,[Oo l1]),(21,[Os l2]),(37,[Oq e])]⟩
def jO (n4 n5:Int) (s2:By) (l1 l2 e:Lq):St:=⟨E 42 [(8,.ptr (8,0) 0),(9,Ai 0)],O 42 [(8,[some (.box [Ai n4,Ai n5,As s2,.arr (37,0) (31,4) none false])]),(17,[none]),(20,[Oo l1]),(21,[Os l2]),(27,[none]),(37,[Oq e])]⟩
def mT (n4 n5:Int) (s2:By) (l1 l2 e:Lq):St:=⟨E 42 [(8,.ptr (8,0) 0),(9,Ai 0)],O 42 [(8,[some (.box [Ai n4,Ai n5,As s2,.arr (37,0) (31,4) none false])]),(17,[none]),(20,[Oo l1]),(21,[Os l2]),(27,[none,none]),(37,[Oq e])]⟩
def mU (n1:Int) (l1 l2:Lq):St:=⟨E 42 [(8,.ptr (8,0) 0),(9,Ai n1)],O 42 [(8,[some (.box [Ai 0,Ai 0,As ⟨#[]⟩,.emp])]),(17,[none]),(20,[Oo l1]),(21,[Os l2])]⟩
def jP (n1:Int) (l1 l2:Lq):St:=⟨E 42 [(8,.ptr (8,0) 0),(9,Ai n1)],O 42 [(8,[some (.box [Ai 0,Ai 0,As ⟨#[]⟩,.emp])]),(17,[none]),(20,[Oo l1]),(21,[Os l2]),(27,[none])]⟩
def mV (n1:Int) (l1 l2:Lq):St:=⟨E 42 [(8,.ptr (8,0) 0),(9,Ai n1)],O 42 [(8,[some (.box [Ai 0,Ai 0,As ⟨#[]⟩,.emp])]),(17,[none]),(20,[Oo l1]),(21,[Os l2]),(27,[none,none])]⟩
def bh (n:Int) (c_0 c_1:Lq) (i:Int) (y e:Lq):St:=⟨E 33 [(3,Ai n),(4,Sc c_0 c_1),(8,.ptr (8,0) 0),(10,.ptr (10,0) 0),(11,Ai i)],O 33 [(8,[some (.box [Ai 0,Ai 0,As ⟨#[]⟩,.emp])]),(10,[some (Ob (21,0) (22,0))]),(17,[none]),(21,[Op y]),(22,[Os e])]⟩
def fC (n1 n2:Int) (s1:By) (l3 l1 l2:Lq):St:=⟨E 33 [(8,.ptr (8,0) 0),(9,Ai 0)],O 33 [(8,[some (.box [Ai n1,Ai n2,As s1,Al l3])]),(17,[none]),(21,[Op l1]),(22,[Os l2])]⟩
def lH (y e:Lq):St:=⟨E 33 [(8,.ptr (8,0) 0)],O 33 [(8,[some (.box [Ai 0,Ai 0,As ⟨#[]⟩,.emp])]),(17,[none]),(21,[Op y]),(22,[Os e])]⟩
def fD (n1:Int) (l1 l2:Lq):St:=⟨E 33 [(8,.ptr (8,0) 0),(9,Ai n1)],O 33 [(8,[some (.box [Ai 0,Ai 0,As ⟨#[]⟩,.emp])]),(17,[none]),(21,[Op l1]),(22,[Os l2])]⟩
theorem zn {i n:Int} {c_0 c_1 y e:Lq} {n1:Int} {l1 l2:Lq} {n4:Int} (E:o.cmp .lss i n=true) (I:o.call 104 [.ptr (1,0) 0,Sc c_0 c_1] [some (Ob (1,1) (1,2)),Oo y,Os e]=some ⟨Ai n1,[some (Ob (1,1) (1,2)),Oo l1,Os l2],[]⟩) (J:o.cmp .eql n1 7=true) (M:o.ar .add .i64 i 1=n4):∀z,o.loop 9100 (a_ c_0 c_1 n n4 l1 l2)=some z->o.loop 9100 (a_ c_0 c_1 n i y e)=some z:=by
 intro z j;refine ho.aB ?_;rw[<-j];clear j
 cbv
 repeat (simp only[*];try cbv)
theorem zo {i n:Int} {c_0 c_1 y e:Lq} (j:o.cmp .lss i n=false):o.loop 9100 (a_ c_0 c_1 n i y e)=some (.exit 0,mR y e):=by
 refine ho.aB ?_
 cbv
 repeat (simp only[*];try cbv)
theorem zp {i n:Int} {c_0 c_1 y e:Lq} {n1:Int} {l1 l2:Lq} {n4:Int} (E:o.cmp .lss i n=true) (I:o.call 104 [.ptr (1,0) 0,Sc c_0 c_1] [some (Ob (1,1) (1,2)),Oo y,Os e]=some ⟨Ai n1,[some (Ob (1,1) (0,0)),Oo l1,none],[Os l2]⟩) (J:o.cmp .eql n1 7=true) (M:o.ar .add .i64 i 1=n4):∀z,o.loop 9100 (a_ c_0 c_1 n n4 l1 l2)=some z->o.loop 9100 (a_ c_0 c_1 n i y e)=some z:=by
 intro z j;refine ho.aB ?_;rw[<-j];clear j
 cbv
 repeat (simp only[*];try cbv)
theorem zq {i n:Int} {c_0 c_1 y e:Lq} {n1:Int} {l1 l2:Lq} {n4:Int} (E:o.cmp .lss i n=true) (I:o.call 104 [.ptr (1,0) 0,Sc c_0 c_1] [some (Ob (1,1) (1,2)),Oo y,Os e]=some ⟨Ai n1,[some (Ob (0,0) (0,1)),none,none],[Oo l1,Os l2]⟩) (J:o.cmp .eql n1 7=true) (M:o.ar .add .i64 i 1=n4):∀z,o.loop 9100 (a_ c_0 c_1 n n4 l1 l2)=some z->o.loop 9100 (a_ c_0 c_1 n i y e)=some z:=by
 intro z j;refine ho.aB ?_;rw[<-j];clear j
 cbv
 repeat (simp only[*];try cbv)
theorem zu {i n:Int} {c_0 c_1 y e:Lq} {n1:Int} {l2 l1:Lq} {n4:Int} (E:o.cmp .lss i n=true) (I:o.call 104 [.ptr (1,0) 0,Sc c_0 c_1] [some (Ob (1,1) (1,2)),Oo y,Os e]=some ⟨Ai n1,[some (Ob (0,0) (1,2)),none,Os l2],[Oo l1]⟩) (J:o.cmp .eql n1 7=true) (M:o.ar .add .i64 i 1=n4):∀z,o.loop 9100 (a_ c_0 c_1 n n4 l1 l2)=some z->o.loop 9100 (a_ c_0 c_1 n i y e)=some z:=by
 intro z j;refine ho.aB ?_;rw[<-j];clear j
 cbv
 repeat (simp only[*];try cbv)
theorem zw {i n:Int} {c_0 c_1 y e:Lq} {n1:Int} {l1 l2:Lq} {n4 n5:Int} {s2:By} {j E:Lq} (I:o.cmp .lss i n=true) (J:o.call 104 [.ptr (1,0) 0,Sc c_0 c_1] [some (Ob (1,1) (1,2)),Oo y,Os e]=some ⟨Ai n1,[some (Ob (1,1) (1,2)),Oo l1,Os l2],[]⟩) (M:o.cmp .eql n1 7=false) (O:o.cmp .eql n1 0=true) (S:o.cF l2 0=some (Dt n4 n5 s2 j)) (U:o.call 105 [At n4 n5 s2 j] []=some ⟨Ay n4 n5 s2,[],[Oq E]⟩):o.loop 9100 (a_ c_0 c_1 n i y e)=some (.ret,mS n4 n5 s2 l1 l2 E):=by
 refine ho.aB ?_
 cbv
 repeat (simp only[*];try cbv)
theorem zx {i n:Int} {c_0 c_1 y e:Lq} {n1:Int} {l1 l2:Lq} {n4 n5:Int} {s2:By} {j E:Lq} (I:o.cmp .lss i n=true) (J:o.call 104 [.ptr (1,0) 0,Sc c_0 c_1] [some (Ob (1,1) (1,2)),Oo y,Os e]=some ⟨Ai n1,[some (Ob (1,1) (0,0)),Oo l1,none],[Os l2]⟩) (M:o.cmp .eql n1 7=false) (O:o.cmp .eql n1 0=true) (S:o.cF l2 0=some (Dt n4 n5 s2 j)) (U:o.call 105 [At n4 n5 s2 j] []=some ⟨Ay n4 n5 s2,[],[Oq E]⟩):o.loop 9100 (a_ c_0 c_1 n i y e)=some (.ret,jO n4 n5 s2 l1 l2 E):=by
 refine ho.aB ?_
 cbv
 repeat (simp only[*];try cbv)
theorem zy {i n:Int} {c_0 c_1 y e:Lq} {n1:Int} {l1 l2:Lq} {n4 n5:Int} {s2:By} {j E:Lq} (I:o.cmp .lss i n=true) (J:o.call 104 [.ptr (1,0) 0,Sc c_0 c_1] [some (Ob (1,1) (1,2)),Oo y,Os e]=some ⟨Ai n1,[some (Ob (0,0) (0,1)),none,none],[Oo l1,Os l2]⟩) (M:o.cmp .eql n1 7=false) (O:o.cmp .eql n1 0=true) (S:o.cF l2 0=some (Dt n4 n5 s2 j)) (U:o.call 105 [At n4 n5 s2 j] []=some ⟨Ay n4 n5 s2,[],[Oq E]⟩):o.loop 9100 (a_ c_0 c_1 n i y e)=some (.ret,mT n4 n5 s2 l1 l2 E):=by
 refine ho.aB ?_
 cbv
 repeat (simp only[*];try cbv)
theorem zA {i n:Int} {c_0 c_1 y e:Lq} {n1:Int} {l2 l1:Lq} {n4 n5:Int} {s2:By} {j E:Lq} (I:o.cmp .lss i n=true) (J:o.call 104 [.ptr (1,0) 0,Sc c_0 c_1] [some (Ob (1,1) (1,2)),Oo y,Os e]=some ⟨Ai n1,[some (Ob (0,0) (1,2)),none,Os l2],[Oo l1]⟩) (M:o.cmp .eql n1 7=false) (O:o.cmp .eql n1 0=true) (S:o.cF l2 0=some (Dt n4 n5 s2 j)) (U:o.call 105 [At n4 n5 s2 j] []=some ⟨Ay n4 n5 s2,[],[Oq E]⟩):o.loop 9100 (a_ c_0 c_1 n i y e)=some (.ret,jO n4 n5 s2 l1 l2 E):=by
 refine ho.aB ?_
 cbv
 repeat (simp only[*];try cbv)
theorem w8 {i n:Int} {c_0 c_1 y e:Lq} {n1:Int} {l1 l2:Lq} (j:o.cmp .lss i n=true) (E:o.call 104 [.ptr (1,0) 0,Sc c_0 c_1] [some (Ob (1,1) (1,2)),Oo y,Os e]=some ⟨Ai n1,[some (Ob (1,1) (1,2)),Oo l1,Os l2],[]⟩) (I:o.cmp .eql n1 7=false) (J:o.cmp .eql n1 0=false):o.loop 9100 (a_ c_0 c_1 n i y e)=some (.ret,mU n1 l1 l2):=by
 refine ho.aB ?_
 cbv
 repeat (simp only[*];try cbv)
theorem w9 {i n:Int} {c_0 c_1 y e:Lq} {n1:Int} {l1 l2:Lq} (j:o.cmp .lss i n=true) (E:o.call 104 [.ptr (1,0) 0,Sc c_0 c_1] [some (Ob (1,1) (1,2)),Oo y,Os e]=some ⟨Ai n1,[some (Ob (1,1) (0,0)),Oo l1,none],[Os l2]⟩) (I:o.cmp .eql n1 7=false) (J:o.cmp .eql n1 0=false):o.loop 9100 (a_ c_0 c_1 n i y e)=some (.ret,jP n1 l1 l2):=by
 refine ho.aB ?_
 cbv
 repeat (simp only[*];try cbv)
theorem w_ {i n:Int} {c_0 c_1 y e:Lq} {n1:Int} {l1 l2:Lq} (j:o.cmp .lss i n=true) (E:o.call 104 [.ptr (1,0) 0,Sc c_0 c_1] [some (Ob (1,1) (1,2)),Oo y,Os e]=some ⟨Ai n1,[some (Ob (0,0) (0,1)),none,none],[Oo l1,Os l2]⟩) (I:o.cmp .eql n1 7=false) (J:o.cmp .eql n1 0=false):o.loop 9100 (a_ c_0 c_1 n i y e)=some (.ret,mV n1 l1 l2):=by
 refine ho.aB ?_
 cbv
 repeat (simp only[*];try cbv)
theorem xh {i n:Int} {c_0 c_1 y e:Lq} {n1:Int} {l2 l1:Lq} (j:o.cmp .lss i n=true) (E:o.call 104 [.ptr (1,0) 0,Sc c_0 c_1] [some (Ob (1,1) (1,2)),Oo y,Os e]=some ⟨Ai n1,[some (Ob (0,0) (1,2)),none,Os l2],[Oo l1]⟩) (I:o.cmp .eql n1 7=false) (J:o.cmp .eql n1 0=false):o.loop 9100 (a_ c_0 c_1 n i y e)=some (.ret,jP n1 l1 l2):=by
 refine ho.aB ?_
 cbv
 repeat (simp only[*];try cbv)
theorem xj {i n:Int} {c_0 c_1 y e:Lq} {n1 n2:Int} {s1:By} {l3 l1 l2:Lq} (j:o.cmp .lss i n=true) (E:o.call 100 [Ac c_0 c_1,.ptr (1,0) 0] [some (Ob (1,1) (1,2)),Op y,Os e]=some ⟨.tup [At n1 n2 s1 l3,Ai 0],[some (Ob (1,1) (1,2)),Op l1,Os l2],[]⟩):o.loop 8400 (bh n c_0 c_1 i y e)=some (.ret,fC n1 n2 s1 l3 l1 l2):=by
 refine ho.aB ?_;have I:o.cmp .neq 0 7=true:=by rw[ho.cmp];rfl
 cbv
 repeat (simp only[*];try cbv)
theorem xk {i n:Int} {c_0 c_1 y e:Lq} (j:o.cmp .lss i n=false):o.loop 8400 (bh n c_0 c_1 i y e)=some (.exit 0,lH y e):=by
 refine ho.aB ?_
 cbv
 repeat (simp only[*];try cbv)
theorem xq {i n:Int} {c_0 c_1 y e:Lq} {n1 n2:Int} {s1:By} {l3 l1 l2:Lq} (j:o.cmp .lss i n=true) (E:o.call 100 [Ac c_0 c_1,.ptr (1,0) 0] [some (Ob (1,1) (1,2)),Op y,Os e]=some ⟨.tup [At n1 n2 s1 l3,Ai 0],[some (Ob (1,1) (0,0)),Op l1,none],[Os l2]⟩):o.loop 8400 (bh n c_0 c_1 i y e)=some (.ret,fC n1 n2 s1 l3 l1 l2):=by
 refine ho.aB ?_;have I:o.cmp .neq 0 7=true:=by rw[ho.cmp];rfl
 cbv
 repeat (simp only[*];try cbv)
theorem xu {i n:Int} {c_0 c_1 y e:Lq} {n1 n2:Int} {s1:By} {l3 l1 l2:Lq} (j:o.cmp .lss i n=true) (E:o.call 100 [Ac c_0 c_1,.ptr (1,0) 0] [some (Ob (1,1) (1,2)),Op y,Os e]=some ⟨.tup [At n1 n2 s1 l3,Ai 0],[some (Ob (0,0) (0,1)),none,none],[Op l1,Os l2]⟩):o.loop 8400 (bh n c_0 c_1 i y e)=some (.ret,fC n1 n2 s1 l3 l1 l2):=by
 refine ho.aB ?_;have I:o.cmp .neq 0 7=true:=by rw[ho.cmp];rfl
 cbv
 repeat (simp only[*];try cbv)
theorem xw {i n:Int} {c_0 c_1 y e:Lq} {n1 n2:Int} {s1:By} {l3 l2 l1:Lq} (j:o.cmp .lss i n=true) (E:o.call 100 [Ac c_0 c_1,.ptr (1,0) 0] [some (Ob (1,1) (1,2)),Op y,Os e]=some ⟨.tup [At n1 n2 s1 l3,Ai 0],[some (Ob (0,0) (1,2)),none,Os l2],[Op l1]⟩):o.loop 8400 (bh n c_0 c_1 i y e)=some (.ret,fC n1 n2 s1 l3 l1 l2):=by
 refine ho.aB ?_;have I:o.cmp .neq 0 7=true:=by rw[ho.cmp];rfl
 cbv
 repeat (simp only[*];try cbv)
theorem xA {i n:Int} {c_0 c_1 y e:Lq} {n1:Int} {l1 l2:Lq} (j:o.cmp .lss i n=true) (E:o.call 100 [Ac c_0 c_1,.ptr (1,0) 0] [some (Ob (1,1) (1,2)),Op y,Os e]=some ⟨.tup [.agg [Ai 0,Ai 0,As ⟨#[]⟩,.emp],Ai n1],[some (Ob (1,1) (1,2)),Op l1,Os l2],[]⟩) (I:o.cmp .neq n1 7=true):o.loop 8400 (bh n c_0 c_1 i y e)=some (.ret,fD n1 l1 l2):=by
 refine ho.aB ?_
 cbv
 repeat (simp only[*];try cbv)
theorem xB {i n:Int} {c_0 c_1 y e:Lq} {n1:Int} {l1 l2:Lq} (j:o.cmp .lss i n=true) (E:o.call 100 [Ac c_0 c_1,.ptr (1,0) 0] [some (Ob (1,1) (1,2)),Op y,Os e]=some ⟨.tup [.agg [Ai 0,Ai 0,As ⟨#[]⟩,.emp],Ai n1],[some (Ob (1,1) (0,0)),Op l1,none],[Os l2]⟩) (I:o.cmp .neq n1 7=true):o.loop 8400 (bh n c_0 c_1 i y e)=some (.ret,fD n1 l1 l2):=by
 refine ho.aB ?_
 cbv
 repeat (simp only[*];try cbv)
theorem xC {i n:Int} {c_0 c_1 y e:Lq} {n1:Int} {l1 l2:Lq} (j:o.cmp .lss i n=true) (E:o.call 100 [Ac c_0 c_1,.ptr (1,0) 0] [some (Ob (1,1) (1,2)),Op y,Os e]=some ⟨.tup [.agg [Ai 0,Ai 0,As ⟨#[]⟩,.emp],Ai n1],[some (Ob (0,0) (0,1)),none,none],[Op l1,Os l2]⟩) (I:o.cmp .neq n1 7=true):o.loop 8400 (bh n c_0 c_1 i y e)=some (.ret,fD n1 l1 l2):=by
 refine ho.aB ?_
 cbv
 repeat (simp only[*];try cbv)
theorem xD {i n:Int} {c_0 c_1 y e:Lq} {n1:Int} {l2 l1:Lq} (j:o.cmp .lss i n=true) (E:o.call 100 [Ac c_0 c_1,.ptr (1,0) 0] [some (Ob (1,1) (1,2)),Op y,Os e]=some ⟨.tup [.agg [Ai 0,Ai 0,As ⟨#[]⟩,.emp],Ai n1],[some (Ob (0,0) (1,2)),none,Os l2],[Op l1]⟩) (I:o.cmp .neq n1 7=true):o.loop 8400 (bh n c_0 c_1 i y e)=some (.ret,fD n1 l1 l2):=by
 refine ho.aB ?_
 cbv
 repeat (simp only[*];try cbv)
theorem vE {i n:Int} {c_0 c_1 y e:Lq} {n1:Int} {l1 l2:Lq} {n2:Int} (E:o.cmp .lss i n=true) (I:o.call 100 [Ac c_0 c_1,.ptr (1,0) 0] [some (Ob (1,1) (1,2)),Op y,Os e]=some ⟨.tup [.agg [Ai 0,Ai 0,As ⟨#[]⟩,.emp],Ai n1],[some (Ob (1,1) (1,2)),Op l1,Os l2],[]⟩) (J:o.cmp .neq n1 7=false) (M:o.ar .add .i64 i 1=n2):∀z,o.loop 8400 (bh n c_0 c_1 n2 l1 l2)=some z->o.loop 8400 (bh n c_0 c_1 i y e)=some z:=by
 intro z j;refine ho.aB ?_;rw[<-j];clear j
 cbv
 repeat (simp only[*];try cbv)
theorem vF {i n:Int} {c_0 c_1 y e:Lq} {n1:Int} {l1 l2:Lq} {n2:Int} (E:o.cmp .lss i n=true) (I:o.call 100 [Ac c_0 c_1,.ptr (1,0) 0] [some (Ob (1,1) (1,2)),Op y,Os e]=some ⟨.tup [.agg [Ai 0,Ai 0,As ⟨#[]⟩,.emp],Ai n1],[some (Ob (1,1) (0,0)),Op l1,none],[Os l2]⟩) (J:o.cmp .neq n1 7=false) (M:o.ar .add .i64 i 1=n2):∀z,o.loop 8400 (bh n c_0 c_1 n2 l1 l2)=some z->o.loop 8400 (bh n c_0 c_1 i y e)=some z:=by
 intro z j;refine ho.aB ?_;rw[<-j];clear j
 cbv
 repeat (simp only[*];try cbv)
theorem vG {i n:Int} {c_0 c_1 y e:Lq} {n1:Int} {l1 l2:Lq} {n2:Int} (E:o.cmp .lss i n=true) (I:o.call 100 [Ac c_0 c_1,.ptr (1,0) 0] [some (Ob (1,1) (1,2)),Op y,Os e]=some ⟨.tup [.agg [Ai 0,Ai 0,As ⟨#[]⟩,.emp],Ai n1],[some (Ob (0,0) (0,1)),none,none],[Op l1,Os l2]⟩) (J:o.cmp .neq n1 7=false) (M:o.ar .add .i64 i 1=n2):∀z,o.loop 8400 (bh n c_0 c_1 n2 l1 l2)=some z->o.loop 8400 (bh n c_0 c_1 i y e)=some z:=by
 intro z j;refine ho.aB ?_;rw[<-j];clear j
 cbv
 repeat (simp only[*];try cbv)
theorem vH {i n:Int} {c_0 c_1 y e:Lq} {n1:Int} {l2 l1:Lq} {n2:Int} (E:o.cmp .lss i n=true) (I:o.call 100 [Ac c_0 c_1,.ptr (1,0) 0] [some (Ob (1,1) (1,2)),Op y,Os e]=some ⟨.tup [.agg [Ai 0,Ai 0,As ⟨#[]⟩,.emp],Ai n1],[some (Ob (0,0) (1,2)),none,Os l2],[Op l1]⟩) (J:o.cmp .neq n1 7=false) (M:o.ar .add .i64 i 1=n2):∀z,o.loop 8400 (bh n c_0 c_1 n2 l1 l2)=some z->o.loop 8400 (bh n c_0 c_1 i y e)=some z:=by
 intro z j;refine ho.aB ?_;rw[<-j];clear j
 cbv
 repeat (simp only[*];try cbv)
end
def Z4 (k n:Int) (s:By) (l:Lq):Prop:=k=0/\n=0/\s=⟨#[]⟩/\l=[]
def EI (o:aM) (r:Option (Go.Vi.Out×St)) (c k n:Int) (s:By) (l:Lq):Prop:=
 (c=6/\Z4 k n s l/\∃a b,r=some (.exit 0,mR a b))
 \/(c≠0/\Z4 k n s l/\∃a b,r=some (.ret,mU c a b)\/r=some (.ret,jP c a b)\/r=some (.ret,mV c a b))
 \/(c=0/\∃a b,Rt o 8 (.agg [.int .i64 k,.int .i64 n,.str s,.lst l])/\(r=some (.ret,mS k n s a b (bM l))\/r=some (.ret,jO k n s a b (bM l))\/r=some (.ret,mT k n s a b (bM l))))
def ES (r:Option (Go.Vi.Out×St)) (c k n:Int) (s:By) (l:Lq):Prop:=
 (c=6/\Z4 k n s l/\∃a b,r=some (.exit 0,lH a b))\/(c≠0/\Z4 k n s l/\∃a b,r=some (.ret,fD c a b))\/(c=0/\∃a b,r=some (.ret,fC k n s l a b))
theorem v_ {o:aM} {r r':Option (Go.Vi.Out×St)} {c k n:Int} {s:By} {l:Lq} (h:∀z,r'=some z->r=some z):EI o r' c k n s l->EI o r c k n s l
 | .inl ⟨a,b,x,y,e⟩=> .inl ⟨a,b,x,y,h _ e⟩
 | .inr (.inl ⟨a,b,x,y,e⟩)=> .inr (.inl ⟨a,b,x,y,e.imp (h _) (Or.imp (h _) (h _))⟩)
 | .inr (.inr ⟨a,x,y,g,e⟩)=> .inr (.inr ⟨a,x,y,g,e.imp (h _) (Or.imp (h _) (h _))⟩)
theorem wg {r r':Option (Go.Vi.Out×St)} {c k n:Int} {s:By} {l:Lq} (h:∀z,r'=some z->r=some z):ES r' c k n s l->ES r c k n s l
 | .inl ⟨a,b,x,y,e⟩=> .inl ⟨a,b,x,y,h _ e⟩
 | .inr (.inl ⟨a,b,x,y,e⟩)=> .inr (.inl ⟨a,b,x,y,h _ e⟩)
 | .inr (.inr ⟨a,x,y,e⟩)=> .inr (.inr ⟨a,x,y,h _ e⟩)
section
variable {o:aM} (ho:aQ cu bw o) {fns ps:Lq} (hK:jZ fns ps) (hB:eB o fns ps true=true)
include ho hK hB
theorem Iy {n:Int} (hn:n<=100000):∀i:Int,0<=i->i<=n->∀(R:List Fr) (f:Fr) (st:Lq),Inv o fns R f st->∃c k m s l,EI o (o.loop 9100 (a_ fns ps n i (gI R f) st)) c k m s l/\ES (o.loop 8400 (bh n fns ps i (gS R f) st)) c k m s l:=by
 refine cM n ?_;intro i h0 h1 ih R f st hI;by_cases a0:i<n
 ·have j:=Kj ho a0;have M:o.ar .add .i64 i 1=i+1:=dm ho (by omega) (by omega);rcases GP ho hK hB hI with ⟨R',f',st',a1,S,U⟩ | ⟨k,m,s,l,F,O,S,U⟩ | ⟨c,F,st',F2,a3,h7,V,S,U⟩
  ·obtain ⟨c,k,m,s,l,q1,q2⟩:=ih a0 R' f' st' a1;have E:o.cmp .eql 7 7=true:=cX ho rfl;have I:o.cmp .neq 7 7=false:=S_ ho rfl;refine ⟨c,k,m,s,l,?_,?_⟩
   ·rcases S with e | e | e | e
    ·exact v_ (zn ho j e E M) q1
    ·exact v_ (zp ho j e E M) q1
    ·exact v_ (zq ho j e E M) q1
    exact v_ (zu ho j e E M) q1
   rcases U with e | e | e | e
   ·exact wg (vE ho j e I M) q2
   ·exact wg (vF ho j e I M) q2
   ·exact wg (vG ho j e I M) q2
   exact wg (vH ho j e I M) q2
  ·have E:o.cmp .eql 0 7=false:=bN ho (by omega);have J:o.cmp .eql 0 0=true:=cX ho rfl;have e5:o.cF [(.agg [.int .i64 k,.int .i64 m,.str s,.lst l]:D)] 0=some (.agg [.int .i64 k,.int .i64 m,.str s,.lst l]):=ay ho (by omega) rfl;have e6:=jH ho 8 k m s l (fO O);refine ⟨0,k,m,s,l,.inr (.inr ⟨rfl,?_⟩),.inr (.inr ⟨rfl,?_⟩)⟩
   ·rcases S with e | e | e | e
    ·exact ⟨_,_,O,.inl (zw ho j e E J e5 e6)⟩
    ·exact ⟨_,_,O,.inr (.inl (zx ho j e E J e5 e6))⟩
    ·exact ⟨_,_,O,.inr (.inr (zy ho j e E J e5 e6))⟩
    exact ⟨_,_,O,.inr (.inl (zA ho j e E J e5 e6))⟩
   rcases U with e | e | e | e
   ·exact ⟨_,_,xj ho j e⟩
   ·exact ⟨_,_,xq ho j e⟩
   ·exact ⟨_,_,xu ho j e⟩
   exact ⟨_,_,xw ho j e⟩
  have E:o.cmp .eql c 7=false:=bN ho h7;have J:o.cmp .eql c 0=false:=bN ho V;have I:o.cmp .neq c 7=true:=S9 ho h7;refine ⟨c,0,0,⟨#[]⟩,[],.inr (.inl ⟨V,⟨rfl,rfl,rfl,rfl⟩,?_⟩),.inr (.inl ⟨V,⟨rfl,rfl,rfl,rfl⟩,?_⟩)⟩
  ·rcases S with e | e | e | e
   ·exact ⟨_,_,.inl (w8 ho j e E J)⟩
   ·exact ⟨_,_,.inr (.inl (w9 ho j e E J))⟩
   ·exact ⟨_,_,.inr (.inr (w_ ho j e E J))⟩
   exact ⟨_,_,.inr (.inl (xh ho j e E J))⟩
  rcases U with e | e | e | e
  ·exact ⟨_,_,xA ho j e I⟩
  ·exact ⟨_,_,xB ho j e I⟩
  ·exact ⟨_,_,xC ho j e I⟩
  exact ⟨_,_,xD ho j e I⟩
 have j:=P8 ho (a:=i) (b:=n) (by omega);exact ⟨6,0,0,⟨#[]⟩,[],.inl ⟨rfl,⟨rfl,rfl,rfl,rfl⟩,_,_,zo ho j⟩,.inl ⟨rfl,⟨rfl,rfl,rfl,rfl⟩,_,_,xk ho j⟩⟩
end
def nk (o:aM) (fns:Lq) (s:By) (l:Lq):Bool:=decide (0<=iB fns s)&&(decide (iU fns (iB fns s)=l.length)&&l.all (pO o))
section
variable {o:aM} (ho:aQ cu bw o)
include ho
theorem Iz (c_0 c_1:Lq) (s:By) (l:Lq) (hK:jZ c_0 c_1) (hB:eB o c_0 c_1 true=true) {m:Nat} (I:∀x∈l,Tm m x) (hl:(l.length:Int)<=1048576):(nk o c_0 s l=false/\o.call 150 [Sc c_0 c_1,As s,Al l] []=Ar (.tup [.agg [.emp,.emp],Ab false]))\/(nk o c_0 s l=true/\∃q nm a xs,c_0[(iB c_0 s).toNat]? =some (.agg [.str nm,.int .i64 a,.int .i64 q,.lst xs])/\o.call 150 [Sc c_0 c_1,As s,Al l] []=some ⟨.tup [.agg [.arr (0,0) (192,3) none true,.emp],Ab true],[],[Oo (gI [] (iB c_0 s,0,cU q l))]⟩):=by
 obtain ⟨n1,e,M⟩:∃n1,n1=iB c_0 s/\o.call 180 [Sc c_0 c_1,As s] []=Ar (Ai n1):=⟨_,rfl,wN ho c_0 c_1 s hK.1 hK.2.1⟩
 have a3:=pD c_0 s;rcases bn ho n1 0 with ⟨J,g2⟩|⟨J,g2⟩
 ·obtain ⟨s1,n2,n3,l1,j,hA,ha,hs,a4,_⟩:=pF hK.1 ho hB (i:=iB c_0 s) (by omega) (by omega);rw[<-e]at j;have S:iU c_0 n1=n2:=by unfold iU;rw[j]
  have e3:o.cF c_0 n1=some (.agg [.str s1,.int .i64 n2,.int .i64 n3,.lst l1]):=ay ho (by omega) j;obtain ⟨n4,e4,g4⟩:=aC ho l;rcases cD ho n2 n4 with ⟨O,g5⟩|⟨O,g5⟩
  ·cases E:l.all (pO o)
   ·have e6:o.call 158 [Al l] []=Ar (Ab false):=(xG ho l I hl).trans (by rw[E]);exact .inl ⟨by unfold nk;rw[E];simp,(ho.aj (by cbv;repeat (simp only[M,J,e3,e4,O,e6];try cbv)):_=Ar (.tup [.agg [.emp,.emp],Ab false]))⟩
   have e6:o.call 158 [Al l] []=Ar (Ab true):=(xG ho l I hl).trans (by rw[E]);have U:∀x∈l,Rt o 8 x:=λx hx=>xE (I x hx) (List.all_eq_true.1 E x hx)
   obtain ⟨l2,a0,e7⟩:∃z,z=bM l/\o.call 193 [Al l] []=some ⟨.arr (0,0) (31,4) none false,[],[Oq z]⟩:=⟨_,rfl,rL ho m (jH ho m) l I hl⟩
   obtain ⟨l3,hl3,e8⟩:∃z,z=l/\o.bE l2=z:=⟨_,rfl,(ho.bE _).trans (by rw[a0];exact iY I)⟩
   obtain ⟨l4,V,e9⟩:∃z,z=cU n3 l/\o.call 247 [Sc c_0 c_1,Ai n1,Al l3] []=some ⟨.agg [Ai n1,Ai 0,.arr (0,0) (31,4) none true],[],[Os z]⟩:=⟨_,rfl,by rw[hl3];exact CW ho c_0 c_1 n1 l s1 n2 n3 l1 (by omega) j (by omega) (by omega) U⟩
   have a1:o.flat l4=true:=by exact rF ho (by rw[V];exact qt U)
   refine .inr ⟨by unfold nk;rw[<-e,S,decide_eq_true (by omega),decide_eq_true (p:=n2=l.length) (by omega),E];rfl,n3,s1,n2,l1,by rw[<-e];exact j,?_⟩;rw[show gI [] (iB c_0 s,0,cU n3 l)=[.agg [.int .i64 n1,.int .i64 0,.own (31,4) l4]] by rw[<-e,<-V];rfl];exact (ho.aj (by cbv;repeat (simp only[M,J,e3,e4,O,e6,e7,e8,e9,a1];try cbv)):o.call 150 [Sc c_0 c_1,As s,Al l] []=some ⟨.tup [.agg [.arr (0,0) (192,3) none true,.emp],Ab true],[],[Oo [.agg [.int .i64 n1,.int .i64 0,.own (31,4) l4]]]⟩)
  exact .inl ⟨by unfold nk;rw[<-e,S,decide_eq_true (by omega),decide_eq_false (p:=n2=l.length) (by omega)];rfl,(ho.aj (by cbv;repeat (simp only[M,J,e3,e4,O];try cbv)):_=Ar (.tup [.agg [.emp,.emp],Ab false]))⟩
 exact .inl ⟨by unfold nk;rw[decide_eq_false (by omega)];rfl,(ho.aj (by cbv;repeat (simp only[M,J];try cbv)):_=Ar (.tup [.agg [.emp,.emp],Ab false]))⟩
theorem LP (c_0 c_1:Lq) (k:Int) (l:Lq) (nm:By) (a q:Int) (xs:Lq) (J:0<=k) (M:c_0[k.toNat]? =some (.agg [.str nm,.int .i64 a,.int .i64 q,.lst xs])) (e:(l.length:Int)<=q) (O:q<=400) (S:∀x∈l,Rt o 8 x):o.call 177 [Ac c_0 c_1,Ai k,Al l] []=some ⟨.agg [.arr (0,0) (192,3) none true,.emp],[],[Op (gS [] (k,0,cU q l))]⟩:=by
 refine ho.aL λR Q=> ?_
 obtain ⟨n1,n2,l1,⟨j,E,I⟩,U⟩:∃a b c,(a=k/\b=0/\c=cU q l)/\o.call 187 [Ac c_0 c_1,Ai k,Al l] []=Ar (.agg [Ai a,Ai b,Al c]):=⟨_,_,_,⟨rfl,rfl,rfl⟩,Ao ho c_0 c_1 k l nm a q xs J M e O S⟩
 conv=>lhs;cbv;rw[U];cbv
 subst Q;rw[show gS [] (k,0,cU q l)=[.agg [.int .i64 n1,.int .i64 n2,.lst l1]] by rw[j,E,I];rfl];try rfl
end
section
variable {o:aM} (ho:aQ cu bw o)
include ho
theorem CX {c_0 c_1:Lq} {s:By} {l l1:Lq} {n:Int} {l2 l3:Lq} (j:o.call 150 [Sc c_0 c_1,As s,Al l] []=some ⟨.tup [.agg [.arr (0,0) (192,3) none true,.emp],Ab true],[],[Oo l1]⟩) (e:o.loop 9100 (a_ c_0 c_1 n 0 l1 [])=some (.exit 0,mR l2 l3)):o.call 91 [Sc c_0 c_1,As s,Al l,Ai n] []=Ar (.tup [.agg [Ai 0,Ai 0,As ⟨#[]⟩,.emp],Ai 6]):=by
 refine ho.aj ?_
 cbv at e
 cbv
 repeat (simp only[*];try cbv)
theorem CY {c_0 c_1:Lq} {s:By} {l:Lq} {n:Int} (e:o.call 150 [Sc c_0 c_1,As s,Al l] []=Ar (.tup [.agg [.emp,.emp],Ab false])):o.call 91 [Sc c_0 c_1,As s,Al l,Ai n] []=Ar (.tup [.agg [Ai 0,Ai 0,As ⟨#[]⟩,.emp],Ai 1]):=by
 refine ho.aj ?_
 cbv
 repeat (simp only[*];try cbv)
theorem CZ {c_0 c_1:Lq} {s:By} {l l1:Lq} {n n1 n2:Int} {s1:By} {l2 l3 e:Lq} (E:o.call 150 [Sc c_0 c_1,As s,Al l] []=some ⟨.tup [.agg [.arr (0,0) (192,3) none true,.emp],Ab true],[],[Oo l1]⟩) (j:o.loop 9100 (a_ c_0 c_1 n 0 l1 [])=some (.ret,mS n1 n2 s1 l2 l3 e)):o.call 91 [Sc c_0 c_1,As s,Al l,Ai n] []=some ⟨.tup [Ay n1 n2 s1,Ai 0],[],[Oq e]⟩:=by
 refine ho.aj ?_
 cbv at j
 cbv
 repeat (simp only[*];try cbv)
theorem C4 {c_0 c_1:Lq} {s:By} {l l1:Lq} {n n1 n2:Int} {s1:By} {l2 l3 e:Lq} (E:o.call 150 [Sc c_0 c_1,As s,Al l] []=some ⟨.tup [.agg [.arr (0,0) (192,3) none true,.emp],Ab true],[],[Oo l1]⟩) (j:o.loop 9100 (a_ c_0 c_1 n 0 l1 [])=some (.ret,jO n1 n2 s1 l2 l3 e)):o.call 91 [Sc c_0 c_1,As s,Al l,Ai n] []=some ⟨.tup [Ay n1 n2 s1,Ai 0],[],[Oq e]⟩:=by
 refine ho.aj ?_
 cbv at j
 cbv
 repeat (simp only[*];try cbv)
theorem C8 {c_0 c_1:Lq} {s:By} {l l1:Lq} {n n1 n2:Int} {s1:By} {l2 l3 e:Lq} (E:o.call 150 [Sc c_0 c_1,As s,Al l] []=some ⟨.tup [.agg [.arr (0,0) (192,3) none true,.emp],Ab true],[],[Oo l1]⟩) (j:o.loop 9100 (a_ c_0 c_1 n 0 l1 [])=some (.ret,mT n1 n2 s1 l2 l3 e)):o.call 91 [Sc c_0 c_1,As s,Al l,Ai n] []=some ⟨.tup [Ay n1 n2 s1,Ai 0],[],[Oq e]⟩:=by
 refine ho.aj ?_
 cbv at j
 cbv
 repeat (simp only[*];try cbv)
theorem C9 {c_0 c_1:Lq} {s:By} {l l1:Lq} {n n1:Int} {l2 l3:Lq} (j:o.call 150 [Sc c_0 c_1,As s,Al l] []=some ⟨.tup [.agg [.arr (0,0) (192,3) none true,.emp],Ab true],[],[Oo l1]⟩) (e:o.loop 9100 (a_ c_0 c_1 n 0 l1 [])=some (.ret,mU n1 l2 l3)):o.call 91 [Sc c_0 c_1,As s,Al l,Ai n] []=Ar (.tup [.agg [Ai 0,Ai 0,As ⟨#[]⟩,.emp],Ai n1]):=by
 refine ho.aj ?_
 cbv at e
 cbv
 repeat (simp only[*];try cbv)
theorem C_ {c_0 c_1:Lq} {s:By} {l l1:Lq} {n n1:Int} {l2 l3:Lq} (j:o.call 150 [Sc c_0 c_1,As s,Al l] []=some ⟨.tup [.agg [.arr (0,0) (192,3) none true,.emp],Ab true],[],[Oo l1]⟩) (e:o.loop 9100 (a_ c_0 c_1 n 0 l1 [])=some (.ret,jP n1 l2 l3)):o.call 91 [Sc c_0 c_1,As s,Al l,Ai n] []=Ar (.tup [.agg [Ai 0,Ai 0,As ⟨#[]⟩,.emp],Ai n1]):=by
 refine ho.aj ?_
 cbv at e
 cbv
 repeat (simp only[*];try cbv)
theorem Da {c_0 c_1:Lq} {s:By} {l l1:Lq} {n n1:Int} {l2 l3:Lq} (j:o.call 150 [Sc c_0 c_1,As s,Al l] []=some ⟨.tup [.agg [.arr (0,0) (192,3) none true,.emp],Ab true],[],[Oo l1]⟩) (e:o.loop 9100 (a_ c_0 c_1 n 0 l1 [])=some (.ret,mV n1 l2 l3)):o.call 91 [Sc c_0 c_1,As s,Al l,Ai n] []=Ar (.tup [.agg [Ai 0,Ai 0,As ⟨#[]⟩,.emp],Ai n1]):=by
 refine ho.aj ?_
 cbv at e
 cbv
 repeat (simp only[*];try cbv)
theorem Bs {c_0 c_1:Lq} {k:Int} {l l1:Lq} {n n1 n2:Int} {s1:By} {l2 l3 e:Lq} (E:o.call 177 [Ac c_0 c_1,Ai k,Al l] []=some ⟨.agg [.arr (0,0) (192,3) none true,.emp],[],[Op l1]⟩) (j:o.loop 8400 (bh n c_0 c_1 0 l1 [])=some (.ret,fC n1 n2 s1 l2 l3 e)):o.call 84 [Ac c_0 c_1,Ai k,Al l,Ai n] []=Ar (.tup [At n1 n2 s1 l2,Ai 0]):=by
 refine ho.aj ?_
 cbv at j
 cbv
 repeat (simp only[*];try cbv)
theorem Bt {c_0 c_1:Lq} {k:Int} {l l1:Lq} {n:Int} {l2 l3:Lq} (j:o.call 177 [Ac c_0 c_1,Ai k,Al l] []=some ⟨.agg [.arr (0,0) (192,3) none true,.emp],[],[Op l1]⟩) (e:o.loop 8400 (bh n c_0 c_1 0 l1 [])=some (.exit 0,lH l2 l3)):o.call 84 [Ac c_0 c_1,Ai k,Al l,Ai n] []=Ar (.tup [At 0 0 ⟨#[]⟩ [],Ai 6]):=by
 refine ho.aj ?_
 cbv at e
 cbv
 repeat (simp only[*];try cbv)
theorem Bu {c_0 c_1:Lq} {k:Int} {l l1:Lq} {n n1:Int} {l2 l3:Lq} (j:o.call 177 [Ac c_0 c_1,Ai k,Al l] []=some ⟨.agg [.arr (0,0) (192,3) none true,.emp],[],[Op l1]⟩) (e:o.loop 8400 (bh n c_0 c_1 0 l1 [])=some (.ret,fD n1 l2 l3)):o.call 84 [Ac c_0 c_1,Ai k,Al l,Ai n] []=Ar (.tup [At 0 0 ⟨#[]⟩ [],Ai n1]):=by
 refine ho.aj ?_
 cbv at e
 cbv
 repeat (simp only[*];try cbv)
end
def GI (o:aM) (r:Option cn) (c k n:Int) (s:By) (l:Lq):Prop:=
 (Z4 k n s l/\r=some ⟨.tup [.agg [.d (.int .i64 0),.d (.int .i64 0),.d (.str ⟨#[]⟩),.emp],.d (.int .i64 c)],[],[]⟩)
 \/(c=0/\Rt o 8 (.agg [.int .i64 k,.int .i64 n,.str s,.lst l])/\r=some ⟨.tup [.agg [.d (.int .i64 k),.d (.int .i64 n),.d (.str s),.arr (0,0) (31,4) none false],.d (.int .i64 0)],[],[some (.orows (31,4) (bM l))]⟩)
def GS (r:Option cn) (c k n:Int) (s:By) (l:Lq):Prop:=r=some ⟨.tup [.agg [.d (.int .i64 k),.d (.int .i64 n),.d (.str s),.d (.lst l)],.d (.int .i64 c)],[],[]⟩
section
variable {o:aM} (ho:aQ cu bw o) {fns ps:Lq} (hK:jZ fns ps)
include ho hK
theorem GQ (hB:eB o fns ps true=true) {n:Int} (h0:0<=n) (hn:n<=100000) (s:By) (l:Lq) {m:Nat} (hT:∀x∈l,Tm m x) (hl:(l.length:Int)<=1048576) (Q:nk o fns s l=true):
  ∃c k m' s' l',GI o (o.call 91 [Sc fns ps,As s,Al l,Ai n] []) c k m' s' l'/\GS (o.call 84 [Ac fns ps,Ai (iB fns s),Al l,Ai n] []) c k m' s' l':=by
 have J:=Q;unfold nk at J;have U:=of_decide_eq_true (ba J).1;have aA:=of_decide_eq_true (ba (ba J).2).1;have aT:=(ba (ba J).2).2;have O:∀x∈l,Rt o 8 x:=λx M=>xE (hT x M) (List.all_eq_true.1 aT x M)
 have a3:=pD fns s;have S:iB fns s<fns.length:=by omega
 obtain ⟨nm,a,q,xs,E,hA,ha,hs,a4,hF,_⟩:=pF hK.1 ho hB U S;have a5:a=l.length:=by rw[<-aA];unfold iU;rw[E]
 have hH:=hF.1;have a1:fH o fns (iB fns s,0,cU q l)=0:=by
  show (match fns[(iB fns s).toNat]? with | some (.agg [.str _,.int _ _,.int _ _,.lst xs])=>gt (D6 o xs) 0 | _=>0)=_;rw[E];exact hH.2.1
 have hI:Inv o fns [] (iB fns s,0,cU q l) []:=⟨by simp,λg E=>(by cases E),⟨U,S,nm,a,q,xs,E,Int.le_refl _,(by show (0:Int)<_;omega),wY (by omega),qt O⟩,(by rw[a1];simp[zm]),λx M=>(by cases M)⟩
 obtain ⟨c,k,m',s',l',eI,eS⟩:=Iy ho hK hB hn 0 (Int.le_refl _) h0 [] _ [] hI;have V:=LP ho fns ps (iB fns s) l nm a q xs U E (by omega) (by omega) O;rcases Iz ho fns ps s l hK hB hT hl with ⟨hb,_⟩ | ⟨_,q',a6,a',xs',j,I⟩
 ·rw[Q]at hb;cases hb
 rw[E]at j;injection j with j;injection j with j;simp only[List.cons.injEq,D.int.injEq,D.str.injEq,D.lst.injEq,true_and,and_true]at j;obtain ⟨rfl,rfl,rfl,rfl⟩:=j;refine ⟨c,k,m',s',l',?_,?_⟩
 ·rcases eI with ⟨rfl,z,x,y,e⟩ | ⟨hc,z,x,y,e | e | e⟩ | ⟨rfl,x,y,hO,e | e | e⟩
  ·exact .inl ⟨z,CX ho I e⟩
  ·exact .inl ⟨z,C9 ho I e⟩
  ·exact .inl ⟨z,C_ ho I e⟩
  ·exact .inl ⟨z,Da ho I e⟩
  ·exact .inr ⟨rfl,hO,CZ ho I e⟩
  ·exact .inr ⟨rfl,hO,C4 ho I e⟩
  exact .inr ⟨rfl,hO,C8 ho I e⟩
 rcases eS with ⟨rfl,⟨rfl,rfl,rfl,rfl⟩,x,y,e⟩ | ⟨hc,⟨rfl,rfl,rfl,rfl⟩,x,y,e⟩ | ⟨rfl,x,y,e⟩
 ·exact Bt ho V e
 ·exact Bu ho V e
 exact Bs ho V e
end
end T2
