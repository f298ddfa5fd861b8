import Derived.Test.YtfnagkpidcdocaaGreatM09
import Derived.Test.YtfnagkpidcdocaaGreatM08
set_option linter.all false
namespace Go.Vi
open Go Go.RowKit
def vQ:Out->Exit
 | .norm=> .normal
 | .ret=> .ret
 | .exit id=> .exit id
def zf (P:Program) (np x y c dst t:Nat) (zero:List AV) (sz:gq) (agg:Bool):Code->Bool
 | .seq (.region _ r1 d1) (.cond (.tmp c') (.seq (.region _ r2 d2) .ret) .skip)=>
  !d1&& !d2&&c'==c&&decide (t<np)&&zero.length==sz.2&&(match dZ zero with | some ds=>(D.bQ agg ds).isSome | none=>false)&&(match r1.toList with
  | [o1,o2]=>vG P np r1 o1 ⟨some y,none,.move (.tmp x)⟩&&o2.dst==some c&&o2.guard.isNone&&(match o2.op with
   | .binOp .eql ty (.tmp y') (.const (.slice none 0 0)) _=>y'==y&&(match P.underlying ty with | some (.slice _)=>true | _=>false)
   | _=>false)
  | _=>false)&&pK P np r2 (List.range r2.size) [⟨some dst,none,.move (.const .emp)⟩]
 | _=>false
section
variable {P:Program} {call:FuncId->List AV->List (Option Obj)->Option bk} {loop:Nat->St->Option (Out×St)}
variable {s:St} {a:Act} {w:World} {L:Loc} {Z:Nat->Prop}
theorem Cm {t e:TypeId} (ht:P.underlying t=some (.slice e)) (p:Option Addr) (n cap:Nat):(Op.equal t (.slice p n cap) (.slice none 0 0)).run P w= .ok p.isNone w:=by
 have:∀d,(Op.equalIn (d+1) t (.slice p n cap) (.slice none 0 0)).run P w= .ok p.isNone w:=by
  intro d;rw [Op.equalIn];cases p<;>simp [run_underlying ht]
 exact this 9999
theorem AX (np:Nat) (h:RS s a w L Z) {o:Oper} {t t' e:TypeId} {x:Operand} (ho:o.op= .binOp .eql t x (.const (.slice none 0 0)) t') (hu:P.underlying t=some (.slice e)) {p:Option Addr} {n cap:Nat} (hv:a.eval x= .slice p n cap):
  aX P np o s a w L Z (.d (.bool p.isNone)) s:=by
 refine aX.pure h (u:= .bool p.isNone) ?_ (by simp only [RV,RD]);refine dX (m:=do eqGuard .eql t x (.const (.slice none 0 0)) (a.eval x) (.slice none 0 0);binOp .eql t (a.eval x) (.slice none 0 0)) (by unfold execOp;rw [ho];rfl) ?_;rw [hv];have hg:(eqGuard .eql t x (.const (.slice none 0 0)) (.slice p n cap) (.slice none 0 0)).run P w= .ok () w:=by
  unfold eqGuard;rfl
 have hm:(binOp .eql t (.slice p n cap) (.slice none 0 0)).run P w= .ok (.bool p.isNone) w:=by
  simp only [binOp];rw [Sem.run_bind,Cm hu];rfl
 simp [hg,hm]
theorem GN {c:Cx} {as bs:List AV} {vs:List Value} (h:dg c as vs) (hl:bs.length=as.length) (hb:∀(i:Nat) (b:AV),bs[i]? =some b->b=AV.undef\/as[i]? =some b):dg c bs vs:=by
 rw [bL]at h |-;refine ⟨hl.trans h.1,fun i b v h1 h2=> ?_⟩;rcases hb i b h1 with rfl | h3
 ·simp only [RV]
 ·exact h.2 i b v h3 h2
theorem Em {o:aK} {x y c b m t dst:Nat} {sz:gq} {bytes:Nat} {agg:Bool} {zero:List AV} {s s':St} {out:Out} (e:exec o (.clone x y c b m t dst sz bytes agg zero) s=some (out,s')):
  ∃A0 xs s2,s.env[x]? =some A0/\content o s.sto A0=some xs/\o.fits sz.2 bytes xs=true/\s.lay t [some (.rows sz xs)]=some s2/\
   (y<s2.env.length/\c<s2.env.length/\b<s2.env.length/\m<s2.env.length/\t<s2.env.length/\dst<s2.env.length)/\out= .ret/\
   s'=⟨((((((s2.env.set y .undef).set c .undef).set b .undef).set m .undef).set t .undef).set dst (.arr (t,0) sz none false)),s2.sto⟩:=by
 simp only [exec]at e;split at e
 case h_2=>cases e
 case h_1 A0 hx=>
  have key:∀r,(match content o s.sto A0 with
    | some xs=>match o.fits sz.2 bytes xs with
     | true=>match s.lay t [some (.rows sz xs)]with
      | some s=>if y<s.env.length/\c<s.env.length/\b<s.env.length/\m<s.env.length/\t<s.env.length/\dst<s.env.length then
        some (Out.ret,(⟨((((((s.env.set y .undef).set c .undef).set b .undef).set m .undef).set t .undef).set dst (.arr (t,0) sz none false)),s.sto⟩:St))
       else none
      | none=>none
     | false=>none
    | none=>none)=some r->r=(out,s')->∃A0 xs s2,s.env[x]? =some A0/\content o s.sto A0=some xs/\o.fits sz.2 bytes xs=true/\s.lay t [some (.rows sz xs)]=some s2/\
   (y<s2.env.length/\c<s2.env.length/\b<s2.env.length/\m<s2.env.length/\t<s2.env.length/\dst<s2.env.length)/\out= .ret/\
   s'=⟨((((((s2.env.set y .undef).set c .undef).set b .undef).set m .undef).set t .undef).set dst (.arr (t,0) sz none false)),s2.sto⟩:=by
   intro r e hr;subst hr;split at e
   case h_2=>cases e
   case h_1 xs hc=>
    split at e
    case h_2=>cases e
    case h_1 hfit=>
     split at e
     case h_2=>cases e
     case h_1 s2 hl=>
      split at e
      case isFalse=>cases e
      case isTrue hlen=>
       injection e with e;injection e with e1 e2;subst e1;subst e2;exact ⟨A0,xs,s2,hx,hc,hfit,hl,hlen,rfl,rfl⟩
  split at e
  ·exact key _ e rfl
  ·exact key _ e rfl
  ·cases e
theorem AY {np x y c b m t dst:Nat} {sz:gq} {bytes:Nat} {agg:Bool} {zero:List AV} {cx cy:Code} {out:Out} {s':St} (hco:gX P call) (h:RS s a w L Z) (hok1:zf P np x y c dst t zero sz agg cx=true) (hok2:[x,y,c,b,m,t,dst].Nodup)
  (e:exec (real call loop) (.clone x y c b m t dst sz bytes agg zero) s=some (out,s')) (Q:Exit->Act->World->Prop) (hQ:∀a' w' L' Z',RS s' a' w' L' Z'->Tr np s.sto s'.sto w w' L L' Z Z'->Q (vQ out) a' w')
  (hy:∀a1 w1 L1 Z1 s1 s2 out,RS s1 a1 w1 L1 Z1->exec (real call loop) (.seq (.reg [⟨some b,none,.buildSlice sz agg zero 0 []⟩,⟨some m,none,.move (.tmp x)⟩,⟨some t,none,.append sz bytes (.tmp b) (.tmp m)⟩,⟨some dst,none,.move (.tmp t)⟩]) .ret) s1=some (out,s2)->
   (∀a' w' L' Z',RS s2 a' w' L' Z'->Tr np s1.sto s2.sto w1 w' L1 L' Z1 Z'->Q (vQ out) a' w')->cy.wp P Q a1 w1):(Code.seq cx cy).wp P Q a w:=by
 obtain ⟨A0,xs,s2,hx,hc,hfit,hl,hlen,rfl,rfl⟩:=Em e;obtain ⟨hlay,henv⟩:=dW hl;rw [henv]at hlen hQ;obtain ⟨l1,l2,l3,l4,l5,l6⟩:=hlen;simp only [List.nodup_cons,List.mem_cons,List.not_mem_nil,or_false,not_or,List.nodup_nil,not_false_eq_true,and_true]at hok2;obtain ⟨⟨x1,x2,x3,x4,x5,x6⟩,⟨y1,y2,y3,y4,y5⟩,⟨c1,c2,c3,c4⟩,⟨b1,b2,b3⟩,⟨m1,m2⟩,t1⟩:=hok2;unfold zf at hok1;split at hok1
 case h_2=>cases hok1
 case h_1 i1 r1 d1 c' i2 r2 d2=>
  simp only [ah,Bool.not_eq_true',beq_iff_eq,decide_eq_true_eq]at hok1;obtain ⟨⟨⟨⟨⟨⟨⟨p1,p2⟩,p3⟩,p4⟩,p5⟩,p6⟩,p7⟩,p8⟩:=hok1;subst p1;subst p2;subst p3;split at p7
  case h_2=>cases p7
  case h_1 o1 o2 hr1=>
   have hr1':r1= #[o1,o2]:=Array.ext' hr1;subst hr1';simp only [ah,beq_iff_eq]at p7;obtain ⟨⟨⟨q1,q2⟩,q3⟩,q4⟩:=p7;split at q4
   case h_2=>cases q4
   case h_1 ty y' t2 hop=>
    simp only [ah,beq_iff_eq]at q4;obtain ⟨rfl,q4⟩:=q4;split at q4
    case h_2=>cases q4
    case h_1 el hu=>
     refine wp_seq (wp_seq (wp_region ?_));show wpOps P #[o1,o2] _ [0,1] a w;simp only [wpOps];have e1:bf (real call loop) [⟨some y',none,.move (.tmp x)⟩] s=some ⟨s.env.set y' A0,s.sto⟩:=by
      simp only [bf,wanted,aJ,evalOp,ev,hx,ep]
     refine pL (rest:=[]) (np:=np) hco h q1 e1 _ _ fun s3 a3 w3 L3 Z3 k1 k2 k3=> ?_
     simp only [bf]at k3;injection k3 with k3;subst k3;have hy':(s.env.set y' A0)[y']? =some A0:=by rw [List.getElem?_set_self l1]
     have hv:=aL k1 (show cN (.tmp y') (.tmp y')=true by simp [cN]) (show ev _ (.tmp y')=some A0 from hy');obtain ⟨A,cap,v1',v2,v3⟩:=cG k1.obj hv hc;have hw:Region.wanted o2 (yielded #[o1,o2] a3.tmps)=true:=by
      unfold Region.wanted;cases hg:o2.guard with
      | none=>rfl
      | some g=>rw [hg]at q3;cases q3
     simp only [List.getElem?_toArray,List.getElem?_cons_succ,List.getElem?_cons_zero];rw [if_pos hw];left;refine AX np k1 hop hu v1' _ _ fun u w4 L4 Z4 n1 n2 n3=> ?_
     rw [q2];have n4:=n1.put (some c') n3;simp only [ep]at n4;simp only [wpOps,Exit.then];have hcv:=aL n4 (show cN (.tmp c') (.tmp c')=true by simp [cN]) (show ev _ (.tmp c')=some (.d (.bool A.isNone))from List.getElem?_set_self (by simpa using l2));simp only [RV,RD]at hcv;refine wp_cond (t:=A.isNone) (by injection hcv) ?_;cases A with
     | none=>
      simp only [Option.isNone_none,if_true];have hxs:xs=[]:=by
       rcases v3 with v3 | ⟨b0,o0,z0,v3,_⟩
       ·exact v3
       ·cases v3
      subst hxs;refine wp_seq (wp_region ?_);have e2:bf (real call loop) [⟨some dst,none,.move (.const .emp)⟩] ⟨(s.env.set y' A0).set c' (.d (.bool (none:Option Addr).isNone)),s.sto⟩=some ⟨((s.env.set y' A0).set c' (.d (.bool (none:Option Addr).isNone))).set dst .emp,s.sto⟩:=by
       simp only [bf,wanted,aJ,evalOp,ev,ep]
      refine jR (np:=np) hco p8 n4 e2 _ fun a5 w5 L5 Z5 g1 g2=> ?_
      simp only [Exit.then];refine wp_ret ?_;show Q (vQ .ret) a5 w5;have hl5:(⟨((s.env.set y' A0).set c' (.d (.bool (none:Option Addr).isNone))).set dst .emp,s.sto⟩:St).lay t [some (.rows sz [])]=some ⟨((s.env.set y' A0).set c' (.d (.bool (none:Option Addr).isNone))).set dst .emp,s2.sto⟩:=by
       simp only [St.lay,hlay]
      obtain ⟨L6,f1,f2,f3,f4,_⟩:=tU (np:=np) g1 hl5 p4 (fun c=>nU (own:=false) c);have hdst:(((s.env.set y' A0).set c' (.d (.bool (none:Option Addr).isNone))).set dst .emp)[dst]? =some .emp:=List.getElem?_set_self (by simpa using l6);obtain ⟨ht5,hv5⟩:=vH f1 hdst;simp only [RV]at hv5;have f5:=tX (t:=dst) f1 ht5 (pN (c:=aF w5 Z5 L6 s2.sto) (own:=false) (sz:=sz) f3 f4 hv5);refine hQ a5 w5 L6 Z5 ⟨f5.defers,GN f5.env (by simp) fun i v hi=> ?_,f5.obj,f5.injH,f5.dis⟩ (((k2.trans n2).trans g2).trans f2);simp only [List.getElem?_set,List.length_set]at hi |-;by_cases d0:dst=i
      ·subst d0;simp only [if_true,l6]at hi |-;exact .inr hi
      ·rw [if_neg d0]at hi |-;rw [if_neg d0];by_cases d1:t=i
       ·subst d1;simp only [if_true,l5]at hi;injection hi with hi;exact .inl hi.symm
       rw [if_neg d1]at hi;by_cases d2:m=i
       ·subst d2;simp only [if_true,l4]at hi;injection hi with hi;exact .inl hi.symm
       rw [if_neg d2]at hi;by_cases d3:b=i
       ·subst d3;simp only [if_true,l3]at hi;injection hi with hi;exact .inl hi.symm
       rw [if_neg d3]at hi;by_cases d4:c'=i
       ·subst d4;simp only [if_true,l2]at hi;injection hi with hi;exact .inl hi.symm
       rw [if_neg d4]at hi |-;by_cases d5:y'=i
       ·subst d5;simp only [if_true,l1]at hi;injection hi with hi;exact .inl hi.symm
       rw [if_neg d5]at hi |-;exact .inr hi
     | some A=>
      simp only [Option.isNone_some,Bool.false_eq_true,if_false];refine wp_skip ?_;simp only [Exit.then];cases hdz:dZ zero with
      | none=>rw [hdz]at p6;cases p6
      | some ds=>
       rw [hdz]at p6;simp only at p6;obtain ⟨z,hz⟩:=Option.isSome_iff_exists.1 p6;generalize hX:(s.env.set y' A0).set c' (.d (.bool (some A).isNone))=env4 at n4;have hlen4:env4.length=s.env.length:=by rw [<-hX];simp
       have hx4:env4[x]? =some A0:=by rw [<-hX,List.getElem?_set_ne (Ne.symm x2),List.getElem?_set_ne (Ne.symm x1)];exact hx
       generalize hE1:env4.set b .emp=env5;have hx5:env5[x]? =some A0:=by rw [<-hE1,List.getElem?_set_ne (Ne.symm x3)];exact hx4
       generalize hE2:env5.set m A0=env6;have hb6:env6[b]? =some .emp:=by rw [<-hE2,List.getElem?_set_ne (Ne.symm b1),<-hE1,List.getElem?_set_self (by rw [hlen4];exact l3)]
       have hm6:env6[m]? =some A0:=by rw [<-hE2,List.getElem?_set_self (by rw [<-hE1,List.length_set,hlen4];exact l4)]
       have hl6:(⟨env6,s.sto⟩:St).lay t [some (.rows sz xs)]=some ⟨env6,s2.sto⟩:=by simp only [St.lay,hlay]
       generalize hE3:env6.set t (.arr (t,0) sz none false)=env7;have ht7:env7[t]? =some (.arr (t,0) sz none false):=by rw [<-hE3,List.getElem?_set_self (by rw [<-hE2,List.length_set,<-hE1,List.length_set,hlen4];exact l5)]
       have e3:exec (real call loop) (.seq (.reg [⟨some b,none,.buildSlice sz agg zero 0 []⟩,⟨some m,none,.move (.tmp x)⟩,⟨some t,none,.append sz bytes (.tmp b) (.tmp m)⟩,⟨some dst,none,.move (.tmp t)⟩]) .ret) ⟨env4,s.sto⟩=some (.ret,⟨env7.set dst (.arr (t,0) sz none false),s2.sto⟩):=by
        have q1:aJ (real call loop) ⟨env4,s.sto⟩ (some b) (.buildSlice sz agg zero 0 [])=some (.emp,⟨env4,s.sto⟩):=by
         simp only [aJ,dH,p5,if_true,hdz,hz,List.map_nil,yK,oR,List.replicate_zero,List.zip_nil_left,j8]
        have q2:aJ (real call loop) ⟨env5,s.sto⟩ (some m) (.move (.tmp x))=some (A0,⟨env5,s.sto⟩):=by
         simp only [aJ,evalOp,ev,hx5]
        have q3:aJ (real call loop) ⟨env6,s.sto⟩ (some t) (.append sz bytes (.tmp b) (.tmp m))=some (.arr (t,0) sz none false,⟨env6,s2.sto⟩):=by
         simp only [aJ,ev,hb6,hm6,hc,hfit,hl6]
        have q4:aJ (real call loop) ⟨env7,s2.sto⟩ (some dst) (.move (.tmp t))=some (.arr (t,0) sz none false,⟨env7,s2.sto⟩):=by
         simp only [aJ,evalOp,ev,ht7]
        simp only [exec,bf,wanted,q1,ep,hE1,q2,hE2,q3,hE3,q4]
       refine hy _ _ _ _ _ _ _ n4 e3 fun a' w' L' Z' f1 f2=> ?_
       refine hQ a' w' L' Z' ⟨f1.defers,GN f1.env ?_ fun i v hi=> ?_,f1.obj,f1.injH,f1.dis⟩ ((k2.trans n2).trans f2)
       ·rw [<-hE3,<-hE2,<-hE1,<-hX];simp
       ·rw [<-hE3,<-hE2,<-hE1,<-hX];simp only [List.getElem?_set,List.length_set]at hi |-;by_cases d0:dst=i
        ·subst d0;simp only [if_true,l6]at hi |-;exact .inr hi
        ·rw [if_neg d0]at hi |-;by_cases d1:t=i
         ·subst d1;simp only [if_true,l5]at hi;injection hi with hi;exact .inl hi.symm
         rw [if_neg d1]at hi |-;by_cases d2:m=i
         ·subst d2;simp only [if_true,l4]at hi;injection hi with hi;exact .inl hi.symm
         rw [if_neg d2]at hi |-;by_cases d3:b=i
         ·subst d3;simp only [if_true,l3]at hi;injection hi with hi;exact .inl hi.symm
         rw [if_neg d3]at hi |-;by_cases d4:c'=i
         ·subst d4;simp only [if_true,l2]at hi;injection hi with hi;exact .inl hi.symm
         rw [if_neg d4]at hi |-;by_cases d5:y'=i
         ·subst d5;simp only [if_true,l1]at hi;injection hi with hi;exact .inl hi.symm
         rw [if_neg d5]at hi |-;exact .inr hi
end
section
section
variable {P:Program} {call:FuncId->List AV->List (Option Obj)->Option bk} {loop:Nat->St->Option (Out×St)}
variable {s:St} {a:Act} {w:World} {L:Loc} {Z:Nat->Prop}
theorem mH {g:Option (Int×Int)} {xs ys:List D} (h:qD (real call loop) g xs=some ys):(g=none/\ys=xs)\/∃m:Int,g=some (0,m)/\0<=m/\m<=xs.length/\ys=xs.take m.toNat:=by
 unfold qD at h;cases g with
 | none=>injection h with h;exact .inl ⟨rfl,h.symm⟩
 | some p=>
  obtain ⟨p,m⟩:=p;simp only [real,aK.isZero,aK.sub,zp]at h;split at h
  ·rename_i hz;have hz:=of_decide_eq_true hz;subst hz;split at h
   ·rename_i hc;injection h with h;refine .inr ⟨m,rfl,hc.2.1,by omega,?_⟩;rw [<-h];simp
   ·cases h
  ·cases h
theorem Gw {n:Nat} (k:Nat) {xs:List D} {vs:List Value} {F:List Nat} (h:iO w Z n xs vs F):∃F',iO w Z n (xs.take k) vs F'/\(∀x∈F',x∈F)/\(F.Nodup->F'.Nodup):=by
 rw [<-List.take_append_drop k xs]at h;obtain ⟨F1,F2,rfl,h1,_⟩:=eZ.1 h;exact ⟨F1,h1,fun x hx=>by simp [hx],fun hn=>(List.nodup_append.1 hn).1⟩
theorem Gx {np slot:Nat} {q:Id} {sz:gq} {g:Option (Int×Int)} {u:Bool} {v:Value} {ob ob':Obj} {xs ys:List D} {s2:St} (h:RS s a w L Z) (hs:slot<np) (hv:RV (aF w Z L s.sto) (.arr q sz g u) v)
  (hq:s.sto.get q=some ob) (hob:ob= .rows sz xs/\ob'= .rows sz ys\/ob= .orows sz xs/\ob'= .orows sz ys) (hy:qD (real call loop) g xs=some ys) (hl:(s.kill q).lay slot [some ob']=some s2):
  ∃L2,RS s2 a w L2 Z/\Tr np s.sto s2.sto w w L L2 Z Z/\s2.env=(s.kill q).env/\(∀p,((s.kill q).sto.get p).isSome->Same (aF w Z L (s.kill q).sto) (aF w Z L2 s2.sto) p)/\RV (aF w Z L2 s2.sto) (.arr (slot,0) sz none false) v:=by
 simp only [RV]at hv;obtain ⟨A,n,cap,zs,m1,⟨m2,m2'⟩,m3,m4,m5,m6,m7,m8⟩:=hv;have m4':(s.sto.get q).bind Obj.rw=some (sz,zs):=m4;have hzs:zs=xs:=by
  rw [hq]at m4';rcases hob with ⟨h1,_⟩ | ⟨h1,_⟩<;>(rw [h1]at m4';simp [Obj.rw]at m4';exact m4'.symm)
 subst hzs;have hn:n=ys.length:=by
  rcases mH hy with ⟨rfl,rfl⟩ | ⟨m,rfl,p1,p2,rfl⟩
  ·exact m5 rfl
  ·obtain ⟨_,q2,q3⟩:=m6 0 m rfl;simp only [List.length_take];omega
 have hroff:bC g=0:=by
  rcases mH hy with ⟨rfl,rfl⟩ | ⟨m,rfl,p1,p2,rfl⟩<;>rfl
 have hyle:ys.length<=zs.length:=by
  rcases mH hy with ⟨rfl,rfl⟩ | ⟨m,rfl,p1,p2,rfl⟩
  ·exact Nat.le_refl _
  ·simp only [List.length_take];omega
 have hytake:∃m,ys=zs.take m:=by
  rcases mH hy with ⟨rfl,rfl⟩ | ⟨m,rfl,p1,p2,rfl⟩
  ·exact ⟨ys.length,by simp⟩
  ·exact ⟨_,rfl⟩
 have hrw':ob'.rw=some (sz,ys):=by rcases hob with ⟨_,h1⟩ | ⟨_,h1⟩<;>(rw [h1];rfl)
 have hkill:=h.kill q;have tkill:=Tr.kill np s w L Z q;have hlay:=(dW hl).1;have hroq:=h.obj q _ hq;obtain ⟨
     L2,
       k1,k2,k3,k4⟩:∃L2,RS s2 a w L2 Z/\Tr np s.sto s2.sto w w L L2 Z Z/\s2.env=(s.kill q).env/\L2 (slot,0)=L q/\(∀p,((s.kill q).sto.get p).isSome->Same (aF w Z L (s.kill q).sto) (aF w Z L2 s2.sto) p):=by
  cases hLq:L q with
  | none=>
   have hzero:ys=[]/\(ob= .orows sz zs->∀k,¬L.nest q k):=by
    have:zs=[]:=by
     rcases hob with ⟨h1,_⟩ | ⟨h1,_⟩
     ·rw [h1]at hroq;simp only [RO]at hroq;exact hroq.1 hLq
     ·rw [h1]at hroq;simp only [RO]at hroq;exact (hroq.1 hLq).1
    refine ⟨?_,fun h1=> ?_⟩
    ·obtain ⟨m,rfl⟩:=hytake;rw [this];simp
    ·rw [h1]at hroq;simp only [RO]at hroq;exact (hroq.1 hLq).2
   obtain ⟨rfl,hz2⟩:=hzero;have hro2:∀c:Cx,c.L (slot,0)=none->(∀k,¬c.L.nest (slot,0) k)->RO c (slot,0) ob':=by
    rcases hob with ⟨_,h1⟩ | ⟨_,h1⟩
    ·rw [h1];exact fun c=>nU (own:=false) c
    ·rw [h1];exact fun c=>nU (own:=true) c
   obtain ⟨L2,f1,f2,f3,f4,f5⟩:=tU (np:=np) hkill hl hs hro2;exact ⟨L2,f1,tkill.trans f2,(dW hl).2,f3,f5⟩
  | some b=>
   have hbl:aW s.sto L b:=⟨q,ob,hq,.inl hLq⟩
   have hbn:¬aW (s.kill q).sto L b:=f8 h hq (.inl hLq);have hlt:b<w.heap.size:=h.block_lt hq hLq;rcases hob with ⟨h1,h2⟩ | ⟨h1,h2⟩
   ·subst h1;subst h2;simp only [RO]at hroq;obtain ⟨vs,t1,t2,t3⟩:=hroq.2 b hLq;obtain ⟨f1,f2,f3,f4⟩:=RS.Et (s0:=s) (np:=np) (nb:=some b) (w':=w) (N:=fun _=>False) hkill tkill hl hs rfl rfl rfl (Nat.le_refl _) (fun _ _ _=>rfl)
     (fun b' e=>by injection e with e;subst e;exact ⟨fun hz=>(h.dis _ hz).2 hbl,hbn,hlt,.inr hbl⟩) (fun _ _ e=>e.elim)
     (by
      simp only [RO];refine ⟨fun e=> ?_,fun b' e=> ?_⟩
      ·rw [ck]at e;cases e
      ·rw [ck]at e;injection e with e;subst e;obtain ⟨m,rfl⟩:=hytake;exact ⟨vs,t1,Nat.le_trans (Nat.mul_le_mul_right _ hyle) t2,lU _ t3⟩)
    exact ⟨_,f1,f2,f3,(ck _ _ _ _),f4⟩
   ·subst h1;subst h2;simp only [RO]at hroq;obtain ⟨vs,F,t1,t2,t3,t4,t5⟩:=hroq.2 b hLq;obtain ⟨m,hm⟩:=hytake;obtain ⟨F',g1,g2,g3⟩:=Gw m t3;have hlf:∀x∈F',aW s.sto L x/\¬aW (s.kill q).sto L x/\x<w.heap.size:=fun x hx=>by
     have hh:Obj.has (.orows sz zs) L q x:= .inr ⟨rfl,(t5 x).2 (g2 x hx)⟩;exact ⟨⟨q,_,hq,hh⟩,f8 h hq hh,h.eY hq hh⟩
    obtain ⟨f1,f2,f3,f4⟩:=RS.Et (s0:=s) (np:=np) (nb:=some b) (w':=w) (N:=fun x=>x∈F') hkill tkill hl hs rfl rfl rfl (Nat.le_refl _) (fun _ _ _=>rfl)
     (fun b' e=>by injection e with e;subst e;exact ⟨fun hz=>(h.dis _ hz).2 hbl,hbn,hlt,.inr hbl⟩)
     (fun x _ hx=>⟨fun hz=>(h.dis _ hz).2 (hlf x hx).1,(hlf x hx).2.1,(hlf x hx).2.2,.inr (hlf x hx).1⟩)
     (by
      simp only [RO];refine ⟨fun e=> ?_,fun b' e=> ?_⟩
      ·rw [ck]at e;cases e
      ·rw [ck]at e;injection e with e;subst e;refine ⟨vs,F',t1,Nat.le_trans (Nat.mul_le_mul_right _ hyle) t2,by rw [hm];exact g1,?_,fun x=>by rw [iY]⟩;rw [List.nodup_cons]at t4 |-;exact ⟨fun hx=>t4.1 (g2 _ hx),g3 t4.2⟩)
    exact ⟨_,f1,f2,f3,(ck _ _ _ _),f4⟩
 obtain ⟨k4,k5⟩:=k4;have hslot:s2.sto.get (slot,0)=some ob':=by rw [dw hlay];simp
 refine ⟨L2,k1,k2,k3,k5,?_⟩;simp only [RV];refine ⟨A,n,cap,ys,m1,⟨m2,m2'⟩,fun e=>(by cases e),by show (s2.sto.get (slot,0)).bind Obj.rw=_;rw [hslot];exact hrw',fun _=>hn,fun _ _ e=>(by cases e),fun e=>m7 (k4 ▸ e),fun b e=> ?_⟩;rcases m8 b (k4 ▸ e)with ⟨p1,p2⟩ | ⟨p1,p2⟩
 ·exact (p2 hroff).elim
 ·rw [hroff]at p1 p2;exact .inr ⟨p1,p2⟩
theorem qM {np slot k:Nat} {r q:Id} {sz:gq} {cs:List AV} {g:Option (Int×Int)} {u:Bool} {ob ob':Obj} {xs ys:List D} {s':St} (h:RS s a w L Z) (hs:slot<np) (hr:s.sto.get r=some (.box cs)) (hk:cs[k]? =some (.arr q sz g u))
  (hq:s.sto.get q=some ob) (hob:ob= .rows sz xs/\ob'= .rows sz ys\/ob= .orows sz xs/\ob'= .orows sz ys) (hy:qD (real call loop) g xs=some ys) (e:yM r k q slot sz ob' s=some s'):
  ∃L',RS s' a w L' Z/\Tr np s.sto s'.sto w w L L' Z Z:=by
 have hrq:r≠q:=fun e=>by
  subst e;rw [hr]at hq;injection hq with hq;rcases hob with ⟨h1,_⟩ | ⟨h1,_⟩<;>(rw [<-hq]at h1;cases h1)
 have hro:=h.obj r _ hr;simp only [RO]at hro;obtain ⟨b0,vs0,ty0,r1,r2,r3⟩:=hro;have hk0:=ai.1 hk;have hlen:=(bL.1 r3).1;obtain ⟨v,hv0⟩:∃v,vs0.toList[k]? =some v:=⟨_,aN (by have:=hk0.1;omega)⟩
 have hv:=(bL.1 r3).2 k _ v hk hv0;unfold yM at e;split at e
 case h_2=>cases e
 case h_1 s2 hl=>
  obtain ⟨L2,k1,k2,k3,k5,hnew⟩:=Gx h hs hv hq hob hy hl;split at e
  case h_2=>cases e
  case h_1 cs2 hr2=>
   injection e with e;subst e;have hro2:=k1.obj r _ hr2;simp only [RO]at hro2;obtain ⟨b2,vs2,ty2,u1,u2,u3⟩:=hro2;have hrs:((s.kill q).sto.get r).isSome:=by rw [fq,if_neg hrq,hr];rfl
   have hb2:b2=b0:=by
    have:=(k5 r hrs).1;have h2:L2 r=L r:=this;rw [h2,r1]at u1;injection u1 with u1;exact u1.symm
   subst hb2;have hvs:vs2=vs0:=by rw [r2]at u2;injection u2 with u2;injection u2 with u2;exact u2.symm
   subst hvs;have hsame:∀p,Same (aF w Z L2 s2.sto) (aF w Z (mZ L2 r (L2.nest r)) (s2.sto.put r (some (.box (cs2.set k (.arr (slot,0) sz none false)))))) p:=fun p=>by
    refine ⟨rfl,fun hs=> ?_,fun z zs hz=>⟨zs,?_,rfl⟩,fun _ _ _=>rfl⟩
    ·show ((s2.sto.put r _).get p).isSome;by_cases e:p=r
     ·subst e;rw [cK _ hr2];rfl
     ·rw [cg _ e];exact hs
    ·have hz':(s2.sto.get p).bind Obj.rw=some (z,zs):=hz;show ((s2.sto.put r _).get p).bind Obj.rw=_;by_cases e:p=r
     ·subst e;rw [hr2]at hz';simp [Obj.rw]at hz'
     ·rw [cg _ e];exact hz'
   obtain ⟨n1,n2,_⟩:=RS.swap (ob':= .box (cs2.set k (.arr (slot,0) sz none false))) (N:=L2.nest r) np k1 hr2 (fun z zs e=>(by simp [Obj.rw]at e)) (fun b hb=>by
    rcases hb with hb | ⟨hb,_⟩
    ·exact .inl hb
    ·cases hb) (by
    simp only [RO];refine ⟨b2,vs2,ty2,u1,u2,?_⟩;refine ct (c:=aF w Z L2 s2.sto) (c':=aF w Z (mZ L2 r (L2.nest r)) (s2.sto.put r (some (.box (cs2.set k (.arr (slot,0) sz none false)))))) (jA.refl _ _) _ _ (fun p _=>hsame p) ?_;rw [bL]at u3 |-;refine ⟨by simpa using u3.1,fun i p v' hp hv'=> ?_⟩;rw [List.getElem?_set]at hp;split at hp
    ·rename_i e;subst e;split at hp
     ·injection hp with hp;subst hp;rw [hv0]at hv';injection hv' with hv';subst hv';exact hnew
     ·cases hp
    ·exact u3.2 i p v' hp hv')
   exact ⟨_,n1,k2.trans n2⟩
theorem sR {np slot t:Nat} {q:Id} {sz:gq} {g:Option (Int×Int)} {u:Bool} {ob ob':Obj} {xs ys:List D} {s':St} (h:RS s a w L Z) (hs:slot<np) (hk:s.env[t]? =some (.arr q sz g u))
  (hq:s.sto.get q=some ob) (hob:ob= .rows sz xs/\ob'= .rows sz ys\/ob= .orows sz xs/\ob'= .orows sz ys) (hy:qD (real call loop) g xs=some ys) (e:Dd t q slot sz ob' s=some s'):
  ∃L',RS s' a w L' Z/\Tr np s.sto s'.sto w w L L' Z Z:=by
 obtain ⟨ht,hv⟩:=vH h hk;unfold Dd at e;split at e
 case h_2=>cases e
 case h_1 s2 hl=>
  injection e with e;subst e;obtain ⟨L2,k1,k2,_,_,hnew⟩:=Gx h hs hv hq hob hy hl;exact ⟨L2,tX k1 ht hnew,k2⟩
theorem nX {np:Nat}:∀{ps:List (Nat×Option Nat×Nat)} {s s':St} {L:Loc} {Z:Nat->Prop},ps.all (fun p=>decide (p.2.2<np))=true->RS s a w L Z->homes (real call loop) ps s=some s'->∃L' Z',RS s' a w L' Z'/\Tr np s.sto s'.sto w w L L' Z Z'
 | [],s,s',L,Z,_,h,e=>by
  simp only [homes]at e;injection e with e;subst e;exact ⟨L,Z,h,Tr.refl _ _ _ _ _⟩
 | (t,
     c,
        slot)::ps,s,s',L,Z,hp,h,e=>by
  simp only [List.all_cons,ah,decide_eq_true_eq]at hp;obtain ⟨hs,hp⟩:=hp;simp only [homes]at e;split at e
  case h_2=>cases e
  case h_1 s1 he=>
   have key:∃L' Z',RS s1 a w L' Z'/\Tr np s.sto s1.sto w w L L' Z Z':=by
    cases c with
    | none=>
     cases slot with
     | zero=>
      simp only [Au]at he;split at he
      case h_2=>injection he with he;subst he;exact ⟨L,Z,h,Tr.refl _ _ _ _ _⟩
      case h_1 q sz g u hk=>
        obtain ⟨ht,hv⟩:=vH h hk;split at he
        case h_2=>cases he
        case h_1 x s2 hfz=>
          injection he with he;subst he;obtain ⟨Z',k1,k2,_,k4⟩:=wh np _ _ s s2 _ Z h (Kept.refl _ _ _ _) hv hfz;exact ⟨L,Z',tX k1 ht (k4 fun r hr=>by simp only [AV.refs]at hr;cases hr),k2⟩
     | succ slot=>
     simp only [Au]at he;split at he
     case h_2=>injection he with he;subst he;exact ⟨L,Z,h,Tr.refl _ _ _ _ _⟩
     case h_1 q sz g u hk=>
       have hszq:∀ob,s.sto.get q=some ob->∀z xs,ob.rw=some (z,xs)->z=sz:=fun ob ho z xs hrw=>by
         obtain ⟨_,hv⟩:=vH h hk;simp only [RV]at hv;obtain ⟨_,_,_,zs,_,_,_,m4,_⟩:=hv;have m4':(s.sto.get q).bind Obj.rw=some (sz,zs):=m4;rw [ho]at m4';have m4'':ob.rw=some (sz,zs):=m4';rw [hrw]at m4'';injection m4'' with m4'';injection m4'' with m4''
       split at he
       · rename_i z xs hq;obtain rfl:=hszq _ hq z xs rfl;split at he
         case h_2=>cases he
         case h_1 ys hy=>exact (fun ⟨L1,q1,q2⟩=>⟨L1,Z,q1,q2⟩) (sR h hs hk hq (.inl ⟨rfl,rfl⟩) hy he)
       · rename_i z xs hq;obtain rfl:=hszq _ hq z xs rfl;split at he
         case h_2=>cases he
         case h_1 ys hy=>exact (fun ⟨L1,q1,q2⟩=>⟨L1,Z,q1,q2⟩) (sR h hs hk hq (.inr ⟨rfl,rfl⟩) hy he)
       · cases he
    | some c=>
     simp only [Au]at he;split at he
     case h_2=>cases he
     case h_1 r b _=>
       split at he
       case h_2=>cases he
       case h_1 cs hr=>
         split at he
         case h_2=>injection he with he;subst he;exact ⟨L,Z,h,Tr.refl _ _ _ _ _⟩
         case h_1 q sz g u hk=>
           have hszq:∀ob,s.sto.get q=some ob->∀z xs,ob.rw=some (z,xs)->z=sz:=fun ob ho z xs hrw=>by
            have hro:=h.obj r _ hr;simp only [RO]at hro;obtain ⟨b0,vs0,ty0,r1,r2,r3⟩:=hro;have hk0:=ai.1 hk;have hlen:=(bL.1 r3).1;obtain ⟨v,hv0⟩:∃v,vs0.toList[b+c]? =some v:=⟨_,aN (by have:=hk0.1;omega)⟩
            have hv:=(bL.1 r3).2 _ _ v hk hv0;simp only [RV]at hv;obtain ⟨_,_,_,zs,_,_,_,m4,_⟩:=hv;have m4':(s.sto.get q).bind Obj.rw=some (sz,zs):=m4;rw [ho]at m4';have m4'':ob.rw=some (sz,zs):=m4';rw [hrw]at m4'';injection m4'' with m4'';injection m4'' with m4''
           split at he
           ·rename_i z xs hq;obtain rfl:=hszq _ hq z xs rfl;split at he
            case h_2=>cases he
            case h_1 ys hy=>exact (fun ⟨L1,q1,q2⟩=>⟨L1,Z,q1,q2⟩) (qM h hs hr hk hq (.inl ⟨rfl,rfl⟩) hy he)
           ·rename_i z xs hq;obtain rfl:=hszq _ hq z xs rfl;split at he
            case h_2=>cases he
            case h_1 ys hy=>exact (fun ⟨L1,q1,q2⟩=>⟨L1,Z,q1,q2⟩) (qM h hs hr hk hq (.inr ⟨rfl,rfl⟩) hy he)
           ·cases he
   obtain ⟨L1,Z1,k1,k2⟩:=key;obtain ⟨L2,Z2,m1,m2⟩:=nX hp k1 e;exact ⟨L2,Z2,m1,k2.trans m2⟩
end
end
def xG (P:Program) (T:Nat->Option VL) (np:Nat):Code->VC->Bool
 | .skip,.skip=>true
 | .region _ ops draw,.reg vs=>match draw with
  | true=>GL P np ops vs
  | false=>pK P np ops (List.range ops.size) vs
 | .region _ ops draw,.regL vs _=>match draw with
  | true=>false
  | false=>pK P np ops (List.range ops.size) vs
 | .region _ ops draw,.regP vs ps=>match draw with
  | true=>false
  | false=>pK P np ops (List.range ops.size) vs&&ps.all fun p=>decide (p.2.2<np)
 | .region _ ops draw,.regD π vs _ ps=>(match draw with
  | true=>qV P np ops π vs
  | false=>pK P np ops (List.range ops.size) vs)&&ps.all fun p=>decide (p.2.2<np)
 | .seq a b,.seq a' b'=>xG P T np a a'&&xG P T np b b'
 | .seq a b,.clone x y c b' m t dst sz bytes agg zero=>zf P np x y c dst t zero sz agg a&&decide ([x,y,c,b',m,t,dst].Nodup)&&xG P T np b (.seq (.reg [⟨some b',none,.buildSlice sz agg zero 0 []⟩,⟨some m,none,.move (.tmp x)⟩,⟨some t,none,.append sz bytes (.tmp b') (.tmp m)⟩,⟨some dst,none,.move (.tmp t)⟩]) .ret)
 | .cond c a b,.cond c' a' b'=>cN c c'&&xG P T np a a'&&xG P T np b b'
 | .block id c,.block id' c'=>id==id'&&xG P T np c c'
 | .loop c,.loop prom _ _ key=>(match T key with | some l=>xG P T np c l.body | none=>false)&&prom.all fun p=>decide (p.2.2.1<np)
 | .exit id,.exit id'=>id==id'
 | .ret,.ret=>true
 | _,_=>false
def xH (P:Program) (c:Code) (Q:Exit->Act->World->Prop) (a:Act) (w:World):Prop:=
 ∀(b:Frame) (k:List Item) (cs:List Frame),∃e a' w',Q e a' w'/\Arrives P (lone (b.at a (.inLoop c::k)) cs w) b k cs e a' w'
section
variable {P:Program} {Q:Exit->Act->World->Prop}
theorem AZ {c:Code} {a:Act} {w:World} (h:c.wp P (Exit.then (xH P c Q) Q) a w) (b:Frame) (k:List Item) (cs:List Frame):
  ∃e a' w',Q e a' w'/\Arrives P (lone (b.at a (.code c:: .inLoop c::k)) cs w) b k cs e a' w':=by
 obtain ⟨e,a₁,w₁,hq,harr⟩:=h b (.inLoop c::k) cs;cases e with
 | normal=>
  obtain ⟨e₂,a₂,w₂,hq₂,harr₂⟩:=hq b k cs;exact ⟨e₂,a₂,w₂,hq₂,.of_steps harr harr₂⟩
 | exit id=>exact ⟨_,a₁,w₁,hq,.pass (x:= .inLoop c) rfl (fun _ _=> .inl (by simp)) harr⟩
 | goto l=>exact ⟨_,a₁,w₁,hq,.pass (x:= .inLoop c) rfl (fun _ _=> .inl (by simp)) harr⟩
 | ret=>exact ⟨_,a₁,w₁,hq,.pass (x:= .inLoop c) rfl (fun _ _=> .inl (by simp)) harr⟩
 | panic ch=>exact ⟨_,a₁,w₁,hq,.pass (x:= .inLoop c) rfl (fun _ _=> .inl (by simp)) harr⟩
 | outgrown=>exact ⟨_,a₁,w₁,hq,.pass (x:= .inLoop c) rfl (fun _ _=> .inl (by simp)) harr⟩
theorem GP {c:Code} {a:Act} {w:World} (h:c.wp P (Exit.then (xH P c Q) Q) a w):xH P c Q a w:=fun b k cs=>by
 obtain ⟨e,a',w',hq,harr⟩:=AZ h b k cs;exact ⟨e,a',w',hq,.of_steps (.one step_inLoop) harr⟩
theorem Ja {c:Code} {a:Act} {w:World} (h:c.wp P (Exit.then (xH P c Q) Q) a w):(Code.loop c).wp P Q a w:=fun b k cs=>by
 obtain ⟨e,a',w',hq,harr⟩:=AZ h b k cs;exact ⟨e,a',w',hq,.of_steps (.one step_loop) harr⟩
end
def zh (P:Program) (T:Nat->Option VL) (loop:Nat->St->Option (Out×St)):Prop:=
 ∀key s out s',loop key s=some (out,s')->∀l,T key=some l->∀(np:Nat) (c:Code),xG P T np c l.body=true->∀a w L Z,RS s a w L Z->∀Q:Exit->Act->World->Prop,
  (∀a' w' L' Z',RS s' a' w' L' Z'->Tr np s.sto s'.sto w w' L L' Z Z'->Q (vQ out) a' w')->c.wp P (Exit.then (xH P c Q) Q) a w
section
variable {P:Program} {T:Nat->Option VL} {call:FuncId->List AV->List (Option Obj)->Option bk} {loop:Nat->St->Option (Out×St)}
theorem pQ (
      hmix:P.follows .mixedOrders=true) (hco:gX P call) (hlo:zh P T loop) {np:Nat}:∀(c:Code) (vc:VC) (s:St) (out:Out) (s':St) (a:Act) (w:World) (L:Loc) (Z:Nat->Prop),xG P T np c vc=true->RS s a w L Z->
  exec (real call loop) vc s=some (out,s')->∀Q:Exit->Act->World->Prop,(∀a' w' L' Z',RS s' a' w' L' Z'->Tr np s.sto s'.sto w w' L L' Z Z'->Q (vQ out) a' w')->c.wp P Q a w:=by
 intro c;induction c with
 | skip=>
  intro vc s out s' a w L Z hok h e Q hQ;cases vc<;>simp only [xG]at hok<;>first | (cases hok;done) | skip
  simp only [exec]at e;injection e with e;injection e with e1 e2;subst e1;subst e2;exact wp_skip (hQ a w L Z h (Tr.refl _ _ _ _ _))
 | region id ops draw=>
  intro vc s out s' a w L Z hok h e Q hQ;cases vc<;>simp only [xG]at hok<;>first | (cases hok;done) | skip
  ·rename_i vs;simp only [exec]at e;split at e
   case h_2=>cases e
   case h_1 s1 hs1=>
    injection e with e;injection e with e1 e2;subst e1;subst e2;cases draw with
    | true=>exact Cl hmix hco hok h hs1 Q hQ
    | false=>exact wp_region (jR hco hok h hs1 Q hQ)
  ·rename_i vs x;simp only [exec]at e;split at e
   case h_2=>cases e
   case h_1 s1 hs1=>
    split at e
    case h_2=>cases e
    case h_1 s2 hs2=>
     injection e with e;injection e with e1 e2;subst e1;subst e2;cases draw with
     | true=>cases hok
     | false=>
      refine wp_region (jR hco hok h hs1 Q fun a' w' L' Z' k1 k2=> ?_);obtain ⟨L2,m1,m2⟩:=mD (np:=np) k1 hs2;exact hQ a' w' L2 Z' m1 (k2.trans m2)
  ·rename_i vs ps;simp only [exec]at e;split at e
   case h_2=>cases e
   case h_1 s1 hs1=>
    split at e
    case h_2=>cases e
    case h_1 s2 hs2=>
     injection e with e;injection e with e1 e2;subst e1;subst e2;cases draw with
     | true=>cases hok
     | false=>
      simp only [ah]at hok;refine wp_region (jR hco hok.1 h hs1 Q fun a' w' L' Z' k1 k2=> ?_);obtain ⟨L2,Z2,m1,m2⟩:=nX (np:=np) hok.2 k1 hs2;exact hQ a' w' L2 Z2 m1 (k2.trans m2)
  ·rename_i π vs x ps;simp only [exec]at e;split at e
   case h_2=>cases e
   case h_1 s1 hs1=>
    split at e
    case h_2=>cases e
    case h_1 s2 hs2=>
     split at e
     case h_2=>cases e
     case h_1 s3 hs3=>
      injection e with e;injection e with e1 e2;subst e1;subst e2;simp only [ah]at hok;have key:∀a' w' L' Z',RS s1 a' w' L' Z'->Tr np s.sto s1.sto w w' L L' Z Z'->Q .normal a' w':=fun a' w' L' Z' k1 k2=>by
       have h2:∃L2,RS s2 a' w' L2 Z'/\Tr np s1.sto s2.sto w' w' L' L2 Z' Z':=by
        cases x with
        | none=>injection hs2 with hs2;subst hs2;exact ⟨L',k1,Tr.refl _ _ _ _ _⟩
        | some x=>exact mD (np:=np) k1 hs2
       obtain ⟨L2,m1,m2⟩:=h2;obtain ⟨L3,Z3,n1,n2⟩:=nX (np:=np) hok.2 m1 hs3;exact hQ a' w' L3 Z3 n1 ((k2.trans m2).trans n2)
      cases draw with
      | true=>exact sX hmix hco hok.1 h hs1 Q key
      | false=>exact wp_region (jR hco hok.1 h hs1 Q key)
 | seq x y ihx ihy=>
  intro vc s out s' a w L Z hok h e Q hQ;cases vc<;>simp only [xG]at hok<;>first | (cases hok;done) | skip
  ·rename_i x' y' c' b' m' t' dst' sz bytes agg zero;simp only [ah,decide_eq_true_eq]at hok;obtain ⟨⟨hok1,hok2⟩,hok3⟩:=hok;refine AY (loop:=loop) hco h hok1 hok2 e Q hQ fun a1 w1 L1 Z1 s1 s2 out hR he hq=> ?_
   exact ihy _ s1 out s2 a1 w1 L1 Z1 hok3 hR he Q hq
  rename_i x' y';simp only [ah]at hok;simp only [exec]at e;refine wp_seq ?_;split at e
  ·rename_i s1 hs1;refine ihx x' s _ s1 a w L Z hok.1 h hs1 _ fun a1 w1 L1 Z1 k1 k2=> ?_
   exact ihy y' s1 out s' a1 w1 L1 Z1 hok.2 k1 e Q fun a' w' L' Z' m1 m2=>hQ a' w' L' Z' m1 (k2.trans m2)
  ·rename_i r hr;refine ihx x' s out s' a w L Z hok.1 h e _ fun a1 w1 L1 Z1 k1 k2=> ?_
   have:=hQ a1 w1 L1 Z1 k1 k2;cases out with
   | norm=>exact (hr s' e).elim
   | ret=>exact this
   | exit id=>exact this
 | cond c x y ihx ihy=>
  intro vc s out s' a w L Z hok h e Q hQ;cases vc<;>simp only [xG]at hok<;>first | (cases hok;done) | skip
  rename_i c' x' y';simp only [ah]at hok;simp only [exec]at e;split at e
  case h_2=>cases e
  case h_1 t ht=>
   have hv:=aL h hok.1.1 ht;simp only [RV,RD,List.cons.injEq,and_true]at hv;refine wp_cond hv ?_;cases t with
   | true=>exact ihx x' s out s' a w L Z hok.1.2 h e Q hQ
   | false=>exact ihy y' s out s' a w L Z hok.2 h e Q hQ
 | block id c ih=>
  intro vc s out s' a w L Z hok h e Q hQ;cases vc<;>simp only [xG]at hok<;>first | (cases hok;done) | skip
  rename_i id' c';simp only [ah,beq_iff_eq]at hok;obtain ⟨rfl,hok⟩:=hok;simp only [exec]at e;refine wp_block ?_;split at e
  ·rename_i k s1 hs1;refine ih c' s _ s1 a w L Z hok h hs1 _ fun a1 w1 L1 Z1 k1 k2=> ?_
   simp only [vQ,Exit.inBlock];split at e
   ·rename_i hk;injection e with e;injection e with e1 e2;subst e1;subst e2;rw [if_pos hk];exact hQ a1 w1 L1 Z1 k1 k2
   ·rename_i hk;injection e with e;injection e with e1 e2;subst e1;subst e2;rw [if_neg hk];exact hQ a1 w1 L1 Z1 k1 k2
  ·rename_i r hr;refine ih c' s out s' a w L Z hok h e _ fun a1 w1 L1 Z1 k1 k2=> ?_
   have:=hQ a1 w1 L1 Z1 k1 k2;cases out with
   | norm=>exact this
   | ret=>exact this
   | exit id=>exact (hr id s' e).elim
 | loop c ih=>
  intro vc s out s' a w L Z hok h e Q hQ;cases vc<;>simp only [xG]at hok<;>first | (cases hok;done) | skip
  rename_i prom le ls key;simp only [ah]at hok;obtain ⟨hok1,hok2⟩:=hok;split at hok1
  case h_2=>cases hok1
  case h_1 l hl=>
   simp only [exec]at e;split at e
   case h_2=>cases e
   case h_1 s1 hs1=>
    obtain ⟨L1,k1,k2⟩:=cq (np:=np) (fun p hp=>by simpa using List.all_eq_true.1 hok2 p hp) h hs1;obtain ⟨m1,m2⟩:=k1.mask np le ls;exact Ja (hlo key _ out s' e l hl np c hok1 a w L1 Z m1 Q fun a' w' L' Z' n1 n2=>hQ a' w' L' Z' n1 ((k2.trans m2).trans n2))
 | exit id=>
  intro vc s out s' a w L Z hok h e Q hQ;cases vc<;>simp only [xG]at hok<;>first | (cases hok;done) | skip
  rename_i id';simp only [beq_iff_eq]at hok;subst hok;simp only [exec]at e;injection e with e;injection e with e1 e2;subst e1;subst e2;exact wp_exit (hQ a w L Z h (Tr.refl _ _ _ _ _))
 | ret=>
  intro vc s out s' a w L Z hok h e Q hQ;cases vc<;>simp only [xG]at hok<;>first | (cases hok;done) | skip
  simp only [exec]at e;injection e with e;injection e with e1 e2;subst e1;subst e2;exact wp_ret (hQ a w L Z h (Tr.refl _ _ _ _ _))
 | _=>
  intro vc s out s' a w L Z hok;cases vc<;>simp [xG]at hok
theorem GQ (hmix:P.follows .mixedOrders=true) (hco:gX P call) (hlo:zh P T loop):zh P T (sL (real call loop) T):=by
 intro key s out s' e l hl np c hok a w L Z h Q hQ;unfold sL at e;rw [hl]at e;simp only at e;split at e
 ·rename_i s1 hs1;refine pQ hmix hco hlo c l.body s _ s1 a w L Z hok h hs1 _ fun a1 w1 L1 Z1 k1 k2=> ?_
  obtain ⟨m1,m2⟩:=k1.mask np l.liveE l.liveS;exact GP (hlo key _ out s' e l hl np c hok a1 w1 L1 Z1 m1 Q fun a' w' L' Z' n1 n2=>hQ a' w' L' Z' n1 ((k2.trans m2).trans n2))
 ·rename_i out1 s1 hne hs1;injection e with e;injection e with e1 e2;subst e1;subst e2;refine pQ hmix hco hlo c l.body s out1 s1 a w L Z hok h hs1 _ fun a1 w1 L1 Z1 k1 k2=> ?_
  obtain ⟨m1,m2⟩:=k1.mask np l.outE l.outS;have:=hQ a1 w1 L1 Z1 m1 (k2.trans m2);cases out1 with
  | norm=>exact (hne rfl).elim
  | ret=>exact this
  | exit id=>exact this
 ·cases e
end
def o_ (P:Program):List ResultVar->List (Sum Nat (Nat×Bool×Nat))->Bool
 | [],[]=>true
 | .tmp t::l,.inl t'::r=>t==t'&&o_ P l r
 | .cell a ty::l,.inr (a',agg,n)::r=>a==a'&&(match P.info? ty,P.underlying ty with | some i,some d=>i.size==n&&agg==q9 d | _,_=>false)&&o_ P l r
 | _,_=>false
def okF (P:Program) (T:Nat->Option VL) (f:FuncId) (v:VF):Bool:=match P.funcs[f]? with
 | some fn=>match fn.body with
  | some c=> !(fn.name== "runtime.NumGoroutine")&&v.ntmps==fn.ntmps&&decide (v.nargs<=v.ntmps)&&o_ P fn.results.toList v.results&&xG P T v.ntmps c v.body
  | none=>false
 | none=>false
section
variable {P:Program} {T:Nat->Option VL} {call:FuncId->List AV->List (Option Obj)->Option bk} {loop:Nat->St->Option (Out×St)}
def rR (tmps:Array Value):ResultVar->Sem Value
 | .tmp t=>pure (tmps.getD t undef)
 | .cell a t=>do loadVar t (<-asAddr (tmps.getD a undef))
theorem mJ {s:St} {a:Act} {w:World} {L:Loc} {Z:Nat->Prop} (h:RS s a w L Z):∀{l:List ResultVar} {r:List (Sum Nat (Nat×Bool×Nat))} {xs:List AV},o_ P l r=true->j_ (real call loop) s r=some xs->
  ∃vs,(l.mapM (rR a.tmps)).run P w= .ok vs w/\dg (aF w Z L s.sto) xs vs
 | [],[],xs,_,e=>by
  simp only [j_]at e;injection e with e;subst e;exact ⟨[],by simp,by simp only [dg]⟩
 | .tmp t::l,.inl t'::r,xs,hok,e=>by
  simp only [o_,ah,beq_iff_eq]at hok;obtain ⟨rfl,hok⟩:=hok;simp only [j_]at e;split at e
  case h_2=>cases e
  case h_1 x ys hx hys=>
   injection e with e;subst e;obtain ⟨vs,h1,h2⟩:=mJ h hok hys;refine ⟨_::vs,?_,by simp only [dg];exact ⟨_,_,rfl,h.get hx,h2⟩⟩;simp [List.mapM_cons,rR,h1]
 | .cell q ty::l,.inr (q',agg,n)::r,xs,hok,e=>by
  simp only [o_,ah,beq_iff_eq]at hok;obtain ⟨⟨rfl,hok1⟩,hok2⟩:=hok;split at hok1
  case h_2=>cases hok1
  case h_1 i d hi hd=>
   simp only [ah,beq_iff_eq]at hok1;obtain ⟨rfl,hagg⟩:=hok1;simp only [j_]at e;split at e
   case h_2=>cases e
   case h_1 p hp=>
    split at e
    case h_2=>cases e
    case h_1 x ys hx hys=>
     injection e with e;subst e;obtain ⟨vs,h1,h2⟩:=mJ h hok2 hys;obtain ⟨ad,u,k1,k2,k3⟩:=q_ (P:=P) (w:=w) h.obj hi hd hagg (h.get hp) hx;refine ⟨u::vs,?_,by simp only [dg];exact ⟨_,_,rfl,k3,h2⟩⟩;have:(rR a.tmps (.cell q ty)).run P w= .ok u w:=by
      simp [rR,k1,asAddr,k2]
     simp [List.mapM_cons,this,h1]
 | [],_::_,_,hok,_=>by simp [o_]at hok
 | _::_,[],_,hok,_=>by simp [o_]at hok
 | .tmp _::_,.inr _::_,_,hok,_=>by simp [o_]at hok
 | .cell _ _::_,.inl _::_,_,hok,_=>by simp [o_]at hok
def zi:List Value->Value
 | [v]=>v
 | vs=> .tuple vs.toArray
theorem A7 {fn:Func} {tmps:Array Value} {w:World} {vs:List Value} (h:(fn.results.toList.mapM (rR tmps)).run P w= .ok vs w):(results fn tmps).run P w= .ok (zi vs) w:=by
 have hr:∀g:ResultVar->Sem Value,g=rR tmps->Sem.run P (do
   let vs<-List.toArray<$>List.mapM g fn.results.toList
   pure (if h:vs.size=1 then vs[0]else Value.tuple vs)) w= .ok (zi vs) w:=by
  rintro g rfl;simp only [Sem.run_bind,Sem.run_map,h,Result.andThen];cases vs with
  | nil=>simp [zi]
  | cons v l=>cases l with
   | nil=>simp [zi]
   | cons u l=>simp [zi]
 unfold results;rw [Array.mapM_eq_mapM_toList];exact hr _ (by funext x;cases x<;>rfl)
def inn (n:Nat) (r:Id):Id:=(n+r.2,0)
def eL (n:Nat) (cs:List (Option Obj)):bF:=List.replicate n []++cs.map fun ob=>[ob.map (·.map (inn n))]
theorem lQ {n:Nat} {cs:List (Option Obj)} {r:Id} {ob:Obj} (h:(eL n cs).get r=some ob):∃i o,r=(n+i,0)/\jg cs i=some o/\ob=o.map (inn n):=by
 unfold bF.get eL at h;rw [List.getElem?_append,List.length_replicate]at h;split at h
 ·rename_i l hl;split at hl
  ·rename_i hlt;simp [hlt]at hl;subst hl;simp at h
  ·rename_i hlt;rw [List.getElem?_map]at hl;cases hc:cs[r.1-n]? with
   | none=>simp [hc]at hl
   | some o=>
    simp [hc]at hl;subst hl;obtain ⟨r1,r2⟩:=r;cases r2 with
    | zero=>
     simp at h;cases o with
     | none=>simp at h
     | some o=>
      simp at h hc hlt;refine ⟨r1-n,o,by simp;omega,by simp [jg,hc],h.symm⟩
    | succ k=>simp at h
 ·cases h
theorem oJ {n:Nat} {cs:List (Option Obj)} {i:Nat}:(eL n cs).get (n+i,0)=(jg cs i).map (·.map (inn n)):=by
 unfold bF.get eL jg;rw [List.getElem?_append_right (by simp)];simp only [List.length_replicate,Nat.add_sub_cancel_left,List.getElem?_map];cases cs[i]? with
 | none=>rfl
 | some o=>simp
def L0 (n:Nat) (L:Loc):Loc:=⟨fun r=>if n<=r.1 then L (1,r.1-n)else none,fun r=>if n<=r.1 then L.nest (1,r.1-n)else fun _=>False⟩
theorem vR {n i b:Nat} {L:Loc} {o:Obj} {f:Id->Id}:(o.map f).has (L0 n L) (n+i,0) b↔o.has L (1,i) b:=by
 unfold Obj.has;simp [L0,Obj.vo]
theorem Dm {w:World} {Z:Nat->Prop} {L:Loc} {n:Nat} {cs:List (Option Obj)} {r:Id} (hr:(bF.get [[],cs] r).isSome):LD ⟨w,Z,L,bF.get [[],cs]⟩ ⟨w,Z,L0 n L,(eL n cs).get⟩ (inn n) r:=by
 obtain ⟨o,ho⟩:=Option.isSome_iff_exists.1 hr;obtain ⟨r1,r2⟩:=r
 match r1 with
 | 0=>rw [vA]at ho;simp [jg]at ho
 | 1=>
  rw [kf]at ho;refine ⟨?_,fun _=> ?_,fun sz xs k=> ?_⟩
  ·simp [L0,inn]
  ·show ((eL n cs).get (n+r2,0)).isSome;rw [oJ,ho];rfl
  ·show ((eL n cs).get (n+r2,0)).bind Obj.rw=_;have k':(jg cs r2).bind Obj.rw=some (sz,xs):=k;rw [ho]at k';rw [oJ,ho];simpa [Obj.ld]using k'
 | i+2=>rw [yX]at ho;cases ho
theorem Jb {as:List AV} {cs:List (Option Obj)} {vs:Array Value} {w:World} {L:Loc} {Z:Nat->Prop} (h:RS ⟨as,[[],cs]⟩ ⟨vs,[]⟩ w L Z) {n m:Nat} (hm:as.length=m):
  RS ⟨AV.mC (inn n) as++List.replicate (n-m) .bare,eL n cs⟩ ⟨vs++Array.replicate (n-vs.size) undef,[]⟩ w (L0 n L) Z:=by
 have henv:=h.env;have hlen:=(bL.1 henv).1;have hvs:vs.size=m:=by rw [<-hm];simpa using hlen.symm
 have hlives:∀b,aW (eL n cs) (L0 n L) b->aW [[],cs] L b:=fun b hl=>by
  obtain ⟨q,o,h1,h2⟩:=hl;obtain ⟨i,o',rfl,h3,rfl⟩:=lQ h1;exact ⟨(1,i),o',h3,vR.1 h2⟩
 refine ⟨rfl,?_,fun r ob hr=> ?_,fun r r' b ob ob' ho ho' hb hb'=> ?_,fun b hb=>⟨(h.dis b hb).1,fun hl=>(h.dis b hb).2 (hlives b hl)⟩⟩
 ·have h1:=mF (ob:=bF.get [[],cs]) (ob':=(eL n cs).get) (L':=L0 n L) (f:=inn n) as _ (fun r hr=>Dm (dF as _ henv r hr)) henv;rw [bL]at h1 |-;refine ⟨by simp [hvs,hm]at h1 |-;rw [h1.1],fun i x v hx hv=> ?_⟩;have hl1:(AV.mC (inn n) as).length=vs.size:=by simpa using h1.1
  simp only [Array.toList_append,Array.toList_replicate]at hv;rw [List.getElem?_append]at hx hv;rw [hl1]at hx;simp only [Array.length_toList]at hv;split at hx
  ·rename_i hlt;rw [if_pos hlt]at hv;exact h1.2 i x v hx hv
  ·rename_i hlt;rw [if_neg hlt]at hv;have hx':x= .bare:=by
    have:=List.mem_of_getElem? hx;exact (List.mem_replicate.1 this).2
   have hv':v=undef:=by
    have:=List.mem_of_getElem? hv;exact (List.mem_replicate.1 this).2
   subst hx';subst hv';simp only [RV]
 ·obtain ⟨i,o,rfl,h3,rfl⟩:=lQ hr;have hro:=h.obj (1,i) o h3;exact yV (g:=bF.get [[],cs]) hro (by simp [L0]) (fun _=>by simp [L0]) (fun q hq=>Dm (jK hro q hq))
 ·obtain ⟨i,o,rfl,h3,rfl⟩:=lQ ho;obtain ⟨i',o',rfl,h3',rfl⟩:=lQ ho';have:=h.injH (1,i) (1,i') b o o' h3 h3' (vR.1 hb) (vR.1 hb');simp at this;rw [this]
end
section
section
variable {P:Program} {T:Nat->Option VL} {call:FuncId->List AV->List (Option Obj)->Option bk} {loop:Nat->St->Option (Out×St)}
def m9 (n:Nat) (ids:List Id) (r:Id):Id:=if r.1<n then (0,idx ids r)else (1,r.1-n)
def mK (n:Nat) (ids:List Id) (L Lin:Loc):Loc:=
 ⟨fun r=>if r.1=0 then (match ids[r.2]? with | some q=>L q | none=>none)else if r.1=1 then L (n+r.2,0)else Lin r,
  fun r=>if r.1=0 then (match ids[r.2]? with | some q=>L.nest q | none=>fun _=>False)else if r.1=1 then L.nest (n+r.2,0)else Lin.nest r⟩
def rS (s:bF) (n:Nat) (ids:List Id):List (Option Obj):=ids.map fun r=>(s.get r).map (·.map (m9 n ids))
def rT (s:bF) (n m:Nat) (ids:List Id):List (Option Obj):=(List.range m).map fun i=>(s.get (n+i,0)).map (·.map (m9 n ids))
theorem zj {s:bF} {n:Nat} {ids:List Id} {j:Nat}:jg (rS s n ids) j=match ids[j]? with | some q=>(s.get q).map (·.map (m9 n ids)) | none=>none:=by
 unfold rS jg;rw [List.getElem?_map];cases ids[j]? <;>rfl
theorem tZ {s:bF} {n m:Nat} {ids:List Id} {j:Nat}:jg (rT s n m ids) j=if j<m then (s.get (n+j,0)).map (·.map (m9 n ids))else none:=by
 unfold rT jg;rw [List.getElem?_map];by_cases h:j<m
 ·simp [h]
 ·simp [h]
theorem GR {n m:Nat} {ids:List Id} {cs:List (Option Obj)} {v:AV} {u:Value} {s:St} {a:Act} {w w':World} {L Lin:Loc} {Z Z':Nat->Prop} (h:RS s a w' L Z') (t:Tr n (eL n cs) s.sto w w' (L0 n Lin) L Z Z') (hm:m=cs.length)
  (hn:ids.Nodup) (hlt:∀r∈ids,r.1<n) (hs:∀r∈ids,(s.sto.get r).isSome) (hc:∀r∈ids,∀ob,s.sto.get r=some ob->∀q∈ob.refs,q∈ids)
  (hv:RV (aF w' Z' L s.sto) v u) (hvr:∀r∈v.refs,r.1<n->r∈ids) (hpr:∀i,i<m->∀ob,s.sto.get (n+i,0)=some ob->∀r∈ob.refs,r.1<n->r∈ids):
  RS ⟨[v.map (m9 n ids)],[rS s.sto n ids,rT s.sto n m ids]⟩ ⟨#[u],[]⟩ w' (mK n ids L Lin) Z'/\Tr 1 [[],cs] [rS s.sto n ids,rT s.sto n m ids] w w' Lin (mK n ids L Lin) Z Z':=by
 have hpar:∀r,(s.sto.get r).isSome->n<=r.1->∃i,i<m/\r=(n+i,0):=by
  intro r hr hnr;obtain ⟨h1,_⟩:=t.psame r hnr hr;obtain ⟨o,ho⟩:=Option.isSome_iff_exists.1 h1;obtain ⟨i,o',rfl,h3,_⟩:=lQ ho;exact ⟨i,by rw [hm];exact (ai.1 (AB h3)).1,rfl⟩
 have hren:∀r,(s.sto.get r).isSome->(r.1<n->r∈ids)->LD ⟨w',Z',L,s.sto.get⟩ ⟨w',Z',mK n ids L Lin,bF.get [rS s.sto n ids,rT s.sto n m ids]⟩ (m9 n ids) r:=by
  intro r hr hin;by_cases hlr:r.1<n
  ·have hi:=qH (hin hlr);have he:m9 n ids r=(0,idx ids r):=by simp [m9,hlr]
   refine ⟨?_,fun _=> ?_,fun sz xs k=> ?_⟩
   ·show mK n ids L Lin (m9 n ids r)=L r;rw [he];simp [mK,hi]
   ·show (bF.get [rS s.sto n ids,rT s.sto n m ids] (m9 n ids r)).isSome;rw [he,vA,zj,hi];simpa using hr
   ·show (bF.get [rS s.sto n ids,rT s.sto n m ids] (m9 n ids r)).bind Obj.rw=_;have k':(s.sto.get r).bind Obj.rw=some (sz,xs):=k;rw [he,vA,zj,hi];cases ho:s.sto.get r with
    | none=>simp [ho]at k'
    | some o=>simp [ho]at k';simp [ho,Obj.ld,k']
  ·obtain ⟨i,hi,rfl⟩:=hpar r hr (by omega);have he:m9 n ids (n+i,0)=(1,i):=by simp [m9]
   refine ⟨?_,fun _=> ?_,fun sz xs k=> ?_⟩
   ·show mK n ids L Lin (m9 n ids (n+i,0))=L (n+i,0);rw [he];simp [mK]
   ·show (bF.get [rS s.sto n ids,rT s.sto n m ids] (m9 n ids (n+i,0))).isSome;rw [he,kf,tZ,if_pos hi];simpa using hr
   ·show (bF.get [rS s.sto n ids,rT s.sto n m ids] (m9 n ids (n+i,0))).bind Obj.rw=_;have k':(s.sto.get (n+i,0)).bind Obj.rw=some (sz,xs):=k;rw [he,kf,tZ,if_pos hi];cases ho:s.sto.get (n+i,0)with
    | none=>simp [ho]at k'
    | some o=>simp [ho]at k';simp [Obj.ld,k']
 have hget:∀r ob,bF.get [rS s.sto n ids,rT s.sto n m ids] r=some ob->∃q o,s.sto.get q=some o/\(mK n ids L Lin r=L q/\(mK n ids L Lin).nest r=L.nest q)/\ob=o.map (m9 n ids)/\((∃j,r=(0,j)/\ids[j]? =some q/\q∈ids)\/∃i,i<m/\q=(n+i,0)/\r=(1,i)):=by
  intro r ob hr;obtain ⟨r1,r2⟩:=r
  match r1 with
  | 0=>
   rw [vA,zj]at hr;split at hr
   ·rename_i q hq;cases ho:s.sto.get q with
    | none=>simp [ho]at hr
    | some o=>simp [ho]at hr;exact ⟨q,o,ho,⟨by simp [mK,hq],by simp [mK,hq]⟩,hr.symm,.inl ⟨r2,rfl,hq,List.mem_of_getElem? hq⟩⟩
   ·cases hr
  | 1=>
   rw [kf,tZ]at hr;split at hr
   ·rename_i hi;cases ho:s.sto.get (n+r2,0)with
    | none=>simp [ho]at hr
    | some o=>simp [ho]at hr;exact ⟨(n+r2,0),o,ho,⟨by simp [mK],by simp [mK]⟩,hr.symm,.inr ⟨r2,hi,rfl,rfl⟩⟩
   ·cases hr
  | i+2=>rw [yX]at hr;cases hr
 have hlives:∀b,aW [rS s.sto n ids,rT s.sto n m ids] (mK n ids L Lin) b->aW s.sto L b:=fun b hl=>by
  obtain ⟨r,ob,h1,h2⟩:=hl;obtain ⟨q,o,g1,g2,rfl,_⟩:=hget r ob h1;exact ⟨q,o,g1,(qJ g2.1 g2.2).1 (tV.1 h2)⟩
 have hin:∀b,aW [[],cs] Lin b->aW (eL n cs) (L0 n Lin) b:=fun b hl=>by
  obtain ⟨r,ob,h1,h2⟩:=hl;rcases jJ h1 with ⟨_,k⟩ | ⟨k1,k⟩
  ·simp [jg]at k
  ·refine ⟨(n+r.2,0),ob.map (inn n),by rw [oJ,k];rfl,?_⟩;have hr:r=(1,r.2):=Prod.ext k1 rfl;rw [hr]at h2;exact vR.2 h2
 have hin':∀b,aW (eL n cs) (L0 n Lin) b->aW [[],cs] Lin b:=fun b hl=>by
  obtain ⟨q,o,h1,h2⟩:=hl;obtain ⟨i,o',rfl,h3,rfl⟩:=lQ h1;exact ⟨(1,i),o',h3,vR.1 h2⟩
 refine ⟨⟨rfl,?_,?_,?_,fun b hb=>⟨(h.dis b hb).1,fun hl=>(h.dis b hb).2 (hlives b hl)⟩⟩,
  ⟨t.os,t.tape,t.output,t.size,fun b hb hnl=>t.keep b hb fun hl=>hnl (hin' b hl),fun b hl=>(t.lives b (hlives b hl)).imp (hin' b) id,t.zin,fun b hb=>(t.zout b hb).imp id fun x=>x.imp id (hin' b),?_,?_⟩⟩
 ·simp only [dg];refine ⟨u,[],rfl,?_,rfl⟩;exact yU (ob:=s.sto.get) v _ (fun r hr=>hren r (tW _ _ hv r hr) (hvr r hr)) hv
 ·intro r ob hr;obtain ⟨q,o,g1,g2,g3,g4⟩:=hget r ob hr;subst g3;refine yV (g:=s.sto.get) (h.obj q o g1) g2.1 (fun _=>g2.2) (fun p hp=>hren p (jK (h.obj q o g1) p hp) ?_);rcases g4 with ⟨j,_,_,g5⟩ | ⟨i,gi,rfl,_⟩
  ·exact fun _=>hc q g5 o g1 p hp
  ·exact hpr i gi o g1 p hp
 ·intro r r' b ob ob' ho ho' hb hb';obtain ⟨q,o,g1,g2,rfl,g4⟩:=hget r ob ho;obtain ⟨q',o',g1',g2',rfl,g4'⟩:=hget r' ob' ho';have hq:=h.injH q q' b o o' g1 g1' ((qJ g2.1 g2.2).1 (tV.1 hb)) ((qJ g2'.1 g2'.2).1 (tV.1 hb'));subst hq;rcases g4 with ⟨j,rfl,hj,hm1⟩ | ⟨i,hi,rfl,rfl⟩
  ·rcases g4' with ⟨j',rfl,hj',hm2⟩ | ⟨i',hi',e,rfl⟩
   ·have:=(vw hn hj).symm.trans (vw hn hj');rw [this]
   ·have:=hlt q hm1;rw [e]at this;simp at this;omega
  ·rcases g4' with ⟨j',rfl,hj',hm2⟩ | ⟨i',hi',e,rfl⟩
   ·have:=hlt _ hm2;simp at this;omega
   ·have:i=i':=by simpa using e
    rw [this]
 ·intro r hr;obtain ⟨r1,r2⟩:=r
  match r1 with
  | 0=>simp at hr
  | 1=>
   have:=t.par (n+r2,0) (by simp);simp [mK,this,L0]
  | i+2=>simp [mK]
 ·intro r hr hrs;obtain ⟨ob,ho⟩:=Option.isSome_iff_exists.1 hrs;obtain ⟨q,o,g1,g2,g3,g4⟩:=hget r ob ho;rcases g4 with ⟨j,rfl,_,_⟩ | ⟨i,hi,rfl,rfl⟩
  ·simp at hr
  ·obtain ⟨p1,p2,p3,p4,p5⟩:=t.psame (n+i,0) (by simp) (by simp [g1]);have hs1:(eL n cs).get (n+i,0)=(jg cs i).map (·.map (inn n)):=oJ;have hL:L (n+i,0)=Lin (1,i):=by rw [t.par (n+i,0) (by simp)];simp [L0]
   refine ⟨?_,?_,fun _=> ?_,fun sz xs k=> ?_,fun b hb _=> ?_⟩
   ·rw [kf];rw [hs1]at p1;simpa using p1
   ·show mK n ids L Lin (1,i)=Lin (1,i);simp [mK,hL]
   ·exact hrs
   ·have k':(jg cs i).bind Obj.rw=some (sz,xs):=k;obtain ⟨ys,y1,y2⟩:=p4 sz xs (by
     show ((eL n cs).get (n+i,0)).bind Obj.rw=_;rw [hs1];cases ho:jg cs i with
     | none=>simp [ho]at k'
     | some o=>simp [ho]at k';simp [Obj.ld,k'])
    refine ⟨ys,?_,y2⟩;have y1':(s.sto.get (n+i,0)).bind Obj.rw=some (sz,ys):=y1;show (bF.get [rS s.sto n ids,rT s.sto n m ids] (1,i)).bind Obj.rw=_;rw [kf,tZ,if_pos hi];cases ho:s.sto.get (n+i,0)with
    | none=>simp [ho]at y1'
    | some o=>simp [ho]at y1';simp [Obj.ld,y1']
   ·exact p5 b (by show L0 n Lin (n+i,0)=_;simpa [L0]using hb) p1
theorem GU (
      hmix:P.follows .mixedOrders=true) (hco:gX P call) (hlo:zh P T loop) {F:FuncId->Option (VF×Bool)} (hF:∀f vf raw,F f=some (vf,raw)->okF P T f vf=true):gX P (sM (real call loop) F):=by
 intro f as cs c e;unfold sM at e;split at e
 ·cases e
 rename_i vf raw hf;have hok:=hF f vf raw hf;unfold okF at hok;split at hok
 case h_2=>cases hok
 case h_1 fn hfn=>
  split at hok
  case h_2=>cases hok
  case h_1 body hbody=>
   simp only [ah,beq_iff_eq,decide_eq_true_eq,Bool.not_eq_true']at hok;obtain ⟨⟨⟨⟨o1,o2⟩,o3⟩,o4⟩,o5⟩:=hok;have hcl:iI P f=true:=by
    unfold iI;rw [hfn];simp only [hbody,Option.isSome_some,o1,Bool.not_false,Bool.and_self]
   refine ⟨hcl,fun vs w Lin Z h Q hQ=> ?_⟩;simp only at e;split at e
   ·cases e
   rename_i hlen;have hlen':as.length=vf.nargs:=by simpa using hlen
   have hin:=Jb (n:=vf.ntmps) h hlen';refine calls_of_wp hfn hbody ?_;rw [<-o2];have hbodyE:∀(r:Option (Out×St)),r=exec (real call loop) vf.body ⟨AV.mC (inn vf.ntmps) as++List.replicate (vf.ntmps-vf.nargs) .bare,eL vf.ntmps cs⟩->r=exec (real call loop) vf.body ⟨AV.mC (inn vf.ntmps) as++List.replicate (vf.ntmps-vf.nargs) .bare,eL vf.ntmps cs⟩:=fun _ h=>h
   split at e
   ·cases e
   ·cases e
   rename_i out s1 hne hex;split at e
   ·cases e
   rename_i rs hrs;refine pQ hmix hco hlo body vf.body _ out s1 _ w (L0 vf.ntmps Lin) Z o5 hin hex _ fun a1 w1 L1 Z1 k1 k2=> ?_
   have main:a1.defers=[]/\∃v,(results fn a1.tmps).run P w1= .ok v w1/\Q (.returned v) w1:=by
    obtain ⟨us,r1,r2⟩:=mJ (P:=P) k1 o4 hrs;refine ⟨k1.defers,_,A7 r1,?_⟩;have hval:RV (aF w1 Z1 L1 s1.sto) (Gn rs) (zi us):=by
     match rs,us,r2 with
     | [],us,r2=>simp only [dg]at r2;subst r2;simp only [Gn,zi,RV,dg];exact ⟨[],rfl,rfl⟩
     | [x],us,r2=>simp only [dg]at r2;obtain ⟨v,vs',rfl,h2,rfl⟩:=r2;exact h2
     | x::y::l,us,r2=>
      have r2':=r2;simp only [dg]at r2;obtain ⟨v,vs',rfl,h2,v',vs'',rfl,h3,h4⟩:=r2;simp only [Gn,zi,RV];exact ⟨_,rfl,r2'⟩
    generalize Gn rs=x at e hval;generalize zi us=u at hval |-;have hfz:∃x2 s2 Z2,nR (real call loop) raw x s1=some (x2,s2)/\RS s2 a1 w1 L1 Z2/\Tr vf.ntmps s1.sto s2.sto w1 w1 L1 L1 Z1 Z2/\OI (aF w1 Z2 L1 s2.sto) x2 u:=by
     split at e
     ·cases e
     rename_i x2 s2 hfz;cases raw with
     | true=>
      simp only [nR]at hfz;injection hfz with hfz;injection hfz with q1 q2;subst q1;subst q2;exact ⟨x,s1,Z1,rfl,k1,Tr.refl _ _ _ _ _,fun _=>hval⟩
     | false=>
      obtain ⟨Z2,g1,g2,_,g4⟩:=wh vf.ntmps x u s1 s2 x2 Z1 k1 (Kept.refl _ _ _ _) hval hfz;exact ⟨x2,s2,Z2,hfz,g1,g2,g4⟩
    obtain ⟨x2,s2,Z2,q1,q2,q3,q4⟩:=hfz;rw [q1]at e;simp only at e;split at e
    ·cases e
    rename_i ids hids;split at e
    ·cases e
    rename_i hall;injection e with e;obtain ⟨i1,i2,i3,_,i5⟩:=kJ 60 _ [] ids hids (by simp) (by simp) (by simp);simp only [ah]at hall;have hlt:∀r∈ids,r.1<vf.ntmps:=fun r hr=>by simpa using List.all_eq_true.1 hall.1 r hr
    have htr:=k2.trans q3;have hparam:∀r,(s2.sto.get r).isSome->vf.ntmps<=r.1->True:=fun _ _ _=>trivial
    have hroot:∀r∈x2.refs,r.1<vf.ntmps->r∈ids:=fun r hr hrl=>i3 r (by
     rw [List.mem_filter];exact ⟨List.mem_append.2 (.inl hr),by simpa using hrl⟩)
    have hproot:∀i,i<cs.length->∀ob,s2.sto.get (vf.ntmps+i,0)=some ob->∀r∈ob.refs,r.1<vf.ntmps->r∈ids:=fun i hi ob hob r hr hrl=>i3 r (by
     rw [List.mem_filter];refine ⟨List.mem_append.2 (.inr ?_),by simpa using hrl⟩;rw [List.mem_flatMap];exact ⟨some ob,by rw [List.mem_map];exact ⟨i,List.mem_range.2 hi,hob⟩,hr⟩)
    have hx2:∀r∈x2.refs,(s2.sto.get r).isSome->True:=fun _ _ _=>trivial
    have hlive:RV (aF w1 Z2 L1 s2.sto) x2 u:=by
     exact q4 fun r hr=>List.all_eq_true.1 hall.2 r hr
    obtain ⟨f1,f2⟩:=GR (m:=cs.length) q2 htr rfl i1 hlt i2 i5 hlive hroot hproot;have hret:c.ret=x2.map (m9 vf.ntmps ids):=by rw [<-e];rfl
    have hpars:c.pars=rT s2.sto vf.ntmps cs.length ids:=by
     rw [<-e];simp only [List.map_map];rfl
    have hextra:c.extra=rS s2.sto vf.ntmps ids:=by rw [<-e];rfl
    refine hQ u w1 (mK vf.ntmps ids L1 Lin) Z2 ?_ ?_
    ·rw [hret,hpars,hextra];exact f1
    ·rw [hpars,hextra];exact f2
   cases out with
   | norm=>exact main
   | ret=>exact main
   | exit id=>exact (hne id rfl).elim
end
end
end Go.Vi
