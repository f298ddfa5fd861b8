import Derived.Test.YtfnagkpidcdocaaGreatM07
import Derived.Orders
set_option linter.all false
namespace Go.Vi
open Go Go.RowKit
section
variable {P:Program} {call:FuncId->List AV->List (Option Obj)->Option bk} {loop:Nat->St->Option (Out×St)}
variable {s:St} {a:Act} {w:World} {L:Loc} {Z:Nat->Prop}
theorem LF {u:AV} {p:Bool} (h:u= .d (.bool p)):u.Hj=true:=by rw [h];rfl
theorem Gv {o:aK} {s:St}:∀{l:List AV} {xs:List D},oR l=some xs->∃l',yK o s l=some (l',s)/\oR l'=some xs:=by
 have hd:∀{l:List AV} {xs:List D},dL l=some xs->yK o s l=some (l,s):=by
  intro l;induction l with
  | nil=>intro xs _;rfl
  | cons a l ih=>
   intro xs h;cases a<;>first
    | (simp [dL]at h;done)
    | (
      simp only [dL]at h;split at h
      · rename_i ys hy;simp only [yK,fz,ih hy]
      · cases h)
 intro l;induction l with
 | nil=>intro xs h;exact ⟨[],rfl,h⟩
 | cons a l ih=>
  intro xs h;simp only [oR]at h;split at h
  case h_2=>cases h
  case h_1 x hx=>
   split at h
   case h_2=>cases h
   case h_1 ys hy=>
    obtain ⟨l',h1,h2⟩:=ih hy;have ha:fz o s a=some (a,s):=by
     cases a<;>first
       | (simp [Gl]at hx;done)
       | rfl
       | (
         simp only [Gl]at hx;split at hx
         ·rename_i ds hds;simp only [fz,hd hds]
         ·cases hx)
    refine ⟨a::l',by simp only [yK,ha,h1],?_⟩;simp only [oR,hx,h2];exact h
theorem wV {o:aK} {s:St} {dst:Option Nat} {sz:gq} {agg:Bool} {zero:List AV} {len:Nat} {ps:List (Nat×VX)} {r:AV×St} (e:aJ o s dst (.buildRow sz agg zero len ps)=some r):aJ o s dst (.buildSlice sz agg zero len ps)=some r:=by
 simp only [aJ]at e |-;cases h1:dH s.env ps with
 | none=>simp [h1]at e
 | some qs=>
  cases dst with
  | none=>simp [h1]at e
  | some t=>
   simp only [h1]at e |-;by_cases hz:zero.length=sz.2
   ·rw [if_pos hz]at e |-;cases h2:dZ zero with
    | none=>simp [h2]at e
    | some ds=>
     simp only [h2]at e |-;cases h3:D.bQ agg ds with
     | none=>simp [h3]at e
     | some z=>
      simp only [h3]at e |-;cases h4:oR (qs.map (·.2))with
      | none=>simp [h4]at e
      | some xs=>
       obtain ⟨l',h5,h6⟩:=Gv (o:=o) (s:=s) h4;simp only [h4]at e;simp only [h5,h6];exact e
   ·rw [if_neg hz]at e;cases e
theorem I7 {np:Nat} {o:Oper} {vop:lp} {r:AV} {s':St} (hco:gX P call) (h:RS s a w L Z) (hok:okV P o.op vop=true) (ht:∀t,o.dst=some t->t<np)
  (e:aJ (real call loop) s o.dst vop=some (r,s')):aX P np o s a w L Z r s':=by
 generalize ho:o.op=op at hok;unfold okV at hok;split at hok
 ·rename_i x y;cases hy:ev s.env y with
  | none=>simp [aJ,evalOp,hy]at e
  | some u=>simp [aJ,evalOp,hy]at e;obtain ⟨rfl,rfl⟩:=e;exact xQ np h (.inl ho) hok hy
 ·rename_i x y;cases hy:ev s.env y with
  | none=>simp [aJ,evalOp,hy]at e
  | some u=>simp [aJ,evalOp,hy]at e;obtain ⟨rfl,rfl⟩:=e;exact xQ np h (.inr ho) hok hy
 ·rename_i c x y c' x' y';simp only [ah]at hok;simp only [aJ,evalOp]at e;split at e
  case h_3=>cases e
  case h_2 v' e' new' hev=>
   exfalso;split at hev
   ·split at hev<;>simp at hev
   ·cases hev
  case h_1 v' hev=>
   injection e with e;injection e with e1 e2;subst e1;subst e2;split at hev
   case h_2=>cases hev
   case h_1 t u v q1 q2 q3=>
    have:=Ew (P:=P) np h (o:=o) ho hok.1.1 hok.1.2 hok.2 q1 q2 q3;cases t<;>(simp at hev;subst hev;exact this)
 ·rename_i t cs;split at hok
  case h_2=>cases hok
  case h_1 i hi=>
   split at hok
   case h_2=>cases hok
   case h_1 z hz=>
    simp only [aJ,evalOp]at e;split at e
    case h_2=>cases e
    case h_1 tt htt=>
     split at e
     case h_2=>cases e
     case h_1 s2 hl=>
      injection e with e;injection e with e1 e2;subst e1;subst e2;simp only [AV.map,if_true];exact Cv h ho hi hz hok hl (ht tt (by assumption))
 ·rename_i t x y;simp only [aJ,evalOp]at e;cases hy:ev s.env y with
  | none=>simp [hy]at e
  | some u=>
   have key:(∀vs,u≠ .tup vs)->u≠ .undef->u≠ .bare->(match o.dst with | some t=>(match s.lay t [some (Obj.box u.cells)]with | some s=>some ((AV.ptr (0,0) 0).map fun r=>if r=(0,0)then (t,0)else r,s) | none=>none) | none=>none)=some (r,s')->aX P np o s a w L Z r s':=by
    intro k1 k2 k3 e;split at e
    case h_2=>cases e
    case h_1 tt htt=>
     split at e
     case h_2=>cases e
     case h_1 s2 hl=>
      injection e with e;injection e with e1 e2;subst e1;subst e2;simp only [AV.map,if_true];exact Hf h ho hok hy k1 k2 k3 hl (ht tt (by assumption))
   rw [hy]at e;cases u with
   | tup vs=>simp at e
   | undef=>simp at e
   | bare=>simp at e
   | _=>exact key (by simp) (by simp) (by simp) e
 ·exact Ee h ho hok e
 ·rename_i t ps zero qs;split at hok
  case h_2=>cases hok
  case h_1 fields i hu hi=>
   split at hok
   case h_2=>cases hok
   case h_1 z places hz hpl=>
    simp only [ah]at hok;simp only [aJ,evalOp]at e;cases e1:je s.env qs with
    | none=>simp [e1]at e
    | some rs=>
     cases e2:vk zero rs with
     | none=>simp [e1,e2]at e
     | some cs=>simp [e1,e2]at e;obtain ⟨rfl,rfl⟩:=e;exact BZ np h ho hu hi hz hpl hok.1 hok.2 e1 e2
 ·rename_i t len ps sz agg zero len' qs;split at hok
  case h_2=>cases hok
  case h_1 el hu=>
   split at hok
   case h_2=>cases hok
   case h_1 i hi=>
    split at hok
    case h_2=>cases hok
    case h_1 z hz=>
     simp only [ah,beq_iff_eq,decide_eq_true_eq]at hok;obtain ⟨⟨⟨⟨⟨⟨⟨c1,c2⟩,c3⟩,c4⟩,c5⟩,c6⟩,c7⟩,c8⟩:=hok;obtain ⟨s1,s2⟩:=sz;simp only at c1 c2;subst c1;subst c2;subst c3;cases hd:o.dst with
     | none=>rw [hd]at e;simp only [aJ]at e;split at e<;>first | (rename_i q;cases q;done) | cases e
     | some tt=>
      rw [hd]at e;exact mX h ho c4 hu hi hz c5 c6 c7 c8 (ht tt hd) e
 ·rename_i t len ps;split at hok
  case h_2=>cases hok
  case h_1 el hu=>
   simp only [ah,beq_iff_eq]at hok;obtain ⟨⟨c1,c2⟩,c3⟩:=hok;subst c1;obtain ⟨i,hi⟩:=Option.isSome_iff_exists.1 c3;simp only [aJ,evalOp]at e;injection e with e;injection e with e1 e2;subst e1;subst e2;exact wT h ho (by simpa using c2) hu hi
 ·rename_i t len ps sz agg zero len' qs;split at hok
  case h_2=>cases hok
  case h_1 el hu=>
   split at hok
   case h_2=>cases hok
   case h_1 i hi=>
    split at hok
    case h_2=>cases hok
    case h_1 z hz=>
     simp only [ah,beq_iff_eq,decide_eq_true_eq]at hok;obtain ⟨⟨⟨⟨⟨⟨⟨c1,c2⟩,c3⟩,c4⟩,c5⟩,c6⟩,c7⟩,c8⟩:=hok;obtain ⟨s1,s2⟩:=sz;simp only at c1 c2;subst c1;subst c2;subst c3;cases hd:o.dst with
     | none=>rw [hd]at e;simp only [aJ]at e;split at e<;>first | (rename_i q;cases q;done) | cases e
     | some tt=>
      rw [hd]at e;exact mX h ho c4 hu hi hz c5 c6 c7 c8 (ht tt hd) (wV e)
 ·rename_i t len ps sz x';split at hok
  case h_2=>cases hok
  case h_1 el x hu hps=>
   split at hok
   case h_2=>cases hok
   case h_1 i hi=>
    split at hok
    case h_2=>cases hok
    case h_1 z hz=>
     simp only [ah,beq_iff_eq,decide_eq_true_eq]at hok;obtain ⟨⟨⟨⟨⟨⟨d1,d2⟩,d3⟩,d4⟩,d5⟩,d6⟩,d7⟩:=hok;obtain ⟨s1,s2⟩:=sz;simp only at d1 d2;subst d1;subst d2;subst d3;have hps':ps= #[(0,x)]:=Array.ext' hps;subst hps';cases hd:o.dst with
     | none=>rw [hd]at e;simp only [aJ]at e;split at e<;>first | (rename_i q;cases q;done) | cases e
     | some tt=>
      rw [hd]at e;exact Av h ho d4 hu hi hz d5 d6 d7 (ht tt hd) e
 ·rename_i t len ps sz off x';split at hok
  case h_2=>cases hok
  case h_1 el x hu hps=>
   split at hok
   case h_2=>cases hok
   case h_1 i hi=>
    split at hok
    case h_2=>cases hok
    case h_1 z hz=>
     simp only [ah,beq_iff_eq,decide_eq_true_eq]at hok;obtain ⟨⟨⟨⟨⟨⟨d1,d2⟩,d3⟩,d4⟩,d5⟩,d6⟩,d7⟩:=hok;obtain ⟨s1,s2⟩:=sz;simp only at d1 d2;subst d1;subst d2;subst d3;have hps':ps= #[(0,x)]:=Array.ext' hps;subst hps';cases hd:o.dst with
     | none=>rw [hd]at e;simp only [aJ]at e;split at e<;>first | (rename_i q;cases q;done) | cases e
     | some tt=>
      rw [hd]at e;exact Ay h ho d4 hu hi hz d5 d6 d7 (ht tt hd) e
 ·rename_i c sz bytes x' y';split at hok
  case h_2=>cases hok
  case h_1 x y t t' hc1 hc2 hc3=>
   simp only [ah,beq_iff_eq]at hok;obtain ⟨⟨⟨c1,c2⟩,c3⟩,c4⟩:=hok;subst c1;split at c4
   case h_2=>cases c4
   case h_1 el hu=>
    split at c4
    case h_2=>cases c4
    case h_1 i hi=>
     split at c4
     case h_2=>cases c4
     case h_1 z hz=>
      simp only [ah,beq_iff_eq]at c4;obtain ⟨⟨⟨d1,d2⟩,d3⟩,d4⟩:=c4;obtain ⟨s1,s2⟩:=sz;simp only at d1 d2;subst d1;subst d2;subst d3;have hcc:c={ callee:= .builtin .append,args:= #[x,y],argTypes:= #[t,t] }:=by
        obtain ⟨q1,q2,q3⟩:=c;simp only at hc1 hc2 hc3;have e2:q2= #[x,y]:=Array.ext' hc2;have e3:q3= #[t,t]:=Array.ext' hc3;rw [hc1,e2,e3]
      subst hcc;cases hd:o.dst with
      | none=>rw [hd]at e;simp only [aJ,rJ]at e;split at e<;>first | (rename_i q;cases q;done) | cases e
      | some tt=>
        rw [hd]at e;simp only [aJ]at e;exact qG h ho c2 c3 hu hi hz d4 (ht tt hd) e
 ·rename_i t x y;split at hok
  case h_2=>cases hok
  case h_1 i d hi hd=>
   simp only [ah,beq_iff_eq]at hok;obtain ⟨⟨c1,c2⟩,c3⟩:=hok;cases hdd:o.dst with
   | none=>
    rw [hdd]at e;have:aJ (real call loop) s none (.wQ y)=some (r,s')->aJ (real call loop) s none (.load false 1 y)=some (r,s'):=by
     intro e;simp only [aJ,evalOp]at e |-;split at e
     case h_2=>cases e
     case h_1 q sz n off hev=>
      split at e
      case h_2=>cases e
      case h_1 sz' xs ho'=>
        split at e
        case h_2=>cases e
        case h_1 cs hcs=>
          split at e
          ·split at e
           ·rename_i q1 q2;cases q2
           ·cases e
          ·split at e
           case h_2=>cases e
           case h_1 v hld=>
            rw [hev];simp only [hld];exact e
    have e':=this e;simp only [aJ,evalOp]at e';cases hy:ev s.env y with
    | none=>simp [hy]at e'
    | some p=>
     cases hl:loadAt (real call loop) s.sto false 1 p with
     | none=>simp [hy,hl]at e'
     | some u=>simp [hy,hl]at e';obtain ⟨rfl,rfl⟩:=e';exact sj np h ho c1 hi hd c3.symm hy (by rw [c2];exact hl)
   | some tt=>
    rw [hdd]at e;exact D5 h ho c1 hi c2 hd c3 (ht tt hdd) e
 ·rename_i t x y;split at hok
  case h_2=>cases hok
  case h_1 i d hi hd=>
   simp only [ah,beq_iff_eq]at hok;obtain ⟨⟨c1,c2⟩,c3⟩:=hok;cases hdd:o.dst with
   | none=>
    rw [hdd]at e;exfalso;simp only [aJ]at e;split at e
    case h_2=>cases e
    case h_1 q sz n off hev=>
     split at e
     case h_2=>cases e
     case h_1 sz' xs ho'=>
      split at e
      case h_2=>cases e
      case h_1 cs hcs=>
        split at e
        · split at e
          ·rename_i q1 q2 _;cases q2
          ·cases e
        · cases e
   | some tt=>
    rw [hdd]at e;exact BW h ho c1 hi c2 hd c3 (ht tt hdd) e
 ·rename_i t x agg n y;split at hok
  case h_2=>cases hok
  case h_1 i d hi hd=>
   simp only [ah,beq_iff_eq]at hok;obtain ⟨⟨c1,c2⟩,c3⟩:=hok;subst c2;simp only [aJ,evalOp]at e;cases hy:ev s.env y with
   | none=>simp [hy]at e
   | some p=>
    cases hl:loadAt (real call loop) s.sto agg i.size p with
    | none=>simp [hy,hl]at e
    | some u=>simp [hy,hl]at e;obtain ⟨rfl,rfl⟩:=e;exact sj np h ho c1 hi hd c3 hy hl
 ·rename_i t x y n x' y';split at hok
  case h_2=>cases hok
  case h_1 i hi=>
   simp only [ah,beq_iff_eq]at hok;obtain ⟨⟨c1,c2⟩,c3⟩:=hok;subst c1;simp only [aJ]at e;split at e
   case h_2=>cases e
   case h_1 p v e1 e2=>
    split at e
    case h_2=>cases e
    case h_1 s2 hs=>
     injection e with e;injection e with q1 q2;subst q1;subst q2;exact pW np h ho c2 c3 hi e1 e2 hs
 ·rename_i t x y n x' y';split at hok
  case h_2=>cases hok
  case h_1 i hi=>
   simp only [ah,beq_iff_eq]at hok;obtain ⟨⟨c1,c2⟩,c3⟩:=hok;subst c1;obtain ⟨p,v,e1,e2,rfl,hs⟩:=yS e;exact pW np h ho c2 c3 hi e1 e2 hs
 ·rename_i t x y n x' y';split at hok
  case h_2=>cases hok
  case h_1 i hi=>
   simp only [ah,beq_iff_eq]at hok;obtain ⟨⟨c1,c2⟩,c3⟩:=hok;subst c1;simp only [aJ]at e;split at e
   case h_2=>cases e
   case h_1 p v e1 e2=>
    split at e
    case h_2=>cases e
    case h_1 s2 hs=>
     injection e with e;injection e with q1 q2;subst q1;subst q2;exact pW np h ho c2 c3 hi e1 e2 hs
 ·rename_i op t x y t' Hj op' x' y';simp only [ah,decide_eq_true_eq]at hok;obtain ⟨⟨⟨c1,c2⟩,c3⟩,c4⟩:=hok;subst c1;simp only [aJ,evalOp]at e;split at e
  case h_3=>cases e
  case h_2 v' e' new' hev=>
   exfalso
   repeat' split at hev
   all_goals first | (cases hev;done) | (simp at hev;done)
  case h_1 v' hev=>
   injection e with e;injection e with e1 e2;subst e1;subst e2;split at hev
   case h_2=>cases hev
   case h_1 u v q1 q2=>
    split at hev
    case h_2=>cases hev
    case h_1 hB=>
     split at hev
     case h_2=>cases hev
     case h_1 m hm=>
      injection hev with hev;injection hev with hev _;subst hev;refine G7 np h ho c2 c3 (fun p hp=> ?_) q1 q2 hm;have hB':u.Hj=Hj:=by simpa using hB
      rw [LF hp]at hB';subst hB';simp only [Bool.not_true,Bool.false_or]at c4;split at c4
      · assumption
      · cases c4
 ·rename_i op t x t' ne x';simp only [ah,decide_eq_true_eq]at hok;obtain ⟨⟨c1,c2⟩,c3⟩:=hok;split at c3
  case h_2=>cases c3
  case h_1 el hu=>
   simp only [aJ,evalOp]at e;cases hx:ev s.env x' with
   | none=>simp [hx]at e
   | some u=>
    simp only [hx]at e;cases u<;>
            first
     | (simp at e;done)
     | (
       simp only at e;injection e with e;injection e with q1 q2;subst q1;subst q2;first
         | exact wj np h ho c1 c2 hu hx (.inl ⟨rfl,rfl⟩)
         | (
           refine wj np h ho c1 c2 hu hx (.inr ⟨⟨(),fun v hv=> ?_⟩,rfl⟩);simp only [RV]at hv;first
            | (obtain ⟨b,_,_,hv⟩:=hv;exact ⟨_,hv,rfl⟩)
            | (obtain ⟨b,_,_,_,hv⟩:=hv;exact ⟨_,hv,rfl⟩)
            | (obtain ⟨b,o',vs,hv,_⟩:=hv;exact ⟨_,hv,rfl⟩)))
 ·rename_i t x y;simp only [aJ,evalOp]at e;split at e
  case h_3=>cases e
  case h_2 v' e' new' hev=>split at hev<;>simp at hev
  case h_1 v' hev=>
   injection e with e;injection e with e1 e2;subst e1;subst e2;split at hev
   case h_2=>cases hev
   case h_1 k n q1=>
    injection hev with hev;injection hev with hev _;subst hev;exact G8 np h ho hok q1
 ·rename_i t x y;simp only [aJ,evalOp]at e;split at e
  case h_3=>cases e
  case h_2 v' e' new' hev=>split at hev<;>simp at hev
  case h_1 v' hev=>
   injection e with e;injection e with e1 e2;subst e1;subst e2;split at hev
   case h_2=>cases hev
   case h_1 b q1=>
    injection hev with hev;injection hev with hev _;subst hev;exact G9 np h ho hok q1
 ·rename_i t t' x c y;simp only [ah]at hok;obtain ⟨c1,c2⟩:=hok;simp only [aJ,evalOp]at e;cases hy:ev s.env y with
  | none=>simp [hy]at e
  | some u=>
   simp only [hy]at e;split at c2
   ·rename_i k;simp only [ah]at c2;obtain ⟨d1,d2⟩:=c2;split at d1
    case h_2=>cases d1
    case h_1 j hj=>
     split at d2
     case h_2=>cases d2
     case h_1 k' hk'=>
      have:k=k':=by simpa using d2
      subst this;cases u with
      | d y'=>cases y' with
        | int k2 n=>simp at e;obtain ⟨rfl,rfl⟩:=e;exact zy np h ho c1 ⟨j,hj⟩ hk' hy
        | _=>simp at e
      | _=>simp at e
   ·simp only [ah]at c2;obtain ⟨d1,d2⟩:=c2;split at d1
    case h_2=>cases d1
    case h_1 hj=>
     split at d2
     case h_2=>cases d2
     case h_1 hk'=>
      cases u with
      | d y'=>cases y' with
        | str n=>simp at e;obtain ⟨rfl,rfl⟩:=e;exact zA np h ho c1 hj hk' hy
        | _=>simp at e
      | _=>simp at e
   ·simp only [ah]at c2;obtain ⟨d1,d2⟩:=c2;split at d1
    case h_2=>cases d1
    case h_1 el hj=>
     split at d1
     case h_2=>cases d1
     case h_1 he=>
      split at d2
      case h_2=>cases d2
      case h_1 hk'=>
        cases hc:content (real call loop) s.sto u with
        | none=>simp [hc]at e
        | some xs=>
          cases hb:(real call loop).ofBytes xs with
          | none=>simp [hc,hb]at e
          | some tx=>simp [hc,hb]at e;obtain ⟨rfl,rfl⟩:=e;exact tC np h ho c1 hj he hk' hy hc hb
 ·rename_i f first xs g ys
  simp only [ah,beq_iff_eq]at hok;obtain ⟨⟨c1,c2⟩,c3⟩:=hok;subst c2;have hf:first= #[]:=by apply Array.ext';simpa using c1
  subst hf;simp only [aJ,evalOp]at e;cases hy:wP s.env ys with
  | none=>simp [hy]at e
  | some us=>simp [hy]at e;obtain ⟨rfl,rfl⟩:=e;exact Ey np h ho c3 hy
 ·rename_i t x y sz bytes agg zero x' y';split at hok
  case h_2=>cases hok
  case h_1 el hu=>
   split at hok
   case h_2=>cases hok
   case h_1 i hi=>
    split at hok
    case h_2=>cases hok
    case h_1 z hz=>
     simp only [ah,beq_iff_eq,decide_eq_true_eq]at hok;obtain ⟨⟨⟨⟨⟨⟨⟨c1,c2⟩,c3⟩,c4⟩,c5⟩,c6⟩,c7⟩,c8⟩:=hok;obtain ⟨s1,s2⟩:=sz;simp only at c1 c2;subst c1;subst c2;subst c3;simp only [aJ,evalOp]at e;split at e
     case h_3=>cases e
     case h_1 v' hev=>
      exfalso
      repeat' split at hev
      all_goals first | (cases hev;done) | (simp at hev;done)
     case h_2 v' e' new' hev=>
      split at hev
      case h_2=>cases hev
      case h_1 k l k' c q1 q2=>
        split at hev
        case isFalse=>cases hev
        case isTrue=>
          split at hev
          case h_2=>cases hev
          case h_1 ds hds=>
           split at hev
           case h_2=>cases hev
           case h_1 zd hzd=>
            split at hev
            case h_2=>cases hev
            case h_1 heq hfit=>
             injection hev with hev;injection hev with g1 g2;injection g2 with g2 g3;subst g1;subst g2;subst g3;split at e
             case h_2=>cases e
             case h_1 tt htt=>
              split at e
              case h_2=>cases e
              case h_1 s3 hl=>
               injection e with e;injection e with e1 e2;subst e1;subst e2;simp only [AV.map,if_true];exact wq h ho c4 c5 hu hi hz c6 c7 c8 hds hzd q1 q2 heq hfit (ht tt (by assumption)) hl
 ·rename_i t x lo hi mx isStr sz x' lo' hi' mx';simp only [ah]at hok;obtain ⟨⟨⟨⟨c1,c2⟩,c3⟩,c4⟩,c5⟩:=hok;simp only [aJ,evalOp]at e;split at e
  case h_3=>cases e
  case h_2 v' e' new' hev=>
   exfalso
   repeat' split at hev
   all_goals first | (cases hev;done) | (simp at hev;done)
  case h_1 v' hev=>
   injection e with e;injection e with e1 e2;subst e1;subst e2;split at hev
   case h_2=>cases hev
   case h_1 A y1 y2 y3 q1 q2 q3 q4=>
    split at hev
    case h_2=>cases hev
    case h_1 l h' m p1 p2 p3=>
     split at hev
     case h_3=>cases hev
     case h_1 u=>
      split at hev
      case h_2=>cases hev
      case h_1=>
        split at hev
        case h_2=>cases hev
        case h_1 v hv=>
          injection hev with hev;injection hev with hev _;subst hev;simp only [ah,Option.isNone_iff_eq_none]at c5;obtain ⟨d1,d2⟩:=c5;split at d2
          case h_2=>cases d2
          case h_1 hu=>exact wR np h ho c1 c2 c3 d1 hu q1 q2 q3 p1 p2 hv
     case h_2=>
      split at hev
      case h_2=>cases hev
      case h_1 v hv=>
        injection hev with hev;injection hev with hev _;subst hev;simp only at c5;split at c5
        case h_2=>cases c5
        case h_1 el hu=>
          split at c5
          case h_2=>cases c5
          case h_1 i hinfo=>
           simp only [ah,beq_iff_eq]at c5;obtain ⟨s1,s2⟩:=sz;obtain ⟨d1,d2⟩:=c5;simp only at d1 d2;subst d1;subst d2;exact BX np h ho c1 c2 c3 c4 hu hinfo q1 q2 q3 q4 p1 p2 p3 hv
 ·rename_i t x f off y;split at hok
  case h_2=>cases hok
  case h_1 fs hu=>
   split at hok
   case h_2=>cases hok
   case h_1 fd hf=>
    split at hok
    case h_2=>cases hok
    case h_1 i hi=>
     simp only [ah,beq_iff_eq,bne_iff_ne,ne_eq]at hok;obtain ⟨⟨c1,c2⟩,c3⟩:=hok;subst c2;simp only [aJ,evalOp]at e;cases hy:ev s.env y with
     | none=>simp [hy]at e
     | some u=>
      simp only [hy]at e;cases u<;>simp at e<;>(obtain ⟨rfl,rfl⟩:=e;exact wm np h ho c3 hu hf hi c1 hy rfl)
 ·rename_i x off y;simp only [ah,beq_iff_eq]at hok;obtain ⟨c1,c2⟩:=hok;subst c1;simp only [aJ,evalOp]at e;cases hy:ev s.env y with
  | none=>simp [hy]at e
  | some u=>simp only [hy]at e;cases u<;>simp at e<;>(obtain ⟨rfl,rfl⟩:=e;exact wS np h ho c2 hy rfl)
 ·rename_i t x f agg off n y;split at hok
  case h_2=>cases hok
  case h_1 fs hu=>
   split at hok
   case h_2=>cases hok
   case h_1 fd hf=>
    split at hok
    case h_2=>cases hok
    case h_1 i d hi hd=>
     simp only [ah,beq_iff_eq]at hok;obtain ⟨⟨⟨c1,c2⟩,c3⟩,c4⟩:=hok;subst c1;subst c2;simp only [aJ,evalOp]at e;cases hy:ev s.env y with
     | none=>simp [hy]at e
     | some u=>
      simp only [hy]at e;cases u with
      | agg cs=>
        cases hc:cut cs fd.offset i.size with
        | none=>simp [hc]at e
        | some cs'=>
          cases hr:AV.bQ agg cs' with
          | none=>simp [hc,hr]at e
          | some v=>simp [hc,hr]at e;obtain ⟨rfl,rfl⟩:=e;exact Ct np h ho c4 hu hf hi hd c3 hy hc hr
      | _=>simp at e
 ·rename_i t x i sz y j;split at hok
  case h_2=>cases hok
  case h_1 el hu=>
   split at hok
   case h_2=>cases hok
   case h_1 n hi=>
    simp only [ah,beq_iff_eq]at hok;obtain ⟨⟨⟨c1,c2⟩,c3⟩,c4⟩:=hok;obtain ⟨s1,s2⟩:=sz;simp only at c1 c2;subst c1;subst c2;simp only [aJ,evalOp]at e;split at e
    case h_3=>cases e
    case h_2 v' e' new' hev=>
     exfalso
     repeat' split at hev
     all_goals first | (cases hev;done) | (simp at hev;done)
    case h_1 v' hev=>
     injection e with e;injection e with e1 e2;subst e1;subst e2;split at hev
     case h_3=>cases hev
     case h_1 xs k m q1 q2=>
      split at hev
      case h_2=>cases hev
      case h_1 d hd=>
        split at hev
        case isFalse=>cases hev
        case isTrue hl=>
          injection hev with hev;injection hev with hev _;subst hev;exact tF np h ho c3 c4 hu hi q1 q2 hd hl
     case h_2 q sz' g u k m q1 q2=>
      split at hev
      case h_2=>cases hev
      case h_1 xs hxs=>
        split at hev
        case h_2=>cases hev
        case h_1 d hd=>
          split at hev
          case isFalse=>cases hev
          case isTrue hsz=>
           subst hsz;injection hev with hev;injection hev with hev _;subst hev;cases g with
           | none=>exact mY np h ho c3 c4 hu hi q1 q2 hxs hd
           | some p=>obtain ⟨p1,p2⟩:=p;exact mY np h ho c3 c4 hu hi q1 q2 hxs hd
 ·rename_i t x i y j;simp only [ah]at hok;obtain ⟨⟨c1,c2⟩,c3⟩:=hok;split at c1
  case h_2=>cases c1
  case h_1 hu=>
   simp only [aJ,evalOp]at e;split at e
   case h_3=>cases e
   case h_2 v' e' new' hev=>
    exfalso
    repeat' split at hev
    all_goals first | (cases hev;done) | (simp at hev;done)
   case h_1 v' hev=>
    injection e with e;injection e with e1 e2;subst e1;subst e2;split at hev
    case h_2=>cases hev
    case h_1 sv k n q1 q2=>
     split at hev
     case h_2=>cases hev
     case h_1 b hb=>
      injection hev with hev;injection hev with hev _;subst hev;exact Cu np h ho c2 c3 hu q1 q2 hb
 ·rename_i x i y j;simp only [ah,beq_iff_eq]at hok;obtain ⟨c1,c2⟩:=hok;subst c2;simp only [aJ,evalOp]at e;cases hy:ev s.env y with
  | none=>simp [hy]at e
  | some u=>
   simp only [hy]at e;cases u with
   | tup vs=>
    cases hv:vs[i]? with
    | none=>simp [hv]at e
    | some v=>simp [hv]at e;obtain ⟨rfl,rfl⟩:=e;exact zD np h ho c1 hy hv
   | _=>simp at e
 ·rename_i c Bl y;split at hok
  case h_2=>cases hok
  case h_1 x t hc1 hc2 hc3=>
   simp only [ah]at hok;obtain ⟨c1,c2⟩:=hok;have hcc:c={ callee:= .builtin .len,args:= #[x],argTypes:= #[t] }:=by
    obtain ⟨q1,q2,q3⟩:=c;simp only at hc1 hc2 hc3;have e2:q2= #[x]:=Array.ext' hc2;have e3:q3= #[t]:=Array.ext' hc3;rw [hc1,e2,e3]
   subst hcc;have hev:∃u,ev s.env y=some u:=by
    cases hy:ev s.env y with
    | none=>simp [aJ,evalOp,hy]at e
    | some u=>exact ⟨u,rfl⟩
   obtain ⟨u,hy⟩:=hev;have her:evalOp (real call loop) s.env s.sto (.len Bl y)=some (r,[])/\s'=s:=by
    simp only [aJ]at e;split at e
    case h_3=>cases e
    case h_2 v' e' new' hev=>
     exfalso;simp only [evalOp]at hev
     repeat' split at hev
     all_goals first | (cases hev;done) | (simp at hev;done)
    case h_1 v' hev=>
     injection e with e;injection e with e1 e2;subst e1;subst e2;exact ⟨hev,rfl⟩
   obtain ⟨her,rfl⟩:=her;refine G_ np h ho c1 hy ⟨fun hS=> ?_,fun hS=> ?_⟩ her
   ·subst hS;simp only at c2;split at c2
    ·assumption
    ·cases c2
   ·subst hS;simp only at c2;split at c2
    ·exact ⟨_,by assumption⟩
    ·cases c2
 ·rename_i c sz bytes x' y';split at hok
  case h_2=>cases hok
  case h_1 x y t t' hc1 hc2 hc3=>
   simp only [ah,beq_iff_eq]at hok;obtain ⟨⟨⟨c1,c2⟩,c3⟩,c4⟩:=hok;subst c1;split at c4
   case h_2=>cases c4
   case h_1 el hu=>
    split at c4
    case h_2=>cases c4
    case h_1 i hi=>
     split at c4
     case h_2=>cases c4
     case h_1 z hz=>
      simp only [ah,beq_iff_eq]at c4;obtain ⟨⟨⟨d1,d2⟩,d3⟩,d4⟩:=c4;obtain ⟨s1,s2⟩:=sz;simp only at d1 d2;subst d1;subst d2;subst d3;have hcc:c={ callee:= .builtin .append,args:= #[x,y],argTypes:= #[t,t] }:=by
        obtain ⟨q1,q2,q3⟩:=c;simp only at hc1 hc2 hc3;have e2:q2= #[x,y]:=Array.ext' hc2;have e3:q3= #[t,t]:=Array.ext' hc3;rw [hc1,e2,e3]
      subst hcc;cases hd:o.dst with
      | none=>rw [hd]at e;simp only [aJ]at e;split at e<;>first | (rename_i q;cases q;done) | cases e
      | some tt=>
        rw [hd]at e;cases hx:ev s.env x' with
        | none=>simp [aJ,hx]at e
        | some A=>
          cases hy:ev s.env y' with
          | none=>simp [aJ,hx,hy]at e
          | some B=>exact sN h ho c2 c3 hu hi hz d4 (ht tt hd) hx hy e
 ·rename_i c g m raw ys;split at hok
  case h_2=>cases hok
  case h_1 f hc=>
   simp only [ah,beq_iff_eq]at hok;obtain ⟨c1,c2⟩:=hok;subst c1;simp only [aJ]at e;split at e
   case h_2=>cases e
   case h_1 as has=>exact xA hco h ho hc c2 has ht e
 ·rename_i c fx m raw ys;split at hok
  case h_2=>cases hok
  case h_1 x hc=>
   simp only [ah]at hok;obtain ⟨c1,c2⟩:=hok;simp only [aJ]at e;split at e
   case h_2=>cases e
   case h_1 g cap as hf has=>exact Cd hco h ho hc c1 c2 hf has ht e
 ·rename_i c x g m raw ys;split at hok
  case h_2=>cases hok
  case h_1 f hc=>
   simp only [ah,beq_iff_eq]at hok;obtain ⟨c1,c2⟩:=hok;subst c1;simp only [aJ]at e;split at e
   case h_2=>cases e
   case h_1 s1 hu=>
    split at e
    case h_2=>cases e
    case h_1 as has=>
     obtain ⟨L2,m1,m2⟩:=mD (np:=np) h hu;exact aX.pre m2 (xA hco m1 ho hc c2 has ht e)
 ·rename_i c sz bytes x' y';split at hok
  case h_2=>cases hok
  case h_1 x y t t' hc1 hc2 hc3=>
   simp only [ah,beq_iff_eq]at hok;obtain ⟨⟨⟨c1,c2⟩,c3⟩,c4⟩:=hok;subst c1;split at c4
   case h_2=>cases c4
   case h_1 el hu=>
    split at c4
    case h_2=>cases c4
    case h_1 i hi=>
     split at c4
     case h_2=>cases c4
     case h_1 z hz=>
      simp only [ah,beq_iff_eq]at c4;obtain ⟨⟨⟨d1,d2⟩,d3⟩,d4⟩:=c4;obtain ⟨s1,s2⟩:=sz;simp only at d1 d2;subst d1;subst d2;subst d3;have hcc:c={ callee:= .builtin .append,args:= #[x,y],argTypes:= #[t,t] }:=by
        obtain ⟨q1,q2,q3⟩:=c;simp only at hc1 hc2 hc3;have e2:q2= #[x,y]:=Array.ext' hc2;have e3:q3= #[t,t]:=Array.ext' hc3;rw [hc1,e2,e3]
      subst hcc;cases hd:o.dst with
      | none=>rw [hd]at e;simp only [aJ,rJ]at e;(repeat' split at e)<;>first | contradiction | cases e
      | some tt=>
        rw [hd]at e;exact yT h ho c2 c3 hu hi hz d4 (ht tt hd) e
 ·rename_i c sz bytes x' y';split at hok
  case h_2=>cases hok
  case h_1 x y t t' hc1 hc2 hc3=>
   simp only [ah,beq_iff_eq]at hok;obtain ⟨⟨⟨c1,c2⟩,c3⟩,c4⟩:=hok;subst c1;split at c4
   case h_2=>cases c4
   case h_1 el hu=>
    split at c4
    case h_2=>cases c4
    case h_1 i hi=>
     split at c4
     case h_2=>cases c4
     case h_1 z hz=>
      simp only [ah,beq_iff_eq]at c4;obtain ⟨⟨⟨d1,d2⟩,d3⟩,d4⟩:=c4;obtain ⟨s1,s2⟩:=sz;simp only at d1 d2;subst d1;subst d2;subst d3;have hcc:c={ callee:= .builtin .append,args:= #[x,y],argTypes:= #[t,t] }:=by
        obtain ⟨q1,q2,q3⟩:=c;simp only at hc1 hc2 hc3;have e2:q2= #[x,y]:=Array.ext' hc2;have e3:q3= #[t,t]:=Array.ext' hc3;rw [hc1,e2,e3]
      subst hcc
      replace e:=vu e
      cases hd:o.dst with
      | none=>rw [hd]at e;simp only [aJ]at e;split at e<;>first | (rename_i q;cases q;done) | cases e
      | some tt=>
        rw [hd]at e;cases hx:ev s.env x' with
        | none=>simp [aJ,hx]at e
        | some A=>
          cases hy:ev s.env y' with
          | none=>simp [aJ,hx,hy]at e
          | some B=>exact sN h ho c2 c3 hu hi hz d4 (ht tt hd) hx hy e
 ·rename_i c x' y';split at hok
  case h_2=>cases hok
  case h_1 x y hc ha=>
   simp only [ah]at hok;exact Dj (isMax:=true) h ho hc ha hok.1 hok.2 e
 ·rename_i c x' y';split at hok
  case h_2=>cases hok
  case h_1 x y hc ha=>
   simp only [ah]at hok;exact Dj (isMax:=false) h ho hc ha hok.1 hok.2 e
 ·rename_i c sz x' y';split at hok
  case h_2=>cases hok
  case h_1 x y t t' hc1 hc2 hc3=>
   simp only [ah]at hok;obtain ⟨⟨c2,c3⟩,c4⟩:=hok;split at c4
   case h_2=>cases c4
   case h_1 el hu=>
    split at c4
    case h_2=>cases c4
    case h_1 i hi=>
     simp only [ah,beq_iff_eq]at c4;obtain ⟨d1,d2⟩:=c4;obtain ⟨s1,s2⟩:=sz;simp only at d1 d2;subst d1;subst d2;have hcc:c={ callee:= .builtin .copy,args:= #[x,y],argTypes:= #[t,t'] }:=by
      obtain ⟨q1,q2,q3⟩:=c;simp only at hc1 hc2 hc3;have e2:q2= #[x,y]:=Array.ext' hc2;have e3:q3= #[t,t']:=Array.ext' hc3;rw [hc1,e2,e3]
     subst hcc;exact Ef h ho c2 c3 hu hi e
 ·rename_i c x';split at hok
  case h_2=>cases hok
  case h_1 x t hc ha hat=>
   simp only [ah]at hok;obtain ⟨c1,c2⟩:=hok;split at c2
   case h_2=>cases c2
   case h_1 e' hu=>exact Ed h ho hc ha hat hu c1 e
 ·rename_i c sz bytes agg zero x' y';split at hok
  case h_2=>cases hok
  case h_1 x y t t' hc ha hat=>
   simp only [ah]at hok;obtain ⟨⟨⟨c1,c2⟩,c3⟩,c4⟩:=hok;split at c3
   case h_2=>cases c3
   case h_1 kn hun=>
    split at c4
    case h_2=>cases c4
    case h_1 el hu=>
     split at c4
     case h_2=>cases c4
     case h_1 i hi=>
      split at c4
      case h_2=>cases c4
      case h_1 z hz=>
        simp only [ah,beq_iff_eq,decide_eq_true_eq]at c4;obtain ⟨⟨⟨⟨⟨d1,d2⟩,d3⟩,d4⟩,d5⟩,d6⟩:=c4;obtain ⟨sz1,sz2⟩:=sz;simp only at d1 d2;subst d1;subst d2;subst d3;have hcc:c={ callee:= .builtin .append,args:= #[x,y],argTypes:= #[t,t'] }:=by
          obtain ⟨q1,q2,q3⟩:=c;simp only at hc ha hat;have e2:q2= #[x,y]:=Array.ext' ha;have e3:q3= #[t,t']:=Array.ext' hat;rw [hc,e2,e3]
        subst hcc;cases hd:o.dst with
        | none=>rw [hd]at e;simp only [aJ]at e;split at e<;>first | (rename_i q;cases q;done) | cases e
        | some tt=>
          rw [hd]at e;exact y8 h ho c1 c2 hu hun hi hz d4 d5 d6 (ht tt hd) e
 ·simp only [aJ,evalOp]at e;cases e
 ·cases hok
end
section
section
variable {P:Program} {call:FuncId->List AV->List (Option Obj)->Option bk} {loop:Nat->St->Option (Out×St)}
variable {s:St} {a:Act} {w:World} {L:Loc} {Z:Nat->Prop}
def Oe (ops:Array Oper):Option (Nat×Bool)->Option (Nat×Bool)->Bool
 | none,none=>true
 | some (j,w),some (t,w')=>w==w'&&(match ops[j]? with | some o=>o.dst==some t | none=>false)
 | _,_=>false
def vG (P:Program) (np:Nat) (ops:Array Oper) (o:Oper) (v:br):Bool:=
 o.dst==v.dst&&(match o.dst with | some t=>decide (t<np) | none=>true)&&Oe ops o.guard v.guard&&okV P o.op v.op
def pK (P:Program) (np:Nat) (ops:Array Oper):List Nat->List br->Bool
 | [],[]=>true
 | i::is,v::vs=>(match ops[i]? with | some o=>vG P np ops o v | none=>false)&&pK P np ops is vs
 | _,_=>false
theorem qL (h:RS s a w L Z) {ops:Array Oper} {o:Oper} {g:Option (Nat×Bool)} (hg:Oe ops o.guard g=true) {b:Bool} (e:wanted s.env g=some b):Region.wanted o (yielded ops a.tmps)=b:=by
 unfold Oe at hg;split at hg
 ·rename_i h1;simp only [wanted]at e;injection e with e;subst e;unfold Region.wanted;rw [h1]
 ·rename_i j w' t w'' h1;simp only [ah,beq_iff_eq]at hg;obtain ⟨rfl,h2⟩:=hg;split at h2
  case h_2=>cases h2
  case h_1 oj hj=>
   have hd:oj.dst=some t:=by simpa using h2
   simp only [wanted]at e;unfold Region.wanted;rw [h1];simp only [yielded,hj,Option.bind_some,hd];obtain ⟨l1,l2⟩:=bL.1 h.env;split at e
   ·rename_i b' hb';injection e with e;have hlt:t<a.tmps.size:=by rw [<-Array.length_toList,<-l1];exact (ai.1 hb').1
    have hv:=l2 t _ (a.tmps[t]) hb' (by simp [hlt]);simp only [RV,RD]at hv;have hv':a.tmps[t]= .bool b':=by simpa using hv
    simp only [Array.getElem?_eq_getElem hlt,hv'];rw [<-e];cases w'<;>cases b'<;>rfl
   ·rename_i hb';injection e with e;have hlt:t<a.tmps.size:=by rw [<-Array.length_toList,<-l1];exact (ai.1 hb').1
    have hv:=l2 t _ (a.tmps[t]) hb' (by simp [hlt]);simp only [RV]at hv;simp only [Array.getElem?_eq_getElem hlt,hv,<-e];rfl
   ·cases e
 ·cases hg
theorem RS.bare (h:RS s a w L Z) (dst:Option Nat):RS ⟨ep s.env dst .bare,s.sto⟩ (a.put dst undef) w L Z:=
 h.put dst (by simp only [RV])
theorem pL {np:Nat} {ops:Array Oper} {o:Oper} {v:br} {s':St} {rest:List br} (hco:gX P call) (h:RS s a w L Z) (hok:vG P np ops o v=true) (e:bf (real call loop) (v::rest) s=some s') (K:Act->World->Prop) (Q:Exit->Act->World->Prop)
  (hk:∀s1 a1 w1 L1 Z1,RS s1 a1 w1 L1 Z1->Tr np s.sto s1.sto w w1 L L1 Z Z1->bf (real call loop) rest s1=some s'->K a1 w1):
  if Region.wanted o (yielded ops a.tmps)then o.wp P a w K Q\/(o.asks P a w/\LetsOut Q)else K (a.put o.dst undef) w:=by
 simp only [vG,ah,beq_iff_eq]at hok;obtain ⟨⟨⟨h1,h2⟩,h3⟩,h4⟩:=hok;simp only [bf]at e;split at e
 ·rename_i hw;rw [qL h h3 hw];simp only [if_true];left;split at e
  case h_2=>cases e
  case h_1 u s1 hd=>
   rw [<-h1]at hd e;refine I7 (np:=np) hco h h4 (fun t ht=>by rw [ht]at h2;simpa using h2) hd K Q fun u' w1 L1 Z1 k1 k2 k3=> ?_
   exact hk ⟨ep s1.env o.dst u,s1.sto⟩ _ _ L1 Z1 (k1.put o.dst k3) k2 e
 ·rename_i hw;rw [qL h h3 hw];simp only [Bool.false_eq_true,if_false];rw [<-h1]at e;exact hk _ _ _ L Z (h.bare o.dst) (Tr.refl _ _ _ _ _) e
 ·cases e
theorem jR {np:Nat} {ops:Array Oper} (hco:gX P call):∀{is:List Nat} {vs:List br} {s s':St} {a:Act} {w:World} {L:Loc} {Z:Nat->Prop},pK P np ops is vs=true->RS s a w L Z->bf (real call loop) vs s=some s'->
  ∀(Q:Exit->Act->World->Prop),(∀a' w' L' Z',RS s' a' w' L' Z'->Tr np s.sto s'.sto w w' L L' Z Z'->Q .normal a' w')->wpOps P ops Q is a w
 | [],[],s,s',a,w,L,Z,_,h,e,Q,hQ=>by
  simp only [bf]at e;injection e with e;subst e;simp only [wpOps];exact hQ a w L Z h (Tr.refl _ _ _ _ _)
 | i::is,v::vs,s,s',a,w,L,Z,hok,h,e,Q,hQ=>by
  simp only [pK,ah]at hok;obtain ⟨hok1,hok2⟩:=hok;split at hok1
  case h_2=>cases hok1
  case h_1 o ho=>
   simp only [wpOps,ho];exact pL hco h hok1 e _ Q fun s1 a1 w1 L1 Z1 k1 k2 k3=>jR hco hok2 k1 k3 Q fun a' w' L' Z' m1 m2=>hQ a' w' L' Z' m1 (k2.trans m2)
 | [],_::_,_,_,_,_,_,_,hok,_,_,_,_=>by simp [pK]at hok
 | _::_,[],_,_,_,_,_,_,hok,_,_,_,_=>by simp [pK]at hok
theorem xB {live:List Nat}:∀{l:List AV} {n i:Nat},(qC live n l)[i]? =(l[i]?).map fun a=>if live.contains (n+i)then a else .undef
 | [],n,i=>by simp [qC]
 | a::l,n,0=>by simp [qC]
 | a::l,n,i+1=>by
  simp only [qC,List.getElem?_cons_succ];rw [xB,show n+1+i=n+(i+1) by omega]
theorem xC {live:List Nat}:∀{l:List AV} {n:Nat},(qC live n l).length=l.length
 | [],n=>rfl
 | a::l,n=>by simp [qC,xC]
theorem xD {live:List Nat}:∀{l:bF} {n i:Nat},(sK live n l)[i]? =(l[i]?).map fun a=>if live.contains (n+i)then a else []
 | [],n,i=>by simp [sK]
 | a::l,n,0=>by simp [sK]
 | a::l,n,i+1=>by
  simp only [sK,List.getElem?_cons_succ];rw [xD,show n+1+i=n+(i+1) by omega]
theorem nW {le ls:List Nat} {s:St} {r:Id}:(mask le ls s).sto.get r=if ls.contains r.1 then (s.sto.get r).map (·.forget fun r=> !ls.contains r.1)else none:=by
 show ((sK ls 0 s.sto).forget _).get r=_;rw [ko];have:(sK ls 0 s.sto).get r=if ls.contains r.1 then s.sto.get r else none:=by
  unfold bF.get;rw [xD];cases s.sto[r.1]? with
  | none=>simp
  | some l=>
   simp only [Option.map_some,Nat.zero_add];by_cases hc:ls.contains r.1=true
   ·simp only [hc,if_true]
   ·simp only [hc,if_false,Bool.false_eq_true];simp
 rw [this];split<;>rfl
theorem RS.mask (h:RS s a w L Z) (np:Nat) (le ls:List Nat):RS (mask le ls s) a w L Z/\Tr np s.sto (mask le ls s).sto w w L L Z Z:=by
 have hsome:∀q,((Vi.mask le ls s).sto.get q).isSome->ls.contains q.1=true/\(s.sto.get q).isSome:=fun q hq=>by
  rw [nW]at hq;split at hq
  ·rename_i hc;exact ⟨hc,by simpa using hq⟩
  ·cases hq
 have hsame:∀q:Id,ls.contains q.1=true->Same (aF w Z L s.sto) (aF w Z L (Vi.mask le ls s).sto) q:=fun q hq=>by
  refine ⟨rfl,fun k=> ?_,fun sz xs k=>⟨xs,?_,rfl⟩,fun _ _ _=>rfl⟩
  ·show ((Vi.mask le ls s).sto.get q).isSome;rw [nW,if_pos hq];simpa using k
  ·show ((Vi.mask le ls s).sto.get q).bind Obj.rw=_;have k':(s.sto.get q).bind Obj.rw=some (sz,xs):=k;rw [nW,if_pos hq];cases ho:s.sto.get q with
   | none=>simp [ho]at k'
   | some o=>simp [ho]at k';simp [Obj.jP,k']
 have hfrom:∀q o,(Vi.mask le ls s).sto.get q=some o->∃o',s.sto.get q=some o'/\o=o'.forget fun r=> !ls.contains r.1:=fun q o hq=>by
  rw [nW]at hq;split at hq
  ·cases ho:s.sto.get q with
   | none=>simp [ho]at hq
   | some o'=>rw [ho]at hq;simp only [Option.map_some,Option.some.injEq]at hq;exact ⟨o',rfl,hq.symm⟩
  ·cases hq
 have hlives:∀b,aW (Vi.mask le ls s).sto L b->aW s.sto L b:=fun b hb=>by
  obtain ⟨q,o,h1,h2⟩:=hb;obtain ⟨o',ho',rfl⟩:=hfrom q o h1;exact ⟨q,o',ho',Obj.di h2⟩
 refine ⟨⟨h.defers,?_,?_,fun q q' b o o' hq hq' hb hb'=>by
  obtain ⟨o2,h1,rfl⟩:=hfrom q o hq;obtain ⟨o3,h2,rfl⟩:=hfrom q' o' hq';exact h.injH q q' b o2 o3 h1 h2 (Obj.di hb) (Obj.di hb'),fun b hb=>⟨(h.dis b hb).1,fun hl=>(h.dis b hb).2 (hlives b hl)⟩⟩,
  ⟨rfl,rfl,rfl,Nat.le_refl _,fun _ _ _=>rfl,fun b hb=> .inl (hlives b hb),fun _ h=>h,fun _ h=> .inl h,fun _ _=>rfl,fun q _ hq=>⟨(hsome q hq).2,hsame q (hsome q hq).1⟩⟩⟩
 ·have henv:dg (aF w Z L s.sto) (qC le 0 s.env) a.tmps.toList:=by
   have:=h.env;rw [bL]at this |-;refine ⟨by rw [xC];exact this.1,fun i x v hx hv=> ?_⟩;rw [xB]at hx;cases hy:s.env[i]? with
   | none=>simp [hy]at hx
   | some y=>
    simp [hy]at hx;split at hx
    ·subst hx;exact this.2 i y v hy hv
    ·subst hx;simp only [RV]
  refine ct (c:=aF w Z L s.sto) (c':=aF w Z L (Vi.mask le ls s).sto) (jA.refl _ _) _ _ (fun q hq=>hsame q ?_) (eX (p:=fun r=> !ls.contains r.1) _ _ henv);have:=dx _ q hq;simpa using this
 ·intro q ob hq;obtain ⟨h1,h2⟩:=hsome q (by simp [hq]);obtain ⟨o,ho⟩:=Option.isSome_iff_exists.1 h2;rw [nW,if_pos h1,ho]at hq;simp at hq;subst hq;refine iJ (c:=aF w Z L s.sto) (c':=aF w Z L (Vi.mask le ls s).sto) (jA.refl _ _) rfl rfl (fun _ _=>rfl) (fun k hk=>hsame k ?_) (jQ (h.obj q o ho));have:=Obj.ia o k hk;simpa using this
theorem tX {t:Nat} {x:AV} (h:RS s a w L Z) (ht:t<a.tmps.size) (hx:RV (aF w Z L s.sto) x a.tmps[t]):RS ⟨s.env.set t x,s.sto⟩ a w L Z:=by
 have hput:=h.put (some t) hx;have hsame:a.put (some t) a.tmps[t]=a:=by
  simp only [Act.put];have:a.tmps.setIfInBounds t a.tmps[t]=a.tmps:=by
   apply Array.ext';rw [Array.toList_setIfInBounds];apply List.ext_getElem?;intro i;by_cases hi:t=i
   ·subst hi;rw [List.getElem?_set_self (by simpa using ht)];simp [ht]
   ·rw [List.getElem?_set_ne hi]
  rw [this]
 rw [hsame]at hput;exact hput
theorem vH {t:Nat} {x:AV} (h:RS s a w L Z) (hx:s.env[t]? =some x):∃ht:t<a.tmps.size,RV (aF w Z L s.sto) x a.tmps[t]:=by
 obtain ⟨l1,l2⟩:=bL.1 h.env;have hlt:t<a.tmps.size:=by rw [<-Array.length_toList,<-l1];exact (ai.1 hx).1
 exact ⟨hlt,l2 t _ (a.tmps[t]) hx (by simp [hlt])⟩
theorem pN {c:Cx} {t:Id} {sz:gq} {own:Bool} {v:Value} (h0:c.L t=none) (h1:c.obj t=some (rowOf own sz [])) (hv:∃A,v= .slice A 0 0):RV c (.arr t sz none false) v:=by
 obtain ⟨A,hA⟩:=hv;simp only [RV];exact ⟨A,0,0,[],hA,⟨Nat.le_refl _,Nat.zero_le _⟩,fun e=>(by cases e),by rw [h1];exact Gr,fun _=>rfl,fun _ _ e=>(by cases e),fun _=>rfl,fun b hb=>by rw [h0]at hb;cases hb⟩
theorem cq {np:Nat}:∀{ps:List (Nat×Option Nat×Nat×gq×Bool)} {s s':St} {L:Loc},(∀p∈ps,p.2.2.1<np)->RS s a w L Z->dr (real call loop) ps s=some s'->∃L',RS s' a w L' Z/\Tr np s.sto s'.sto w w L L' Z Z
 | [],s,s',L,_,h,e=>by simp only [dr]at e;injection e with e;subst e;exact ⟨L,h,Tr.refl _ _ _ _ _⟩
 | (t,
    none,slot,sz,own)::ps,s,s',L,hp,h,e=>by
  have hp':∀p∈ps,p.2.2.1<np:=fun p hm=>hp p (by simp [hm])
  have hslot:slot<np:=hp (t,none,slot,sz,own) (by simp);simp only [dr]at e;split at e
  ·rename_i he;split at e
   case h_2=>cases e
   case h_1 s2 hl=>
    obtain ⟨L',k1,k2,k3,k4,_⟩:=tU (np:=np) h hl hslot (fun c=>nU c);have henv:=(dW hl).2;obtain ⟨ht,hv⟩:=vH h he;simp only [RV]at hv;have hput:=tX (t:=t) k1 ht (pN (c:=aF w Z L' s2.sto) (own:=own) (sz:=sz) k3 k4 hv);obtain ⟨L2,m1,m2⟩:=cq hp' hput e;exact ⟨L2,m1,k2.trans m2⟩
  ·rename_i r sz2 g u he;split at e
   ·split at e
    ·rename_i sz' xs ho;split at e
     case h_2=>cases e
     case h_1 hf=>
      obtain ⟨L',k1,k2,_⟩:=RS.Gq np h ho hf;obtain ⟨L2,m1,m2⟩:=cq hp' k1 e;exact ⟨L2,m1,k2.trans m2⟩
    ·exact cq hp' h e
   ·exact cq hp' h e
  ·exact cq hp' h e
 | (t,
    some c,
        slot,sz,own)::ps,s,s',L,hp,h,e=>by
  have hp':∀p∈ps,p.2.2.1<np:=fun p hm=>hp p (by simp [hm])
  have hslot:slot<np:=hp (t,some c,slot,sz,own) (by simp);simp only [dr]at e;split at e
  case h_2=>cases e
  case h_1 r b he=>
   split at e
   case h_2=>cases e
   case h_1 cs hr=>
    split at e
    ·rename_i hc;split at e
     case h_2=>cases e
     case h_1 s2 hl=>
      obtain ⟨L',k1,k2,k3,k4,k5⟩:=tU (np:=np) h hl hslot (fun c=>nU c);have hlt:(slot,0).1=slot:=rfl;have hrt:r.1≠slot:=fun e2=>by
       have:=f7 (dW hl).1 r e2;rw [hr]at this;cases this
      have hr2:s2.sto.get r=some (.box cs):=by rw [dw (dW hl).1,if_neg hrt];exact hr
      obtain ⟨L3,n1,n2⟩:=RS.Ns (y:= .arr (slot,0) sz none false) np k1 hr2 hc (fun v hv=>by
       simp only [RV]at hv;exact pN (c:=aF w Z L' s2.sto) (own:=own) k3 k4 hv)
      obtain ⟨L2,m1,m2⟩:=cq hp' n1 e;exact ⟨L2,m1,(k2.trans n2).trans m2⟩
    ·rename_i q sz2 g u hc;split at e
     ·split at e
      ·rename_i sz' xs ho;split at e
       case h_2=>cases e
       case h_1 hf=>
        obtain ⟨L',k1,k2,_⟩:=RS.Gq np h ho hf;obtain ⟨L2,m1,m2⟩:=cq hp' k1 e;exact ⟨L2,m1,k2.trans m2⟩
      ·exact cq hp' h e
     ·exact cq hp' h e
    ·exact cq hp' h e
end
end
section
section
variable {P:Program} {call:FuncId->List AV->List (Option Obj)->Option bk} {loop:Nat->St->Option (Out×St)}
variable {s:St} {a:Act} {w:World} {L:Loc} {Z:Nat->Prop}
def gB:lp->Bool
 | .emptyRow=>true
 | .move _ | .pick _ _ _ | .load _ _ _ | .bin _ _ _ _ | .eqNil _ _ | .neg _ | .not _ | .conv _ _ | .mkfn _ _ | .slice _ _ _ _ _ _ | .fieldAddr _ _ | .field _ _ _ _ | .indexAddr _ _ _ | .index _ _ | .extract _ _ | .len _ _ | .build _ _=>true
 | _=>false
def rN:lp->Bool
 | .call _ m raw _=> !raw&&(m== .pure || m== .bor)
 | .callv _ m raw _=> !raw&&(m== .pure || m== .bor)
 | op=>gB op
def fD:VX->List Nat
 | .tmp t=>[t]
 | .const _=>[]
def NI:Option VX->List Nat
 | some x=>fD x
 | none=>[]
def Bm:lp->List Nat
 | .move x=>fD x
 | .pick c x y=>fD c++fD x++fD y
 | .load _ _ x=>fD x
 | .bin _ _ x y=>fD x++fD y
 | .neg x=>fD x
 | .eqNil _ x=>fD x
 | .not x=>fD x
 | .conv _ x=>fD x
 | .mkfn _ xs=>xs.flatMap fD
 | .slice _ _ x lo hi mx=>fD x++NI lo++NI hi++NI mx
 | .fieldAddr _ x=>fD x
 | .field _ _ _ x=>fD x
 | .indexAddr _ x i=>fD x++fD i
 | .index x i=>fD x++fD i
 | .extract x _=>fD x
 | .len _ x=>fD x
 | .build _ ps=>ps.flatMap fun p=>fD p.2.2
 | .call _ _ _ xs=>xs.flatMap fD
 | .callv f _ _ xs=>fD f++xs.flatMap fD
 | .box x=>fD x
 | .buildRow _ _ _ _ ps=>ps.flatMap fun p=>fD p.2
 | .storeP _ a x=>fD a++fD x
 | .storeR _ a x=>fD a++fD x
 | .appendE _ _ x y=>fD x++fD y
 | .append _ _ x y=>fD x++fD y
 | .appendO _ _ x y=>fD x++fD y
 | .appendH _ _ x y=>fD x++fD y
 | .buildH _ _ x=>fD x
 | .lendF x=>fD x
 | _=>[]
def mI (v:br):List Nat:=(match v.guard with | some (t,_)=>[t] | none=>[])++Bm v.op
def Like (e e':List AV) (ts:List Nat):Prop:=∀t∈ts,e'[t]? =e[t]?
theorem Like.app {e e':List AV} {xs ys:List Nat} (h:Like e e' (xs++ys)):Like e e' xs/\Like e e' ys:=
 ⟨fun t ht=>h t (List.mem_append.2 (.inl ht)),fun t ht=>h t (List.mem_append.2 (.inr ht))⟩
theorem bM {e e':List AV} {x:VX} (h:Like e e' (fD x)):ev e' x=ev e x:=by
 cases x with
 | tmp t=>exact h t (by simp [fD])
 | const a=>rfl
theorem lN {e e':List AV}:∀{xs:List VX},Like e e' (xs.flatMap fD)->wP e' xs=wP e xs
 | [],_=>rfl
 | x::xs,h=>by
  rw [List.flatMap_cons]at h;obtain ⟨h1,h2⟩:=h.app;simp only [wP,bM h1,lN h2]
theorem vI {e e':List AV} {x:Option VX} (h:Like e e' (NI x)):Dc e' x=Dc e x:=by
 cases x with
 | none=>rfl
 | some x=>simp only [Dc,bM (show Like e e' (fD x)from h)]
theorem qN {e e':List AV}:∀{xs:List (Nat×Nat×VX)},Like e e' (xs.flatMap fun p=>fD p.2.2)->je e' xs=je e xs
 | [],_=>rfl
 | (i,n,x)::xs,h=>by
  rw [List.flatMap_cons]at h;obtain ⟨h1,h2⟩:=h.app;simp only [je,bM (show Like e e' (fD x)from h1),qN h2]
theorem kL {o:aK} {e e':List AV} {sto:bF} {op:lp} (hq:gB op=true) (h:Like e e' (Bm op)):evalOp o e' sto op=evalOp o e sto op:=by
 cases op<;>first
  | (simp [gB]at hq;done)
  | (simp only [evalOp,bM (show Like e e' (fD _)from h)];done)
  | (simp only [evalOp,lN (show Like e e' _ from h)];done)
  | rfl
  | (simp only [evalOp,qN (show Like e e' _ from h)];done)
  | (have h1:=Like.app h;simp only [evalOp,bM h1.1,bM h1.2];done)
  | (have h1:=Like.app h;have h2:=Like.app h1.1;simp only [evalOp,bM h1.2,bM h2.1,bM h2.2];done)
  | (have h1:=Like.app h;have h2:=Like.app h1.1;have h3:=Like.app h2.1;simp only [evalOp,vI h1.2,vI h2.2,vI h3.2,bM h3.1];done)
theorem rO {o:aK} {e:List AV} {sto:bF} {op:lp} {v:AV} {new:List (Option Obj)} (hq:gB op=true) (h:evalOp o e sto op=some (v,new)):new=[]:=by
 cases op<;>first
  | (simp [gB]at hq;done)
  | (
   simp only [evalOp]at h
   repeat' split at h
   all_goals first | (cases h;done) | (injection h with h;injection h with h1 h2;exact h2.symm))
theorem gY {o:aK} {s:St} {dst:Option Nat} {op:lp} (hq:gB op=true):aJ o s dst op=match evalOp o s.env s.sto op with
  | some (v,[])=>some (v,s)
  | some (v,e::new)=>match dst with
   | some t=>match s.lay t (e::new)with
    | some s=>some (v.map fun r=>if r=(0,0)then (t,0)else r,s)
    | none=>none
   | none=>none
  | none=>none:=by
 cases op<;>first
  | (simp [gB]at hq;done)
  | rfl
def pX (s s':bF):Prop:=∀r ob,s.get r=some ob->s'.get r=some ob
theorem pX.refl (s:bF):pX s s:=fun _ _ h=>h
theorem kq {o:aK} {s s':bF} (hs:pX s s') {a:AV} {xs:List D} (h:content o s a=some xs):content o s' a=some xs:=by
 unfold content at h |-;split at h
 ·exact h
 ·exact h
 ·split at h
  ·rename_i hg;simp only [hs _ _ hg];exact h
  ·cases h
 ·cases h
theorem nY {o:aK} {s s':bF} (hs:pX s s') {r:Id} {sz:gq} {g:Option (Int×Int)} {u:Bool} {xs:List D} (h:eH o s (.arr r sz g u)=some xs):eH o s' (.arr r sz g u)=some xs:=by
 simp only [eH]at h |-;cases ho:s.get r with
 | none=>
  rw [ho]at h;simp only [content,ho]at h;cases h
 | some ob=>
  rw [hs _ _ ho];rw [ho]at h;cases ob with
  | orows _ _=>exact h
  | hrows _ _ _ _ _ _=>exact h
  | box _=>simp only [content,ho]at h;cases h
  | gone _ _=>simp only [content,ho]at h;cases h
  | rows _ _=>exact kq hs h
theorem Nt {s s':bF} (hs:pX s s') {r:Id} {p:gq×List D} (h:s.rd r=some p):s'.rd r=some p:=by
 unfold bF.rd at h |-;split at h
 ·rename_i hg;rw [hs _ _ hg];exact h
 ·cases h
theorem Eh {o:aK} {s s':bF} (hs:pX s s') {agg:Bool} {n:Nat} {a v:AV} (h:loadAt o s agg n a=some v):loadAt o s' agg n a=some v:=by
 unfold loadAt at h |-;split at h
 ·split at h
  ·rename_i hg;simp only [hs _ _ hg];exact h
  ·cases h
 ·split at h
  ·rename_i hg;simp only [Nt hs hg];exact h
  ·cases h
 ·exact h
 ·cases h
theorem Ce {o:aK} {s s':bF} (hs:pX s s') {sz:gq} {x v:AV} {lo hi mx:Option Int} (h:sliceAt o s sz x lo hi mx=some v):sliceAt o s' sz x lo hi mx=some v:=by
 unfold sliceAt at h |-;cases mx with
 | some m=>
  simp only at h |-;cases hc:content o s x with
  | none=>simp [hc]at h
  | some xs=>rw [kq hs hc];rw [hc]at h;exact h
 | none=>
  simp only at h |-;split at h
  ·exact h
  ·exact h
  ·split at h
   ·cases h
   ·rename_i hc;simp only [nY hs hc];exact h
  ·cases h
mutual
theorem I8 {o:aK} {s s':bF} (hs:pX s s'):∀(a:AV) {v:AV},snap o s a=some v->snap o s' a=some v
 | .emp,v,h=>h
 | .arr r sz g u,v,h=>by
  simp only [snap]at h |-;cases ho:s.get r with
  | none=>
   rw [ho]at h;simp only [content,ho]at h;cases h
  | some ob=>
   rw [hs _ _ ho];rw [ho]at h;cases ob with
   | orows _ _=>exact h
   | box _=>simp only [content,ho]at h;cases h
   | gone _ _=>simp only [content,ho]at h;cases h
   | hrows _ _ _ _ _ _=>simp only [content,ho]at h;cases h
   | rows _ _=>
    simp only at h |-;split at h
    ·rename_i hg;rw [kq hs hg];exact h
    ·cases h
 | .agg cs,v,h=>by
  simp only [snap]at h |-;split at h
  ·rename_i hg;rw [qO hs cs hg];exact h
  ·cases h
 | .undef,v,h=>h
 | .bare,v,h=>h
 | .d _,v,h=>h
 | .tup _,v,h=>h
 | .nilp,v,h=>h
 | .ptr _ _,v,h=>h
 | .prow _ _ _ _,v,h=>h
 | .sp _ _,v,h=>h
 | .fn _ _,v,h=>h
theorem qO {o:aK} {s s':bF} (hs:pX s s'):∀(as:List AV) {vs:List AV},iS o s as=some vs->iS o s' as=some vs
 | [],vs,h=>h
 | a::as,vs,h=>by
  simp only [iS]at h |-;split at h
  case h_2=>cases h
  case h_1 x hx=>
   rw [I8 hs a hx];simp only;split at h
   case h_2=>cases h
   case h_1 xs hxs=>rw [qO hs as hxs];exact h
end
theorem Ei {o:aK} {e:List AV} {s s':bF} (hs:pX s s') {op:lp} (hq:gB op=true) {r:AV×List (Option Obj)} (h:evalOp o e s op=some r):evalOp o e s' op=some r:=by
 cases op<;>first
  | (simp [gB]at hq;done)
  | exact h
  | skip
 case load agg n a=>
  simp only [evalOp]at h |-;cases h1:ev e a with
  | none=>simp [h1]at h
  | some p=>
   simp only [h1]at h |-;cases h2:loadAt o s agg n p with
   | none=>simp [h2]at h
   | some v=>rw [Eh hs h2];rw [h2]at h;exact h
 case conv c x=>
  simp only [evalOp]at h |-;cases h1:ev e x with
  | none=>simp [h1]at h
  | some a=>
   simp only [h1]at h |-;cases c with
   | int k=>cases a<;>first | exact h | (rename_i q;cases q<;>exact h)
   | str=>cases a<;>first | exact h | (rename_i q;cases q<;>exact h)
   | bytesToStr=>
    cases h2:content o s a with
    | none=>simp [h2]at h
    | some xs=>simp only [kq hs h2];simp only [h2]at h;exact h
 case indexAddr sz x i=>
  simp only [evalOp]at h |-;split at h
  ·exact h
  ·split at h
   ·rename_i hc;simp only [nY hs hc];exact h
   ·cases h
  ·cases h
 case len Bl x=>
  simp only [evalOp]at h |-;split at h
  case h_2=>cases h
  case h_1 a h1=>
   split at h
   ·cases h
   ·split at h
    ·exact h
    ·exact h
    ·exact h
    ·split at h
     ·exact h
     ·split at h
      ·rename_i hc;simp only [nY hs hc];exact h
      ·cases h
    ·cases h
 case slice isStr sz x lo hi mx=>
  simp only [evalOp]at h |-;split at h
  case h_2=>cases h
  case h_1 x lo hi mx h1 h2 h3 h4=>
   split at h
   case h_2=>cases h
   case h_1 lo hi mx h5 h6 h7=>
    split at h
    ·exact h
    ·split at h
     ·rename_i hv;simp only [Ce hs hv];exact h
     ·cases h
    ·cases h
theorem lO {s:bF} {n:Nat}:reach s n [] []=some []:=by cases n<;>rfl
theorem vJ {f:FuncId} {m:kH} {as:List AV} {dst:Option Nat} {s s':St} {v:AV} (hm:(m== .pure || m== .bor)=true) (e:eJ (real call loop) f m false as dst s=some (v,s')):
  s'=s/\∀env sto',pX s.sto sto'->eJ (real call loop) f m false as dst ⟨env,sto'⟩=some (v,⟨env,sto'⟩):=by
 cases m with
 | frz=>simp at hm
 | ref=>simp at hm
 | bor=>
  simp only [eJ]at e |-;split at e
  ·cases e
  rename_i as' h1;split at e
  ·cases e
  rename_i h2;split at e
  ·cases e
  rename_i c h3;split at e
  case h_2=>cases e
  case h_1 h4=>
   injection e with e;injection e with e1 e2;subst e1;subst e2;refine ⟨rfl,fun env sto' hle=> ?_⟩;simp only [qO hle _ h1,h2,h3,h4]
 | pure=>
  simp only [eJ]at e |-;split at e
  ·cases e
  rename_i hp;have hr:AV.bO as=[]:=by simpa using hp
  simp only [handed]at e |-;split at e
  ·cases e
  rename_i as' s2 hsn;split at hsn
  case h_2=>cases hsn
  case h_1 as'' hsn'=>
   injection hsn with hsn;injection hsn with q1 q2;subst q1;subst q2;have hr':=kg as _ hr hsn';simp only [hr',lO,List.map_nil]at e;split at e
   ·cases e
   rename_i c hc;split at e
   ·cases e
   rename_i sto hwb;have hpars:c.pars=[]/\sto=s.sto:=by
    cases hcp:c.pars with
    | nil=>rw [hcp]at hwb;simp only [iG]at hwb;injection hwb with hwb;exact ⟨rfl,hwb.symm⟩
    | cons x xs=>rw [hcp]at hwb;simp [iG]at hwb
   obtain ⟨hpars,rfl⟩:=hpars;simp only [hpars,St.buried,iH]at e;split at e
   ·rename_i hX;injection e with e;injection e with e1 e2;subst e1;subst e2;refine ⟨rfl,fun env sto' hle=> ?_⟩;simp only [hp,qO hle _ hsn',hr',lO,List.map_nil,hc,hpars,iG,St.buried,iH,hX]
   ·simp at e
def dB (o:aK) (v:br) (s:St):Option St:=match wanted s.env v.guard with
 | some true=>match aJ o s v.dst v.op with
  | some (u,s)=>some ⟨ep s.env v.dst u,s.sto⟩
  | none=>none
 | some false=>some ⟨ep s.env v.dst .bare,s.sto⟩
 | none=>none
theorem bT {o:aK} {v:br} {l:List br} {s:St}:bf o (v::l) s=match dB o v s with | some s=>bf o l s | none=>none:=by
 cases h1:wanted s.env v.guard with
 | none=>simp only [bf,dB,h1]
 | some b=>
  cases b with
  | false=>simp only [bf,dB,h1]
  | true=>
   cases h2:aJ o s v.dst v.op with
   | none=>simp only [bf,dB,h1,h2]
   | some p=>obtain ⟨u,s1⟩:=p;simp only [bf,dB,h1,h2]
theorem eT {o:aK} {v:br} {s:St}:bf o [v] s=dB o v s:=by
 rw [bT];cases dB o v s<;>rfl
theorem iK {o:aK}:∀{l m:List br} {s:St},bf o (l++m) s=match bf o l s with | some s=>bf o m s | none=>none
 | [],m,s=>rfl
 | v::l,m,s=>by
  rw [List.cons_append,bT,bT];cases dB o v s with
  | none=>rfl
  | some s1=>exact iK
theorem pO {v:br} {s s':St} (hst:rN v.op=true) (e:dB (real call loop) v s=some s'):
  ∃u,s'=⟨ep s.env v.dst u,s.sto⟩/\∀env sto',Like s.env env (mI v)->pX s.sto sto'->dB (real call loop) v ⟨env,sto'⟩=some ⟨ep env v.dst u,sto'⟩:=by
 have hw:∀{env},Like s.env env (mI v)->wanted env v.guard=wanted s.env v.guard:=by
  intro env hl;obtain ⟨h1,_⟩:=hl.app;cases hg:v.guard with
  | none=>rfl
  | some g=>
   obtain ⟨t,b⟩:=g;rw [hg]at h1;simp only [wanted,h1 t (by simp)]
 unfold dB at e;split at e
 ·rename_i hwt;have key:∃u,aJ (real call loop) s v.dst v.op=some (u,s)/\∀env sto',Like s.env env (mI v)->pX s.sto sto'->aJ (real call loop) ⟨env,sto'⟩ v.dst v.op=some (u,⟨env,sto'⟩):=by
   split at e
   case h_2=>cases e
   case h_1 u s1 hd=>
    have quiet:gB v.op=true->s1=s/\∀env sto',Like s.env env (mI v)->pX s.sto sto'->aJ (real call loop) ⟨env,sto'⟩ v.dst v.op=some (u,⟨env,sto'⟩):=by
     intro hq;rw [gY hq]at hd;split at hd
     case h_3=>cases hd
     case h_2 u' e' new' hev=>have:=rO hq hev;cases this
     case h_1 u' hev=>
      injection hd with hd;injection hd with q1 q2;subst q1;subst q2;refine ⟨rfl,fun env sto' hl hle=> ?_⟩;rw [gY hq];simp only [kL hq (hl.app).2,Ei hle hq hev]
    cases hop:v.op with
    | call f m raw xs=>
     rw [hop]at hst hd;simp only [rN,ah,Bool.not_eq_true']at hst;obtain ⟨hraw,hm⟩:=hst;subst hraw;simp only [aJ]at hd;split at hd
     case h_2=>cases hd
     case h_1 as has=>
      obtain ⟨h1,h2⟩:=vJ hm hd;refine ⟨u,by rw [hop]at*;simp only [aJ,has];rw [<-h1];rw [h1];rw [h1]at hd;exact hd,fun env sto' hl hle=> ?_⟩;have hl2:=(hl.app).2;rw [hop]at hl2;simp only [aJ,lN (show Like s.env env _ from hl2),has];exact h2 env sto' hle
    | callv f m raw xs=>
     rw [hop]at hst hd;simp only [rN,ah,Bool.not_eq_true']at hst;obtain ⟨hraw,hm⟩:=hst;subst hraw;simp only [aJ]at hd;split at hd
     case h_2=>cases hd
     case h_1 g cap as hf has=>
      obtain ⟨h1,h2⟩:=vJ hm hd;refine ⟨u,by rw [h1]at hd;simp only [aJ,hf,has];exact hd,fun env sto' hl hle=> ?_⟩;have hl2:=(hl.app).2;rw [hop]at hl2;obtain ⟨hl3,hl4⟩:=Like.app (show Like s.env env (fD f++xs.flatMap fD)from hl2);simp only [aJ,bM hl3,lN hl4,hf,has];exact h2 env sto' hle
    | _=>
     rw [hop]at hst;obtain ⟨h1,h2⟩:=quiet (by rw [hop];exact hst);rw [hop]at hd h2;exact ⟨u,by rw [h1]at hd;exact hd,h2⟩
  obtain ⟨u,k1,k2⟩:=key;rw [k1]at e;injection e with e;refine ⟨u,e.symm,fun env sto' hl hle=> ?_⟩;unfold dB;rw [hw hl,hwt];simp only [k2 env sto' hl hle]
 ·rename_i hwt;injection e with e;refine ⟨.bare,e.symm,fun env sto' hl hle=> ?_⟩;unfold dB;rw [hw hl,hwt]
 ·cases e
end
end
end Go.Vi
