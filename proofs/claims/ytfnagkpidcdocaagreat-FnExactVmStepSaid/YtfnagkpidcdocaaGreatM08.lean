import Derived.Test.YtfnagkpidcdocaaGreatM07
import Derived.Orders
set_option linter.all false
namespace Go.Vi
open Go Go.RowKit
section
variable {P:Program} {call:cM} {loop:cN}
variable {s:St} {a:Act} {w:World} {L:Loc} {Z:Nat->Prop}
theorem Me {u:AV} {p:Bool} (h:u= .d (.bool p)):u.G6=true:=by rw[h];rfl
theorem Gm {o:aJ} {s:St}:∀{l:List AV} {xs:List D},p_ l=some xs->∃l',yV o s l=some (l',s)/\p_ l'=some xs:=by
 have hd:∀{l:List AV} {xs:List D},dL l=some xs->yV o s l=some (l,s):=by
  intro l;induction l with
  | nil=>intro xs _;rfl
  | cons a l ih=>
   intro xs h;cases a<;>first
    | (simp[dL]at h;done)
    | (
      simp only[dL]at h;split at h
      · rename_i ys hy;simp only[yV,fz,ih hy]
      · cases h)
 intro l;induction l with
 | nil=>intro xs h;exact ⟨[],rfl,h⟩
 | cons a l ih=>
  intro xs h;simp only[p_]at h;split at h
  case h_2=>cases h
  case h_1 x hx=>
   split at h
   case h_2=>cases h
   case h_1 ys hy=>
    obtain ⟨l',h1,h2⟩:=ih hy;have ha:fz o s a=some (a,s):=by
     cases a<;>first
       | (simp[Gd]at hx;done)
       | rfl
       | (
         simp only[Gd]at hx;split at hx
         ·rename_i ds hds;simp only[fz,hd hds]
         ·cases hx)
    refine ⟨a::l',by simp only[yV,ha,h1],?_⟩;simp only[p_,hx,h2];exact h
theorem xj {o:aJ} {s:St} {dst:Option Nat} {sz:gG} {agg:Bool} {zero:List AV} {len:Nat} {ps:List (Nat×VX)} {r:AV×St} (e:aI o s dst (.buildRow sz agg zero len ps)=some r):aI o s dst (.buildSlice sz agg zero len ps)=some r:=by
 simp only[aI]at e |-;cases h1:dW s.env ps with
 | none=>simp[h1]at e
 | some qs=>
  cases dst with
  | none=>simp[h1]at e
  | some t=>
   simp only[h1]at e |-;by_cases hz:zero.length=sz.2
   ·rw[if_pos hz]at e |-;cases h2:dZ zero with
    | none=>simp[h2]at e
    | some ds=>
     simp only[h2]at e |-;cases h3:D.bJ agg ds with
     | none=>simp[h3]at e
     | some z=>
      simp only[h3]at e |-;cases h4:p_ (qs.map (·.2))with
      | none=>simp[h4]at e
      | some xs=>
       obtain ⟨l',h5,h6⟩:=Gm (o:=o) (s:=s) h4;simp only[h4]at e;simp only[h5,h6];exact e
   ·rw[if_neg hz]at e;cases e
theorem Jd {np:Nat} {o:Oper} {vop:lZ} {r:AV} {s':St} (hco:iy P call) (h:RS s a w L Z) (hok:okV P o.op vop=true) (ht:∀t,o.dst=some t->t<np)
  (e:aI (real call loop) s o.dst vop=some (r,s')):aV P np o s a w L Z r s':=by
 generalize ho:o.op=op at hok;unfold okV at hok;split at hok
 ·rename_i x y;cases hy:ev s.env y with
  | none=>simp[aI,evalOp,hy]at e
  | some u=>simp[aI,evalOp,hy]at e;obtain ⟨rfl,rfl⟩:=e;exact x_ np h (.inl ho) hok hy
 ·rename_i x y;cases hy:ev s.env y with
  | none=>simp[aI,evalOp,hy]at e
  | some u=>simp[aI,evalOp,hy]at e;obtain ⟨rfl,rfl⟩:=e;exact x_ np h (.inr ho) hok hy
 ·rename_i c x y c' x' y';simp only[af]at hok;simp only[aI,evalOp]at e;split at e
  case h_3=>cases e
  case h_2 v' e' new' hev=>
   exfalso;split at hev
   ·split at hev<;>simp at hev
   ·cases hev
  case h_1 v' hev=>
   injection e with e;injection e with e1 e2;subst e1;subst e2;split at hev
   case h_2=>cases hev
   case h_1 t u v q1 q2 q3=>
    have:=Ej (P:=P) np h (o:=o) ho hok.1.1 hok.1.2 hok.2 q1 q2 q3;cases t<;>(simp at hev;subst hev;exact this)
 ·rename_i t cs;split at hok
  case h_2=>cases hok
  case h_1 i hi=>
   split at hok
   case h_2=>cases hok
   case h_1 z hz=>
    simp only[aI,evalOp]at e;split at e
    case h_2=>cases e
    case h_1 tt htt=>
     split at e
     case h_2=>cases e
     case h_1 s2 hl=>
      injection e with e;injection e with e1 e2;subst e1;subst e2;simp only[AV.map,if_true];exact Cl h ho hi hz hok hl (ht tt (by assumption))
 ·rename_i t x y;simp only[aI,evalOp]at e;cases hy:ev s.env y with
  | none=>simp[hy]at e
  | some u=>
   have key:(∀vs,u≠ .tup vs)->u≠ .undef->u≠ .bare->(match o.dst with | some t=>(match s.lay t [some (Obj.box u.cells)]with | some s=>some ((AV.ptr (0,0) 0).map λr=>if r=(0,0)then (t,0)else r,s) | none=>none) | none=>none)=some (r,s')->aV P np o s a w L Z r s':=by
    intro k1 k2 k3 e;split at e
    case h_2=>cases e
    case h_1 tt htt=>
     split at e
     case h_2=>cases e
     case h_1 s2 hl=>
      injection e with e;injection e with e1 e2;subst e1;subst e2;simp only[AV.map,if_true];exact G0 h ho hok hy k1 k2 k3 hl (ht tt (by assumption))
   rw[hy]at e;cases u with
   | tup vs=>simp at e
   | undef=>simp at e
   | bare=>simp at e
   | _=>exact key (by simp) (by simp) (by simp) e
 ·exact D3 h ho hok e
 ·rename_i t ps zero qs;split at hok
  case h_2=>cases hok
  case h_1 fields i hu hi=>
   split at hok
   case h_2=>cases hok
   case h_1 z places hz hpl=>
    simp only[af]at hok;simp only[aI,evalOp]at e;cases e1:jw s.env qs with
    | none=>simp[e1]at e
    | some rs=>
     cases e2:vK zero rs with
     | none=>simp[e1,e2]at e
     | some cs=>simp[e1,e2]at e;obtain ⟨rfl,rfl⟩:=e;exact BQ np h ho hu hi hz hpl hok.1 hok.2 e1 e2
 ·rename_i t len ps sz agg zero len' qs;split at hok
  case h_2=>cases hok
  case h_1 el hu=>
   split at hok
   case h_2=>cases hok
   case h_1 i hi=>
    split at hok
    case h_2=>cases hok
    case h_1 z hz=>
     simp only[af,beq_iff_eq,decide_eq_true_eq]at hok;obtain ⟨⟨⟨⟨⟨⟨⟨c1,c2⟩,c3⟩,c4⟩,c5⟩,c6⟩,c7⟩,c8⟩:=hok;obtain ⟨s1,s2⟩:=sz;simp only at c1 c2;subst c1;subst c2;subst c3;cases hd:o.dst with
     | none=>rw[hd]at e;simp only[aI]at e;split at e<;>first | (rename_i q;cases q;done) | cases e
     | some tt=>
      rw[hd]at e;exact nW h ho c4 hu hi hz c5 c6 c7 c8 (ht tt hd) e
 ·rename_i t len ps;split at hok
  case h_2=>cases hok
  case h_1 el hu=>
   simp only[af,beq_iff_eq]at hok;obtain ⟨⟨c1,c2⟩,c3⟩:=hok;subst c1;obtain ⟨i,hi⟩:=Option.isSome_iff_exists.1 c3;simp only[aI,evalOp]at e;injection e with e;injection e with e1 e2;subst e1;subst e2;exact w_ h ho (by simpa using c2) hu hi
 ·rename_i t len ps sz agg zero len' qs;split at hok
  case h_2=>cases hok
  case h_1 el hu=>
   split at hok
   case h_2=>cases hok
   case h_1 i hi=>
    split at hok
    case h_2=>cases hok
    case h_1 z hz=>
     simp only[af,beq_iff_eq,decide_eq_true_eq]at hok;obtain ⟨⟨⟨⟨⟨⟨⟨c1,c2⟩,c3⟩,c4⟩,c5⟩,c6⟩,c7⟩,c8⟩:=hok;obtain ⟨s1,s2⟩:=sz;simp only at c1 c2;subst c1;subst c2;subst c3;cases hd:o.dst with
     | none=>rw[hd]at e;simp only[aI]at e;split at e<;>first | (rename_i q;cases q;done) | cases e
     | some tt=>
      rw[hd]at e;exact nW h ho c4 hu hi hz c5 c6 c7 c8 (ht tt hd) (xj e)
 ·rename_i t len ps sz x';split at hok
  case h_2=>cases hok
  case h_1 el x hu hps=>
   split at hok
   case h_2=>cases hok
   case h_1 i hi=>
    split at hok
    case h_2=>cases hok
    case h_1 z hz=>
     simp only[af,beq_iff_eq,decide_eq_true_eq]at hok;obtain ⟨⟨⟨⟨⟨⟨d1,d2⟩,d3⟩,d4⟩,d5⟩,d6⟩,d7⟩:=hok;obtain ⟨s1,s2⟩:=sz;simp only at d1 d2;subst d1;subst d2;subst d3;have hps':ps= #[(0,x)]:=Array.ext' hps;subst hps';cases hd:o.dst with
     | none=>rw[hd]at e;simp only[aI]at e;split at e<;>first | (rename_i q;cases q;done) | cases e
     | some tt=>
      rw[hd]at e;exact Am h ho d4 hu hi hz d5 d6 d7 (ht tt hd) e
 ·rename_i t len ps sz off x';split at hok
  case h_2=>cases hok
  case h_1 el x hu hps=>
   split at hok
   case h_2=>cases hok
   case h_1 i hi=>
    split at hok
    case h_2=>cases hok
    case h_1 z hz=>
     simp only[af,beq_iff_eq,decide_eq_true_eq]at hok;obtain ⟨⟨⟨⟨⟨⟨d1,d2⟩,d3⟩,d4⟩,d5⟩,d6⟩,d7⟩:=hok;obtain ⟨s1,s2⟩:=sz;simp only at d1 d2;subst d1;subst d2;subst d3;have hps':ps= #[(0,x)]:=Array.ext' hps;subst hps';cases hd:o.dst with
     | none=>rw[hd]at e;simp only[aI]at e;split at e<;>first | (rename_i q;cases q;done) | cases e
     | some tt=>
      rw[hd]at e;exact Ap h ho d4 hu hi hz d5 d6 d7 (ht tt hd) e
 ·rename_i c sz bytes x' y';split at hok
  case h_2=>cases hok
  case h_1 x y t t' hc1 hc2 hc3=>
   simp only[af,beq_iff_eq]at hok;obtain ⟨⟨⟨c1,c2⟩,c3⟩,c4⟩:=hok;subst c1;split at c4
   case h_2=>cases c4
   case h_1 el hu=>
    split at c4
    case h_2=>cases c4
    case h_1 i hi=>
     split at c4
     case h_2=>cases c4
     case h_1 z hz=>
      simp only[af,beq_iff_eq]at c4;obtain ⟨⟨⟨d1,d2⟩,d3⟩,d4⟩:=c4;obtain ⟨s1,s2⟩:=sz;simp only at d1 d2;subst d1;subst d2;subst d3;have hcc:c={ callee:= .builtin .append,args:= #[x,y],argTypes:= #[t,t] }:=by
        obtain ⟨q1,q2,q3⟩:=c;simp only at hc1 hc2 hc3;have e2:q2= #[x,y]:=Array.ext' hc2;have e3:q3= #[t,t]:=Array.ext' hc3;rw[hc1,e2,e3]
      subst hcc;cases hd:o.dst with
      | none=>rw[hd]at e;simp only[aI,sV]at e;split at e<;>first | (rename_i q;cases q;done) | cases e
      | some tt=>
        rw[hd]at e;simp only[aI]at e;exact rO h ho c2 c3 hu hi hz d4 (ht tt hd) e
 ·rename_i t x y;split at hok
  case h_2=>cases hok
  case h_1 i d hi hd=>
   simp only[af,beq_iff_eq]at hok;obtain ⟨⟨c1,c2⟩,c3⟩:=hok;cases hdd:o.dst with
   | none=>
    rw[hdd]at e;have:aI (real call loop) s none (.vN y)=some (r,s')->aI (real call loop) s none (.load false 1 y)=some (r,s'):=by
     intro e;simp only[aI,evalOp]at e |-;split at e
     case h_2=>cases e
     case h_1 q sz n off hev=>
      split at e
      case h_2=>cases e
      case h_1 sz' xs ho'=>
        split at e
        case h_2=>cases e
        case h_1 cs hcs=>
          split at e
          ·split at e
           ·rename_i q1 q2;cases q2
           ·cases e
          ·split at e
           case h_2=>cases e
           case h_1 v hld=>
            rw[hev];simp only[hld];exact e
    have e':=this e;simp only[aI,evalOp]at e';cases hy:ev s.env y with
    | none=>simp[hy]at e'
    | some p=>
     cases hl:loadAt (real call loop) s.sto false 1 p with
     | none=>simp[hy,hl]at e'
     | some u=>simp[hy,hl]at e';obtain ⟨rfl,rfl⟩:=e';exact tG np h ho c1 hi hd c3.symm hy (by rw[c2];exact hl)
   | some tt=>
    rw[hdd]at e;exact DT h ho c1 hi c2 hd c3 (ht tt hdd) e
 ·rename_i t x y;split at hok
  case h_2=>cases hok
  case h_1 i d hi hd=>
   simp only[af,beq_iff_eq]at hok;obtain ⟨⟨c1,c2⟩,c3⟩:=hok;cases hdd:o.dst with
   | none=>
    rw[hdd]at e;exfalso;simp only[aI]at e;split at e
    case h_2=>cases e
    case h_1 q sz n off hev=>
     split at e
     case h_2=>cases e
     case h_1 sz' xs ho'=>
      split at e
      case h_2=>cases e
      case h_1 cs hcs=>
        split at e
        · split at e
          ·rename_i q1 q2 _;cases q2
          ·cases e
        · cases e
   | some tt=>
    rw[hdd]at e;exact BO h ho c1 hi c2 hd c3 (ht tt hdd) e
 ·rename_i t x agg n y;split at hok
  case h_2=>cases hok
  case h_1 i d hi hd=>
   simp only[af,beq_iff_eq]at hok;obtain ⟨⟨c1,c2⟩,c3⟩:=hok;subst c2;simp only[aI,evalOp]at e;cases hy:ev s.env y with
   | none=>simp[hy]at e
   | some p=>
    cases hl:loadAt (real call loop) s.sto agg i.size p with
    | none=>simp[hy,hl]at e
    | some u=>simp[hy,hl]at e;obtain ⟨rfl,rfl⟩:=e;exact tG np h ho c1 hi hd c3 hy hl
 ·rename_i t x y n x' y';split at hok
  case h_2=>cases hok
  case h_1 i hi=>
   simp only[af,beq_iff_eq]at hok;obtain ⟨⟨c1,c2⟩,c3⟩:=hok;subst c1;simp only[aI]at e;split at e
   case h_2=>cases e
   case h_1 p v e1 e2=>
    split at e
    case h_2=>cases e
    case h_1 s2 hs=>
     injection e with e;injection e with q1 q2;subst q1;subst q2;exact qN np h ho c2 c3 hi e1 e2 hs
 ·rename_i t x y n x' y';split at hok
  case h_2=>cases hok
  case h_1 i hi=>
   simp only[af,beq_iff_eq]at hok;obtain ⟨⟨c1,c2⟩,c3⟩:=hok;subst c1;obtain ⟨p,v,e1,e2,rfl,hs⟩:=y9 e;exact qN np h ho c2 c3 hi e1 e2 hs
 ·rename_i t x y n x' y';split at hok
  case h_2=>cases hok
  case h_1 i hi=>
   simp only[af,beq_iff_eq]at hok;obtain ⟨⟨c1,c2⟩,c3⟩:=hok;subst c1;simp only[aI]at e;split at e
   case h_2=>cases e
   case h_1 p v e1 e2=>
    split at e
    case h_2=>cases e
    case h_1 s2 hs=>
     injection e with e;injection e with q1 q2;subst q1;subst q2;exact qN np h ho c2 c3 hi e1 e2 hs
 ·rename_i op t x y t' G6 op' x' y';simp only[af,decide_eq_true_eq]at hok;obtain ⟨⟨⟨c1,c2⟩,c3⟩,c4⟩:=hok;subst c1;simp only[aI,evalOp]at e;split at e
  case h_3=>cases e
  case h_2 v' e' new' hev=>
   exfalso
   repeat' split at hev
   all_goals first | (cases hev;done) | (simp at hev;done)
  case h_1 v' hev=>
   injection e with e;injection e with e1 e2;subst e1;subst e2;split at hev
   case h_2=>cases hev
   case h_1 u v q1 q2=>
    split at hev
    case h_2=>cases hev
    case h_1 hB=>
     split at hev
     case h_2=>cases hev
     case h_1 m hm=>
      injection hev with hev;injection hev with hev _;subst hev;refine GU np h ho c2 c3 (λp hp=> ?_) q1 q2 hm;have hB':u.G6=G6:=by simpa using hB
      rw[Me hp]at hB';subst hB';simp only[Bool.not_true,Bool.false_or]at c4;split at c4
      · assumption
      · cases c4
 ·rename_i op t x t' ne x';simp only[af,decide_eq_true_eq]at hok;obtain ⟨⟨c1,c2⟩,c3⟩:=hok;split at c3
  case h_2=>cases c3
  case h_1 el hu=>
   simp only[aI,evalOp]at e;cases hx:ev s.env x' with
   | none=>simp[hx]at e
   | some u=>
    simp only[hx]at e;cases u<;>
            first
     | (simp at e;done)
     | (
       simp only at e;injection e with e;injection e with q1 q2;subst q1;subst q2;first
         | exact wN np h ho c1 c2 hu hx (.inl ⟨rfl,rfl⟩)
         | (
           refine wN np h ho c1 c2 hu hx (.inr ⟨⟨(),λv hv=> ?_⟩,rfl⟩);simp only[RV]at hv;first
            | (obtain ⟨b,_,_,hv⟩:=hv;exact ⟨_,hv,rfl⟩)
            | (obtain ⟨b,_,_,_,hv⟩:=hv;exact ⟨_,hv,rfl⟩)
            | (obtain ⟨b,o',vs,hv,_⟩:=hv;exact ⟨_,hv,rfl⟩)))
 ·rename_i t x y;simp only[aI,evalOp]at e;split at e
  case h_3=>cases e
  case h_2 v' e' new' hev=>split at hev<;>simp at hev
  case h_1 v' hev=>
   injection e with e;injection e with e1 e2;subst e1;subst e2;split at hev
   case h_2=>cases hev
   case h_1 k n q1=>
    injection hev with hev;injection hev with hev _;subst hev;exact GW np h ho hok q1
 ·rename_i t x y;simp only[aI,evalOp]at e;split at e
  case h_3=>cases e
  case h_2 v' e' new' hev=>split at hev<;>simp at hev
  case h_1 v' hev=>
   injection e with e;injection e with e1 e2;subst e1;subst e2;split at hev
   case h_2=>cases hev
   case h_1 b q1=>
    injection hev with hev;injection hev with hev _;subst hev;exact GX np h ho hok q1
 ·rename_i t t' x c y;simp only[af]at hok;obtain ⟨c1,c2⟩:=hok;simp only[aI,evalOp]at e;cases hy:ev s.env y with
  | none=>simp[hy]at e
  | some u=>
   simp only[hy]at e;split at c2
   ·rename_i k;simp only[af]at c2;obtain ⟨d1,d2⟩:=c2;split at d1
    case h_2=>cases d1
    case h_1 j hj=>
     split at d2
     case h_2=>cases d2
     case h_1 k' hk'=>
      have:k=k':=by simpa using d2
      subst this;cases u with
      | d y'=>cases y' with
        | int k2 n=>simp at e;obtain ⟨rfl,rfl⟩:=e;exact zJ np h ho c1 ⟨j,hj⟩ hk' hy
        | _=>simp at e
      | _=>simp at e
   ·simp only[af]at c2;obtain ⟨d1,d2⟩:=c2;split at d1
    case h_2=>cases d1
    case h_1 hj=>
     split at d2
     case h_2=>cases d2
     case h_1 hk'=>
      cases u with
      | d y'=>cases y' with
        | str n=>simp at e;obtain ⟨rfl,rfl⟩:=e;exact zK np h ho c1 hj hk' hy
        | _=>simp at e
      | _=>simp at e
   ·simp only[af]at c2;obtain ⟨d1,d2⟩:=c2;split at d1
    case h_2=>cases d1
    case h_1 el hj=>
     split at d1
     case h_2=>cases d1
     case h_1 he=>
      split at d2
      case h_2=>cases d2
      case h_1 hk'=>
        cases hc:content (real call loop) s.sto u with
        | none=>simp[hc]at e
        | some xs=>
          cases hb:(real call loop).ofBytes xs with
          | none=>simp[hc,hb]at e
          | some tx=>simp[hc,hb]at e;obtain ⟨rfl,rfl⟩:=e;exact ur np h ho c1 hj he hk' hy hc hb
 ·rename_i f first xs g ys
  simp only[af,beq_iff_eq]at hok;obtain ⟨⟨c1,c2⟩,c3⟩:=hok;subst c2;have hf:first= #[]:=by apply Array.ext';simpa using c1
  subst hf;simp only[aI,evalOp]at e;cases hy:wT s.env ys with
  | none=>simp[hy]at e
  | some us=>simp[hy]at e;obtain ⟨rfl,rfl⟩:=e;exact Ek np h ho c3 hy
 ·rename_i t x y sz bytes agg zero x' y';split at hok
  case h_2=>cases hok
  case h_1 el hu=>
   split at hok
   case h_2=>cases hok
   case h_1 i hi=>
    split at hok
    case h_2=>cases hok
    case h_1 z hz=>
     simp only[af,beq_iff_eq,decide_eq_true_eq]at hok;obtain ⟨⟨⟨⟨⟨⟨⟨c1,c2⟩,c3⟩,c4⟩,c5⟩,c6⟩,c7⟩,c8⟩:=hok;obtain ⟨s1,s2⟩:=sz;simp only at c1 c2;subst c1;subst c2;subst c3;simp only[aI,evalOp]at e;split at e
     case h_3=>cases e
     case h_1 v' hev=>
      exfalso
      repeat' split at hev
      all_goals first | (cases hev;done) | (simp at hev;done)
     case h_2 v' e' new' hev=>
      split at hev
      case h_2=>cases hev
      case h_1 k l k' c q1 q2=>
        split at hev
        case isFalse=>cases hev
        case isTrue=>
          split at hev
          case h_2=>cases hev
          case h_1 ds hds=>
           split at hev
           case h_2=>cases hev
           case h_1 zd hzd=>
            split at hev
            case h_2=>cases hev
            case h_1 heq hfit=>
             injection hev with hev;injection hev with g1 g2;injection g2 with g2 g3;subst g1;subst g2;subst g3;split at e
             case h_2=>cases e
             case h_1 tt htt=>
              split at e
              case h_2=>cases e
              case h_1 s3 hl=>
               injection e with e;injection e with e1 e2;subst e1;subst e2;simp only[AV.map,if_true];exact wR h ho c4 c5 hu hi hz c6 c7 c8 hds hzd q1 q2 heq hfit (ht tt (by assumption)) hl
 ·rename_i t x lo hi mx isStr sz x' lo' hi' mx';simp only[af]at hok;obtain ⟨⟨⟨⟨c1,c2⟩,c3⟩,c4⟩,c5⟩:=hok;simp only[aI,evalOp]at e;split at e
  case h_3=>cases e
  case h_2 v' e' new' hev=>
   exfalso
   repeat' split at hev
   all_goals first | (cases hev;done) | (simp at hev;done)
  case h_1 v' hev=>
   injection e with e;injection e with e1 e2;subst e1;subst e2;split at hev
   case h_2=>cases hev
   case h_1 A y1 y2 y3 q1 q2 q3 q4=>
    split at hev
    case h_2=>cases hev
    case h_1 l h' m p1 p2 p3=>
     split at hev
     case h_3=>cases hev
     case h_1 u=>
      split at hev
      case h_2=>cases hev
      case h_1=>
        split at hev
        case h_2=>cases hev
        case h_1 v hv=>
          injection hev with hev;injection hev with hev _;subst hev;simp only[af,Option.isNone_iff_eq_none]at c5;obtain ⟨d1,d2⟩:=c5;split at d2
          case h_2=>cases d2
          case h_1 hu=>exact w8 np h ho c1 c2 c3 d1 hu q1 q2 q3 p1 p2 hv
     case h_2=>
      split at hev
      case h_2=>cases hev
      case h_1 v hv=>
        injection hev with hev;injection hev with hev _;subst hev;simp only at c5;split at c5
        case h_2=>cases c5
        case h_1 el hu=>
          split at c5
          case h_2=>cases c5
          case h_1 i hinfo=>
           simp only[af,beq_iff_eq]at c5;obtain ⟨s1,s2⟩:=sz;obtain ⟨d1,d2⟩:=c5;simp only at d1 d2;subst d1;subst d2;exact BP np h ho c1 c2 c3 c4 hu hinfo q1 q2 q3 q4 p1 p2 p3 hv
 ·rename_i t x f off y;split at hok
  case h_2=>cases hok
  case h_1 fs hu=>
   split at hok
   case h_2=>cases hok
   case h_1 fd hf=>
    split at hok
    case h_2=>cases hok
    case h_1 i hi=>
     simp only[af,beq_iff_eq,bne_iff_ne,ne_eq]at hok;obtain ⟨⟨c1,c2⟩,c3⟩:=hok;subst c2;simp only[aI,evalOp]at e;cases hy:ev s.env y with
     | none=>simp[hy]at e
     | some u=>
      simp only[hy]at e;cases u<;>simp at e<;>(obtain ⟨rfl,rfl⟩:=e;exact wP np h ho c3 hu hf hi c1 hy rfl)
 ·rename_i x off y;simp only[af,beq_iff_eq]at hok;obtain ⟨c1,c2⟩:=hok;subst c1;simp only[aI,evalOp]at e;cases hy:ev s.env y with
  | none=>simp[hy]at e
  | some u=>simp only[hy]at e;cases u<;>simp at e<;>(obtain ⟨rfl,rfl⟩:=e;exact w9 np h ho c2 hy rfl)
 ·rename_i t x f agg off n y;split at hok
  case h_2=>cases hok
  case h_1 fs hu=>
   split at hok
   case h_2=>cases hok
   case h_1 fd hf=>
    split at hok
    case h_2=>cases hok
    case h_1 i d hi hd=>
     simp only[af,beq_iff_eq]at hok;obtain ⟨⟨⟨c1,c2⟩,c3⟩,c4⟩:=hok;subst c1;subst c2;simp only[aI,evalOp]at e;cases hy:ev s.env y with
     | none=>simp[hy]at e
     | some u=>
      simp only[hy]at e;cases u with
      | agg cs=>
        cases hc:cut cs fd.offset i.size with
        | none=>simp[hc]at e
        | some cs'=>
          cases hr:AV.bJ agg cs' with
          | none=>simp[hc,hr]at e
          | some v=>simp[hc,hr]at e;obtain ⟨rfl,rfl⟩:=e;exact Cj np h ho c4 hu hf hi hd c3 hy hc hr
      | _=>simp at e
 ·rename_i t x i sz y j;split at hok
  case h_2=>cases hok
  case h_1 el hu=>
   split at hok
   case h_2=>cases hok
   case h_1 n hi=>
    simp only[af,beq_iff_eq]at hok;obtain ⟨⟨⟨c1,c2⟩,c3⟩,c4⟩:=hok;obtain ⟨s1,s2⟩:=sz;simp only at c1 c2;subst c1;subst c2;simp only[aI,evalOp]at e;split at e
    case h_3=>cases e
    case h_2 v' e' new' hev=>
     exfalso
     repeat' split at hev
     all_goals first | (cases hev;done) | (simp at hev;done)
    case h_1 v' hev=>
     injection e with e;injection e with e1 e2;subst e1;subst e2;split at hev
     case h_3=>cases hev
     case h_1 xs k m q1 q2=>
      split at hev
      case h_2=>cases hev
      case h_1 d hd=>
        split at hev
        case isFalse=>cases hev
        case isTrue hl=>
          injection hev with hev;injection hev with hev _;subst hev;exact uy np h ho c3 c4 hu hi q1 q2 hd hl
     case h_2 q sz' g u k m q1 q2=>
      split at hev
      case h_2=>cases hev
      case h_1 xs hxs=>
        split at hev
        case h_2=>cases hev
        case h_1 d hd=>
          split at hev
          case isFalse=>cases hev
          case isTrue hsz=>
           subst hsz;injection hev with hev;injection hev with hev _;subst hev;cases g with
           | none=>exact nX np h ho c3 c4 hu hi q1 q2 hxs hd
           | some p=>obtain ⟨p1,p2⟩:=p;exact nX np h ho c3 c4 hu hi q1 q2 hxs hd
 ·rename_i t x i y j;simp only[af]at hok;obtain ⟨⟨c1,c2⟩,c3⟩:=hok;split at c1
  case h_2=>cases c1
  case h_1 hu=>
   simp only[aI,evalOp]at e;split at e
   case h_3=>cases e
   case h_2 v' e' new' hev=>
    exfalso
    repeat' split at hev
    all_goals first | (cases hev;done) | (simp at hev;done)
   case h_1 v' hev=>
    injection e with e;injection e with e1 e2;subst e1;subst e2;split at hev
    case h_2=>cases hev
    case h_1 sv k n q1 q2=>
     split at hev
     case h_2=>cases hev
     case h_1 b hb=>
      injection hev with hev;injection hev with hev _;subst hev;exact Ck np h ho c2 c3 hu q1 q2 hb
 ·rename_i x i y j;simp only[af,beq_iff_eq]at hok;obtain ⟨c1,c2⟩:=hok;subst c2;simp only[aI,evalOp]at e;cases hy:ev s.env y with
  | none=>simp[hy]at e
  | some u=>
   simp only[hy]at e;cases u with
   | tup vs=>
    cases hv:vs[i]? with
    | none=>simp[hv]at e
    | some v=>simp[hv]at e;obtain ⟨rfl,rfl⟩:=e;exact zN np h ho c1 hy hv
   | _=>simp at e
 ·rename_i c Bh y;split at hok
  case h_2=>cases hok
  case h_1 x t hc1 hc2 hc3=>
   simp only[af]at hok;obtain ⟨c1,c2⟩:=hok;have hcc:c={ callee:= .builtin .len,args:= #[x],argTypes:= #[t] }:=by
    obtain ⟨q1,q2,q3⟩:=c;simp only at hc1 hc2 hc3;have e2:q2= #[x]:=Array.ext' hc2;have e3:q3= #[t]:=Array.ext' hc3;rw[hc1,e2,e3]
   subst hcc;have hev:∃u,ev s.env y=some u:=by
    cases hy:ev s.env y with
    | none=>simp[aI,evalOp,hy]at e
    | some u=>exact ⟨u,rfl⟩
   obtain ⟨u,hy⟩:=hev;have her:evalOp (real call loop) s.env s.sto (.len Bh y)=some (r,[])/\s'=s:=by
    simp only[aI]at e;split at e
    case h_3=>cases e
    case h_2 v' e' new' hev=>
     exfalso;simp only[evalOp]at hev
     repeat' split at hev
     all_goals first | (cases hev;done) | (simp at hev;done)
    case h_1 v' hev=>
     injection e with e;injection e with e1 e2;subst e1;subst e2;exact ⟨hev,rfl⟩
   obtain ⟨her,rfl⟩:=her;refine GY np h ho c1 hy ⟨λhS=> ?_,λhS=> ?_⟩ her
   ·subst hS;simp only at c2;split at c2
    ·assumption
    ·cases c2
   ·subst hS;simp only at c2;split at c2
    ·exact ⟨_,by assumption⟩
    ·cases c2
 ·rename_i c sz bytes x' y';split at hok
  case h_2=>cases hok
  case h_1 x y t t' hc1 hc2 hc3=>
   simp only[af,beq_iff_eq]at hok;obtain ⟨⟨⟨c1,c2⟩,c3⟩,c4⟩:=hok;subst c1;split at c4
   case h_2=>cases c4
   case h_1 el hu=>
    split at c4
    case h_2=>cases c4
    case h_1 i hi=>
     split at c4
     case h_2=>cases c4
     case h_1 z hz=>
      simp only[af,beq_iff_eq]at c4;obtain ⟨⟨⟨d1,d2⟩,d3⟩,d4⟩:=c4;obtain ⟨s1,s2⟩:=sz;simp only at d1 d2;subst d1;subst d2;subst d3;have hcc:c={ callee:= .builtin .append,args:= #[x,y],argTypes:= #[t,t] }:=by
        obtain ⟨q1,q2,q3⟩:=c;simp only at hc1 hc2 hc3;have e2:q2= #[x,y]:=Array.ext' hc2;have e3:q3= #[t,t]:=Array.ext' hc3;rw[hc1,e2,e3]
      subst hcc;cases hd:o.dst with
      | none=>rw[hd]at e;simp only[aI]at e;split at e<;>first | (rename_i q;cases q;done) | cases e
      | some tt=>
        rw[hd]at e;cases hx:ev s.env x' with
        | none=>simp[aI,hx]at e
        | some A=>
          cases hy:ev s.env y' with
          | none=>simp[aI,hx,hy]at e
          | some B=>exact tV h ho c2 c3 hu hi hz d4 (ht tt hd) hx hy e
 ·rename_i c g m raw ys;split at hok
  case h_2=>cases hok
  case h_1 f hc=>
   simp only[af,beq_iff_eq]at hok;obtain ⟨c1,c2⟩:=hok;subst c1;simp only[aI]at e;split at e
   case h_2=>cases e
   case h_1 as has=>exact xO hco h ho hc c2 has ht e
 ·rename_i c fx m raw ys;split at hok
  case h_2=>cases hok
  case h_1 x hc=>
   simp only[af]at hok;obtain ⟨c1,c2⟩:=hok;simp only[aI]at e;split at e
   case h_2=>cases e
   case h_1 g cap as hf has=>exact BW hco h ho hc c1 c2 hf has ht e
 ·rename_i c x g m raw ys;split at hok
  case h_2=>cases hok
  case h_1 f hc=>
   simp only[af,beq_iff_eq]at hok;obtain ⟨c1,c2⟩:=hok;subst c1;simp only[aI]at e;split at e
   case h_2=>cases e
   case h_1 s1 hu=>
    split at e
    case h_2=>cases e
    case h_1 as has=>
     obtain ⟨L2,m1,m2⟩:=ny (np:=np) h hu;exact aV.pre m2 (xO hco m1 ho hc c2 has ht e)
 ·rename_i c sz bytes x' y';split at hok
  case h_2=>cases hok
  case h_1 x y t t' hc1 hc2 hc3=>
   simp only[af,beq_iff_eq]at hok;obtain ⟨⟨⟨c1,c2⟩,c3⟩,c4⟩:=hok;subst c1;split at c4
   case h_2=>cases c4
   case h_1 el hu=>
    split at c4
    case h_2=>cases c4
    case h_1 i hi=>
     split at c4
     case h_2=>cases c4
     case h_1 z hz=>
      simp only[af,beq_iff_eq]at c4;obtain ⟨⟨⟨d1,d2⟩,d3⟩,d4⟩:=c4;obtain ⟨s1,s2⟩:=sz;simp only at d1 d2;subst d1;subst d2;subst d3;have hcc:c={ callee:= .builtin .append,args:= #[x,y],argTypes:= #[t,t] }:=by
        obtain ⟨q1,q2,q3⟩:=c;simp only at hc1 hc2 hc3;have e2:q2= #[x,y]:=Array.ext' hc2;have e3:q3= #[t,t]:=Array.ext' hc3;rw[hc1,e2,e3]
      subst hcc;cases hd:o.dst with
      | none=>rw[hd]at e;simp only[aI,sV]at e;(repeat' split at e)<;>first | contradiction | cases e
      | some tt=>
        rw[hd]at e;exact y_ h ho c2 c3 hu hi hz d4 (ht tt hd) e
 ·rename_i c sz bytes x' y';split at hok
  case h_2=>cases hok
  case h_1 x y t t' hc1 hc2 hc3=>
   simp only[af,beq_iff_eq]at hok;obtain ⟨⟨⟨c1,c2⟩,c3⟩,c4⟩:=hok;subst c1;split at c4
   case h_2=>cases c4
   case h_1 el hu=>
    split at c4
    case h_2=>cases c4
    case h_1 i hi=>
     split at c4
     case h_2=>cases c4
     case h_1 z hz=>
      simp only[af,beq_iff_eq]at c4;obtain ⟨⟨⟨d1,d2⟩,d3⟩,d4⟩:=c4;obtain ⟨s1,s2⟩:=sz;simp only at d1 d2;subst d1;subst d2;subst d3;have hcc:c={ callee:= .builtin .append,args:= #[x,y],argTypes:= #[t,t] }:=by
        obtain ⟨q1,q2,q3⟩:=c;simp only at hc1 hc2 hc3;have e2:q2= #[x,y]:=Array.ext' hc2;have e3:q3= #[t,t]:=Array.ext' hc3;rw[hc1,e2,e3]
      subst hcc
      replace e:=vP e
      cases hd:o.dst with
      | none=>rw[hd]at e;simp only[aI]at e;split at e<;>first | (rename_i q;cases q;done) | cases e
      | some tt=>
        rw[hd]at e;cases hx:ev s.env x' with
        | none=>simp[aI,hx]at e
        | some A=>
          cases hy:ev s.env y' with
          | none=>simp[aI,hx,hy]at e
          | some B=>exact tV h ho c2 c3 hu hi hz d4 (ht tt hd) hx hy e
 ·rename_i c x' y';split at hok
  case h_2=>cases hok
  case h_1 x y hc ha=>
   simp only[af]at hok;exact Dj (isMax:=true) h ho hc ha hok.1 hok.2 e
 ·rename_i c x' y';split at hok
  case h_2=>cases hok
  case h_1 x y hc ha=>
   simp only[af]at hok;exact Dj (isMax:=false) h ho hc ha hok.1 hok.2 e
 ·rename_i c sz x' y';split at hok
  case h_2=>cases hok
  case h_1 x y t t' hc1 hc2 hc3=>
   simp only[af]at hok;obtain ⟨⟨c2,c3⟩,c4⟩:=hok;split at c4
   case h_2=>cases c4
   case h_1 el hu=>
    split at c4
    case h_2=>cases c4
    case h_1 i hi=>
     simp only[af,beq_iff_eq]at c4;obtain ⟨d1,d2⟩:=c4;obtain ⟨s1,s2⟩:=sz;simp only at d1 d2;subst d1;subst d2;have hcc:c={ callee:= .builtin .copy,args:= #[x,y],argTypes:= #[t,t'] }:=by
      obtain ⟨q1,q2,q3⟩:=c;simp only at hc1 hc2 hc3;have e2:q2= #[x,y]:=Array.ext' hc2;have e3:q3= #[t,t']:=Array.ext' hc3;rw[hc1,e2,e3]
     subst hcc;exact D4 h ho c2 c3 hu hi e
 ·rename_i c x';split at hok
  case h_2=>cases hok
  case h_1 x t hc ha hat=>
   simp only[af]at hok;obtain ⟨c1,c2⟩:=hok;split at c2
   case h_2=>cases c2
   case h_1 e' hu=>exact D2 h ho hc ha hat hu c1 e
 ·rename_i c sz bytes agg zero x' y';split at hok
  case h_2=>cases hok
  case h_1 x y t t' hc ha hat=>
   simp only[af]at hok;obtain ⟨⟨⟨c1,c2⟩,c3⟩,c4⟩:=hok;split at c3
   case h_2=>cases c3
   case h_1 kn hun=>
    split at c4
    case h_2=>cases c4
    case h_1 el hu=>
     split at c4
     case h_2=>cases c4
     case h_1 i hi=>
      split at c4
      case h_2=>cases c4
      case h_1 z hz=>
        simp only[af,beq_iff_eq,decide_eq_true_eq]at c4;obtain ⟨⟨⟨⟨⟨d1,d2⟩,d3⟩,d4⟩,d5⟩,d6⟩:=c4;obtain ⟨sz1,sz2⟩:=sz;simp only at d1 d2;subst d1;subst d2;subst d3;have hcc:c={ callee:= .builtin .append,args:= #[x,y],argTypes:= #[t,t'] }:=by
          obtain ⟨q1,q2,q3⟩:=c;simp only at hc ha hat;have e2:q2= #[x,y]:=Array.ext' ha;have e3:q3= #[t,t']:=Array.ext' hat;rw[hc,e2,e3]
        subst hcc;cases hd:o.dst with
        | none=>rw[hd]at e;simp only[aI]at e;split at e<;>first | (rename_i q;cases q;done) | cases e
        | some tt=>
          rw[hd]at e;exact zk h ho c1 c2 hu hun hi hz d4 d5 d6 (ht tt hd) e
 ·simp only[aI,evalOp]at e;cases e
 ·cases hok
end
section
section
variable {P:Program} {call:cM} {loop:cN}
variable {s:St} {a:Act} {w:World} {L:Loc} {Z:Nat->Prop}
def Ph (ops:Array Oper):Option (Nat×Bool)->Option (Nat×Bool)->Bool
 | none,none=>true
 | some (j,w),some (t,w')=>w==w'&&(match ops[j]? with | some o=>o.dst==some t | none=>false)
 | _,_=>false
def vZ (P:Program) (np:Nat) (ops:Array Oper) (o:Oper) (v:a_):Bool:=
 o.dst==v.dst&&(match o.dst with | some t=>decide (t<np) | none=>true)&&Ph ops o.guard v.guard&&okV P o.op v.op
def qD (P:Program) (np:Nat) (ops:Array Oper):List Nat->List a_->Bool
 | [],[]=>true
 | i::is,v::vs=>(match ops[i]? with | some o=>vZ P np ops o v | none=>false)&&qD P np ops is vs
 | _,_=>false
theorem rT (h:RS s a w L Z) {ops:Array Oper} {o:Oper} {g:Option (Nat×Bool)} (hg:Ph ops o.guard g=true) {b:Bool} (e:wanted s.env g=some b):Region.wanted o (yielded ops a.tmps)=b:=by
 unfold Ph at hg;split at hg
 ·rename_i h1;simp only[wanted]at e;injection e with e;subst e;unfold Region.wanted;rw[h1]
 ·rename_i j w' t w'' h1;simp only[af,beq_iff_eq]at hg;obtain ⟨rfl,h2⟩:=hg;split at h2
  case h_2=>cases h2
  case h_1 oj hj=>
   have hd:oj.dst=some t:=by simpa using h2
   simp only[wanted]at e;unfold Region.wanted;rw[h1];simp only[yielded,hj,Option.bind_some,hd];obtain ⟨l1,l2⟩:=bF.1 h.env;split at e
   ·rename_i b' hb';injection e with e;have hlt:t<a.tmps.size:=by rw[<-Array.length_toList,<-l1];exact (aq.1 hb').1
    have hv:=l2 t _ (a.tmps[t]) hb' (by simp[hlt]);simp only[RV,RD]at hv;have hv':a.tmps[t]= .bool b':=by simpa using hv
    simp only[Array.getElem?_eq_getElem hlt,hv'];rw[<-e];cases w'<;>cases b'<;>rfl
   ·rename_i hb';injection e with e;have hlt:t<a.tmps.size:=by rw[<-Array.length_toList,<-l1];exact (aq.1 hb').1
    have hv:=l2 t _ (a.tmps[t]) hb' (by simp[hlt]);simp only[RV]at hv;simp only[Array.getElem?_eq_getElem hlt,hv,<-e];rfl
   ·cases e
 ·cases hg
theorem RS.bare (h:RS s a w L Z) (dst:Option Nat):RS ⟨dR s.env dst .bare,s.sto⟩ (a.put dst undef) w L Z:=
 h.put dst (by simp only[RV])
theorem qE {np:Nat} {ops:Array Oper} {o:Oper} {v:a_} {s':St} {rest:List a_} (hco:iy P call) (h:RS s a w L Z) (hok:vZ P np ops o v=true) (e:aY (real call loop) (v::rest) s=some s') (K:Act->World->Prop) (Q:Exit->Act->World->Prop)
  (hk:∀s1 a1 w1 L1 Z1,RS s1 a1 w1 L1 Z1->Tr np s.sto s1.sto w w1 L L1 Z Z1->aY (real call loop) rest s1=some s'->K a1 w1):
  if Region.wanted o (yielded ops a.tmps)then o.wp P a w K Q\/(o.asks P a w/\LetsOut Q)else K (a.put o.dst undef) w:=by
 simp only[vZ,af,beq_iff_eq]at hok;obtain ⟨⟨⟨h1,h2⟩,h3⟩,h4⟩:=hok;simp only[aY]at e;split at e
 ·rename_i hw;rw[rT h h3 hw];simp only[if_true];left;split at e
  case h_2=>cases e
  case h_1 u s1 hd=>
   rw[<-h1]at hd e;refine Jd (np:=np) hco h h4 (λt ht=>by rw[ht]at h2;simpa using h2) hd K Q λu' w1 L1 Z1 k1 k2 k3=> ?_
   exact hk ⟨dR s1.env o.dst u,s1.sto⟩ _ _ L1 Z1 (k1.put o.dst k3) k2 e
 ·rename_i hw;rw[rT h h3 hw];simp only[Bool.false_eq_true,if_false];rw[<-h1]at e;exact hk _ _ _ L Z (h.bare o.dst) (Tr.refl _ _ _ _ _) e
 ·cases e
theorem kD {np:Nat} {ops:Array Oper} (hco:iy P call):∀{is:List Nat} {vs:List a_} {s s':St} {a:Act} {w:World} {L:Loc} {Z:Nat->Prop},qD P np ops is vs=true->RS s a w L Z->aY (real call loop) vs s=some s'->
  ∀(Q:Exit->Act->World->Prop),(∀a' w' L' Z',RS s' a' w' L' Z'->Tr np s.sto s'.sto w w' L L' Z Z'->Q .normal a' w')->wpOps P ops Q is a w
 | [],[],s,s',a,w,L,Z,_,h,e,Q,hQ=>by
  simp only[aY]at e;injection e with e;subst e;simp only[wpOps];exact hQ a w L Z h (Tr.refl _ _ _ _ _)
 | i::is,v::vs,s,s',a,w,L,Z,hok,h,e,Q,hQ=>by
  simp only[qD,af]at hok;obtain ⟨hok1,hok2⟩:=hok;split at hok1
  case h_2=>cases hok1
  case h_1 o ho=>
   simp only[wpOps,ho];exact qE hco h hok1 e _ Q λs1 a1 w1 L1 Z1 k1 k2 k3=>kD hco hok2 k1 k3 Q λa' w' L' Z' m1 m2=>hQ a' w' L' Z' m1 (k2.trans m2)
 | [],_::_,_,_,_,_,_,_,hok,_,_,_,_=>by simp[qD]at hok
 | _::_,[],_,_,_,_,_,_,hok,_,_,_,_=>by simp[qD]at hok
theorem xP {live:List Nat}:∀{l:List AV} {n i:Nat},(rK live n l)[i]? =(l[i]?).map λa=>if live.contains (n+i)then a else .undef
 | [],n,i=>by simp[rK]
 | a::l,n,0=>by simp[rK]
 | a::l,n,i+1=>by
  simp only[rK,List.getElem?_cons_succ];rw[xP,show n+1+i=n+(i+1) by omega]
theorem xQ {live:List Nat}:∀{l:List AV} {n:Nat},(rK live n l).length=l.length
 | [],n=>rfl
 | a::l,n=>by simp[rK,xQ]
theorem xR {live:List Nat}:∀{l:br} {n i:Nat},(tR live n l)[i]? =(l[i]?).map λa=>if live.contains (n+i)then a else []
 | [],n,i=>by simp[tR]
 | a::l,n,0=>by simp[tR]
 | a::l,n,i+1=>by
  simp only[tR,List.getElem?_cons_succ];rw[xR,show n+1+i=n+(i+1) by omega]
theorem oS {le ls:List Nat} {s:St} {r:Id}:(mask le ls s).sto.get r=if ls.contains r.1 then (s.sto.get r).map (·.forget λr=> !ls.contains r.1)else none:=by
 show ((tR ls 0 s.sto).forget _).get r=_;rw[kU];have:(tR ls 0 s.sto).get r=if ls.contains r.1 then s.sto.get r else none:=by
  unfold br.get;rw[xR];cases s.sto[r.1]? with
  | none=>simp
  | some l=>
   simp only[Option.map_some,Nat.zero_add];by_cases hc:ls.contains r.1=true
   ·simp only[hc,if_true]
   ·simp only[hc,if_false,Bool.false_eq_true];simp
 rw[this];split<;>rfl
theorem RS.mask (h:RS s a w L Z) (np:Nat) (le ls:List Nat):RS (mask le ls s) a w L Z/\Tr np s.sto (mask le ls s).sto w w L L Z Z:=by
 have hsome:∀q,((Vi.mask le ls s).sto.get q).isSome->ls.contains q.1=true/\(s.sto.get q).isSome:=λq hq=>by
  rw[oS]at hq;split at hq
  ·rename_i hc;exact ⟨hc,by simpa using hq⟩
  ·cases hq
 have hsame:∀q:Id,ls.contains q.1=true->Same (aH w Z L s.sto) (aH w Z L (Vi.mask le ls s).sto) q:=λq hq=>by
  refine ⟨rfl,λk=> ?_,λsz xs k=>⟨xs,?_,rfl⟩,λ_ _ _=>rfl⟩
  ·show ((Vi.mask le ls s).sto.get q).isSome;rw[oS,if_pos hq];simpa using k
  ·show ((Vi.mask le ls s).sto.get q).bind Obj.rw=_;have k':(s.sto.get q).bind Obj.rw=some (sz,xs):=k;rw[oS,if_pos hq];cases ho:s.sto.get q with
   | none=>simp[ho]at k'
   | some o=>simp[ho]at k';simp[Obj.kB,k']
 have hfrom:∀q o,(Vi.mask le ls s).sto.get q=some o->∃o',s.sto.get q=some o'/\o=o'.forget λr=> !ls.contains r.1:=λq o hq=>by
  rw[oS]at hq;split at hq
  ·cases ho:s.sto.get q with
   | none=>simp[ho]at hq
   | some o'=>rw[ho]at hq;simp only[Option.map_some,Option.some.injEq]at hq;exact ⟨o',rfl,hq.symm⟩
  ·cases hq
 have hlives:∀b,aU (Vi.mask le ls s).sto L b->aU s.sto L b:=λb hb=>by
  obtain ⟨q,o,h1,h2⟩:=hb;obtain ⟨o',ho',rfl⟩:=hfrom q o h1;exact ⟨q,o',ho',Obj.dn h2⟩
 refine ⟨⟨h.defers,?_,?_,λq q' b o o' hq hq' hb hb'=>by
  obtain ⟨o2,h1,rfl⟩:=hfrom q o hq;obtain ⟨o3,h2,rfl⟩:=hfrom q' o' hq';exact h.injH q q' b o2 o3 h1 h2 (Obj.dn hb) (Obj.dn hb'),λb hb=>⟨(h.dis b hb).1,λhl=>(h.dis b hb).2 (hlives b hl)⟩⟩,
  ⟨rfl,rfl,rfl,Nat.le_refl _,λ_ _ _=>rfl,λb hb=> .inl (hlives b hb),λ_ h=>h,λ_ h=> .inl h,λ_ _=>rfl,λq _ hq=>⟨(hsome q hq).2,hsame q (hsome q hq).1⟩⟩⟩
 ·have henv:di (aH w Z L s.sto) (rK le 0 s.env) a.tmps.toList:=by
   have:=h.env;rw[bF]at this |-;refine ⟨by rw[xQ];exact this.1,λi x v hx hv=> ?_⟩;rw[xP]at hx;cases hy:s.env[i]? with
   | none=>simp[hy]at hx
   | some y=>
    simp[hy]at hx;split at hx
    ·subst hx;exact this.2 i y v hy hv
    ·subst hx;simp only[RV]
  refine cu (c:=aH w Z L s.sto) (c':=aH w Z L (Vi.mask le ls s).sto) (jV.refl _ _) _ _ (λq hq=>hsame q ?_) (fo (p:=λr=> !ls.contains r.1) _ _ henv);have:=dJ _ q hq;simpa using this
 ·intro q ob hq;obtain ⟨h1,h2⟩:=hsome q (by simp[hq]);obtain ⟨o,ho⟩:=Option.isSome_iff_exists.1 h2;rw[oS,if_pos h1,ho]at hq;simp at hq;subst hq;refine i9 (c:=aH w Z L s.sto) (c':=aH w Z L (Vi.mask le ls s).sto) (jV.refl _ _) rfl rfl (λ_ _=>rfl) (λk hk=>hsame k ?_) (kC (h.obj q o ho));have:=Obj.iF o k hk;simpa using this
theorem uN {t:Nat} {x:AV} (h:RS s a w L Z) (ht:t<a.tmps.size) (hx:RV (aH w Z L s.sto) x a.tmps[t]):RS ⟨s.env.set t x,s.sto⟩ a w L Z:=by
 have hput:=h.put (some t) hx;have hsame:a.put (some t) a.tmps[t]=a:=by
  simp only[Act.put];have:a.tmps.setIfInBounds t a.tmps[t]=a.tmps:=by
   apply Array.ext';rw[Array.toList_setIfInBounds];apply List.ext_getElem?;intro i;by_cases hi:t=i
   ·subst hi;rw[List.getElem?_set_self (by simpa using ht)];simp[ht]
   ·rw[List.getElem?_set_ne hi]
  rw[this]
 rw[hsame]at hput;exact hput
theorem v5 {t:Nat} {x:AV} (h:RS s a w L Z) (hx:s.env[t]? =some x):∃ht:t<a.tmps.size,RV (aH w Z L s.sto) x a.tmps[t]:=by
 obtain ⟨l1,l2⟩:=bF.1 h.env;have hlt:t<a.tmps.size:=by rw[<-Array.length_toList,<-l1];exact (aq.1 hx).1
 exact ⟨hlt,l2 t _ (a.tmps[t]) hx (by simp[hlt])⟩
theorem qF {c:Cx} {t:Id} {sz:gG} {own:Bool} {v:Value} (h0:c.L t=none) (h1:c.obj t=some (rowOf own sz [])) (hv:∃A,v= .slice A 0 0):RV c (.arr t sz none false) v:=by
 obtain ⟨A,hA⟩:=hv;simp only[RV];exact ⟨A,0,0,[],hA,⟨Nat.le_refl _,Nat.zero_le _⟩,λe=>(by cases e),by rw[h1];exact Gi,λ_=>rfl,λ_ _ e=>(by cases e),λ_=>rfl,λb hb=>by rw[h0]at hb;cases hb⟩
theorem cj {np:Nat}:∀{ps:List (Nat×Option Nat×Nat×gG×Bool)} {s s':St} {L:Loc},(∀p∈ps,p.2.2.1<np)->RS s a w L Z->dG (real call loop) ps s=some s'->∃L',RS s' a w L' Z/\Tr np s.sto s'.sto w w L L' Z Z
 | [],s,s',L,_,h,e=>by simp only[dG]at e;injection e with e;subst e;exact ⟨L,h,Tr.refl _ _ _ _ _⟩
 | (t,
    none,slot,sz,own)::ps,s,s',L,hp,h,e=>by
  have hp':∀p∈ps,p.2.2.1<np:=λp hm=>hp p (by simp[hm])
  have hslot:slot<np:=hp (t,none,slot,sz,own) (by simp);simp only[dG]at e;split at e
  ·rename_i he;split at e
   case h_2=>cases e
   case h_1 s2 hl=>
    obtain ⟨L',k1,k2,k3,k4,_⟩:=uK (np:=np) h hl hslot (λc=>oQ c);have henv:=(eD hl).2;obtain ⟨ht,hv⟩:=v5 h he;simp only[RV]at hv;have hput:=uN (t:=t) k1 ht (qF (c:=aH w Z L' s2.sto) (own:=own) (sz:=sz) k3 k4 hv);obtain ⟨L2,m1,m2⟩:=cj hp' hput e;exact ⟨L2,m1,k2.trans m2⟩
  ·rename_i r sz2 g u he;split at e
   ·split at e
    ·rename_i sz' xs ho;split at e
     case h_2=>cases e
     case h_1 hf=>
      obtain ⟨L',k1,k2,_⟩:=RS.Gh np h ho hf;obtain ⟨L2,m1,m2⟩:=cj hp' k1 e;exact ⟨L2,m1,k2.trans m2⟩
    ·exact cj hp' h e
   ·exact cj hp' h e
  ·exact cj hp' h e
 | (t,
    some c,
        slot,sz,own)::ps,s,s',L,hp,h,e=>by
  have hp':∀p∈ps,p.2.2.1<np:=λp hm=>hp p (by simp[hm])
  have hslot:slot<np:=hp (t,some c,slot,sz,own) (by simp);simp only[dG]at e;split at e
  case h_2=>cases e
  case h_1 r b he=>
   split at e
   case h_2=>cases e
   case h_1 cs hr=>
    split at e
    ·rename_i hc;split at e
     case h_2=>cases e
     case h_1 s2 hl=>
      obtain ⟨L',k1,k2,k3,k4,k5⟩:=uK (np:=np) h hl hslot (λc=>oQ c);have hlt:(slot,0).1=slot:=rfl;have hrt:r.1≠slot:=λe2=>by
       have:=gq (eD hl).1 r e2;rw[hr]at this;cases this
      have hr2:s2.sto.get r=some (.box cs):=by rw[dH (eD hl).1,if_neg hrt];exact hr
      obtain ⟨L3,n1,n2⟩:=RS.Oe (y:= .arr (slot,0) sz none false) np k1 hr2 hc (λv hv=>by
       simp only[RV]at hv;exact qF (c:=aH w Z L' s2.sto) (own:=own) k3 k4 hv)
      obtain ⟨L2,m1,m2⟩:=cj hp' n1 e;exact ⟨L2,m1,(k2.trans n2).trans m2⟩
    ·rename_i q sz2 g u hc;split at e
     ·split at e
      ·rename_i sz' xs ho;split at e
       case h_2=>cases e
       case h_1 hf=>
        obtain ⟨L',k1,k2,_⟩:=RS.Gh np h ho hf;obtain ⟨L2,m1,m2⟩:=cj hp' k1 e;exact ⟨L2,m1,k2.trans m2⟩
      ·exact cj hp' h e
     ·exact cj hp' h e
    ·exact cj hp' h e
end
end
section
section
variable {P:Program} {call:cM} {loop:cN}
variable {s:St} {a:Act} {w:World} {L:Loc} {Z:Nat->Prop}
def gN:lZ->Bool
 | .emptyRow=>true
 | .move _ | .pick _ _ _ | .load _ _ _ | .bin _ _ _ _ | .eqNil _ _ | .neg _ | .not _ | .conv _ _ | .mkfn _ _ | .slice _ _ _ _ _ _ | .fieldAddr _ _ | .field _ _ _ _ | .indexAddr _ _ _ | .index _ _ | .extract _ _ | .len _ _ | .build _ _=>true
 | _=>false
def sZ:lZ->Bool
 | .call _ m raw _=> !raw&&(m== .pure || m== .bor)
 | .callv _ m raw _=> !raw&&(m== .pure || m== .bor)
 | op=>gN op
def eY:VX->List Nat
 | .tmp t=>[t]
 | .home t=>[t]
 | .const _=>[]
def OJ:Option VX->List Nat
 | some x=>eY x
 | none=>[]
def zQ:lZ->List Nat
 | .move x=>eY x
 | .pick c x y=>eY c++eY x++eY y
 | .load _ _ x=>eY x
 | .bin _ _ x y=>eY x++eY y
 | .neg x=>eY x
 | .eqNil _ x=>eY x
 | .not x=>eY x
 | .conv _ x=>eY x
 | .mkfn _ xs=>xs.flatMap eY
 | .slice _ _ x lo hi mx=>eY x++OJ lo++OJ hi++OJ mx
 | .fieldAddr _ x=>eY x
 | .field _ _ _ x=>eY x
 | .indexAddr _ x i=>eY x++eY i
 | .index x i=>eY x++eY i
 | .extract x _=>eY x
 | .len _ x=>eY x
 | .build _ ps=>ps.flatMap λp=>eY p.2.2
 | .call _ _ _ xs=>xs.flatMap eY
 | .callv f _ _ xs=>eY f++xs.flatMap eY
 | .box x=>eY x
 | .buildRow _ _ _ _ ps=>ps.flatMap λp=>eY p.2
 | .storeP _ a x=>eY a++eY x
 | .storeR _ a x=>eY a++eY x
 | .appendE _ _ x y=>eY x++eY y
 | .append _ _ x y=>eY x++eY y
 | .appendO _ _ x y=>eY x++eY y
 | .appendH _ _ x y=>eY x++eY y
 | .buildH _ _ x=>eY x
 | .lendF x=>eY x
 | _=>[]
def nE (v:a_):List Nat:=(match v.guard with | some (t,_)=>[t] | none=>[])++zQ v.op
def Like (e e':List AV) (ts:List Nat):Prop:=∀t∈ts,e'[t]? =e[t]?
theorem Like.app {e e':List AV} {xs ys:List Nat} (h:Like e e' (xs++ys)):Like e e' xs/\Like e e' ys:=
 ⟨λt ht=>h t (List.mem_append.2 (.inl ht)),λt ht=>h t (List.mem_append.2 (.inr ht))⟩
theorem bG {e e':List AV} {x:VX} (h:Like e e' (eY x)):ev e' x=ev e x:=by
 cases x with
 | tmp t=>exact h t (by simp[eY])
 | const a=>rfl
 | home t=>simp only[ev,h t (by simp[eY])]
theorem kV {e e':List AV}:∀{xs:List VX},Like e e' (xs.flatMap eY)->wT e' xs=wT e xs
 | [],_=>rfl
 | x::xs,h=>by
  rw[List.flatMap_cons]at h;obtain ⟨h1,h2⟩:=h.app;simp only[wT,bG h1,kV h2]
theorem v7 {e e':List AV} {x:Option VX} (h:Like e e' (OJ x)):Dc e' x=Dc e x:=by
 cases x with
 | none=>rfl
 | some x=>simp only[Dc,bG (show Like e e' (eY x)from h)]
theorem rV {e e':List AV}:∀{xs:List (Nat×Nat×VX)},Like e e' (xs.flatMap λp=>eY p.2.2)->jw e' xs=jw e xs
 | [],_=>rfl
 | (i,n,x)::xs,h=>by
  rw[List.flatMap_cons]at h;obtain ⟨h1,h2⟩:=h.app;simp only[jw,bG (show Like e e' (eY x)from h1),rV h2]
theorem jD {o:aJ} {e e':List AV} {sto:br} {op:lZ} (hq:gN op=true) (h:Like e e' (zQ op)):evalOp o e' sto op=evalOp o e sto op:=by
 cases op<;>first
  | (simp[gN]at hq;done)
  | (simp only[evalOp,bG (show Like e e' (eY _)from h)];done)
  | (simp only[evalOp,kV (show Like e e' _ from h)];done)
  | rfl
  | (simp only[evalOp,rV (show Like e e' _ from h)];done)
  | (have h1:=Like.app h;simp only[evalOp,bG h1.1,bG h1.2];done)
  | (have h1:=Like.app h;have h2:=Like.app h1.1;simp only[evalOp,bG h1.2,bG h2.1,bG h2.2];done)
  | (have h1:=Like.app h;have h2:=Like.app h1.1;have h3:=Like.app h2.1;simp only[evalOp,v7 h1.2,v7 h2.2,v7 h3.2,bG h3.1];done)
theorem s6 {o:aJ} {e:List AV} {sto:br} {op:lZ} {v:AV} {new:List (Option Obj)} (hq:gN op=true) (h:evalOp o e sto op=some (v,new)):new=[]:=by
 cases op<;>first
  | (simp[gN]at hq;done)
  | (
   simp only[evalOp]at h
   repeat' split at h
   all_goals first | (cases h;done) | (injection h with h;injection h with h1 h2;exact h2.symm))
theorem iz {o:aJ} {s:St} {dst:Option Nat} {op:lZ} (hq:gN op=true):aI o s dst op=match evalOp o s.env s.sto op with
  | some (v,[])=>some (v,s)
  | some (v,e::new)=>match dst with
   | some t=>match s.lay t (e::new)with
    | some s=>some (v.map λr=>if r=(0,0)then (t,0)else r,s)
    | none=>none
   | none=>none
  | none=>none:=by
 cases op<;>first
  | (simp[gN]at hq;done)
  | rfl
def oU (s s':br):Prop:=∀r ob,s.get r=some ob->s'.get r=some ob
theorem oU.refl (s:br):oU s s:=λ_ _ h=>h
theorem kW {o:aJ} {s s':br} (hs:oU s s') {a:AV} {xs:List D} (h:content o s a=some xs):content o s' a=some xs:=by
 unfold content at h |-;split at h
 ·exact h
 ·exact h
 ·split at h
  ·rename_i hg;simp only[hs _ _ hg];exact h
  ·cases h
 ·cases h
theorem oV {o:aJ} {s s':br} (hs:oU s s') {r:Id} {sz:gG} {g:Option (Int×Int)} {u:Bool} {xs:List D} (h:eV o s (.arr r sz g u)=some xs):eV o s' (.arr r sz g u)=some xs:=by
 simp only[eV]at h |-;cases ho:s.get r with
 | none=>
  rw[ho]at h;simp only[content,ho]at h;cases h
 | some ob=>
  rw[hs _ _ ho];rw[ho]at h;cases ob with
  | orows _ _=>exact h
  | hrows _ _ _ _ _ _=>exact h
  | box _=>simp only[content,ho]at h;cases h
  | gone _ _=>simp only[content,ho]at h;cases h
  | rows _ _=>exact kW hs h
theorem Og {s s':br} (hs:oU s s') {r:Id} {p:gG×List D} (h:s.rd r=some p):s'.rd r=some p:=by
 unfold br.rd at h |-;split at h
 ·rename_i hg;rw[hs _ _ hg];exact h
 ·cases h
theorem D6 {o:aJ} {s s':br} (hs:oU s s') {agg:Bool} {n:Nat} {a v:AV} (h:loadAt o s agg n a=some v):loadAt o s' agg n a=some v:=by
 unfold loadAt at h |-;split at h
 ·split at h
  ·rename_i hg;simp only[hs _ _ hg];exact h
  ·cases h
 ·split at h
  ·rename_i hg;simp only[Og hs hg];exact h
  ·cases h
 ·exact h
 ·cases h
theorem BX {o:aJ} {s s':br} (hs:oU s s') {sz:gG} {x v:AV} {lo hi mx:Option Int} (h:sliceAt o s sz x lo hi mx=some v):sliceAt o s' sz x lo hi mx=some v:=by
 unfold sliceAt at h |-;cases mx with
 | some m=>
  simp only at h |-;cases hc:content o s x with
  | none=>simp[hc]at h
  | some xs=>rw[kW hs hc];rw[hc]at h;exact h
 | none=>
  simp only at h |-;split at h
  ·exact h
  ·exact h
  ·split at h
   ·cases h
   ·rename_i hc;simp only[oV hs hc];exact h
  ·cases h
mutual
theorem Je {o:aJ} {s s':br} (hs:oU s s'):∀(a:AV) {v:AV},snap o s a=some v->snap o s' a=some v
 | .emp,v,h=>h
 | .arr r sz g u,v,h=>by
  simp only[snap]at h |-;cases ho:s.get r with
  | none=>
   rw[ho]at h;simp only[content,ho]at h;cases h
  | some ob=>
   rw[hs _ _ ho];rw[ho]at h;cases ob with
   | orows _ _=>exact h
   | box _=>simp only[content,ho]at h;cases h
   | gone _ _=>simp only[content,ho]at h;cases h
   | hrows _ _ _ _ _ _=>simp only[content,ho]at h;cases h
   | rows _ _=>
    simp only at h |-;split at h
    ·rename_i hg;rw[kW hs hg];exact h
    ·cases h
 | .agg cs,v,h=>by
  simp only[snap]at h |-;split at h
  ·rename_i hg;rw[jE hs cs hg];exact h
  ·cases h
 | .undef,v,h=>h
 | .bare,v,h=>h
 | .d _,v,h=>h
 | .tup _,v,h=>h
 | .nilp,v,h=>h
 | .ptr _ _,v,h=>h
 | .prow _ _ _ _,v,h=>h
 | .sp _ _,v,h=>h
 | .fn _ _,v,h=>h
theorem jE {o:aJ} {s s':br} (hs:oU s s'):∀(as:List AV) {vs:List AV},jh o s as=some vs->jh o s' as=some vs
 | [],vs,h=>h
 | a::as,vs,h=>by
  simp only[jh]at h |-;split at h
  case h_2=>cases h
  case h_1 x hx=>
   rw[Je hs a hx];simp only;split at h
   case h_2=>cases h
   case h_1 xs hxs=>rw[jE hs as hxs];exact h
end
theorem D7 {o:aJ} {e:List AV} {s s':br} (hs:oU s s') {op:lZ} (hq:gN op=true) {r:AV×List (Option Obj)} (h:evalOp o e s op=some r):evalOp o e s' op=some r:=by
 cases op<;>first
  | (simp[gN]at hq;done)
  | exact h
  | skip
 case load agg n a=>
  simp only[evalOp]at h |-;cases h1:ev e a with
  | none=>simp[h1]at h
  | some p=>
   simp only[h1]at h |-;cases h2:loadAt o s agg n p with
   | none=>simp[h2]at h
   | some v=>rw[D6 hs h2];rw[h2]at h;exact h
 case conv c x=>
  simp only[evalOp]at h |-;cases h1:ev e x with
  | none=>simp[h1]at h
  | some a=>
   simp only[h1]at h |-;cases c with
   | int k=>cases a<;>first | exact h | (rename_i q;cases q<;>exact h)
   | str=>cases a<;>first | exact h | (rename_i q;cases q<;>exact h)
   | bytesToStr=>
    cases h2:content o s a with
    | none=>simp[h2]at h
    | some xs=>simp only[kW hs h2];simp only[h2]at h;exact h
 case indexAddr sz x i=>
  simp only[evalOp]at h |-;split at h
  ·exact h
  ·split at h
   ·rename_i hc;simp only[oV hs hc];exact h
   ·cases h
  ·cases h
 case len Bh x=>
  simp only[evalOp]at h |-;split at h
  case h_2=>cases h
  case h_1 a h1=>
   split at h
   ·cases h
   ·split at h
    ·exact h
    ·exact h
    ·exact h
    ·split at h
     ·exact h
     ·split at h
      ·rename_i hc;simp only[oV hs hc];exact h
      ·cases h
    ·cases h
 case slice isStr sz x lo hi mx=>
  simp only[evalOp]at h |-;split at h
  case h_2=>cases h
  case h_1 x lo hi mx h1 h2 h3 h4=>
   split at h
   case h_2=>cases h
   case h_1 lo hi mx h5 h6 h7=>
    split at h
    ·exact h
    ·split at h
     ·rename_i hv;simp only[BX hs hv];exact h
     ·cases h
    ·cases h
theorem iG {s:br} {n:Nat}:reach s n [] []=some []:=by cases n<;>rfl
theorem v8 {f:FuncId} {m:kP} {as:List AV} {dst:Option Nat} {s s':St} {v:AV} (hm:(m== .pure || m== .bor)=true) (e:cX (real call loop) f m false as dst s=some (v,s')):
  s'=s/\∀env sto',oU s.sto sto'->cX (real call loop) f m false as dst ⟨env,sto'⟩=some (v,⟨env,sto'⟩):=by
 cases m with
 | frz=>simp at hm
 | ref=>simp at hm
 | bor=>
  simp only[cX]at e |-;split at e
  ·cases e
  rename_i as' h1;split at e
  ·cases e
  rename_i h2;split at e
  ·cases e
  rename_i c h3;split at e
  case h_2=>cases e
  case h_1 h4=>
   injection e with e;injection e with e1 e2;subst e1;subst e2;refine ⟨rfl,λenv sto' hle=> ?_⟩;simp only[jE hle _ h1,h2,h3,h4]
 | pure=>
  simp only[cX]at e |-;split at e
  ·cases e
  rename_i hp;have hr:AV.bE as=[]:=by simpa using hp
  simp only[handed]at e |-;split at e
  ·cases e
  rename_i as' s2 hsn;split at hsn
  case h_2=>cases hsn
  case h_1 as'' hsn'=>
   injection hsn with hsn;injection hsn with q1 q2;subst q1;subst q2;have hr':=jq as _ hr hsn';simp only[hr',iG,List.map_nil]at e;split at e
   ·cases e
   rename_i c hc;split at e
   ·cases e
   rename_i sto hwb;have hpars:c.pars=[]/\sto=s.sto:=by
    cases hcp:c.pars with
    | nil=>rw[hcp]at hwb;simp only[fQ]at hwb;injection hwb with hwb;exact ⟨rfl,hwb.symm⟩
    | cons x xs=>rw[hcp]at hwb;simp[fQ]at hwb
   obtain ⟨hpars,rfl⟩:=hpars;simp only[hpars,St.buried,fX]at e;split at e
   ·rename_i hX;injection e with e;injection e with e1 e2;subst e1;subst e2;refine ⟨rfl,λenv sto' hle=> ?_⟩;simp only[hp,jE hle _ hsn',hr',iG,List.map_nil,hc,hpars,fQ,St.buried,fX,hX]
   ·simp at e
def dM (o:aJ) (v:a_) (s:St):Option St:=match wanted s.env v.guard with
 | some true=>match aI o s v.dst v.op with
  | some (u,s)=>some ⟨dR s.env v.dst u,s.sto⟩
  | none=>none
 | some false=>some ⟨dR s.env v.dst .bare,s.sto⟩
 | none=>none
theorem bO {o:aJ} {v:a_} {l:List a_} {s:St}:aY o (v::l) s=match dM o v s with | some s=>aY o l s | none=>none:=by
 cases h1:wanted s.env v.guard with
 | none=>simp only[aY,dM,h1]
 | some b=>
  cases b with
  | false=>simp only[aY,dM,h1]
  | true=>
   cases h2:aI o s v.dst v.op with
   | none=>simp only[aY,dM,h1,h2]
   | some p=>obtain ⟨u,s1⟩:=p;simp only[aY,dM,h1,h2]
theorem eZ {o:aJ} {v:a_} {s:St}:aY o [v] s=dM o v s:=by
 rw[bO];cases dM o v s<;>rfl
theorem i_ {o:aJ}:∀{l m:List a_} {s:St},aY o (l++m) s=match aY o l s with | some s=>aY o m s | none=>none
 | [],m,s=>rfl
 | v::l,m,s=>by
  rw[List.cons_append,bO,bO];cases dM o v s with
  | none=>rfl
  | some s1=>exact i_
theorem qG {v:a_} {s s':St} (hst:sZ v.op=true) (e:dM (real call loop) v s=some s'):
  ∃u,s'=⟨dR s.env v.dst u,s.sto⟩/\∀env sto',Like s.env env (nE v)->oU s.sto sto'->dM (real call loop) v ⟨env,sto'⟩=some ⟨dR env v.dst u,sto'⟩:=by
 have hw:∀{env},Like s.env env (nE v)->wanted env v.guard=wanted s.env v.guard:=by
  intro env hl;obtain ⟨h1,_⟩:=hl.app;cases hg:v.guard with
  | none=>rfl
  | some g=>
   obtain ⟨t,b⟩:=g;rw[hg]at h1;simp only[wanted,h1 t (by simp)]
 unfold dM at e;split at e
 ·rename_i hwt;have key:∃u,aI (real call loop) s v.dst v.op=some (u,s)/\∀env sto',Like s.env env (nE v)->oU s.sto sto'->aI (real call loop) ⟨env,sto'⟩ v.dst v.op=some (u,⟨env,sto'⟩):=by
   split at e
   case h_2=>cases e
   case h_1 u s1 hd=>
    have quiet:gN v.op=true->s1=s/\∀env sto',Like s.env env (nE v)->oU s.sto sto'->aI (real call loop) ⟨env,sto'⟩ v.dst v.op=some (u,⟨env,sto'⟩):=by
     intro hq;rw[iz hq]at hd;split at hd
     case h_3=>cases hd
     case h_2 u' e' new' hev=>have:=s6 hq hev;cases this
     case h_1 u' hev=>
      injection hd with hd;injection hd with q1 q2;subst q1;subst q2;refine ⟨rfl,λenv sto' hl hle=> ?_⟩;rw[iz hq];simp only[jD hq (hl.app).2,D7 hle hq hev]
    cases hop:v.op with
    | call f m raw xs=>
     rw[hop]at hst hd;simp only[sZ,af,Bool.not_eq_true']at hst;obtain ⟨hraw,hm⟩:=hst;subst hraw;simp only[aI]at hd;split at hd
     case h_2=>cases hd
     case h_1 as has=>
      obtain ⟨h1,h2⟩:=v8 hm hd;refine ⟨u,by rw[hop]at*;simp only[aI,has];rw[<-h1];rw[h1];rw[h1]at hd;exact hd,λenv sto' hl hle=> ?_⟩;have hl2:=(hl.app).2;rw[hop]at hl2;simp only[aI,kV (show Like s.env env _ from hl2),has];exact h2 env sto' hle
    | callv f m raw xs=>
     rw[hop]at hst hd;simp only[sZ,af,Bool.not_eq_true']at hst;obtain ⟨hraw,hm⟩:=hst;subst hraw;simp only[aI]at hd;split at hd
     case h_2=>cases hd
     case h_1 g cap as hf has=>
      obtain ⟨h1,h2⟩:=v8 hm hd;refine ⟨u,by rw[h1]at hd;simp only[aI,hf,has];exact hd,λenv sto' hl hle=> ?_⟩;have hl2:=(hl.app).2;rw[hop]at hl2;obtain ⟨hl3,hl4⟩:=Like.app (show Like s.env env (eY f++xs.flatMap eY)from hl2);simp only[aI,bG hl3,kV hl4,hf,has];exact h2 env sto' hle
    | _=>
     rw[hop]at hst;obtain ⟨h1,h2⟩:=quiet (by rw[hop];exact hst);rw[hop]at hd h2;exact ⟨u,by rw[h1]at hd;exact hd,h2⟩
  obtain ⟨u,k1,k2⟩:=key;rw[k1]at e;injection e with e;refine ⟨u,e.symm,λenv sto' hl hle=> ?_⟩;unfold dM;rw[hw hl,hwt];simp only[k2 env sto' hl hle]
 ·rename_i hwt;injection e with e;refine ⟨.bare,e.symm,λenv sto' hl hle=> ?_⟩;unfold dM;rw[hw hl,hwt]
 ·cases e
end
end
end Go.Vi
