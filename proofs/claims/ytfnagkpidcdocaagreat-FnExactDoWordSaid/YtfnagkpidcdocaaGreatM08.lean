import Derived.Test.YtfnagkpidcdocaaGreatM07
import Derived.Orders
set_option linter.all false
namespace Go.Vi
open Go Go.RowKit
section
variable {P:Program} {call:dh} {loop:di}
variable {s:St} {a:Act} {w:World} {L:Loc} {Z:Nat->Prop}
theorem PZ {u:AV} {p:Bool} (h:u= .d (.bool p)):u.KC=true:=by rw[h];rfl
theorem JY {o:aM} {s:St}:∀{l:List AV} {xs:List D},pX l=some xs->∃l',BT o s l=some (l',s)/\pX l'=some xs:=by
 have J:∀{l:List AV} {xs:List D},dL l=some xs->BT o s l=some (l,s):=by
  intro l;induction l with
  | nil=>intro xs _;rfl
  | cons a l j=>
   intro xs h;cases a<;>first
    | (simp[dL]at h;done)
    | (
      simp only[dL]at h;split at h
      · rename_i ys E;simp only[BT,fz,j E]
      cases h)
 intro l;induction l with
 | nil=>intro xs h;exact ⟨[],rfl,h⟩
 | cons a l j=>
  intro xs h;simp only[pX]at h;split at h
  case h_2=>cases h
  rename_i x e;split at h
  case h_2=>cases h
  rename_i ys E;obtain ⟨l',M,O⟩:=j E;have S:fz o s a=some (a,s):=by
   cases a<;>first
     | (simp[JO]at e;done)
     | rfl
     | (
       simp only[JO]at e;split at e
       ·rename_i ds I;simp only[fz,J I]
       cases e)
  refine ⟨a::l',by simp only[BT,S,M],?_⟩;simp only[pX,e,O];exact h
theorem Ad {o:aM} {s:St} {dst:Option Nat} {sz:gJ} {agg:Bool} {zero:List AV} {len:Nat} {ps:List (Nat×VX)} {r:AV×St} (e:aK o s dst (.buildRow sz agg zero len ps)=some r):aK o s dst (.buildSlice sz agg zero len ps)=some r:=by
 simp only[aK]at e |-;cases j:dw s.env ps with
 | none=>simp[j]at e
 | some qs=>
  cases dst with
  | none=>simp[j]at e
  | some t=>
   simp only[j]at e |-;by_cases E:zero.length=sz.2
   ·rw[if_pos E]at e |-;cases I:dZ zero with
    | none=>simp[I]at e
    | some ds=>
     simp only[I]at e |-;cases h3:D.bS agg ds with
     | none=>simp[h3]at e
     | some z=>
      simp only[h3]at e |-;cases h4:pX (qs.map (·.2))with
      | none=>simp[h4]at e
      | some xs=>
       obtain ⟨l',J,M⟩:=JY (o:=o) (s:=s) h4;simp only[h4]at e;simp only[J,M];exact e
   rw[if_neg E]at e;cases e
theorem Mp {np:Nat} {o:Oper} {ae:mg} {r:AV} {s':St} (a9:iS P call) (h:RS s a w L Z) (E:okV P o.op ae=true) (ht:∀t,o.dst=some t->t<np)
  (e:aK (real call loop) s o.dst ae=some (r,s')):aZ P np o s a w L Z r s':=by
 generalize ho:o.op=op at E;unfold okV at E;split at E
 ·rename_i x y;cases O:ev s.env y with
  | none=>simp[aK,evalOp,O]at e
  | some u=>simp[aK,evalOp,O]at e;obtain ⟨rfl,rfl⟩:=e;exact Bb np h (.inl ho) E O
 ·rename_i x y;cases O:ev s.env y with
  | none=>simp[aK,evalOp,O]at e
  | some u=>simp[aK,evalOp,O]at e;obtain ⟨rfl,rfl⟩:=e;exact Bb np h (.inr ho) E O
 ·rename_i c x y c' x' y';simp only[af]at E;simp only[aK,evalOp]at e;split at e
  case h_3=>cases e
  case h_2 v' e' new' I=>
   exfalso;split at I
   ·split at I<;>simp at I
   cases I
  rename_i v' I;injection e with e;injection e with e1 U;subst e1 U;split at I
  case h_2=>cases I
  rename_i t u v q1 q2 q3;have:=HT (P:=P) np h (o:=o) ho E.1.1 E.1.2 E.2 q1 q2 q3;cases t<;>(simp at I;subst I;exact this)
 ·rename_i t cs;split at E
  case h_2=>cases E
  rename_i i hi;split at E
  case h_2=>cases E
  rename_i z hz;simp only[aK,evalOp]at e;split at e
  case h_2=>cases e
  rename_i tt ag;split at e
  case h_2=>cases e
  rename_i s2 hl;injection e with e;injection e with e1 U;subst e1 U;simp only[AV.map,if_true];exact Fg h ho hi hz E hl (ht tt (by assumption))
 ·rename_i t x y;simp only[aK,evalOp]at e;cases O:ev s.env y with
  | none=>simp[O]at e
  | some u=>
   have key:(∀vs,u≠ .tup vs)->u≠ .undef->u≠ .bare->(match o.dst with | some t=>(match s.lay t [some (Obj.box u.cells)]with | some s=>some ((AV.ptr (0,0) 0).map λr=>if r=(0,0)then (t,0)else r,s) | none=>none) | none=>none)=some (r,s')->aZ P np o s a w L Z r s':=by
    intro k1 k2 k3 e;split at e
    case h_2=>cases e
    rename_i tt ag;split at e
    case h_2=>cases e
    rename_i s2 hl;injection e with e;injection e with e1 U;subst e1 U;simp only[AV.map,if_true];exact Kv h ho E O k1 k2 k3 hl (ht tt (by assumption))
   rw[O]at e;cases u with
   | tup vs=>simp at e
   | undef=>simp at e
   | bare=>simp at e
   | _=>exact key (by simp) (by simp) (by simp) e
 ·exact Hw h ho E e
 ·rename_i t ps zero qs;split at E
  case h_2=>cases E
  rename_i fields i V hi;split at E
  case h_2=>cases E
  rename_i z places hz ap;simp only[af]at E;simp only[aK,evalOp]at e;cases e1:jT s.env qs with
  | none=>simp[e1]at e
  | some rs=>
   cases U:xY zero rs with
   | none=>simp[e1,U]at e
   | some cs=>simp[e1,U]at e;obtain ⟨rfl,rfl⟩:=e;exact ED np h ho V hi hz ap E.1 E.2 e1 U
 ·rename_i t len ps sz agg zero len' qs;split at E
  case h_2=>cases E
  rename_i el V;split at E
  case h_2=>cases E
  rename_i i hi;split at E
  case h_2=>cases E
  rename_i z hz;simp only[af,beq_iff_eq,decide_eq_true_eq]at E;obtain ⟨⟨⟨⟨⟨⟨⟨J,c2⟩,S⟩,M⟩,c5⟩,c6⟩,c7⟩,c8⟩:=E;obtain ⟨s1,s2⟩:=sz;simp only at J c2;subst J c2 S;cases hd:o.dst with
  | none=>rw[hd]at e;simp only[aK]at e;split at e<;>first | (rename_i q;cases q;done) | cases e
  | some tt=>
   rw[hd]at e;exact oS h ho M V hi hz c5 c6 c7 c8 (ht tt hd) e
 ·rename_i t len ps;split at E
  case h_2=>cases E
  rename_i el V;simp only[af,beq_iff_eq]at E;obtain ⟨⟨J,c2⟩,S⟩:=E;subst J;obtain ⟨i,hi⟩:=Option.isSome_iff_exists.1 S;simp only[aK,evalOp]at e;injection e with e;injection e with e1 U;subst e1 U;exact z_ h ho (by simpa using c2) V hi
 ·rename_i t len ps sz agg zero len' qs;split at E
  case h_2=>cases E
  rename_i el V;split at E
  case h_2=>cases E
  rename_i i hi;split at E
  case h_2=>cases E
  rename_i z hz;simp only[af,beq_iff_eq,decide_eq_true_eq]at E;obtain ⟨⟨⟨⟨⟨⟨⟨J,c2⟩,S⟩,M⟩,c5⟩,c6⟩,c7⟩,c8⟩:=E;obtain ⟨s1,s2⟩:=sz;simp only at J c2;subst J c2 S;simp only[aK]at e;split at e
  ·rename_i v hv;injection e with e;injection e with e1 U;subst e1 U;exact (vg h ho M V hi hz c5 c6 c7 c8 hv).2
  ·rename_i v x new hv;have:=(vg (np:=np) h ho M V hi hz c5 c6 c7 c8 hv).1;cases this
  cases e
 ·rename_i t len ps sz agg zero len' qs;split at E
  case h_2=>cases E
  rename_i el V;split at E
  case h_2=>cases E
  rename_i i hi;split at E
  case h_2=>cases E
  rename_i z hz;simp only[af,beq_iff_eq,decide_eq_true_eq]at E;obtain ⟨⟨⟨⟨⟨⟨⟨J,c2⟩,S⟩,M⟩,c5⟩,c6⟩,c7⟩,c8⟩:=E;obtain ⟨s1,s2⟩:=sz;simp only at J c2;subst J c2 S;cases hd:o.dst with
  | none=>rw[hd]at e;simp only[aK]at e;split at e<;>first | (rename_i q;cases q;done) | cases e
  | some tt=>
   rw[hd]at e;exact oS h ho M V hi hz c5 c6 c7 c8 (ht tt hd) (Ad e)
 ·rename_i t len ps sz x';split at E
  case h_2=>cases E
  rename_i el x V aa;split at E
  case h_2=>cases E
  rename_i i hi;split at E
  case h_2=>cases E
  rename_i z hz;simp only[af,beq_iff_eq,decide_eq_true_eq]at E;obtain ⟨⟨⟨⟨⟨⟨d1,d2⟩,d3⟩,d4⟩,d5⟩,d6⟩,d7⟩:=E;obtain ⟨s1,s2⟩:=sz;simp only at d1 d2;subst d1 d2 d3;have a7:ps= #[(0,x)]:=Array.ext' aa;subst a7;cases hd:o.dst with
  | none=>rw[hd]at e;simp only[aK]at e;split at e<;>first | (rename_i q;cases q;done) | cases e
  | some tt=>
   rw[hd]at e;exact Dp h ho d4 V hi hz d5 d6 d7 (ht tt hd) e
 ·rename_i t len ps sz off x';split at E
  case h_2=>cases E
  rename_i el x V aa;split at E
  case h_2=>cases E
  rename_i i hi;split at E
  case h_2=>cases E
  rename_i z hz;simp only[af,beq_iff_eq,decide_eq_true_eq]at E;obtain ⟨⟨⟨⟨⟨⟨d1,d2⟩,d3⟩,d4⟩,d5⟩,d6⟩,d7⟩:=E;obtain ⟨s1,s2⟩:=sz;simp only at d1 d2;subst d1 d2 d3;have a7:ps= #[(0,x)]:=Array.ext' aa;subst a7;cases hd:o.dst with
  | none=>rw[hd]at e;simp only[aK]at e;split at e<;>first | (rename_i q;cases q;done) | cases e
  | some tt=>
   rw[hd]at e;exact Dr h ho d4 V hi hz d5 d6 d7 (ht tt hd) e
 ·rename_i c sz bytes x' y';split at E
  case h_2=>cases E
  rename_i x y t t' a0 a1 a3;simp only[af,beq_iff_eq]at E;obtain ⟨⟨⟨J,c2⟩,S⟩,M⟩:=E;subst J;split at M
  case h_2=>cases M
  rename_i el V;split at M
  case h_2=>cases M
  rename_i i hi;split at M
  case h_2=>cases M
  rename_i z hz;simp only[af,beq_iff_eq]at M;obtain ⟨⟨⟨d1,d2⟩,d3⟩,d4⟩:=M;obtain ⟨s1,s2⟩:=sz;simp only at d1 d2;subst d1 d2 d3;have a4:c={ callee:= .builtin .append,args:= #[x,y],argTypes:= #[t,t] }:=by
    obtain ⟨q1,q2,q3⟩:=c;simp only at a0 a1 a3;have U:q2= #[x,y]:=Array.ext' a1;have e3:q3= #[t,t]:=Array.ext' a3;rw[a0,U,e3]
  subst a4;cases hd:o.dst with
  | none=>rw[hd]at e;simp only[aK,uy]at e;split at e<;>first | (rename_i q;cases q;done) | cases e
  | some tt=>
    rw[hd]at e;simp only[aK]at e;exact tu h ho c2 S V hi hz d4 (ht tt hd) e
 ·rename_i t x y;split at E
  case h_2=>cases E
  rename_i i d hi hd;simp only[af,beq_iff_eq]at E;obtain ⟨⟨J,c2⟩,S⟩:=E;cases a5:o.dst with
  | none=>
   rw[a5]at e;have:aK (real call loop) s none (.q9 y)=some (r,s')->aK (real call loop) s none (.load false 1 y)=some (r,s'):=by
    intro e;simp only[aK,evalOp]at e |-;split at e
    case h_2=>cases e
    rename_i q sz n off I;split at e
    case h_2=>cases e
    rename_i sz' xs aw;split at e
    case h_2=>cases e
    rename_i cs az;split at e
    ·split at e
     ·rename_i q1 q2;cases q2
     cases e
    split at e
    case h_2=>cases e
    rename_i v b0;rw[I];simp only[b0];exact e
   have e':=this e;simp only[aK,evalOp]at e';cases O:ev s.env y with
   | none=>simp[O]at e'
   | some p=>
    cases hl:loadAt (real call loop) s.sto false 1 p with
    | none=>simp[O,hl]at e'
    | some u=>simp[O,hl]at e';obtain ⟨rfl,rfl⟩:=e';exact uU np h ho J hi hd S.symm O (by rw[c2];exact hl)
  | some tt=>
   rw[a5]at e;exact Hj h ho J hi c2 hd S (ht tt a5) e
 ·rename_i t x y;split at E
  case h_2=>cases E
  rename_i i d hi hd;simp only[af,beq_iff_eq]at E;obtain ⟨⟨J,c2⟩,S⟩:=E;cases a5:o.dst with
  | none=>
   rw[a5]at e;exfalso;simp only[aK]at e;split at e
   case h_2=>cases e
   rename_i q sz n off I;split at e
   case h_2=>cases e
   rename_i sz' xs aw;split at e
   case h_2=>cases e
   rename_i cs az;split at e
   · split at e
     ·rename_i q1 q2 _;cases q2
     cases e
   cases e
  | some tt=>
   rw[a5]at e;exact EB h ho J hi c2 hd S (ht tt a5) e
 ·rename_i t x agg n y;split at E
  case h_2=>cases E
  rename_i i d hi hd;simp only[af,beq_iff_eq]at E;obtain ⟨⟨J,c2⟩,S⟩:=E;subst c2;simp only[aK,evalOp]at e;cases O:ev s.env y with
  | none=>simp[O]at e
  | some p=>
   cases hl:loadAt (real call loop) s.sto agg i.size p with
   | none=>simp[O,hl]at e
   | some u=>simp[O,hl]at e;obtain ⟨rfl,rfl⟩:=e;exact uU np h ho J hi hd S O hl
 ·rename_i t x y n x' y';split at E
  case h_2=>cases E
  rename_i i hi;simp only[af,beq_iff_eq]at E;obtain ⟨⟨J,c2⟩,S⟩:=E;subst J;simp only[aK]at e;split at e
  case h_2=>cases e
  rename_i p v e1 U;split at e
  case h_2=>cases e
  rename_i s2 hs;injection e with e;injection e with q1 q2;subst q1 q2;exact rZ np h ho c2 S hi e1 U hs
 ·rename_i t x y n x' y';split at E
  case h_2=>cases E
  rename_i i hi;simp only[af,beq_iff_eq]at E;obtain ⟨⟨J,c2⟩,S⟩:=E;subst J;obtain ⟨p,v,e1,U,rfl,hs⟩:=Ca e;exact rZ np h ho c2 S hi e1 U hs
 ·rename_i t x y n x' y';split at E
  case h_2=>cases E
  rename_i i hi;simp only[af,beq_iff_eq]at E;obtain ⟨⟨J,c2⟩,S⟩:=E;subst J;simp only[aK]at e;split at e
  case h_2=>cases e
  rename_i p v e1 U;split at e
  case h_2=>cases e
  rename_i s2 hs;injection e with e;injection e with q1 q2;subst q1 q2;exact rZ np h ho c2 S hi e1 U hs
 ·rename_i op t x y t' KC b6 x' y';simp only[af,decide_eq_true_eq]at E;obtain ⟨⟨⟨J,c2⟩,S⟩,M⟩:=E;subst J;simp only[aK,evalOp]at e;split at e
  case h_3=>cases e
  case h_2 v' e' new' I=>
   exfalso
   repeat' split at I
   all_goals first | (cases I;done) | (simp at I;done)
  rename_i v' I;injection e with e;injection e with e1 U;subst e1 U;split at I
  case h_2=>cases I
  rename_i u v q1 q2;split at I
  case h_2=>cases I
  rename_i hB;split at I
  case h_2=>cases I
  rename_i m hm;injection I with I;injection I with I _;subst I;refine Kq np h ho c2 S (λp hp=> ?_) q1 q2 hm;have am:u.KC=KC:=by simpa using hB
  rw[PZ hp]at am;subst am;simp only[Bool.not_true,Bool.false_or]at M;split at M
  · assumption
  cases M
 ·rename_i op t x t' ne x';simp only[af,decide_eq_true_eq]at E;obtain ⟨⟨J,c2⟩,S⟩:=E;split at S
  case h_2=>cases S
  rename_i el V;simp only[aK,evalOp]at e;cases hx:ev s.env x' with
  | none=>simp[hx]at e
  | some u=>
   simp only[hx]at e;cases u<;>
           first
    | (simp at e;done)
    | (
      simp only at e;injection e with e;injection e with q1 q2;subst q1 q2;first
        | exact y_ np h ho J c2 V hx (.inl ⟨rfl,rfl⟩)
        | (
          refine y_ np h ho J c2 V hx (.inr ⟨⟨(),λv hv=> ?_⟩,rfl⟩);simp only[RV]at hv;first
           | (obtain ⟨b,_,_,hv⟩:=hv;exact ⟨_,hv,rfl⟩)
           | (obtain ⟨b,_,_,_,hv⟩:=hv;exact ⟨_,hv,rfl⟩)
           | (obtain ⟨b,o',vs,hv,_⟩:=hv;exact ⟨_,hv,rfl⟩)))
 ·rename_i t x y;simp only[aK,evalOp]at e;split at e
  case h_3=>cases e
  case h_2 v' e' new' I=>split at I<;>simp at I
  rename_i v' I;injection e with e;injection e with e1 U;subst e1 U;split at I
  case h_2=>cases I
  rename_i k n q1;injection I with I;injection I with I _;subst I;exact Kr np h ho E q1
 ·rename_i t x y;simp only[aK,evalOp]at e;split at e
  case h_3=>cases e
  case h_2 v' e' new' I=>split at I<;>simp at I
  rename_i v' I;injection e with e;injection e with e1 U;subst e1 U;split at I
  case h_2=>cases I
  rename_i b q1;injection I with I;injection I with I _;subst I;exact Ks np h ho E q1
 ·rename_i t t' x c y;simp only[af]at E;obtain ⟨J,c2⟩:=E;simp only[aK,evalOp]at e;cases O:ev s.env y with
  | none=>simp[O]at e
  | some u=>
   simp only[O]at e;split at c2
   ·rename_i k;simp only[af]at c2;obtain ⟨d1,d2⟩:=c2;split at d1
    case h_2=>cases d1
    rename_i j hj;split at d2
    case h_2=>cases d2
    rename_i k' a6;have:k=k':=by simpa using d2
    subst this;cases u with
    | d y'=>cases y' with
      | int k2 n=>simp at e;obtain ⟨rfl,rfl⟩:=e;exact CG np h ho J ⟨j,hj⟩ a6 O
      | _=>simp at e
    | _=>simp at e
   ·simp only[af]at c2;obtain ⟨d1,d2⟩:=c2;split at d1
    case h_2=>cases d1
    rename_i hj;split at d2
    case h_2=>cases d2
    rename_i a6;cases u with
    | d y'=>cases y' with
      | str n=>simp at e;obtain ⟨rfl,rfl⟩:=e;exact CH np h ho J hj a6 O
      | _=>simp at e
    | _=>simp at e
   simp only[af]at c2;obtain ⟨d1,d2⟩:=c2;split at d1
   case h_2=>cases d1
   rename_i el hj;split at d1
   case h_2=>cases d1
   rename_i he;split at d2
   case h_2=>cases d2
   rename_i a6;cases hc:content (real call loop) s.sto u with
   | none=>simp[hc]at e
   | some xs=>
     cases hb:(real call loop).ofBytes xs with
     | none=>simp[hc,hb]at e
     | some tx=>simp[hc,hb]at e;obtain ⟨rfl,rfl⟩:=e;exact vU np h ho J hj he a6 O hc hb
 ·rename_i f first xs g ys
  simp only[af,beq_iff_eq]at E;obtain ⟨⟨J,c2⟩,S⟩:=E;subst c2;have hf:first= #[]:=by apply Array.ext';simpa using J
  subst hf;simp only[aK,evalOp]at e;cases O:zi s.env ys with
  | none=>simp[O]at e
  | some us=>simp[O]at e;obtain ⟨rfl,rfl⟩:=e;exact HU np h ho S O
 ·rename_i t x y sz bytes agg zero x' y';split at E
  case h_2=>cases E
  rename_i el V;split at E
  case h_2=>cases E
  rename_i i hi;split at E
  case h_2=>cases E
  rename_i z hz;simp only[af,beq_iff_eq,decide_eq_true_eq]at E;obtain ⟨⟨⟨⟨⟨⟨⟨J,c2⟩,S⟩,M⟩,c5⟩,c6⟩,c7⟩,c8⟩:=E;obtain ⟨s1,s2⟩:=sz;simp only at J c2;subst J c2 S;simp only[aK,evalOp]at e;split at e
  case h_3=>cases e
  case h_1 v' I=>
   exfalso
   repeat' split at I
   all_goals first | (cases I;done) | (simp at I;done)
  rename_i v' e' new' I;split at I
  case h_2=>cases I
  rename_i k l k' c q1 q2;split at I
  case isFalse=>cases I
  split at I
  case h_2=>cases I
  rename_i ds b1;split at I
  case h_2=>cases I
  rename_i zd b2;split at I
  case h_2=>cases I
  rename_i b3 ao;injection I with I;injection I with g1 g2;injection g2 with g2 g3;subst g1 g2 g3;split at e
  case h_2=>cases e
  rename_i tt ag;split at e
  case h_2=>cases e
  rename_i s3 hl;injection e with e;injection e with e1 U;subst e1 U;simp only[AV.map,if_true];exact zf h ho M c5 V hi hz c6 c7 c8 b1 b2 q1 q2 b3 ao (ht tt (by assumption)) hl
 ·rename_i t x lo hi mx isStr sz x' lo' b7 b8;simp only[af]at E;obtain ⟨⟨⟨⟨J,c2⟩,S⟩,M⟩,c5⟩:=E;simp only[aK,evalOp]at e;split at e
  case h_3=>cases e
  case h_2 v' e' new' I=>
   exfalso
   repeat' split at I
   all_goals first | (cases I;done) | (simp at I;done)
  rename_i v' I;injection e with e;injection e with e1 U;subst e1 U;split at I
  case h_2=>cases I
  rename_i A y1 y2 y3 q1 q2 q3 q4;split at I
  case h_2=>cases I
  rename_i l h' m p1 p2 p3;split at I
  case h_3=>cases I
  case h_1 u=>
   split at I
   case h_2=>cases I
   split at I
   case h_2=>cases I
   rename_i v hv;injection I with I;injection I with I _;subst I;simp only[af,Option.isNone_iff_eq_none]at c5;obtain ⟨d1,d2⟩:=c5;split at d2
   case h_2=>cases d2
   rename_i V;exact z8 np h ho J c2 S d1 V q1 q2 q3 p1 p2 hv
  split at I
  case h_2=>cases I
  rename_i v hv;injection I with I;injection I with I _;subst I;simp only at c5;split at c5
  case h_2=>cases c5
  rename_i el V;split at c5
  case h_2=>cases c5
  rename_i i hinfo;simp only[af,beq_iff_eq]at c5;obtain ⟨s1,s2⟩:=sz;obtain ⟨d1,d2⟩:=c5;simp only at d1 d2;subst d1 d2;exact EC np h ho J c2 S M V hinfo q1 q2 q3 q4 p1 p2 p3 hv
 ·rename_i t x f off y;split at E
  case h_2=>cases E
  rename_i fs V;split at E
  case h_2=>cases E
  rename_i fd hf;split at E
  case h_2=>cases E
  rename_i i hi;simp only[af,beq_iff_eq,bne_iff_ne,ne_eq]at E;obtain ⟨⟨J,c2⟩,S⟩:=E;subst c2;simp only[aK,evalOp]at e;cases O:ev s.env y with
  | none=>simp[O]at e
  | some u=>
   simp only[O]at e;cases u<;>simp at e<;>(obtain ⟨rfl,rfl⟩:=e;exact zb np h ho S V hf hi J O rfl)
 ·rename_i x off y;simp only[af,beq_iff_eq]at E;obtain ⟨J,c2⟩:=E;subst J;simp only[aK,evalOp]at e;cases O:ev s.env y with
  | none=>simp[O]at e
  | some u=>simp only[O]at e;cases u<;>simp at e<;>(obtain ⟨rfl,rfl⟩:=e;exact z9 np h ho c2 O rfl)
 ·rename_i t x f agg off n y;split at E
  case h_2=>cases E
  rename_i fs V;split at E
  case h_2=>cases E
  rename_i fd hf;split at E
  case h_2=>cases E
  rename_i i d hi hd;simp only[af,beq_iff_eq]at E;obtain ⟨⟨⟨J,c2⟩,S⟩,M⟩:=E;subst J c2;simp only[aK,evalOp]at e;cases O:ev s.env y with
  | none=>simp[O]at e
  | some u=>
   simp only[O]at e;cases u with
   | agg cs=>
     cases hc:cut cs fd.offset i.size with
     | none=>simp[hc]at e
     | some cs'=>
       cases hr:AV.bS agg cs' with
       | none=>simp[hc,hr]at e
       | some v=>simp[hc,hr]at e;obtain ⟨rfl,rfl⟩:=e;exact Fe np h ho M V hf hi hd S O hc hr
   | _=>simp at e
 ·rename_i t x i sz y j;split at E
  case h_2=>cases E
  rename_i el V;split at E
  case h_2=>cases E
  rename_i n hi;simp only[af,beq_iff_eq]at E;obtain ⟨⟨⟨J,c2⟩,S⟩,M⟩:=E;obtain ⟨s1,s2⟩:=sz;simp only at J c2;subst J c2;simp only[aK,evalOp]at e;split at e
  case h_3=>cases e
  case h_2 v' e' new' I=>
   exfalso
   repeat' split at I
   all_goals first | (cases I;done) | (simp at I;done)
  rename_i v' I;injection e with e;injection e with e1 U;subst e1 U;split at I
  case h_3=>cases I
  case h_1 xs k m q1 q2=>
   split at I
   case h_2=>cases I
   rename_i d hd;split at I
   case isFalse=>cases I
   rename_i hl;injection I with I;injection I with I _;subst I;exact vX np h ho S M V hi q1 q2 hd hl
  rename_i q sz' g u k m q1 q2;split at I
  case h_2=>cases I
  rename_i xs an;split at I
  case h_2=>cases I
  rename_i d hd;split at I
  case isFalse=>cases I
  rename_i b4;subst b4;injection I with I;injection I with I _;subst I;cases g with
  | none=>exact oT np h ho S M V hi q1 q2 an hd
  | some p=>obtain ⟨p1,p2⟩:=p;exact oT np h ho S M V hi q1 q2 an hd
 ·rename_i t x i y j;simp only[af]at E;obtain ⟨⟨J,c2⟩,S⟩:=E;split at J
  case h_2=>cases J
  rename_i V;simp only[aK,evalOp]at e;split at e
  case h_3=>cases e
  case h_2 v' e' new' I=>
   exfalso
   repeat' split at I
   all_goals first | (cases I;done) | (simp at I;done)
  rename_i v' I;injection e with e;injection e with e1 U;subst e1 U;split at I
  case h_2=>cases I
  rename_i sv k n q1 q2;split at I
  case h_2=>cases I
  rename_i b hb;injection I with I;injection I with I _;subst I;exact Ff np h ho c2 S V q1 q2 hb
 ·rename_i x i y j;simp only[af,beq_iff_eq]at E;obtain ⟨J,c2⟩:=E;subst c2;simp only[aK,evalOp]at e;cases O:ev s.env y with
  | none=>simp[O]at e
  | some u=>
   simp only[O]at e;cases u with
   | tup vs=>
    cases hv:vs[i]? with
    | none=>simp[hv]at e
    | some v=>simp[hv]at e;obtain ⟨rfl,rfl⟩:=e;exact CK np h ho J O hv
   | _=>simp at e
 ·rename_i c D7 y;split at E
  case h_2=>cases E
  rename_i x t a0 a1 a3;simp only[af]at E;obtain ⟨J,c2⟩:=E;have a4:c={ callee:= .builtin .len,args:= #[x],argTypes:= #[t] }:=by
   obtain ⟨q1,q2,q3⟩:=c;simp only at a0 a1 a3;have U:q2= #[x]:=Array.ext' a1;have e3:q3= #[t]:=Array.ext' a3;rw[a0,U,e3]
  subst a4;have I:∃u,ev s.env y=some u:=by
   cases O:ev s.env y with
   | none=>simp[aK,evalOp,O]at e
   | some u=>exact ⟨u,rfl⟩
  obtain ⟨u,O⟩:=I;have ac:evalOp (real call loop) s.env s.sto (.len D7 y)=some (r,[])/\s'=s:=by
   simp only[aK]at e;split at e
   case h_3=>cases e
   case h_2 v' e' new' I=>
    exfalso;simp only[evalOp]at I
    repeat' split at I
    all_goals first | (cases I;done) | (simp at I;done)
   rename_i v' I;injection e with e;injection e with e1 U;subst e1 U;exact ⟨I,rfl⟩
  obtain ⟨ac,rfl⟩:=ac;refine Kt np h ho J O ⟨λhS=> ?_,λhS=> ?_⟩ ac
  ·subst hS;simp only at c2;split at c2
   ·assumption
   cases c2
  subst hS;simp only at c2;split at c2
  ·exact ⟨_,by assumption⟩
  cases c2
 ·rename_i c sz bytes x' y';split at E
  case h_2=>cases E
  rename_i x y t t' a0 a1 a3;simp only[af,beq_iff_eq]at E;obtain ⟨⟨⟨J,c2⟩,S⟩,M⟩:=E;subst J;split at M
  case h_2=>cases M
  rename_i el V;split at M
  case h_2=>cases M
  rename_i i hi;split at M
  case h_2=>cases M
  rename_i z hz;simp only[af,beq_iff_eq]at M;obtain ⟨⟨⟨d1,d2⟩,d3⟩,d4⟩:=M;obtain ⟨s1,s2⟩:=sz;simp only at d1 d2;subst d1 d2 d3;have a4:c={ callee:= .builtin .append,args:= #[x,y],argTypes:= #[t,t] }:=by
    obtain ⟨q1,q2,q3⟩:=c;simp only at a0 a1 a3;have U:q2= #[x,y]:=Array.ext' a1;have e3:q3= #[t,t]:=Array.ext' a3;rw[a0,U,e3]
  subst a4;cases hd:o.dst with
  | none=>rw[hd]at e;simp only[aK]at e;split at e<;>first | (rename_i q;cases q;done) | cases e
  | some tt=>
    rw[hd]at e;cases hx:ev s.env x' with
    | none=>simp[aK,hx]at e
    | some A=>
      cases O:ev s.env y' with
      | none=>simp[aK,hx,O]at e
      | some B=>exact ve h ho c2 S V hi hz d4 (ht tt hd) hx O e
 ·rename_i c g m raw ys;split at E
  case h_2=>cases E
  rename_i f hc;simp only[af,beq_iff_eq]at E;obtain ⟨J,c2⟩:=E;subst J;simp only[aK]at e;split at e
  case h_2=>cases e
  rename_i as has;exact AO a9 h ho hc c2 has ht e
 ·rename_i c fx m raw ys;split at E
  case h_2=>cases E
  rename_i x hc;simp only[af]at E;obtain ⟨J,c2⟩:=E;simp only[aK]at e;split at e
  case h_2=>cases e
  rename_i g cap as hf has;exact EM a9 h ho hc J c2 hf has ht e
 ·rename_i c x g m raw ys;split at E
  case h_2=>cases E
  rename_i f hc;simp only[af,beq_iff_eq]at E;obtain ⟨J,c2⟩:=E;subst J;simp only[aK]at e;split at e
  case h_2=>cases e
  rename_i s1 V;split at e
  case h_2=>cases e
  rename_i as has;obtain ⟨L2,m1,m2⟩:=oo (np:=np) h V;exact aZ.pre m2 (AO a9 m1 ho hc c2 has ht e)
 ·rename_i c sz bytes x' y';split at E
  case h_2=>cases E
  rename_i x y t t' a0 a1 a3;simp only[af,beq_iff_eq]at E;obtain ⟨⟨⟨J,c2⟩,S⟩,M⟩:=E;subst J;split at M
  case h_2=>cases M
  rename_i el V;split at M
  case h_2=>cases M
  rename_i i hi;split at M
  case h_2=>cases M
  rename_i z hz;simp only[af,beq_iff_eq]at M;obtain ⟨⟨⟨d1,d2⟩,d3⟩,d4⟩:=M;obtain ⟨s1,s2⟩:=sz;simp only at d1 d2;subst d1 d2 d3;have a4:c={ callee:= .builtin .append,args:= #[x,y],argTypes:= #[t,t] }:=by
    obtain ⟨q1,q2,q3⟩:=c;simp only at a0 a1 a3;have U:q2= #[x,y]:=Array.ext' a1;have e3:q3= #[t,t]:=Array.ext' a3;rw[a0,U,e3]
  subst a4;cases hd:o.dst with
  | none=>rw[hd]at e;simp only[aK,uy]at e;(repeat' split at e)<;>first | contradiction | cases e
  | some tt=>
    rw[hd]at e;exact Cb h ho c2 S V hi hz d4 (ht tt hd) e
 ·rename_i c sz bytes x' y';split at E
  case h_2=>cases E
  rename_i x y t t' a0 a1 a3;simp only[af,beq_iff_eq]at E;obtain ⟨⟨⟨J,c2⟩,S⟩,M⟩:=E;subst J;split at M
  case h_2=>cases M
  rename_i el V;split at M
  case h_2=>cases M
  rename_i i hi;split at M
  case h_2=>cases M
  rename_i z hz;simp only[af,beq_iff_eq]at M;obtain ⟨⟨⟨d1,d2⟩,d3⟩,d4⟩:=M;obtain ⟨s1,s2⟩:=sz;simp only at d1 d2;subst d1 d2 d3;have a4:c={ callee:= .builtin .append,args:= #[x,y],argTypes:= #[t,t] }:=by
    obtain ⟨q1,q2,q3⟩:=c;simp only at a0 a1 a3;have U:q2= #[x,y]:=Array.ext' a1;have e3:q3= #[t,t]:=Array.ext' a3;rw[a0,U,e3]
  subst a4
  replace e:=ye e
  cases hd:o.dst with
  | none=>rw[hd]at e;simp only[aK]at e;split at e<;>first | (rename_i q;cases q;done) | cases e
  | some tt=>
    rw[hd]at e;cases hx:ev s.env x' with
    | none=>simp[aK,hx]at e
    | some A=>
      cases O:ev s.env y' with
      | none=>simp[aK,hx,O]at e
      | some B=>exact ve h ho c2 S V hi hz d4 (ht tt hd) hx O e
 ·rename_i c x' y';split at E
  case h_2=>cases E
  rename_i x y hc ha;simp only[af]at E;exact Gk (isMax:=true) h ho hc ha E.1 E.2 e
 ·rename_i c x' y';split at E
  case h_2=>cases E
  rename_i x y hc ha;simp only[af]at E;exact Gk (isMax:=false) h ho hc ha E.1 E.2 e
 ·rename_i c sz x' y';split at E
  case h_2=>cases E
  rename_i x y t t' a0 a1 a3;simp only[af]at E;obtain ⟨⟨c2,S⟩,M⟩:=E;split at M
  case h_2=>cases M
  rename_i el V;split at M
  case h_2=>cases M
  rename_i i hi;simp only[af,beq_iff_eq]at M;obtain ⟨d1,d2⟩:=M;obtain ⟨s1,s2⟩:=sz;simp only at d1 d2;subst d1 d2;have a4:c={ callee:= .builtin .copy,args:= #[x,y],argTypes:= #[t,t'] }:=by
   obtain ⟨q1,q2,q3⟩:=c;simp only at a0 a1 a3;have U:q2= #[x,y]:=Array.ext' a1;have e3:q3= #[t,t']:=Array.ext' a3;rw[a0,U,e3]
  subst a4;exact Hx h ho c2 S V hi e
 ·rename_i c x';split at E
  case h_2=>cases E
  rename_i x t hc ha a8;simp only[af]at E;obtain ⟨J,c2⟩:=E;split at c2
  case h_2=>cases c2
  rename_i e' V;exact Hv h ho hc ha a8 V J e
 ·rename_i c sz bytes agg zero x' y';split at E
  case h_2=>cases E
  rename_i x y t t' hc ha a8;simp only[af]at E;obtain ⟨⟨⟨J,c2⟩,S⟩,M⟩:=E;split at S
  case h_2=>cases S
  rename_i kn b5;split at M
  case h_2=>cases M
  rename_i el V;split at M
  case h_2=>cases M
  rename_i i hi;split at M
  case h_2=>cases M
  rename_i z hz;simp only[af,beq_iff_eq,decide_eq_true_eq]at M;obtain ⟨⟨⟨⟨⟨d1,d2⟩,d3⟩,d4⟩,d5⟩,d6⟩:=M;obtain ⟨b9,bb⟩:=sz;simp only at d1 d2;subst d1 d2 d3;have a4:c={ callee:= .builtin .append,args:= #[x,y],argTypes:= #[t,t'] }:=by
    obtain ⟨q1,q2,q3⟩:=c;simp only at hc ha a8;have U:q2= #[x,y]:=Array.ext' ha;have e3:q3= #[t,t']:=Array.ext' a8;rw[hc,U,e3]
  subst a4;cases hd:o.dst with
  | none=>rw[hd]at e;simp only[aK]at e;split at e<;>first | (rename_i q;cases q;done) | cases e
  | some tt=>
    rw[hd]at e;exact Cj h ho J c2 V b5 hi hz d4 d5 d6 (ht tt hd) e
 ·simp only[aK,evalOp]at e;cases e
 cases E
end
section
section
variable {P:Program} {call:dh} {loop:di}
variable {s:St} {a:Act} {w:World} {L:Loc} {Z:Nat->Prop}
def SZ (ops:Array Oper):Option (Nat×Bool)->Option (Nat×Bool)->Bool
 | none,none=>true
 | some (j,w),some (t,w')=>w==w'&&(match ops[j]? with | some o=>o.dst==some t | none=>false)
 | _,_=>false
def yB (P:Program) (np:Nat) (ops:Array Oper) (o:Oper) (v:bV):Bool:=
 o.dst==v.dst&&(match o.dst with | some t=>decide (t<np) | none=>true)&&SZ ops o.guard v.guard&&okV P o.op v.op
def rO (P:Program) (np:Nat) (ops:Array Oper):List Nat->List bV->Bool
 | [],[]=>true
 | i::is,v::vs=>(match ops[i]? with | some o=>yB P np ops o v | none=>false)&&rO P np ops is vs
 | _,_=>false
theorem tD (h:RS s a w L Z) {ops:Array Oper} {o:Oper} {g:Option (Nat×Bool)} (J:SZ ops o.guard g=true) {b:Bool} (e:wanted s.env g=some b):Region.wanted o (yielded ops a.tmps)=b:=by
 unfold SZ at J;split at J
 ·rename_i O;simp only[wanted]at e;injection e with e;subst e;unfold Region.wanted;rw[O]
 ·rename_i j w' t w'' O;simp only[af,beq_iff_eq]at J;obtain ⟨rfl,S⟩:=J;split at S
  case h_2=>cases S
  rename_i oj V;have hd:oj.dst=some t:=by simpa using S
  simp only[wanted]at e;unfold Region.wanted;rw[O];simp only[yielded,V,Option.bind_some,hd];obtain ⟨l1,l2⟩:=bJ.1 h.env;split at e
  ·rename_i b' E;injection e with e;have I:t<a.tmps.size:=by rw[<-Array.length_toList,<-l1];exact (ax.1 E).1
   have M:=l2 t _ (a.tmps[t]) E (by simp[I]);simp only[RV,RD]at M;have U:a.tmps[t]= .bool b':=by simpa using M
   simp only[Array.getElem?_eq_getElem I,U];rw[<-e];cases w'<;>cases b'<;>rfl
  ·rename_i E;injection e with e;have I:t<a.tmps.size:=by rw[<-Array.length_toList,<-l1];exact (ax.1 E).1
   have M:=l2 t _ (a.tmps[t]) E (by simp[I]);simp only[RV]at M;simp only[Array.getElem?_eq_getElem I,M,<-e];rfl
  cases e
 cases J
theorem RS.bare (h:RS s a w L Z) (dst:Option Nat):RS ⟨eD s.env dst .bare,s.sto⟩ (a.put dst undef) w L Z:=
 h.put dst (by simp only[RV])
theorem rP {np:Nat} {ops:Array Oper} {o:Oper} {v:bV} {s':St} {rest:List bV} (O:iS P call) (h:RS s a w L Z) (J:yB P np ops o v=true) (e:bg (real call loop) (v::rest) s=some s') (K:Act->World->Prop) (Q:Exit->Act->World->Prop)
  (hk:∀s1 S j E I,RS s1 S j E I->Tr np s.sto s1.sto w j L E Z I->bg (real call loop) rest s1=some s'->K S j):
  if Region.wanted o (yielded ops a.tmps)then o.wp P a w K Q\/(o.asks P a w/\LetsOut Q)else K (a.put o.dst undef) w:=by
 simp only[yB,af,beq_iff_eq]at J;obtain ⟨⟨⟨U,V⟩,h3⟩,h4⟩:=J;simp only[bg]at e;split at e
 ·rename_i M;rw[tD h h3 M];simp only[if_true];left;split at e
  case h_2=>cases e
  rename_i u s1 hd;rw[<-U]at hd e;refine Mp (np:=np) O h h4 (λt ht=>by rw[ht]at V;simpa using V) hd K Q λu' j E I k1 k2 k3=> ?_
  exact hk ⟨eD s1.env o.dst u,s1.sto⟩ _ _ E I (k1.put o.dst k3) k2 e
 ·rename_i M;rw[tD h h3 M];simp only[Bool.false_eq_true,if_false];rw[<-U]at e;exact hk _ _ _ L Z (h.bare o.dst) (Tr.refl _ _ _ _ _) e
 cases e
theorem lg {np:Nat} {ops:Array Oper} (I:iS P call):∀{is:List Nat} {vs:List bV} {s s':St} {a:Act} {w:World} {L:Loc} {Z:Nat->Prop},rO P np ops is vs=true->RS s a w L Z->bg (real call loop) vs s=some s'->
  ∀(Q:Exit->Act->World->Prop),(∀a' w' L' Z',RS s' a' w' L' Z'->Tr np s.sto s'.sto w w' L L' Z Z'->Q .normal a' w')->wpOps P ops Q is a w
 | [],[],s,s',a,w,L,Z,_,h,e,Q,J=>by
  simp only[bg]at e;injection e with e;subst e;simp only[wpOps];exact J a w L Z h (Tr.refl _ _ _ _ _)
 | i::is,v::vs,s,s',a,w,L,Z,j,h,e,Q,J=>by
  simp only[rO,af]at j;obtain ⟨E,M⟩:=j;split at E
  case h_2=>cases E
  rename_i o ho;simp only[wpOps,ho];exact rP I h E e _ Q λs1 a1 w1 L1 Z1 O k2 S=>lg I M O S Q λa' w' L' Z' U V=>J a' w' L' Z' U (k2.trans V)
 | [],_::_,_,_,_,_,_,_,j,_,_,_,_=>by simp[rO]at j
 | _::_,[],_,_,_,_,_,_,j,_,_,_,_=>by simp[rO]at j
theorem AP {live:List Nat}:∀{l:List AV} {n i:Nat},(s9 live n l)[i]? =(l[i]?).map λa=>if live.contains (n+i)then a else .undef
 | [],n,i=>by simp[s9]
 | a::l,n,0=>by simp[s9]
 | a::l,n,i+1=>by
  simp only[s9,List.getElem?_cons_succ];rw[AP,show n+1+i=n+(i+1) by omega]
theorem AQ {live:List Nat}:∀{l:List AV} {n:Nat},(s9 live n l).length=l.length
 | [],n=>rfl
 | a::l,n=>by simp[s9,AQ]
theorem AR {live:List Nat}:∀{l:bC} {n i:Nat},(u6 live n l)[i]? =(l[i]?).map λa=>if live.contains (n+i)then a else []
 | [],n,i=>by simp[u6]
 | a::l,n,0=>by simp[u6]
 | a::l,n,i+1=>by
  simp only[u6,List.getElem?_cons_succ];rw[AR,show n+1+i=n+(i+1) by omega]
theorem qc {le ls:List Nat} {s:St} {r:Id}:(mask le ls s).sto.get r=if ls.contains r.1 then (s.sto.get r).map (·.forget λr=> !ls.contains r.1)else none:=by
 show ((u6 ls 0 s.sto).forget _).get r=_;rw[lO];have:(u6 ls 0 s.sto).get r=if ls.contains r.1 then s.sto.get r else none:=by
  unfold bC.get;rw[AR];cases s.sto[r.1]? with
  | none=>simp
  | some l=>
   simp only[Option.map_some,Nat.zero_add];by_cases hc:ls.contains r.1=true
   ·simp only[hc,if_true]
   simp only[hc,if_false,Bool.false_eq_true];simp
 rw[this];split<;>rfl
theorem RS.mask (h:RS s a w L Z) (np:Nat) (le ls:List Nat):RS (mask le ls s) a w L Z/\Tr np s.sto (mask le ls s).sto w w L L Z Z:=by
 have hsome:∀q,((Vi.mask le ls s).sto.get q).isSome->ls.contains q.1=true/\(s.sto.get q).isSome:=λq e=>by
  rw[qc]at e;split at e
  ·rename_i hc;exact ⟨hc,by simpa using e⟩
  cases e
 have hsame:∀q:Id,ls.contains q.1=true->Same (aI w Z L s.sto) (aI w Z L (Vi.mask le ls s).sto) q:=λq e=>by
  refine ⟨rfl,λk=> ?_,λsz xs k=>⟨xs,?_,rfl⟩,λ_ _ _=>rfl⟩
  ·show ((Vi.mask le ls s).sto.get q).isSome;rw[qc,if_pos e];simpa using k
  show ((Vi.mask le ls s).sto.get q).bind Obj.rw=_;have k':(s.sto.get q).bind Obj.rw=some (sz,xs):=k;rw[qc,if_pos e];cases ho:s.sto.get q with
  | none=>simp[ho]at k'
  | some o=>simp[ho]at k';simp[Obj.ld,k']
 have j:∀q o,(Vi.mask le ls s).sto.get q=some o->∃o',s.sto.get q=some o'/\o=o'.forget λr=> !ls.contains r.1:=λq o e=>by
  rw[qc]at e;split at e
  ·cases ho:s.sto.get q with
   | none=>simp[ho]at e
   | some o'=>rw[ho]at e;simp only[Option.map_some,Option.some.injEq]at e;exact ⟨o',rfl,e.symm⟩
  cases e
 have E:∀b,aY (Vi.mask le ls s).sto L b->aY s.sto L b:=λb I=>by
  obtain ⟨q,o,M,O⟩:=I;obtain ⟨o',V,rfl⟩:=j q o M;exact ⟨q,o',V,Obj.dQ O⟩
 refine ⟨⟨h.defers,?_,?_,λq q' b o o' e a0 I a1=>by
  obtain ⟨o2,M,rfl⟩:=j q o e;obtain ⟨o3,O,rfl⟩:=j q' o' a0;exact h.injH q q' b o2 o3 M O (Obj.dQ I) (Obj.dQ a1),λb I=>⟨(h.dis b I).1,λhl=>(h.dis b I).2 (E b hl)⟩⟩,
  ⟨rfl,rfl,rfl,Nat.le_refl _,λ_ _ _=>rfl,λb I=> .inl (E b I),λ_ h=>h,λ_ h=> .inl h,λ_ _=>rfl,λq _ e=>⟨(hsome q e).2,hsame q (hsome q e).1⟩⟩⟩
 ·have S:dH (aI w Z L s.sto) (s9 le 0 s.env) a.tmps.toList:=by
   have:=h.env;rw[bJ]at this |-;refine ⟨by rw[AQ];exact this.1,λi x v J hv=> ?_⟩;rw[AP]at J;cases U:s.env[i]? with
   | none=>simp[U]at J
   | some y=>
    simp[U]at J;split at J
    ·subst J;exact this.2 i y v U hv
    subst J;simp only[RV]
  refine cO (c:=aI w Z L s.sto) (c':=aI w Z L (Vi.mask le ls s).sto) (ko.refl _ _) _ _ (λq e=>hsame q ?_) (fU (p:=λr=> !ls.contains r.1) _ _ S);have:=dY _ q e;simpa using this
 intro q ob e;obtain ⟨M,O⟩:=hsome q (by simp[e]);obtain ⟨o,ho⟩:=Option.isSome_iff_exists.1 O;rw[qc,if_pos M,ho]at e;simp at e;subst e;refine jr (c:=aI w Z L s.sto) (c':=aI w Z L (Vi.mask le ls s).sto) (ko.refl _ _) rfl rfl (λ_ _=>rfl) (λk hk=>hsame k ?_) (lf (h.obj q o ho));have:=Obj.iZ o k hk;simpa using this
theorem tE {t:Nat} {x:AV} (h:RS s a w L Z) (j:t<a.tmps.size) (E:RV (aI w Z L s.sto) x a.tmps[t]):RS ⟨s.env.set t x,s.sto⟩ a w L Z:=by
 have e:=h.put (some t) E;have hsame:a.put (some t) a.tmps[t]=a:=by
  simp only[Act.put];have:a.tmps.setIfInBounds t a.tmps[t]=a.tmps:=by
   apply Array.ext';rw[Array.toList_setIfInBounds];apply List.ext_getElem?;intro i;by_cases hi:t=i
   ·subst hi;rw[List.getElem?_set_self (by simpa using j)];simp[j]
   rw[List.getElem?_set_ne hi]
  rw[this]
 rw[hsame]at e;exact e
theorem uF {t:Nat} {x:AV} (h:RS s a w L Z) (j:s.env[t]? =some x):∃E:t<a.tmps.size,RV (aI w Z L s.sto) x a.tmps[t]:=by
 obtain ⟨l1,l2⟩:=bJ.1 h.env;have e:t<a.tmps.size:=by rw[<-Array.length_toList,<-l1];exact (ax.1 j).1
 exact ⟨e,l2 t _ (a.tmps[t]) j (by simp[e])⟩
theorem rQ {c:Cx} {t:Id} {sz:gJ} {own:Bool} {v:Value} (E:c.L t=none) (I:c.obj t=some (rowOf own sz [])) (J:∃A,v= .slice A 0 0):RV c (.arr t sz none false) v:=by
 obtain ⟨A,M⟩:=J;simp only[RV];exact ⟨A,0,0,[],M,⟨Nat.le_refl _,Nat.zero_le _⟩,λe=>(by cases e),by rw[I];exact JU,λ_=>rfl,λ_ _ e=>(by cases e),λ_=>rfl,λb j=>by rw[E]at j;cases j⟩
theorem cP {np:Nat}:∀{ps:List (Nat×Option Nat×Nat×gJ×Bool)} {s s':St} {L:Loc},(∀p∈ps,p.2.2.1<np)->RS s a w L Z->dW (real call loop) ps s=some s'->∃L',RS s' a w L' Z/\Tr np s.sto s'.sto w w L L' Z Z
 | [],s,s',L,_,h,e=>by simp only[dW]at e;injection e with e;subst e;exact ⟨L,h,Tr.refl _ _ _ _ _⟩
 | (t,
    none,slot,sz,own)::ps,s,s',L,S,h,e=>by
  have j:∀p∈ps,p.2.2.1<np:=λp V=>S p (by simp[V])
  have E:slot<np:=S (t,none,slot,sz,own) (by simp);simp only[dW]at e;split at e
  ·rename_i he;split at e
   case h_2=>cases e
   rename_i s2 hl;obtain ⟨L',I,k2,k3,k4,_⟩:=wu (np:=np) h hl E (λc=>p_ c);have a5:=(eU hl).2;obtain ⟨ht,U⟩:=uF h he;simp only[RV]at U;have a0:=tE (t:=t) I ht (rQ (c:=aI w Z L' s2.sto) (own:=own) (sz:=sz) k3 k4 U);obtain ⟨J,M,O⟩:=cP j a0 e;exact ⟨J,M,k2.trans O⟩
  ·rename_i r a1 g u he;split at e
   ·split at e
    ·rename_i sz' xs ho;split at e
     case h_2=>cases e
     rename_i hf;obtain ⟨L',I,k2,_⟩:=RS.JT np h ho hf;obtain ⟨J,M,O⟩:=cP j I e;exact ⟨J,M,k2.trans O⟩
    exact cP j h e
   exact cP j h e
  exact cP j h e
 | (t,
    some c,
        slot,sz,own)::ps,s,s',L,S,h,e=>by
  have j:∀p∈ps,p.2.2.1<np:=λp V=>S p (by simp[V])
  have E:slot<np:=S (t,some c,slot,sz,own) (by simp);simp only[dW]at e;split at e
  case h_2=>cases e
  rename_i r b he;split at e
  case h_2=>cases e
  rename_i cs hr;split at e
  ·rename_i hc;split at e
   case h_2=>cases e
   rename_i s2 hl;obtain ⟨L',I,k2,k3,k4,k5⟩:=wu (np:=np) h hl E (λc=>p_ c);have a6:(slot,0).1=slot:=rfl;have a3:r.1≠slot:=λe2=>by
    have:=gW (eU hl).1 r e2;rw[hr]at this;cases this
   have a4:s2.sto.get r=some (.box cs):=by rw[dX (eU hl).1,if_neg a3];exact hr
   obtain ⟨L3,n1,n2⟩:=RS.R0 (y:= .arr (slot,0) sz none false) np I a4 hc (λv U=>by
    simp only[RV]at U;exact rQ (c:=aI w Z L' s2.sto) (own:=own) k3 k4 U)
   obtain ⟨J,M,O⟩:=cP j n1 e;exact ⟨J,M,(k2.trans n2).trans O⟩
  ·rename_i q a1 g u hc;split at e
   ·split at e
    ·rename_i sz' xs ho;split at e
     case h_2=>cases e
     rename_i hf;obtain ⟨L',I,k2,_⟩:=RS.JT np h ho hf;obtain ⟨J,M,O⟩:=cP j I e;exact ⟨J,M,k2.trans O⟩
    exact cP j h e
   exact cP j h e
  exact cP j h e
end
end
section
section
variable {P:Program} {call:dh} {loop:di}
variable {s:St} {a:Act} {w:World} {L:Loc} {Z:Nat->Prop}
def iw:mg->Bool
 | .emptyRow | .buildZ _ _ _ _ _=>true
 | .move _ | .pick _ _ _ | .load _ _ _ | .bin _ _ _ _ | .eqNil _ _ | .neg _ | .not _ | .conv _ _ | .mkfn _ _ | .slice _ _ _ _ _ _ | .fieldAddr _ _ | .field _ _ _ _ | .indexAddr _ _ _ | .index _ _ | .extract _ _ | .len _ _ | .build _ _=>true
 | _=>false
def uG:mg->Bool
 | .call _ m raw _=> !raw&&(m== .pure || m== .bor)
 | .callv _ m raw _=> !raw&&(m== .pure || m== .bor)
 | op=>iw op
def fe:VX->List Nat
 | .tmp t=>[t]
 | .home t=>[t]
 | .const _=>[]
def Sj:Option VX->List Nat
 | some x=>fe x
 | none=>[]
def CO:mg->List Nat
 | .move x=>fe x
 | .pick c x y=>fe c++fe x++fe y
 | .load _ _ x=>fe x
 | .bin _ _ x y=>fe x++fe y
 | .neg x=>fe x
 | .eqNil _ x=>fe x
 | .not x=>fe x
 | .conv _ x=>fe x
 | .mkfn _ xs=>xs.flatMap fe
 | .slice _ _ x lo hi mx=>fe x++Sj lo++Sj hi++Sj mx
 | .fieldAddr _ x=>fe x
 | .field _ _ _ x=>fe x
 | .indexAddr _ x i=>fe x++fe i
 | .index x i=>fe x++fe i
 | .extract x _=>fe x
 | .len _ x=>fe x
 | .build _ ps=>ps.flatMap λp=>fe p.2.2
 | .call _ _ _ xs=>xs.flatMap fe
 | .callv f _ _ xs=>fe f++xs.flatMap fe
 | .box x=>fe x
 | .buildRow _ _ _ _ ps=>ps.flatMap λp=>fe p.2
 | .buildZ _ _ _ _ ps=>ps.flatMap λp=>fe p.2
 | .storeP _ a x=>fe a++fe x
 | .storeR _ a x=>fe a++fe x
 | .appendE _ _ x y=>fe x++fe y
 | .append _ _ x y=>fe x++fe y
 | .appendO _ _ x y=>fe x++fe y
 | .buildO _ x=>fe x
 | .appendH _ _ x y=>fe x++fe y
 | .buildH _ _ x=>fe x
 | .lendF x=>fe x
 | _=>[]
def oC (v:bV):List Nat:=(match v.guard with | some (t,_)=>[t] | none=>[])++CO v.op
def Like (e e':List AV) (ts:List Nat):Prop:=∀t∈ts,e'[t]? =e[t]?
theorem Like.app {e e':List AV} {xs ys:List Nat} (h:Like e e' (xs++ys)):Like e e' xs/\Like e e' ys:=
 ⟨λt j=>h t (List.mem_append.2 (.inl j)),λt j=>h t (List.mem_append.2 (.inr j))⟩
theorem bK {e e':List AV} {x:VX} (h:Like e e' (fe x)):ev e' x=ev e x:=by
 cases x with
 | tmp t=>exact h t (by simp[fe])
 | const a=>rfl
 | home t=>simp only[ev,h t (by simp[fe])]
theorem lQ {e e':List AV}:∀{xs:List VX},Like e e' (xs.flatMap fe)->zi e' xs=zi e xs
 | [],_=>rfl
 | x::xs,h=>by
  rw[List.flatMap_cons]at h;obtain ⟨j,E⟩:=h.app;simp only[zi,bK j,lQ E]
theorem yC {e e':List AV} {x:Option VX} (h:Like e e' (Sj x)):Gf e' x=Gf e x:=by
 cases x with
 | none=>rfl
 | some x=>simp only[Gf,bK (show Like e e' (fe x)from h)]
theorem tG {e e':List AV}:∀{xs:List (Nat×Nat×VX)},Like e e' (xs.flatMap λp=>fe p.2.2)->jT e' xs=jT e xs
 | [],_=>rfl
 | (i,n,x)::xs,h=>by
  rw[List.flatMap_cons]at h;obtain ⟨j,E⟩:=h.app;simp only[jT,bK (show Like e e' (fe x)from j),tG E]
theorem ru {e e':List AV}:∀{xs:List (Nat×VX)},Like e e' (xs.flatMap λp=>fe p.2)->dw e' xs=dw e xs
 | [],_=>rfl
 | (i,x)::xs,h=>by
  rw[List.flatMap_cons]at h;obtain ⟨j,E⟩:=h.app;simp only[dw,bK (show Like e e' (fe x)from j),ru E]
theorem j8 {o:aM} {e e':List AV} {sto:bC} {op:mg} (I:iw op=true) (h:Like e e' (CO op)):evalOp o e' sto op=evalOp o e sto op:=by
 cases op<;>first
  | (simp[iw]at I;done)
  | (simp only[evalOp,bK (show Like e e' (fe _)from h)];done)
  | (simp only[evalOp,lQ (show Like e e' _ from h)];done)
  | rfl
  | (simp only[evalOp,tG (show Like e e' _ from h)];done)
  | (simp only[evalOp,ru (show Like e e' _ from h)];done)
  | (have j:=Like.app h;simp only[evalOp,bK j.1,bK j.2];done)
  | (have j:=Like.app h;have E:=Like.app j.1;simp only[evalOp,bK j.2,bK E.1,bK E.2];done)
  | (have j:=Like.app h;have E:=Like.app j.1;have h3:=Like.app E.1;simp only[evalOp,yC j.2,yC E.2,yC h3.2,bK h3.1];done)
theorem uH {o:aM} {e:List AV} {sto:bC} {op:mg} {v:AV} {new:List (Option Obj)} (j:iw op=true) (h:evalOp o e sto op=some (v,new)):new=[]:=by
 cases op<;>first
  | (simp[iw]at j;done)
  | (
   simp only[evalOp]at h
   repeat' split at h
   all_goals first | (cases h;done) | (injection h with h;injection h with I E;exact E.symm))
theorem iT {o:aM} {s:St} {dst:Option Nat} {op:mg} (j:iw op=true):aK o s dst op=match evalOp o s.env s.sto op with
  | some (v,[])=>some (v,s)
  | some (v,e::new)=>match dst with
   | some t=>match s.lay t (e::new)with
    | some s=>some (v.map λr=>if r=(0,0)then (t,0)else r,s)
    | none=>none
   | none=>none
  | none=>none:=by
 cases op<;>first
  | (simp[iw]at j;done)
  | rfl
def oW (s s':bC):Prop:=∀r ob,s.get r=some ob->s'.get r=some ob
theorem oW.refl (s:bC):oW s s:=λ_ _ h=>h
theorem lR {o:aM} {s s':bC} (e:oW s s') {a:AV} {xs:List D} (h:content o s a=some xs):content o s' a=some xs:=by
 unfold content at h |-;split at h
 ·exact h
 ·exact h
 ·split at h
  ·rename_i j;simp only[e _ _ j];exact h
  cases h
 cases h
theorem qd {o:aM} {s s':bC} (e:oW s s') {r:Id} {sz:gJ} {g:Option (Int×Int)} {u:Bool} {xs:List D} (h:fG o s (.arr r sz g u)=some xs):fG o s' (.arr r sz g u)=some xs:=by
 simp only[fG]at h |-;cases ho:s.get r with
 | none=>
  rw[ho]at h;simp only[content,ho]at h;cases h
 | some ob=>
  rw[e _ _ ho];rw[ho]at h;cases ob with
  | orows _ _=>exact h
  | hrows _ _ _ _ _ _=>exact h
  | box _=>simp only[content,ho]at h;cases h
  | gone _ _=>simp only[content,ho]at h;cases h
  | rows _ _=>exact lR e h
theorem R2 {s s':bC} (e:oW s s') {r:Id} {p:gJ×List D} (h:s.rd r=some p):s'.rd r=some p:=by
 unfold bC.rd at h |-;split at h
 ·rename_i j;rw[e _ _ j];exact h
 cases h
theorem Hz {o:aM} {s s':bC} (j:oW s s') {agg:Bool} {n:Nat} {a v:AV} (h:loadAt o s agg n a=some v):loadAt o s' agg n a=some v:=by
 unfold loadAt at h |-;split at h
 ·split at h
  ·rename_i e;simp only[j _ _ e];exact h
  cases h
 ·split at h
  ·rename_i e;simp only[R2 j e];exact h
  cases h
 ·exact h
 cases h
theorem EN {o:aM} {s s':bC} (e:oW s s') {sz:gJ} {x v:AV} {lo hi mx:Option Int} (h:sliceAt o s sz x lo hi mx=some v):sliceAt o s' sz x lo hi mx=some v:=by
 unfold sliceAt at h |-;cases mx with
 | some m=>
  simp only at h |-;cases hc:content o s x with
  | none=>simp[hc]at h
  | some xs=>rw[lR e hc];rw[hc]at h;exact h
 | none=>
  simp only at h |-;split at h
  ·exact h
  ·exact h
  ·split at h
   ·cases h
   rename_i hc;simp only[qd e hc];exact h
  cases h
theorem DB {o:aM} {s s':bC} (e:oW s s') {r:Id} {sz:gJ} {g:Option (Int×Int)} {u:Bool} {xs:List D} (h:rp o s r sz g u=some xs):rp o s' r sz g u=some xs:=by
 unfold rp at h |-;cases ho:s.get r with
 | none=>
  rw[ho]at h;simp only[content,ho]at h;cases h
 | some ob=>
  rw[e _ _ ho];rw[ho]at h;cases ob with
  | orows _ _=>exact h
  | box _=>simp only[content,ho]at h;cases h
  | gone _ _=>simp only[content,ho]at h;cases h
  | hrows z ys i off q J=>
   simp only at h |-;split at h
   ·rename_i j zs cs E I;rw[e _ _ E,I];exact h
   cases h
  | rows _ _=>
   simp only at h |-;exact lR e h
theorem tH {o:aM} {s s':bC} (j:oW s s'):∀(cs:List AV) {ds:List D},dB o s cs=some ds->dB o s' cs=some ds
 | [],ds,h=>h
 | .d x::l,ds,h=>by
  simp only[dB]at h |-;split at h
  ·rename_i e;rw[tH j l e];exact h
  cases h
 | .emp::l,ds,h=>by
  simp only[dB]at h |-;split at h
  ·rename_i e;rw[tH j l e];exact h
  cases h
 | .arr r sz g u::l,ds,h=>by
  simp only[dB]at h |-;split at h
  ·rename_i E;rw[DB j E];simp only;split at h
   ·rename_i e;rw[tH j l e];exact h
   cases h
  cases h
 | .undef::_,_,h=>by simp[dB]at h
 | .bare::_,_,h=>by simp[dB]at h
 | .agg _::_,_,h=>by simp[dB]at h
 | .tup _::_,_,h=>by simp[dB]at h
 | .nilp::_,_,h=>by simp[dB]at h
 | .ptr _ _::_,_,h=>by simp[dB]at h
 | .prow _ _ _ _::_,_,h=>by simp[dB]at h
 | .sp _ _::_,_,h=>by simp[dB]at h
 | .fn _ _::_,_,h=>by simp[dB]at h
mutual
theorem Mq {o:aM} {s s':bC} (j:oW s s'):∀(a:AV) {v:AV},snap o s a=some v->snap o s' a=some v
 | .emp,v,h=>h
 | .arr r sz g u,v,h=>by
  simp only[snap]at h |-;split at h
  ·rename_i e;rw[DB j e];exact h
  cases h
 | .agg cs,v,h=>by
  simp only[snap]at h |-;split at h
  ·rename_i e;rw[j9 j cs e];exact h
  cases h
 | .undef,v,h=>h
 | .bare,v,h=>h
 | .d _,v,h=>h
 | .tup _,v,h=>h
 | .nilp,v,h=>h
 | .ptr r off,v,h=>by
  simp only[snap]at h |-;split at h
  ·rename_i cs e;rw[j _ _ e];simp only;split at h
   ·rename_i E;rw[tH j _ E];exact h
   cases h
  cases h
 | .prow _ _ _ _,v,h=>h
 | .sp _ _,v,h=>h
 | .fn _ _,v,h=>h
theorem j9 {o:aM} {s s':bC} (e:oW s s'):∀(as:List AV) {vs:List AV},jz o s as=some vs->jz o s' as=some vs
 | [],vs,h=>h
 | a::as,vs,h=>by
  simp only[jz]at h |-;split at h
  case h_2=>cases h
  rename_i x E;rw[Mq e a E];simp only;split at h
  case h_2=>cases h
  rename_i xs j;rw[j9 e as j];exact h
end
theorem HA {o:aM} {e:List AV} {s s':bC} (I:oW s s') {op:mg} (J:iw op=true) {r:AV×List (Option Obj)} (h:evalOp o e s op=some r):evalOp o e s' op=some r:=by
 cases op<;>first
  | (simp[iw]at J;done)
  | exact h
  | skip
 case load agg n a=>
  simp only[evalOp]at h |-;cases E:ev e a with
  | none=>simp[E]at h
  | some p=>
   simp only[E]at h |-;cases j:loadAt o s agg n p with
   | none=>simp[j]at h
   | some v=>rw[Hz I j];rw[j]at h;exact h
 case conv c x=>
  simp only[evalOp]at h |-;cases E:ev e x with
  | none=>simp[E]at h
  | some a=>
   simp only[E]at h |-;cases c with
   | int k=>cases a<;>first | exact h | (rename_i q;cases q<;>exact h)
   | str=>cases a<;>first | exact h | (rename_i q;cases q<;>exact h)
   | bytesToStr=>
    cases j:content o s a with
    | none=>simp[j]at h
    | some xs=>simp only[lR I j];simp only[j]at h;exact h
 case indexAddr sz x i=>
  simp only[evalOp]at h |-;split at h
  ·exact h
  ·split at h
   ·rename_i hc;simp only[qd I hc];exact h
   cases h
  cases h
 case len D7 x=>
  simp only[evalOp]at h |-;split at h
  case h_2=>cases h
  rename_i a E;split at h
  ·cases h
  split at h
  ·exact h
  ·exact h
  ·exact h
  ·split at h
   ·exact h
   split at h
   ·rename_i hc;simp only[qd I hc];exact h
   cases h
  cases h
 rename_i isStr sz x lo hi mx;simp only[evalOp]at h |-;split at h
 case h_2=>cases h
 rename_i x lo hi mx E j h3 h4;split at h
 case h_2=>cases h
 rename_i lo hi mx O S U;split at h
 ·exact h
 ·split at h
  ·rename_i M;simp only[EN I M];exact h
  cases h
 cases h
theorem i9 {s:bC} {n:Nat}:reach s n [] []=some []:=by cases n<;>rfl
theorem yD {f:FuncId} {m:mE} {as:List AV} {dst:Option Nat} {s s':St} {v:AV} (hm:(m== .pure || m== .bor)=true) (e:dJ (real call loop) f m false as dst s=some (v,s')):
  s'=s/\∀env E,oW s.sto E->dJ (real call loop) f m false as dst ⟨env,E⟩=some (v,⟨env,E⟩):=by
 cases m with
 | frz=>simp at hm
 | ref=>simp at hm
 | bor=>
  simp only[dJ]at e |-;split at e
  ·cases e
  rename_i as' h1;split at e
  ·cases e
  rename_i h2;split at e
  ·cases e
  rename_i c h3;split at e
  case h_2=>cases e
  rename_i h4;injection e with e;injection e with V e2;subst V e2;refine ⟨rfl,λenv E M=> ?_⟩;simp only[j9 M _ h1,h2,h3,h4]
 | pure=>
  simp only[dJ]at e |-;split at e
  ·cases e
  rename_i hp;have hr:AV.bR as=[]:=by simpa using hp
  simp only[handed]at e |-;split at e
  ·cases e
  rename_i as' s2 J;split at J
  case h_2=>cases J
  rename_i a0 O;injection J with J;injection J with q1 q2;subst q1 q2;have S:=jJ as _ hr O;simp only[S,i9,List.map_nil]at e;split at e
  ·cases e
  rename_i c hc;split at e
  ·cases e
  rename_i sto I;have j:c.pars=[]/\sto=s.sto:=by
   cases U:c.pars with
   | nil=>rw[U]at I;simp only[gB]at I;injection I with I;exact ⟨rfl,I.symm⟩
   | cons x xs=>rw[U]at I;simp[gB]at I
  obtain ⟨j,rfl⟩:=j;simp only[j,St.buried,gK]at e;split at e
  ·rename_i hX;injection e with e;injection e with V e2;subst V e2;refine ⟨rfl,λenv E M=> ?_⟩;simp only[hp,j9 M _ O,S,i9,List.map_nil,hc,j,gB,St.buried,gK,hX]
  simp at e
def d_ (o:aM) (v:bV) (s:St):Option St:=match wanted s.env v.guard with
 | some true=>match aK o s v.dst v.op with
  | some (u,s)=>some ⟨eD s.env v.dst u,s.sto⟩
  | none=>none
 | some false=>some ⟨eD s.env v.dst .bare,s.sto⟩
 | none=>none
theorem cj {o:aM} {v:bV} {l:List bV} {s:St}:bg o (v::l) s=match d_ o v s with | some s=>bg o l s | none=>none:=by
 cases e:wanted s.env v.guard with
 | none=>simp only[bg,d_,e]
 | some b=>
  cases b with
  | false=>simp only[bg,d_,e]
  | true=>
   cases j:aK o s v.dst v.op with
   | none=>simp only[bg,d_,e,j]
   | some p=>obtain ⟨u,s1⟩:=p;simp only[bg,d_,e,j]
theorem fQ {o:aM} {v:bV} {s:St}:bg o [v] s=d_ o v s:=by
 rw[cj];cases d_ o v s<;>rfl
theorem js {o:aM}:∀{l m:List bV} {s:St},bg o (l++m) s=match bg o l s with | some s=>bg o m s | none=>none
 | [],m,s=>rfl
 | v::l,m,s=>by
  rw[List.cons_append,cj,cj];cases d_ o v s with
  | none=>rfl
  | some s1=>exact js
theorem rR {v:bV} {s s':St} (hst:uG v.op=true) (e:d_ (real call loop) v s=some s'):
  ∃u,s'=⟨eD s.env v.dst u,s.sto⟩/\∀env j,Like s.env env (oC v)->oW s.sto j->d_ (real call loop) v ⟨env,j⟩=some ⟨eD env v.dst u,j⟩:=by
 have hw:∀{env},Like s.env env (oC v)->wanted env v.guard=wanted s.env v.guard:=by
  intro env hl;obtain ⟨M,_⟩:=hl.app;cases hg:v.guard with
  | none=>rfl
  | some g=>
   obtain ⟨t,b⟩:=g;rw[hg]at M;simp only[wanted,M t (by simp)]
 unfold d_ at e;split at e
 ·rename_i V;have key:∃u,aK (real call loop) s v.dst v.op=some (u,s)/\∀env j,Like s.env env (oC v)->oW s.sto j->aK (real call loop) ⟨env,j⟩ v.dst v.op=some (u,⟨env,j⟩):=by
   split at e
   case h_2=>cases e
   rename_i u s1 E;have quiet:iw v.op=true->s1=s/\∀env j,Like s.env env (oC v)->oW s.sto j->aK (real call loop) ⟨env,j⟩ v.dst v.op=some (u,⟨env,j⟩):=by
    intro hq;rw[iT hq]at E;split at E
    case h_3=>cases E
    case h_2 u' e' new' a0=>have:=uH hq a0;cases this
    rename_i u' a0;injection E with E;injection E with q1 q2;subst q1 q2;refine ⟨rfl,λenv j hl I=> ?_⟩;rw[iT hq];simp only[j8 hq (hl.app).2,HA I hq a0]
   cases J:v.op with
   | call f m raw xs=>
    rw[J]at hst E;simp only[uG,af,Bool.not_eq_true']at hst;obtain ⟨S,hm⟩:=hst;subst S;simp only[aK]at E;split at E
    case h_2=>cases E
    rename_i as has;obtain ⟨M,U⟩:=yD hm E;refine ⟨u,by rw[J]at*;simp only[aK,has];rw[<-M];rw[M];rw[M]at E;exact E,λenv j hl I=> ?_⟩;have O:=(hl.app).2;rw[J]at O;simp only[aK,lQ (show Like s.env env _ from O),has];exact U env j I
   | callv f m raw xs=>
    rw[J]at hst E;simp only[uG,af,Bool.not_eq_true']at hst;obtain ⟨S,hm⟩:=hst;subst S;simp only[aK]at E;split at E
    case h_2=>cases E
    rename_i g cap as hf has;obtain ⟨M,U⟩:=yD hm E;refine ⟨u,by rw[M]at E;simp only[aK,hf,has];exact E,λenv j hl I=> ?_⟩;have O:=(hl.app).2;rw[J]at O;obtain ⟨hl3,a1⟩:=Like.app (show Like s.env env (fe f++xs.flatMap fe)from O);simp only[aK,bK hl3,lQ a1,hf,has];exact U env j I
   | _=>
    rw[J]at hst;obtain ⟨M,U⟩:=quiet (by rw[J];exact hst);rw[J]at E U;exact ⟨u,by rw[M]at E;exact E,U⟩
  obtain ⟨u,k1,k2⟩:=key;rw[k1]at e;injection e with e;refine ⟨u,e.symm,λenv j hl I=> ?_⟩;unfold d_;rw[hw hl,V];simp only[k2 env j hl I]
 ·rename_i V;injection e with e;refine ⟨.bare,e.symm,λenv j hl I=> ?_⟩;unfold d_;rw[hw hl,V]
 cases e
end
end
end Go.Vi
