import Derived.Test.YtfnagkpidcdocaaGreatM09
set_option linter.all false
namespace Go.Vi
open Go Go.RowKit
section
variable {P:Program} {call:dh} {loop:di}
variable {s:St} {a:Act} {w:World} {L:Loc} {Z:Nat->Prop}
def yI:mg->Bool
 | .alloc _ | .box _ | .buildRow _ _ _ _ _ | .buildH _ _ _ | .appendE _ _ _ _=>true
 | .call _ m raw _=>raw&&(m== .bor || m== .pure)
 | _=>false
def HC:mg->Bool
 | .storeP _ _ _ | .storeR _ _ _=>true
 | _=>false
def J8 (x y:mg):Bool:=(uG x&&uG y) || (uG x&&yI y) || (yE x&&(yI y || HC y)) || ((yI x || HC x)&&yE y)
def DK (x y:bV):Bool:=(J8 x.op y.op&&yF x.dst (oC y)&&yF y.dst (oC x)&&P2 x.dst y.dst) ||
 (x.guard.isNone&&y.guard.isNone&&Cl x.op y.op&&yF x.dst (CO y.op)&&yF y.dst (CO x.op)&&P2 x.dst y.dst)
theorem qE {env:List AV} {d:Option Nat} {u:AV} {ts:List Nat} (h:yF d ts=true):Like env (eD env d u) ts:=λt e=>(lS h t e).symm
theorem Cm {s s':bC} {t:Nat} {l:List (Option Obj)} (h:s.lay t l=some s'):oW s s':=by
 unfold bC.lay at h;split at h
 case h_2=>cases h
 rename_i old ho;split at h
 case isFalse=>cases h
 rename_i I;injection h with h;subst h;intro r ob e;unfold bC.get at e |-;by_cases E:t=r.1
 ·subst E;rw[ho]at e;simp only at e;exfalso;cases j:old[r.2]? with
  | none=>simp[j]at e
  | some q=>
   simp only[j]at e;have:=List.all_eq_true.1 I q (List.mem_of_getElem? j);rw[e]at this;simp at this
 rw[List.getElem?_set_ne E];exact e
theorem mL {s:St} {env:List AV} {v:bV} (hl:Like s.env env (oC v)):wanted env v.guard=wanted s.env v.guard:=by
 obtain ⟨e,_⟩:=hl.app;cases j:v.guard with
 | none=>rfl
 | some g=>
  obtain ⟨t,b⟩:=g;rw[j]at e;simp only[wanted,e t (by simp)]
theorem DL {v:bV} {s s':St} (I:yE v.op=true) (e:d_ (real call loop) v s=some s'):
  ∃u,s'=⟨eD s.env v.dst u,s.sto⟩/\∀env E,Like s.env env (oC v)->d_ (real call loop) v ⟨env,E⟩=some ⟨eD env v.dst u,E⟩:=by
 unfold d_ at e;split at e
 ·rename_i M;split at e
  case h_2=>cases e
  rename_i u s1 j;injection e with e;rw[iT (qC I)]at j;split at j
  case h_3=>cases j
  case h_2 u' e' new' J=>have:=uH (qC I) J;cases this
  rename_i u' J;injection j with j;injection j with O S;subst O S;refine ⟨u',e.symm,λenv E hl=> ?_⟩;unfold d_;rw[mL hl,M];simp only;rw[iT (qC I)];simp only[j8 (qC I) (hl.app).2,yG (s':=s.sto) I,J]
 ·rename_i M;injection e with e;refine ⟨.bare,e.symm,λenv E hl=> ?_⟩;unfold d_;rw[mL hl,M]
 cases e
theorem tM {e e':List AV}:∀{xs:List (Nat×VX)},Like e e' (xs.flatMap λp=>fe p.2)->dw e' xs=dw e xs
 | [],_=>rfl
 | (i,x)::xs,h=>by
  rw[List.flatMap_cons]at h;obtain ⟨j,E⟩:=h.app;simp only[dw,bK (show Like e e' (fe x)from j),tM E]
theorem P3 {op:mg} {dst:Option Nat} {s s1:St} {u:AV} (hw:(yI op || HC op)=true) (e:aK (real call loop) s dst op=some (u,s1)):
  ∃j,s1=⟨s.env,j⟩/\(yI op=true->oW s.sto j)/\∀env,Like s.env env (CO op)->aK (real call loop) ⟨env,s.sto⟩ dst op=some (u,⟨env,j⟩):=by
 cases op<;>first | (simp[yI,HC]at hw;done) | skip
 case call f m raw args=>
  have hm:raw=true/\(m= .bor\/m= .pure):=by simpa [yI,HC]using hw
  obtain ⟨rfl,rfl | rfl⟩:=hm
  case inr=>
   simp only[aK]at e;cases S:zi s.env args with
   | none=>simp[S]at e
   | some as=>
    simp only[S,dJ]at e;split at e
    ·cases e
    rename_i hp;have hr:AV.bR as=[]:=by simpa using hp
    simp only[handed]at e;split at e
    ·cases e
    rename_i as' s2 a0;split at a0
    case h_2=>cases a0
    rename_i a9 a1;injection a0 with a0;injection a0 with V J;subst V J;have a3:=jJ as _ hr a1;simp only[a3,i9,List.map_nil]at e;split at e
    ·cases e
    rename_i c hc;split at e
    ·cases e
    rename_i sto U;have M:c.pars=[]/\sto=s.sto:=by
     cases a5:c.pars with
     | nil=>rw[a5]at U;simp only[gB]at U;injection U with U;exact ⟨rfl,U.symm⟩
     | cons x xs=>rw[a5]at U;simp[gB]at U
    obtain ⟨M,rfl⟩:=M;simp only[M,St.buried,gK]at e;have a6:∀env,Like s.env env (CO (.call f .pure true args))->zi env args=some as:=λenv E=>by rw[<-S];exact lQ E
    split at e
    ·rename_i hX;injection e with e;injection e with e1 e2;subst e1 e2;refine ⟨s.sto,rfl,λ_=>oW.refl _,λenv E=> ?_⟩;simp only[aK,a6 env E,dJ,hp,handed,a1,a3,i9,List.map_nil,hc,M,gB,St.buried,gK,hX]
    rename_i e0 ex hX;split at e
    · rename_i t aa hd;split at e
      case h_2=>cases e
      rename_i s3 hl;injection e with e;injection e with e1 e2;subst e1 e2;obtain ⟨j,n1,n2⟩:=jK hl;subst n2;refine ⟨j,rfl,λ_=>tK n1,λenv E=> ?_⟩;simp only[aK,a6 env E,dJ,hp,handed,a1,a3,i9,List.map_nil,hc,M,gB,St.buried,gK,hX,jL n1]
    cases e
  have hb:∀env,zi env args=zi s.env args->aK (real call loop) ⟨env,s.sto⟩ dst (.call f .bor true args)=match aK (real call loop) s dst (.call f .bor true args)with | some (u,s1)=>some (u,⟨env,s1.sto⟩) | none=>none:=by
   intro env S;simp only[aK,S];cases zi s.env args with
   | none=>rfl
   | some as=>
    simp only[dJ];cases jz (real call loop) s.sto as with
    | none=>rfl
    | some as'=>
     simp only;cases (AV.bR as').isEmpty with
     | false=>rfl
     | true=>
      simp only;cases (real call loop).call f as' []with
      | none=>rfl
      | some c=>
        simp only;cases scalar c.ret with
        | true=>rfl
        | false=>
          simp only;cases dst with
          | none=>rfl
          | some t=>
            cases c.pars with
            | cons _ _=>rfl
            | nil=>
              cases fq c.ret with
              | false=>rfl
              | true=>
               cases jS (real call loop) c.extra with
               | false=>rfl
               | true=>
                simp only[St.lay];cases s.sto.lay t (c.extra.map λob=>ob.map (·.map λr=>(t,r.2)))<;>rfl
  have hs:∃j,
               s1=⟨s.env,j⟩/\oW s.sto j:=by
   simp only[aK]at e;cases I:zi s.env args with
   | none=>simp[I]at e
   | some as=>
    simp only[I,dJ]at e;cases O:jz (real call loop) s.sto as with
    | none=>simp[O]at e
    | some as'=>
     simp only[O]at e;cases h3:(AV.bR as').isEmpty with
     | false=>simp[h3]at e
     | true=>
      simp only[h3]at e;cases h4:(real call loop).call f as' []with
      | none=>simp[h4]at e
      | some c=>
        simp only[h4]at e;cases h5:scalar c.ret with
        | true=>
          simp only[h5]at e;injection e with e;injection e with V J;exact ⟨s.sto,by rw[<-J],oW.refl _⟩
        | false=>
          simp only[h5]at e;split at e
          case h_2=>cases e
          rename_i t _ _ _ _;simp only[St.lay]at e;split at e
          case h_2=>cases e
          rename_i s2 hl;split at hl
          case h_2=>cases hl
          rename_i sto a4;injection hl with hl;injection e with e;injection e with V J;exact ⟨sto,by rw[<-J,<-hl],Cm a4⟩
  obtain ⟨j,I,O⟩:=hs;refine ⟨j,I,λ_=>O,λenv hl=> ?_⟩;rw[hb env (lQ hl),e,I]
 case alloc cs=>
  simp only[aK,evalOp]at e;cases dst with
  | none=>simp at e
  | some t=>
   simp only[St.lay]at e;cases hl:s.sto.lay t [some (.box cs)]with
   | none=>simp[hl]at e
   | some sto=>
    simp only[hl]at e;injection e with e;injection e with V J;subst V J;exact ⟨sto,rfl,λ_=>Cm hl,λenv _=>by simp only[aK,evalOp,St.lay,hl]⟩
 case box x=>
  have hb:∀env,ev env x=ev s.env x->aK (real call loop) ⟨env,s.sto⟩ dst (.box x)=match aK (real call loop) s dst (.box x)with | some (u,s1)=>some (u,⟨env,s1.sto⟩) | none=>none:=by
   intro env S;simp only[aK,evalOp,S];cases ev s.env x with
   | none=>rfl
   | some a=>
    cases a<;>first
     | rfl
     | (
       cases dst with
       | none=>rfl
       | some t=>
         simp only[St.lay];generalize s.sto.lay t _=q;cases q<;>rfl)
  have hs:∃j,s1=⟨s.env,j⟩/\oW s.sto j:=by
   simp only[aK,evalOp]at e;cases S:ev s.env x with
   | none=>simp[S]at e
   | some a=>
    simp only[S]at e;cases a<;>first
     | (simp at e;done)
     | (
       cases dst with
       | none=>simp at e
       | some t=>
         simp only[St.lay]at e;split at e
         case h_2=>cases e
         rename_i sto hl;split at hl
         case h_2=>cases hl
         rename_i a7 a4;injection hl with hl;injection e with e;injection e with V J;exact ⟨a7,by rw[<-J,<-hl],Cm a4⟩)
  obtain ⟨j,I,O⟩:=hs;refine ⟨j,I,λ_=>O,λenv hl=> ?_⟩;rw[hb env (bK hl),e,I]
 case buildRow sz agg zero len ps=>
  have hb:∀env,dw env ps=dw s.env ps->aK (real call loop) ⟨env,s.sto⟩ dst (.buildRow sz agg zero len ps)=match aK (real call loop) s dst (.buildRow sz agg zero len ps)with | some (u,s1)=>some (u,⟨env,s1.sto⟩) | none=>none:=by
   intro env S;simp only[aK,S];cases dw s.env ps with
   | none=>rfl
   | some qs=>
    cases dst with
    | none=>rfl
    | some t=>
     simp only;by_cases hz:zero.length=sz.2
     ·rw[if_pos hz,if_pos hz];cases dZ zero with
      | none=>rfl
      | some ds=>
        simp only;cases D.bS agg ds with
        | none=>rfl
        | some z=>
          simp only;cases pX (qs.map (·.2))with
          | none=>rfl
          | some xs=>
            simp only;cases jn sz.2 (List.replicate len z) ((qs.map (·.1)).zip xs)with
            | none=>rfl
            | some l=>
              cases l with
              | nil=>rfl
              | cons y ys=>
               simp only[St.lay];cases s.sto.lay t [some (.rows sz (y::ys))]<;>rfl
     rw[if_neg hz,if_neg hz]
  have hs:∃j,
               s1=⟨s.env,j⟩/\oW s.sto j:=by
   simp only[aK]at e;cases I:dw s.env ps with
   | none=>simp[I]at e
   | some qs=>
    cases dst with
    | none=>simp[I]at e
    | some t=>
     simp only[I]at e;by_cases hz:zero.length=sz.2
     ·rw[if_pos hz]at e;cases O:dZ zero with
      | none=>simp[O]at e
      | some ds=>
        simp only[O]at e;cases h3:D.bS agg ds with
        | none=>simp[h3]at e
        | some z=>
          simp only[h3]at e;cases h4:pX (qs.map (·.2))with
          | none=>simp[h4]at e
          | some xs=>
            simp only[h4]at e;cases h5:jn sz.2 (List.replicate len z) ((qs.map (·.1)).zip xs)with
            | none=>simp[h5]at e
            | some l=>
              cases l with
              | nil=>
               simp only[h5]at e;injection e with e;injection e with V J;exact ⟨s.sto,by rw[<-J],oW.refl _⟩
              | cons y ys=>
               simp only[h5,St.lay]at e;cases h6:s.sto.lay t [some (.rows sz (y::ys))]with
               | none=>simp[h6]at e
               | some sto=>
                simp only[h6]at e;injection e with e;injection e with V J;exact ⟨sto,J.symm,Cm h6⟩
     rw[if_neg hz]at e;cases e
  obtain ⟨j,I,O⟩:=hs;refine ⟨j,I,λ_=>O,λenv hl=> ?_⟩;rw[hb env (tM hl),e,I]
 case storeP n a x=>
  simp only[aK]at e;split at e
  case h_2=>cases e
  rename_i r off v I O;simp only[storeAt]at e;split at e
  case h_2=>cases e
  rename_i s2 hs2;injection e with e;injection e with V J;subst V J;split at hs2
  case isTrue=>cases hs2
  rename_i hc;split at hs2
  case h_2=>cases hs2
  rename_i cs hg;split at hs2
  case h_2=>cases hs2
  rename_i cs' hl;injection hs2 with hs2;subst hs2;refine ⟨_,rfl,λh=>by simp[yI]at h,λenv E=> ?_⟩;obtain ⟨l1,l2⟩:=Like.app (show Like s.env env (fe a++fe x)from E);simp only[aK,bK l1,bK l2,I,O,storeAt];rw[if_neg hc];simp only[hg,hl]
 case buildH sz off x=>
  simp only[aK]at e;split at e
  case h_2=>cases e
  rename_i cs t I;split at e
  case h_2=>cases e
  rename_i ds q ac a8;split at e
  case isFalse=>cases e
  rename_i hc;split at e
  case h_2=>cases e
  rename_i s2 hl;injection e with e;injection e with e1 e2;subst e1 e2;obtain ⟨j,n1,n2⟩:=jK hl;subst n2;refine ⟨j,rfl,λ_=>tK n1,λenv E=> ?_⟩;simp only[aK,bK (show Like s.env env (fe x)from E),I,a8,hc,if_true,jL n1]
 case appendE sz bytes x y=>
  obtain ⟨t,l,j,hd,n1,rfl,n2⟩:=tL e;exact ⟨j,rfl,λ_=>tK n1,λenv E=>n2 env s.sto j E (oW.refl _) n1⟩
 rename_i n a x;obtain ⟨r,sz,xs,xs',f1,f2,f3,f4⟩:=vu e;subst f2 f3;exact ⟨_,rfl,λh=>by simp[yI]at h,λenv E=>f4 env s.sto E f1⟩
theorem yJ {v:bV} {s s':St} (J:(yI v.op || HC v.op)=true) (e:d_ (real call loop) v s=some s'):
  ∃u j,(yI v.op=true->oW s.sto j)/\s'=⟨eD s.env v.dst u,j⟩/\∀env,Like s.env env (oC v)->d_ (real call loop) v ⟨env,s.sto⟩=some ⟨eD env v.dst u,j⟩:=by
 unfold d_ at e;split at e
 ·rename_i E;split at e
  case h_2=>cases e
  rename_i u s1 I;injection e with e;obtain ⟨j,M,O,h3⟩:=P3 J I;subst M;refine ⟨u,j,O,e.symm,λenv hl=> ?_⟩;unfold d_;rw[mL hl,E];simp only[h3 env (hl.app).2]
 ·rename_i E;injection e with e;refine ⟨.bare,s.sto,λ_=>oW.refl _,e.symm,λenv hl=> ?_⟩;unfold d_;rw[mL hl,E]
 cases e
theorem EQ {x y:bV} {s r:St} (h:DK x y=true) (e:bg (real call loop) [x,y] s=some r):bg (real call loop) [y,x] s=some r:=by
 simp only[DK,Bool.or_eq_true]at h;rcases h with h | h
 case inr=>
  simp only[af]at h;obtain ⟨⟨⟨⟨⟨g1,g2⟩,hk⟩,h3⟩,h4⟩,M⟩:=h;rw[cj]at e |-;split at e
  case h_2=>cases e
  rename_i s1 I;rw[fQ]at e;obtain ⟨s2,j,E⟩:=DJ (by simp[g1,g2]) hk h3 h4 M I e;rw[j];simp only[fQ];exact E
 simp only[af]at h;obtain ⟨⟨⟨hk,h3⟩,h4⟩,M⟩:=h;rw[cj]at e |-;cases I:d_ (real call loop) x s with
 | none=>simp[I]at e
 | some s1=>
  simp only[I,fQ]at e;simp only[J8,Bool.or_eq_true,af]at hk;rcases hk with ((⟨J,k2⟩ | ⟨J,k2⟩) | ⟨J,k2⟩) | ⟨J,k2⟩
  ·obtain ⟨u,j,E⟩:=rR J I;subst j;obtain ⟨u',n1,n2⟩:=rR k2 e;have:=n2 s.env s.sto (lS h3) (oW.refl _);rw[show (⟨s.env,s.sto⟩:St)=s from rfl]at this;simp only[this,fQ];rw[E _ _ (qE h4) (oW.refl _),n1,ez M]
  ·obtain ⟨u,j,E⟩:=rR J I;subst j;obtain ⟨u',O,S,n1,n2⟩:=yJ (by simp[k2]) e;have:=n2 s.env (lS h3);rw[show (⟨s.env,s.sto⟩:St)=s from rfl]at this;simp only[this,fQ];rw[E _ _ (qE h4) (S k2),n1,ez M]
  ·obtain ⟨u,j,E⟩:=DL J I;subst j;obtain ⟨u',O,S,n1,n2⟩:=yJ (by simpa using k2) e;have:=n2 s.env (lS h3);rw[show (⟨s.env,s.sto⟩:St)=s from rfl]at this;simp only[this,fQ];rw[E _ _ (qE h4),n1,ez M]
  obtain ⟨u,O,U,j,E⟩:=yJ (by simpa using J) I;subst j;obtain ⟨u',n1,n2⟩:=DL k2 e;have:=n2 s.env s.sto (lS h3);rw[show (⟨s.env,s.sto⟩:St)=s from rfl]at this;simp only[this,fQ];rw[E _ (qE h4),n1,ez M]
theorem bubble {x:bV}:∀{B:List bV} {s r:St},(∀b∈B,DK x b=true)->bg (real call loop) (x::B) s=some r->bg (real call loop) (B++[x]) s=some r
 | [],s,r,_,e=>e
 | b::B,s,r,h,e=>by
  have E:bg (real call loop) ([x,b]++B) s=some r:=e;rw[js]at E;split at E
  case h_2=>cases E
  rename_i s1 I;have j:=EQ (h b (by simp)) I;rw[cj]at j;split at j
  case h_2=>cases j
  rename_i s2 hs2;have h3:bg (real call loop) (x::B) s2=some r:=by
   rw[cj];rw[fQ]at j;rw[j];exact E
  rw[List.cons_append,cj,hs2];exact bubble (λc hc=>h c (by simp[hc])) h3
def sel (p:Nat->Bool):Nat->List bV->List bV
 | _,[]=>[]
 | k,v::vs=>if p k then v::sel p (k+1) vs else sel p (k+1) vs
def Cn (dep:Nat->Nat->Bool) (i:Nat) (v:bV):Nat->List bV->Bool
 | _,[]=>true
 | j,u::us=>(dep i j || DK v u)&&Cn dep i v (j+1) us
def qF (dep:Nat->Nat->Bool):Nat->List bV->Bool
 | _,[]=>true
 | k,v::vs=>Cn dep k v (k+1) vs&&qF dep (k+1) vs
theorem tN {dep:Nat->Nat->Bool} {i:Nat} {v:bV} {p:Nat->Bool}:∀{vs:List bV} {k:Nat},Cn dep i v k vs=true->(∀j,k<=j->p j=true->dep i j=false)->∀b∈sel p k vs,DK v b=true
 | [],k,_,_,b,e=>by simp[sel]at e
 | u::us,k,h,E,b,e=>by
  simp only[Cn,af]at h;simp only[sel]at e;split at e
  ·rename_i hk;rcases List.mem_cons.1 e with rfl | e
   ·have:=E k (Nat.le_refl _) hk;rw[this]at h;simpa using h.1
   exact tN h.2 (λj I=>E j (by omega)) b e
  exact tN h.2 (λj I=>E j (by omega)) b e
theorem yK {dep:Nat->Nat->Bool} {p:Nat->Bool}:∀{vs:List bV} {k:Nat} {s r:St},qF dep k vs=true->(∀i j,k<=i->i<j->p j=true->dep i j=true->p i=true)->bg (real call loop) vs s=some r->
  ∃E,bg (real call loop) (sel p k vs) s=some E
 | [],k,s,r,_,_,e=>⟨s,rfl⟩
 | v::vs,k,s,r,h,O,e=>by
  simp only[qF,af]at h;rw[cj]at e;split at e
  case h_2=>cases e
  rename_i s1 I;obtain ⟨E,J⟩:=yK h.2 (λi j hi=>O i j (by omega)) e;simp only[sel];split
  ·exact ⟨E,by rw[cj,I];exact J⟩
  rename_i hk;have M:=bubble (x:=v) (B:=sel p (k+1) vs) (s:=s) (r:=E) (tN h.1 λj V S=>by
   cases U:dep k j with
   | false=>rfl
   | true=>exact (hk (O k j (Nat.le_refl _) (by omega) S U)).elim) (by rw[cj,I];exact J)
  rw[js]at M;split at M
  ·rename_i s2 hs2;exact ⟨s2,hs2⟩
  cases M
theorem uJ {p p':Nat->Bool}:∀{vs:List bV} {k:Nat},(∀j,k<=j->p j=p' j)->sel p k vs=sel p' k vs
 | [],k,_=>rfl
 | v::vs,k,h=>by simp only[sel,h k (Nat.le_refl _),uJ (vs:=vs) (k:=k+1) λj e=>h j (by omega)]
theorem Co {dep:Nat->Nat->Bool} {p:Nat->Bool} {i:Nat} (I:p i=false) (E:∀j,i<j->p j=true->dep i j=false):∀{vs:List bV} {k:Nat} {s r:St} {v:bV},qF dep k vs=true->k<=i->vs[i-k]? =some v->
  bg (real call loop) (sel (λj=>p j || j==i) k vs) s=some r->bg (real call loop) (sel p k vs++[v]) s=some r
 | [],k,s,r,v,_,_,J,_=>by simp at J
 | u::us,k,s,r,v,h,hk,J,e=>by
  simp only[qF,af]at h;by_cases U:i=k
  ·subst U;simp at J;subst J;have e1:sel (λj=>p j || j==i) i (u::us)=u::sel p (i+1) us:=by
    simp only[sel,I,beq_self_eq_true,Bool.or_true,if_true];congr 1;exact uJ λj hj=>by
     have:(j==i)=false:=by simp;omega
     simp[this]
   have e2:sel p i (u::us)=sel p (i+1) us:=by simp[sel,I]
   rw[e1]at e;rw[e2];exact bubble (tN h.1 λj hj V=>E j (by omega) V) e
  have O:k+1<=i:=by omega
  have S:us[i-(k+1)]? =some v:=by
   have:i-k=(i-(k+1))+1:=by omega
   rw[this]at J;simpa using J
  have a0:(k==i)=false:=by simp;omega
  simp only[sel,a0,Bool.or_false]at e |-;split at e
  ·rename_i M;rw[cj]at e;split at e
   case h_2=>cases e
   rename_i s1 a1;have ih:=Co I E h.2 O S e;simp only[M,if_true,List.cons_append];rw[cj,a1];exact ih
  rename_i M;simp only[M,if_false,Bool.false_eq_true];exact Co I E h.2 O S e
theorem Gm {p:Nat->Bool}:∀{vs:List bV} {k:Nat},(∀j,k<=j->j<k+vs.length->p j=true)->sel p k vs=vs
 | [],k,_=>rfl
 | v::vs,k,h=>by
  simp only[sel,h k (Nat.le_refl _) (by simp),if_true];rw[Gm λj e hl=>h j (by omega) (by simp;omega)]
def ER (acc:List Nat) (o:Oper):Nat:=o.after.toList.foldl (λm e=>match Region.binds .any e with | true=>m ||| (1<<<e.on) ||| acc.getD e.on 0 | false=>m) 0
def AU (acc:List Nat):List Oper->List Nat
 | []=>acc
 | o::l=>AU (acc++[ER acc o]) l
def P4 (ops:Array Oper):Bool:=(List.range ops.size).all λj=>match ops[j]? with
 | some o=>o.after.toList.all λe=> !Region.binds .any e || decide (e.on<j)
 | none=>true
def ET (n:Nat) (π:List Nat):Bool:=π.length==n&&((List.range n).all λi=>π.contains i)&&decide π.Nodup
def tO (P:Program) (np:Nat) (ops:Array Oper) (π:List Nat) (vs:List bV):Bool:=
 rO P np ops π vs&&P4 ops&&ET ops.size π&&(match AU [] ops.toList with | M=>qF (λi j=>(M.getD (π.getD j ops.size) 0).testBit (π.getD i ops.size)) 0 vs)
def J9 (P:Program) (np:Nat) (ops:Array Oper) (vs:List bV):Bool:=tO P np ops (List.range ops.size) vs
theorem EU:∀{n:Nat} {π:List Nat},ET n π=true->π.length=n/\π.Nodup/\∀i,i<n->∃k,k<n/\π[k]? =some i:=by
 intro n π h;simp only[ET,af,beq_iff_eq,List.all_eq_true,List.mem_range,decide_eq_true_eq]at h;obtain ⟨⟨e,j⟩,h3⟩:=h;have E:∀i,i<n->i∈π:=λi hi=>by simpa using j i hi
 refine ⟨e,h3,λi hi=> ?_⟩
 obtain ⟨k,hk⟩:=List.getElem?_of_mem (E i hi);exact ⟨k,by have:=(ax.1 hk).1;omega,hk⟩
theorem DM {np:Nat} {ops:Array Oper}:∀{is:List Nat} {vs:List bV},rO P np ops is vs=true->is.length=vs.length/\∀(i j:Nat) (v:bV),is[i]? =some j->vs[i]? =some v->∃o,ops[j]? =some o/\yB P np ops o v=true
 | [],[],_=>by simp
 | i::is,v::vs,h=>by
  simp only[rO,af]at h;obtain ⟨I,J⟩:=h;obtain ⟨M,k2⟩:=DM J;refine ⟨by simp[M],λm j u e E=> ?_⟩;cases m with
  | zero=>
   simp at e E;subst e E;split at I
   ·rename_i o ho;exact ⟨o,ho,I⟩
   cases I
  | succ m=>simp at e E;exact k2 m j u e E
 | [],_::_,h=>by simp[rO]at h
 | _::_,[],h=>by simp[rO]at h
def Closed (ops:Array Oper) (listed:Array Bool):Prop:=∀j,listed.getD j false=true->∀o,ops[j]? =some o->∀e∈o.after,Region.binds .any e=true->listed.getD e.on false=true
theorem HE {acc:List Nat} {o:Oper} {i:Nat} (h:(ER acc o).testBit i=true):∃e∈o.after,Region.binds .any e=true/\(e.on=i\/(acc.getD e.on 0).testBit i=true):=by
 have key:∀(l:List Edge) (m:Nat),(l.foldl (λm e=>match Region.binds .any e with | true=>m ||| (1<<<e.on) ||| acc.getD e.on 0 | false=>m) m).testBit i=true->m.testBit i=true\/∃e∈l,Region.binds .any e=true/\(e.on=i\/(acc.getD e.on 0).testBit i=true):=by
  intro l;induction l with
  | nil=>intro m h;exact .inl h
  | cons e l J=>
   intro m h;simp only[List.foldl_cons]at h;rcases J _ h with h | ⟨e',E,I⟩
   ·cases j:Region.binds .any e with
    | false=>rw[j]at h;exact .inl h
    | true=>
     rw[j]at h;simp only[Nat.testBit_or,Bool.or_eq_true]at h;rcases h with (h | h) | h
     ·exact .inl h
     ·refine .inr ⟨e,by simp,j,.inl ?_⟩;rw[Nat.one_shiftLeft,Nat.testBit_two_pow]at h;simpa using h
     exact .inr ⟨e,by simp,j,.inr h⟩
   exact .inr ⟨e',by simp[E],I⟩
 rcases key _ _ h with h | ⟨e,E,I⟩
 ·simp at h
 exact ⟨e,by simpa using E,I⟩
theorem tP {ops:Array Oper} {listed:Array Bool} (hc:Closed ops listed):∀(l:List Oper) (acc:List Nat),(∀k o,l[k]? =some o->ops[acc.length+k]? =some o)->
  (∀j i,(acc.getD j 0).testBit i=true->listed.getD j false=true->listed.getD i false=true)->∀j i,((AU acc l).getD j 0).testBit i=true->listed.getD j false=true->listed.getD i false=true
 | [],acc,_,h=>h
 | o::l,acc,ho,h=>by
  simp only[AU];refine tP hc l _ (λk o' hk=>by
   have:=ho (k+1) o' (by simpa using hk);rw[List.length_append,List.length_singleton,Nat.add_assoc,Nat.add_comm 1 k];exact this) (λj i E hl=> ?_)
  by_cases O:j<acc.length
  ·rw[List.getD_eq_getElem?_getD,List.getElem?_append_left O,<-List.getD_eq_getElem?_getD]at E;exact h j i E hl
  by_cases S:j=acc.length
  ·subst S;simp at E;obtain ⟨e,U,V,I⟩:=HE E;have M:=ho 0 o rfl;have J:=hc _ hl o (by simpa using M) e U V;rcases I with rfl | I
   ·exact J
   exact h _ _ I J
  have:(acc++[ER acc o])[j]? =none:=List.getElem?_eq_none (by simp;omega);rw[List.getD_eq_getElem?_getD,this]at E;simp at E
theorem qf {ops:Array Oper} {listed:Array Bool} (hc:Closed ops listed) {j i:Nat} (e:listed.getD j false=true) (h:((AU [] ops.toList).getD j 0).testBit i=true):listed.getD i false=true:=
 tP hc ops.toList [] (λk o hk=>by simpa using hk) (λj i h _=>by simp at h) j i h e
def qg (listed:Array Bool):Nat:=listed.toList.countP (λb=> !b)
theorem tQ {listed:Array Bool} {i:Nat} (hi:i<listed.size) (h:listed.getD i false=false):qg (listed.setIfInBounds i true)+1=qg listed:=by
 unfold qg;rw[Array.toList_setIfInBounds];have key:∀(l:List Bool) (i:Nat),l[i]? =some false->(l.set i true).countP (λb=> !b)+1=l.countP (λb=> !b):=by
  intro l;induction l with
  | nil=>intro i h;simp at h
  | cons b l e=>
   intro i h;cases i with
   | zero=>simp at h;subst h;simp[List.countP_cons]
   | succ i=>
    simp at h;simp only[List.set_cons_succ,List.countP_cons];have:=e i h;omega
 exact key _ i (by simp[Array.getD,hi]at h;simp[hi,h])
theorem EV {np:Nat} {ops:Array Oper} {vs:List bV} {s0 s':St} {w0:World} {L0:Loc} {Z0:Nat->Prop} (ap:iS P call) {π:List Nat} (aa:tO P np ops π vs=true) (e:bg (real call loop) vs s0=some s') (Q:Exit->Act->World->Prop)
  (hQ:∀a' w' L' Z',RS s' a' w' L' Z'->Tr np s0.sto s'.sto w0 w' L0 L' Z0 Z'->Q .normal a' w'):
  ∀(fuel:Nat) (listed:Array Bool) (J:St) (a:Act) (w:World) (L:Loc) (Z:Nat->Prop),listed.size=ops.size->qg listed=fuel->Closed ops listed->
   bg (real call loop) (sel (λj=>listed.getD (π.getD j ops.size) false) 0 vs) s0=some J->RS J a w L Z->Tr np s0.sto J.sto w0 w L0 L Z0 Z->wpAny P .any ops Q fuel listed a w:=by
 simp only[tO,af]at aa;obtain ⟨⟨⟨h1,h2⟩,h4⟩,h3⟩:=aa;obtain ⟨an,a0⟩:=DM h1;obtain ⟨aw,az,b0⟩:=EU h4;have b7:vs.length=ops.size:=by rw[<-an,aw]
 have b8:∀(listed:Array Bool),listed.size=ops.size->∀j,ops.size<=j->listed.getD (π.getD j ops.size) false=false:=λlisted I j E=>by
  have:π[j]? =none:=List.getElem?_eq_none (by omega);have e:π.getD j ops.size=ops.size:=by simp[List.getD,this]
  rw[e];simp[Array.getD,I]
 have b1:∀i∈π,i<ops.size:=λi hi=>by
  obtain ⟨k,hk⟩:=List.getElem?_of_mem hi;have bb:=(ax.1 hk).1;obtain ⟨v,hv⟩:∃v,vs[k]? =some v:=⟨_,bA (by omega)⟩
  obtain ⟨o,ho,_⟩:=a0 k i v hk hv;exact (Array.getElem?_eq_some_iff.1 ho).1
 have hdone:∀(listed:Array Bool) (J:St) (a:Act) (w:World) (L:Loc) (Z:Nat->Prop),listed.size=ops.size->Region.ready .any ops listed=[]->bg (real call loop) (sel (λj=>listed.getD (π.getD j ops.size) false) 0 vs) s0=some J->RS J a w L Z->Tr np s0.sto J.sto w0 w L0 L Z0 Z->Q .normal a w:=by
  intro listed J a w L Z I hr M h t;have ao:∀j,j<ops.size->listed.getD j false=true:=by
   intro j;induction j using Nat.strongRecOn with
   | _ j ih=>
    intro E;cases hl:listed.getD j false with
    | true=>rfl
    | false=>
     exfalso;have a3:j<listed.size:=by omega
     have a4:j∈Region.ready .any ops listed:=by
      rw[mem_ready];refine ⟨by simp[Array.getD,a3]at hl |-;exact hl,ops[j],by simp[E],λe he hb=> ?_⟩;have:=List.all_eq_true.1 h2 j (List.mem_range.2 E);simp only[Array.getElem?_eq_getElem E]at this;have:=List.all_eq_true.1 this e (by simpa using he);simp only[hb,Bool.not_true,Bool.false_or,decide_eq_true_eq]at this;exact ih e.on this (by omega)
     rw[hr]at a4;cases a4
  rw[Gm (λj _ E=>ao _ (by
   have a3:j<π.length:=by omega
   have hm:π.getD j ops.size∈π:=by simp[List.getD,bA a3]
   exact b1 _ hm))]at M
  rw[e]at M;injection M with M;subst M;exact hQ a w L Z h t
 intro fuel;induction fuel with
 | zero=>
  intro listed J a w L Z I hu hc M h t;have hr:Region.ready .any ops listed=[]:=by
   cases b2:Region.ready .any ops listed with
   | nil=>rfl
   | cons i l=>
    exfalso;have hm:i∈Region.ready .any ops listed:=by rw[b2];simp
    obtain ⟨m1,o,m2,_⟩:=mem_ready.1 hm;have hi:i<listed.size:=by rw[I];exact (Array.getElem?_eq_some_iff.1 m2).1
    have:=tQ hi (by simp[Array.getD,hi]at m1 |-;exact m1);omega
  exact ⟨hr,hdone listed J a w L Z I hr M h t⟩
 | succ fuel ih=>
  intro listed J a w L Z I hu hc M h t;refine ⟨λhr=>hdone listed J a w L Z I hr M h t,λi hi=> ?_⟩;obtain ⟨m1,o,m2,m3⟩:=mem_ready.1 hi;have b3:i<ops.size:=(Array.getElem?_eq_some_iff.1 m2).1;have a5:i<listed.size:=by omega
  have a6:listed.getD i false=false:=by simp[Array.getD,a5]at m1 |-;exact m1
  obtain ⟨pos,b9,S⟩:=b0 i b3;have a7:π.getD pos ops.size=i:=by simp[List.getD,S]
  obtain ⟨v,hv⟩:∃v,vs[pos]? =some v:=⟨_,bA (by omega)⟩
  obtain ⟨o',V,b4⟩:=a0 pos i v S hv;have:o'=o:=by rw[m2]at V;injection V with V;exact V.symm
  subst this;have a8:∀j,(listed.setIfInBounds i true).getD j false=(listed.getD j false || j==i):=by
   intro j;by_cases E:i=j
   ·subst E;simp[Array.getD,a5]
   rw[getD_set_ne false E];have:(j==i)=false:=by simp;exact λe=>E e.symm
   simp[this]
  have ac:Closed ops (listed.setIfInBounds i true):=by
   intro j E oj O ee ae hb;rw[a8]at E |-;rcases Bool.or_eq_true _ _ ▸ E with E | E
   ·rw[hc j E oj O ee ae hb];rfl
   have:j=i:=by simpa using E
   subst this;rw[m2]at O;injection O with O;subst O;rw[m3 ee ae hb];rfl
  obtain ⟨r1,ag⟩:=yK (p:=λj=>(listed.setIfInBounds i true).getD (π.getD j ops.size) false) (k:=0) h3 (λx y _ _ hy hd=>qf ac hy hd) e;have a9:=ag;rw[uJ (
      p':=λj=>listed.getD (π.getD j ops.size) false || j==pos) (λj _=>by
   rw[a8];congr 1;by_cases E:j=pos
   ·subst E;rw[a7];simp
   have e2:(j==pos)=false:=by simpa using E
   rw[e2];have:π.getD j ops.size≠i:=λe=>by
    by_cases am:j<π.length
    ·have b5:π[j]? =some i:=by rw[<-e];simp[List.getD,bA am]
     exact E ((List.getElem?_inj am az).1 (b5.trans S.symm))
    have:π[j]? =none:=List.getElem?_eq_none (by omega);simp only[List.getD,this,Option.getD_none]at e;omega
   simpa using this)]at a9
  have U:=Co (p:=λj=>listed.getD (π.getD j ops.size) false) (i:=pos) (k:=0) (v:=v) (by rw[a7];exact a6) (λj _ E=>by
   rw[a7];cases hd:((AU [] ops.toList).getD (π.getD j ops.size) 0).testBit i with
   | false=>rfl
   | true=>have:=qf hc E hd;rw[a6]at this;cases this) h3 (Nat.zero_le _) (by simpa using hv) a9
  rw[js,M]at U;simp only at U;have b6:=rP (np:=np) (Q:=Q) (K:=wpAny P .any ops Q fuel (listed.setIfInBounds i true)) ap h b4 U λs1 a1 w1 L1 Z1 k1 k2 k3=>by
   simp only[bg]at k3;injection k3 with k3;subst k3;exact ih (listed.setIfInBounds i true) s1 a1 w1 L1 Z1 (by simpa using I) (by have:=tQ a5 a6;omega) ac ag k1 (t.trans k2)
  unfold wpOp;simp only[m2];exact b6
theorem vv {np id:Nat} {π:List Nat} {ops:Array Oper} {vs:List bV} {s s':St} {a:Act} {w:World} {L:Loc} {Z:Nat->Prop} (E:P.follows .mixedOrders=true) (I:iS P call) (J:tO P np ops π vs=true) (h:RS s a w L Z) (e:bg (real call loop) vs s=some s') (Q:Exit->Act->World->Prop)
  (O:∀a' w' L' Z',RS s' a' w' L' Z'->Tr np s.sto s'.sto w w' L L' Z Z'->Q .normal a' w'):(Code.region id ops true).wp P Q a w:=by
 obtain ⟨S,k2⟩:=h.more (w':={ w with drawn:=w.drawn+1 }) np (λ_ _=>rfl) (Nat.le_refl _) rfl rfl rfl;refine wp_region_any E (EV I J e Q O ops.size _ s a _ L Z (by simp) ?_ ?_ ?_ S k2)
 ·unfold qg;simp[List.countP_replicate]
 ·intro j U;exfalso;by_cases M:j<ops.size<;>simp[Array.getD,M]at U
 have:∀(vs:List bV) (k:Nat),sel (λj=>(Array.replicate ops.size false).getD (π.getD j ops.size) false) k vs=[]:=by
  intro vs;induction vs with
  | nil=>intro k;rfl
  | cons v vs V=>
   intro k;have:(Array.replicate ops.size false).getD (π.getD k ops.size) false=false:=by
    generalize π.getD k ops.size=k;by_cases hk:k<ops.size<;>simp[Array.getD,hk]
   simp only[sel,this,Bool.false_eq_true,if_false,V]
 rw[this];rfl
theorem EW {np id:Nat} {ops:Array Oper} {vs:List bV} {s s':St} {a:Act} {w:World} {L:Loc} {Z:Nat->Prop} (j:P.follows .mixedOrders=true) (E:iS P call) (I:J9 P np ops vs=true) (h:RS s a w L Z) (e:bg (real call loop) vs s=some s') (Q:Exit->Act->World->Prop)
 (J:∀a' w' L' Z',RS s' a' w' L' Z'->Tr np s.sto s'.sto w w' L L' Z Z'->Q .normal a' w'):(Code.region id ops true).wp P Q a w:=vv (π:=List.range ops.size) j E I h e Q J
end
def yL:Out->Exit
 | .norm=> .normal
 | .ret=> .ret
 | .exit id=> .exit id
def Cp (P:Program) (np x y c dst t:Nat) (zero:List AV) (sz:gJ) (agg:Bool):Code->Bool
 | .seq (.region _ e E) (.cond (.tmp c') (.seq (.region _ j I) .ret) .skip)=>
  !E&& !I&&c'==c&&decide (t<np)&&zero.length==sz.2&&(match dZ zero with | some ds=>(D.bS agg ds).isSome | none=>false)&&(match e.toList with
  | [J,o2]=>yB P np e J ⟨some y,none,.move (.tmp x)⟩&&o2.dst==some c&&o2.guard.isNone&&(match o2.op with
   | .binOp .eql ty (.tmp y') (.const (.slice none 0 0)) _=>y'==y&&(match P.underlying ty with | some (.slice _)=>true | _=>false)
   | _=>false)
  | _=>false)&&rO P np j (List.range j.size) [⟨some dst,none,.move (.const .emp)⟩]
 | _=>false
section
variable {P:Program} {call:dh} {loop:di}
variable {s:St} {a:Act} {w:World} {L:Loc} {Z:Nat->Prop}
theorem EX {t e:TypeId} (j:P.underlying t=some (.slice e)) (p:Option Addr) (n cap:Nat):(Op.equal t (.slice p n cap) (.slice none 0 0)).run P w= .ok p.isNone w:=by
 have:∀d,(Op.equalIn (d+1) t (.slice p n cap) (.slice none 0 0)).run P w= .ok p.isNone w:=by
  intro d;rw[Op.equalIn];cases p<;>simp[run_underlying j]
 exact this 9999
theorem DN (np:Nat) (h:RS s a w L Z) {o:Oper} {t t' e:TypeId} {x:Operand} (ho:o.op= .binOp .eql t x (.const (.slice none 0 0)) t') (j:P.underlying t=some (.slice e)) {p:Option Addr} {n cap:Nat} (E:a.eval x= .slice p n cap):
  aZ P np o s a w L Z (.d (.bool p.isNone)) s:=by
 refine aZ.pure h (u:= .bool p.isNone) ?_ (by simp only[RV,RD]);refine eJ (m:=do eqGuard .eql t x (.const (.slice none 0 0)) (a.eval x) (.slice none 0 0);binOp .eql t (a.eval x) (.slice none 0 0)) (by unfold execOp;rw[ho];rfl) ?_;rw[E];have I:(eqGuard .eql t x (.const (.slice none 0 0)) (.slice p n cap) (.slice none 0 0)).run P w= .ok () w:=by
  unfold eqGuard;rfl
 have J:(binOp .eql t (.slice p n cap) (.slice none 0 0)).run P w= .ok (.bool p.isNone) w:=by
  simp only[binOp];rw[Sem.run_bind,EX j];rfl
 simp[I,J]
theorem J_ {c:Cx} {as bs:List AV} {vs:List Value} (h:dH c as vs) (hl:bs.length=as.length) (e:∀(i:Nat) (b:AV),bs[i]? =some b->b=AV.undef\/as[i]? =some b):dH c bs vs:=by
 rw[bJ]at h |-;refine ⟨hl.trans h.1,λi b v j E=> ?_⟩;rcases e i b j with rfl | h3
 ·simp only[RV]
 exact h.2 i b v h3 E
theorem HF {o:aM} {x y c b m t dst:Nat} {sz:gJ} {bytes:Nat} {agg:Bool} {zero:List AV} {s s':St} {out:Out} (e:exec o (.clone x y c b m t dst sz bytes agg zero) s=some (out,s')):
  ∃A0 xs s2,s.env[x]? =some A0/\content o s.sto A0=some xs/\o.fits sz.2 bytes xs=true/\s.lay t [some (.rows sz xs)]=some s2/\
   (y<s2.env.length/\c<s2.env.length/\b<s2.env.length/\m<s2.env.length/\t<s2.env.length/\dst<s2.env.length)/\out= .ret/\
   s'=⟨((((((s2.env.set y .undef).set c .undef).set b .undef).set m .undef).set t .undef).set dst (.arr (t,0) sz none false)),s2.sto⟩:=by
 simp only[exec]at e;split at e
 case h_2=>cases e
 rename_i A0 I;have key:∀r,(match content o s.sto A0 with
   | some xs=>match o.fits sz.2 bytes xs with
    | true=>match s.lay t [some (.rows sz xs)]with
     | some s=>if y<s.env.length/\c<s.env.length/\b<s.env.length/\m<s.env.length/\t<s.env.length/\dst<s.env.length then
       some (Out.ret,(⟨((((((s.env.set y .undef).set c .undef).set b .undef).set m .undef).set t .undef).set dst (.arr (t,0) sz none false)),s.sto⟩:St))
      else none
     | none=>none
    | false=>none
   | none=>none)=some r->r=(out,s')->∃A0 xs s2,s.env[x]? =some A0/\content o s.sto A0=some xs/\o.fits sz.2 bytes xs=true/\s.lay t [some (.rows sz xs)]=some s2/\
  (y<s2.env.length/\c<s2.env.length/\b<s2.env.length/\m<s2.env.length/\t<s2.env.length/\dst<s2.env.length)/\out= .ret/\
  s'=⟨((((((s2.env.set y .undef).set c .undef).set b .undef).set m .undef).set t .undef).set dst (.arr (t,0) sz none false)),s2.sto⟩:=by
  intro r e J;subst J;split at e
  case h_2=>cases e
  rename_i xs hc;split at e
  case h_2=>cases e
  rename_i j;split at e
  case h_2=>cases e
  rename_i s2 hl;split at e
  case isFalse=>cases e
  rename_i E;injection e with e;injection e with M O;subst M O;exact ⟨A0,xs,s2,I,hc,j,hl,E,rfl,rfl⟩
 split at e
 ·exact key _ e rfl
 ·exact key _ e rfl
 cases e
theorem DP {np x y c b m t dst:Nat} {sz:gJ} {bytes:Nat} {agg:Bool} {zero:List AV} {cx cy:Code} {out:Out} {s':St} (a9:iS P call) (h:RS s a w L Z) (I:Cp P np x y c dst t zero sz agg cx=true) (a4:[x,y,c,b,m,t,dst].Nodup)
  (e:exec (real call loop) (.clone x y c b m t dst sz bytes agg zero) s=some (out,s')) (Q:Exit->Act->World->Prop) (hQ:∀a' w' L' Z',RS s' a' w' L' Z'->Tr np s.sto s'.sto w w' L L' Z Z'->Q (yL out) a' w')
  (hy:∀a1 w1 L1 Z1 s1 s2 out,RS s1 a1 w1 L1 Z1->exec (real call loop) (.seq (.reg [⟨some b,none,.buildSlice sz agg zero 0 []⟩,⟨some m,none,.move (.tmp x)⟩,⟨some t,none,.append sz bytes (.tmp b) (.tmp m)⟩,⟨some dst,none,.move (.tmp t)⟩]) .ret) s1=some (out,s2)->
   (∀a' w' L' Z',RS s2 a' w' L' Z'->Tr np s1.sto s2.sto w1 w' L1 L' Z1 Z'->Q (yL out) a' w')->cy.wp P Q a1 w1):(Code.seq cx cy).wp P Q a w:=by
 obtain ⟨A0,xs,s2,hx,hc,ae,hl,a6,rfl,rfl⟩:=HF e;obtain ⟨a7,ag⟩:=eU hl;rw[ag]at a6 hQ;obtain ⟨l1,l2,l3,l4,l5,l6⟩:=a6;simp only[List.nodup_cons,List.mem_cons,List.not_mem_nil,or_false,not_or,List.nodup_nil,not_false_eq_true,and_true]at a4;obtain ⟨⟨x1,x2,x3,x4,x5,x6⟩,⟨y1,y2,y3,y4,y5⟩,⟨c1,c2,c3,c4⟩,⟨b1,b2,b3⟩,⟨m1,m2⟩,t1⟩:=a4;unfold Cp at I;split at I
 case h_2=>cases I
 rename_i i1 r1 d1 c' i2 r2 d2;simp only[af,Bool.not_eq_true',beq_iff_eq,decide_eq_true_eq]at I;obtain ⟨⟨⟨⟨⟨⟨⟨p1,p2⟩,p3⟩,p4⟩,p5⟩,p6⟩,p7⟩,p8⟩:=I;subst p1 p2 p3;split at p7
 case h_2=>cases p7
 rename_i o1 o2 ao;have am:r1= #[o1,o2]:=Array.ext' ao;subst am;simp only[af,beq_iff_eq]at p7;obtain ⟨⟨⟨q1,q2⟩,q3⟩,O⟩:=p7;split at O
 case h_2=>cases O
 rename_i ty y' t2 ap;simp only[af,beq_iff_eq]at O;obtain ⟨rfl,O⟩:=O;split at O
 case h_2=>cases O
 rename_i el hu;refine wp_seq (wp_seq (wp_region ?_));show wpOps P #[o1,o2] _ [0,1] a w;simp only[wpOps];have e1:bg (real call loop) [⟨some y',none,.move (.tmp x)⟩] s=some ⟨s.env.set y' A0,s.sto⟩:=by
  simp only[bg,wanted,aK,evalOp,ev,hx,eD]
 refine rP (rest:=[]) (np:=np) a9 h q1 e1 _ _ λs3 a3 w3 L3 Z3 k1 k2 k3=> ?_
 simp only[bg]at k3;injection k3 with k3;subst k3;have aw:(s.env.set y' A0)[y']? =some A0:=by rw[List.getElem?_set_self l1]
 have hv:=aO k1 (show dr (.tmp y') (.tmp y')=true by simp[dr]) (show ev _ (.tmp y')=some A0 from aw);obtain ⟨A,cap,az,v2,v3⟩:=cZ k1.obj hv hc;have hw:Region.wanted o2 (yielded #[o1,o2] a3.tmps)=true:=by
  unfold Region.wanted;cases hg:o2.guard with
  | none=>rfl
  | some g=>rw[hg]at q3;cases q3
 simp only[List.getElem?_toArray,List.getElem?_cons_succ,List.getElem?_cons_zero];rw[if_pos hw];left;refine DN np k1 ap hu az _ _ λu w4 L4 Z4 n1 n2 n3=> ?_
 rw[q2];have n4:=n1.put (some c') n3;simp only[eD]at n4;simp only[wpOps,Exit.then];have aa:=aO n4 (show dr (.tmp c') (.tmp c')=true by simp[dr]) (show ev _ (.tmp c')=some (.d (.bool A.isNone))from List.getElem?_set_self (by simpa using l2));simp only[RV,RD]at aa;refine wp_cond (t:=A.isNone) (by injection aa) ?_;cases A with
 | none=>
  simp only[Option.isNone_none,if_true];have b4:xs=[]:=by
   rcases v3 with v3 | ⟨b0,o0,z0,v3,_⟩
   ·exact v3
   cases v3
  subst b4;refine wp_seq (wp_region ?_);have e2:bg (real call loop) [⟨some dst,none,.move (.const .emp)⟩] ⟨(s.env.set y' A0).set c' (.d (.bool (none:Option Addr).isNone)),s.sto⟩=some ⟨((s.env.set y' A0).set c' (.d (.bool (none:Option Addr).isNone))).set dst .emp,s.sto⟩:=by
   simp only[bg,wanted,aK,evalOp,ev,eD]
  refine lg (np:=np) a9 p8 n4 e2 _ λa5 w5 L5 Z5 g1 g2=> ?_
  simp only[Exit.then];refine wp_ret ?_;show Q (yL .ret) a5 w5;have b5:(⟨((s.env.set y' A0).set c' (.d (.bool (none:Option Addr).isNone))).set dst .emp,s.sto⟩:St).lay t [some (.rows sz [])]=some ⟨((s.env.set y' A0).set c' (.d (.bool (none:Option Addr).isNone))).set dst .emp,s2.sto⟩:=by
   simp only[St.lay,a7]
  obtain ⟨L6,f1,f2,f3,f4,_⟩:=wu (np:=np) g1 b5 p4 (λc=>p_ (own:=false) c);have an:(((s.env.set y' A0).set c' (.d (.bool (none:Option Addr).isNone))).set dst .emp)[dst]? =some .emp:=List.getElem?_set_self (by simpa using l6);obtain ⟨b6,ac⟩:=uF f1 an;simp only[RV]at ac;have f5:=tE (t:=dst) f1 b6 (rQ (c:=aI w5 Z5 L6 s2.sto) (own:=false) (sz:=sz) f3 f4 ac);refine hQ a5 w5 L6 Z5 ⟨f5.defers,J_ f5.env (by simp) λi v hi=> ?_,f5.obj,f5.injH,f5.dis⟩ (((k2.trans n2).trans g2).trans f2);simp only[List.getElem?_set,List.length_set]at hi |-;by_cases d0:dst=i
  ·subst d0;simp only[if_true,l6]at hi |-;exact .inr hi
  rw[if_neg d0]at hi |-;rw[if_neg d0];by_cases d1:t=i
  ·subst d1;simp only[if_true,l5]at hi;injection hi with hi;exact .inl hi.symm
  rw[if_neg d1]at hi;by_cases d2:m=i
  ·subst d2;simp only[if_true,l4]at hi;injection hi with hi;exact .inl hi.symm
  rw[if_neg d2]at hi;by_cases d3:b=i
  ·subst d3;simp only[if_true,l3]at hi;injection hi with hi;exact .inl hi.symm
  rw[if_neg d3]at hi;by_cases d4:c'=i
  ·subst d4;simp only[if_true,l2]at hi;injection hi with hi;exact .inl hi.symm
  rw[if_neg d4]at hi |-;by_cases d5:y'=i
  ·subst d5;simp only[if_true,l1]at hi;injection hi with hi;exact .inl hi.symm
  rw[if_neg d5]at hi |-;exact .inr hi
 | some A=>
  simp only[Option.isNone_some,Bool.false_eq_true,if_false];refine wp_skip ?_;simp only[Exit.then];cases a8:dZ zero with
  | none=>rw[a8]at p6;cases p6
  | some ds=>
   rw[a8]at p6;simp only at p6;obtain ⟨z,hz⟩:=Option.isSome_iff_exists.1 p6;generalize hX:(s.env.set y' A0).set c' (.d (.bool (some A).isNone))=E at n4;have S:E.length=s.env.length:=by rw[<-hX];simp
   have b7:E[x]? =some A0:=by rw[<-hX,List.getElem?_set_ne (Ne.symm x2),List.getElem?_set_ne (Ne.symm x1)];exact hx
   generalize J:E.set b .emp=U;have b8:U[x]? =some A0:=by rw[<-J,List.getElem?_set_ne (Ne.symm x3)];exact b7
   generalize M:U.set m A0=j;have b9:j[b]? =some .emp:=by rw[<-M,List.getElem?_set_ne (Ne.symm b1),<-J,List.getElem?_set_self (by rw[S];exact l3)]
   have bb:j[m]? =some A0:=by rw[<-M,List.getElem?_set_self (by rw[<-J,List.length_set,S];exact l4)]
   have bc:(⟨j,s.sto⟩:St).lay t [some (.rows sz xs)]=some ⟨j,s2.sto⟩:=by simp only[St.lay,a7]
   generalize a0:j.set t (.arr (t,0) sz none false)=V;have bd:V[t]? =some (.arr (t,0) sz none false):=by rw[<-a0,List.getElem?_set_self (by rw[<-M,List.length_set,<-J,List.length_set,S];exact l5)]
   have e3:exec (real call loop) (.seq (.reg [⟨some b,none,.buildSlice sz agg zero 0 []⟩,⟨some m,none,.move (.tmp x)⟩,⟨some t,none,.append sz bytes (.tmp b) (.tmp m)⟩,⟨some dst,none,.move (.tmp t)⟩]) .ret) ⟨E,s.sto⟩=some (.ret,⟨V.set dst (.arr (t,0) sz none false),s2.sto⟩):=by
    have q1:aK (real call loop) ⟨E,s.sto⟩ (some b) (.buildSlice sz agg zero 0 [])=some (.emp,⟨E,s.sto⟩):=by
     simp only[aK,dw,p5,if_true,a8,hz,List.map_nil,BT,pX,List.replicate_zero,List.zip_nil_left,jn]
    have q2:aK (real call loop) ⟨U,s.sto⟩ (some m) (.move (.tmp x))=some (A0,⟨U,s.sto⟩):=by
     simp only[aK,evalOp,ev,b8]
    have q3:aK (real call loop) ⟨j,s.sto⟩ (some t) (.append sz bytes (.tmp b) (.tmp m))=some (.arr (t,0) sz none false,⟨j,s2.sto⟩):=by
     simp only[aK,ev,b9,bb,hc,ae,bc]
    have O:aK (real call loop) ⟨V,s2.sto⟩ (some dst) (.move (.tmp t))=some (.arr (t,0) sz none false,⟨V,s2.sto⟩):=by
     simp only[aK,evalOp,ev,bd]
    simp only[exec,bg,wanted,q1,eD,J,q2,M,q3,a0,O]
   refine hy _ _ _ _ _ _ _ n4 e3 λa' w' L' Z' f1 f2=> ?_
   refine hQ a' w' L' Z' ⟨f1.defers,J_ f1.env ?_ λi v hi=> ?_,f1.obj,f1.injH,f1.dis⟩ ((k2.trans n2).trans f2)
   ·rw[<-a0,<-M,<-J,<-hX];simp
   rw[<-a0,<-M,<-J,<-hX];simp only[List.getElem?_set,List.length_set]at hi |-;by_cases d0:dst=i
   ·subst d0;simp only[if_true,l6]at hi |-;exact .inr hi
   rw[if_neg d0]at hi |-;by_cases d1:t=i
   ·subst d1;simp only[if_true,l5]at hi;injection hi with hi;exact .inl hi.symm
   rw[if_neg d1]at hi |-;by_cases d2:m=i
   ·subst d2;simp only[if_true,l4]at hi;injection hi with hi;exact .inl hi.symm
   rw[if_neg d2]at hi |-;by_cases d3:b=i
   ·subst d3;simp only[if_true,l3]at hi;injection hi with hi;exact .inl hi.symm
   rw[if_neg d3]at hi |-;by_cases d4:c'=i
   ·subst d4;simp only[if_true,l2]at hi;injection hi with hi;exact .inl hi.symm
   rw[if_neg d4]at hi |-;by_cases d5:y'=i
   ·subst d5;simp only[if_true,l1]at hi;injection hi with hi;exact .inl hi.symm
   rw[if_neg d5]at hi |-;exact .inr hi
end
section
section
variable {P:Program} {call:dh} {loop:di}
variable {s:St} {a:Act} {w:World} {L:Loc} {Z:Nat->Prop}
theorem oz {g:Option (Int×Int)} {xs ys:List D} (h:tj (real call loop) g xs=some ys):(g=none/\ys=xs)\/∃m:Int,g=some (0,m)/\0<=m/\m<=xs.length/\ys=xs.take m.toNat:=by
 unfold tj at h;cases g with
 | none=>injection h with h;exact .inl ⟨rfl,h.symm⟩
 | some p=>
  obtain ⟨p,m⟩:=p;simp only[real,aM.isZero,aM.sub,Cz]at h;split at h
  ·rename_i e;have e:=of_decide_eq_true e;subst e;split at h
   ·rename_i hc;injection h with h;refine .inr ⟨m,rfl,hc.2.1,by omega,?_⟩;rw[<-h];simp
   cases h
  cases h
theorem JZ {n:Nat} (k:Nat) {xs:List D} {vs:List Value} {F:List Nat} (h:jo w Z n xs vs F):∃F',jo w Z n (xs.take k) vs F'/\(∀x∈F',x∈F)/\(F.Nodup->F'.Nodup):=by
 rw[<-List.take_append_drop k xs]at h;obtain ⟨F1,F2,rfl,e,_⟩:=fW.1 h;exact ⟨F1,e,λx j=>by simp[j],λE=>(List.nodup_append.1 E).1⟩
theorem J0 {np slot:Nat} {q:Id} {sz:gJ} {g:Option (Int×Int)} {u:Bool} {v:Value} {ob ob':Obj} {xs ys:List D} {s2:St} (h:RS s a w L Z) (hs:slot<np) (hv:RV (aI w Z L s.sto) (.arr q sz g u) v)
  (U:s.sto.get q=some ob) (V:ob= .rows sz xs/\ob'= .rows sz ys\/ob= .orows sz xs/\ob'= .orows sz ys) (hy:tj (real call loop) g xs=some ys) (hl:(s.kill q).lay slot [some ob']=some s2):
  ∃I,RS s2 a w I Z/\Tr np s.sto s2.sto w w L I Z Z/\s2.env=(s.kill q).env/\(∀p,((s.kill q).sto.get p).isSome->Same (aI w Z L (s.kill q).sto) (aI w Z I s2.sto) p)/\RV (aI w Z I s2.sto) (.arr (slot,0) sz none false) v:=by
 simp only[RV]at hv;obtain ⟨A,n,cap,zs,m1,⟨m2,ae⟩,m3,m4,m5,m6,m7,m8⟩:=hv;have a0:(s.sto.get q).bind Obj.rw=some (sz,zs):=m4;have ag:zs=xs:=by
  rw[U]at a0;rcases V with ⟨E,_⟩ | ⟨E,_⟩<;>(rw[E]at a0;simp[Obj.rw]at a0;exact a0.symm)
 subst ag;have hn:n=ys.length:=by
  rcases oz hy with ⟨rfl,rfl⟩ | ⟨m,rfl,p1,p2,rfl⟩
  ·exact m5 rfl
  obtain ⟨_,q2,q3⟩:=m6 0 m rfl;simp only[List.length_take];omega
 have a1:br g=0:=by
  rcases oz hy with ⟨rfl,rfl⟩ | ⟨m,rfl,p1,p2,rfl⟩<;>rfl
 have a5:ys.length<=zs.length:=by
  rcases oz hy with ⟨rfl,rfl⟩ | ⟨m,rfl,p1,p2,rfl⟩
  ·exact Nat.le_refl _
  simp only[List.length_take];omega
 have M:∃m,ys=zs.take m:=by
  rcases oz hy with ⟨rfl,rfl⟩ | ⟨m,rfl,p1,p2,rfl⟩
  ·exact ⟨ys.length,by simp⟩
  exact ⟨_,rfl⟩
 have a9:ob'.rw=some (sz,ys):=by rcases V with ⟨_,E⟩ | ⟨_,E⟩<;>(rw[E];rfl)
 have O:=h.kill q;have S:=Tr.kill np s w L Z q;have aa:=(eU hl).1;have j:=h.obj q _ U;obtain ⟨
     I,
       k1,k2,k3,k4⟩:∃I,RS s2 a w I Z/\Tr np s.sto s2.sto w w L I Z Z/\s2.env=(s.kill q).env/\I (slot,0)=L q/\(∀p,((s.kill q).sto.get p).isSome->Same (aI w Z L (s.kill q).sto) (aI w Z I s2.sto) p):=by
  cases J:L q with
  | none=>
   have hzero:ys=[]/\(ob= .orows sz zs->∀k,¬L.nest q k):=by
    have:zs=[]:=by
     rcases V with ⟨E,_⟩ | ⟨E,_⟩
     ·rw[E]at j;simp only[RO]at j;exact j.1 J
     rw[E]at j;simp only[RO]at j;exact (j.1 J).1
    refine ⟨?_,λE=> ?_⟩
    ·obtain ⟨m,rfl⟩:=M;rw[this];simp
    rw[E]at j;simp only[RO]at j;exact (j.1 J).2
   obtain ⟨rfl,am⟩:=hzero;have ac:∀c:Cx,c.L (slot,0)=none->(∀k,¬c.L.nest (slot,0) k)->RO c (slot,0) ob':=by
    rcases V with ⟨_,E⟩ | ⟨_,E⟩
    ·rw[E];exact λc=>p_ (own:=false) c
    rw[E];exact λc=>p_ (own:=true) c
   obtain ⟨I,f1,f2,f3,f4,f5⟩:=wu (np:=np) O hl hs ac;exact ⟨I,f1,S.trans f2,(eU hl).2,f3,f5⟩
  | some b=>
   have a3:aY s.sto L b:=⟨q,ob,U,.inl J⟩
   have a7:¬aY (s.kill q).sto L b:=gY h U (.inl J);have a8:b<w.heap.size:=h.block_lt U J;rcases V with ⟨E,h2⟩ | ⟨E,h2⟩
   ·subst E h2;simp only[RO]at j;obtain ⟨vs,t1,t2,t3⟩:=j.2 b J;obtain ⟨f1,f2,f3,f4⟩:=RS.HM (s0:=s) (np:=np) (nb:=some b) (w':=w) (N:=λ_=>False) O S hl hs rfl rfl rfl (Nat.le_refl _) (λ_ _ _=>rfl)
     (λb' e=>by injection e with e;subst e;exact ⟨λhz=>(h.dis _ hz).2 a3,a7,a8,.inr a3⟩) (λ_ _ e=>e.elim)
     (by
      simp only[RO];refine ⟨λe=> ?_,λb' e=> ?_⟩
      ·rw[cK]at e;cases e
      rw[cK]at e;injection e with e;subst e;obtain ⟨m,rfl⟩:=M;exact ⟨vs,t1,Nat.le_trans (Nat.mul_le_mul_right _ a5) t2,nP _ t3⟩)
    exact ⟨_,f1,f2,f3,(cK _ _ _ _),f4⟩
   subst E h2;simp only[RO]at j;obtain ⟨vs,F,t1,t2,t3,t4,t5⟩:=j.2 b J;obtain ⟨m,hm⟩:=M;obtain ⟨F',g1,g2,g3⟩:=JZ m t3;have a4:∀x∈F',aY s.sto L x/\¬aY (s.kill q).sto L x/\x<w.heap.size:=λx hx=>by
    have hh:Obj.has (.orows sz zs) L q x:= .inr ⟨rfl,(t5 x).2 (g2 x hx)⟩;exact ⟨⟨q,_,U,hh⟩,gY h U hh,h.fJ U hh⟩
   obtain ⟨f1,f2,f3,f4⟩:=RS.HM (s0:=s) (np:=np) (nb:=some b) (w':=w) (N:=λx=>x∈F') O S hl hs rfl rfl rfl (Nat.le_refl _) (λ_ _ _=>rfl)
    (λb' e=>by injection e with e;subst e;exact ⟨λhz=>(h.dis _ hz).2 a3,a7,a8,.inr a3⟩)
    (λx _ hx=>⟨λhz=>(h.dis _ hz).2 (a4 x hx).1,(a4 x hx).2.1,(a4 x hx).2.2,.inr (a4 x hx).1⟩)
    (by
     simp only[RO];refine ⟨λe=> ?_,λb' e=> ?_⟩
     ·rw[cK]at e;cases e
     rw[cK]at e;injection e with e;subst e;refine ⟨vs,F',t1,Nat.le_trans (Nat.mul_le_mul_right _ a5) t2,by rw[hm];exact g1,?_,λx=>by rw[jM]⟩;rw[List.nodup_cons]at t4 |-;exact ⟨λhx=>t4.1 (g2 _ hx),g3 t4.2⟩)
   exact ⟨_,f1,f2,f3,(cK _ _ _ _),f4⟩
 obtain ⟨k4,k5⟩:=k4;have a6:s2.sto.get (slot,0)=some ob':=by rw[dX aa];simp
 refine ⟨I,k1,k2,k3,k5,?_⟩;simp only[RV];refine ⟨A,n,cap,ys,m1,⟨m2,ae⟩,λe=>(by cases e),by show (s2.sto.get (slot,0)).bind Obj.rw=_;rw[a6];exact a9,λ_=>hn,λ_ _ e=>(by cases e),λe=>m7 (k4 ▸ e),λb e=> ?_⟩;rcases m8 b (k4 ▸ e)with ⟨p1,p2⟩ | ⟨p1,p2⟩
 ·exact (p2 a1).elim
 rw[a1]at p1 p2;exact .inr ⟨p1,p2⟩
theorem tF {np slot k:Nat} {r q:Id} {sz:gJ} {cs:List AV} {g:Option (Int×Int)} {u:Bool} {ob ob':Obj} {xs ys:List D} {s':St} (h:RS s a w L Z) (hs:slot<np) (hr:s.sto.get r=some (.box cs)) (hk:cs[k]? =some (.arr q sz g u))
  (O:s.sto.get q=some ob) (a0:ob= .rows sz xs/\ob'= .rows sz ys\/ob= .orows sz xs/\ob'= .orows sz ys) (hy:tj (real call loop) g xs=some ys) (e:BU r k q slot sz ob' s=some s'):
  ∃L',RS s' a w L' Z/\Tr np s.sto s'.sto w w L L' Z Z:=by
 have a7:r≠q:=λe=>by
  subst e;rw[hr]at O;injection O with O;rcases a0 with ⟨h1,_⟩ | ⟨h1,_⟩<;>(rw[<-O]at h1;cases h1)
 have a1:=h.obj r _ hr;simp only[RO]at a1;obtain ⟨b0,a3,ag,r1,r2,r3⟩:=a1;have hk0:=ax.1 hk;have ae:=(bJ.1 r3).1;obtain ⟨v,a4⟩:∃v,a3.toList[k]? =some v:=⟨_,bA (by have:=hk0.1;omega)⟩
 have hv:=(bJ.1 r3).2 k _ v hk a4;unfold BU at e;split at e
 case h_2=>cases e
 rename_i s2 hl;obtain ⟨j,k1,k2,k3,k5,a6⟩:=J0 h hs hv O a0 hy hl;split at e
 case h_2=>cases e
 rename_i cs2 M;injection e with e;subst e;have S:=k1.obj r _ M;simp only[RO]at S;obtain ⟨b2,a5,a8,U,J,u3⟩:=S;have a9:((s.kill q).sto.get r).isSome:=by rw[gh,if_neg a7,hr];rfl
 have aa:b2=b0:=by
  have:=(k5 r a9).1;have h2:j r=L r:=this;rw[h2,r1]at U;injection U with U;exact U.symm
 subst aa;have ac:a5=a3:=by rw[r2]at J;injection J with J;injection J with J;exact J.symm
 subst ac;have hsame:∀p,Same (aI w Z j s2.sto) (aI w Z (nH j r (j.nest r)) (s2.sto.put r (some (.box (cs2.set k (.arr (slot,0) sz none false)))))) p:=λp=>by
  refine ⟨rfl,λhs=> ?_,λz zs hz=>⟨zs,?_,rfl⟩,λ_ _ _=>rfl⟩
  ·show ((s2.sto.put r _).get p).isSome;by_cases e:p=r
   ·subst e;rw[cR _ M];rfl
   rw[bU _ e];exact hs
  have V:(s2.sto.get p).bind Obj.rw=some (z,zs):=hz;show ((s2.sto.put r _).get p).bind Obj.rw=_;by_cases e:p=r
  ·subst e;rw[M]at V;simp[Obj.rw]at V
  rw[bU _ e];exact V
 obtain ⟨n1,n2,_⟩:=RS.swap (ob':= .box (cs2.set k (.arr (slot,0) sz none false))) (N:=j.nest r) np k1 M (λz zs e=>(by simp[Obj.rw]at e)) (λb hb=>by
  rcases hb with hb | ⟨hb,_⟩
  ·exact .inl hb
  ·cases hb) (by
  simp only[RO];refine ⟨b2,a5,a8,U,J,?_⟩;refine cO (c:=aI w Z j s2.sto) (c':=aI w Z (nH j r (j.nest r)) (s2.sto.put r (some (.box (cs2.set k (.arr (slot,0) sz none false)))))) (ko.refl _ _) _ _ (λp _=>hsame p) ?_;rw[bJ]at u3 |-;refine ⟨by simpa using u3.1,λi p v' E I=> ?_⟩;rw[List.getElem?_set]at E;split at E
  ·rename_i e;subst e;split at E
   ·injection E with E;subst E;rw[a4]at I;injection I with I;subst I;exact a6
   cases E
  exact u3.2 i p v' E I)
 exact ⟨_,n1,k2.trans n2⟩
theorem vp {np slot t:Nat} {q:Id} {sz:gJ} {g:Option (Int×Int)} {u:Bool} {ob ob':Obj} {xs ys:List D} {s':St} (h:RS s a w L Z) (I:slot<np) (hk:s.env[t]? =some (.arr q sz g u))
  (J:s.sto.get q=some ob) (E:ob= .rows sz xs/\ob'= .rows sz ys\/ob= .orows sz xs/\ob'= .orows sz ys) (M:tj (real call loop) g xs=some ys) (e:Gg t q slot sz ob' s=some s'):
  ∃L',RS s' a w L' Z/\Tr np s.sto s'.sto w w L L' Z Z:=by
 obtain ⟨O,S⟩:=uF h hk;unfold Gg at e;split at e
 case h_2=>cases e
 rename_i s2 hl;injection e with e;subst e;obtain ⟨U,V,k2,_,_,j⟩:=J0 h I S J E M hl;exact ⟨U,tE V O j,k2⟩
theorem P0 {c:Cx} {cs l:List D} {off n:Nat} {v:Value} (h:RV c (.sp cs off) v) (e:cut cs off n=some l):RV c (.sp l 0) v:=by
 unfold cut at e;split at e
 case isFalse=>cases e
 rename_i U;injection e with e;subst e;simp only[RV]at h |-;obtain ⟨b,o,vs,O,S,h3,h4⟩:=h;have J:=dA.1 h3;refine ⟨b,o+off,(vs.drop off).take n,O,S,dA.2 ⟨by simp[J.1],λi d v E M=> ?_⟩,λj u I=> ?_⟩
 ·rw[List.getElem?_take]at E M;split at E
  ·rw[List.getElem?_drop]at E;rename_i hi;rw[if_pos hi,List.getElem?_drop]at M;exact J.2 _ d v E M
  cases E
 rw[List.getElem?_take]at I;split at I
 ·rw[List.getElem?_drop]at I;rw[Nat.add_assoc];exact h4 _ u I
 cases I
theorem DA {np k:Nat} {r:Id} {cs cs2:List AV} {x:AV} {d:D} {s2:St} (h:RS s a w L Z) (V:s.sto.get r=some (.box cs)) (hk:cs[k]? =some x)
  (hf:fz (real call loop) s x=some (.d d,s2)) (J:s2.sto.get r=some (.box cs2)):
  ∃L' Z',RS ⟨s2.env,s2.sto.put r (some (.box (cs2.set k (.d d))))⟩ a w L' Z'/\Tr np s.sto (s2.sto.put r (some (.box (cs2.set k (.d d))))) w w L L' Z Z':=by
 have a0:=h.obj r _ V;simp only[RO]at a0;obtain ⟨b0,a1,aa,r1,r2,r3⟩:=a0;have hk0:=ax.1 hk;have a9:=(bJ.1 r3).1;obtain ⟨v,a3⟩:∃v,a1.toList[k]? =some v:=⟨_,bA (by have:=hk0.1;omega)⟩
 have hv:=(bJ.1 r3).2 k _ v hk a3;obtain ⟨M,k1,k2,_,k4⟩:=tT np _ _ s s2 _ Z h (Kept.refl _ _ _ _) hv hf;have a5:RV (aI w M L s2.sto) (.d d) v:=k4 λr V=>by simp only[AV.refs]at V;cases V
 have O:=k1.obj r _ J;simp only[RO]at O;obtain ⟨b2,a4,a6,u1,I,u3⟩:=O;have a7:b2=b0:=by
  have h2:L r=some b2:=u1;have h3:L r=some b0:=r1;rw[h2]at h3;injection h3
 subst a7;have a8:a4=a1:=by rw[r2]at I;injection I with I;injection I with I;exact I.symm
 subst a8;have hsame:∀p,Same (aI w M L s2.sto) (aI w M (nH L r (L.nest r)) (s2.sto.put r (some (.box (cs2.set k (.d d)))))) p:=λp=>by
  refine ⟨rfl,λhs=> ?_,λz zs hz=>⟨zs,?_,rfl⟩,λ_ _ _=>rfl⟩
  ·show ((s2.sto.put r _).get p).isSome;by_cases e:p=r
   ·subst e;rw[cR _ J];rfl
   rw[bU _ e];exact hs
  have S:(s2.sto.get p).bind Obj.rw=some (z,zs):=hz;show ((s2.sto.put r _).get p).bind Obj.rw=_;by_cases e:p=r
  ·subst e;rw[J]at S;simp[Obj.rw]at S
  rw[bU _ e];exact S
 obtain ⟨n1,n2,_⟩:=RS.swap (ob':= .box (cs2.set k (.d d))) (N:=L.nest r) np k1 J (λz zs e=>(by simp[Obj.rw]at e)) (λb U=>by
  rcases U with U | ⟨U,_⟩
  ·exact .inl U
  ·cases U) (by
  simp only[RO];refine ⟨b2,a4,a6,u1,I,?_⟩;refine cO (c:=aI w M L s2.sto) (c':=aI w M (nH L r (L.nest r)) (s2.sto.put r (some (.box (cs2.set k (.d d)))))) (ko.refl _ _) _ _ (λp _=>hsame p) ?_;rw[bJ]at u3 |-;refine ⟨by simpa using u3.1,λi p v' j E=> ?_⟩;rw[List.getElem?_set]at j;split at j
  ·rename_i e;subst e;split at j
   ·injection j with j;subst j;rw[a3]at E;injection E with E;subst E;exact a5
   cases j
  exact u3.2 i p v' j E)
 exact ⟨_,M,n1,k2.trans n2⟩
theorem mI {np:Nat}:∀{ps:List (Nat×Option Nat×Nat)} {s s':St} {L:Loc} {Z:Nat->Prop},ps.all (λp=>decide (p.2.2<np))=true->RS s a w L Z->homes (real call loop) ps s=some s'->∃L' Z',RS s' a w L' Z'/\Tr np s.sto s'.sto w w L L' Z Z'
 | [],s,s',L,Z,_,h,e=>by
  simp only[homes]at e;injection e with e;subst e;exact ⟨L,Z,h,Tr.refl _ _ _ _ _⟩
 | (t,
     c,
        slot)::ps,s,s',L,Z,hp,h,e=>by
  simp only[List.all_cons,af,decide_eq_true_eq]at hp;obtain ⟨hs,hp⟩:=hp;simp only[homes]at e;split at e
  case h_2=>cases e
  rename_i s1 j;have key:∃L' Z',RS s1 a w L' Z'/\Tr np s.sto s1.sto w w L L' Z Z':=by
   cases c with
   | none=>
    cases slot with
    | zero=>
     simp only[xZ]at j;split at j
     case h_2=>injection j with j;subst j;exact ⟨L,Z,h,Tr.refl _ _ _ _ _⟩
     rename_i q sz g u hk;obtain ⟨ht,M⟩:=uF h hk;split at j
     case h_2=>cases j
     rename_i x s2 a3;injection j with j;subst j;obtain ⟨Z',k1,k2,_,k4⟩:=tT np _ _ s s2 _ Z h (Kept.refl _ _ _ _) M a3;exact ⟨L,Z',tE k1 ht (k4 λr O=>by simp only[AV.refs]at O;cases O),k2⟩
    | succ slot=>
    simp only[xZ]at j;split at j
    case h_2=>injection j with j;subst j;exact ⟨L,Z,h,Tr.refl _ _ _ _ _⟩
    rename_i q sz g u hk;have I:∀ob,s.sto.get q=some ob->∀z xs,ob.rw=some (z,xs)->z=sz:=λob ho z xs a0=>by
      obtain ⟨_,M⟩:=uF h hk;simp only[RV]at M;obtain ⟨_,_,_,zs,_,_,_,m4,_⟩:=M;have S:(s.sto.get q).bind Obj.rw=some (sz,zs):=m4;rw[ho]at S;have E:ob.rw=some (sz,zs):=S;rw[a0]at E;injection E with E;injection E with E
    split at j
    · rename_i z xs J;obtain rfl:=I _ J z xs rfl;split at j
      case h_2=>cases j
      rename_i ys V;exact (λ⟨U,q1,q2⟩=>⟨U,Z,q1,q2⟩) (vp h hs hk J (.inl ⟨rfl,rfl⟩) V j)
    · rename_i z xs J;obtain rfl:=I _ J z xs rfl;split at j
      case h_2=>cases j
      rename_i ys V;exact (λ⟨U,q1,q2⟩=>⟨U,Z,q1,q2⟩) (vp h hs hk J (.inr ⟨rfl,rfl⟩) V j)
    cases j
   | some c=>
    cases slot with
    | zero=>
     simp only[xZ]at j;split at j
     · split at j
       case h_2=>cases j
       rename_i cs O;split at j
       case h_2=>cases j
       rename_i x hx;split at j
       case h_2=>cases j
       rename_i d s2 hf;split at j
       case h_2=>cases j
       rename_i cs2 a4;injection j with j;subst j;exact DA h O hx hf a4
     · rename_i cs off hk;split at j
       case h_2=>cases j
       rename_i l hl;injection j with j;subst j;obtain ⟨ht,M⟩:=uF h hk;exact ⟨L,Z,tE h ht (P0 M hl),Tr.refl _ _ _ _ _⟩
     injection j with j;subst j;exact ⟨L,Z,h,Tr.refl _ _ _ _ _⟩
    | succ slot=>
    simp only[xZ]at j;split at j
    case h_2=>cases j
    rename_i r b _;split at j
    case h_2=>cases j
    rename_i cs O;split at j
    case h_2=>injection j with j;subst j;exact ⟨L,Z,h,Tr.refl _ _ _ _ _⟩
    rename_i q sz g u hk;have I:∀ob,s.sto.get q=some ob->∀z xs,ob.rw=some (z,xs)->z=sz:=λob ho z xs a0=>by
      have a1:=h.obj r _ O;simp only[RO]at a1;obtain ⟨b0,a5,a8,r1,r2,r3⟩:=a1;have hk0:=ax.1 hk;have a7:=(bJ.1 r3).1;obtain ⟨v,a6⟩:∃v,a5.toList[b+c]? =some v:=⟨_,bA (by have:=hk0.1;omega)⟩
      have M:=(bJ.1 r3).2 _ _ v hk a6;simp only[RV]at M;obtain ⟨_,_,_,zs,_,_,_,m4,_⟩:=M;have S:(s.sto.get q).bind Obj.rw=some (sz,zs):=m4;rw[ho]at S;have E:ob.rw=some (sz,zs):=S;rw[a0]at E;injection E with E;injection E with E
    split at j
    · rename_i z xs J;obtain rfl:=I _ J z xs rfl;split at j
      case h_2=>cases j
      rename_i ys V;exact (λ⟨U,q1,q2⟩=>⟨U,Z,q1,q2⟩) (tF h hs O hk J (.inl ⟨rfl,rfl⟩) V j)
    · rename_i z xs J;obtain rfl:=I _ J z xs rfl;split at j
      case h_2=>cases j
      rename_i ys V;exact (λ⟨U,q1,q2⟩=>⟨U,Z,q1,q2⟩) (tF h hs O hk J (.inr ⟨rfl,rfl⟩) V j)
    cases j
  obtain ⟨U,Z1,k1,k2⟩:=key;obtain ⟨L2,Z2,m1,m2⟩:=mI hp k1 e;exact ⟨L2,Z2,m1,k2.trans m2⟩
end
end
end Go.Vi
