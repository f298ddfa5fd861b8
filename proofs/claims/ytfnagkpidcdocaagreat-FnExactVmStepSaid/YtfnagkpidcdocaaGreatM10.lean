import Derived.Test.YtfnagkpidcdocaaGreatM09
import Derived.Test.YtfnagkpidcdocaaGreatM08
set_option linter.all false
namespace Go.Vi
open Go Go.RowKit
section
variable {P:Program} {call:cM} {loop:cN}
variable {s:St} {a:Act} {w:World} {L:Loc} {Z:Nat->Prop}
def wh:lZ->Bool
 | .alloc _ | .box _ | .buildRow _ _ _ _ _ | .buildH _ _ _ | .appendE _ _ _ _=>true
 | .call _ m raw _=>raw&&(m== .bor || m== .pure)
 | _=>false
def D9:lZ->Bool
 | .storeP _ _ _ | .storeR _ _ _=>true
 | _=>false
def Gx (x y:lZ):Bool:=(sZ x&&sZ y) || (sZ x&&wh y) || (v9 x&&(wh y || D9 y)) || ((wh x || D9 x)&&v9 y)
def AK (x y:a_):Bool:=(Gx x.op y.op&&v_ x.dst (nE y)&&v_ y.dst (nE x)&&Mg x.dst y.dst) ||
 (x.guard.isNone&&y.guard.isNone&&zm x.op y.op&&v_ x.dst (zQ y.op)&&v_ y.dst (zQ x.op)&&Mg x.dst y.dst)
theorem pN {env:List AV} {d:Option Nat} {u:AV} {ts:List Nat} (h:v_ d ts=true):Like env (dR env d u) ts:=λt ht=>(kX h t ht).symm
theorem zn {s s':br} {t:Nat} {l:List (Option Obj)} (h:s.lay t l=some s'):oU s s':=by
 unfold br.lay at h;split at h
 case h_2=>cases h
 case h_1 old ho=>
  split at h
  case isFalse=>cases h
  case isTrue hn=>
   injection h with h;subst h;intro r ob hr;unfold br.get at hr |-;by_cases he:t=r.1
   ·subst he;rw[ho]at hr;simp only at hr;exfalso;cases hq:old[r.2]? with
    | none=>simp[hq]at hr
    | some q=>
     simp only[hq]at hr;have:=List.all_eq_true.1 hn q (List.mem_of_getElem? hq);rw[hr]at this;simp at this
   ·rw[List.getElem?_set_ne he];exact hr
theorem lT {s:St} {env:List AV} {v:a_} (hl:Like s.env env (nE v)):wanted env v.guard=wanted s.env v.guard:=by
 obtain ⟨h1,_⟩:=hl.app;cases hg:v.guard with
 | none=>rfl
 | some g=>
  obtain ⟨t,b⟩:=g;rw[hg]at h1;simp only[wanted,h1 t (by simp)]
theorem AL {v:a_} {s s':St} (hd:v9 v.op=true) (e:dM (real call loop) v s=some s'):
  ∃u,s'=⟨dR s.env v.dst u,s.sto⟩/\∀env sto',Like s.env env (nE v)->dM (real call loop) v ⟨env,sto'⟩=some ⟨dR env v.dst u,sto'⟩:=by
 unfold dM at e;split at e
 ·rename_i hw;split at e
  case h_2=>cases e
  case h_1 u s1 hd1=>
   injection e with e;rw[iz (pL hd)]at hd1;split at hd1
   case h_3=>cases hd1
   case h_2 u' e' new' hev=>have:=s6 (pL hd) hev;cases this
   case h_1 u' hev=>
    injection hd1 with hd1;injection hd1 with q1 q2;subst q1;subst q2;refine ⟨u',e.symm,λenv sto' hl=> ?_⟩;unfold dM;rw[lT hl,hw];simp only;rw[iz (pL hd)];simp only[jD (pL hd) (hl.app).2,wg (s':=s.sto) hd,hev]
 ·rename_i hw;injection e with e;refine ⟨.bare,e.symm,λenv sto' hl=> ?_⟩;unfold dM;rw[lT hl,hw]
 ·cases e
theorem rZ {e e':List AV}:∀{xs:List (Nat×VX)},Like e e' (xs.flatMap λp=>eY p.2)->dW e' xs=dW e xs
 | [],_=>rfl
 | (i,x)::xs,h=>by
  rw[List.flatMap_cons]at h;obtain ⟨h1,h2⟩:=h.app;simp only[dW,bG (show Like e e' (eY x)from h1),rZ h2]
theorem Mh {op:lZ} {dst:Option Nat} {s s1:St} {u:AV} (hw:(wh op || D9 op)=true) (e:aI (real call loop) s dst op=some (u,s1)):
  ∃sto2,s1=⟨s.env,sto2⟩/\(wh op=true->oU s.sto sto2)/\∀env,Like s.env env (zQ op)->aI (real call loop) ⟨env,s.sto⟩ dst op=some (u,⟨env,sto2⟩):=by
 cases op<;>first | (simp[wh,D9]at hw;done) | skip
 case call f m raw args=>
  have hm:raw=true/\(m= .bor\/m= .pure):=by simpa [wh,D9]using hw
  obtain ⟨rfl,rfl | rfl⟩:=hm
  case inr=>
   simp only[aI]at e;cases hx:wT s.env args with
   | none=>simp[hx]at e
   | some as=>
    simp only[hx,cX]at e;split at e
    ·cases e
    rename_i hp;have hr:AV.bE as=[]:=by simpa using hp
    simp only[handed]at e;split at e
    ·cases e
    rename_i as' s2 hsn;split at hsn
    case h_2=>cases hsn
    case h_1 as'' hsn'=>
     injection hsn with hsn;injection hsn with q1 q2;subst q1;subst q2;have hr':=jq as _ hr hsn';simp only[hr',iG,List.map_nil]at e;split at e
     ·cases e
     rename_i c hc;split at e
     ·cases e
     rename_i sto hwb;have hpars:c.pars=[]/\sto=s.sto:=by
      cases hcp:c.pars with
      | nil=>rw[hcp]at hwb;simp only[fQ]at hwb;injection hwb with hwb;exact ⟨rfl,hwb.symm⟩
      | cons x xs=>rw[hcp]at hwb;simp[fQ]at hwb
     obtain ⟨hpars,rfl⟩:=hpars;simp only[hpars,St.buried,fX]at e;have hev:∀env,Like s.env env (zQ (.call f .pure true args))->wT env args=some as:=λenv hlk=>by rw[<-hx];exact kV hlk
     split at e
     ·rename_i hX;injection e with e;injection e with e1 e2;subst e1;subst e2;refine ⟨s.sto,rfl,λ_=>oU.refl _,λenv hlk=> ?_⟩;simp only[aI,hev env hlk,cX,hp,handed,hsn',hr',iG,List.map_nil,hc,hpars,fQ,St.buried,fX,hX]
     ·rename_i e0 ex hX;split at e
      · rename_i t hraw hd;split at e
        case h_2=>cases e
        case h_1 s3 hl=>
          injection e with e;injection e with e1 e2;subst e1;subst e2;obtain ⟨sto2,n1,n2⟩:=jR hl;subst n2;refine ⟨sto2,rfl,λ_=>rX n1,λenv hlk=> ?_⟩;simp only[aI,hev env hlk,cX,hp,handed,hsn',hr',iG,List.map_nil,hc,hpars,fQ,St.buried,fX,hX,jS n1]
      · cases e
  have hb:∀env,wT env args=wT s.env args->aI (real call loop) ⟨env,s.sto⟩ dst (.call f .bor true args)=match aI (real call loop) s dst (.call f .bor true args)with | some (u,s1)=>some (u,⟨env,s1.sto⟩) | none=>none:=by
   intro env hx;simp only[aI,hx];cases wT s.env args with
   | none=>rfl
   | some as=>
    simp only[cX];cases jh (real call loop) s.sto as with
    | none=>rfl
    | some as'=>
     simp only;cases (AV.bE as').isEmpty with
     | false=>rfl
     | true=>
      simp only;cases (real call loop).call f as' []with
      | none=>rfl
      | some c=>
        simp only;cases scalar c.ret with
        | true=>rfl
        | false=>
          simp only;cases dst with
          | none=>rfl
          | some t=>
            cases c.pars with
            | cons _ _=>rfl
            | nil=>
              cases eT c.ret with
              | false=>rfl
              | true=>
               cases jv (real call loop) c.extra with
               | false=>rfl
               | true=>
                simp only[St.lay];cases s.sto.lay t (c.extra.map λob=>ob.map (·.map λr=>(t,r.2)))<;>rfl
  have hs:∃sto2,
               s1=⟨s.env,sto2⟩/\oU s.sto sto2:=by
   simp only[aI]at e;cases h1:wT s.env args with
   | none=>simp[h1]at e
   | some as=>
    simp only[h1,cX]at e;cases h2:jh (real call loop) s.sto as with
    | none=>simp[h2]at e
    | some as'=>
     simp only[h2]at e;cases h3:(AV.bE as').isEmpty with
     | false=>simp[h3]at e
     | true=>
      simp only[h3]at e;cases h4:(real call loop).call f as' []with
      | none=>simp[h4]at e
      | some c=>
        simp only[h4]at e;cases h5:scalar c.ret with
        | true=>
          simp only[h5]at e;injection e with e;injection e with q1 q2;exact ⟨s.sto,by rw[<-q2],oU.refl _⟩
        | false=>
          simp only[h5]at e;split at e
          case h_2=>cases e
          case h_1 t _ _ _ _=>
            simp only[St.lay]at e;split at e
            case h_2=>cases e
            case h_1 s2 hl=>
              split at hl
              case h_2=>cases hl
              case h_1 sto hl'=>
               injection hl with hl;injection e with e;injection e with q1 q2;exact ⟨sto,by rw[<-q2,<-hl],zn hl'⟩
  obtain ⟨sto2,h1,h2⟩:=hs;refine ⟨sto2,h1,λ_=>h2,λenv hl=> ?_⟩;rw[hb env (kV hl),e,h1]
 case alloc cs=>
  simp only[aI,evalOp]at e;cases dst with
  | none=>simp at e
  | some t=>
   simp only[St.lay]at e;cases hl:s.sto.lay t [some (.box cs)]with
   | none=>simp[hl]at e
   | some sto=>
    simp only[hl]at e;injection e with e;injection e with q1 q2;subst q1;subst q2;exact ⟨sto,rfl,λ_=>zn hl,λenv _=>by simp only[aI,evalOp,St.lay,hl]⟩
 case box x=>
  have hb:∀env,ev env x=ev s.env x->aI (real call loop) ⟨env,s.sto⟩ dst (.box x)=match aI (real call loop) s dst (.box x)with | some (u,s1)=>some (u,⟨env,s1.sto⟩) | none=>none:=by
   intro env hx;simp only[aI,evalOp,hx];cases ev s.env x with
   | none=>rfl
   | some a=>
    cases a<;>first
     | rfl
     | (
       cases dst with
       | none=>rfl
       | some t=>
         simp only[St.lay];generalize s.sto.lay t _=q;cases q<;>rfl)
  have hs:∃sto2,s1=⟨s.env,sto2⟩/\oU s.sto sto2:=by
   simp only[aI,evalOp]at e;cases hx:ev s.env x with
   | none=>simp[hx]at e
   | some a=>
    simp only[hx]at e;cases a<;>first
     | (simp at e;done)
     | (
       cases dst with
       | none=>simp at e
       | some t=>
         simp only[St.lay]at e;split at e
         case h_2=>cases e
         case h_1 sto hl=>
           split at hl
           case h_2=>cases hl
           case h_1 sto' hl'=>
             injection hl with hl;injection e with e;injection e with q1 q2;exact ⟨sto',by rw[<-q2,<-hl],zn hl'⟩)
  obtain ⟨sto2,h1,h2⟩:=hs;refine ⟨sto2,h1,λ_=>h2,λenv hl=> ?_⟩;rw[hb env (bG hl),e,h1]
 case buildRow sz agg zero len ps=>
  have hb:∀env,dW env ps=dW s.env ps->aI (real call loop) ⟨env,s.sto⟩ dst (.buildRow sz agg zero len ps)=match aI (real call loop) s dst (.buildRow sz agg zero len ps)with | some (u,s1)=>some (u,⟨env,s1.sto⟩) | none=>none:=by
   intro env hx;simp only[aI,hx];cases dW s.env ps with
   | none=>rfl
   | some qs=>
    cases dst with
    | none=>rfl
    | some t=>
     simp only;by_cases hz:zero.length=sz.2
     ·rw[if_pos hz,if_pos hz];cases dZ zero with
      | none=>rfl
      | some ds=>
        simp only;cases D.bJ agg ds with
        | none=>rfl
        | some z=>
          simp only;cases p_ (qs.map (·.2))with
          | none=>rfl
          | some xs=>
            simp only;cases kQ sz.2 (List.replicate len z) ((qs.map (·.1)).zip xs)with
            | none=>rfl
            | some l=>
              cases l with
              | nil=>rfl
              | cons y ys=>
               simp only[St.lay];cases s.sto.lay t [some (.rows sz (y::ys))]<;>rfl
     ·rw[if_neg hz,if_neg hz]
  have hs:∃sto2,
               s1=⟨s.env,sto2⟩/\oU s.sto sto2:=by
   simp only[aI]at e;cases h1:dW s.env ps with
   | none=>simp[h1]at e
   | some qs=>
    cases dst with
    | none=>simp[h1]at e
    | some t=>
     simp only[h1]at e;by_cases hz:zero.length=sz.2
     ·rw[if_pos hz]at e;cases h2:dZ zero with
      | none=>simp[h2]at e
      | some ds=>
        simp only[h2]at e;cases h3:D.bJ agg ds with
        | none=>simp[h3]at e
        | some z=>
          simp only[h3]at e;cases h4:p_ (qs.map (·.2))with
          | none=>simp[h4]at e
          | some xs=>
            simp only[h4]at e;cases h5:kQ sz.2 (List.replicate len z) ((qs.map (·.1)).zip xs)with
            | none=>simp[h5]at e
            | some l=>
              cases l with
              | nil=>
               simp only[h5]at e;injection e with e;injection e with q1 q2;exact ⟨s.sto,by rw[<-q2],oU.refl _⟩
              | cons y ys=>
               simp only[h5,St.lay]at e;cases h6:s.sto.lay t [some (.rows sz (y::ys))]with
               | none=>simp[h6]at e
               | some sto=>
                simp only[h6]at e;injection e with e;injection e with q1 q2;exact ⟨sto,q2.symm,zn h6⟩
     ·rw[if_neg hz]at e;cases e
  obtain ⟨sto2,h1,h2⟩:=hs;refine ⟨sto2,h1,λ_=>h2,λenv hl=> ?_⟩;rw[hb env (rZ hl),e,h1]
 case storeP n a x=>
  simp only[aI]at e;split at e
  case h_2=>cases e
  case h_1 r off v h1 h2=>
   simp only[storeAt]at e;split at e
   case h_2=>cases e
   case h_1 s2 hs2=>
    injection e with e;injection e with q1 q2;subst q1;subst q2;split at hs2
    case isTrue=>cases hs2
    case isFalse hc=>
     split at hs2
     case h_2=>cases hs2
     case h_1 cs hg=>
      split at hs2
      case h_2=>cases hs2
      case h_1 cs' hl=>
        injection hs2 with hs2;subst hs2;refine ⟨_,rfl,λh=>by simp[wh]at h,λenv hlk=> ?_⟩;obtain ⟨l1,l2⟩:=Like.app (show Like s.env env (eY a++eY x)from hlk);simp only[aI,bG l1,bG l2,h1,h2,storeAt];rw[if_neg hc];simp only[hg,hl]
 case buildH sz off x=>
  simp only[aI]at e;split at e
  case h_2=>cases e
  case h_1 cs t h1=>
   split at e
   case h_2=>cases e
   case h_1 ds q esz hl0=>
    split at e
    case isFalse=>cases e
    case isTrue hc=>
     split at e
     case h_2=>cases e
     case h_1 s2 hl=>
      injection e with e;injection e with e1 e2;subst e1;subst e2;obtain ⟨sto2,n1,n2⟩:=jR hl;subst n2;refine ⟨sto2,rfl,λ_=>rX n1,λenv hlk=> ?_⟩;simp only[aI,bG (show Like s.env env (eY x)from hlk),h1,hl0,hc,if_true,jS n1]
 case appendE sz bytes x y=>
  obtain ⟨t,l,sto2,hd,n1,rfl,n2⟩:=rY e;exact ⟨sto2,rfl,λ_=>rX n1,λenv hlk=>n2 env s.sto sto2 hlk (oU.refl _) n1⟩
 case storeR n a x=>
  obtain ⟨r,sz,xs,xs',f1,f2,f3,f4⟩:=t_ e;subst f2;subst f3;exact ⟨_,rfl,λh=>by simp[wh]at h,λenv hlk=>f4 env s.sto hlk f1⟩
theorem wj {v:a_} {s s':St} (hw:(wh v.op || D9 v.op)=true) (e:dM (real call loop) v s=some s'):
  ∃u sto2,(wh v.op=true->oU s.sto sto2)/\s'=⟨dR s.env v.dst u,sto2⟩/\∀env,Like s.env env (nE v)->dM (real call loop) v ⟨env,s.sto⟩=some ⟨dR env v.dst u,sto2⟩:=by
 unfold dM at e;split at e
 ·rename_i hwt;split at e
  case h_2=>cases e
  case h_1 u s1 hd1=>
   injection e with e;obtain ⟨sto2,h1,h2,h3⟩:=Mh hw hd1;subst h1;refine ⟨u,sto2,h2,e.symm,λenv hl=> ?_⟩;unfold dM;rw[lT hl,hwt];simp only[h3 env (hl.app).2]
 ·rename_i hwt;injection e with e;refine ⟨.bare,s.sto,λ_=>oU.refl _,e.symm,λenv hl=> ?_⟩;unfold dM;rw[lT hl,hwt]
 ·cases e
theorem B_ {x y:a_} {s r:St} (h:AK x y=true) (e:aY (real call loop) [x,y] s=some r):aY (real call loop) [y,x] s=some r:=by
 simp only[AK,Bool.or_eq_true]at h;rcases h with h | h
 case inr=>
  simp only[af]at h;obtain ⟨⟨⟨⟨⟨g1,g2⟩,hk⟩,h3⟩,h4⟩,h5⟩:=h;rw[bO]at e |-;split at e
  case h_2=>cases e
  case h_1 s1 e1=>
   rw[eZ]at e;obtain ⟨s2,m1,m2⟩:=AJ (by simp[g1,g2]) hk h3 h4 h5 e1 e;rw[m1];simp only[eZ];exact m2
 simp only[af]at h;obtain ⟨⟨⟨hk,h3⟩,h4⟩,h5⟩:=h;rw[bO]at e |-;cases e1:dM (real call loop) x s with
 | none=>simp[e1]at e
 | some s1=>
  simp only[e1,eZ]at e;simp only[Gx,Bool.or_eq_true,af]at hk;rcases hk with ((⟨k1,k2⟩ | ⟨k1,k2⟩) | ⟨k1,k2⟩) | ⟨k1,k2⟩
  ·obtain ⟨u,m1,m2⟩:=qG k1 e1;subst m1;obtain ⟨u',n1,n2⟩:=qG k2 e;have:=n2 s.env s.sto (kX h3) (oU.refl _);rw[show (⟨s.env,s.sto⟩:St)=s from rfl]at this;simp only[this,eZ];rw[m2 _ _ (pN h4) (oU.refl _),n1,dN h5]
  ·obtain ⟨u,m1,m2⟩:=qG k1 e1;subst m1;obtain ⟨u',sto2,n0,n1,n2⟩:=wj (by simp[k2]) e;have:=n2 s.env (kX h3);rw[show (⟨s.env,s.sto⟩:St)=s from rfl]at this;simp only[this,eZ];rw[m2 _ _ (pN h4) (n0 k2),n1,dN h5]
  ·obtain ⟨u,m1,m2⟩:=AL k1 e1;subst m1;obtain ⟨u',sto2,n0,n1,n2⟩:=wj (by simpa using k2) e;have:=n2 s.env (kX h3);rw[show (⟨s.env,s.sto⟩:St)=s from rfl]at this;simp only[this,eZ];rw[m2 _ _ (pN h4),n1,dN h5]
  ·obtain ⟨u,sto2,m0,m1,m2⟩:=wj (by simpa using k1) e1;subst m1;obtain ⟨u',n1,n2⟩:=AL k2 e;have:=n2 s.env s.sto (kX h3);rw[show (⟨s.env,s.sto⟩:St)=s from rfl]at this;simp only[this,eZ];rw[m2 _ (pN h4),n1,dN h5]
theorem bubble {x:a_}:∀{B:List a_} {s r:St},(∀b∈B,AK x b=true)->aY (real call loop) (x::B) s=some r->aY (real call loop) (B++[x]) s=some r
 | [],s,r,_,e=>e
 | b::B,s,r,h,e=>by
  have e1:aY (real call loop) ([x,b]++B) s=some r:=e;rw[i_]at e1;split at e1
  case h_2=>cases e1
  case h_1 s1 hs1=>
   have h2:=B_ (h b (by simp)) hs1;rw[bO]at h2;split at h2
   case h_2=>cases h2
   case h_1 s2 hs2=>
    have h3:aY (real call loop) (x::B) s2=some r:=by
     rw[bO];rw[eZ]at h2;rw[h2];exact e1
    rw[List.cons_append,bO,hs2];exact bubble (λc hc=>h c (by simp[hc])) h3
def sel (p:Nat->Bool):Nat->List a_->List a_
 | _,[]=>[]
 | k,v::vs=>if p k then v::sel p (k+1) vs else sel p (k+1) vs
def zo (dep:Nat->Nat->Bool) (i:Nat) (v:a_):Nat->List a_->Bool
 | _,[]=>true
 | j,u::us=>(dep i j || AK v u)&&zo dep i v (j+1) us
def pO (dep:Nat->Nat->Bool):Nat->List a_->Bool
 | _,[]=>true
 | k,v::vs=>zo dep k v (k+1) vs&&pO dep (k+1) vs
theorem r9 {dep:Nat->Nat->Bool} {i:Nat} {v:a_} {p:Nat->Bool}:∀{vs:List a_} {k:Nat},zo dep i v k vs=true->(∀j,k<=j->p j=true->dep i j=false)->∀b∈sel p k vs,AK v b=true
 | [],k,_,_,b,hb=>by simp[sel]at hb
 | u::us,k,h,hp,b,hb=>by
  simp only[zo,af]at h;simp only[sel]at hb;split at hb
  ·rename_i hk;rcases List.mem_cons.1 hb with rfl | hb
   ·have:=hp k (Nat.le_refl _) hk;rw[this]at h;simpa using h.1
   ·exact r9 h.2 (λj hj=>hp j (by omega)) b hb
  ·exact r9 h.2 (λj hj=>hp j (by omega)) b hb
theorem wk {dep:Nat->Nat->Bool} {p:Nat->Bool}:∀{vs:List a_} {k:Nat} {s r:St},pO dep k vs=true->(∀i j,k<=i->i<j->p j=true->dep i j=true->p i=true)->aY (real call loop) vs s=some r->
  ∃r1,aY (real call loop) (sel p k vs) s=some r1
 | [],k,s,r,_,_,e=>⟨s,rfl⟩
 | v::vs,k,s,r,h,hp,e=>by
  simp only[pO,af]at h;rw[bO]at e;split at e
  case h_2=>cases e
  case h_1 s1 hs1=>
   obtain ⟨r1,hr1⟩:=wk h.2 (λi j hi=>hp i j (by omega)) e;simp only[sel];split
   ·exact ⟨r1,by rw[bO,hs1];exact hr1⟩
   ·rename_i hk;have hb:=bubble (x:=v) (B:=sel p (k+1) vs) (s:=s) (r:=r1) (r9 h.1 λj hj hpj=>by
     cases hd:dep k j with
     | false=>rfl
     | true=>exact (hk (hp k j (Nat.le_refl _) (by omega) hpj hd)).elim) (by rw[bO,hs1];exact hr1)
    rw[i_]at hb;split at hb
    ·rename_i s2 hs2;exact ⟨s2,hs2⟩
    ·cases hb
theorem tj {p p':Nat->Bool}:∀{vs:List a_} {k:Nat},(∀j,k<=j->p j=p' j)->sel p k vs=sel p' k vs
 | [],k,_=>rfl
 | v::vs,k,h=>by simp only[sel,h k (Nat.le_refl _),tj (vs:=vs) (k:=k+1) λj hj=>h j (by omega)]
theorem zp {dep:Nat->Nat->Bool} {p:Nat->Bool} {i:Nat} (hpi:p i=false) (hdep:∀j,i<j->p j=true->dep i j=false):∀{vs:List a_} {k:Nat} {s r:St} {v:a_},pO dep k vs=true->k<=i->vs[i-k]? =some v->
  aY (real call loop) (sel (λj=>p j || j==i) k vs) s=some r->aY (real call loop) (sel p k vs++[v]) s=some r
 | [],k,s,r,v,_,_,hv,_=>by simp at hv
 | u::us,k,s,r,v,h,hk,hv,e=>by
  simp only[pO,af]at h;by_cases hik:i=k
  ·subst hik;simp at hv;subst hv;have e1:sel (λj=>p j || j==i) i (u::us)=u::sel p (i+1) us:=by
    simp only[sel,hpi,beq_self_eq_true,Bool.or_true,if_true];congr 1;exact tj λj hj=>by
     have:(j==i)=false:=by simp;omega
     simp[this]
   have e2:sel p i (u::us)=sel p (i+1) us:=by simp[sel,hpi]
   rw[e1]at e;rw[e2];exact bubble (r9 h.1 λj hj hpj=>hdep j (by omega) hpj) e
  ·have hlt:k+1<=i:=by omega
   have hv':us[i-(k+1)]? =some v:=by
    have:i-k=(i-(k+1))+1:=by omega
    rw[this]at hv;simpa using hv
   have hki:(k==i)=false:=by simp;omega
   simp only[sel,hki,Bool.or_false]at e |-;split at e
   ·rename_i hpk;rw[bO]at e;split at e
    case h_2=>cases e
    case h_1 s1 hs1=>
     have ih:=zp hpi hdep h.2 hlt hv' e;simp only[hpk,if_true,List.cons_append];rw[bO,hs1];exact ih
   ·rename_i hpk;simp only[hpk,if_false,Bool.false_eq_true];exact zp hpi hdep h.2 hlt hv' e
theorem Dl {p:Nat->Bool}:∀{vs:List a_} {k:Nat},(∀j,k<=j->j<k+vs.length->p j=true)->sel p k vs=vs
 | [],k,_=>rfl
 | v::vs,k,h=>by
  simp only[sel,h k (Nat.le_refl _) (by simp),if_true];rw[Dl λj hj hl=>h j (by omega) (by simp;omega)]
def Ca (acc:List Nat) (o:Oper):Nat:=o.after.toList.foldl (λm e=>match Region.binds .any e with | true=>m ||| (1<<<e.on) ||| acc.getD e.on 0 | false=>m) 0
def xS (acc:List Nat):List Oper->List Nat
 | []=>acc
 | o::l=>xS (acc++[Ca acc o]) l
def Mi (ops:Array Oper):Bool:=(List.range ops.size).all λj=>match ops[j]? with
 | some o=>o.after.toList.all λe=> !Region.binds .any e || decide (e.on<j)
 | none=>true
def Cb (n:Nat) (π:List Nat):Bool:=π.length==n&&((List.range n).all λi=>π.contains i)&&decide π.Nodup
def r_ (P:Program) (np:Nat) (ops:Array Oper) (π:List Nat) (vs:List a_):Bool:=
 qD P np ops π vs&&Mi ops&&Cb ops.size π&&(match xS [] ops.toList with | M=>pO (λi j=>(M.getD (π.getD j ops.size) 0).testBit (π.getD i ops.size)) 0 vs)
def Gy (P:Program) (np:Nat) (ops:Array Oper) (vs:List a_):Bool:=r_ P np ops (List.range ops.size) vs
theorem Cc:∀{n:Nat} {π:List Nat},Cb n π=true->π.length=n/\π.Nodup/\∀i,i<n->∃k,k<n/\π[k]? =some i:=by
 intro n π h;simp only[Cb,af,beq_iff_eq,List.all_eq_true,List.mem_range,decide_eq_true_eq]at h;obtain ⟨⟨h1,h2⟩,h3⟩:=h;have hm:∀i,i<n->i∈π:=λi hi=>by simpa using h2 i hi
 refine ⟨h1,h3,λi hi=> ?_⟩
 ·obtain ⟨k,hk⟩:=List.getElem?_of_mem (hm i hi);exact ⟨k,by have:=(aq.1 hk).1;omega,hk⟩
theorem AO {np:Nat} {ops:Array Oper}:∀{is:List Nat} {vs:List a_},qD P np ops is vs=true->is.length=vs.length/\∀(i j:Nat) (v:a_),is[i]? =some j->vs[i]? =some v->∃o,ops[j]? =some o/\vZ P np ops o v=true
 | [],[],_=>by simp
 | i::is,v::vs,h=>by
  simp only[qD,af]at h;obtain ⟨h1,h2⟩:=h;obtain ⟨k1,k2⟩:=AO h2;refine ⟨by simp[k1],λm j u hm hu=> ?_⟩;cases m with
  | zero=>
   simp at hm hu;subst hm;subst hu;split at h1
   ·rename_i o ho;exact ⟨o,ho,h1⟩
   ·cases h1
  | succ m=>simp at hm hu;exact k2 m j u hm hu
 | [],_::_,h=>by simp[qD]at h
 | _::_,[],h=>by simp[qD]at h
def Closed (ops:Array Oper) (listed:Array Bool):Prop:=∀j,listed.getD j false=true->∀o,ops[j]? =some o->∀e∈o.after,Region.binds .any e=true->listed.getD e.on false=true
theorem D_ {acc:List Nat} {o:Oper} {i:Nat} (h:(Ca acc o).testBit i=true):∃e∈o.after,Region.binds .any e=true/\(e.on=i\/(acc.getD e.on 0).testBit i=true):=by
 have key:∀(l:List Edge) (m:Nat),(l.foldl (λm e=>match Region.binds .any e with | true=>m ||| (1<<<e.on) ||| acc.getD e.on 0 | false=>m) m).testBit i=true->m.testBit i=true\/∃e∈l,Region.binds .any e=true/\(e.on=i\/(acc.getD e.on 0).testBit i=true):=by
  intro l;induction l with
  | nil=>intro m h;exact .inl h
  | cons e l ih=>
   intro m h;simp only[List.foldl_cons]at h;rcases ih _ h with h | ⟨e',h1,h2⟩
   ·cases hb:Region.binds .any e with
    | false=>rw[hb]at h;exact .inl h
    | true=>
     rw[hb]at h;simp only[Nat.testBit_or,Bool.or_eq_true]at h;rcases h with (h | h) | h
     ·exact .inl h
     ·refine .inr ⟨e,by simp,hb,.inl ?_⟩;rw[Nat.one_shiftLeft,Nat.testBit_two_pow]at h;simpa using h
     ·exact .inr ⟨e,by simp,hb,.inr h⟩
   ·exact .inr ⟨e',by simp[h1],h2⟩
 rcases key _ _ h with h | ⟨e,h1,h2⟩
 ·simp at h
 ·exact ⟨e,by simpa using h1,h2⟩
theorem si {ops:Array Oper} {listed:Array Bool} (hc:Closed ops listed):∀(l:List Oper) (acc:List Nat),(∀k o,l[k]? =some o->ops[acc.length+k]? =some o)->
  (∀j i,(acc.getD j 0).testBit i=true->listed.getD j false=true->listed.getD i false=true)->∀j i,((xS acc l).getD j 0).testBit i=true->listed.getD j false=true->listed.getD i false=true
 | [],acc,_,h=>h
 | o::l,acc,ho,h=>by
  simp only[xS];refine si hc l _ (λk o' hk=>by
   have:=ho (k+1) o' (by simpa using hk);rw[List.length_append,List.length_singleton,Nat.add_assoc,Nat.add_comm 1 k];exact this) (λj i hj hl=> ?_)
  by_cases h1:j<acc.length
  ·rw[List.getD_eq_getElem?_getD,List.getElem?_append_left h1,<-List.getD_eq_getElem?_getD]at hj;exact h j i hj hl
  ·by_cases h2:j=acc.length
   ·subst h2;simp at hj;obtain ⟨e,he,hb,hor⟩:=D_ hj;have ho0:=ho 0 o rfl;have hon:=hc _ hl o (by simpa using ho0) e he hb;rcases hor with rfl | hor
    ·exact hon
    ·exact h _ _ hor hon
   ·have:(acc++[Ca acc o])[j]? =none:=List.getElem?_eq_none (by simp;omega);rw[List.getD_eq_getElem?_getD,this]at hj;simp at hj
theorem oX {ops:Array Oper} {listed:Array Bool} (hc:Closed ops listed) {j i:Nat} (hj:listed.getD j false=true) (h:((xS [] ops.toList).getD j 0).testBit i=true):listed.getD i false=true:=
 si hc ops.toList [] (λk o hk=>by simpa using hk) (λj i h _=>by simp at h) j i h hj
def oY (listed:Array Bool):Nat:=listed.toList.countP (λb=> !b)
theorem sj {listed:Array Bool} {i:Nat} (hi:i<listed.size) (h:listed.getD i false=false):oY (listed.setIfInBounds i true)+1=oY listed:=by
 unfold oY;rw[Array.toList_setIfInBounds];have key:∀(l:List Bool) (i:Nat),l[i]? =some false->(l.set i true).countP (λb=> !b)+1=l.countP (λb=> !b):=by
  intro l;induction l with
  | nil=>intro i h;simp at h
  | cons b l ih=>
   intro i h;cases i with
   | zero=>simp at h;subst h;simp[List.countP_cons]
   | succ i=>
    simp at h;simp only[List.set_cons_succ,List.countP_cons];have:=ih i h;omega
 exact key _ i (by simp[Array.getD,hi]at h;simp[hi,h])
theorem Cd {np:Nat} {ops:Array Oper} {vs:List a_} {s0 s':St} {w0:World} {L0:Loc} {Z0:Nat->Prop} (hco:iy P call) {π:List Nat} (hok:r_ P np ops π vs=true) (e:aY (real call loop) vs s0=some s') (Q:Exit->Act->World->Prop)
  (hQ:∀a' w' L' Z',RS s' a' w' L' Z'->Tr np s0.sto s'.sto w0 w' L0 L' Z0 Z'->Q .normal a' w'):
  ∀(fuel:Nat) (listed:Array Bool) (sS:St) (a:Act) (w:World) (L:Loc) (Z:Nat->Prop),listed.size=ops.size->oY listed=fuel->Closed ops listed->
   aY (real call loop) (sel (λj=>listed.getD (π.getD j ops.size) false) 0 vs) s0=some sS->RS sS a w L Z->Tr np s0.sto sS.sto w0 w L0 L Z0 Z->wpAny P .any ops Q fuel listed a w:=by
 simp only[r_,af]at hok;obtain ⟨⟨⟨h1,h2⟩,h4⟩,h3⟩:=hok;obtain ⟨hlen,hget⟩:=AO h1;obtain ⟨hπl,hπn,hπs⟩:=Cc h4;have hlen':vs.length=ops.size:=by rw[<-hlen,hπl]
 have hout:∀(listed:Array Bool),listed.size=ops.size->∀j,ops.size<=j->listed.getD (π.getD j ops.size) false=false:=λlisted hsz j hj=>by
  have:π[j]? =none:=List.getElem?_eq_none (by omega);have e:π.getD j ops.size=ops.size:=by simp[List.getD,this]
  rw[e];simp[Array.getD,hsz]
 have hπb:∀i∈π,i<ops.size:=λi hi=>by
  obtain ⟨k,hk⟩:=List.getElem?_of_mem hi;have hkl:=(aq.1 hk).1;obtain ⟨v,hv⟩:∃v,vs[k]? =some v:=⟨_,bg (by omega)⟩
  obtain ⟨o,ho,_⟩:=hget k i v hk hv;exact (Array.getElem?_eq_some_iff.1 ho).1
 have hdone:∀(listed:Array Bool) (sS:St) (a:Act) (w:World) (L:Loc) (Z:Nat->Prop),listed.size=ops.size->Region.ready .any ops listed=[]->aY (real call loop) (sel (λj=>listed.getD (π.getD j ops.size) false) 0 vs) s0=some sS->RS sS a w L Z->Tr np s0.sto sS.sto w0 w L0 L Z0 Z->Q .normal a w:=by
  intro listed sS a w L Z hsz hr hs h t;have hall:∀j,j<ops.size->listed.getD j false=true:=by
   intro j;induction j using Nat.strongRecOn with
   | _ j ih=>
    intro hj;cases hl:listed.getD j false with
    | true=>rfl
    | false=>
     exfalso;have hlt:j<listed.size:=by omega
     have hmem:j∈Region.ready .any ops listed:=by
      rw[mem_ready];refine ⟨by simp[Array.getD,hlt]at hl |-;exact hl,ops[j],by simp[hj],λe he hb=> ?_⟩;have:=List.all_eq_true.1 h2 j (List.mem_range.2 hj);simp only[Array.getElem?_eq_getElem hj]at this;have:=List.all_eq_true.1 this e (by simpa using he);simp only[hb,Bool.not_true,Bool.false_or,decide_eq_true_eq]at this;exact ih e.on this (by omega)
     rw[hr]at hmem;cases hmem
  rw[Dl (λj _ hj=>hall _ (by
   have hlt:j<π.length:=by omega
   have hm:π.getD j ops.size∈π:=by simp[List.getD,bg hlt]
   exact hπb _ hm))]at hs
  rw[e]at hs;injection hs with hs;subst hs;exact hQ a w L Z h t
 intro fuel;induction fuel with
 | zero=>
  intro listed sS a w L Z hsz hu hc hs h t;have hr:Region.ready .any ops listed=[]:=by
   cases hrr:Region.ready .any ops listed with
   | nil=>rfl
   | cons i l=>
    exfalso;have hm:i∈Region.ready .any ops listed:=by rw[hrr];simp
    obtain ⟨m1,o,m2,_⟩:=mem_ready.1 hm;have hi:i<listed.size:=by rw[hsz];exact (Array.getElem?_eq_some_iff.1 m2).1
    have:=sj hi (by simp[Array.getD,hi]at m1 |-;exact m1);omega
  exact ⟨hr,hdone listed sS a w L Z hsz hr hs h t⟩
 | succ fuel ih=>
  intro listed sS a w L Z hsz hu hc hs h t;refine ⟨λhr=>hdone listed sS a w L Z hsz hr hs h t,λi hi=> ?_⟩;obtain ⟨m1,o,m2,m3⟩:=mem_ready.1 hi;have hio:i<ops.size:=(Array.getElem?_eq_some_iff.1 m2).1;have hil:i<listed.size:=by omega
  have hpi:listed.getD i false=false:=by simp[Array.getD,hil]at m1 |-;exact m1
  obtain ⟨pos,hpos,hpi'⟩:=hπs i hio;have hπp:π.getD pos ops.size=i:=by simp[List.getD,hpi']
  obtain ⟨v,hv⟩:∃v,vs[pos]? =some v:=⟨_,bg (by omega)⟩
  obtain ⟨o',ho',hoo⟩:=hget pos i v hpi' hv;have:o'=o:=by rw[m2]at ho';injection ho' with ho';exact ho'.symm
  subst this;have hset:∀j,(listed.setIfInBounds i true).getD j false=(listed.getD j false || j==i):=by
   intro j;by_cases hj:i=j
   ·subst hj;simp[Array.getD,hil]
   ·rw[getD_set_ne false hj];have:(j==i)=false:=by simp;exact λe=>hj e.symm
    simp[this]
  have hc':Closed ops (listed.setIfInBounds i true):=by
   intro j hj oj hoj ee hee hb;rw[hset]at hj |-;rcases Bool.or_eq_true _ _ ▸ hj with hj | hj
   ·rw[hc j hj oj hoj ee hee hb];rfl
   ·have:j=i:=by simpa using hj
    subst this;rw[m2]at hoj;injection hoj with hoj;subst hoj;rw[m3 ee hee hb];rfl
  obtain ⟨r1,hr1⟩:=wk (p:=λj=>(listed.setIfInBounds i true).getD (π.getD j ops.size) false) (k:=0) h3 (λx y _ _ hy hd=>oX hc' hy hd) e;have hr1':=hr1;rw[tj (
      p':=λj=>listed.getD (π.getD j ops.size) false || j==pos) (λj _=>by
   rw[hset];congr 1;by_cases hj:j=pos
   ·subst hj;rw[hπp];simp
   ·have e2:(j==pos)=false:=by simpa using hj
    rw[e2];have:π.getD j ops.size≠i:=λe=>by
     by_cases hjl:j<π.length
     ·have hj2:π[j]? =some i:=by rw[<-e];simp[List.getD,bg hjl]
      exact hj ((List.getElem?_inj hjl hπn).1 (hj2.trans hpi'.symm))
     ·have:π[j]? =none:=List.getElem?_eq_none (by omega);simp only[List.getD,this,Option.getD_none]at e;omega
    simpa using this)]at hr1'
  have hadd:=zp (p:=λj=>listed.getD (π.getD j ops.size) false) (i:=pos) (k:=0) (v:=v) (by rw[hπp];exact hpi) (λj _ hj=>by
   rw[hπp];cases hd:((xS [] ops.toList).getD (π.getD j ops.size) 0).testBit i with
   | false=>rfl
   | true=>have:=oX hc hj hd;rw[hpi]at this;cases this) h3 (Nat.zero_le _) (by simpa using hv) hr1'
  rw[i_,hs]at hadd;simp only at hadd;have hop:=qE (np:=np) (Q:=Q) (K:=wpAny P .any ops Q fuel (listed.setIfInBounds i true)) hco h hoo hadd λs1 a1 w1 L1 Z1 k1 k2 k3=>by
   simp only[aY]at k3;injection k3 with k3;subst k3;exact ih (listed.setIfInBounds i true) s1 a1 w1 L1 Z1 (by simpa using hsz) (by have:=sj hil hpi;omega) hc' hr1 k1 (t.trans k2)
  unfold wpOp;simp only[m2];exact hop
theorem uc {np id:Nat} {π:List Nat} {ops:Array Oper} {vs:List a_} {s s':St} {a:Act} {w:World} {L:Loc} {Z:Nat->Prop} (hmix:P.follows .mixedOrders=true) (hco:iy P call) (hok:r_ P np ops π vs=true) (h:RS s a w L Z) (e:aY (real call loop) vs s=some s') (Q:Exit->Act->World->Prop)
  (hQ:∀a' w' L' Z',RS s' a' w' L' Z'->Tr np s.sto s'.sto w w' L L' Z Z'->Q .normal a' w'):(Code.region id ops true).wp P Q a w:=by
 obtain ⟨k1,k2⟩:=h.more (w':={ w with drawn:=w.drawn+1 }) np (λ_ _=>rfl) (Nat.le_refl _) rfl rfl rfl;refine wp_region_any hmix (Cd hco hok e Q hQ ops.size _ s a _ L Z (by simp) ?_ ?_ ?_ k1 k2)
 ·unfold oY;simp[List.countP_replicate]
 ·intro j hj;exfalso;by_cases hjs:j<ops.size<;>simp[Array.getD,hjs]at hj
 ·have:∀(vs:List a_) (k:Nat),sel (λj=>(Array.replicate ops.size false).getD (π.getD j ops.size) false) k vs=[]:=by
   intro vs;induction vs with
   | nil=>intro k;rfl
   | cons v vs ih=>
    intro k;have:(Array.replicate ops.size false).getD (π.getD k ops.size) false=false:=by
     generalize π.getD k ops.size=k;by_cases hk:k<ops.size<;>simp[Array.getD,hk]
    simp only[sel,this,Bool.false_eq_true,if_false,ih]
  rw[this];rfl
theorem Ce {np id:Nat} {ops:Array Oper} {vs:List a_} {s s':St} {a:Act} {w:World} {L:Loc} {Z:Nat->Prop} (hmix:P.follows .mixedOrders=true) (hco:iy P call) (hok:Gy P np ops vs=true) (h:RS s a w L Z) (e:aY (real call loop) vs s=some s') (Q:Exit->Act->World->Prop)
 (hQ:∀a' w' L' Z',RS s' a' w' L' Z'->Tr np s.sto s'.sto w w' L L' Z Z'->Q .normal a' w'):(Code.region id ops true).wp P Q a w:=uc (π:=List.range ops.size) hmix hco hok h e Q hQ
end
def wm:Out->Exit
 | .norm=> .normal
 | .ret=> .ret
 | .exit id=> .exit id
def zq (P:Program) (np x y c dst t:Nat) (zero:List AV) (sz:gG) (agg:Bool):Code->Bool
 | .seq (.region _ r1 d1) (.cond (.tmp c') (.seq (.region _ r2 d2) .ret) .skip)=>
  !d1&& !d2&&c'==c&&decide (t<np)&&zero.length==sz.2&&(match dZ zero with | some ds=>(D.bJ agg ds).isSome | none=>false)&&(match r1.toList with
  | [o1,o2]=>vZ P np r1 o1 ⟨some y,none,.move (.tmp x)⟩&&o2.dst==some c&&o2.guard.isNone&&(match o2.op with
   | .binOp .eql ty (.tmp y') (.const (.slice none 0 0)) _=>y'==y&&(match P.underlying ty with | some (.slice _)=>true | _=>false)
   | _=>false)
  | _=>false)&&qD P np r2 (List.range r2.size) [⟨some dst,none,.move (.const .emp)⟩]
 | _=>false
section
variable {P:Program} {call:cM} {loop:cN}
variable {s:St} {a:Act} {w:World} {L:Loc} {Z:Nat->Prop}
theorem Cf {t e:TypeId} (ht:P.underlying t=some (.slice e)) (p:Option Addr) (n cap:Nat):(Op.equal t (.slice p n cap) (.slice none 0 0)).run P w= .ok p.isNone w:=by
 have:∀d,(Op.equalIn (d+1) t (.slice p n cap) (.slice none 0 0)).run P w= .ok p.isNone w:=by
  intro d;rw[Op.equalIn];cases p<;>simp[run_underlying ht]
 exact this 9999
theorem AP (np:Nat) (h:RS s a w L Z) {o:Oper} {t t' e:TypeId} {x:Operand} (ho:o.op= .binOp .eql t x (.const (.slice none 0 0)) t') (hu:P.underlying t=some (.slice e)) {p:Option Addr} {n cap:Nat} (hv:a.eval x= .slice p n cap):
  aV P np o s a w L Z (.d (.bool p.isNone)) s:=by
 refine aV.pure h (u:= .bool p.isNone) ?_ (by simp only[RV,RD]);refine eE (m:=do eqGuard .eql t x (.const (.slice none 0 0)) (a.eval x) (.slice none 0 0);binOp .eql t (a.eval x) (.slice none 0 0)) (by unfold execOp;rw[ho];rfl) ?_;rw[hv];have hg:(eqGuard .eql t x (.const (.slice none 0 0)) (.slice p n cap) (.slice none 0 0)).run P w= .ok () w:=by
  unfold eqGuard;rfl
 have hm:(binOp .eql t (.slice p n cap) (.slice none 0 0)).run P w= .ok (.bool p.isNone) w:=by
  simp only[binOp];rw[Sem.run_bind,Cf hu];rfl
 simp[hg,hm]
theorem Gz {c:Cx} {as bs:List AV} {vs:List Value} (h:di c as vs) (hl:bs.length=as.length) (hb:∀(i:Nat) (b:AV),bs[i]? =some b->b=AV.undef\/as[i]? =some b):di c bs vs:=by
 rw[bF]at h |-;refine ⟨hl.trans h.1,λi b v h1 h2=> ?_⟩;rcases hb i b h1 with rfl | h3
 ·simp only[RV]
 ·exact h.2 i b v h3 h2
theorem Ea {o:aJ} {x y c b m t dst:Nat} {sz:gG} {bytes:Nat} {agg:Bool} {zero:List AV} {s s':St} {out:Out} (e:exec o (.clone x y c b m t dst sz bytes agg zero) s=some (out,s')):
  ∃A0 xs s2,s.env[x]? =some A0/\content o s.sto A0=some xs/\o.fits sz.2 bytes xs=true/\s.lay t [some (.rows sz xs)]=some s2/\
   (y<s2.env.length/\c<s2.env.length/\b<s2.env.length/\m<s2.env.length/\t<s2.env.length/\dst<s2.env.length)/\out= .ret/\
   s'=⟨((((((s2.env.set y .undef).set c .undef).set b .undef).set m .undef).set t .undef).set dst (.arr (t,0) sz none false)),s2.sto⟩:=by
 simp only[exec]at e;split at e
 case h_2=>cases e
 case h_1 A0 hx=>
  have key:∀r,(match content o s.sto A0 with
    | some xs=>match o.fits sz.2 bytes xs with
     | true=>match s.lay t [some (.rows sz xs)]with
      | some s=>if y<s.env.length/\c<s.env.length/\b<s.env.length/\m<s.env.length/\t<s.env.length/\dst<s.env.length then
        some (Out.ret,(⟨((((((s.env.set y .undef).set c .undef).set b .undef).set m .undef).set t .undef).set dst (.arr (t,0) sz none false)),s.sto⟩:St))
       else none
      | none=>none
     | false=>none
    | none=>none)=some r->r=(out,s')->∃A0 xs s2,s.env[x]? =some A0/\content o s.sto A0=some xs/\o.fits sz.2 bytes xs=true/\s.lay t [some (.rows sz xs)]=some s2/\
   (y<s2.env.length/\c<s2.env.length/\b<s2.env.length/\m<s2.env.length/\t<s2.env.length/\dst<s2.env.length)/\out= .ret/\
   s'=⟨((((((s2.env.set y .undef).set c .undef).set b .undef).set m .undef).set t .undef).set dst (.arr (t,0) sz none false)),s2.sto⟩:=by
   intro r e hr;subst hr;split at e
   case h_2=>cases e
   case h_1 xs hc=>
    split at e
    case h_2=>cases e
    case h_1 hfit=>
     split at e
     case h_2=>cases e
     case h_1 s2 hl=>
      split at e
      case isFalse=>cases e
      case isTrue hlen=>
       injection e with e;injection e with e1 e2;subst e1;subst e2;exact ⟨A0,xs,s2,hx,hc,hfit,hl,hlen,rfl,rfl⟩
  split at e
  ·exact key _ e rfl
  ·exact key _ e rfl
  ·cases e
theorem AQ {np x y c b m t dst:Nat} {sz:gG} {bytes:Nat} {agg:Bool} {zero:List AV} {cx cy:Code} {out:Out} {s':St} (hco:iy P call) (h:RS s a w L Z) (hok1:zq P np x y c dst t zero sz agg cx=true) (hok2:[x,y,c,b,m,t,dst].Nodup)
  (e:exec (real call loop) (.clone x y c b m t dst sz bytes agg zero) s=some (out,s')) (Q:Exit->Act->World->Prop) (hQ:∀a' w' L' Z',RS s' a' w' L' Z'->Tr np s.sto s'.sto w w' L L' Z Z'->Q (wm out) a' w')
  (hy:∀a1 w1 L1 Z1 s1 s2 out,RS s1 a1 w1 L1 Z1->exec (real call loop) (.seq (.reg [⟨some b,none,.buildSlice sz agg zero 0 []⟩,⟨some m,none,.move (.tmp x)⟩,⟨some t,none,.append sz bytes (.tmp b) (.tmp m)⟩,⟨some dst,none,.move (.tmp t)⟩]) .ret) s1=some (out,s2)->
   (∀a' w' L' Z',RS s2 a' w' L' Z'->Tr np s1.sto s2.sto w1 w' L1 L' Z1 Z'->Q (wm out) a' w')->cy.wp P Q a1 w1):(Code.seq cx cy).wp P Q a w:=by
 obtain ⟨A0,xs,s2,hx,hc,hfit,hl,hlen,rfl,rfl⟩:=Ea e;obtain ⟨hlay,henv⟩:=eD hl;rw[henv]at hlen hQ;obtain ⟨l1,l2,l3,l4,l5,l6⟩:=hlen;simp only[List.nodup_cons,List.mem_cons,List.not_mem_nil,or_false,not_or,List.nodup_nil,not_false_eq_true,and_true]at hok2;obtain ⟨⟨x1,x2,x3,x4,x5,x6⟩,⟨y1,y2,y3,y4,y5⟩,⟨c1,c2,c3,c4⟩,⟨b1,b2,b3⟩,⟨m1,m2⟩,t1⟩:=hok2;unfold zq at hok1;split at hok1
 case h_2=>cases hok1
 case h_1 i1 r1 d1 c' i2 r2 d2=>
  simp only[af,Bool.not_eq_true',beq_iff_eq,decide_eq_true_eq]at hok1;obtain ⟨⟨⟨⟨⟨⟨⟨p1,p2⟩,p3⟩,p4⟩,p5⟩,p6⟩,p7⟩,p8⟩:=hok1;subst p1;subst p2;subst p3;split at p7
  case h_2=>cases p7
  case h_1 o1 o2 hr1=>
   have hr1':r1= #[o1,o2]:=Array.ext' hr1;subst hr1';simp only[af,beq_iff_eq]at p7;obtain ⟨⟨⟨q1,q2⟩,q3⟩,q4⟩:=p7;split at q4
   case h_2=>cases q4
   case h_1 ty y' t2 hop=>
    simp only[af,beq_iff_eq]at q4;obtain ⟨rfl,q4⟩:=q4;split at q4
    case h_2=>cases q4
    case h_1 el hu=>
     refine wp_seq (wp_seq (wp_region ?_));show wpOps P #[o1,o2] _ [0,1] a w;simp only[wpOps];have e1:aY (real call loop) [⟨some y',none,.move (.tmp x)⟩] s=some ⟨s.env.set y' A0,s.sto⟩:=by
      simp only[aY,wanted,aI,evalOp,ev,hx,dR]
     refine qE (rest:=[]) (np:=np) hco h q1 e1 _ _ λs3 a3 w3 L3 Z3 k1 k2 k3=> ?_
     simp only[aY]at k3;injection k3 with k3;subst k3;have hy':(s.env.set y' A0)[y']? =some A0:=by rw[List.getElem?_set_self l1]
     have hv:=aL k1 (show cR (.tmp y') (.tmp y')=true by simp[cR]) (show ev _ (.tmp y')=some A0 from hy');obtain ⟨A,cap,v1',v2,v3⟩:=cG k1.obj hv hc;have hw:Region.wanted o2 (yielded #[o1,o2] a3.tmps)=true:=by
      unfold Region.wanted;cases hg:o2.guard with
      | none=>rfl
      | some g=>rw[hg]at q3;cases q3
     simp only[List.getElem?_toArray,List.getElem?_cons_succ,List.getElem?_cons_zero];rw[if_pos hw];left;refine AP np k1 hop hu v1' _ _ λu w4 L4 Z4 n1 n2 n3=> ?_
     rw[q2];have n4:=n1.put (some c') n3;simp only[dR]at n4;simp only[wpOps,Exit.then];have hcv:=aL n4 (show cR (.tmp c') (.tmp c')=true by simp[cR]) (show ev _ (.tmp c')=some (.d (.bool A.isNone))from List.getElem?_set_self (by simpa using l2));simp only[RV,RD]at hcv;refine wp_cond (t:=A.isNone) (by injection hcv) ?_;cases A with
     | none=>
      simp only[Option.isNone_none,if_true];have hxs:xs=[]:=by
       rcases v3 with v3 | ⟨b0,o0,z0,v3,_⟩
       ·exact v3
       ·cases v3
      subst hxs;refine wp_seq (wp_region ?_);have e2:aY (real call loop) [⟨some dst,none,.move (.const .emp)⟩] ⟨(s.env.set y' A0).set c' (.d (.bool (none:Option Addr).isNone)),s.sto⟩=some ⟨((s.env.set y' A0).set c' (.d (.bool (none:Option Addr).isNone))).set dst .emp,s.sto⟩:=by
       simp only[aY,wanted,aI,evalOp,ev,dR]
      refine kD (np:=np) hco p8 n4 e2 _ λa5 w5 L5 Z5 g1 g2=> ?_
      simp only[Exit.then];refine wp_ret ?_;show Q (wm .ret) a5 w5;have hl5:(⟨((s.env.set y' A0).set c' (.d (.bool (none:Option Addr).isNone))).set dst .emp,s.sto⟩:St).lay t [some (.rows sz [])]=some ⟨((s.env.set y' A0).set c' (.d (.bool (none:Option Addr).isNone))).set dst .emp,s2.sto⟩:=by
       simp only[St.lay,hlay]
      obtain ⟨L6,f1,f2,f3,f4,_⟩:=uK (np:=np) g1 hl5 p4 (λc=>oQ (own:=false) c);have hdst:(((s.env.set y' A0).set c' (.d (.bool (none:Option Addr).isNone))).set dst .emp)[dst]? =some .emp:=List.getElem?_set_self (by simpa using l6);obtain ⟨ht5,hv5⟩:=v5 f1 hdst;simp only[RV]at hv5;have f5:=uN (t:=dst) f1 ht5 (qF (c:=aH w5 Z5 L6 s2.sto) (own:=false) (sz:=sz) f3 f4 hv5);refine hQ a5 w5 L6 Z5 ⟨f5.defers,Gz f5.env (by simp) λi v hi=> ?_,f5.obj,f5.injH,f5.dis⟩ (((k2.trans n2).trans g2).trans f2);simp only[List.getElem?_set,List.length_set]at hi |-;by_cases d0:dst=i
      ·subst d0;simp only[if_true,l6]at hi |-;exact .inr hi
      ·rw[if_neg d0]at hi |-;rw[if_neg d0];by_cases d1:t=i
       ·subst d1;simp only[if_true,l5]at hi;injection hi with hi;exact .inl hi.symm
       rw[if_neg d1]at hi;by_cases d2:m=i
       ·subst d2;simp only[if_true,l4]at hi;injection hi with hi;exact .inl hi.symm
       rw[if_neg d2]at hi;by_cases d3:b=i
       ·subst d3;simp only[if_true,l3]at hi;injection hi with hi;exact .inl hi.symm
       rw[if_neg d3]at hi;by_cases d4:c'=i
       ·subst d4;simp only[if_true,l2]at hi;injection hi with hi;exact .inl hi.symm
       rw[if_neg d4]at hi |-;by_cases d5:y'=i
       ·subst d5;simp only[if_true,l1]at hi;injection hi with hi;exact .inl hi.symm
       rw[if_neg d5]at hi |-;exact .inr hi
     | some A=>
      simp only[Option.isNone_some,Bool.false_eq_true,if_false];refine wp_skip ?_;simp only[Exit.then];cases hdz:dZ zero with
      | none=>rw[hdz]at p6;cases p6
      | some ds=>
       rw[hdz]at p6;simp only at p6;obtain ⟨z,hz⟩:=Option.isSome_iff_exists.1 p6;generalize hX:(s.env.set y' A0).set c' (.d (.bool (some A).isNone))=env4 at n4;have hlen4:env4.length=s.env.length:=by rw[<-hX];simp
       have hx4:env4[x]? =some A0:=by rw[<-hX,List.getElem?_set_ne (Ne.symm x2),List.getElem?_set_ne (Ne.symm x1)];exact hx
       generalize hE1:env4.set b .emp=env5;have hx5:env5[x]? =some A0:=by rw[<-hE1,List.getElem?_set_ne (Ne.symm x3)];exact hx4
       generalize hE2:env5.set m A0=env6;have hb6:env6[b]? =some .emp:=by rw[<-hE2,List.getElem?_set_ne (Ne.symm b1),<-hE1,List.getElem?_set_self (by rw[hlen4];exact l3)]
       have hm6:env6[m]? =some A0:=by rw[<-hE2,List.getElem?_set_self (by rw[<-hE1,List.length_set,hlen4];exact l4)]
       have hl6:(⟨env6,s.sto⟩:St).lay t [some (.rows sz xs)]=some ⟨env6,s2.sto⟩:=by simp only[St.lay,hlay]
       generalize hE3:env6.set t (.arr (t,0) sz none false)=env7;have ht7:env7[t]? =some (.arr (t,0) sz none false):=by rw[<-hE3,List.getElem?_set_self (by rw[<-hE2,List.length_set,<-hE1,List.length_set,hlen4];exact l5)]
       have e3:exec (real call loop) (.seq (.reg [⟨some b,none,.buildSlice sz agg zero 0 []⟩,⟨some m,none,.move (.tmp x)⟩,⟨some t,none,.append sz bytes (.tmp b) (.tmp m)⟩,⟨some dst,none,.move (.tmp t)⟩]) .ret) ⟨env4,s.sto⟩=some (.ret,⟨env7.set dst (.arr (t,0) sz none false),s2.sto⟩):=by
        have q1:aI (real call loop) ⟨env4,s.sto⟩ (some b) (.buildSlice sz agg zero 0 [])=some (.emp,⟨env4,s.sto⟩):=by
         simp only[aI,dW,p5,if_true,hdz,hz,List.map_nil,yV,p_,List.replicate_zero,List.zip_nil_left,kQ]
        have q2:aI (real call loop) ⟨env5,s.sto⟩ (some m) (.move (.tmp x))=some (A0,⟨env5,s.sto⟩):=by
         simp only[aI,evalOp,ev,hx5]
        have q3:aI (real call loop) ⟨env6,s.sto⟩ (some t) (.append sz bytes (.tmp b) (.tmp m))=some (.arr (t,0) sz none false,⟨env6,s2.sto⟩):=by
         simp only[aI,ev,hb6,hm6,hc,hfit,hl6]
        have q4:aI (real call loop) ⟨env7,s2.sto⟩ (some dst) (.move (.tmp t))=some (.arr (t,0) sz none false,⟨env7,s2.sto⟩):=by
         simp only[aI,evalOp,ev,ht7]
        simp only[exec,aY,wanted,q1,dR,hE1,q2,hE2,q3,hE3,q4]
       refine hy _ _ _ _ _ _ _ n4 e3 λa' w' L' Z' f1 f2=> ?_
       refine hQ a' w' L' Z' ⟨f1.defers,Gz f1.env ?_ λi v hi=> ?_,f1.obj,f1.injH,f1.dis⟩ ((k2.trans n2).trans f2)
       ·rw[<-hE3,<-hE2,<-hE1,<-hX];simp
       ·rw[<-hE3,<-hE2,<-hE1,<-hX];simp only[List.getElem?_set,List.length_set]at hi |-;by_cases d0:dst=i
        ·subst d0;simp only[if_true,l6]at hi |-;exact .inr hi
        ·rw[if_neg d0]at hi |-;by_cases d1:t=i
         ·subst d1;simp only[if_true,l5]at hi;injection hi with hi;exact .inl hi.symm
         rw[if_neg d1]at hi |-;by_cases d2:m=i
         ·subst d2;simp only[if_true,l4]at hi;injection hi with hi;exact .inl hi.symm
         rw[if_neg d2]at hi |-;by_cases d3:b=i
         ·subst d3;simp only[if_true,l3]at hi;injection hi with hi;exact .inl hi.symm
         rw[if_neg d3]at hi |-;by_cases d4:c'=i
         ·subst d4;simp only[if_true,l2]at hi;injection hi with hi;exact .inl hi.symm
         rw[if_neg d4]at hi |-;by_cases d5:y'=i
         ·subst d5;simp only[if_true,l1]at hi;injection hi with hi;exact .inl hi.symm
         rw[if_neg d5]at hi |-;exact .inr hi
end
section
section
variable {P:Program} {call:cM} {loop:cN}
variable {s:St} {a:Act} {w:World} {L:Loc} {Z:Nat->Prop}
theorem nD {g:Option (Int×Int)} {xs ys:List D} (h:rL (real call loop) g xs=some ys):(g=none/\ys=xs)\/∃m:Int,g=some (0,m)/\0<=m/\m<=xs.length/\ys=xs.take m.toNat:=by
 unfold rL at h;cases g with
 | none=>injection h with h;exact .inl ⟨rfl,h.symm⟩
 | some p=>
  obtain ⟨p,m⟩:=p;simp only[real,aJ.isZero,aJ.sub,zD]at h;split at h
  ·rename_i hz;have hz:=of_decide_eq_true hz;subst hz;split at h
   ·rename_i hc;injection h with h;refine .inr ⟨m,rfl,hc.2.1,by omega,?_⟩;rw[<-h];simp
   ·cases h
  ·cases h
theorem Gn {n:Nat} (k:Nat) {xs:List D} {vs:List Value} {F:List Nat} (h:jc w Z n xs vs F):∃F',jc w Z n (xs.take k) vs F'/\(∀x∈F',x∈F)/\(F.Nodup->F'.Nodup):=by
 rw[<-List.take_append_drop k xs]at h;obtain ⟨F1,F2,rfl,h1,_⟩:=fw.1 h;exact ⟨F1,h1,λx hx=>by simp[hx],λhn=>(List.nodup_append.1 hn).1⟩
theorem Gp {np slot:Nat} {q:Id} {sz:gG} {g:Option (Int×Int)} {u:Bool} {v:Value} {ob ob':Obj} {xs ys:List D} {s2:St} (h:RS s a w L Z) (hs:slot<np) (hv:RV (aH w Z L s.sto) (.arr q sz g u) v)
  (hq:s.sto.get q=some ob) (hob:ob= .rows sz xs/\ob'= .rows sz ys\/ob= .orows sz xs/\ob'= .orows sz ys) (hy:rL (real call loop) g xs=some ys) (hl:(s.kill q).lay slot [some ob']=some s2):
  ∃L2,RS s2 a w L2 Z/\Tr np s.sto s2.sto w w L L2 Z Z/\s2.env=(s.kill q).env/\(∀p,((s.kill q).sto.get p).isSome->Same (aH w Z L (s.kill q).sto) (aH w Z L2 s2.sto) p)/\RV (aH w Z L2 s2.sto) (.arr (slot,0) sz none false) v:=by
 simp only[RV]at hv;obtain ⟨A,n,cap,zs,m1,⟨m2,m2'⟩,m3,m4,m5,m6,m7,m8⟩:=hv;have m4':(s.sto.get q).bind Obj.rw=some (sz,zs):=m4;have hzs:zs=xs:=by
  rw[hq]at m4';rcases hob with ⟨h1,_⟩ | ⟨h1,_⟩<;>(rw[h1]at m4';simp[Obj.rw]at m4';exact m4'.symm)
 subst hzs;have hn:n=ys.length:=by
  rcases nD hy with ⟨rfl,rfl⟩ | ⟨m,rfl,p1,p2,rfl⟩
  ·exact m5 rfl
  ·obtain ⟨_,q2,q3⟩:=m6 0 m rfl;simp only[List.length_take];omega
 have hroff:bq g=0:=by
  rcases nD hy with ⟨rfl,rfl⟩ | ⟨m,rfl,p1,p2,rfl⟩<;>rfl
 have hyle:ys.length<=zs.length:=by
  rcases nD hy with ⟨rfl,rfl⟩ | ⟨m,rfl,p1,p2,rfl⟩
  ·exact Nat.le_refl _
  ·simp only[List.length_take];omega
 have hytake:∃m,ys=zs.take m:=by
  rcases nD hy with ⟨rfl,rfl⟩ | ⟨m,rfl,p1,p2,rfl⟩
  ·exact ⟨ys.length,by simp⟩
  ·exact ⟨_,rfl⟩
 have hrw':ob'.rw=some (sz,ys):=by rcases hob with ⟨_,h1⟩ | ⟨_,h1⟩<;>(rw[h1];rfl)
 have hkill:=h.kill q;have tkill:=Tr.kill np s w L Z q;have hlay:=(eD hl).1;have hroq:=h.obj q _ hq;obtain ⟨
     L2,
       k1,k2,k3,k4⟩:∃L2,RS s2 a w L2 Z/\Tr np s.sto s2.sto w w L L2 Z Z/\s2.env=(s.kill q).env/\L2 (slot,0)=L q/\(∀p,((s.kill q).sto.get p).isSome->Same (aH w Z L (s.kill q).sto) (aH w Z L2 s2.sto) p):=by
  cases hLq:L q with
  | none=>
   have hzero:ys=[]/\(ob= .orows sz zs->∀k,¬L.nest q k):=by
    have:zs=[]:=by
     rcases hob with ⟨h1,_⟩ | ⟨h1,_⟩
     ·rw[h1]at hroq;simp only[RO]at hroq;exact hroq.1 hLq
     ·rw[h1]at hroq;simp only[RO]at hroq;exact (hroq.1 hLq).1
    refine ⟨?_,λh1=> ?_⟩
    ·obtain ⟨m,rfl⟩:=hytake;rw[this];simp
    ·rw[h1]at hroq;simp only[RO]at hroq;exact (hroq.1 hLq).2
   obtain ⟨rfl,hz2⟩:=hzero;have hro2:∀c:Cx,c.L (slot,0)=none->(∀k,¬c.L.nest (slot,0) k)->RO c (slot,0) ob':=by
    rcases hob with ⟨_,h1⟩ | ⟨_,h1⟩
    ·rw[h1];exact λc=>oQ (own:=false) c
    ·rw[h1];exact λc=>oQ (own:=true) c
   obtain ⟨L2,f1,f2,f3,f4,f5⟩:=uK (np:=np) hkill hl hs hro2;exact ⟨L2,f1,tkill.trans f2,(eD hl).2,f3,f5⟩
  | some b=>
   have hbl:aU s.sto L b:=⟨q,ob,hq,.inl hLq⟩
   have hbn:¬aU (s.kill q).sto L b:=gu h hq (.inl hLq);have hlt:b<w.heap.size:=h.block_lt hq hLq;rcases hob with ⟨h1,h2⟩ | ⟨h1,h2⟩
   ·subst h1;subst h2;simp only[RO]at hroq;obtain ⟨vs,t1,t2,t3⟩:=hroq.2 b hLq;obtain ⟨f1,f2,f3,f4⟩:=RS.Eg (s0:=s) (np:=np) (nb:=some b) (w':=w) (N:=λ_=>False) hkill tkill hl hs rfl rfl rfl (Nat.le_refl _) (λ_ _ _=>rfl)
     (λb' e=>by injection e with e;subst e;exact ⟨λhz=>(h.dis _ hz).2 hbl,hbn,hlt,.inr hbl⟩) (λ_ _ e=>e.elim)
     (by
      simp only[RO];refine ⟨λe=> ?_,λb' e=> ?_⟩
      ·rw[bZ]at e;cases e
      ·rw[bZ]at e;injection e with e;subst e;obtain ⟨m,rfl⟩:=hytake;exact ⟨vs,t1,Nat.le_trans (Nat.mul_le_mul_right _ hyle) t2,mQ _ t3⟩)
    exact ⟨_,f1,f2,f3,(bZ _ _ _ _),f4⟩
   ·subst h1;subst h2;simp only[RO]at hroq;obtain ⟨vs,F,t1,t2,t3,t4,t5⟩:=hroq.2 b hLq;obtain ⟨m,hm⟩:=hytake;obtain ⟨F',g1,g2,g3⟩:=Gn m t3;have hlf:∀x∈F',aU s.sto L x/\¬aU (s.kill q).sto L x/\x<w.heap.size:=λx hx=>by
     have hh:Obj.has (.orows sz zs) L q x:= .inr ⟨rfl,(t5 x).2 (g2 x hx)⟩;exact ⟨⟨q,_,hq,hh⟩,gu h hq hh,h.fq hq hh⟩
    obtain ⟨f1,f2,f3,f4⟩:=RS.Eg (s0:=s) (np:=np) (nb:=some b) (w':=w) (N:=λx=>x∈F') hkill tkill hl hs rfl rfl rfl (Nat.le_refl _) (λ_ _ _=>rfl)
     (λb' e=>by injection e with e;subst e;exact ⟨λhz=>(h.dis _ hz).2 hbl,hbn,hlt,.inr hbl⟩)
     (λx _ hx=>⟨λhz=>(h.dis _ hz).2 (hlf x hx).1,(hlf x hx).2.1,(hlf x hx).2.2,.inr (hlf x hx).1⟩)
     (by
      simp only[RO];refine ⟨λe=> ?_,λb' e=> ?_⟩
      ·rw[bZ]at e;cases e
      ·rw[bZ]at e;injection e with e;subst e;refine ⟨vs,F',t1,Nat.le_trans (Nat.mul_le_mul_right _ hyle) t2,by rw[hm];exact g1,?_,λx=>by rw[js]⟩;rw[List.nodup_cons]at t4 |-;exact ⟨λhx=>t4.1 (g2 _ hx),g3 t4.2⟩)
    exact ⟨_,f1,f2,f3,(bZ _ _ _ _),f4⟩
 obtain ⟨k4,k5⟩:=k4;have hslot:s2.sto.get (slot,0)=some ob':=by rw[dH hlay];simp
 refine ⟨L2,k1,k2,k3,k5,?_⟩;simp only[RV];refine ⟨A,n,cap,ys,m1,⟨m2,m2'⟩,λe=>(by cases e),by show (s2.sto.get (slot,0)).bind Obj.rw=_;rw[hslot];exact hrw',λ_=>hn,λ_ _ e=>(by cases e),λe=>m7 (k4 ▸ e),λb e=> ?_⟩;rcases m8 b (k4 ▸ e)with ⟨p1,p2⟩ | ⟨p1,p2⟩
 ·exact (p2 hroff).elim
 ·rw[hroff]at p1 p2;exact .inr ⟨p1,p2⟩
theorem rU {np slot k:Nat} {r q:Id} {sz:gG} {cs:List AV} {g:Option (Int×Int)} {u:Bool} {ob ob':Obj} {xs ys:List D} {s':St} (h:RS s a w L Z) (hs:slot<np) (hr:s.sto.get r=some (.box cs)) (hk:cs[k]? =some (.arr q sz g u))
  (hq:s.sto.get q=some ob) (hob:ob= .rows sz xs/\ob'= .rows sz ys\/ob= .orows sz xs/\ob'= .orows sz ys) (hy:rL (real call loop) g xs=some ys) (e:yX r k q slot sz ob' s=some s'):
  ∃L',RS s' a w L' Z/\Tr np s.sto s'.sto w w L L' Z Z:=by
 have hrq:r≠q:=λe=>by
  subst e;rw[hr]at hq;injection hq with hq;rcases hob with ⟨h1,_⟩ | ⟨h1,_⟩<;>(rw[<-hq]at h1;cases h1)
 have hro:=h.obj r _ hr;simp only[RO]at hro;obtain ⟨b0,vs0,ty0,r1,r2,r3⟩:=hro;have hk0:=aq.1 hk;have hlen:=(bF.1 r3).1;obtain ⟨v,hv0⟩:∃v,vs0.toList[k]? =some v:=⟨_,bg (by have:=hk0.1;omega)⟩
 have hv:=(bF.1 r3).2 k _ v hk hv0;unfold yX at e;split at e
 case h_2=>cases e
 case h_1 s2 hl=>
  obtain ⟨L2,k1,k2,k3,k5,hnew⟩:=Gp h hs hv hq hob hy hl;split at e
  case h_2=>cases e
  case h_1 cs2 hr2=>
   injection e with e;subst e;have hro2:=k1.obj r _ hr2;simp only[RO]at hro2;obtain ⟨b2,vs2,ty2,u1,u2,u3⟩:=hro2;have hrs:((s.kill q).sto.get r).isSome:=by rw[fI,if_neg hrq,hr];rfl
   have hb2:b2=b0:=by
    have:=(k5 r hrs).1;have h2:L2 r=L r:=this;rw[h2,r1]at u1;injection u1 with u1;exact u1.symm
   subst hb2;have hvs:vs2=vs0:=by rw[r2]at u2;injection u2 with u2;injection u2 with u2;exact u2.symm
   subst hvs;have hsame:∀p,Same (aH w Z L2 s2.sto) (aH w Z (nZ L2 r (L2.nest r)) (s2.sto.put r (some (.box (cs2.set k (.arr (slot,0) sz none false)))))) p:=λp=>by
    refine ⟨rfl,λhs=> ?_,λz zs hz=>⟨zs,?_,rfl⟩,λ_ _ _=>rfl⟩
    ·show ((s2.sto.put r _).get p).isSome;by_cases e:p=r
     ·subst e;rw[cO _ hr2];rfl
     ·rw[bT _ e];exact hs
    ·have hz':(s2.sto.get p).bind Obj.rw=some (z,zs):=hz;show ((s2.sto.put r _).get p).bind Obj.rw=_;by_cases e:p=r
     ·subst e;rw[hr2]at hz';simp[Obj.rw]at hz'
     ·rw[bT _ e];exact hz'
   obtain ⟨n1,n2,_⟩:=RS.swap (ob':= .box (cs2.set k (.arr (slot,0) sz none false))) (N:=L2.nest r) np k1 hr2 (λz zs e=>(by simp[Obj.rw]at e)) (λb hb=>by
    rcases hb with hb | ⟨hb,_⟩
    ·exact .inl hb
    ·cases hb) (by
    simp only[RO];refine ⟨b2,vs2,ty2,u1,u2,?_⟩;refine cu (c:=aH w Z L2 s2.sto) (c':=aH w Z (nZ L2 r (L2.nest r)) (s2.sto.put r (some (.box (cs2.set k (.arr (slot,0) sz none false)))))) (jV.refl _ _) _ _ (λp _=>hsame p) ?_;rw[bF]at u3 |-;refine ⟨by simpa using u3.1,λi p v' hp hv'=> ?_⟩;rw[List.getElem?_set]at hp;split at hp
    ·rename_i e;subst e;split at hp
     ·injection hp with hp;subst hp;rw[hv0]at hv';injection hv' with hv';subst hv';exact hnew
     ·cases hp
    ·exact u3.2 i p v' hp hv')
   exact ⟨_,n1,k2.trans n2⟩
theorem tZ {np slot t:Nat} {q:Id} {sz:gG} {g:Option (Int×Int)} {u:Bool} {ob ob':Obj} {xs ys:List D} {s':St} (h:RS s a w L Z) (hs:slot<np) (hk:s.env[t]? =some (.arr q sz g u))
  (hq:s.sto.get q=some ob) (hob:ob= .rows sz xs/\ob'= .rows sz ys\/ob= .orows sz xs/\ob'= .orows sz ys) (hy:rL (real call loop) g xs=some ys) (e:Dd t q slot sz ob' s=some s'):
  ∃L',RS s' a w L' Z/\Tr np s.sto s'.sto w w L L' Z Z:=by
 obtain ⟨ht,hv⟩:=v5 h hk;unfold Dd at e;split at e
 case h_2=>cases e
 case h_1 s2 hl=>
  injection e with e;subst e;obtain ⟨L2,k1,k2,_,_,hnew⟩:=Gp h hs hv hq hob hy hl;exact ⟨L2,uN k1 ht hnew,k2⟩
theorem oT {np:Nat}:∀{ps:List (Nat×Option Nat×Nat)} {s s':St} {L:Loc} {Z:Nat->Prop},ps.all (λp=>decide (p.2.2<np))=true->RS s a w L Z->homes (real call loop) ps s=some s'->∃L' Z',RS s' a w L' Z'/\Tr np s.sto s'.sto w w L L' Z Z'
 | [],s,s',L,Z,_,h,e=>by
  simp only[homes]at e;injection e with e;subst e;exact ⟨L,Z,h,Tr.refl _ _ _ _ _⟩
 | (t,
     c,
        slot)::ps,s,s',L,Z,hp,h,e=>by
  simp only[List.all_cons,af,decide_eq_true_eq]at hp;obtain ⟨hs,hp⟩:=hp;simp only[homes]at e;split at e
  case h_2=>cases e
  case h_1 s1 he=>
   have key:∃L' Z',RS s1 a w L' Z'/\Tr np s.sto s1.sto w w L L' Z Z':=by
    cases c with
    | none=>
     cases slot with
     | zero=>
      simp only[Ak]at he;split at he
      case h_2=>injection he with he;subst he;exact ⟨L,Z,h,Tr.refl _ _ _ _ _⟩
      case h_1 q sz g u hk=>
        obtain ⟨ht,hv⟩:=v5 h hk;split at he
        case h_2=>cases he
        case h_1 x s2 hfz=>
          injection he with he;subst he;obtain ⟨Z',k1,k2,_,k4⟩:=wM np _ _ s s2 _ Z h (Kept.refl _ _ _ _) hv hfz;exact ⟨L,Z',uN k1 ht (k4 λr hr=>by simp only[AV.refs]at hr;cases hr),k2⟩
     | succ slot=>
     simp only[Ak]at he;split at he
     case h_2=>injection he with he;subst he;exact ⟨L,Z,h,Tr.refl _ _ _ _ _⟩
     case h_1 q sz g u hk=>
       have hszq:∀ob,s.sto.get q=some ob->∀z xs,ob.rw=some (z,xs)->z=sz:=λob ho z xs hrw=>by
         obtain ⟨_,hv⟩:=v5 h hk;simp only[RV]at hv;obtain ⟨_,_,_,zs,_,_,_,m4,_⟩:=hv;have m4':(s.sto.get q).bind Obj.rw=some (sz,zs):=m4;rw[ho]at m4';have m4'':ob.rw=some (sz,zs):=m4';rw[hrw]at m4'';injection m4'' with m4'';injection m4'' with m4''
       split at he
       · rename_i z xs hq;obtain rfl:=hszq _ hq z xs rfl;split at he
         case h_2=>cases he
         case h_1 ys hy=>exact (λ⟨L1,q1,q2⟩=>⟨L1,Z,q1,q2⟩) (tZ h hs hk hq (.inl ⟨rfl,rfl⟩) hy he)
       · rename_i z xs hq;obtain rfl:=hszq _ hq z xs rfl;split at he
         case h_2=>cases he
         case h_1 ys hy=>exact (λ⟨L1,q1,q2⟩=>⟨L1,Z,q1,q2⟩) (tZ h hs hk hq (.inr ⟨rfl,rfl⟩) hy he)
       · cases he
    | some c=>
     simp only[Ak]at he;split at he
     case h_2=>cases he
     case h_1 r b _=>
       split at he
       case h_2=>cases he
       case h_1 cs hr=>
         split at he
         case h_2=>injection he with he;subst he;exact ⟨L,Z,h,Tr.refl _ _ _ _ _⟩
         case h_1 q sz g u hk=>
           have hszq:∀ob,s.sto.get q=some ob->∀z xs,ob.rw=some (z,xs)->z=sz:=λob ho z xs hrw=>by
            have hro:=h.obj r _ hr;simp only[RO]at hro;obtain ⟨b0,vs0,ty0,r1,r2,r3⟩:=hro;have hk0:=aq.1 hk;have hlen:=(bF.1 r3).1;obtain ⟨v,hv0⟩:∃v,vs0.toList[b+c]? =some v:=⟨_,bg (by have:=hk0.1;omega)⟩
            have hv:=(bF.1 r3).2 _ _ v hk hv0;simp only[RV]at hv;obtain ⟨_,_,_,zs,_,_,_,m4,_⟩:=hv;have m4':(s.sto.get q).bind Obj.rw=some (sz,zs):=m4;rw[ho]at m4';have m4'':ob.rw=some (sz,zs):=m4';rw[hrw]at m4'';injection m4'' with m4'';injection m4'' with m4''
           split at he
           ·rename_i z xs hq;obtain rfl:=hszq _ hq z xs rfl;split at he
            case h_2=>cases he
            case h_1 ys hy=>exact (λ⟨L1,q1,q2⟩=>⟨L1,Z,q1,q2⟩) (rU h hs hr hk hq (.inl ⟨rfl,rfl⟩) hy he)
           ·rename_i z xs hq;obtain rfl:=hszq _ hq z xs rfl;split at he
            case h_2=>cases he
            case h_1 ys hy=>exact (λ⟨L1,q1,q2⟩=>⟨L1,Z,q1,q2⟩) (rU h hs hr hk hq (.inr ⟨rfl,rfl⟩) hy he)
           ·cases he
   obtain ⟨L1,Z1,k1,k2⟩:=key;obtain ⟨L2,Z2,m1,m2⟩:=oT hp k1 e;exact ⟨L2,Z2,m1,k2.trans m2⟩
end
end
end Go.Vi
