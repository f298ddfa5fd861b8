import Derived.Test.YtfnagkpidcdocaaGreatM08
set_option linter.all false
namespace Go.Vi
open Go Go.RowKit
section
variable {P:Program} {call:FuncId->List AV->List (Option Obj)->Option bk} {loop:Nat->St->Option (Out×St)}
def vK:lp->Bool
 | .move _ | .pick _ _ _ | .bin _ _ _ _ | .eqNil _ _ | .neg _ | .not _ | .mkfn _ _ | .fieldAddr _ _ | .field _ _ _ _ | .index _ _ | .extract _ _ | .build _ _ | .emptyRow=>true
 | _=>false
def Og:lp->Bool
 | .move (.tmp _)=>true
 | _=>false
def Gy:lp->Bool
 | .append _ _ _ _ | .appendO _ _ _ _ | .appendH _ _ _ _=>true
 | _=>false
def Nu:lp->Bool
 | .appendE _ _ _ _=>true
 | _=>false
def LG:lp->Bool
 | .alloc _ | .box _ | .buildRow _ _ _ _ _=>true
 | _=>false
def Gz:lp->Bool
 | .load _ _ _=>true
 | op=>vK op
def GA:lp->Bool
 | .indexAddr _ _ _ | .len _ _=>true
 | _=>false
def Dk:lp->Bool
 | .storeP _ _ _=>true
 | _=>false
def Kl:lp->Bool
 | .storeR _ _ _=>true
 | _=>false
def Km:lp->Bool
 | .lendF _=>true
 | _=>false
def y_ (x y:lp):Bool:=(Nu x&&LG y) || (GA x&&Dk y) || (Kl x&&Dk y) || (Gz x&&Km y) || (Og x&&Gy y)
def vL (d:Option Nat) (ts:List Nat):Bool:=match d with
 | some d=> !ts.contains d
 | none=>true
def LH (d d':Option Nat):Bool:=match d with
 | some d=>d' !=some d
 | none=>true
theorem oG {op:lp} (h:vK op=true):gB op=true:=by cases op<;>first | rfl | simp [vK]at h
theorem vM {o:aK} {e:List AV} {s s':bF} {op:lp} (h:vK op=true):evalOp o e s op=evalOp o e s' op:=by cases op<;>first | rfl | simp [vK]at h
theorem kr {env:List AV} {d:Option Nat} {u:AV} {ts:List Nat} (h:vL d ts=true):Like (ep env d u) env ts:=by
 cases d with
 | none=>exact fun _ _=>rfl
 | some d=>
  intro t ht;simp only [ep];have:d≠t:=fun e=>by
   subst e;simp [vL]at h;exact h ht
  rw [List.getElem?_set_ne this]
theorem fE {env:List AV} {d d':Option Nat} {u u':AV} (h:LH d d'=true):ep (ep env d u) d' u'=ep (ep env d' u') d u:=by
 cases d with
 | none=>rfl
 | some d=>
  cases d' with
  | none=>rfl
  | some d'=>
   simp only [ep];have:d≠d':=fun e=>by subst e;simp [LH]at h
   exact List.set_comm _ _ this
mutual
theorem AV.AH:∀a:AV,a.forget (fun _=>false)=a
 | .undef=>rfl
 | .bare=>rfl
 | .d _=>rfl
 | .agg cs=>by simp only [AV.forget,AV.cr cs]
 | .tup cs=>by simp only [AV.forget,AV.cr cs]
 | .nilp=>rfl
 | .emp=>rfl
 | .ptr _ _=>rfl
 | .prow _ _ _ _=>rfl
 | .sp _ _=>rfl
 | .arr _ _ _ _=>rfl
 | .fn _ cs=>by simp only [AV.forget,AV.cr cs]
theorem AV.cr:∀l:List AV,AV.aO (fun _=>false) l=l
 | []=>rfl
 | a::l=>by simp only [AV.aO,AV.AH a,AV.cr l]
end
mutual
theorem AV.wW (p q:Id->Bool):∀a:AV,(a.forget p).forget q=a.forget (fun r=>p r || q r)
 | .undef=>rfl
 | .bare=>rfl
 | .d _=>rfl
 | .agg cs=>by simp only [AV.forget,AV.cW p q cs]
 | .tup cs=>by simp only [AV.forget,AV.cW p q cs]
 | .nilp=>rfl
 | .emp=>rfl
 | .ptr r _=>by simp only [AV.forget];by_cases h:p r=true<;>simp [AV.forget,h]
 | .prow r _ _ _=>by simp only [AV.forget];by_cases h:p r=true<;>simp [AV.forget,h]
 | .sp _ _=>rfl
 | .arr r _ _ _=>by simp only [AV.forget];by_cases h:p r=true<;>simp [AV.forget,h]
 | .fn _ cs=>by simp only [AV.forget,AV.cW p q cs]
theorem AV.cW (p q:Id->Bool):∀l:List AV,AV.aO q (AV.aO p l)=AV.aO (fun r=>p r || q r) l
 | []=>rfl
 | a::l=>by simp only [AV.aO,AV.wW p q a,AV.cW p q l]
end
theorem kM {p:Id->Bool}:∀{l:List AV} {t:Nat},(AV.aO p l)[t]? =(l[t]?).map (·.forget p)
 | [],t=>by simp [AV.aO]
 | a::l,0=>by simp [AV.aO]
 | a::l,t+1=>by simp only [AV.aO,List.getElem?_cons_succ];exact kM
theorem sU {p:Id->Bool}:∀{l:List AV} {t:Nat} {a:AV},AV.aO p (l.set t a)=(AV.aO p l).set t (a.forget p)
 | [],t,a=>by simp [AV.aO]
 | b::l,0,a=>by simp [AV.aO]
 | b::l,t+1,a=>by simp only [List.set_cons_succ,AV.aO];rw [sU]
theorem AJ {p:Id->Bool} {e e':List AV} {ts:List Nat} (h:Like e e' ts):Like (AV.aO p e) (AV.aO p e') ts:=fun t ht=>by rw [kM,kM,h t ht]
theorem AK (env:List AV) (sto:bF) (r:Id):(⟨env,sto⟩:St).kill r=⟨AV.aO (· ==r) env,(sto.put r none).forget (· ==r)⟩:=rfl
theorem lf {env:List AV} {sto:bF} {t:Nat} {l:List (Option Obj)} {s':St} (h:(⟨env,sto⟩:St).lay t l=some s'):∃sto',sto.lay t l=some sto'/\s'=⟨env,sto'⟩:=by
 unfold St.lay at h;split at h
 ·rename_i sto' e;injection h with h;exact ⟨sto',e,h.symm⟩
 ·cases h
theorem lg {env:List AV} {sto sto':bF} {t:Nat} {l:List (Option Obj)} (h:sto.lay t l=some sto'):(⟨env,sto⟩:St).lay t l=some ⟨env,sto'⟩:=by
 unfold St.lay;rw [h]
theorem AL {o:aK} {s s':St} {a:AV} {x:D} (e:jH o s a=some (x,s')):∃p sto,s'=⟨AV.aO p s.env,sto⟩/\∀env,jH o ⟨env,s.sto⟩ a=some (x,⟨AV.aO p env,sto⟩):=by
 obtain ⟨env0,eL⟩:=s;have triv:∀{y:D},s'=⟨env0,eL⟩->x=y->(∀env,jH o ⟨env,eL⟩ a=some (y,⟨env,eL⟩))->∃p sto,s'=⟨AV.aO p env0,sto⟩/\∀env,jH o ⟨env,eL⟩ a=some (x,⟨AV.aO p env,sto⟩):=by
  intro y h1 h2 h3;refine ⟨fun _=>false,eL,by rw [AV.cr];exact h1,fun env=>by rw [AV.cr,h2];exact h3 env⟩
 cases a with
 | d y=>
  simp only [jH]at e;split at e
  ·rename_i hp;injection e with e;injection e with e1 e2;exact triv e2.symm e1.symm fun env=>by simp only [jH,hp]
  ·cases e
 | emp=>
  simp only [jH]at e;injection e with e;injection e with e1 e2;exact triv e2.symm e1.symm fun env=>by simp only [jH]
 | arr r sz g u=>
  cases g with
  | some g=>simp [jH]at e
  | none=>
   simp only [jH]at e;cases hs:sz.2 with
   | zero=>simp [hs]at e
   | succ m=>
    simp only [hs]at e;cases hg:eL.get r with
    | none=>simp [hg]at e
    | some ob=>
     simp only [hg]at e;cases ob with
     | orows z ys=>
      simp only at e;injection e with e;injection e with e1 e2;subst e1;subst e2;exact ⟨(· ==r),_,rfl,fun env=>by simp only [jH,hs,hg];rfl⟩
     | rows z ys=>
      simp only at e;cases hf:o.flat ys with
      | false=>simp [hf]at e
      | true=>
       simp only [hf]at e;injection e with e;injection e with e1 e2;subst e1;subst e2;exact ⟨(· ==r),_,rfl,fun env=>by simp only [jH,hs,hg,hf];rfl⟩
     | _=>simp at e
 | _=>simp [jH]at e
theorem GD {o:aK} {s s':St} {sz:gq} {a:AV} {xs:List D} (e:pG o s sz a=some (xs,s')):∃p sto,s'=⟨AV.aO p s.env,sto⟩/\∀env,pG o ⟨env,s.sto⟩ sz a=some (xs,⟨AV.aO p env,sto⟩):=by
 cases a with
 | emp=>
  simp only [pG]at e;injection e with e;injection e with e1 e2;subst e1;subst e2;exact ⟨fun _=>false,s.sto,by rw [AV.cr],fun env=>by rw [AV.cr];simp only [pG]⟩
 | arr r sz' g u=>
  simp only [pG]at e;split at e
  ·rename_i sz1 ys s2 ho;split at e
   case isFalse=>cases e
   case isTrue hs=>
    injection e with e;injection e with e1 e2;subst e1;subst e2;obtain ⟨p,sto,h1,h2⟩:=AL ho;exact ⟨p,sto,h1,fun env=>by simp only [pG,h2 env];rw [if_pos hs]⟩
  ·cases e
 | _=>simp [pG]at e
theorem AO {o:aK} {s s':St} {dst:Option Nat} {sz:gq} {bytes:Nat} {x y:VX} {u:AV} (e:rJ o s dst sz bytes x y=some (u,s')):
  ∃p sto,s'=⟨AV.aO p s.env,sto⟩/\∀env,Like s.env env (fD x++fD y)->rJ o ⟨env,s.sto⟩ dst sz bytes x y=some (u,⟨AV.aO p env,sto⟩):=by
 unfold rJ at e;split at e
 case h_2=>cases e
 case h_1 a b t h1 h2=>
  split at e
  case h_2=>cases e
  case h_1 xs s1 hr=>
   split at e
   case h_2=>cases e
   case h_1 sz2 y0 ys s2 ha=>
    split at e
    case isFalse=>cases e
    case isTrue hs=>
     split at e
     case h_2=>cases e
     case h_1 hf=>
      split at e
      case h_2=>cases e
      case h_1 s3 hl=>
       injection e with e;injection e with e1 e2;subst e1;subst e2;obtain ⟨p1,sto1,k1,k2⟩:=GD hr;subst k1;obtain ⟨p2,sto2,m1,m2⟩:=AL ha;subst m1;obtain ⟨sto3,n1,n2⟩:=lf hl;subst n2;refine ⟨fun r=>p1 r || p2 r,sto3,by rw [AV.cW],fun env hlk=> ?_⟩;obtain ⟨l1,l2⟩:=Like.app hlk;unfold rJ;simp only [bM l1,bM l2,h1,h2,k2 env];have:=m2 (AV.aO p1 env);simp only at this;simp only [this,hs,if_true,AV.cW];subst hs;simp only [hf,lg n1]
theorem AP {o:aK} {s s':St} {r:Id} (e:gR o r s=some s'):∃p sto,s'=⟨AV.aO p s.env,sto⟩/\∀env,gR o r ⟨env,s.sto⟩=some ⟨AV.aO p env,sto⟩:=by
 unfold gR at e;split at e
 case h_2 hn=>
  injection e with e;subst e;refine ⟨fun _=>false,s.sto,by rw [AV.cr],fun env=> ?_⟩;rw [AV.cr];unfold gR;split
  ·rename_i h;exact (hn _ _ _ _ _ _ h).elim
  ·rfl
 case h_1 sz xs i off q esz hr=>
  split at e
  ·rename_i esz' ys cs hq hx;split at e
   case isFalse=>cases e
   case isTrue hs=>
    split at e
    case h_2=>cases e
    case h_1 cs' hl=>
     injection e with e;subst e;exact ⟨(· ==q),_,rfl,fun env=>by unfold gR;simp only [hr,hq,hx,hs,if_true,hl];subst hs;simp only [hl];rfl⟩
  ·rename_i esz' ys cs hq hx;split at e
   case h_2=>cases e
   case h_1 hf=>
    split at e
    case isFalse=>cases e
    case isTrue hs=>
     split at e
     case h_2=>cases e
     case h_1 cs' hl=>
      injection e with e;subst e;exact ⟨(· ==q),_,rfl,fun env=>by unfold gR;simp only [hr,hq,hx,hf,hs,if_true];subst hs;simp only [hl];rfl⟩
  ·cases e
theorem GF {o:aK} {s s':St} {dst:Option Nat} {op:lp} {u:AV} (hc:Gy op=true) (e:aJ o s dst op=some (u,s')):
  ∃p sto,s'=⟨AV.aO p s.env,sto⟩/\∀env,Like s.env env (Bm op)->aJ o ⟨env,s.sto⟩ dst op=some (u,⟨AV.aO p env,sto⟩):=by
 cases op<;>first | (simp [Gy]at hc;done) | skip
 case appendO sz bytes x y=>
  simp only [aJ]at e |-;exact AO e
 case appendH sz bytes x y=>
  simp only [aJ]at e;split at e
  case h_2=>cases e
  case h_1 r z u0 hy=>
   split at e
   case h_2=>cases e
   case h_1 s1 h1=>
    obtain ⟨p1,sto1,k1,k2⟩:=AP h1;subst k1;obtain ⟨p2,sto2,m1,m2⟩:=AO e;subst m1;refine ⟨fun r=>p1 r || p2 r,sto2,by rw [AV.cW],fun env hlk=> ?_⟩;obtain ⟨l1,l2⟩:=Like.app (show Like s.env env (fD x++fD y)from hlk);simp only [aJ,bM l2,hy,k2 env];have:=m2 (AV.aO p1 env) (AJ hlk);simp only at this;rw [this,AV.cW]
 case append sz bytes x y=>
  simp only [aJ]at e;split at e
  case h_2=>cases e
  case h_1 a b t h1 h2=>
   split at e
   ·cases e
   rename_i ys hys;split at e
   ·split at e
    case h_2=>cases e
    case h_1 hf=>
     split at e
     case h_2=>cases e
     case h_1 s2 hl=>
      injection e with e;injection e with e1 e2;subst e1;subst e2;obtain ⟨sto2,n1,n2⟩:=lf hl;subst n2;refine ⟨fun _=>false,sto2,by rw [AV.cr],fun env hlk=> ?_⟩;obtain ⟨l1,l2⟩:=Like.app (show Like s.env env (fD x++fD y)from hlk);simp only [aJ,bM l1,bM l2,h1,h2,hys,hf,lg n1,AV.cr]
   ·rename_i r sz' g u';split at e
    case h_2=>cases e
    case h_1 xs hxs=>
     split at e
     case isFalse=>cases e
     case isTrue hc2=>
      split at e
      case h_2=>cases e
      case h_1 hf=>
       split at e
       case h_2=>cases e
       case h_1 s2 hl=>
        injection e with e;injection e with e1 e2;subst e1;subst e2;obtain ⟨env0,eL⟩:=s;rw [AK]at hl;obtain ⟨sto2,n1,n2⟩:=lf hl;subst n2;refine ⟨(· ==r),sto2,rfl,fun env hlk=> ?_⟩;obtain ⟨l1,l2⟩:=Like.app (show Like env0 env (fD x++fD y)from hlk);simp only at h1 h2 hys hxs;simp only [aJ,bM l1,bM l2,h1,h2,hys,hxs,hc2,if_true,hf];rw [AK];simp only [lg n1]
   ·cases e
theorem GH (s:bF) (p:Id) (o:Option Obj) (i:Nat):(s.put p o)[i]? =if i=p.1 then (s[i]?).map (·.set p.2 o)else s[i]? :=by
 unfold bF.put;split
 ·rename_i l hl;rw [List.getElem?_set];by_cases e:p.1=i
  ·subst e;obtain ⟨h1,h2⟩:=ai.1 hl;simp [h1,h2]
  ·rw [if_neg e,if_neg (fun x=>e x.symm)]
 ·rename_i hl;by_cases e:i=p.1
  ·subst e;rw [if_pos rfl,hl];rfl
  ·rw [if_neg e]
theorem put_comm {s:bF} {q r:Id} {o1 o2:Option Obj} (h:r≠q):(s.put q o1).put r o2=(s.put r o2).put q o1:=by
 apply List.ext_getElem?;intro i;simp only [GH];by_cases e1:i=q.1
 ·by_cases e2:i=r.1
  ·simp only [if_pos e1,if_pos e2];cases s[i]? with
   | none=>rfl
   | some l=>
    have hne:r.2≠q.2:=fun x=>h (Prod.ext (e2.symm.trans e1) x)
    simp only [Option.map_some];congr 1;exact (List.set_comm _ _ hne).symm
  ·simp only [if_pos e1,if_neg e2]
 ·simp only [if_neg e1]
theorem sV {o:aK} {s s':St} {dst:Option Nat} {n:Nat} {a x:VX} {u:AV} (e:aJ o s dst (.storeP n a x)=some (u,s')):
  ∃r cs cs',s.sto.get r=some (.box cs)/\u= .bare/\s'=⟨s.env,s.sto.put r (some (.box cs'))⟩/\∀env sto,Like s.env env (fD a++fD x)->sto.get r=some (.box cs)->aJ o ⟨env,sto⟩ dst (.storeP n a x)=some (.bare,⟨env,sto.put r (some (.box cs'))⟩):=by
 simp only [aJ]at e;split at e
 case h_2=>cases e
 case h_1 r off v h1 h2=>
  split at e
  case h_2=>cases e
  case h_1 s2 hs=>
   injection e with e;injection e with e1 e2;subst e1;subst e2;unfold storeAt at hs;simp only at hs;split at hs
   case isTrue=>cases hs
   case isFalse hc=>
    split at hs
    case h_2=>cases hs
    case h_1 cs hg=>
     split at hs
     case h_2=>cases hs
     case h_1 cs' hl=>
      injection hs with hs;subst hs;refine ⟨r,cs,cs',hg,rfl,rfl,fun env sto hlk hg'=> ?_⟩;obtain ⟨l1,l2⟩:=Like.app hlk;simp only [aJ,bM l1,bM l2,h1,h2,storeAt];rw [if_neg hc];simp only [hg',hl]
theorem sW {o:aK} {s s':St} {dst:Option Nat} {n:Nat} {a x:VX} {u:AV} (e:aJ o s dst (.storeR n a x)=some (u,s')):
  ∃r sz xs xs',s.sto.get r=some (.rows sz xs)/\u= .bare/\s'=⟨s.env,s.sto.put r (some (.rows sz xs'))⟩/\∀env sto,Like s.env env (fD a++fD x)->sto.get r=some (.rows sz xs)->aJ o ⟨env,sto⟩ dst (.storeR n a x)=some (.bare,⟨env,sto.put r (some (.rows sz xs'))⟩):=by
 simp only [aJ]at e;split at e
 case h_2=>cases e
 case h_1 r sz i off v h1 h2=>
  split at e
  case h_2=>cases e
  case h_1 ds hds=>
   split at e
   case isTrue=>cases e
   case isFalse hn=>
    split at e
    case h_2=>cases e
    case h_1 sz' xs hg=>
     split at e
     case isFalse=>cases e
     case isTrue hs=>
      split at e
      case h_2=>cases e
      case h_1 el hel=>
       split at e
       case isFalse=>cases e
       case isTrue hc=>
        split at e
        case h_2=>cases e
        case h_1 cs hl=>
         split at e
         case h_2=>cases e
         case h_1 e' he'=>
          injection e with e;injection e with e1 e2;subst e1;subst e2;subst hs;refine ⟨r,sz,xs,_,hg,rfl,rfl,fun env sto hlk hg'=> ?_⟩;obtain ⟨l1,l2⟩:=Like.app hlk;simp only [aJ,bM l1,bM l2,h1,h2,hds,hg',hel,hl,he',hc,if_true];rw [if_neg hn]
theorem qP {o:aK} {s:bF} {r:Id} {cs cs':List AV} {q:Id} {sz:gq} {g:Option (Int×Int)} {u:Bool} (h:s.get r=some (.box cs)):eH o (s.put r (some (.box cs'))) (.arr q sz g u)=eH o s (.arr q sz g u):=by
 by_cases e:q=r
 ·subst e;simp only [eH,content,cK _ h,h]
 ·simp only [eH,content,cg _ e]
theorem I9 {o:aK} {env:List AV} {s:bF} {op:lp} {r:Id} {cs cs':List AV} (hi:GA op=true) (h:s.get r=some (.box cs)):evalOp o env (s.put r (some (.box cs'))) op=evalOp o env s op:=by
 cases op<;>first | (simp [GA]at hi;done) | skip
 case indexAddr sz x i=>
  simp only [evalOp];cases ev env x with
  | none=>rfl
  | some a=>cases a<;>first | rfl | (simp only [qP h])
 case len Bl x=>
  simp only [evalOp];cases ev env x with
  | none=>rfl
  | some a=>cases a<;>first | rfl | (simp only [qP h])
theorem rP {op:lp} (h:GA op=true):gB op=true:=by cases op<;>first | rfl | simp [GA]at h
theorem pP {o:aK} {s s':St} {dst:Option Nat} {op:lp} {u:AV} (hq:gB op=true) (e:aJ o s dst op=some (u,s')):s'=s/\evalOp o s.env s.sto op=some (u,[]):=by
 rw [gY hq]at e;split at e
 ·rename_i v hv;injection e with e;injection e with e1 e2;subst e1;subst e2;exact ⟨rfl,hv⟩
 ·rename_i v x new hv;have:=rO hq hv;cases this
 ·cases e
theorem nZ {o:aK} {s:St} {dst:Option Nat} {op:lp} {u:AV} (hq:gB op=true) (e:evalOp o s.env s.sto op=some (u,[])):aJ o s dst op=some (u,s):=by
 rw [gY hq,e]
theorem Cf {o:aK} {s s':St} {dst:Option Nat} {x:VX} {u:AV} (e:aJ o s dst (.lendF x)=some (u,s')):
  ∃sto2,s'=⟨s.env,sto2⟩/\(∀env,Like s.env env (fD x)->aJ o ⟨env,s.sto⟩ dst (.lendF x)=some (u,⟨env,sto2⟩))/\∀agg n a v,loadAt o s.sto agg n a=some v->loadAt o sto2 agg n a=some v:=by
 simp only [aJ]at e;split at e
 case h_2=>cases e
 case h_1 r sz i off h1=>
  split at e
  case h_2=>cases e
  case h_1 sz' xs hg=>
   split at e
   case h_2=>cases e
   case h_1 cs hcs=>
    split at e
    case h_2=>cases e
    case h_1 esz ys hcut=>
     cases hm:esz.2 with
     | zero=>simp [hm]at e
     | succ m=>
     cases dst with
     | none=>simp [hm]at e
     | some t=>
     cases hf:o.flat ys with
     | false=>simp [hm,hf]at e
     | true=>
      simp only [hm,hf]at e;split at e
      case isFalse=>cases e
      case isTrue hc=>
       split at e
       case h_2=>cases e
       case h_1 s2 hl=>
        injection e with e;injection e with e1 e2;subst e1;subst e2;obtain ⟨sto2,n1,n2⟩:=lf hl;subst n2;refine ⟨sto2,rfl,fun env hlk=> ?_,fun agg n a v hv=> ?_⟩
        ·simp only [aJ,bM hlk,h1,hg,hcs,hcut,hm,hf,hc.1,hc.2,and_self,if_true];rw [hc.1]at n1;simp only [lg n1]
        ·have hget:∀q ob,s.sto.get q=some ob->q≠r->sto2.get q=some ob:=fun q ob hq hne=>by
          have h3:(s.sto.put r (some (.hrows sz xs i off (t,0) esz))).get q=some ob:=by rw [cg _ hne];exact hq
          rw [dw n1];split
          ·rename_i he;have:=f7 n1 q he;rw [h3]at this;cases this
          ·exact h3
         have hgr:sto2.get r=some (.hrows sz xs i off (t,0) esz):=by
          have h3:(s.sto.put r (some (.hrows sz xs i off (t,0) esz))).get r=some (.hrows sz xs i off (t,0) esz):=cK _ hg;rw [dw n1];split
          ·rename_i he;have:=f7 n1 r he;rw [h3]at this;cases this
          ·exact h3
         cases a with
         | ptr q k=>
          simp only [loadAt]at hv |-;split at hv
          ·rename_i cs' hq;rw [hget q _ hq (fun e=>by rw [e,hg]at hq;cases hq)];exact hv
          ·cases hv
         | prow q sz2 j k=>
          simp only [loadAt,bF.rd]at hv |-;by_cases e:q=r
          ·subst e;rw [hg]at hv;rw [hgr];simp only [Obj.rd]at hv |-;rw [<-hc.1]at hv;exact hv
          ·cases hq:s.sto.get q with
           | none=>rw [hq]at hv;simp at hv
           | some ob=>rw [hget q ob hq e];rw [hq]at hv;exact hv
         | sp cs' k=>exact hv
         | _=>simp [loadAt]at hv
theorem lm {e e':List AV}:∀{xs:List (Nat×VX)},Like e e' (xs.flatMap fun p=>fD p.2)->dH e' xs=dH e xs
 | [],_=>rfl
 | (i,x)::xs,h=>by
  rw [List.flatMap_cons]at h;obtain ⟨h1,h2⟩:=h.app;simp only [dH,bM (show Like e e' (fD x)from h1),lm h2]
theorem tY {s s':bF} {t:Nat} {l:List (Option Obj)} (h:s.lay t l=some s'):pX s s':=fun r ob hr=>by
 rw [dw h];split
 ·rename_i he;have:=f7 h r he;rw [hr]at this;cases this
 ·exact hr
theorem Ej {o:aK} {s s':St} {dst:Option Nat} {op:lp} {u:AV} (hd:LG op=true) (e:aJ o s dst op=some (u,s')):
  (s'=s/\∀env sto,Like s.env env (Bm op)->aJ o ⟨env,sto⟩ dst op=some (u,⟨env,sto⟩))\/
  ∃t l sto2,dst=some t/\s.sto.lay t l=some sto2/\s'=⟨s.env,sto2⟩/\∀env sto sto',Like s.env env (Bm op)->sto.lay t l=some sto'->aJ o ⟨env,sto⟩ dst op=some (u,⟨env,sto'⟩):=by
 obtain ⟨env0,eL⟩:=s;cases op<;>first | (simp [LG]at hd;done) | skip
 case alloc cs=>
  cases dst with
  | none=>simp [aJ,evalOp]at e
  | some t=>
   simp only [aJ,evalOp]at e;split at e
   case h_2=>cases e
   case h_1 s2 hl=>
    injection e with e;injection e with e1 e2;subst e1;subst e2;obtain ⟨sto2,n1,n2⟩:=lf hl;subst n2;exact .inr ⟨t,_,sto2,rfl,n1,rfl,fun env sto sto' _ h=>by simp only [aJ,evalOp,lg h]⟩
 case box x=>
  cases dst with
  | none=>
   exfalso;simp only [aJ,evalOp]at e;cases hx:ev env0 x with
   | none=>simp [hx]at e
   | some a=>simp only [hx]at e;cases a<;>simp at e
  | some t=>
   obtain ⟨a,ha,hk⟩:∃a,ev env0 x=some a/\∀env sto,ev env x=some a->aJ o ⟨env,sto⟩ (some t) (.box x)=(match (⟨env,sto⟩:St).lay t [some (.box a.cells)]with | some s=>some (.ptr (t,0) 0,s) | none=>none):=by
    simp only [aJ,evalOp]at e;cases hx:ev env0 x with
    | none=>simp [hx]at e
    | some a=>
     refine ⟨a,rfl,fun env sto h=> ?_⟩;simp only [hx]at e;simp only [aJ,evalOp,h];cases a<;>first | rfl | (simp at e;done)
   have e0:=hk env0 eL ha;rw [e0]at e;split at e
   case h_2=>cases e
   case h_1 s2 hl=>
    injection e with e;injection e with e1 e2;subst e1;subst e2;obtain ⟨sto2,n1,n2⟩:=lf hl;subst n2;exact .inr ⟨t,_,sto2,rfl,n1,rfl,fun env sto sto' hlk h=>by rw [hk env sto (by rw [bM hlk];exact ha)];simp only [lg h]⟩
 case buildRow sz agg zero len ps=>
  simp only [aJ]at e;split at e
  case h_2=>cases e
  case h_1 qs t h1=>
   split at e
   case isFalse=>cases e
   case isTrue hz=>
    split at e
    case h_2=>cases e
    case h_1 ds hds=>
     split at e
     case h_2=>cases e
     case h_1 z hzz=>
      split at e
      case h_2=>cases e
      case h_1 xs hxs=>
       split at e
       case h_3=>cases e
       case h_1 hfl=>
        injection e with e;injection e with e1 e2;subst e1;subst e2;exact .inl ⟨rfl,fun env sto hlk=>by simp only [aJ,lm hlk,h1,hz,if_true,hds,hzz,hxs,hfl]⟩
       case h_2 y ys hfl=>
        split at e
        case h_2=>cases e
        case h_1 s2 hl=>
         injection e with e;injection e with e1 e2;subst e1;subst e2;obtain ⟨sto2,n1,n2⟩:=lf hl;subst n2;exact .inr ⟨t,_,sto2,rfl,n1,rfl,fun env sto sto' hlk h=>by simp only [aJ,lm hlk,h1,hz,if_true,hds,hzz,hxs,hfl,lg h]⟩
theorem qQ {o:aK} {s s':St} {dst:Option Nat} {sz:gq} {bytes:Nat} {x y:VX} {u:AV} (e:aJ o s dst (.appendE sz bytes x y)=some (u,s')):
  ∃t l sto2,dst=some t/\s.sto.lay t l=some sto2/\s'=⟨s.env,sto2⟩/\∀env sto sto',Like s.env env (fD x++fD y)->pX s.sto sto->sto.lay t l=some sto'->aJ o ⟨env,sto⟩ dst (.appendE sz bytes x y)=some (u,⟨env,sto'⟩):=by
 obtain ⟨env0,eL⟩:=s;simp only [aJ]at e;split at e
 case h_2=>cases e
 case h_1 b t h1 h2=>
  split at e
  ·cases e
  rename_i ys hys;split at e
  case h_2=>cases e
  case h_1 hf=>
   split at e
   case h_2=>cases e
   case h_1 s2 hl=>
    injection e with e;injection e with e1 e2;subst e1;subst e2;obtain ⟨sto2,n1,n2⟩:=lf hl;subst n2;refine ⟨t,_,sto2,rfl,n1,rfl,fun env sto sto' hlk hle h=> ?_⟩;obtain ⟨l1,l2⟩:=Like.app (show Like env0 env (fD x++fD y)from hlk);simp only [aJ,bM l1,bM l2,h1,h2,kq hle hys,hf,lg h]
theorem I_ {s s1 s2:bF} {t t':Nat} {l l':List (Option Obj)} (ht:t≠t') (h1:s.lay t l=some s1) (h2:s1.lay t' l'=some s2):∃s3,s.lay t' l'=some s3/\s3.lay t l=some s2:=by
 unfold bF.lay at h1 h2 |-;split at h1
 case h_2=>cases h1
 case h_1 old ho=>
  split at h1
  case isFalse=>cases h1
  case isTrue hn=>
   injection h1 with h1;subst h1;rw [List.getElem?_set_ne ht]at h2;split at h2
   case h_2=>cases h2
   case h_1 old' ho'=>
    split at h2
    case isFalse=>cases h2
    case isTrue hn'=>
     injection h2 with h2;subst h2;refine ⟨s.set t' l',by rw [ho'];simp only [hn',if_true],?_⟩;rw [List.getElem?_set_ne (Ne.symm ht),ho];simp only [hn,if_true];rw [List.set_comm _ _ ht]
theorem GJ {x y:br} {s s1 s2:St} {u v:AV} (hk:y_ x.op y.op=true) (h3:vL x.dst (Bm y.op)=true) (h4:vL y.dst (Bm x.op)=true)
  (h5:LH x.dst y.dst=true) (e1:aJ (real call loop) s x.dst x.op=some (u,s1)) (e2:aJ (real call loop) ⟨ep s1.env x.dst u,s1.sto⟩ y.dst y.op=some (v,s2)):
  ∃s3 u' s4,aJ (real call loop) s y.dst y.op=some (v,s3)/\aJ (real call loop) ⟨ep s3.env y.dst v,s3.sto⟩ x.dst x.op=some (u',s4)/\ep s4.env x.dst u'=ep s2.env y.dst v/\s4.sto=s2.sto:=by
 obtain ⟨xd,xg,xo⟩:=x;obtain ⟨yd,yg,yo⟩:=y;simp only at hk h3 h4 h5 e1 e2 |-;obtain ⟨env0,eL⟩:=s;have hy1:∀w,Like (ep env0 xd w) env0 (Bm yo):=fun w=>kr h3
 have hx1:∀(env:List AV) w,Like env (ep env yd w) (Bm xo):=fun env w=>fun t ht=>(kr (env:=env) (u:=w) h4 t ht).symm
 simp only [y_,Bool.or_eq_true,ah]at hk;rcases hk with (((⟨k1,k2⟩ | ⟨k1,k2⟩) | ⟨k1,k2⟩) | ⟨k1,k2⟩) | ⟨k1,k2⟩
 ·cases xo<;>first | (simp [Nu]at k1;done) | skip
  rename_i sz bytes x y;obtain ⟨t,l,sto2,hd,n1,rfl,n2⟩:=qQ e1;subst hd;rcases Ej k2 e2 with ⟨m1,m2⟩ | ⟨t',l',sto3,hd',m1,m2,m3⟩
  ·subst m1;refine ⟨⟨env0,eL⟩,u,⟨ep env0 yd v,sto2⟩,m2 env0 eL (hy1 u),n2 _ _ _ (hx1 env0 v) (pX.refl _) n1,(fE h5).symm,rfl⟩
  ·subst hd';subst m2;have htt:t≠t':=fun e=>by subst e;simp [LH]at h5
   obtain ⟨sto4,q1,q2⟩:=I_ htt n1 m1;refine ⟨⟨env0,sto4⟩,u,⟨ep env0 (some t') v,sto3⟩,m3 env0 eL sto4 (hy1 u) q1,n2 _ _ _ (hx1 env0 v) (tY q1) q2,(fE h5).symm,rfl⟩
 ·obtain ⟨r1,r2⟩:=pP (rP k1) e1;subst r1;cases yo<;>first | (simp [Dk]at k2;done) | skip
  rename_i n a x;obtain ⟨r,cs,cs',g1,g2,g3,g4⟩:=sV e2;subst g2;subst g3;refine ⟨⟨env0,eL.put r (some (.box cs'))⟩,u,⟨ep env0 yd .bare,eL.put r (some (.box cs'))⟩,g4 env0 eL (hy1 u) g1,nZ (rP k1) ?_,(fE h5).symm,rfl⟩;rw [I9 k1 g1,kL (rP k1) (hx1 env0 .bare)];exact r2
 ·cases xo<;>first | (simp [Kl]at k1;done) | skip
  cases yo<;>first | (simp [Dk]at k2;done) | skip
  rename_i n a x n' a' x';obtain ⟨q,sz,xs,xs',f1,f2,f3,f4⟩:=sW e1;subst f2;subst f3;obtain ⟨r,cs,cs',g1,g2,g3,g4⟩:=sV e2;subst g2;subst g3;have hne:r≠q:=fun e=>by subst e;rw [cK _ f1]at g1;cases g1
  have g1':eL.get r=some (.box cs):=by rw [<-g1];exact (cg _ hne).symm
  refine ⟨⟨env0,eL.put r (some (.box cs'))⟩,.bare,⟨ep env0 yd .bare,(eL.put r (some (.box cs'))).put q (some (.rows sz xs'))⟩,g4 env0 eL (hy1 .bare) g1',f4 _ _ (hx1 env0 .bare) (by rw [cg _ (Ne.symm hne)];exact f1),(fE h5).symm,put_comm (Ne.symm hne)⟩
 ·cases yo<;>first | (simp [Km]at k2;done) | skip
  rename_i a;have hq:gB xo=true:=by
   cases xo<;>first | rfl | (simp [Gz,vK]at k1;done)
  obtain ⟨r1,r2⟩:=pP hq e1;subst r1;obtain ⟨sto2,g1,g2,g3⟩:=Cf e2;subst g1;refine ⟨⟨env0,sto2⟩,u,⟨ep env0 yd v,sto2⟩,g2 env0 (hy1 u),nZ hq ?_,(fE h5).symm,rfl⟩;rw [kL hq (hx1 env0 v)];by_cases hdr:vK xo=true
  ·rw [vM (s':=eL) hdr];exact r2
  ·cases xo<;>first | (exact (hdr rfl).elim) | (simp [Gz,vK]at k1;done) | skip
   rename_i agg n p;simp only [evalOp]at r2 |-;cases hp:ev env0 p with
   | none=>simp [hp]at r2
   | some pv=>
    simp only [hp]at r2 |-;cases hl:loadAt (real call loop) eL agg n pv with
    | none=>simp [hl]at r2
    | some w=>simp only [hl]at r2;simp only [g3 _ _ _ _ hl];exact r2
 ·cases xo<;>first | (simp [Og]at k1;done) | skip
  rename_i a;cases a with
  | const _=>simp [Og]at k1
  | tmp t=>
   obtain ⟨r1,r2⟩:=pP (by rfl) e1;subst r1;obtain ⟨p,sto2,g1,g2⟩:=GF k2 e2;subst g1;have hu:env0[t]? =some u:=by
    simp only [evalOp,ev]at r2;split at r2
    ·rename_i w hw;injection r2 with r2;injection r2 with r2 _;subst r2;exact hw
    ·cases r2
   have ht:(ep (AV.aO p env0) yd v)[t]? =some (u.forget p):=by
    have:=(hx1 (AV.aO p env0) v) t (by simp [Bm,fD]);rw [this,kM,hu];rfl
   refine ⟨⟨AV.aO p env0,sto2⟩,u.forget p,⟨ep (AV.aO p env0) yd v,sto2⟩,g2 env0 (hy1 u),nZ (by rfl) (by simp only [evalOp,ev,ht]),?_,rfl⟩;rw [<-fE h5];congr 1;cases xd with
   | none=>rfl
   | some d=>simp only [ep];rw [sU]
theorem AQ {x y:br} {s s1 r:St} (hg:(x.guard.isNone&&y.guard.isNone)=true) (hk:y_ x.op y.op=true) (h3:vL x.dst (Bm y.op)=true) (h4:vL y.dst (Bm x.op)=true)
  (h5:LH x.dst y.dst=true) (e1:dB (real call loop) x s=some s1) (e:dB (real call loop) y s1=some r):∃s2,dB (real call loop) y s=some s2/\dB (real call loop) x s2=some r:=by
 simp only [ah,Option.isNone_iff_eq_none]at hg;have st:∀{v:br} {s:St},v.guard=none->dB (real call loop) v s=match aJ (real call loop) s v.dst v.op with | some (u,s)=>some ⟨ep s.env v.dst u,s.sto⟩ | none=>none:=fun h=>by unfold dB;rw [h];rfl
 rw [st hg.1]at e1;rw [st hg.2]at e;split at e1
 case h_2=>cases e1
 case h_1 u t1 d1=>
  injection e1 with e1;subst e1;split at e
  case h_2=>cases e
  case h_1 v t2 d2=>
   injection e with e;subst e;obtain ⟨s3,u',s4,q1,q2,q3,q4⟩:=GJ hk h3 h4 h5 d1 d2;refine ⟨⟨ep s3.env y.dst v,s3.sto⟩,by rw [st hg.2,q1],by rw [st hg.1,q2];simp only;rw [q3,q4]⟩
end
section
section
variable {P:Program} {call:FuncId->List AV->List (Option Obj)->Option bk} {loop:Nat->St->Option (Out×St)}
variable {s:St} {a:Act} {w:World} {L:Loc} {Z:Nat->Prop}
def vN:lp->Bool
 | .alloc _ | .box _ | .buildRow _ _ _ _ _ | .buildH _ _ _ | .appendE _ _ _ _=>true
 | .call _ m raw _=>raw&&(m== .bor || m== .pure)
 | _=>false
def Ek:lp->Bool
 | .storeP _ _ _ | .storeR _ _ _=>true
 | _=>false
def GK (x y:lp):Bool:=(rN x&&rN y) || (rN x&&vN y) || (vK x&&(vN y || Ek y)) || ((vN x || Ek x)&&vK y)
def AR (x y:br):Bool:=(GK x.op y.op&&vL x.dst (mI y)&&vL y.dst (mI x)&&LH x.dst y.dst) ||
 (x.guard.isNone&&y.guard.isNone&&y_ x.op y.op&&vL x.dst (Bm y.op)&&vL y.dst (Bm x.op)&&LH x.dst y.dst)
theorem oH {env:List AV} {d:Option Nat} {u:AV} {ts:List Nat} (h:vL d ts=true):Like env (ep env d u) ts:=fun t ht=>(kr h t ht).symm
theorem za {s s':bF} {t:Nat} {l:List (Option Obj)} (h:s.lay t l=some s'):pX s s':=by
 unfold bF.lay at h;split at h
 case h_2=>cases h
 case h_1 old ho=>
  split at h
  case isFalse=>cases h
  case isTrue hn=>
   injection h with h;subst h;intro r ob hr;unfold bF.get at hr |-;by_cases he:t=r.1
   ·subst he;rw [ho]at hr;simp only at hr;exfalso;cases hq:old[r.2]? with
    | none=>simp [hq]at hr
    | some q=>
     simp only [hq]at hr;have:=List.all_eq_true.1 hn q (List.mem_of_getElem? hq);rw [hr]at this;simp at this
   ·rw [List.getElem?_set_ne he];exact hr
theorem kN {s:St} {env:List AV} {v:br} (hl:Like s.env env (mI v)):wanted env v.guard=wanted s.env v.guard:=by
 obtain ⟨h1,_⟩:=hl.app;cases hg:v.guard with
 | none=>rfl
 | some g=>
  obtain ⟨t,b⟩:=g;rw [hg]at h1;simp only [wanted,h1 t (by simp)]
theorem AU {v:br} {s s':St} (hd:vK v.op=true) (e:dB (real call loop) v s=some s'):
  ∃u,s'=⟨ep s.env v.dst u,s.sto⟩/\∀env sto',Like s.env env (mI v)->dB (real call loop) v ⟨env,sto'⟩=some ⟨ep env v.dst u,sto'⟩:=by
 unfold dB at e;split at e
 ·rename_i hw;split at e
  case h_2=>cases e
  case h_1 u s1 hd1=>
   injection e with e;rw [gY (oG hd)]at hd1;split at hd1
   case h_3=>cases hd1
   case h_2 u' e' new' hev=>have:=rO (oG hd) hev;cases this
   case h_1 u' hev=>
    injection hd1 with hd1;injection hd1 with q1 q2;subst q1;subst q2;refine ⟨u',e.symm,fun env sto' hl=> ?_⟩;unfold dB;rw [kN hl,hw];simp only;rw [gY (oG hd)];simp only [kL (oG hd) (hl.app).2,vM (s':=s.sto) hd,hev]
 ·rename_i hw;injection e with e;refine ⟨.bare,e.symm,fun env sto' hl=> ?_⟩;unfold dB;rw [kN hl,hw]
 ·cases e
theorem qR {e e':List AV}:∀{xs:List (Nat×VX)},Like e e' (xs.flatMap fun p=>fD p.2)->dH e' xs=dH e xs
 | [],_=>rfl
 | (i,x)::xs,h=>by
  rw [List.flatMap_cons]at h;obtain ⟨h1,h2⟩:=h.app;simp only [dH,bM (show Like e e' (fD x)from h1),qR h2]
theorem LI {op:lp} {dst:Option Nat} {s s1:St} {u:AV} (hw:(vN op || Ek op)=true) (e:aJ (real call loop) s dst op=some (u,s1)):
  ∃sto2,s1=⟨s.env,sto2⟩/\(vN op=true->pX s.sto sto2)/\∀env,Like s.env env (Bm op)->aJ (real call loop) ⟨env,s.sto⟩ dst op=some (u,⟨env,sto2⟩):=by
 cases op<;>first | (simp [vN,Ek]at hw;done) | skip
 case call f m raw args=>
  have hm:raw=true/\(m= .bor\/m= .pure):=by simpa [vN,Ek]using hw
  obtain ⟨rfl,rfl | rfl⟩:=hm
  case inr=>
   simp only [aJ]at e;cases hx:wP s.env args with
   | none=>simp [hx]at e
   | some as=>
    simp only [hx,eJ]at e;split at e
    ·cases e
    rename_i hp;have hr:AV.bO as=[]:=by simpa using hp
    simp only [handed]at e;split at e
    ·cases e
    rename_i as' s2 hsn;split at hsn
    case h_2=>cases hsn
    case h_1 as'' hsn'=>
     injection hsn with hsn;injection hsn with q1 q2;subst q1;subst q2;have hr':=kg as _ hr hsn';simp only [hr',lO,List.map_nil]at e;split at e
     ·cases e
     rename_i c hc;split at e
     ·cases e
     rename_i sto hwb;have hpars:c.pars=[]/\sto=s.sto:=by
      cases hcp:c.pars with
      | nil=>rw [hcp]at hwb;simp only [iG]at hwb;injection hwb with hwb;exact ⟨rfl,hwb.symm⟩
      | cons x xs=>rw [hcp]at hwb;simp [iG]at hwb
     obtain ⟨hpars,rfl⟩:=hpars;simp only [hpars,St.buried,iH]at e;have hev:∀env,Like s.env env (Bm (.call f .pure true args))->wP env args=some as:=fun env hlk=>by rw [<-hx];exact lN hlk
     split at e
     ·rename_i hX;injection e with e;injection e with e1 e2;subst e1;subst e2;refine ⟨s.sto,rfl,fun _=>pX.refl _,fun env hlk=> ?_⟩;simp only [aJ,hev env hlk,eJ,hp,handed,hsn',hr',lO,List.map_nil,hc,hpars,iG,St.buried,iH,hX]
     ·rename_i e0 ex hX;split at e
      · rename_i t hraw hd;split at e
        case h_2=>cases e
        case h_1 s3 hl=>
          injection e with e;injection e with e1 e2;subst e1;subst e2;obtain ⟨sto2,n1,n2⟩:=lf hl;subst n2;refine ⟨sto2,rfl,fun _=>tY n1,fun env hlk=> ?_⟩;simp only [aJ,hev env hlk,eJ,hp,handed,hsn',hr',lO,List.map_nil,hc,hpars,iG,St.buried,iH,hX,lg n1]
      · cases e
  have hb:∀env,wP env args=wP s.env args->aJ (real call loop) ⟨env,s.sto⟩ dst (.call f .bor true args)=match aJ (real call loop) s dst (.call f .bor true args)with | some (u,s1)=>some (u,⟨env,s1.sto⟩) | none=>none:=by
   intro env hx;simp only [aJ,hx];cases wP s.env args with
   | none=>rfl
   | some as=>
    simp only [eJ];cases iS (real call loop) s.sto as with
    | none=>rfl
    | some as'=>
     simp only;cases (AV.bO as').isEmpty with
     | false=>rfl
     | true=>
      simp only;cases (real call loop).call f as' []with
      | none=>rfl
      | some c=>
        simp only;cases scalar c.ret with
        | true=>rfl
        | false=>
          simp only;cases dst with
          | none=>rfl
          | some t=>
            cases c.pars with
            | cons _ _=>rfl
            | nil=>
              cases eD c.ret with
              | false=>rfl
              | true=>
               cases jd (real call loop) c.extra with
               | false=>rfl
               | true=>
                simp only [St.lay];cases s.sto.lay t (c.extra.map fun ob=>ob.map (·.map fun r=>(t,r.2)))<;>rfl
  have hs:∃sto2,
               s1=⟨s.env,sto2⟩/\pX s.sto sto2:=by
   simp only [aJ]at e;cases h1:wP s.env args with
   | none=>simp [h1]at e
   | some as=>
    simp only [h1,eJ]at e;cases h2:iS (real call loop) s.sto as with
    | none=>simp [h2]at e
    | some as'=>
     simp only [h2]at e;cases h3:(AV.bO as').isEmpty with
     | false=>simp [h3]at e
     | true=>
      simp only [h3]at e;cases h4:(real call loop).call f as' []with
      | none=>simp [h4]at e
      | some c=>
        simp only [h4]at e;cases h5:scalar c.ret with
        | true=>
          simp only [h5]at e;injection e with e;injection e with q1 q2;exact ⟨s.sto,by rw [<-q2],pX.refl _⟩
        | false=>
          simp only [h5]at e;split at e
          case h_2=>cases e
          case h_1 t _ _ _ _=>
            simp only [St.lay]at e;split at e
            case h_2=>cases e
            case h_1 s2 hl=>
              split at hl
              case h_2=>cases hl
              case h_1 sto hl'=>
               injection hl with hl;injection e with e;injection e with q1 q2;exact ⟨sto,by rw [<-q2,<-hl],za hl'⟩
  obtain ⟨sto2,h1,h2⟩:=hs;refine ⟨sto2,h1,fun _=>h2,fun env hl=> ?_⟩;rw [hb env (lN hl),e,h1]
 case alloc cs=>
  simp only [aJ,evalOp]at e;cases dst with
  | none=>simp at e
  | some t=>
   simp only [St.lay]at e;cases hl:s.sto.lay t [some (.box cs)]with
   | none=>simp [hl]at e
   | some sto=>
    simp only [hl]at e;injection e with e;injection e with q1 q2;subst q1;subst q2;exact ⟨sto,rfl,fun _=>za hl,fun env _=>by simp only [aJ,evalOp,St.lay,hl]⟩
 case box x=>
  have hb:∀env,ev env x=ev s.env x->aJ (real call loop) ⟨env,s.sto⟩ dst (.box x)=match aJ (real call loop) s dst (.box x)with | some (u,s1)=>some (u,⟨env,s1.sto⟩) | none=>none:=by
   intro env hx;simp only [aJ,evalOp,hx];cases ev s.env x with
   | none=>rfl
   | some a=>
    cases a<;>first
     | rfl
     | (
       cases dst with
       | none=>rfl
       | some t=>
         simp only [St.lay];generalize s.sto.lay t _=q;cases q<;>rfl)
  have hs:∃sto2,s1=⟨s.env,sto2⟩/\pX s.sto sto2:=by
   simp only [aJ,evalOp]at e;cases hx:ev s.env x with
   | none=>simp [hx]at e
   | some a=>
    simp only [hx]at e;cases a<;>first
     | (simp at e;done)
     | (
       cases dst with
       | none=>simp at e
       | some t=>
         simp only [St.lay]at e;split at e
         case h_2=>cases e
         case h_1 sto hl=>
           split at hl
           case h_2=>cases hl
           case h_1 sto' hl'=>
             injection hl with hl;injection e with e;injection e with q1 q2;exact ⟨sto',by rw [<-q2,<-hl],za hl'⟩)
  obtain ⟨sto2,h1,h2⟩:=hs;refine ⟨sto2,h1,fun _=>h2,fun env hl=> ?_⟩;rw [hb env (bM hl),e,h1]
 case buildRow sz agg zero len ps=>
  have hb:∀env,dH env ps=dH s.env ps->aJ (real call loop) ⟨env,s.sto⟩ dst (.buildRow sz agg zero len ps)=match aJ (real call loop) s dst (.buildRow sz agg zero len ps)with | some (u,s1)=>some (u,⟨env,s1.sto⟩) | none=>none:=by
   intro env hx;simp only [aJ,hx];cases dH s.env ps with
   | none=>rfl
   | some qs=>
    cases dst with
    | none=>rfl
    | some t=>
     simp only;by_cases hz:zero.length=sz.2
     ·rw [if_pos hz,if_pos hz];cases dZ zero with
      | none=>rfl
      | some ds=>
        simp only;cases D.bQ agg ds with
        | none=>rfl
        | some z=>
          simp only;cases oR (qs.map (·.2))with
          | none=>rfl
          | some xs=>
            simp only;cases j8 sz.2 (List.replicate len z) ((qs.map (·.1)).zip xs)with
            | none=>rfl
            | some l=>
              cases l with
              | nil=>rfl
              | cons y ys=>
               simp only [St.lay];cases s.sto.lay t [some (.rows sz (y::ys))]<;>rfl
     ·rw [if_neg hz,if_neg hz]
  have hs:∃sto2,
               s1=⟨s.env,sto2⟩/\pX s.sto sto2:=by
   simp only [aJ]at e;cases h1:dH s.env ps with
   | none=>simp [h1]at e
   | some qs=>
    cases dst with
    | none=>simp [h1]at e
    | some t=>
     simp only [h1]at e;by_cases hz:zero.length=sz.2
     ·rw [if_pos hz]at e;cases h2:dZ zero with
      | none=>simp [h2]at e
      | some ds=>
        simp only [h2]at e;cases h3:D.bQ agg ds with
        | none=>simp [h3]at e
        | some z=>
          simp only [h3]at e;cases h4:oR (qs.map (·.2))with
          | none=>simp [h4]at e
          | some xs=>
            simp only [h4]at e;cases h5:j8 sz.2 (List.replicate len z) ((qs.map (·.1)).zip xs)with
            | none=>simp [h5]at e
            | some l=>
              cases l with
              | nil=>
               simp only [h5]at e;injection e with e;injection e with q1 q2;exact ⟨s.sto,by rw [<-q2],pX.refl _⟩
              | cons y ys=>
               simp only [h5,St.lay]at e;cases h6:s.sto.lay t [some (.rows sz (y::ys))]with
               | none=>simp [h6]at e
               | some sto=>
                simp only [h6]at e;injection e with e;injection e with q1 q2;exact ⟨sto,q2.symm,za h6⟩
     ·rw [if_neg hz]at e;cases e
  obtain ⟨sto2,h1,h2⟩:=hs;refine ⟨sto2,h1,fun _=>h2,fun env hl=> ?_⟩;rw [hb env (qR hl),e,h1]
 case storeP n a x=>
  simp only [aJ]at e;split at e
  case h_2=>cases e
  case h_1 r off v h1 h2=>
   simp only [storeAt]at e;split at e
   case h_2=>cases e
   case h_1 s2 hs2=>
    injection e with e;injection e with q1 q2;subst q1;subst q2;split at hs2
    case isTrue=>cases hs2
    case isFalse hc=>
     split at hs2
     case h_2=>cases hs2
     case h_1 cs hg=>
      split at hs2
      case h_2=>cases hs2
      case h_1 cs' hl=>
        injection hs2 with hs2;subst hs2;refine ⟨_,rfl,fun h=>by simp [vN]at h,fun env hlk=> ?_⟩;obtain ⟨l1,l2⟩:=Like.app (show Like s.env env (fD a++fD x)from hlk);simp only [aJ,bM l1,bM l2,h1,h2,storeAt];rw [if_neg hc];simp only [hg,hl]
 case buildH sz off x=>
  simp only [aJ]at e;split at e
  case h_2=>cases e
  case h_1 cs t h1=>
   split at e
   case h_2=>cases e
   case h_1 ds q esz hl0=>
    split at e
    case isFalse=>cases e
    case isTrue hc=>
     split at e
     case h_2=>cases e
     case h_1 s2 hl=>
      injection e with e;injection e with e1 e2;subst e1;subst e2;obtain ⟨sto2,n1,n2⟩:=lf hl;subst n2;refine ⟨sto2,rfl,fun _=>tY n1,fun env hlk=> ?_⟩;simp only [aJ,bM (show Like s.env env (fD x)from hlk),h1,hl0,hc,if_true,lg n1]
 case appendE sz bytes x y=>
  obtain ⟨t,l,sto2,hd,n1,rfl,n2⟩:=qQ e;exact ⟨sto2,rfl,fun _=>tY n1,fun env hlk=>n2 env s.sto sto2 hlk (pX.refl _) n1⟩
 case storeR n a x=>
  obtain ⟨r,sz,xs,xs',f1,f2,f3,f4⟩:=sW e;subst f2;subst f3;exact ⟨_,rfl,fun h=>by simp [vN]at h,fun env hlk=>f4 env s.sto hlk f1⟩
theorem vO {v:br} {s s':St} (hw:(vN v.op || Ek v.op)=true) (e:dB (real call loop) v s=some s'):
  ∃u sto2,(vN v.op=true->pX s.sto sto2)/\s'=⟨ep s.env v.dst u,sto2⟩/\∀env,Like s.env env (mI v)->dB (real call loop) v ⟨env,s.sto⟩=some ⟨ep env v.dst u,sto2⟩:=by
 unfold dB at e;split at e
 ·rename_i hwt;split at e
  case h_2=>cases e
  case h_1 u s1 hd1=>
   injection e with e;obtain ⟨sto2,h1,h2,h3⟩:=LI hw hd1;subst h1;refine ⟨u,sto2,h2,e.symm,fun env hl=> ?_⟩;unfold dB;rw [kN hl,hwt];simp only [h3 env (hl.app).2]
 ·rename_i hwt;injection e with e;refine ⟨.bare,s.sto,fun _=>pX.refl _,e.symm,fun env hl=> ?_⟩;unfold dB;rw [kN hl,hwt]
 ·cases e
theorem Cg {x y:br} {s r:St} (h:AR x y=true) (e:bf (real call loop) [x,y] s=some r):bf (real call loop) [y,x] s=some r:=by
 simp only [AR,Bool.or_eq_true]at h;rcases h with h | h
 case inr=>
  simp only [ah]at h;obtain ⟨⟨⟨⟨⟨g1,g2⟩,hk⟩,h3⟩,h4⟩,h5⟩:=h;rw [bT]at e |-;split at e
  case h_2=>cases e
  case h_1 s1 e1=>
   rw [eT]at e;obtain ⟨s2,m1,m2⟩:=AQ (by simp [g1,g2]) hk h3 h4 h5 e1 e;rw [m1];simp only [eT];exact m2
 simp only [ah]at h;obtain ⟨⟨⟨hk,h3⟩,h4⟩,h5⟩:=h;rw [bT]at e |-;cases e1:dB (real call loop) x s with
 | none=>simp [e1]at e
 | some s1=>
  simp only [e1,eT]at e;simp only [GK,Bool.or_eq_true,ah]at hk;rcases hk with ((⟨k1,k2⟩ | ⟨k1,k2⟩) | ⟨k1,k2⟩) | ⟨k1,k2⟩
  ·obtain ⟨u,m1,m2⟩:=pO k1 e1;subst m1;obtain ⟨u',n1,n2⟩:=pO k2 e;have:=n2 s.env s.sto (kr h3) (pX.refl _);rw [show (⟨s.env,s.sto⟩:St)=s from rfl]at this;simp only [this,eT];rw [m2 _ _ (oH h4) (pX.refl _),n1,fE h5]
  ·obtain ⟨u,m1,m2⟩:=pO k1 e1;subst m1;obtain ⟨u',sto2,n0,n1,n2⟩:=vO (by simp [k2]) e;have:=n2 s.env (kr h3);rw [show (⟨s.env,s.sto⟩:St)=s from rfl]at this;simp only [this,eT];rw [m2 _ _ (oH h4) (n0 k2),n1,fE h5]
  ·obtain ⟨u,m1,m2⟩:=AU k1 e1;subst m1;obtain ⟨u',sto2,n0,n1,n2⟩:=vO (by simpa using k2) e;have:=n2 s.env (kr h3);rw [show (⟨s.env,s.sto⟩:St)=s from rfl]at this;simp only [this,eT];rw [m2 _ _ (oH h4),n1,fE h5]
  ·obtain ⟨u,sto2,m0,m1,m2⟩:=vO (by simpa using k1) e1;subst m1;obtain ⟨u',n1,n2⟩:=AU k2 e;have:=n2 s.env s.sto (kr h3);rw [show (⟨s.env,s.sto⟩:St)=s from rfl]at this;simp only [this,eT];rw [m2 _ (oH h4),n1,fE h5]
theorem bubble {x:br}:∀{B:List br} {s r:St},(∀b∈B,AR x b=true)->bf (real call loop) (x::B) s=some r->bf (real call loop) (B++[x]) s=some r
 | [],s,r,_,e=>e
 | b::B,s,r,h,e=>by
  have e1:bf (real call loop) ([x,b]++B) s=some r:=e;rw [iK]at e1;split at e1
  case h_2=>cases e1
  case h_1 s1 hs1=>
   have h2:=Cg (h b (by simp)) hs1;rw [bT]at h2;split at h2
   case h_2=>cases h2
   case h_1 s2 hs2=>
    have h3:bf (real call loop) (x::B) s2=some r:=by
     rw [bT];rw [eT]at h2;rw [h2];exact e1
    rw [List.cons_append,bT,hs2];exact bubble (fun c hc=>h c (by simp [hc])) h3
def sel (p:Nat->Bool):Nat->List br->List br
 | _,[]=>[]
 | k,v::vs=>if p k then v::sel p (k+1) vs else sel p (k+1) vs
def zb (dep:Nat->Nat->Bool) (i:Nat) (v:br):Nat->List br->Bool
 | _,[]=>true
 | j,u::us=>(dep i j || AR v u)&&zb dep i v (j+1) us
def oI (dep:Nat->Nat->Bool):Nat->List br->Bool
 | _,[]=>true
 | k,v::vs=>zb dep k v (k+1) vs&&oI dep (k+1) vs
theorem qU {dep:Nat->Nat->Bool} {i:Nat} {v:br} {p:Nat->Bool}:∀{vs:List br} {k:Nat},zb dep i v k vs=true->(∀j,k<=j->p j=true->dep i j=false)->∀b∈sel p k vs,AR v b=true
 | [],k,_,_,b,hb=>by simp [sel]at hb
 | u::us,k,h,hp,b,hb=>by
  simp only [zb,ah]at h;simp only [sel]at hb;split at hb
  ·rename_i hk;rcases List.mem_cons.1 hb with rfl | hb
   ·have:=hp k (Nat.le_refl _) hk;rw [this]at h;simpa using h.1
   ·exact qU h.2 (fun j hj=>hp j (by omega)) b hb
  ·exact qU h.2 (fun j hj=>hp j (by omega)) b hb
theorem vP {dep:Nat->Nat->Bool} {p:Nat->Bool}:∀{vs:List br} {k:Nat} {s r:St},oI dep k vs=true->(∀i j,k<=i->i<j->p j=true->dep i j=true->p i=true)->bf (real call loop) vs s=some r->
  ∃r1,bf (real call loop) (sel p k vs) s=some r1
 | [],k,s,r,_,_,e=>⟨s,rfl⟩
 | v::vs,k,s,r,h,hp,e=>by
  simp only [oI,ah]at h;rw [bT]at e;split at e
  case h_2=>cases e
  case h_1 s1 hs1=>
   obtain ⟨r1,hr1⟩:=vP h.2 (fun i j hi=>hp i j (by omega)) e;simp only [sel];split
   ·exact ⟨r1,by rw [bT,hs1];exact hr1⟩
   ·rename_i hk;have hb:=bubble (x:=v) (B:=sel p (k+1) vs) (s:=s) (r:=r1) (qU h.1 fun j hj hpj=>by
     cases hd:dep k j with
     | false=>rfl
     | true=>exact (hk (hp k j (Nat.le_refl _) (by omega) hpj hd)).elim) (by rw [bT,hs1];exact hr1)
    rw [iK]at hb;split at hb
    ·rename_i s2 hs2;exact ⟨s2,hs2⟩
    ·cases hb
theorem rQ {p p':Nat->Bool}:∀{vs:List br} {k:Nat},(∀j,k<=j->p j=p' j)->sel p k vs=sel p' k vs
 | [],k,_=>rfl
 | v::vs,k,h=>by simp only [sel,h k (Nat.le_refl _),rQ (vs:=vs) (k:=k+1) fun j hj=>h j (by omega)]
theorem ze {dep:Nat->Nat->Bool} {p:Nat->Bool} {i:Nat} (hpi:p i=false) (hdep:∀j,i<j->p j=true->dep i j=false):∀{vs:List br} {k:Nat} {s r:St} {v:br},oI dep k vs=true->k<=i->vs[i-k]? =some v->
  bf (real call loop) (sel (fun j=>p j || j==i) k vs) s=some r->bf (real call loop) (sel p k vs++[v]) s=some r
 | [],k,s,r,v,_,_,hv,_=>by simp at hv
 | u::us,k,s,r,v,h,hk,hv,e=>by
  simp only [oI,ah]at h;by_cases hik:i=k
  ·subst hik;simp at hv;subst hv;have e1:sel (fun j=>p j || j==i) i (u::us)=u::sel p (i+1) us:=by
    simp only [sel,hpi,beq_self_eq_true,Bool.or_true,if_true];congr 1;exact rQ fun j hj=>by
     have:(j==i)=false:=by simp;omega
     simp [this]
   have e2:sel p i (u::us)=sel p (i+1) us:=by simp [sel,hpi]
   rw [e1]at e;rw [e2];exact bubble (qU h.1 fun j hj hpj=>hdep j (by omega) hpj) e
  ·have hlt:k+1<=i:=by omega
   have hv':us[i-(k+1)]? =some v:=by
    have:i-k=(i-(k+1))+1:=by omega
    rw [this]at hv;simpa using hv
   have hki:(k==i)=false:=by simp;omega
   simp only [sel,hki,Bool.or_false]at e |-;split at e
   ·rename_i hpk;rw [bT]at e;split at e
    case h_2=>cases e
    case h_1 s1 hs1=>
     have ih:=ze hpi hdep h.2 hlt hv' e;simp only [hpk,if_true,List.cons_append];rw [bT,hs1];exact ih
   ·rename_i hpk;simp only [hpk,if_false,Bool.false_eq_true];exact ze hpi hdep h.2 hlt hv' e
theorem Dl {p:Nat->Bool}:∀{vs:List br} {k:Nat},(∀j,k<=j->j<k+vs.length->p j=true)->sel p k vs=vs
 | [],k,_=>rfl
 | v::vs,k,h=>by
  simp only [sel,h k (Nat.le_refl _) (by simp),if_true];rw [Dl fun j hj hl=>h j (by omega) (by simp;omega)]
def Ch (acc:List Nat) (o:Oper):Nat:=o.after.toList.foldl (fun m e=>match Region.binds .any e with | true=>m ||| (1<<<e.on) ||| acc.getD e.on 0 | false=>m) 0
def xE (acc:List Nat):List Oper->List Nat
 | []=>acc
 | o::l=>xE (acc++[Ch acc o]) l
def LJ (ops:Array Oper):Bool:=(List.range ops.size).all fun j=>match ops[j]? with
 | some o=>o.after.toList.all fun e=> !Region.binds .any e || decide (e.on<j)
 | none=>true
def Ci (n:Nat) (π:List Nat):Bool:=π.length==n&&((List.range n).all fun i=>π.contains i)&&decide π.Nodup
def qV (P:Program) (np:Nat) (ops:Array Oper) (π:List Nat) (vs:List br):Bool:=
 pK P np ops π vs&&LJ ops&&Ci ops.size π&&(match xE [] ops.toList with | M=>oI (fun i j=>(M.getD (π.getD j ops.size) 0).testBit (π.getD i ops.size)) 0 vs)
def GL (P:Program) (np:Nat) (ops:Array Oper) (vs:List br):Bool:=qV P np ops (List.range ops.size) vs
theorem Cj:∀{n:Nat} {π:List Nat},Ci n π=true->π.length=n/\π.Nodup/\∀i,i<n->∃k,k<n/\π[k]? =some i:=by
 intro n π h;simp only [Ci,ah,beq_iff_eq,List.all_eq_true,List.mem_range,decide_eq_true_eq]at h;obtain ⟨⟨h1,h2⟩,h3⟩:=h;have hm:∀i,i<n->i∈π:=fun i hi=>by simpa using h2 i hi
 refine ⟨h1,h3,fun i hi=> ?_⟩
 ·obtain ⟨k,hk⟩:=List.getElem?_of_mem (hm i hi);exact ⟨k,by have:=(ai.1 hk).1;omega,hk⟩
theorem AW {np:Nat} {ops:Array Oper}:∀{is:List Nat} {vs:List br},pK P np ops is vs=true->is.length=vs.length/\∀(i j:Nat) (v:br),is[i]? =some j->vs[i]? =some v->∃o,ops[j]? =some o/\vG P np ops o v=true
 | [],[],_=>by simp
 | i::is,v::vs,h=>by
  simp only [pK,ah]at h;obtain ⟨h1,h2⟩:=h;obtain ⟨k1,k2⟩:=AW h2;refine ⟨by simp [k1],fun m j u hm hu=> ?_⟩;cases m with
  | zero=>
   simp at hm hu;subst hm;subst hu;split at h1
   ·rename_i o ho;exact ⟨o,ho,h1⟩
   ·cases h1
  | succ m=>simp at hm hu;exact k2 m j u hm hu
 | [],_::_,h=>by simp [pK]at h
 | _::_,[],h=>by simp [pK]at h
def Closed (ops:Array Oper) (listed:Array Bool):Prop:=∀j,listed.getD j false=true->∀o,ops[j]? =some o->∀e∈o.after,Region.binds .any e=true->listed.getD e.on false=true
theorem El {acc:List Nat} {o:Oper} {i:Nat} (h:(Ch acc o).testBit i=true):∃e∈o.after,Region.binds .any e=true/\(e.on=i\/(acc.getD e.on 0).testBit i=true):=by
 have key:∀(l:List Edge) (m:Nat),(l.foldl (fun m e=>match Region.binds .any e with | true=>m ||| (1<<<e.on) ||| acc.getD e.on 0 | false=>m) m).testBit i=true->m.testBit i=true\/∃e∈l,Region.binds .any e=true/\(e.on=i\/(acc.getD e.on 0).testBit i=true):=by
  intro l;induction l with
  | nil=>intro m h;exact .inl h
  | cons e l ih=>
   intro m h;simp only [List.foldl_cons]at h;rcases ih _ h with h | ⟨e',h1,h2⟩
   ·cases hb:Region.binds .any e with
    | false=>rw [hb]at h;exact .inl h
    | true=>
     rw [hb]at h;simp only [Nat.testBit_or,Bool.or_eq_true]at h;rcases h with (h | h) | h
     ·exact .inl h
     ·refine .inr ⟨e,by simp,hb,.inl ?_⟩;rw [Nat.one_shiftLeft,Nat.testBit_two_pow]at h;simpa using h
     ·exact .inr ⟨e,by simp,hb,.inr h⟩
   ·exact .inr ⟨e',by simp [h1],h2⟩
 rcases key _ _ h with h | ⟨e,h1,h2⟩
 ·simp at h
 ·exact ⟨e,by simpa using h1,h2⟩
theorem qW {ops:Array Oper} {listed:Array Bool} (hc:Closed ops listed):∀(l:List Oper) (acc:List Nat),(∀k o,l[k]? =some o->ops[acc.length+k]? =some o)->
  (∀j i,(acc.getD j 0).testBit i=true->listed.getD j false=true->listed.getD i false=true)->∀j i,((xE acc l).getD j 0).testBit i=true->listed.getD j false=true->listed.getD i false=true
 | [],acc,_,h=>h
 | o::l,acc,ho,h=>by
  simp only [xE];refine qW hc l _ (fun k o' hk=>by
   have:=ho (k+1) o' (by simpa using hk);rw [List.length_append,List.length_singleton,Nat.add_assoc,Nat.add_comm 1 k];exact this) (fun j i hj hl=> ?_)
  by_cases h1:j<acc.length
  ·rw [List.getD_eq_getElem?_getD,List.getElem?_append_left h1,<-List.getD_eq_getElem?_getD]at hj;exact h j i hj hl
  ·by_cases h2:j=acc.length
   ·subst h2;simp at hj;obtain ⟨e,he,hb,hor⟩:=El hj;have ho0:=ho 0 o rfl;have hon:=hc _ hl o (by simpa using ho0) e he hb;rcases hor with rfl | hor
    ·exact hon
    ·exact h _ _ hor hon
   ·have:(acc++[Ch acc o])[j]? =none:=List.getElem?_eq_none (by simp;omega);rw [List.getD_eq_getElem?_getD,this]at hj;simp at hj
theorem n_ {ops:Array Oper} {listed:Array Bool} (hc:Closed ops listed) {j i:Nat} (hj:listed.getD j false=true) (h:((xE [] ops.toList).getD j 0).testBit i=true):listed.getD i false=true:=
 qW hc ops.toList [] (fun k o hk=>by simpa using hk) (fun j i h _=>by simp at h) j i h hj
def oe (listed:Array Bool):Nat:=listed.toList.countP (fun b=> !b)
theorem qX {listed:Array Bool} {i:Nat} (hi:i<listed.size) (h:listed.getD i false=false):oe (listed.setIfInBounds i true)+1=oe listed:=by
 unfold oe;rw [Array.toList_setIfInBounds];have key:∀(l:List Bool) (i:Nat),l[i]? =some false->(l.set i true).countP (fun b=> !b)+1=l.countP (fun b=> !b):=by
  intro l;induction l with
  | nil=>intro i h;simp at h
  | cons b l ih=>
   intro i h;cases i with
   | zero=>simp at h;subst h;simp [List.countP_cons]
   | succ i=>
    simp at h;simp only [List.set_cons_succ,List.countP_cons];have:=ih i h;omega
 exact key _ i (by simp [Array.getD,hi]at h;simp [hi,h])
theorem Ck {np:Nat} {ops:Array Oper} {vs:List br} {s0 s':St} {w0:World} {L0:Loc} {Z0:Nat->Prop} (hco:gX P call) {π:List Nat} (hok:qV P np ops π vs=true) (e:bf (real call loop) vs s0=some s') (Q:Exit->Act->World->Prop)
  (hQ:∀a' w' L' Z',RS s' a' w' L' Z'->Tr np s0.sto s'.sto w0 w' L0 L' Z0 Z'->Q .normal a' w'):
  ∀(fuel:Nat) (listed:Array Bool) (sS:St) (a:Act) (w:World) (L:Loc) (Z:Nat->Prop),listed.size=ops.size->oe listed=fuel->Closed ops listed->
   bf (real call loop) (sel (fun j=>listed.getD (π.getD j ops.size) false) 0 vs) s0=some sS->RS sS a w L Z->Tr np s0.sto sS.sto w0 w L0 L Z0 Z->wpAny P .any ops Q fuel listed a w:=by
 simp only [qV,ah]at hok;obtain ⟨⟨⟨h1,h2⟩,h4⟩,h3⟩:=hok;obtain ⟨hlen,hget⟩:=AW h1;obtain ⟨hπl,hπn,hπs⟩:=Cj h4;have hlen':vs.length=ops.size:=by rw [<-hlen,hπl]
 have hout:∀(listed:Array Bool),listed.size=ops.size->∀j,ops.size<=j->listed.getD (π.getD j ops.size) false=false:=fun listed hsz j hj=>by
  have:π[j]? =none:=List.getElem?_eq_none (by omega);have e:π.getD j ops.size=ops.size:=by simp [List.getD,this]
  rw [e];simp [Array.getD,hsz]
 have hπb:∀i∈π,i<ops.size:=fun i hi=>by
  obtain ⟨k,hk⟩:=List.getElem?_of_mem hi;have hkl:=(ai.1 hk).1;obtain ⟨v,hv⟩:∃v,vs[k]? =some v:=⟨_,aN (by omega)⟩
  obtain ⟨o,ho,_⟩:=hget k i v hk hv;exact (Array.getElem?_eq_some_iff.1 ho).1
 have hdone:∀(listed:Array Bool) (sS:St) (a:Act) (w:World) (L:Loc) (Z:Nat->Prop),listed.size=ops.size->Region.ready .any ops listed=[]->bf (real call loop) (sel (fun j=>listed.getD (π.getD j ops.size) false) 0 vs) s0=some sS->RS sS a w L Z->Tr np s0.sto sS.sto w0 w L0 L Z0 Z->Q .normal a w:=by
  intro listed sS a w L Z hsz hr hs h t;have hall:∀j,j<ops.size->listed.getD j false=true:=by
   intro j;induction j using Nat.strongRecOn with
   | _ j ih=>
    intro hj;cases hl:listed.getD j false with
    | true=>rfl
    | false=>
     exfalso;have hlt:j<listed.size:=by omega
     have hmem:j∈Region.ready .any ops listed:=by
      rw [mem_ready];refine ⟨by simp [Array.getD,hlt]at hl |-;exact hl,ops[j],by simp [hj],fun e he hb=> ?_⟩;have:=List.all_eq_true.1 h2 j (List.mem_range.2 hj);simp only [Array.getElem?_eq_getElem hj]at this;have:=List.all_eq_true.1 this e (by simpa using he);simp only [hb,Bool.not_true,Bool.false_or,decide_eq_true_eq]at this;exact ih e.on this (by omega)
     rw [hr]at hmem;cases hmem
  rw [Dl (fun j _ hj=>hall _ (by
   have hlt:j<π.length:=by omega
   have hm:π.getD j ops.size∈π:=by simp [List.getD,aN hlt]
   exact hπb _ hm))]at hs
  rw [e]at hs;injection hs with hs;subst hs;exact hQ a w L Z h t
 intro fuel;induction fuel with
 | zero=>
  intro listed sS a w L Z hsz hu hc hs h t;have hr:Region.ready .any ops listed=[]:=by
   cases hrr:Region.ready .any ops listed with
   | nil=>rfl
   | cons i l=>
    exfalso;have hm:i∈Region.ready .any ops listed:=by rw [hrr];simp
    obtain ⟨m1,o,m2,_⟩:=mem_ready.1 hm;have hi:i<listed.size:=by rw [hsz];exact (Array.getElem?_eq_some_iff.1 m2).1
    have:=qX hi (by simp [Array.getD,hi]at m1 |-;exact m1);omega
  exact ⟨hr,hdone listed sS a w L Z hsz hr hs h t⟩
 | succ fuel ih=>
  intro listed sS a w L Z hsz hu hc hs h t;refine ⟨fun hr=>hdone listed sS a w L Z hsz hr hs h t,fun i hi=> ?_⟩;obtain ⟨m1,o,m2,m3⟩:=mem_ready.1 hi;have hio:i<ops.size:=(Array.getElem?_eq_some_iff.1 m2).1;have hil:i<listed.size:=by omega
  have hpi:listed.getD i false=false:=by simp [Array.getD,hil]at m1 |-;exact m1
  obtain ⟨pos,hpos,hpi'⟩:=hπs i hio;have hπp:π.getD pos ops.size=i:=by simp [List.getD,hpi']
  obtain ⟨v,hv⟩:∃v,vs[pos]? =some v:=⟨_,aN (by omega)⟩
  obtain ⟨o',ho',hoo⟩:=hget pos i v hpi' hv;have:o'=o:=by rw [m2]at ho';injection ho' with ho';exact ho'.symm
  subst this;have hset:∀j,(listed.setIfInBounds i true).getD j false=(listed.getD j false || j==i):=by
   intro j;by_cases hj:i=j
   ·subst hj;simp [Array.getD,hil]
   ·rw [getD_set_ne false hj];have:(j==i)=false:=by simp;exact fun e=>hj e.symm
    simp [this]
  have hc':Closed ops (listed.setIfInBounds i true):=by
   intro j hj oj hoj ee hee hb;rw [hset]at hj |-;rcases Bool.or_eq_true _ _ ▸ hj with hj | hj
   ·rw [hc j hj oj hoj ee hee hb];rfl
   ·have:j=i:=by simpa using hj
    subst this;rw [m2]at hoj;injection hoj with hoj;subst hoj;rw [m3 ee hee hb];rfl
  obtain ⟨r1,hr1⟩:=vP (p:=fun j=>(listed.setIfInBounds i true).getD (π.getD j ops.size) false) (k:=0) h3 (fun x y _ _ hy hd=>n_ hc' hy hd) e;have hr1':=hr1;rw [rQ (
      p':=fun j=>listed.getD (π.getD j ops.size) false || j==pos) (fun j _=>by
   rw [hset];congr 1;by_cases hj:j=pos
   ·subst hj;rw [hπp];simp
   ·have e2:(j==pos)=false:=by simpa using hj
    rw [e2];have:π.getD j ops.size≠i:=fun e=>by
     by_cases hjl:j<π.length
     ·have hj2:π[j]? =some i:=by rw [<-e];simp [List.getD,aN hjl]
      exact hj ((List.getElem?_inj hjl hπn).1 (hj2.trans hpi'.symm))
     ·have:π[j]? =none:=List.getElem?_eq_none (by omega);simp only [List.getD,this,Option.getD_none]at e;omega
    simpa using this)]at hr1'
  have hadd:=ze (p:=fun j=>listed.getD (π.getD j ops.size) false) (i:=pos) (k:=0) (v:=v) (by rw [hπp];exact hpi) (fun j _ hj=>by
   rw [hπp];cases hd:((xE [] ops.toList).getD (π.getD j ops.size) 0).testBit i with
   | false=>rfl
   | true=>have:=n_ hc hj hd;rw [hpi]at this;cases this) h3 (Nat.zero_le _) (by simpa using hv) hr1'
  rw [iK,hs]at hadd;simp only at hadd;have hop:=pL (np:=np) (Q:=Q) (K:=wpAny P .any ops Q fuel (listed.setIfInBounds i true)) hco h hoo hadd fun s1 a1 w1 L1 Z1 k1 k2 k3=>by
   simp only [bf]at k3;injection k3 with k3;subst k3;exact ih (listed.setIfInBounds i true) s1 a1 w1 L1 Z1 (by simpa using hsz) (by have:=qX hil hpi;omega) hc' hr1 k1 (t.trans k2)
  unfold wpOp;simp only [m2];exact hop
theorem sX {np id:Nat} {π:List Nat} {ops:Array Oper} {vs:List br} {s s':St} {a:Act} {w:World} {L:Loc} {Z:Nat->Prop} (hmix:P.follows .mixedOrders=true) (hco:gX P call) (hok:qV P np ops π vs=true) (h:RS s a w L Z) (e:bf (real call loop) vs s=some s') (Q:Exit->Act->World->Prop)
  (hQ:∀a' w' L' Z',RS s' a' w' L' Z'->Tr np s.sto s'.sto w w' L L' Z Z'->Q .normal a' w'):(Code.region id ops true).wp P Q a w:=by
 obtain ⟨k1,k2⟩:=h.more (w':={ w with drawn:=w.drawn+1 }) np (fun _ _=>rfl) (Nat.le_refl _) rfl rfl rfl;refine wp_region_any hmix (Ck hco hok e Q hQ ops.size _ s a _ L Z (by simp) ?_ ?_ ?_ k1 k2)
 ·unfold oe;simp [List.countP_replicate]
 ·intro j hj;exfalso;by_cases hjs:j<ops.size<;>simp [Array.getD,hjs]at hj
 ·have:∀(vs:List br) (k:Nat),sel (fun j=>(Array.replicate ops.size false).getD (π.getD j ops.size) false) k vs=[]:=by
   intro vs;induction vs with
   | nil=>intro k;rfl
   | cons v vs ih=>
    intro k;have:(Array.replicate ops.size false).getD (π.getD k ops.size) false=false:=by
     generalize π.getD k ops.size=k;by_cases hk:k<ops.size<;>simp [Array.getD,hk]
    simp only [sel,this,Bool.false_eq_true,if_false,ih]
  rw [this];rfl
theorem Cl {np id:Nat} {ops:Array Oper} {vs:List br} {s s':St} {a:Act} {w:World} {L:Loc} {Z:Nat->Prop} (hmix:P.follows .mixedOrders=true) (hco:gX P call) (hok:GL P np ops vs=true) (h:RS s a w L Z) (e:bf (real call loop) vs s=some s') (Q:Exit->Act->World->Prop)
 (hQ:∀a' w' L' Z',RS s' a' w' L' Z'->Tr np s.sto s'.sto w w' L L' Z Z'->Q .normal a' w'):(Code.region id ops true).wp P Q a w:=sX (π:=List.range ops.size) hmix hco hok h e Q hQ
end
end
end Go.Vi
