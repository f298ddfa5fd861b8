import Derived.Test.YtfnagkpidcdocaaGreatM08
set_option linter.all false
namespace Go.Vi
open Go Go.RowKit
section
variable {P:Program} {call:cM} {loop:cN}
def v9:lZ->Bool
 | .move _ | .pick _ _ _ | .bin _ _ _ _ | .eqNil _ _ | .neg _ | .not _ | .mkfn _ _ | .fieldAddr _ _ | .field _ _ _ _ | .index _ _ | .extract _ _ | .build _ _ | .emptyRow=>true
 | _=>false
def OL:lZ->Bool
 | .move (.tmp _)=>true
 | _=>false
def Gq:lZ->Bool
 | .append _ _ _ _ | .appendO _ _ _ _ | .appendH _ _ _ _=>true
 | _=>false
def Jf:lZ->Bool
 | .appendE _ _ _ _ | .alloc _=>true
 | .call _ m raw _=>raw&&(m== .bor || m== .pure)
 | _=>false
def Mf:lZ->Bool
 | .alloc _ | .box _ | .buildRow _ _ _ _ _=>true
 | _=>false
def Gr:lZ->Bool
 | .load _ _ _=>true
 | op=>v9 op
def Gs:lZ->Bool
 | .indexAddr _ _ _ | .len _ _=>true
 | _=>false
def Dk:lZ->Bool
 | .storeP _ _ _=>true
 | _=>false
def KH:lZ->Bool
 | .storeR _ _ _=>true
 | _=>false
def KI:lZ->Bool
 | .lendF _=>true
 | _=>false
def apart:lZ->lZ->Bool
 | .load _ _ (.home a),.storeP _ (.home b) _=>a !=b
 | _,_=>false
def zm (x y:lZ):Bool:=apart x y || (Jf x&&Mf y) || (Gs x&&Dk y) || (KH x&&Dk y) || (Gr x&&KI y) || (OL x&&Gq y)
def v_ (d:Option Nat) (ts:List Nat):Bool:=match d with
 | some d=> !ts.contains d
 | none=>true
def Mg (d d':Option Nat):Bool:=match d with
 | some d=>d' !=some d
 | none=>true
theorem pL {op:lZ} (h:v9 op=true):gN op=true:=by cases op<;>first | rfl | simp[v9]at h
theorem wg {o:aJ} {e:List AV} {s s':br} {op:lZ} (h:v9 op=true):evalOp o e s op=evalOp o e s' op:=by cases op<;>first | rfl | simp[v9]at h
theorem kX {env:List AV} {d:Option Nat} {u:AV} {ts:List Nat} (h:v_ d ts=true):Like (dR env d u) env ts:=by
 cases d with
 | none=>exact λ_ _=>rfl
 | some d=>
  intro t ht;simp only[dR];have:d≠t:=λe=>by
   subst e;simp[v_]at h;exact h ht
  rw[List.getElem?_set_ne this]
theorem dN {env:List AV} {d d':Option Nat} {u u':AV} (h:Mg d d'=true):dR (dR env d u) d' u'=dR (dR env d' u') d u:=by
 cases d with
 | none=>rfl
 | some d=>
  cases d' with
  | none=>rfl
  | some d'=>
   simp only[dR];have:d≠d':=λe=>by subst e;simp[Mg]at h
   exact List.set_comm _ _ this
mutual
theorem AV.AA:∀a:AV,a.forget (λ_=>false)=a
 | .undef=>rfl
 | .bare=>rfl
 | .d _=>rfl
 | .agg cs=>by simp only[AV.forget,AV.cq cs]
 | .tup cs=>by simp only[AV.forget,AV.cq cs]
 | .nilp=>rfl
 | .emp=>rfl
 | .ptr _ _=>rfl
 | .prow _ _ _ _=>rfl
 | .sp _ _=>rfl
 | .arr _ _ _ _=>rfl
 | .fn _ cs=>by simp only[AV.forget,AV.cq cs]
theorem AV.cq:∀l:List AV,AV.aM (λ_=>false) l=l
 | []=>rfl
 | a::l=>by simp only[AV.aM,AV.AA a,AV.cq l]
end
mutual
theorem AV.xk (p q:Id->Bool):∀a:AV,(a.forget p).forget q=a.forget (λr=>p r || q r)
 | .undef=>rfl
 | .bare=>rfl
 | .d _=>rfl
 | .agg cs=>by simp only[AV.forget,AV.cY p q cs]
 | .tup cs=>by simp only[AV.forget,AV.cY p q cs]
 | .nilp=>rfl
 | .emp=>rfl
 | .ptr r _=>by simp only[AV.forget];by_cases h:p r=true<;>simp[AV.forget,h]
 | .prow r _ _ _=>by simp only[AV.forget];by_cases h:p r=true<;>simp[AV.forget,h]
 | .sp _ _=>rfl
 | .arr r _ _ _=>by simp only[AV.forget];by_cases h:p r=true<;>simp[AV.forget,h]
 | .fn _ cs=>by simp only[AV.forget,AV.cY p q cs]
theorem AV.cY (p q:Id->Bool):∀l:List AV,AV.aM q (AV.aM p l)=AV.aM (λr=>p r || q r) l
 | []=>rfl
 | a::l=>by simp only[AV.aM,AV.xk p q a,AV.cY p q l]
end
theorem lR {p:Id->Bool}:∀{l:List AV} {t:Nat},(AV.aM p l)[t]? =(l[t]?).map (·.forget p)
 | [],t=>by simp[AV.aM]
 | a::l,0=>by simp[AV.aM]
 | a::l,t+1=>by simp only[AV.aM,List.getElem?_cons_succ];exact lR
theorem t9 {p:Id->Bool}:∀{l:List AV} {t:Nat} {a:AV},AV.aM p (l.set t a)=(AV.aM p l).set t (a.forget p)
 | [],t,a=>by simp[AV.aM]
 | b::l,0,a=>by simp[AV.aM]
 | b::l,t+1,a=>by simp only[List.set_cons_succ,AV.aM];rw[t9]
theorem AB {p:Id->Bool} {e e':List AV} {ts:List Nat} (h:Like e e' ts):Like (AV.aM p e) (AV.aM p e') ts:=λt ht=>by rw[lR,lR,h t ht]
theorem AE (env:List AV) (sto:br) (r:Id):(⟨env,sto⟩:St).kill r=⟨AV.aM (· ==r) env,(sto.put r none).forget (· ==r)⟩:=rfl
theorem jR {env:List AV} {sto:br} {t:Nat} {l:List (Option Obj)} {s':St} (h:(⟨env,sto⟩:St).lay t l=some s'):∃sto',sto.lay t l=some sto'/\s'=⟨env,sto'⟩:=by
 unfold St.lay at h;split at h
 ·rename_i sto' e;injection h with h;exact ⟨sto',e,h.symm⟩
 ·cases h
theorem jS {env:List AV} {sto sto':br} {t:Nat} {l:List (Option Obj)} (h:sto.lay t l=some sto'):(⟨env,sto⟩:St).lay t l=some ⟨env,sto'⟩:=by
 unfold St.lay;rw[h]
theorem AF {o:aJ} {s s':St} {a:AV} {x:D} (e:j_ o s a=some (x,s')):∃p sto,s'=⟨AV.aM p s.env,sto⟩/\∀env,j_ o ⟨env,s.sto⟩ a=some (x,⟨AV.aM p env,sto⟩):=by
 obtain ⟨env0,cZ⟩:=s;have triv:∀{y:D},s'=⟨env0,cZ⟩->x=y->(∀env,j_ o ⟨env,cZ⟩ a=some (y,⟨env,cZ⟩))->∃p sto,s'=⟨AV.aM p env0,sto⟩/\∀env,j_ o ⟨env,cZ⟩ a=some (x,⟨AV.aM p env,sto⟩):=by
  intro y h1 h2 h3;refine ⟨λ_=>false,cZ,by rw[AV.cq];exact h1,λenv=>by rw[AV.cq,h2];exact h3 env⟩
 cases a with
 | d y=>
  simp only[j_]at e;split at e
  ·rename_i hp;injection e with e;injection e with e1 e2;exact triv e2.symm e1.symm λenv=>by simp only[j_,hp]
  ·cases e
 | emp=>
  simp only[j_]at e;injection e with e;injection e with e1 e2;exact triv e2.symm e1.symm λenv=>by simp only[j_]
 | arr r sz g u=>
  cases g with
  | some g=>simp[j_]at e
  | none=>
   simp only[j_]at e;cases hs:sz.2 with
   | zero=>simp[hs]at e
   | succ m=>
    simp only[hs]at e;cases hg:cZ.get r with
    | none=>simp[hg]at e
    | some ob=>
     simp only[hg]at e;cases ob with
     | orows z ys=>
      simp only at e;injection e with e;injection e with e1 e2;subst e1;subst e2;exact ⟨(· ==r),_,rfl,λenv=>by simp only[j_,hs,hg];rfl⟩
     | rows z ys=>
      simp only at e;cases hf:o.flat ys with
      | false=>simp[hf]at e
      | true=>
       simp only[hf]at e;injection e with e;injection e with e1 e2;subst e1;subst e2;exact ⟨(· ==r),_,rfl,λenv=>by simp only[j_,hs,hg,hf];rfl⟩
     | _=>simp at e
 | _=>simp[j_]at e
theorem Gt {o:aJ} {s s':St} {sz:gG} {a:AV} {xs:List D} (e:qA o s sz a=some (xs,s')):∃p sto,s'=⟨AV.aM p s.env,sto⟩/\∀env,qA o ⟨env,s.sto⟩ sz a=some (xs,⟨AV.aM p env,sto⟩):=by
 cases a with
 | emp=>
  simp only[qA]at e;injection e with e;injection e with e1 e2;subst e1;subst e2;exact ⟨λ_=>false,s.sto,by rw[AV.cq],λenv=>by rw[AV.cq];simp only[qA]⟩
 | arr r sz' g u=>
  simp only[qA]at e;split at e
  ·rename_i sz1 ys s2 ho;split at e
   case isFalse=>cases e
   case isTrue hs=>
    injection e with e;injection e with e1 e2;subst e1;subst e2;obtain ⟨p,sto,h1,h2⟩:=AF ho;exact ⟨p,sto,h1,λenv=>by simp only[qA,h2 env];rw[if_pos hs]⟩
  ·cases e
 | _=>simp[qA]at e
theorem AG {o:aJ} {s s':St} {dst:Option Nat} {sz:gG} {bytes:Nat} {x y:VX} {u:AV} (e:sV o s dst sz bytes x y=some (u,s')):
  ∃p sto,s'=⟨AV.aM p s.env,sto⟩/\∀env,Like s.env env (eY x++eY y)->sV o ⟨env,s.sto⟩ dst sz bytes x y=some (u,⟨AV.aM p env,sto⟩):=by
 unfold sV at e;split at e
 case h_2=>cases e
 case h_1 a b t h1 h2=>
  split at e
  case h_2=>cases e
  case h_1 xs s1 hr=>
   split at e
   case h_2=>cases e
   case h_1 sz2 y0 ys s2 ha=>
    split at e
    case isFalse=>cases e
    case isTrue hs=>
     split at e
     case h_2=>cases e
     case h_1 hf=>
      split at e
      case h_2=>cases e
      case h_1 s3 hl=>
       injection e with e;injection e with e1 e2;subst e1;subst e2;obtain ⟨p1,sto1,k1,k2⟩:=Gt hr;subst k1;obtain ⟨p2,sto2,m1,m2⟩:=AF ha;subst m1;obtain ⟨sto3,n1,n2⟩:=jR hl;subst n2;refine ⟨λr=>p1 r || p2 r,sto3,by rw[AV.cY],λenv hlk=> ?_⟩;obtain ⟨l1,l2⟩:=Like.app hlk;unfold sV;simp only[bG l1,bG l2,h1,h2,k2 env];have:=m2 (AV.aM p1 env);simp only at this;simp only[this,hs,if_true,AV.cY];subst hs;simp only[hf,jS n1]
theorem AH {o:aJ} {s s':St} {r:Id} (e:ia o r s=some s'):∃p sto,s'=⟨AV.aM p s.env,sto⟩/\∀env,ia o r ⟨env,s.sto⟩=some ⟨AV.aM p env,sto⟩:=by
 unfold ia at e;split at e
 case h_2 hn=>
  injection e with e;subst e;refine ⟨λ_=>false,s.sto,by rw[AV.cq],λenv=> ?_⟩;rw[AV.cq];unfold ia;split
  ·rename_i h;exact (hn _ _ _ _ _ _ h).elim
  ·rfl
 case h_1 sz xs i off q esz hr=>
  split at e
  ·rename_i esz' ys cs hq hx;split at e
   case isFalse=>cases e
   case isTrue hs=>
    split at e
    case h_2=>cases e
    case h_1 cs' hl=>
     injection e with e;subst e;exact ⟨(· ==q),_,rfl,λenv=>by unfold ia;simp only[hr,hq,hx,hs,if_true,hl];subst hs;simp only[hl];rfl⟩
  ·rename_i esz' ys cs hq hx;split at e
   case h_2=>cases e
   case h_1 hf=>
    split at e
    case isFalse=>cases e
    case isTrue hs=>
     split at e
     case h_2=>cases e
     case h_1 cs' hl=>
      injection e with e;subst e;exact ⟨(· ==q),_,rfl,λenv=>by unfold ia;simp only[hr,hq,hx,hf,hs,if_true];subst hs;simp only[hl];rfl⟩
  ·cases e
theorem Gu {o:aJ} {s s':St} {dst:Option Nat} {op:lZ} {u:AV} (hc:Gq op=true) (e:aI o s dst op=some (u,s')):
  ∃p sto,s'=⟨AV.aM p s.env,sto⟩/\∀env,Like s.env env (zQ op)->aI o ⟨env,s.sto⟩ dst op=some (u,⟨AV.aM p env,sto⟩):=by
 cases op<;>first | (simp[Gq]at hc;done) | skip
 case appendO sz bytes x y=>
  simp only[aI]at e |-;exact AG e
 case appendH sz bytes x y=>
  simp only[aI]at e;split at e
  case h_2=>cases e
  case h_1 r z u0 hy=>
   split at e
   case h_2=>cases e
   case h_1 s1 h1=>
    obtain ⟨p1,sto1,k1,k2⟩:=AH h1;subst k1;obtain ⟨p2,sto2,m1,m2⟩:=AG e;subst m1;refine ⟨λr=>p1 r || p2 r,sto2,by rw[AV.cY],λenv hlk=> ?_⟩;obtain ⟨l1,l2⟩:=Like.app (show Like s.env env (eY x++eY y)from hlk);simp only[aI,bG l2,hy,k2 env];have:=m2 (AV.aM p1 env) (AB hlk);simp only at this;rw[this,AV.cY]
 case append sz bytes x y=>
  simp only[aI]at e;split at e
  case h_2=>cases e
  case h_1 a b t h1 h2=>
   split at e
   ·cases e
   rename_i ys hys;split at e
   ·split at e
    case h_2=>cases e
    case h_1 hf=>
     split at e
     case h_2=>cases e
     case h_1 s2 hl=>
      injection e with e;injection e with e1 e2;subst e1;subst e2;obtain ⟨sto2,n1,n2⟩:=jR hl;subst n2;refine ⟨λ_=>false,sto2,by rw[AV.cq],λenv hlk=> ?_⟩;obtain ⟨l1,l2⟩:=Like.app (show Like s.env env (eY x++eY y)from hlk);simp only[aI,bG l1,bG l2,h1,h2,hys,hf,jS n1,AV.cq]
   ·rename_i r sz' g u';split at e
    case h_2=>cases e
    case h_1 xs hxs=>
     split at e
     case isFalse=>cases e
     case isTrue hc2=>
      split at e
      case h_2=>cases e
      case h_1 hf=>
       split at e
       case h_2=>cases e
       case h_1 s2 hl=>
        injection e with e;injection e with e1 e2;subst e1;subst e2;obtain ⟨env0,cZ⟩:=s;rw[AE]at hl;obtain ⟨sto2,n1,n2⟩:=jR hl;subst n2;refine ⟨(· ==r),sto2,rfl,λenv hlk=> ?_⟩;obtain ⟨l1,l2⟩:=Like.app (show Like env0 env (eY x++eY y)from hlk);simp only at h1 h2 hys hxs;simp only[aI,bG l1,bG l2,h1,h2,hys,hxs,hc2,if_true,hf];rw[AE];simp only[jS n1]
   ·cases e
theorem Gv (s:br) (p:Id) (o:Option Obj) (i:Nat):(s.put p o)[i]? =if i=p.1 then (s[i]?).map (·.set p.2 o)else s[i]? :=by
 unfold br.put;split
 ·rename_i l hl;rw[List.getElem?_set];by_cases e:p.1=i
  ·subst e;obtain ⟨h1,h2⟩:=aq.1 hl;simp[h1,h2]
  ·rw[if_neg e,if_neg (λx=>e x.symm)]
 ·rename_i hl;by_cases e:i=p.1
  ·subst e;rw[if_pos rfl,hl];rfl
  ·rw[if_neg e]
theorem put_comm {s:br} {q r:Id} {o1 o2:Option Obj} (h:r≠q):(s.put q o1).put r o2=(s.put r o2).put q o1:=by
 apply List.ext_getElem?;intro i;simp only[Gv];by_cases e1:i=q.1
 ·by_cases e2:i=r.1
  ·simp only[if_pos e1,if_pos e2];cases s[i]? with
   | none=>rfl
   | some l=>
    have hne:r.2≠q.2:=λx=>h (Prod.ext (e2.symm.trans e1) x)
    simp only[Option.map_some];congr 1;exact (List.set_comm _ _ hne).symm
  ·simp only[if_pos e1,if_neg e2]
 ·simp only[if_neg e1]
theorem oW {o:aJ} {s s':St} {dst:Option Nat} {n:Nat} {a x:VX} {u:AV} (e:aI o s dst (.storeP n a x)=some (u,s')):
  ∃r cs cs',(∃off,ev s.env a=some (.ptr r off))/\s.sto.get r=some (.box cs)/\u= .bare/\s'=⟨s.env,s.sto.put r (some (.box cs'))⟩/\∀env sto,Like s.env env (eY a++eY x)->sto.get r=some (.box cs)->aI o ⟨env,sto⟩ dst (.storeP n a x)=some (.bare,⟨env,sto.put r (some (.box cs'))⟩):=by
 simp only[aI]at e;split at e
 case h_2=>cases e
 case h_1 r off v h1 h2=>
  split at e
  case h_2=>cases e
  case h_1 s2 hs=>
   injection e with e;injection e with e1 e2;subst e1;subst e2;unfold storeAt at hs;simp only at hs;split at hs
   case isTrue=>cases hs
   case isFalse hc=>
    split at hs
    case h_2=>cases hs
    case h_1 cs hg=>
     split at hs
     case h_2=>cases hs
     case h_1 cs' hl=>
      injection hs with hs;subst hs;refine ⟨r,cs,cs',⟨off,h1⟩,hg,rfl,rfl,λenv sto hlk hg'=> ?_⟩;obtain ⟨l1,l2⟩:=Like.app hlk;simp only[aI,bG l1,bG l2,h1,h2,storeAt];rw[if_neg hc];simp only[hg',hl]
theorem t_ {o:aJ} {s s':St} {dst:Option Nat} {n:Nat} {a x:VX} {u:AV} (e:aI o s dst (.storeR n a x)=some (u,s')):
  ∃r sz xs xs',s.sto.get r=some (.rows sz xs)/\u= .bare/\s'=⟨s.env,s.sto.put r (some (.rows sz xs'))⟩/\∀env sto,Like s.env env (eY a++eY x)->sto.get r=some (.rows sz xs)->aI o ⟨env,sto⟩ dst (.storeR n a x)=some (.bare,⟨env,sto.put r (some (.rows sz xs'))⟩):=by
 simp only[aI]at e;split at e
 case h_2=>cases e
 case h_1 r sz i off v h1 h2=>
  split at e
  case h_2=>cases e
  case h_1 ds hds=>
   split at e
   case isTrue=>cases e
   case isFalse hn=>
    split at e
    case h_2=>cases e
    case h_1 sz' xs hg=>
     split at e
     case isFalse=>cases e
     case isTrue hs=>
      split at e
      case h_2=>cases e
      case h_1 el hel=>
       split at e
       case isFalse=>cases e
       case isTrue hc=>
        split at e
        case h_2=>cases e
        case h_1 cs hl=>
         split at e
         case h_2=>cases e
         case h_1 e' he'=>
          injection e with e;injection e with e1 e2;subst e1;subst e2;subst hs;refine ⟨r,sz,xs,_,hg,rfl,rfl,λenv sto hlk hg'=> ?_⟩;obtain ⟨l1,l2⟩:=Like.app hlk;simp only[aI,bG l1,bG l2,h1,h2,hds,hg',hel,hl,he',hc,if_true];rw[if_neg hn]
theorem rW {o:aJ} {s:br} {r:Id} {cs cs':List AV} {q:Id} {sz:gG} {g:Option (Int×Int)} {u:Bool} (h:s.get r=some (.box cs)):eV o (s.put r (some (.box cs'))) (.arr q sz g u)=eV o s (.arr q sz g u):=by
 by_cases e:q=r
 ·subst e;simp only[eV,content,cO _ h,h]
 ·simp only[eV,content,bT _ e]
theorem Jg {o:aJ} {env:List AV} {s:br} {op:lZ} {r:Id} {cs cs':List AV} (hi:Gs op=true) (h:s.get r=some (.box cs)):evalOp o env (s.put r (some (.box cs'))) op=evalOp o env s op:=by
 cases op<;>first | (simp[Gs]at hi;done) | skip
 case indexAddr sz x i=>
  simp only[evalOp];cases ev env x with
  | none=>rfl
  | some a=>cases a<;>first | rfl | (simp only[rW h])
 case len Bh x=>
  simp only[evalOp];cases ev env x with
  | none=>rfl
  | some a=>cases a<;>first | rfl | (simp only[rW h])
theorem s8 {op:lZ} (h:Gs op=true):gN op=true:=by cases op<;>first | rfl | simp[Gs]at h
theorem nF {o:aJ} {s s':St} {dst:Option Nat} {op:lZ} {u:AV} (hq:gN op=true) (e:aI o s dst op=some (u,s')):s'=s/\evalOp o s.env s.sto op=some (u,[]):=by
 rw[iz hq]at e;split at e
 ·rename_i v hv;injection e with e;injection e with e1 e2;subst e1;subst e2;exact ⟨rfl,hv⟩
 ·rename_i v x new hv;have:=s6 hq hv;cases this
 ·cases e
theorem lS {o:aJ} {s:St} {dst:Option Nat} {op:lZ} {u:AV} (hq:gN op=true) (e:evalOp o s.env s.sto op=some (u,[])):aI o s dst op=some (u,s):=by
 rw[iz hq,e]
theorem BZ {o:aJ} {s s':St} {dst:Option Nat} {x:VX} {u:AV} (e:aI o s dst (.lendF x)=some (u,s')):
  ∃sto2,s'=⟨s.env,sto2⟩/\(∀env,Like s.env env (eY x)->aI o ⟨env,s.sto⟩ dst (.lendF x)=some (u,⟨env,sto2⟩))/\∀agg n a v,loadAt o s.sto agg n a=some v->loadAt o sto2 agg n a=some v:=by
 simp only[aI]at e;split at e
 case h_2=>cases e
 case h_1 r sz i off h1=>
  split at e
  case h_2=>cases e
  case h_1 sz' xs hg=>
   split at e
   case h_2=>cases e
   case h_1 cs hcs=>
    split at e
    case h_2=>cases e
    case h_1 esz ys hcut=>
     cases hm:esz.2 with
     | zero=>simp[hm]at e
     | succ m=>
     cases dst with
     | none=>simp[hm]at e
     | some t=>
     cases hf:o.flat ys with
     | false=>simp[hm,hf]at e
     | true=>
      simp only[hm,hf]at e;split at e
      case isFalse=>cases e
      case isTrue hc=>
       split at e
       case h_2=>cases e
       case h_1 s2 hl=>
        injection e with e;injection e with e1 e2;subst e1;subst e2;obtain ⟨sto2,n1,n2⟩:=jR hl;subst n2;refine ⟨sto2,rfl,λenv hlk=> ?_,λagg n a v hv=> ?_⟩
        ·simp only[aI,bG hlk,h1,hg,hcs,hcut,hm,hf,hc.1,hc.2,and_self,if_true];rw[hc.1]at n1;simp only[jS n1]
        ·have hget:∀q ob,s.sto.get q=some ob->q≠r->sto2.get q=some ob:=λq ob hq hne=>by
          have h3:(s.sto.put r (some (.hrows sz xs i off (t,0) esz))).get q=some ob:=by rw[bT _ hne];exact hq
          rw[dH n1];split
          ·rename_i he;have:=gq n1 q he;rw[h3]at this;cases this
          ·exact h3
         have hgr:sto2.get r=some (.hrows sz xs i off (t,0) esz):=by
          have h3:(s.sto.put r (some (.hrows sz xs i off (t,0) esz))).get r=some (.hrows sz xs i off (t,0) esz):=cO _ hg;rw[dH n1];split
          ·rename_i he;have:=gq n1 r he;rw[h3]at this;cases this
          ·exact h3
         cases a with
         | ptr q k=>
          simp only[loadAt]at hv |-;split at hv
          ·rename_i cs' hq;rw[hget q _ hq (λe=>by rw[e,hg]at hq;cases hq)];exact hv
          ·cases hv
         | prow q sz2 j k=>
          simp only[loadAt,br.rd]at hv |-;by_cases e:q=r
          ·subst e;rw[hg]at hv;rw[hgr];simp only[Obj.rd]at hv |-;rw[<-hc.1]at hv;exact hv
          ·cases hq:s.sto.get q with
           | none=>rw[hq]at hv;simp at hv
           | some ob=>rw[hget q ob hq e];rw[hq]at hv;exact hv
         | sp cs' k=>exact hv
         | _=>simp[loadAt]at hv
theorem mg {e e':List AV}:∀{xs:List (Nat×VX)},Like e e' (xs.flatMap λp=>eY p.2)->dW e' xs=dW e xs
 | [],_=>rfl
 | (i,x)::xs,h=>by
  rw[List.flatMap_cons]at h;obtain ⟨h1,h2⟩:=h.app;simp only[dW,bG (show Like e e' (eY x)from h1),mg h2]
theorem rX {s s':br} {t:Nat} {l:List (Option Obj)} (h:s.lay t l=some s'):oU s s':=λr ob hr=>by
 rw[dH h];split
 ·rename_i he;have:=gq h r he;rw[hr]at this;cases this
 ·exact hr
theorem s9 {o:aJ} {s s':St} {dst:Option Nat} {op:lZ} {u:AV} (hd:Mf op=true) (e:aI o s dst op=some (u,s')):
  (s'=s/\∀env sto,Like s.env env (zQ op)->aI o ⟨env,sto⟩ dst op=some (u,⟨env,sto⟩))\/
  ∃t l sto2,dst=some t/\s.sto.lay t l=some sto2/\s'=⟨s.env,sto2⟩/\∀env sto sto',Like s.env env (zQ op)->sto.lay t l=some sto'->aI o ⟨env,sto⟩ dst op=some (u,⟨env,sto'⟩):=by
 obtain ⟨env0,cZ⟩:=s;cases op<;>first | (simp[Mf]at hd;done) | skip
 case alloc cs=>
  cases dst with
  | none=>simp[aI,evalOp]at e
  | some t=>
   simp only[aI,evalOp]at e;split at e
   case h_2=>cases e
   case h_1 s2 hl=>
    injection e with e;injection e with e1 e2;subst e1;subst e2;obtain ⟨sto2,n1,n2⟩:=jR hl;subst n2;exact .inr ⟨t,_,sto2,rfl,n1,rfl,λenv sto sto' _ h=>by simp only[aI,evalOp,jS h]⟩
 case box x=>
  cases dst with
  | none=>
   exfalso;simp only[aI,evalOp]at e;cases hx:ev env0 x with
   | none=>simp[hx]at e
   | some a=>simp only[hx]at e;cases a<;>simp at e
  | some t=>
   obtain ⟨a,ha,hk⟩:∃a,ev env0 x=some a/\∀env sto,ev env x=some a->aI o ⟨env,sto⟩ (some t) (.box x)=(match (⟨env,sto⟩:St).lay t [some (.box a.cells)]with | some s=>some (.ptr (t,0) 0,s) | none=>none):=by
    simp only[aI,evalOp]at e;cases hx:ev env0 x with
    | none=>simp[hx]at e
    | some a=>
     refine ⟨a,rfl,λenv sto h=> ?_⟩;simp only[hx]at e;simp only[aI,evalOp,h];cases a<;>first | rfl | (simp at e;done)
   have e0:=hk env0 cZ ha;rw[e0]at e;split at e
   case h_2=>cases e
   case h_1 s2 hl=>
    injection e with e;injection e with e1 e2;subst e1;subst e2;obtain ⟨sto2,n1,n2⟩:=jR hl;subst n2;exact .inr ⟨t,_,sto2,rfl,n1,rfl,λenv sto sto' hlk h=>by rw[hk env sto (by rw[bG hlk];exact ha)];simp only[jS h]⟩
 case buildRow sz agg zero len ps=>
  simp only[aI]at e;split at e
  case h_2=>cases e
  case h_1 qs t h1=>
   split at e
   case isFalse=>cases e
   case isTrue hz=>
    split at e
    case h_2=>cases e
    case h_1 ds hds=>
     split at e
     case h_2=>cases e
     case h_1 z hzz=>
      split at e
      case h_2=>cases e
      case h_1 xs hxs=>
       split at e
       case h_3=>cases e
       case h_1 hfl=>
        injection e with e;injection e with e1 e2;subst e1;subst e2;exact .inl ⟨rfl,λenv sto hlk=>by simp only[aI,mg hlk,h1,hz,if_true,hds,hzz,hxs,hfl]⟩
       case h_2 y ys hfl=>
        split at e
        case h_2=>cases e
        case h_1 s2 hl=>
         injection e with e;injection e with e1 e2;subst e1;subst e2;obtain ⟨sto2,n1,n2⟩:=jR hl;subst n2;exact .inr ⟨t,_,sto2,rfl,n1,rfl,λenv sto sto' hlk h=>by simp only[aI,mg hlk,h1,hz,if_true,hds,hzz,hxs,hfl,jS h]⟩
theorem rY {o:aJ} {s s':St} {dst:Option Nat} {sz:gG} {bytes:Nat} {x y:VX} {u:AV} (e:aI o s dst (.appendE sz bytes x y)=some (u,s')):
  ∃t l sto2,dst=some t/\s.sto.lay t l=some sto2/\s'=⟨s.env,sto2⟩/\∀env sto sto',Like s.env env (eY x++eY y)->oU s.sto sto->sto.lay t l=some sto'->aI o ⟨env,sto⟩ dst (.appendE sz bytes x y)=some (u,⟨env,sto'⟩):=by
 obtain ⟨env0,cZ⟩:=s;simp only[aI]at e;split at e
 case h_2=>cases e
 case h_1 b t h1 h2=>
  split at e
  ·cases e
  rename_i ys hys;split at e
  case h_2=>cases e
  case h_1 hf=>
   split at e
   case h_2=>cases e
   case h_1 s2 hl=>
    injection e with e;injection e with e1 e2;subst e1;subst e2;obtain ⟨sto2,n1,n2⟩:=jR hl;subst n2;refine ⟨t,_,sto2,rfl,n1,rfl,λenv sto sto' hlk hle h=> ?_⟩;obtain ⟨l1,l2⟩:=Like.app (show Like env0 env (eY x++eY y)from hlk);simp only[aI,bG l1,bG l2,h1,h2,kW hle hys,hf,jS h]
theorem B6 {s s':St} {dst:Option Nat} {f:FuncId} {m:kP} {args:List VX} {u:AV} (hm:(m== .bor || m== .pure)=true) (e:aI (real call loop) s dst (.call f m true args)=some (u,s')):
  (s'=s/\∀env sto,Like s.env env (args.flatMap eY)->oU s.sto sto->aI (real call loop) ⟨env,sto⟩ dst (.call f m true args)=some (u,⟨env,sto⟩))\/
  ∃t l sto2,dst=some t/\s.sto.lay t l=some sto2/\s'=⟨s.env,sto2⟩/\∀env sto sto',Like s.env env (args.flatMap eY)->oU s.sto sto->sto.lay t l=some sto'->aI (real call loop) ⟨env,sto⟩ dst (.call f m true args)=some (u,⟨env,sto'⟩):=by
 obtain ⟨env0,cZ⟩:=s;simp only[aI]at e |-;split at e
 case h_2=>cases e
 case h_1 as hx=>
  have hev:∀env,Like env0 env (args.flatMap eY)->wT env args=some as:=λenv hlk=>by rw[<-hx];exact kV hlk
  cases m with
  | frz=>simp at hm
  | ref=>simp at hm
  | bor=>
   simp only[cX]at e;split at e
   ·cases e
   rename_i as' h1;split at e
   ·cases e
   rename_i h2;split at e
   ·cases e
   rename_i c h3;split at e
   case h_1 h4=>
    injection e with e;injection e with e1 e2;subst e1;subst e2;exact .inl ⟨rfl,λenv sto hlk hle=>by simp only[hev env hlk,cX,jE hle _ h1,h2,h3,h4]⟩
   case h_2 h4=>
    split at e
    case h_2=>cases e
    case h_1 t hr1 hp hc1 hc2=>
     split at e
     case h_2=>cases e
     case h_1 s2 hl=>
      injection e with e;injection e with e1 e2;subst e1;subst e2;obtain ⟨sto2,n1,n2⟩:=jR hl;subst n2;exact .inr ⟨t,_,sto2,rfl,n1,rfl,λenv sto sto' hlk hle h=>by simp only[hev env hlk,cX,jE hle _ h1,h2,h3,h4,hp,hc1,hc2,jS h]⟩
  | pure=>
   simp only[cX]at e;split at e
   ·cases e
   rename_i hp;have hr:AV.bE as=[]:=by simpa using hp
   simp only[handed]at e;split at e
   ·cases e
   rename_i as' s2 hsn;split at hsn
   case h_2=>cases hsn
   case h_1 as'' hsn'=>
    injection hsn with hsn;injection hsn with q1 q2;subst q1;subst q2;have hr':=jq as _ hr hsn';simp only[hr',iG,List.map_nil]at e;split at e
    ·cases e
    rename_i c hc;split at e
    ·cases e
    rename_i sto hwb;have hpars:c.pars=[]/\sto=cZ:=by
     cases hcp:c.pars with
     | nil=>rw[hcp]at hwb;simp only[fQ]at hwb;injection hwb with hwb;exact ⟨rfl,hwb.symm⟩
     | cons x xs=>rw[hcp]at hwb;simp[fQ]at hwb
    obtain ⟨hpars,rfl⟩:=hpars;simp only[hpars,St.buried,fX]at e;split at e
    ·rename_i hX;injection e with e;injection e with e1 e2;subst e1;subst e2;exact .inl ⟨rfl,λenv sto hlk hle=>by simp only[hev env hlk,cX,hp,handed,jE hle _ hsn',hr',iG,List.map_nil,hc,hpars,fQ,St.buried,fX,hX]⟩
    ·rename_i e0 ex hX;split at e
     ·rename_i _ t _;split at e
      case h_2=>cases e
      case h_1 s3 hl=>
       injection e with e;injection e with e1 e2;subst e1;subst e2;obtain ⟨sto2,n1,n2⟩:=jR hl;subst n2;exact .inr ⟨t,_,sto2,rfl,n1,rfl,λenv sto sto' hlk hle h=>by simp only[hev env hlk,cX,hp,handed,jE hle _ hsn',hr',iG,List.map_nil,hc,hpars,fQ,St.buried,fX,hX,jS h]⟩
     ·cases e
theorem D8 {s s':St} {dst:Option Nat} {op:lZ} {u:AV} (hd:Jf op=true) (e:aI (real call loop) s dst op=some (u,s')):
  (s'=s/\∀env sto,Like s.env env (zQ op)->oU s.sto sto->aI (real call loop) ⟨env,sto⟩ dst op=some (u,⟨env,sto⟩))\/
  ∃t l sto2,dst=some t/\s.sto.lay t l=some sto2/\s'=⟨s.env,sto2⟩/\∀env sto sto',Like s.env env (zQ op)->oU s.sto sto->sto.lay t l=some sto'->aI (real call loop) ⟨env,sto⟩ dst op=some (u,⟨env,sto'⟩):=by
 cases op<;>first | (simp[Jf]at hd;done) | skip
 case alloc cs=>
  rcases s9 rfl e with ⟨h,h1⟩ | ⟨t,l,sto2,h1,h2,h3,h4⟩
  ·exact .inl ⟨h,λenv sto hl _=>h1 env sto hl⟩
  ·exact .inr ⟨t,l,sto2,h1,h2,h3,λenv sto sto' hl _=>h4 env sto sto' hl⟩
 case appendE sz bytes x y=>exact .inr (rY e)
 case call f m raw args=>
  simp only[Jf,af]at hd;obtain ⟨rfl,hm⟩:=hd;exact B6 hm e
theorem Jh {s s1 s2:br} {t t':Nat} {l l':List (Option Obj)} (ht:t≠t') (h1:s.lay t l=some s1) (h2:s1.lay t' l'=some s2):∃s3,s.lay t' l'=some s3/\s3.lay t l=some s2:=by
 unfold br.lay at h1 h2 |-;split at h1
 case h_2=>cases h1
 case h_1 old ho=>
  split at h1
  case isFalse=>cases h1
  case isTrue hn=>
   injection h1 with h1;subst h1;rw[List.getElem?_set_ne ht]at h2;split at h2
   case h_2=>cases h2
   case h_1 old' ho'=>
    split at h2
    case isFalse=>cases h2
    case isTrue hn'=>
     injection h2 with h2;subst h2;refine ⟨s.set t' l',by rw[ho'];simp only[hn',if_true],?_⟩;rw[List.getElem?_set_ne (Ne.symm ht),ho];simp only[hn,if_true];rw[List.set_comm _ _ ht]
theorem Gw {x y:a_} {s s1 s2:St} {u v:AV} (hk:zm x.op y.op=true) (h3:v_ x.dst (zQ y.op)=true) (h4:v_ y.dst (zQ x.op)=true)
  (h5:Mg x.dst y.dst=true) (e1:aI (real call loop) s x.dst x.op=some (u,s1)) (e2:aI (real call loop) ⟨dR s1.env x.dst u,s1.sto⟩ y.dst y.op=some (v,s2)):
  ∃s3 u' s4,aI (real call loop) s y.dst y.op=some (v,s3)/\aI (real call loop) ⟨dR s3.env y.dst v,s3.sto⟩ x.dst x.op=some (u',s4)/\dR s4.env x.dst u'=dR s2.env y.dst v/\s4.sto=s2.sto:=by
 obtain ⟨xd,xg,xo⟩:=x;obtain ⟨yd,yg,yo⟩:=y;simp only at hk h3 h4 h5 e1 e2 |-;obtain ⟨env0,cZ⟩:=s;have hy1:∀w,Like (dR env0 xd w) env0 (zQ yo):=λw=>kX h3
 have hx1:∀(env:List AV) w,Like env (dR env yd w) (zQ xo):=λenv w=>λt ht=>(kX (env:=env) (u:=w) h4 t ht).symm
 simp only[zm,Bool.or_eq_true,af]at hk;rcases hk with ((((k0 | ⟨k1,k2⟩) | ⟨k1,k2⟩) | ⟨k1,k2⟩) | ⟨k1,k2⟩) | ⟨k1,k2⟩
 ·unfold apart at k0;split at k0
  case h_2=>cases k0
  case h_1 agg n a n' b x=>
   obtain ⟨r1,r2⟩:=nF (by rfl) e1;subst r1;obtain ⟨r,cs,cs',⟨off,g0⟩,g1,g2,g3,g4⟩:=oW e2;subst g2;subst g3;have hr:r=(b,0):=by
    simp only[ev]at g0;split at g0
    ·split at g0
     ·rename_i hh;injection g0 with g0;injection g0 with g0;rw[<-g0];exact hh
     ·cases g0
    ·cases g0
   refine ⟨⟨env0,cZ.put r (some (.box cs'))⟩,u,⟨dR env0 yd .bare,cZ.put r (some (.box cs'))⟩,g4 env0 cZ (hy1 u) g1,lS (by rfl) ?_,(dN h5).symm,rfl⟩;have r3:evalOp (real call loop) (dR env0 yd .bare) cZ (.load agg n (.home a))=some (u,[]):=by
    rw[jD (by rfl) (hx1 env0 .bare)];exact r2
   simp only[evalOp]at r3 |-;cases hp:ev (dR env0 yd .bare) (.home a)with
   | none=>rw[hp]at r3;cases r3
   | some pv=>
    rw[hp]at r3;simp only at r3 |-;obtain ⟨o2,rfl⟩:∃o2,pv= .ptr (a,0) o2:=by
     simp only[ev]at hp;split at hp
     ·rename_i r5 o5 _;split at hp
      ·rename_i hh;injection hp with hp;exact ⟨o5,by rw[<-hp,hh]⟩
      ·cases hp
     ·cases hp
    have hne:((a,0):Id)≠r:=by
     rw[hr];intro hh;injection hh with hh;simp[hh]at k0
    have hL:loadAt (real call loop) (cZ.put r (some (.box cs'))) agg n (.ptr (a,0) o2)=loadAt (real call loop) cZ agg n (.ptr (a,0) o2):=by
     simp only[loadAt,bT _ hne]
    rw[hL];exact r3
 ·rcases D8 k1 e1 with ⟨rfl,n2⟩ | ⟨t,l,sto2,hd,n1,rfl,n2⟩
  ·rcases s9 k2 e2 with ⟨m1,m2⟩ | ⟨t',l',sto3,hd',m1,m2,m3⟩
   ·subst m1;exact ⟨⟨env0,cZ⟩,u,⟨dR env0 yd v,cZ⟩,m2 env0 cZ (hy1 u),n2 _ _ (hx1 env0 v) (oU.refl _),(dN h5).symm,rfl⟩
   ·subst hd';subst m2;exact ⟨⟨env0,sto3⟩,u,⟨dR env0 (some t') v,sto3⟩,m3 env0 cZ sto3 (hy1 u) m1,n2 _ _ (hx1 env0 v) (rX m1),(dN h5).symm,rfl⟩
  subst hd;rcases s9 k2 e2 with ⟨m1,m2⟩ | ⟨t',l',sto3,hd',m1,m2,m3⟩
  ·subst m1;refine ⟨⟨env0,cZ⟩,u,⟨dR env0 yd v,sto2⟩,m2 env0 cZ (hy1 u),n2 _ _ _ (hx1 env0 v) (oU.refl _) n1,(dN h5).symm,rfl⟩
  ·subst hd';subst m2;have htt:t≠t':=λe=>by subst e;simp[Mg]at h5
   obtain ⟨sto4,q1,q2⟩:=Jh htt n1 m1;refine ⟨⟨env0,sto4⟩,u,⟨dR env0 (some t') v,sto3⟩,m3 env0 cZ sto4 (hy1 u) q1,n2 _ _ _ (hx1 env0 v) (rX q1) q2,(dN h5).symm,rfl⟩
 ·obtain ⟨r1,r2⟩:=nF (s8 k1) e1;subst r1;cases yo<;>first | (simp[Dk]at k2;done) | skip
  rename_i n a x;obtain ⟨r,cs,cs',_,g1,g2,g3,g4⟩:=oW e2;subst g2;subst g3;refine ⟨⟨env0,cZ.put r (some (.box cs'))⟩,u,⟨dR env0 yd .bare,cZ.put r (some (.box cs'))⟩,g4 env0 cZ (hy1 u) g1,lS (s8 k1) ?_,(dN h5).symm,rfl⟩;rw[Jg k1 g1,jD (s8 k1) (hx1 env0 .bare)];exact r2
 ·cases xo<;>first | (simp[KH]at k1;done) | skip
  cases yo<;>first | (simp[Dk]at k2;done) | skip
  rename_i n a x n' a' x';obtain ⟨q,sz,xs,xs',f1,f2,f3,f4⟩:=t_ e1;subst f2;subst f3;obtain ⟨r,cs,cs',_,g1,g2,g3,g4⟩:=oW e2;subst g2;subst g3;have hne:r≠q:=λe=>by subst e;rw[cO _ f1]at g1;cases g1
  have g1':cZ.get r=some (.box cs):=by rw[<-g1];exact (bT _ hne).symm
  refine ⟨⟨env0,cZ.put r (some (.box cs'))⟩,.bare,⟨dR env0 yd .bare,(cZ.put r (some (.box cs'))).put q (some (.rows sz xs'))⟩,g4 env0 cZ (hy1 .bare) g1',f4 _ _ (hx1 env0 .bare) (by rw[bT _ (Ne.symm hne)];exact f1),(dN h5).symm,put_comm (Ne.symm hne)⟩
 ·cases yo<;>first | (simp[KI]at k2;done) | skip
  rename_i a;have hq:gN xo=true:=by
   cases xo<;>first | rfl | (simp[Gr,v9]at k1;done)
  obtain ⟨r1,r2⟩:=nF hq e1;subst r1;obtain ⟨sto2,g1,g2,g3⟩:=BZ e2;subst g1;refine ⟨⟨env0,sto2⟩,u,⟨dR env0 yd v,sto2⟩,g2 env0 (hy1 u),lS hq ?_,(dN h5).symm,rfl⟩;rw[jD hq (hx1 env0 v)];by_cases hdr:v9 xo=true
  ·rw[wg (s':=cZ) hdr];exact r2
  ·cases xo<;>first | (exact (hdr rfl).elim) | (simp[Gr,v9]at k1;done) | skip
   rename_i agg n p;simp only[evalOp]at r2 |-;cases hp:ev env0 p with
   | none=>simp[hp]at r2
   | some pv=>
    simp only[hp]at r2 |-;cases hl:loadAt (real call loop) cZ agg n pv with
    | none=>simp[hl]at r2
    | some w=>simp only[hl]at r2;simp only[g3 _ _ _ _ hl];exact r2
 ·cases xo<;>first | (simp[OL]at k1;done) | skip
  rename_i a;cases a with
  | const _=>simp[OL]at k1
  | home _=>simp[OL]at k1
  | tmp t=>
   obtain ⟨r1,r2⟩:=nF (by rfl) e1;subst r1;obtain ⟨p,sto2,g1,g2⟩:=Gu k2 e2;subst g1;have hu:env0[t]? =some u:=by
    simp only[evalOp,ev]at r2;split at r2
    ·rename_i w hw;injection r2 with r2;injection r2 with r2 _;subst r2;exact hw
    ·cases r2
   have ht:(dR (AV.aM p env0) yd v)[t]? =some (u.forget p):=by
    have:=(hx1 (AV.aM p env0) v) t (by simp[zQ,eY]);rw[this,lR,hu];rfl
   refine ⟨⟨AV.aM p env0,sto2⟩,u.forget p,⟨dR (AV.aM p env0) yd v,sto2⟩,g2 env0 (hy1 u),lS (by rfl) (by simp only[evalOp,ev,ht]),?_,rfl⟩;rw[<-dN h5];congr 1;cases xd with
   | none=>rfl
   | some d=>simp only[dR];rw[t9]
theorem AJ {x y:a_} {s s1 r:St} (hg:(x.guard.isNone&&y.guard.isNone)=true) (hk:zm x.op y.op=true) (h3:v_ x.dst (zQ y.op)=true) (h4:v_ y.dst (zQ x.op)=true)
  (h5:Mg x.dst y.dst=true) (e1:dM (real call loop) x s=some s1) (e:dM (real call loop) y s1=some r):∃s2,dM (real call loop) y s=some s2/\dM (real call loop) x s2=some r:=by
 simp only[af,Option.isNone_iff_eq_none]at hg;have st:∀{v:a_} {s:St},v.guard=none->dM (real call loop) v s=match aI (real call loop) s v.dst v.op with | some (u,s)=>some ⟨dR s.env v.dst u,s.sto⟩ | none=>none:=λh=>by unfold dM;rw[h];rfl
 rw[st hg.1]at e1;rw[st hg.2]at e;split at e1
 case h_2=>cases e1
 case h_1 u t1 d1=>
  injection e1 with e1;subst e1;split at e
  case h_2=>cases e
  case h_1 v t2 d2=>
   injection e with e;subst e;obtain ⟨s3,u',s4,q1,q2,q3,q4⟩:=Gw hk h3 h4 h5 d1 d2;refine ⟨⟨dR s3.env y.dst v,s3.sto⟩,by rw[st hg.2,q1],by rw[st hg.1,q2];simp only;rw[q3,q4]⟩
end
end Go.Vi
