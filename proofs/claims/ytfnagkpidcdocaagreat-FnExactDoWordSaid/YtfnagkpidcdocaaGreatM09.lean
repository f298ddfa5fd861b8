import Derived.Test.YtfnagkpidcdocaaGreatM08
set_option linter.all false
namespace Go.Vi
open Go Go.RowKit
section
variable {P:Program} {call:dh} {loop:di}
def yE:mg->Bool
 | .move _ | .pick _ _ _ | .bin _ _ _ _ | .eqNil _ _ | .neg _ | .not _ | .mkfn _ _ | .fieldAddr _ _ | .field _ _ _ _ | .index _ _ | .extract _ _ | .build _ _ | .emptyRow | .buildZ _ _ _ _ _=>true
 | _=>false
def Sk:mg->Bool
 | .move (.tmp _)=>true
 | _=>false
def J1:mg->Bool
 | .append _ _ _ _ | .appendO _ _ _ _ | .appendH _ _ _ _ | .buildO _ _=>true
 | _=>false
def Mr:mg->Bool
 | .appendE _ _ _ _ | .alloc _ | .buildRow _ _ _ _ _=>true
 | .call _ m raw _=>raw&&(m== .bor || m== .pure)
 | _=>false
def P1:mg->Bool
 | .alloc _ | .box _ | .buildRow _ _ _ _ _=>true
 | _=>false
def J2:mg->Bool
 | .load _ _ _=>true
 | op=>yE op
def J3:mg->Bool
 | .indexAddr _ _ _ | .len _ _=>true
 | _=>false
def Gl:mg->Bool
 | .storeP _ _ _=>true
 | _=>false
def NZ:mg->Bool
 | .storeR _ _ _=>true
 | _=>false
def N0:mg->Bool
 | .lendF _=>true
 | _=>false
def apart:mg->mg->Bool
 | .load _ _ (.home a),.storeP _ (.home b) _=>a !=b
 | _,_=>false
def Cl (x y:mg):Bool:=apart x y || (Mr x&&P1 y) || (J3 x&&Gl y) || (NZ x&&Gl y) || (J2 x&&N0 y) || (Sk x&&J1 y)
def yF (d:Option Nat) (ts:List Nat):Bool:=match d with
 | some d=> !ts.contains d
 | none=>true
def P2 (d d':Option Nat):Bool:=match d with
 | some d=>d' !=some d
 | none=>true
theorem qC {op:mg} (h:yE op=true):iw op=true:=by cases op<;>first | rfl | simp[yE]at h
theorem yG {o:aM} {e:List AV} {s s':bC} {op:mg} (h:yE op=true):evalOp o e s op=evalOp o e s' op:=by cases op<;>first | rfl | simp[yE]at h
theorem lS {env:List AV} {d:Option Nat} {u:AV} {ts:List Nat} (h:yF d ts=true):Like (eD env d u) env ts:=by
 cases d with
 | none=>exact λ_ _=>rfl
 | some d=>
  intro t j;simp only[eD];have:d≠t:=λe=>by
   subst e;simp[yF]at h;exact h j
  rw[List.getElem?_set_ne this]
theorem ez {env:List AV} {d d':Option Nat} {u u':AV} (h:P2 d d'=true):eD (eD env d u) d' u'=eD (eD env d' u') d u:=by
 cases d with
 | none=>rfl
 | some d=>
  cases d' with
  | none=>rfl
  | some d'=>
   simp only[eD];have:d≠d':=λe=>by subst e;simp[P2]at h
   exact List.set_comm _ _ this
mutual
theorem AV.DC:∀a:AV,a.forget (λ_=>false)=a
 | .undef=>rfl
 | .bare=>rfl
 | .d _=>rfl
 | .agg cs=>by simp only[AV.forget,AV.ck cs]
 | .tup cs=>by simp only[AV.forget,AV.ck cs]
 | .nilp=>rfl
 | .emp=>rfl
 | .ptr _ _=>rfl
 | .prow _ _ _ _=>rfl
 | .sp _ _=>rfl
 | .arr _ _ _ _=>rfl
 | .fn _ cs=>by simp only[AV.forget,AV.ck cs]
theorem AV.ck:∀l:List AV,AV.aP (λ_=>false) l=l
 | []=>rfl
 | a::l=>by simp only[AV.aP,AV.DC a,AV.ck l]
end
mutual
theorem AV.Af (p q:Id->Bool):∀a:AV,(a.forget p).forget q=a.forget (λr=>p r || q r)
 | .undef=>rfl
 | .bare=>rfl
 | .d _=>rfl
 | .agg cs=>by simp only[AV.forget,AV.cQ p q cs]
 | .tup cs=>by simp only[AV.forget,AV.cQ p q cs]
 | .nilp=>rfl
 | .emp=>rfl
 | .ptr r _=>by simp only[AV.forget];by_cases h:p r=true<;>simp[AV.forget,h]
 | .prow r _ _ _=>by simp only[AV.forget];by_cases h:p r=true<;>simp[AV.forget,h]
 | .sp _ _=>rfl
 | .arr r _ _ _=>by simp only[AV.forget];by_cases h:p r=true<;>simp[AV.forget,h]
 | .fn _ cs=>by simp only[AV.forget,AV.cQ p q cs]
theorem AV.cQ (p q:Id->Bool):∀l:List AV,AV.aP q (AV.aP p l)=AV.aP (λr=>p r || q r) l
 | []=>rfl
 | a::l=>by simp only[AV.aP,AV.Af p q a,AV.cQ p q l]
end
theorem mJ {p:Id->Bool}:∀{l:List AV} {t:Nat},(AV.aP p l)[t]? =(l[t]?).map (·.forget p)
 | [],t=>by simp[AV.aP]
 | a::l,0=>by simp[AV.aP]
 | a::l,t+1=>by simp only[AV.aP,List.getElem?_cons_succ];exact mJ
theorem vq {p:Id->Bool}:∀{l:List AV} {t:Nat} {a:AV},AV.aP p (l.set t a)=(AV.aP p l).set t (a.forget p)
 | [],t,a=>by simp[AV.aP]
 | b::l,0,a=>by simp[AV.aP]
 | b::l,t+1,a=>by simp only[List.set_cons_succ,AV.aP];rw[vq]
theorem DE {p:Id->Bool} {e e':List AV} {ts:List Nat} (h:Like e e' ts):Like (AV.aP p e) (AV.aP p e') ts:=λt j=>by rw[mJ,mJ,h t j]
theorem DF (env:List AV) (sto:bC) (r:Id):(⟨env,sto⟩:St).kill r=⟨AV.aP (· ==r) env,(sto.put r none).forget (· ==r)⟩:=rfl
theorem jK {env:List AV} {sto:bC} {t:Nat} {l:List (Option Obj)} {s':St} (h:(⟨env,sto⟩:St).lay t l=some s'):∃j,sto.lay t l=some j/\s'=⟨env,j⟩:=by
 unfold St.lay at h;split at h
 ·rename_i j e;injection h with h;exact ⟨j,e,h.symm⟩
 cases h
theorem jL {env:List AV} {sto e:bC} {t:Nat} {l:List (Option Obj)} (h:sto.lay t l=some e):(⟨env,sto⟩:St).lay t l=some ⟨env,e⟩:=by
 unfold St.lay;rw[h]
theorem yH {o:aM} {s s':St} {a:AV} {x:D} (e:kT o s a=some (x,s')):∃p sto,s'=⟨AV.aP p s.env,sto⟩/\∀env,kT o ⟨env,s.sto⟩ a=some (x,⟨AV.aP p env,sto⟩):=by
 obtain ⟨I,dK⟩:=s;have triv:∀{y:D},s'=⟨I,dK⟩->x=y->(∀env,kT o ⟨env,dK⟩ a=some (y,⟨env,dK⟩))->∃p sto,s'=⟨AV.aP p I,sto⟩/\∀env,kT o ⟨env,dK⟩ a=some (x,⟨AV.aP p env,sto⟩):=by
  intro y O S h3;refine ⟨λ_=>false,dK,by rw[AV.ck];exact O,λenv=>by rw[AV.ck,S];exact h3 env⟩
 cases a with
 | d y=>
  simp only[kT]at e;split at e
  ·rename_i U;injection e with e;injection e with j E;exact triv E.symm j.symm λenv=>by simp only[kT,U]
  cases e
 | emp=>
  simp only[kT]at e;injection e with e;injection e with j E;exact triv E.symm j.symm λenv=>by simp only[kT]
 | arr r sz g u=>
  cases g with
  | some g=>simp[kT]at e
  | none=>
   simp only[kT]at e;cases J:sz.2 with
   | zero=>simp[J]at e
   | succ m=>
    simp only[J]at e;cases M:dK.get r with
    | none=>simp[M]at e
    | some ob=>
     simp only[M]at e;cases ob with
     | orows z ys=>
      simp only at e;injection e with e;injection e with j E;subst j E;exact ⟨(· ==r),_,rfl,λenv=>by simp only[kT,J,M];rfl⟩
     | rows z ys=>
      simp only at e;cases hf:o.flat ys with
      | false=>simp[hf]at e
      | true=>
       simp only[hf]at e;injection e with e;injection e with j E;subst j E;exact ⟨(· ==r),_,rfl,λenv=>by simp only[kT,J,M,hf];rfl⟩
     | _=>simp at e
 | _=>simp[kT]at e
theorem DG {o:aM}:∀{l:List AV} {s s':St} {xs:List D},bM o s l=some (xs,s')->∃p sto,s'=⟨AV.aP p s.env,sto⟩/\∀env,bM o ⟨env,s.sto⟩ l=some (xs,⟨AV.aP p env,sto⟩)
 | [],s,s',xs,e=>by
  simp only[bM]at e;injection e with e;injection e with j E;subst j E;exact ⟨λ_=>false,s.sto,by rw[AV.ck],λenv=>by rw[AV.ck];simp only[bM]⟩
 | a::l,s,s',xs,e=>by
  simp only[bM]at e;split at e
  ·rename_i x s1 J;split at e
   ·rename_i ys s2 hl;injection e with e;injection e with j E;subst j E;obtain ⟨p1,M,O,k2⟩:=yH J;subst O;obtain ⟨S,I,U,V⟩:=DG hl;subst U;refine ⟨λr=>p1 r || S r,I,by rw[AV.cQ],λenv=> ?_⟩;have:=V (AV.aP p1 env);simp only at this;simp only[bM,k2 env,this,AV.cQ]
   cases e
  cases e
theorem J4 {o:aM} {s s':St} {sz:gJ} {a:AV} {xs:List D} (e:rM o s sz a=some (xs,s')):∃p sto,s'=⟨AV.aP p s.env,sto⟩/\∀env,rM o ⟨env,s.sto⟩ sz a=some (xs,⟨AV.aP p env,sto⟩):=by
 cases a with
 | emp=>
  simp only[rM]at e;injection e with e;injection e with j E;subst j E;exact ⟨λ_=>false,s.sto,by rw[AV.ck],λenv=>by rw[AV.ck];simp only[rM]⟩
 | arr r sz' g u=>
  simp only[rM]at e;split at e
  ·rename_i O ys s2 ho;split at e
   case isFalse=>cases e
   rename_i I;injection e with e;injection e with j E;subst j E;obtain ⟨p,sto,J,M⟩:=yH ho;exact ⟨p,sto,J,λenv=>by simp only[rM,M env];rw[if_pos I]⟩
  cases e
 | _=>simp[rM]at e
theorem DH {o:aM} {s s':St} {dst:Option Nat} {sz:gJ} {bytes:Nat} {x y:VX} {u:AV} (e:uy o s dst sz bytes x y=some (u,s')):
  ∃p sto,s'=⟨AV.aP p s.env,sto⟩/\∀env,Like s.env env (fe x++fe y)->uy o ⟨env,s.sto⟩ dst sz bytes x y=some (u,⟨AV.aP p env,sto⟩):=by
 unfold uy at e;split at e
 case h_2=>cases e
 rename_i a b t J M;split at e
 case h_2=>cases e
 rename_i xs s1 O;split at e
 case h_2=>cases e
 rename_i a3 y0 ys s2 S;split at e
 case isFalse=>cases e
 rename_i E;split at e
 case h_2=>cases e
 rename_i hf;split at e
 case h_2=>cases e
 rename_i s3 hl;injection e with e;injection e with U V;subst U V;obtain ⟨p1,a0,k1,k2⟩:=J4 O;subst k1;obtain ⟨p2,a1,m1,m2⟩:=yH S;subst m1;obtain ⟨j,n1,n2⟩:=jK hl;subst n2;refine ⟨λr=>p1 r || p2 r,j,by rw[AV.cQ],λenv I=> ?_⟩;obtain ⟨l1,l2⟩:=Like.app I;unfold uy;simp only[bK l1,bK l2,J,M,k2 env];have:=m2 (AV.aP p1 env);simp only at this;simp only[this,E,if_true,AV.cQ];subst E;simp only[hf,jL n1]
theorem DI {o:aM} {s s':St} {r:Id} (e:iN o r s=some s'):∃p sto,s'=⟨AV.aP p s.env,sto⟩/\∀env,iN o r ⟨env,s.sto⟩=some ⟨AV.aP p env,sto⟩:=by
 unfold iN at e;split at e
 case h_2 O=>
  injection e with e;subst e;refine ⟨λ_=>false,s.sto,by rw[AV.ck],λenv=> ?_⟩;rw[AV.ck];unfold iN;split
  ·rename_i h;exact (O _ _ _ _ _ _ h).elim
  rfl
 rename_i sz xs i off q S M;split at e
 ·rename_i E ys cs I J;split at e
  case isFalse=>cases e
  rename_i j;split at e
  case h_2=>cases e
  rename_i cs' hl;injection e with e;subst e;exact ⟨(· ==q),_,rfl,λenv=>by unfold iN;simp only[M,I,J,j,if_true,hl];subst j;simp only[hl];rfl⟩
 ·rename_i E ys cs I J;split at e
  case h_2=>cases e
  rename_i hf;split at e
  case isFalse=>cases e
  rename_i j;split at e
  case h_2=>cases e
  rename_i cs' hl;injection e with e;subst e;exact ⟨(· ==q),_,rfl,λenv=>by unfold iN;simp only[M,I,J,hf,j,if_true];subst j;simp only[hl];rfl⟩
 cases e
theorem J5 {o:aM} {s s':St} {dst:Option Nat} {op:mg} {u:AV} (hc:J1 op=true) (e:aK o s dst op=some (u,s')):
  ∃p sto,s'=⟨AV.aP p s.env,sto⟩/\∀env,Like s.env env (CO op)->aK o ⟨env,s.sto⟩ dst op=some (u,⟨AV.aP p env,sto⟩):=by
 cases op<;>first | (simp[J1]at hc;done) | skip
 case appendO sz bytes x y=>
  simp only[aK]at e |-;exact DH e
 case buildO sz x=>
  simp only[aK]at e;split at e
  case h_2=>cases e
  rename_i cs t I;split at e
  case h_2=>cases e
  rename_i ds s1 ho;split at e
  case isFalse=>cases e
  rename_i hs;split at e
  case h_2=>cases e
  rename_i s2 hl;injection e with e;injection e with J M;subst J M;obtain ⟨p,sto,U,k2⟩:=DG ho;subst U;obtain ⟨j,n1,n2⟩:=jK hl;subst n2;refine ⟨p,j,rfl,λenv E=> ?_⟩;simp only[aK,bK (show Like s.env env (fe x)from E),I,k2 env,hs,if_true,jL n1]
 case appendH sz bytes x y=>
  simp only[aK]at e;split at e
  case h_2=>cases e
  rename_i r z u0 hy;split at e
  case h_2=>cases e
  rename_i s1 I;obtain ⟨p1,a3,U,k2⟩:=DI I;subst U;obtain ⟨p2,j,m1,m2⟩:=DH e;subst m1;refine ⟨λr=>p1 r || p2 r,j,by rw[AV.cQ],λenv E=> ?_⟩;obtain ⟨l1,l2⟩:=Like.app (show Like s.env env (fe x++fe y)from E);simp only[aK,bK l2,hy,k2 env];have:=m2 (AV.aP p1 env) (DE E);simp only at this;rw[this,AV.cQ]
 rename_i sz bytes x y;simp only[aK]at e;split at e
 case h_2=>cases e
 rename_i a b t I V;split at e
 ·cases e
 rename_i ys O;split at e
 ·split at e
  case h_2=>cases e
  rename_i hf;split at e
  case h_2=>cases e
  rename_i s2 hl;injection e with e;injection e with J M;subst J M;obtain ⟨j,n1,n2⟩:=jK hl;subst n2;refine ⟨λ_=>false,j,by rw[AV.ck],λenv E=> ?_⟩;obtain ⟨l1,l2⟩:=Like.app (show Like s.env env (fe x++fe y)from E);simp only[aK,bK l1,bK l2,I,V,O,hf,jL n1,AV.ck]
 ·rename_i r sz' g u';split at e
  case h_2=>cases e
  rename_i xs S;split at e
  case isFalse=>cases e
  rename_i a1;split at e
  case h_2=>cases e
  rename_i hf;split at e
  case h_2=>cases e
  rename_i s2 hl;injection e with e;injection e with J M;subst J M;obtain ⟨a0,dK⟩:=s;rw[DF]at hl;obtain ⟨j,n1,n2⟩:=jK hl;subst n2;refine ⟨(· ==r),j,rfl,λenv E=> ?_⟩;obtain ⟨l1,l2⟩:=Like.app (show Like a0 env (fe x++fe y)from E);simp only at I V O S;simp only[aK,bK l1,bK l2,I,V,O,S,a1,if_true,hf];rw[DF];simp only[jL n1]
 cases e
theorem J6 (s:bC) (p:Id) (o:Option Obj) (i:Nat):(s.put p o)[i]? =if i=p.1 then (s[i]?).map (·.set p.2 o)else s[i]? :=by
 unfold bC.put;split
 ·rename_i l hl;rw[List.getElem?_set];by_cases e:p.1=i
  ·subst e;obtain ⟨j,E⟩:=ax.1 hl;simp[j,E]
  rw[if_neg e,if_neg (λx=>e x.symm)]
 rename_i hl;by_cases e:i=p.1
 ·subst e;rw[if_pos rfl,hl];rfl
 rw[if_neg e]
theorem put_comm {s:bC} {q r:Id} {E o2:Option Obj} (h:r≠q):(s.put q E).put r o2=(s.put r o2).put q E:=by
 apply List.ext_getElem?;intro i;simp only[J6];by_cases e:i=q.1
 ·by_cases j:i=r.1
  ·simp only[if_pos e,if_pos j];cases s[i]? with
   | none=>rfl
   | some l=>
    have I:r.2≠q.2:=λx=>h (Prod.ext (j.symm.trans e) x)
    simp only[Option.map_some];congr 1;exact (List.set_comm _ _ I).symm
  simp only[if_pos e,if_neg j]
 simp only[if_neg e]
theorem qe {o:aM} {s s':St} {dst:Option Nat} {n:Nat} {a x:VX} {u:AV} (e:aK o s dst (.storeP n a x)=some (u,s')):
  ∃r cs cs',(∃off,ev s.env a=some (.ptr r off))/\s.sto.get r=some (.box cs)/\u= .bare/\s'=⟨s.env,s.sto.put r (some (.box cs'))⟩/\∀env sto,Like s.env env (fe a++fe x)->sto.get r=some (.box cs)->aK o ⟨env,sto⟩ dst (.storeP n a x)=some (.bare,⟨env,sto.put r (some (.box cs'))⟩):=by
 simp only[aK]at e;split at e
 case h_2=>cases e
 rename_i r off v E M;split at e
 case h_2=>cases e
 rename_i s2 j;injection e with e;injection e with O S;subst O S;unfold storeAt at j;simp only at j;split at j
 case isTrue=>cases j
 rename_i hc;split at j
 case h_2=>cases j
 rename_i cs U;split at j
 case h_2=>cases j
 rename_i cs' hl;injection j with j;subst j;refine ⟨r,cs,cs',⟨off,E⟩,U,rfl,rfl,λenv sto I J=> ?_⟩;obtain ⟨l1,l2⟩:=Like.app I;simp only[aK,bK l1,bK l2,E,M,storeAt];rw[if_neg hc];simp only[J,hl]
theorem vu {o:aM} {s s':St} {dst:Option Nat} {n:Nat} {a x:VX} {u:AV} (e:aK o s dst (.storeR n a x)=some (u,s')):
  ∃r sz xs xs',s.sto.get r=some (.rows sz xs)/\u= .bare/\s'=⟨s.env,s.sto.put r (some (.rows sz xs'))⟩/\∀env sto,Like s.env env (fe a++fe x)->sto.get r=some (.rows sz xs)->aK o ⟨env,sto⟩ dst (.storeR n a x)=some (.bare,⟨env,sto.put r (some (.rows sz xs'))⟩):=by
 simp only[aK]at e;split at e
 case h_2=>cases e
 rename_i r sz i off v O S;split at e
 case h_2=>cases e
 rename_i ds j;split at e
 case isTrue=>cases e
 rename_i U;split at e
 case h_2=>cases e
 rename_i sz' xs V;split at e
 case isFalse=>cases e
 rename_i hs;split at e
 case h_2=>cases e
 rename_i el E;split at e
 case isFalse=>cases e
 rename_i hc;split at e
 case h_2=>cases e
 rename_i cs hl;split at e
 case h_2=>cases e
 rename_i e' I;injection e with e;injection e with e1 e2;subst e1 e2 hs;refine ⟨r,sz,xs,_,V,rfl,rfl,λenv sto J M=> ?_⟩;obtain ⟨l1,l2⟩:=Like.app J;simp only[aK,bK l1,bK l2,O,S,j,M,E,hl,I,hc,if_true];rw[if_neg U]
theorem tJ {o:aM} {s:bC} {r:Id} {cs cs':List AV} {q:Id} {sz:gJ} {g:Option (Int×Int)} {u:Bool} (h:s.get r=some (.box cs)):fG o (s.put r (some (.box cs'))) (.arr q sz g u)=fG o s (.arr q sz g u):=by
 by_cases e:q=r
 ·subst e;simp only[fG,content,cR _ h,h]
 simp only[fG,content,bU _ e]
theorem Ms {o:aM} {env:List AV} {s:bC} {op:mg} {r:Id} {cs cs':List AV} (hi:J3 op=true) (h:s.get r=some (.box cs)):evalOp o env (s.put r (some (.box cs'))) op=evalOp o env s op:=by
 cases op<;>first | (simp[J3]at hi;done) | skip
 case indexAddr sz x i=>
  simp only[evalOp];cases ev env x with
  | none=>rfl
  | some a=>cases a<;>first | rfl | (simp only[tJ h])
 rename_i D7 x;simp only[evalOp];cases ev env x with
 | none=>rfl
 | some a=>cases a<;>first | rfl | (simp only[tJ h])
theorem uI {op:mg} (h:J3 op=true):iw op=true:=by cases op<;>first | rfl | simp[J3]at h
theorem oD {o:aM} {s s':St} {dst:Option Nat} {op:mg} {u:AV} (E:iw op=true) (e:aK o s dst op=some (u,s')):s'=s/\evalOp o s.env s.sto op=some (u,[]):=by
 rw[iT E]at e;split at e
 ·rename_i v j;injection e with e;injection e with I J;subst I J;exact ⟨rfl,j⟩
 ·rename_i v x new j;have:=uH E j;cases this
 cases e
theorem mK {o:aM} {s:St} {dst:Option Nat} {op:mg} {u:AV} (j:iw op=true) (e:evalOp o s.env s.sto op=some (u,[])):aK o s dst op=some (u,s):=by
 rw[iT j,e]
theorem EO {o:aM} {s s':St} {dst:Option Nat} {x:VX} {u:AV} (e:aK o s dst (.lendF x)=some (u,s')):
  ∃E,s'=⟨s.env,E⟩/\(∀env,Like s.env env (fe x)->aK o ⟨env,s.sto⟩ dst (.lendF x)=some (u,⟨env,E⟩))/\∀agg n a v,loadAt o s.sto agg n a=some v->loadAt o E agg n a=some v:=by
 simp only[aK]at e;split at e
 case h_2=>cases e
 rename_i r sz i off h1;split at e
 case h_2=>cases e
 rename_i sz' xs U;split at e
 case h_2=>cases e
 rename_i cs a0;split at e
 case h_2=>cases e
 rename_i M ys V;cases O:M.2 with
 | zero=>simp[O]at e
 | succ m=>
 cases dst with
 | none=>simp[O]at e
 | some t=>
 cases hf:o.flat ys with
 | false=>simp[O,hf]at e
 | true=>
  simp only[O,hf]at e;split at e
  case isFalse=>cases e
  rename_i hc;split at e
  case h_2=>cases e
  rename_i s2 hl;injection e with e;injection e with e1 e2;subst e1 e2;obtain ⟨E,n1,n2⟩:=jK hl;subst n2;refine ⟨E,rfl,λenv a1=> ?_,λagg n a v I=> ?_⟩
  ·simp only[aK,bK a1,h1,U,a0,V,O,hf,hc.1,hc.2,and_self,if_true];rw[hc.1]at n1;simp only[jL n1]
  have S:∀q ob,s.sto.get q=some ob->q≠r->E.get q=some ob:=λq ob J a3=>by
   have h3:(s.sto.put r (some (.hrows sz xs i off (t,0) M))).get q=some ob:=by rw[bU _ a3];exact J
   rw[dX n1];split
   ·rename_i he;have:=gW n1 q he;rw[h3]at this;cases this
   exact h3
  have a4:E.get r=some (.hrows sz xs i off (t,0) M):=by
   have h3:(s.sto.put r (some (.hrows sz xs i off (t,0) M))).get r=some (.hrows sz xs i off (t,0) M):=cR _ U;rw[dX n1];split
   ·rename_i he;have:=gW n1 r he;rw[h3]at this;cases this
   exact h3
  cases a with
  | ptr q k=>
   simp only[loadAt]at I |-;split at I
   ·rename_i cs' J;rw[S q _ J (λe=>by rw[e,U]at J;cases J)];exact I
   cases I
  | prow q a5 j k=>
   simp only[loadAt,bC.rd]at I |-;by_cases e:q=r
   ·subst e;rw[U]at I;rw[a4];simp only[Obj.rd]at I |-;rw[<-hc.1]at I;exact I
   cases J:s.sto.get q with
   | none=>rw[J]at I;simp at I
   | some ob=>rw[S q ob J e];rw[J]at I;exact I
  | sp cs' k=>exact I
  | _=>simp[loadAt]at I
theorem ni {e e':List AV}:∀{xs:List (Nat×VX)},Like e e' (xs.flatMap λp=>fe p.2)->dw e' xs=dw e xs
 | [],_=>rfl
 | (i,x)::xs,h=>by
  rw[List.flatMap_cons]at h;obtain ⟨j,E⟩:=h.app;simp only[dw,bK (show Like e e' (fe x)from j),ni E]
theorem tK {s s':bC} {t:Nat} {l:List (Option Obj)} (h:s.lay t l=some s'):oW s s':=λr ob e=>by
 rw[dX h];split
 ·rename_i j;have:=gW h r j;rw[e]at this;cases this
 exact e
theorem qD {o:aM} {s s':St} {dst:Option Nat} {op:mg} {u:AV} (hd:P1 op=true) (e:aK o s dst op=some (u,s')):
  (s'=s/\∀env sto,Like s.env env (CO op)->aK o ⟨env,sto⟩ dst op=some (u,⟨env,sto⟩))\/
  ∃t l j,dst=some t/\s.sto.lay t l=some j/\s'=⟨s.env,j⟩/\∀env sto E,Like s.env env (CO op)->sto.lay t l=some E->aK o ⟨env,sto⟩ dst op=some (u,⟨env,E⟩):=by
 obtain ⟨I,dK⟩:=s;cases op<;>first | (simp[P1]at hd;done) | skip
 case alloc cs=>
  cases dst with
  | none=>simp[aK,evalOp]at e
  | some t=>
   simp only[aK,evalOp]at e;split at e
   case h_2=>cases e
   rename_i s2 hl;injection e with e;injection e with M O;subst M O;obtain ⟨j,n1,n2⟩:=jK hl;subst n2;exact .inr ⟨t,_,j,rfl,n1,rfl,λenv sto E _ h=>by simp only[aK,evalOp,jL h]⟩
 case box x=>
  cases dst with
  | none=>
   exfalso;simp only[aK,evalOp]at e;cases S:ev I x with
   | none=>simp[S]at e
   | some a=>simp only[S]at e;cases a<;>simp at e
  | some t=>
   obtain ⟨a,ha,hk⟩:∃a,ev I x=some a/\∀env sto,ev env x=some a->aK o ⟨env,sto⟩ (some t) (.box x)=(match (⟨env,sto⟩:St).lay t [some (.box a.cells)]with | some s=>some (.ptr (t,0) 0,s) | none=>none):=by
    simp only[aK,evalOp]at e;cases S:ev I x with
    | none=>simp[S]at e
    | some a=>
     refine ⟨a,rfl,λenv sto h=> ?_⟩;simp only[S]at e;simp only[aK,evalOp,h];cases a<;>first | rfl | (simp at e;done)
   have e0:=hk I dK ha;rw[e0]at e;split at e
   case h_2=>cases e
   rename_i s2 hl;injection e with e;injection e with M O;subst M O;obtain ⟨j,n1,n2⟩:=jK hl;subst n2;exact .inr ⟨t,_,j,rfl,n1,rfl,λenv sto E J h=>by rw[hk env sto (by rw[bK J];exact ha)];simp only[jL h]⟩
 rename_i sz agg zero len ps;simp only[aK]at e;split at e
 case h_2=>cases e
 rename_i qs t h1;split at e
 case isFalse=>cases e
 rename_i hz;split at e
 case h_2=>cases e
 rename_i ds V;split at e
 case h_2=>cases e
 rename_i z a0;split at e
 case h_2=>cases e
 rename_i xs a1;split at e
 case h_3=>cases e
 case h_1 U=>
  injection e with e;injection e with M O;subst M O;exact .inl ⟨rfl,λenv sto J=>by simp only[aK,ni J,h1,hz,if_true,V,a0,a1,U]⟩
 rename_i y ys U;split at e
 case h_2=>cases e
 rename_i s2 hl;injection e with e;injection e with M O;subst M O;obtain ⟨j,n1,n2⟩:=jK hl;subst n2;exact .inr ⟨t,_,j,rfl,n1,rfl,λenv sto E J h=>by simp only[aK,ni J,h1,hz,if_true,V,a0,a1,U,jL h]⟩
theorem tL {o:aM} {s s':St} {dst:Option Nat} {sz:gJ} {bytes:Nat} {x y:VX} {u:AV} (e:aK o s dst (.appendE sz bytes x y)=some (u,s')):
  ∃t l j,dst=some t/\s.sto.lay t l=some j/\s'=⟨s.env,j⟩/\∀env sto E,Like s.env env (fe x++fe y)->oW s.sto sto->sto.lay t l=some E->aK o ⟨env,sto⟩ dst (.appendE sz bytes x y)=some (u,⟨env,E⟩):=by
 obtain ⟨I,dK⟩:=s;simp only[aK]at e;split at e
 case h_2=>cases e
 rename_i b t S U;split at e
 ·cases e
 rename_i ys J;split at e
 case h_2=>cases e
 rename_i hf;split at e
 case h_2=>cases e
 rename_i s2 hl;injection e with e;injection e with V e2;subst V e2;obtain ⟨j,n1,n2⟩:=jK hl;subst n2;refine ⟨t,_,j,rfl,n1,rfl,λenv sto E M O h=> ?_⟩;obtain ⟨l1,l2⟩:=Like.app (show Like I env (fe x++fe y)from M);simp only[aK,bK l1,bK l2,S,U,lR O J,hf,jL h]
theorem EP {s s':St} {dst:Option Nat} {f:FuncId} {m:mE} {args:List VX} {u:AV} (hm:(m== .bor || m== .pure)=true) (e:aK (real call loop) s dst (.call f m true args)=some (u,s')):
  (s'=s/\∀env sto,Like s.env env (args.flatMap fe)->oW s.sto sto->aK (real call loop) ⟨env,sto⟩ dst (.call f m true args)=some (u,⟨env,sto⟩))\/
  ∃t l I,dst=some t/\s.sto.lay t l=some I/\s'=⟨s.env,I⟩/\∀env sto O,Like s.env env (args.flatMap fe)->oW s.sto sto->sto.lay t l=some O->aK (real call loop) ⟨env,sto⟩ dst (.call f m true args)=some (u,⟨env,O⟩):=by
 obtain ⟨a5,dK⟩:=s;simp only[aK]at e |-;split at e
 case h_2=>cases e
 rename_i as hx;have a1:∀env,Like a5 env (args.flatMap fe)->zi env args=some as:=λenv j=>by rw[<-hx];exact lQ j
 cases m with
 | frz=>simp at hm
 | ref=>simp at hm
 | bor=>
  simp only[dJ]at e;split at e
  ·cases e
  rename_i as' h1;split at e
  ·cases e
  rename_i h2;split at e
  ·cases e
  rename_i c h3;split at e
  case h_1 h4=>
   injection e with e;injection e with U V;subst U V;exact .inl ⟨rfl,λenv sto j J=>by simp only[a1 env j,dJ,j9 J _ h1,h2,h3,h4]⟩
  rename_i h4;split at e
  case h_2=>cases e
  rename_i t a9 hp a6 a7;split at e
  case h_2=>cases e
  rename_i s2 hl;injection e with e;injection e with U V;subst U V;obtain ⟨I,n1,n2⟩:=jK hl;subst n2;exact .inr ⟨t,_,I,rfl,n1,rfl,λenv sto O j J h=>by simp only[a1 env j,dJ,j9 J _ h1,h2,h3,h4,hp,a6,a7,jL h]⟩
 | pure=>
  simp only[dJ]at e;split at e
  ·cases e
  rename_i hp;have hr:AV.bR as=[]:=by simpa using hp
  simp only[handed]at e;split at e
  ·cases e
  rename_i as' s2 S;split at S
  case h_2=>cases S
  rename_i a8 a0;injection S with S;injection S with q1 q2;subst q1 q2;have a3:=jJ as _ hr a0;simp only[a3,i9,List.map_nil]at e;split at e
  ·cases e
  rename_i c hc;split at e
  ·cases e
  rename_i sto M;have E:c.pars=[]/\sto=dK:=by
   cases a4:c.pars with
   | nil=>rw[a4]at M;simp only[gB]at M;injection M with M;exact ⟨rfl,M.symm⟩
   | cons x xs=>rw[a4]at M;simp[gB]at M
  obtain ⟨E,rfl⟩:=E;simp only[E,St.buried,gK]at e;split at e
  ·rename_i hX;injection e with e;injection e with U V;subst U V;exact .inl ⟨rfl,λenv sto j J=>by simp only[a1 env j,dJ,hp,handed,j9 J _ a0,a3,i9,List.map_nil,hc,E,gB,St.buried,gK,hX]⟩
  rename_i e0 ex hX;split at e
  ·rename_i _ t _;split at e
   case h_2=>cases e
   rename_i s3 hl;injection e with e;injection e with U V;subst U V;obtain ⟨I,n1,n2⟩:=jK hl;subst n2;exact .inr ⟨t,_,I,rfl,n1,rfl,λenv sto O j J h=>by simp only[a1 env j,dJ,hp,handed,j9 J _ a0,a3,i9,List.map_nil,hc,E,gB,St.buried,gK,hX,jL h]⟩
  cases e
theorem HB {s s':St} {dst:Option Nat} {op:mg} {u:AV} (J:Mr op=true) (e:aK (real call loop) s dst op=some (u,s')):
  (s'=s/\∀env sto,Like s.env env (CO op)->oW s.sto sto->aK (real call loop) ⟨env,sto⟩ dst op=some (u,⟨env,sto⟩))\/
  ∃t l j,dst=some t/\s.sto.lay t l=some j/\s'=⟨s.env,j⟩/\∀env sto E,Like s.env env (CO op)->oW s.sto sto->sto.lay t l=some E->aK (real call loop) ⟨env,sto⟩ dst op=some (u,⟨env,E⟩):=by
 cases op<;>first | (simp[Mr]at J;done) | skip
 case alloc cs=>
  rcases qD rfl e with ⟨h,I⟩ | ⟨t,l,j,I,M,h3,h4⟩
  ·exact .inl ⟨h,λenv sto hl _=>I env sto hl⟩
  exact .inr ⟨t,l,j,I,M,h3,λenv sto E hl _=>h4 env sto E hl⟩
 case buildRow sz agg zero len ps=>
  rcases qD rfl e with ⟨h,I⟩ | ⟨t,l,j,I,M,h3,h4⟩
  ·exact .inl ⟨h,λenv sto hl _=>I env sto hl⟩
  exact .inr ⟨t,l,j,I,M,h3,λenv sto E hl _=>h4 env sto E hl⟩
 case appendE sz bytes x y=>exact .inr (tL e)
 rename_i f m raw args;simp only[Mr,af]at J;obtain ⟨rfl,O⟩:=J;exact EP O e
theorem Mt {s s1 s2:bC} {t t':Nat} {l l':List (Option Obj)} (E:t≠t') (j:s.lay t l=some s1) (e:s1.lay t' l'=some s2):∃I,s.lay t' l'=some I/\I.lay t l=some s2:=by
 unfold bC.lay at j e |-;split at j
 case h_2=>cases j
 rename_i old ho;split at j
 case isFalse=>cases j
 rename_i O;injection j with j;subst j;rw[List.getElem?_set_ne E]at e;split at e
 case h_2=>cases e
 rename_i S J;split at e
 case isFalse=>cases e
 rename_i M;injection e with e;subst e;refine ⟨s.set t' l',by rw[J];simp only[M,if_true],?_⟩;rw[List.getElem?_set_ne (Ne.symm E),ho];simp only[O,if_true];rw[List.set_comm _ _ E]
theorem J7 {x y:bV} {s s1 s2:St} {u v:AV} (hk:Cl x.op y.op=true) (h3:yF x.dst (CO y.op)=true) (h4:yF y.dst (CO x.op)=true)
  (U:P2 x.dst y.dst=true) (e1:aK (real call loop) s x.dst x.op=some (u,s1)) (e2:aK (real call loop) ⟨eD s1.env x.dst u,s1.sto⟩ y.dst y.op=some (v,s2)):
  ∃s3 u' s4,aK (real call loop) s y.dst y.op=some (v,s3)/\aK (real call loop) ⟨eD s3.env y.dst v,s3.sto⟩ x.dst x.op=some (u',s4)/\eD s4.env x.dst u'=eD s2.env y.dst v/\s4.sto=s2.sto:=by
 obtain ⟨xd,xg,xo⟩:=x;obtain ⟨V,yg,yo⟩:=y;simp only at hk h3 h4 U e1 e2 |-;obtain ⟨j,dK⟩:=s;have M:∀w,Like (eD j xd w) j (CO yo):=λw=>lS h3
 have O:∀(env:List AV) w,Like env (eD env V w) (CO xo):=λenv w=>λt ht=>(lS (env:=env) (u:=w) h4 t ht).symm
 simp only[Cl,Bool.or_eq_true,af]at hk;rcases hk with ((((k0 | ⟨I,k2⟩) | ⟨I,k2⟩) | ⟨I,k2⟩) | ⟨I,k2⟩) | ⟨I,k2⟩
 ·unfold apart at k0;split at k0
  case h_2=>cases k0
  rename_i agg n a n' b x;obtain ⟨r1,E⟩:=oD (by rfl) e1;subst r1;obtain ⟨r,cs,cs',⟨off,g0⟩,g1,g2,g3,g4⟩:=qe e2;subst g2 g3;have hr:r=(b,0):=by
   simp only[ev]at g0;split at g0
   ·split at g0
    ·rename_i hh;injection g0 with g0;injection g0 with g0;rw[<-g0];exact hh
    cases g0
   cases g0
  refine ⟨⟨j,dK.put r (some (.box cs'))⟩,u,⟨eD j V .bare,dK.put r (some (.box cs'))⟩,g4 j dK (M u) g1,mK (by rfl) ?_,(ez U).symm,rfl⟩;have r3:evalOp (real call loop) (eD j V .bare) dK (.load agg n (.home a))=some (u,[]):=by
   rw[j8 (by rfl) (O j .bare)];exact E
  simp only[evalOp]at r3 |-;cases S:ev (eD j V .bare) (.home a)with
  | none=>rw[S]at r3;cases r3
  | some pv=>
   rw[S]at r3;simp only at r3 |-;obtain ⟨o2,rfl⟩:∃o2,pv= .ptr (a,0) o2:=by
    simp only[ev]at S;split at S
    ·rename_i r5 o5 _;split at S
     ·rename_i hh;injection S with S;exact ⟨o5,by rw[<-S,hh]⟩
     cases S
    cases S
   have a1:((a,0):Id)≠r:=by
    rw[hr];intro hh;injection hh with hh;simp[hh]at k0
   have hL:loadAt (real call loop) (dK.put r (some (.box cs'))) agg n (.ptr (a,0) o2)=loadAt (real call loop) dK agg n (.ptr (a,0) o2):=by
    simp only[loadAt,bU _ a1]
   rw[hL];exact r3
 ·rcases HB I e1 with ⟨rfl,n2⟩ | ⟨t,l,J,hd,n1,rfl,n2⟩
  ·rcases qD k2 e2 with ⟨m1,m2⟩ | ⟨t',l',a0,a3,m1,m2,m3⟩
   ·subst m1;exact ⟨⟨j,dK⟩,u,⟨eD j V v,dK⟩,m2 j dK (M u),n2 _ _ (O j v) (oW.refl _),(ez U).symm,rfl⟩
   subst a3 m2;exact ⟨⟨j,a0⟩,u,⟨eD j (some t') v,a0⟩,m3 j dK a0 (M u) m1,n2 _ _ (O j v) (tK m1),(ez U).symm,rfl⟩
  subst hd;rcases qD k2 e2 with ⟨m1,m2⟩ | ⟨t',l',a0,a3,m1,m2,m3⟩
  ·subst m1;refine ⟨⟨j,dK⟩,u,⟨eD j V v,J⟩,m2 j dK (M u),n2 _ _ _ (O j v) (oW.refl _) n1,(ez U).symm,rfl⟩
  subst a3 m2;have a6:t≠t':=λe=>by subst e;simp[P2]at U
  obtain ⟨a4,q1,q2⟩:=Mt a6 n1 m1;refine ⟨⟨j,a4⟩,u,⟨eD j (some t') v,a0⟩,m3 j dK a4 (M u) q1,n2 _ _ _ (O j v) (tK q1) q2,(ez U).symm,rfl⟩
 ·obtain ⟨r1,E⟩:=oD (uI I) e1;subst r1;cases yo<;>first | (simp[Gl]at k2;done) | skip
  rename_i n a x;obtain ⟨r,cs,cs',_,g1,g2,g3,g4⟩:=qe e2;subst g2 g3;refine ⟨⟨j,dK.put r (some (.box cs'))⟩,u,⟨eD j V .bare,dK.put r (some (.box cs'))⟩,g4 j dK (M u) g1,mK (uI I) ?_,(ez U).symm,rfl⟩;rw[Ms I g1,j8 (uI I) (O j .bare)];exact E
 ·cases xo<;>first | (simp[NZ]at I;done) | skip
  cases yo<;>first | (simp[Gl]at k2;done) | skip
  rename_i n a x n' a' x';obtain ⟨q,sz,xs,xs',f1,f2,f3,f4⟩:=vu e1;subst f2 f3;obtain ⟨r,cs,cs',_,g1,g2,g3,g4⟩:=qe e2;subst g2 g3;have a1:r≠q:=λe=>by subst e;rw[cR _ f1]at g1;cases g1
  have a7:dK.get r=some (.box cs):=by rw[<-g1];exact (bU _ a1).symm
  refine ⟨⟨j,dK.put r (some (.box cs'))⟩,.bare,⟨eD j V .bare,(dK.put r (some (.box cs'))).put q (some (.rows sz xs'))⟩,g4 j dK (M .bare) a7,f4 _ _ (O j .bare) (by rw[bU _ (Ne.symm a1)];exact f1),(ez U).symm,put_comm (Ne.symm a1)⟩
 ·cases yo<;>first | (simp[N0]at k2;done) | skip
  rename_i a;have hq:iw xo=true:=by
   cases xo<;>first | rfl | (simp[J2,yE]at I;done)
  obtain ⟨r1,E⟩:=oD hq e1;subst r1;obtain ⟨J,g1,g2,g3⟩:=EO e2;subst g1;refine ⟨⟨j,J⟩,u,⟨eD j V v,J⟩,g2 j (M u),mK hq ?_,(ez U).symm,rfl⟩;rw[j8 hq (O j v)];by_cases a5:yE xo=true
  ·rw[yG (s':=dK) a5];exact E
  cases xo<;>first | (exact (a5 rfl).elim) | (simp[J2,yE]at I;done) | skip
  rename_i agg n p;simp only[evalOp]at E |-;cases S:ev j p with
  | none=>simp[S]at E
  | some pv=>
   simp only[S]at E |-;cases hl:loadAt (real call loop) dK agg n pv with
   | none=>simp[hl]at E
   | some w=>simp only[hl]at E;simp only[g3 _ _ _ _ hl];exact E
 cases xo<;>first | (simp[Sk]at I;done) | skip
 rename_i a;cases a with
 | const _=>simp[Sk]at I
 | home _=>simp[Sk]at I
 | tmp t=>
  obtain ⟨r1,E⟩:=oD (by rfl) e1;subst r1;obtain ⟨p,J,g1,g2⟩:=J5 k2 e2;subst g1;have hu:j[t]? =some u:=by
   simp only[evalOp,ev]at E;split at E
   ·rename_i w hw;injection E with E;injection E with E _;subst E;exact hw
   cases E
  have ht:(eD (AV.aP p j) V v)[t]? =some (u.forget p):=by
   have:=(O (AV.aP p j) v) t (by simp[CO,fe]);rw[this,mJ,hu];rfl
  refine ⟨⟨AV.aP p j,J⟩,u.forget p,⟨eD (AV.aP p j) V v,J⟩,g2 j (M u),mK (by rfl) (by simp only[evalOp,ev,ht]),?_,rfl⟩;rw[<-ez U];congr 1;cases xd with
  | none=>rfl
  | some d=>simp only[eD];rw[vq]
theorem DJ {x y:bV} {s s1 r:St} (E:(x.guard.isNone&&y.guard.isNone)=true) (hk:Cl x.op y.op=true) (h3:yF x.dst (CO y.op)=true) (h4:yF y.dst (CO x.op)=true)
  (J:P2 x.dst y.dst=true) (j:d_ (real call loop) x s=some s1) (e:d_ (real call loop) y s1=some r):∃s2,d_ (real call loop) y s=some s2/\d_ (real call loop) x s2=some r:=by
 simp only[af,Option.isNone_iff_eq_none]at E;have st:∀{v:bV} {s:St},v.guard=none->d_ (real call loop) v s=match aK (real call loop) s v.dst v.op with | some (u,s)=>some ⟨eD s.env v.dst u,s.sto⟩ | none=>none:=λh=>by unfold d_;rw[h];rfl
 rw[st E.1]at j;rw[st E.2]at e;split at j
 case h_2=>cases j
 rename_i u t1 M;injection j with j;subst j;split at e
 case h_2=>cases e
 rename_i v t2 O;injection e with e;subst e;obtain ⟨I,u',s4,S,U,V,q4⟩:=J7 hk h3 h4 J M O;refine ⟨⟨eD I.env y.dst v,I.sto⟩,by rw[st E.2,S],by rw[st E.1,U];simp only;rw[V,q4]⟩
end
end Go.Vi
