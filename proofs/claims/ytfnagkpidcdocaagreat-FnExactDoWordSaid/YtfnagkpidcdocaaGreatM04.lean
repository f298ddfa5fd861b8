import Derived.Test.YtfnagkpidcdocaaGreatM03
import Derived.Laws.IdiomStrings
import Derived.Laws.BytesArg
set_option linter.all false
namespace Go.Vi
open Go Go.RowKit
section
variable {P:Program} {call:dh} {loop:di}
variable {s:St} {a:Act} {w:World} {L:Loc} {Z:Nat->Prop}
theorem eU {s s':St} {t:Nat} {l:List (Option Obj)} (hl:s.lay t l=some s'):s.sto.lay t l=some s'.sto/\s'.env=s.env:=by
 unfold St.lay at hl;split at hl
 ·rename_i sto e;injection hl with hl;subst hl;exact ⟨e,rfl⟩
 cases hl
theorem JS {np t:Nat} {s1 s':St} {w':World} {e sz b:Nat} {xs:List D} {cells:Array Value} {cs:List Value} (h:RS s1 a w L Z) (t0:Tr np s.sto s1.sto w w L L Z Z) (hl:s1.lay t [some (.rows (e,sz) xs)]=some s') (ht:t<np)
  (U:w'.os=w.os) (V:w'.tape=w.tape) (a0:w'.output=w.output) (hsize:w.heap.size<=w'.heap.size)
  (hkeep:∀k,k<w.heap.size->k≠b->w'.heap[k]? =w.heap[k]?)
  (I:¬Z b/\¬aY s1.sto L b/\(w.heap.size<=b\/aY s.sto L b))
  (E:w'.heap[b]? =some (.cells cells e)) (J:g_ w Z sz xs cs) (M:∀(j:Nat) (v:Value),cs[j]? =some v->cells[j]? =some v) (O:xs.length*sz<=cells.size):
  ∃L',RS s' a w' L' Z/\Tr np s.sto s'.sto w w' L L' Z Z/\L' (t,0)=some b/\s'.sto.get (t,0)=some (.rows (e,sz) xs)/\b_ w' b=cells.size:=by
 have a1:b<w'.heap.size:=(Array.getElem?_eq_some_iff.1 E).1;have S:ko w w' Z Z:=λk hk=>⟨hk,hkeep k (h.dis k hk).1 λe=>I.1 (e ▸ hk)⟩
 obtain ⟨h1,h2,_,_⟩:=RS.lay (s0:=s) (np:=np) (nb:=some b) (w':=w') h t0 hl ht U V a0 hsize (λk hk a3=>hkeep k hk λe=>a3 (by rw[e]))
  (λk hk=>by injection hk with hk;subst hk;exact ⟨I.1,I.2.1,a1,I.2.2⟩) (by
   simp only[RO];refine ⟨λk=>by simp[upd,fM]at k,λk hk=> ?_⟩;have:b=k:=by simpa [upd,fM]using hk
   subst this;refine ⟨cells,E,O,qo (qm S J) λj v hj=> ?_⟩;simp only[World.cell?,E,Nat.zero_add];simpa using M j v hj)
 refine ⟨_,h1,h2,by simp[upd,fM],?_,by simp[b_,E]⟩;rw[dX (eU hl).1];simp
theorem x_ {np t:Nat} {s1 s':St} {sz:gJ} (h:RS s1 a w L Z) (e:Tr np s.sto s1.sto w w L L Z Z) (hl:s1.lay t [some (.rows sz [])]=some s') (j:t<np):
  ∃L',RS s' a w L' Z/\Tr np s.sto s'.sto w w L L' Z Z/\L' (t,0)=none/\s'.sto.get (t,0)=some (.rows sz [])/\(∀q,(s1.sto.get q).isSome->Same (aI w Z L s1.sto) (aI w Z L' s'.sto) q):=by
 obtain ⟨E,I,_,h4⟩:=RS.lay (s0:=s) (np:=np) (nb:=none) (w':=w) h e hl j rfl rfl rfl (Nat.le_refl _) (λk hk J=>rfl) (λk hk=>by cases hk) (by
   simp only[RO];exact ⟨λ_=>trivial,λk hk=>by simp[upd,fM]at hk⟩)
 refine ⟨_,E,I,by simp[upd,fM],?_,h4⟩;rw[dX (eU hl).1];simp
theorem kI {t ty e:TypeId} {i:TypeInfo} (j:P.underlying t=some (.slice e)) (hi:P.info? e=some i) {A A2:Option Addr} {n cap c2:Nat} (E:n<=cap):
  (Builtin.append_ #[t,t] ty #[.slice A n cap,.slice A2 0 c2]).run P w= .ok (.slice A n cap) w:=by
 cases A<;>cases A2<;>simp[Builtin.append_,run_underlying j,sizeOf,typeInfo,hi,Builtin.lenOf,E,Builtin.firstCells,loadCells,loadCellsFrom,storeCells]
theorem source {s:bC} {x:AV} {v:Value} {xs:List D} {sz:Nat} (E:∀r ob,s.get r=some ob->RO (aI w Z L s) r ob) (S:RV (aI w Z L s) x v) (hc:content (real call loop) s x=some xs)
  (I:xs.all (λy=>y.cells.length==sz)=true) (e:xs≠[]):∃b o cap cs,v= .slice (some ⟨b,o,none⟩) xs.length cap/\g_ w Z sz xs cs/\∀j u,cs[j]? =some u->w.cell? ((⟨b,o,none⟩:Addr).add j)=some u:=by
 obtain ⟨A,cap,U,h2,h3⟩:=cZ E S hc;rcases h3 with h3 | ⟨b,o,z,h4,J,_⟩
 ·exact (e h3).elim
 have V:z=sz:=by
  cases xs with
  | nil=>exact (e rfl).elim
  | cons y l=>
   have M:=J;simp only[Rows]at M;obtain ⟨⟨cs,O,k2,_⟩,_⟩:=M;have:=BV k2;simp at I;omega
 subst V;obtain ⟨cs,O,k2⟩:=tX J;exact ⟨b,o,cap,cs,by rw[U,h4],O,λj u hj=>by rw[add_plain];exact k2 j u hj⟩
theorem uz {np t:Nat} {s1 s':St} {o:Oper} {ty e:TypeId} {i:TypeInfo} {z:Value} {A0:Option Addr} {n cap0 E:Nat} {xs ys:List D} {cs1 cs2:List Value} {ad I:Addr}
  (h:RS s1 a w L Z) (t0:Tr np s.sto s1.sto w w L L Z Z) (aa:RS s a w L Z) (hl:s1.lay t [some (.rows (e,i.size) (xs++ys))]=some s') (ht:t<np)
  (hu:P.underlying ty=some (.slice e)) (hi:P.info? e=some i) (S:i.zero=some z) (a5:z.cells.size=i.size)
  (a4:∀{m:Value} {w':World},(Builtin.append_ #[ty,ty] o.type #[.slice A0 n cap0,.slice (some I) ys.length E]).run P w= .ok m w'->(execOp a.eval o).run P w= .ok (.value m) w')
  (J:n=xs.length) (hA:A0=some ad\/(A0=none/\n=0/\cap0=0)) (M:g_ w Z i.size xs cs1) (hx:∀j u,cs1[j]? =some u->w.cell? (ad.add j)=some u)
  (U:g_ w Z i.size ys cs2) (hy:∀j u,cs2[j]? =some u->w.cell? (I.add j)=some u) (V:cap0<n+ys.length) (f3:(n+ys.length)*i.bytes<=140737488355328) (f4:n+ys.length<=maxLen):
  aZ P np o s a w L Z (.arr (t,0) (e,i.size) none false) s':=by
 have ac:n+ys.length<=9223372036854775807:=by simpa [maxLen]using f4
 have a0:=jv M;have O:=jv U;have a1:=grownCap_ge w (n+ys.length) cap0 e;have a6:=grownCap_le_maxLen w (n+ys.length) cap0 e f4;have hr:(Builtin.append_ #[ty,ty] o.type #[.slice A0 n cap0,.slice (some I) ys.length E]).run P w= .ok (.slice (some ⟨w.heap.size,0,none⟩) (n+ys.length) (grownCap w (n+ys.length) cap0 e))
   (w.drew.alloc (.cells (cs1.toArray++cs2.toArray++Builtin.zeroCells z.cells (grownCap w (n+ys.length) cap0 e-(n+ys.length))) e)):=by
  rcases hA with rfl | ⟨rfl,rfl,rfl⟩
  ·exact run_append_grow (P:=P) w ty o.type e i z hu hi S ad n cap0 cs1 (by rw[J];exact a0) hx I ys.length E cs2 O hy V (by omega) (growslice_fits V f3)
  have a7:xs=[]:=List.eq_nil_of_length_eq_zero J.symm;subst a7;have a8:cs1=[]:=by simpa only [g_]using M
  subst a8;have:=run_append_nil (P:=P) w ty o.type e i z hu hi S I ys.length E cs2 O hy (by omega) (by omega) (by rw[Nat.zero_add]at f3;omega);simpa using this
 have a3:(cs1.toArray++cs2.toArray++Builtin.zeroCells z.cells (grownCap w (n+ys.length) cap0 e-(n+ys.length)):Array Value).size=grownCap w (n+ys.length) cap0 e*i.size:=by
  rw[Array.size_append,Array.size_append,List.size_toArray,List.size_toArray,size_zeroCells,a5,a0,O,<-J,<-Nat.add_mul,<-Nat.add_mul];congr 1;omega
 obtain ⟨L',k1,k2,k3,k4,k5⟩:=JS (s:=s) (b:=w.heap.size) (cells:=cs1.toArray++cs2.toArray++Builtin.zeroCells z.cells (grownCap w (n+ys.length) cap0 e-(n+ys.length)))
  (w':=w.drew.alloc (.cells (cs1.toArray++cs2.toArray++Builtin.zeroCells z.cells (grownCap w (n+ys.length) cap0 e-(n+ys.length))) e)) h t0 hl ht rfl rfl rfl (by simp) (λk hk _=>heap_alloc_old w.drew _ k hk)
  ⟨λS=>by have:=(h.dis _ S).1;omega,λhl=>(by obtain ⟨q,ob,p1,p2⟩:=hl;have:=h.fJ p1 p2;omega),.inl (Nat.le_refl _)⟩ (heap_alloc_new w.drew _) (oO M U)
  (λj v hj=>by
   have h0:=(ax.1 hj).1;rw[Array.getElem?_append_left (by simpa using h0)];simpa using hj) (by rw[a3,List.length_append,<-J];exact Nat.mul_le_mul_right _ a1)
 refine aZ.value (a4 hr) k1 k2 ?_;simp only[RV];refine ⟨_,n+ys.length,_,xs++ys,rfl,⟨a1,a6⟩,λe=>(by cases e),yX k4,λ_=>by rw[List.length_append,J],λ_ _ e=>(by cases e),λe=>(by rw[k3]at e;cases e),λb' a9=> .inr ?_⟩;have:w.heap.size=b':=by have:some w.heap.size=some b':=k3.symm.trans a9;injection this
 subst this;exact ⟨by simp[br],by rw[k5,a3];simp[br]⟩
theorem ve {np t:Nat} {s':St} {o:Oper} {ty e:TypeId} {i:TypeInfo} {z:Value} {x y:Operand} {x' y':VX} {A B r:AV} (h:RS s a w L Z)
  (ho:o.op= .call { callee:= .builtin .append,args:= #[x,y],argTypes:= #[ty,ty] }) (hx:dr x x'=true) (hy:dr y y'=true)
  (hu:P.underlying ty=some (.slice e)) (hi:P.info? e=some i) (hz:i.zero=some z) (a7:z.cells.size=i.size) (ht:t<np)
  (e1:ev s.env x'=some A) (e2:ev s.env y'=some B)
  (es:aK (real call loop) s (some t) (.append (e,i.size) i.bytes x' y')=some (r,s')):aZ P np o s a w L Z r s':=by
 have hA:=aO h hx e1;have hB:=aO h hy e2;have O:∀{m:Value} {w':World},(Builtin.append_ #[ty,ty] o.type #[a.eval x,a.eval y]).run P w= .ok m w'->(execOp a.eval o).run P w= .ok (.value m) w':=by
  intro m w' hm;unfold execOp;rw[ho];simp[resolve,invoke,builtin,hm]
 simp only[aK,e1,e2]at es;split at es
 ·cases es
 rename_i ys a1;obtain ⟨A2,S,V,b2,b3⟩:=cZ h.obj hB a1;cases A with
 | emp=>
  simp only at es;split at es
  case h_2=>cases es
  rename_i a0;split at es
  case h_2=>cases es
  rename_i s2 hl;injection es with es;injection es with a8 a9;subst a8 a9;simp only[RV]at hA;obtain ⟨A0,hA⟩:=hA;by_cases E:ys=[]
  ·subst E;obtain ⟨L',k1,k2,k3,k4,_⟩:=x_ (s:=s) h (Tr.refl np _ _ _ _) hl ht;refine aZ.value (O (m:= .slice A0 0 0) (w':=w) (by rw[hA,V];exact kI hu hi (Nat.le_refl _))) k1 k2 ?_;simp only[RV];exact ⟨A0,0,0,[],rfl,⟨Nat.le_refl _,Nat.zero_le _⟩,λ_=>rfl,yX k4,λ_=>rfl,λ_ _ e=>(by cases e),λ_=>rfl,λb hb=>by rw[k3]at hb;cases hb⟩
  have M:=a0;simp only[real,aM.fits,af]at M;obtain ⟨f1,f2⟩:=M;obtain ⟨f3,f4⟩:=of_decide_eq_true f1;obtain ⟨b,off,cap,cs,U,c2,c3⟩:=source h.obj hB a1 f2 E;have ae:0<ys.length:=List.length_pos_iff.2 E;refine uz (s:=s) (A0:=A0) (n:=0) (cap0:=0) (xs:=[]) (ys:=ys) (cs1:=[]) (cs2:=cs) (ad:=A0.getD ⟨0,0,none⟩) h (Tr.refl np _ _ _ _) h (by simpa using hl) ht hu hi hz a7 (λhm=>O (by rw[hA,U];exact hm)) rfl ?_ (by simp only[g_]) (by simp) c2 c3 (by omega) (by rw[Nat.zero_add];exact f3) (by rw[Nat.zero_add];exact f4);cases A0 with
  | none=>exact .inr ⟨rfl,rfl,rfl⟩
  | some ad=>exact .inl rfl
 | arr q sz g u=>
  simp only at es;split at es
  case h_2=>cases es
  rename_i xs I;split at es
  case isFalse=>cases es
  rename_i hc;split at es
  case h_2=>cases es
  rename_i a0;split at es
  case h_2=>cases es
  rename_i s2 hl;injection es with es;injection es with a8 a9;subst a8 a9;simp only[af,decide_eq_true_eq]at hc;obtain ⟨az,am⟩:=hc;subst az;have aa:br g=0:=by
   cases g with
   | none=>rfl
   | some p=>obtain ⟨p1,p2⟩:=p;simp only[JQ,real,aM.isZero]at am;have:=of_decide_eq_true am;simp[br,this]
  obtain ⟨A1,J,d1,d2,d3⟩:=cZ h.obj hA I;have an:=hA;simp only[RV]at an;obtain ⟨a',n',cap',bd,m1,⟨m2,b0⟩,_,m4,_,_,m7,m8⟩:=an;rw[d1]at m1;injection m1 with q1 q2 q3;subst q1 q3;have hk:=h.kill q;have a4:=Tr.kill np s w L Z q;have m4:=CA I m4;have ao:=h.obj q _ m4;simp only[RO]at ao;have aw:(real call loop).app xs ys=xs++ys:=rfl;rw[aw]at hl a0;have M:=a0;simp only[real,aM.fits,af]at M;obtain ⟨f1,f2⟩:=M;obtain ⟨f3,f4⟩:=of_decide_eq_true f1;rw[List.all_append,af]at f2;rw[List.length_append]at f3 f4;have be:xs.length+ys.length<=9223372036854775807:=by simpa [maxLen]using f4
  cases hL:L q with
  | none=>
   have b5:=m7 hL;subst b5;have b6:xs=[]:=List.eq_nil_of_length_eq_zero (by omega);subst b6;by_cases E:ys=[]
   ·subst E;obtain ⟨L',k1,k2,k3,k4,_⟩:=x_ (s:=s) hk a4 (by simpa using hl) ht;refine aZ.value (O (m:= .slice A1 0 0) (w':=w) (by rw[d1,V];exact kI hu hi (Nat.le_refl _))) k1 k2 ?_;simp only[RV];exact ⟨A1,0,0,[],rfl,⟨Nat.le_refl _,Nat.zero_le _⟩,λ_=>rfl,yX k4,λ_=>rfl,λ_ _ e=>(by cases e),λ_=>rfl,λb hb=>by rw[k3]at hb;cases hb⟩
   obtain ⟨b,off,cap,cs,U,c2,c3⟩:=source h.obj hB a1 f2.2 E;have ae:0<ys.length:=List.length_pos_iff.2 E;refine uz (s:=s) (A0:=A1) (n:=0) (cap0:=0) (xs:=[]) (ys:=ys) (cs1:=[]) (cs2:=cs) (ad:=A1.getD ⟨0,0,none⟩) hk a4 h hl ht hu hi hz a7 (λhm=>O (by rw[d1,U];exact hm)) rfl ?_ (by simp only[g_]) (by simp) c2 c3 (by omega) (by simpa using f3) (by simpa using f4);cases A1 with
   | none=>exact .inr ⟨rfl,rfl,rfl⟩
   | some ad=>exact .inl rfl
  | some b=>
   rcases m8 b hL with ⟨_,z1⟩ | ⟨z1,z2⟩
   ·exact (z1 aa).elim
   rw[aa]at z1 z2;simp only[Nat.zero_mul,Nat.zero_add]at z1 z2;subst z1;obtain ⟨vs,p1,p2,p3⟩:=ao.2 b hL;have ac:b_ w b=vs.size:=by simp[b_,p1]
   have b7:¬aY (s.kill q).sto L b:=gY h m4 (.inl hL);have b8:¬Z b:=λhz=>(h.dis b hz).2 ⟨q,_,m4,.inl hL⟩
   have b9:aY s.sto L b:=⟨q,_,m4,.inl hL⟩
   obtain ⟨
       cs1,o1,o2⟩:∃cs1,g_ w Z i.size xs cs1/\∀j u,cs1[j]? =some u->w.cell? ⟨b,j,none⟩=some u:=by
    have hR:Rows w Z xs b 0 i.size:=by
     simp only[content,m4]at I;cases g with
     | none=>simp only at I;injection I with I;rw[<-I];exact p3
     | some p=>
      obtain ⟨x0,n0⟩:=p;simp only[real,aM.sub,Cz]at I;split at I
      ·injection I with I;rw[<-I];have:x0.toNat=0:=by simpa [br]using aa
       rw[this];exact nP _ (by simpa using p3)
      cases I
    obtain ⟨cs1,o1,o2⟩:=tX hR;exact ⟨cs1,o1,λj u hj=>by have:=o2 j u hj;rwa [Nat.zero_add]at this⟩
   have ag:=jv o1;have hcell:∀j,w.cell? ⟨b,j,none⟩=vs[j]? :=λj=>by simp[World.cell?,p1]
   by_cases hroom:xs.length+ys.length<=J
   ·obtain ⟨ap,cs2,U,c2,c3⟩:∃A cs2,a.eval y= .slice A ys.length S/\g_ w Z i.size ys cs2/\(∀ad,A=some ad->∀j u,cs2[j]? =some u->w.cell? (ad.add j)=some u):=by
     by_cases E:ys=[]
     ·subst E;exact ⟨A2,[],V,by simp only[g_],by simp⟩
     obtain ⟨b',off,cap,cs,U,c2,c3⟩:=source h.obj hB a1 f2.2 E;have:cap=S:=by rw[U]at V;injection V
     subst this;exact ⟨_,cs,U,c2,λad e=>by injection e with e;subst e;exact c3⟩
    have a5:=jv c2;have a6:xs.length*i.size+cs2.length<=vs.size:=by rw[a5,<-Nat.add_mul,<-ac,<-z2];exact Nat.mul_le_mul_right _ hroom
    have hr:(Builtin.append_ #[ty,ty] o.type #[.slice (some ⟨b,0,none⟩) xs.length J,.slice ap ys.length S]).run P w= .ok (.slice (some ⟨b,0,none⟩) (xs.length+ys.length) J)
      (w.setRow b (vs.toList.take (xs.length*i.size)++cs2++vs.toList.drop (xs.length*i.size+cs2.length)).toArray):=by
     cases ap with
     | none=>
      have E:ys=[]:=by
       rcases b3 with b3 | ⟨_,_,_,b4,_⟩
       ·exact b3
       rw[U]at V;injection V with V;rw[<-V]at b4;cases b4
      subst E;have:cs2=[]:=by simpa only [g_]using c2
      subst this;have:=kI (P:=P) (w:=w) (ty:=o.type) hu hi (A:=some ⟨b,0,none⟩) (A2:=none) (n:=xs.length) (cap:=J) (c2:=S) d2;simp only[List.length_nil,Nat.add_zero,List.append_nil,List.take_append_drop]at this |-;rw[this];congr 1;exact (setRow_self w b vs e (0,0) p1).symm
     | some ad=>exact run_append_room (P:=P) w ty o.type e i hu hi b xs.length J vs p1 ad ys.length S cs2 a5 (c3 ad rfl) (wE c2) hroom a6
    have a3:lay vs.toList (xs.length*i.size) cs2=some (vs.toList.take (xs.length*i.size)++cs2++vs.toList.drop (xs.length*i.size+cs2.length)):=by unfold lay;rw[if_pos (by simpa using a6)]
    obtain ⟨L',k1,k2,k3,k4,k5⟩:=JS (s:=s) (b:=b) (cells:=(vs.toList.take (xs.length*i.size)++cs2++vs.toList.drop (xs.length*i.size+cs2.length)).toArray)
     (w':=w.setRow b (vs.toList.take (xs.length*i.size)++cs2++vs.toList.drop (xs.length*i.size+cs2.length)).toArray) hk a4 hl ht rfl rfl rfl (by simp) (λk _ hk=>setRow_other _ _ _ _ hk)
     ⟨b8,b7,.inr b9⟩ (setRow_heap w b vs _ e (0,0) p1) (oO o1 c2)
     (λj v hj=>by
      simp only[List.getElem?_toArray];rw[d9 a3];rw[List.getElem?_append]at hj;split at hj
      ·rename_i bb;rw[if_neg (by omega)];have:=o2 j v hj;rw[hcell]at this;simpa using this
      ·rename_i bb;have:=(ax.1 hj).1;rw[if_pos (by omega),<-ag];exact hj) (by
      have:=jY a3;simp only[List.size_toArray,this,Array.length_toList,List.length_append,Nat.add_mul];omega)
    refine aZ.value (O (by rw[d1,U];exact hr)) k1 k2 ?_;simp only[RV];refine ⟨_,xs.length+ys.length,J,xs++ys,rfl,⟨hroom,b0⟩,λe=>(by cases e),yX k4,λ_=>by rw[List.length_append],λ_ _ e=>(by cases e),λe=>(by rw[k3]at e;cases e),λb' bc=> .inr ?_⟩;have:b=b':=by have:some b=some b':=k3.symm.trans bc;injection this
    subst this;refine ⟨by simp[br],?_⟩;rw[k5];have:=jY a3;simp only[List.size_toArray,this,Array.length_toList,br,Nat.zero_add];rw[z2,ac]
   have E:ys≠[]:=by rintro rfl;exact hroom (by simpa using d2)
   obtain ⟨b',off,cap,cs,U,c2,c3⟩:=source h.obj hB a1 f2.2 E;exact uz (s:=s) (A0:=some ⟨b,0,none⟩) (n:=xs.length) (cap0:=J) (xs:=xs) (ys:=ys) (cs1:=cs1) (cs2:=cs) (ad:=⟨b,0,none⟩) hk a4 h hl ht hu hi hz a7 (λhm=>O (by rw[d1,U];exact hm)) rfl (.inl rfl) o1 (λj u hj=>by rw[add_plain,Nat.zero_add];exact o2 j u hj) c2 c3 (by omega) f3 f4
 | _=>simp at es
end
section
section
variable {P:Program} {call:dh} {loop:di}
variable {s:St} {a:Act} {w:World} {L:Loc} {Z:Nat->Prop}
theorem AH (off:Nat):∀(vs:List Value) (k:Nat) (cells:Array Value),off+k+vs.length<=cells.size->
  ((vs.zipIdx k).foldl (λcs (p:Value×Nat)=>cs.setIfInBounds (off+p.2) p.1) cells).toList=cells.toList.take (off+k)++vs++cells.toList.drop (off+k+vs.length)
 | [],k,cells,_=>by simp
 | v::vs,k,cells,h=>by
  simp only[List.zipIdx_cons,List.foldl_cons];rw[AH off vs (k+1) _ (by simp at h |-;omega)];simp only[Array.toList_setIfInBounds];have:=list_seg_step cells.toList (off+k) v vs (by simp at h |-;omega);rw[show off+(k+1)=off+k+1 by omega,this];simp
theorem RS.push (h:RS s a w L Z) (np:Nat) {o:Go.Obj} {w':World} (I:w'.heap=w.heap.push o) (M:w'.os=w.os) (O:w'.tape=w.tape) (S:w'.output=w.output):
  RS s a w' L Z/\Tr np s.sto s.sto w w' L L Z Z/\∀q,(s.sto.get q).isSome->Same (aI w Z L s.sto) (aI w' Z L s.sto) q:=by
 have hk:∀b,b<w.heap.size->w'.heap[b]? =w.heap[b]? :=λb e=>by rw[I,Array.getElem?_push,if_neg (by omega)]
 have U:ko w w' Z Z:=λb e=>⟨e,hk b (h.dis b e).1⟩
 have E:∀q,(s.sto.get q).isSome->Same (aI w Z L s.sto) (aI w' Z L s.sto) q:=λq j=>by
  obtain ⟨ob,ho⟩:=Option.isSome_iff_exists.1 j;exact ⟨rfl,λk=>k,λsz xs k=>⟨xs,k,rfl⟩,λb e _=>dP (hk b (h.block_lt ho e))⟩
 refine ⟨⟨h.defers,cO (c:=aI w Z L s.sto) (c':=aI w' Z L s.sto) U _ _ (λq j=>E q (eE _ _ h.env q j)) h.env,λr ob J=> ?_,h.injH,λb e=>⟨by rw[I];simp;have:=(h.dis b e).1;omega,(h.dis b e).2⟩⟩,
  ⟨M,O,S,by rw[I];simp,λb e _=>hk b e,λ_ h=> .inl h,λ_ h=>h,λ_ h=> .inl h,λ_ _=>rfl,λq _ j=>⟨j,E q j⟩⟩,E⟩
 exact jr (c:=aI w Z L s.sto) (c':=aI w' Z L s.sto) U rfl rfl (λb e=>hk b (h.fJ J e)) (λq j=>E q (kV (h.obj r ob J) q j)) (h.obj r ob J)
theorem PW {c:Cx} {x:AV} {d:D} {v:Value} (e:JO x=some d) (I:Tq c x v):RD c.w c.Z d v.cells.toList:=by
 cases x with
 | d y=>
  simp only[JO]at e;injection e with e;subst e;have h:=I (by simp[AV.refs]);have:=ql h (by simp) (by simp) (by simp);simp only[AV.cells,dH]at this;obtain ⟨u,us,J,E,h3⟩:=this;rw[J,h3];simpa only [RV]using E
 | agg cs=>
  simp only[JO]at e;split at e
  ·rename_i ds j;injection e with e;subst e;have h:=I (by simp[AV.refs,tW j]);simp only[RV]at h;obtain ⟨vs,rfl,E⟩:=h;simp only[RD,Value.cells];exact Fh j E
  cases e
 | _=>simp[JO]at e
theorem BW {c:Cx}:∀{xs:List AV} {ds:List D} {vs:List Value},pX xs=some ds->R8 c xs vs->ds.length=vs.length/\∀(i:Nat) (d:D) (v:Value),ds[i]? =some d->vs[i]? =some v->RD c.w c.Z d v.cells.toList
 | [],ds,vs,e,h=>by
  simp only[pX]at e;injection e with e;subst e;have:=h (by simp[AV.bR]);simp only[dH]at this;subst this;simp
 | x::xs,ds,vs,e,h=>by
  simp only[pX]at e;split at e
  case h_2=>cases e
  rename_i d E;split at e
  case h_2=>cases e
  rename_i ds' J;injection e with e;subst e;have U:x.refs=[]:=by
   cases x with
   | d y=>rfl
   | agg cs=>
        simp only[JO]at E;split at E
        ·rename_i q;simp[AV.refs,tW q]
        cases E
   | _=>simp[JO]at E
  have M:∀{l:List AV} {e:List D},pX l=some e->AV.bR l=[]:=by
   intro l;induction l with
   | nil=>intro e _;rfl
   | cons y l V=>
    intro e I;simp only[pX]at I;split at I
    ·rename_i d2 j;split at I
     ·rename_i e2 O;have hy:y.refs=[]:=by
       cases y with
       | d y=>rfl
       | agg cs=>
          simp only[JO]at j;split at j
          ·rename_i q;simp[AV.refs,tW q]
          cases j
       | _=>simp[JO]at j
      simp[AV.bR,hy,V O]
     cases I
    cases I
  have S:=h (by simp[AV.bR,U,M J]);simp only[dH]at S;obtain ⟨v,vs',rfl,h1,h2⟩:=S;obtain ⟨k1,k2⟩:=BW J (λ_=>h2);refine ⟨by simp[k1],λi d' v' a b=> ?_⟩;cases i with
  | zero=>simp at a b;subst a b;exact PW E λ_=>h1
  | succ i=>simp at a b;exact k2 i d' v' a b
end
end
section
section
variable {P:Program} {call:dh} {loop:di}
variable {s:St} {a:Act} {w:World} {L:Loc} {Z:Nat->Prop}
theorem qA {place:Nat->Option (Nat×Nat)} {cells:Array Value} {i:Nat} {v:Value} {rest:List (Nat×Value)} {off:Nat} (E:place i=some (off,v.cells.size)) (I:off+v.cells.size<=cells.size):
  Instr.fill place cells ((i,v)::rest)=Instr.fill place (cells.toList.take off++v.cells.toList++cells.toList.drop (off+v.cells.toList.length)).toArray rest:=by
 have e:v.cells.zipIdx.foldl (λcs (p:Value×Nat)=>cs.setIfInBounds (off+p.2) p.1) cells=(cells.toList.take off++v.cells.toList++cells.toList.drop (off+v.cells.toList.length)).toArray:=by
  apply Array.ext';rw[<-Array.foldl_toList,Array.toList_zipIdx];have:=AH off v.cells.toList 0 cells (by simpa using I);simp only[Nat.add_zero]at this;rw[this]
 simp only[Instr.fill,E];rw[if_neg (by simp;omega)];rw[show (v.cells.zipIdx.foldl (λcs (x:Value×Nat)=>match x with | (c,j)=>cs.setIfInBounds (off+j) c) cells)=_ from e]
theorem Gi {sz:Nat}:∀{xs:List D} {cs:List Value} (i:Nat) {x:D} {us:List Value},g_ w Z sz xs cs->i<xs.length->RD w Z x us->us.length=sz->
  g_ w Z sz (xs.set i x) (cs.take (i*sz)++us++cs.drop (i*sz+us.length))
 | [],_,i,_,_,_,h,_,_=>by simp at h
 | y::ys,cs,0,x,us,h,_,E,hl=>by
  simp only[g_]at h;obtain ⟨e,c2,rfl,j,I,h3⟩:=h;simp only[List.set_cons_zero,g_,Nat.zero_mul,List.take_zero,List.nil_append,Nat.zero_add];exact ⟨us,c2,by rw[hl,<-j,List.drop_left],hl,E,h3⟩
 | y::ys,cs,i+1,x,us,h,hi,E,hl=>by
  simp only[g_]at h;obtain ⟨e,c2,rfl,j,I,h3⟩:=h;have J:=Gi i h3 (by simpa using hi) E hl;simp only[List.set_cons_succ,g_];refine ⟨e,_,?_,j,I,J⟩;have M:(i+1)*sz=e.length+i*sz:=by rw[Nat.succ_mul,j];omega
  rw[M,List.take_length_add_append,show e.length+i*sz+us.length=e.length+(i*sz+us.length) by omega,List.drop_length_add_append];simp
theorem om {sz:Nat}:∀{ps:List (Nat×Value)} {ds xs xs':List D} {cells:Array Value},ds.length=ps.length->
  (∀(i:Nat) (d:D) (v:Value),ds[i]? =some d->(ps.map (·.2))[i]? =some v->RD w Z d v.cells.toList)->g_ w Z sz xs cells.toList->jn sz xs ((ps.map (·.1)).zip ds)=some xs'->
  ∃cells',Instr.fill (λi=>some (i*sz,sz)) cells ps=some cells'/\g_ w Z sz xs' cells'.toList
 | [],ds,xs,xs',cells,hl,_,hc,e=>by
  simp only[List.map_nil,List.zip_nil_left,jn]at e;injection e with e;subst e;exact ⟨cells,rfl,hc⟩
 | (i,v)::ps,[],xs,xs',cells,hl,_,hc,e=>by simp at hl
 | (i,
    v)::ps,d::ds,xs,xs',cells,hl,I,hc,e=>by
  simp only[List.map_cons,List.zip_cons_cons,jn]at e;split at e
  case isFalse=>cases e
  rename_i hcond;simp only[af,decide_eq_true_eq,beq_iff_eq]at hcond;obtain ⟨hi,J⟩:=hcond;have M:=I 0 d v rfl rfl;have E:v.cells.toList.length=sz:=by rw[BV M,J]
  have O:=jv hc;have S:i*sz+v.cells.size<=cells.size:=by
   have:(i+1)*sz<=xs.length*sz:=Nat.mul_le_mul_right _ hi;rw[Nat.succ_mul]at this;simp at E O;omega
  rw[qA (off:=i*sz) (by simp at E;rw[E]) S];exact om (by simpa using hl) (λj d' v' p q=>I (j+1) d' v' (by simpa using p) (by simpa using q)) (Gi i hc hi M E) e
def jV:List (Nat×Operand)->List (Nat×VX)->Bool
 | [],[]=>true
 | (i,x)::l,(j,y)::r=>i==j&&dr x y&&jV l r
 | _,_=>false
theorem p9 (h:RS s a w L Z):∀{ps:List (Nat×Operand)} {qs:List (Nat×VX)} {r:List (Nat×AV)},jV ps qs=true->dw s.env qs=some r->
  r.map (·.1)=ps.map (·.1)/\dH (aI w Z L s.sto) (r.map (·.2)) (ps.map λp=>a.eval p.2)
 | [],[],r,_,e=>by simp only[dw]at e;injection e with e;subst e;simp[dH]
 | (i,
    x)::ps,(j,y)::qs,r,hk,e=>by
  simp only[jV,af,beq_iff_eq]at hk;obtain ⟨⟨rfl,E⟩,I⟩:=hk;simp only[dw]at e;split at e
  case h_2=>cases e
  rename_i u J;split at e
  case h_2=>cases e
  rename_i r' M;injection e with e;subst e;obtain ⟨O,k2⟩:=p9 h I M;simp only[List.map_cons,O,true_and,dH];exact ⟨_,_,rfl,aO h E J,k2⟩
 | [],_::_,_,hk,_=>by simp[jV]at hk
 | _::_,[],_,hk,_=>by simp[jV]at hk
theorem oS {np t:Nat} {s':St} {o:Oper} {ty e:TypeId} {i:TypeInfo} {z:Value} {agg:Bool} {zero:List AV} {len:Nat} {ps:Array (Nat×Operand)} {qs:List (Nat×VX)} {r:AV}
  (h:RS s a w L Z) (ho:o.op= .buildSlice ty len ps) (hp:jV ps.toList qs=true) (hu:P.underlying ty=some (.slice e)) (hi:P.info? e=some i) (hz:i.zero=some z) (a5:z.cells.size=i.size) (a6:0<i.size)
  (a9:eF z.cells.toList zero=true) (ap:len*i.size<=2^24) (ht:t<np)
  (es:aK (real call loop) s (some t) (.buildSlice (e,i.size) agg zero len qs)=some (r,s')):aZ P np o s a w L Z r s':=by
 simp only[aK]at es;split at es
 case h_2=>cases es
 rename_i vs t' aa M;injection M with M;subst M;split at es
 case isFalse=>cases es
 split at es
 case h_2=>cases es
 rename_i dz ac;split at es
 case h_2=>cases es
 rename_i zd ae;split at es
 case h_2=>cases es
 rename_i as s2 ag;split at es
 case h_2=>cases es
 rename_i ds am;obtain ⟨m1,m2⟩:=p9 h hp aa;obtain ⟨Z',f1,f2,f3,f4⟩:=lm np (vs.map (·.2)) _ s s2 as Z h (Kept.refl _ _ _ _) m2 ag;obtain ⟨q1,q2⟩:=BW am f4;have J:g_ w Z' i.size (List.replicate len zd) ((Array.range (len*i.size)).map (λj=>z.cells[j%z.cells.size]!)).toList:=by
  have an:RD w Z' zd z.cells.toList:=by
   apply kg;rw[nR ae];exact qM (c:=⟨w,Z',L,s2.sto.get⟩) a9 ac
  have:=range_zero z.cells len (by omega);rw[a5]at this |-;rw[this];exact iF an (by simp[a5]) len
 have a7:vs.map (·.1)=((ps.map λp=>(p.1,a.eval p.2)).toList).map (·.1):=by rw[m1];simp
 have O:∀{cells':Array Value},Instr.fill (λS=>some (S*i.size,i.size)) ((Array.range (len*i.size)).map (λj=>z.cells[j%z.cells.size]!)) ((ps.map λp=>(p.1,a.eval p.2)).toList)=some cells'->
   (execOp a.eval o).run P w= .ok (.value (.slice (some ⟨w.heap.size,0,none⟩) len len)) { w with heap:=w.heap.push (.cells cells' e) }:=by
  intro cells' E;refine eJ (m:=Instr.buildSlice ty len (ps.map λp=>(p.1,a.eval p.2))) (by unfold execOp;rw[ho]) ?_;unfold Instr.buildSlice;by_cases h0:len*i.size=0
  ·have e0:(Array.range (len*i.size)).map (λj=>z.cells[j%z.cells.size]!)= #[]:=by rw[h0];simp
   rw[e0]at E;have I:Instr.fill (λS=>some (S*i.size,i.size)) #[] (List.map (λp=>(p.fst,a.eval p.snd)) ps.toList)=some cells':=by simpa using E
   simp only[Sem.run_bind,run_underlying hu,Result.andThen,sizeOf,typeInfo,Sem.run_pure];have e1:Array.map (λ_=>(default:Value)) (Array.range 0)= #[]:=Array.ext' (by simp);simp[hi,h0,newRow,e1,I]
  have hn:¬(len*i.size>16777216):=by omega
  simp only[Sem.run_bind,run_underlying hu,Result.andThen,sizeOf,typeInfo,Sem.run_pure];have I:=E;simp only[Array.toList_map]at I;simp[hi,h0,hn,newRow,zeroValue,typeInfo,hz,I]
 have U:ds.length=((ps.map λp=>(p.1,a.eval p.2)).toList).length:=by rw[q1];simp
 have V:∀(j:Nat) (d:D) (v:Value),ds[j]? =some d->(((ps.map λp=>(p.1,a.eval p.2)).toList).map (·.2))[j]? =some v->RD w Z' d v.cells.toList:=by
  intro j d v p q;refine q2 j d v p ?_;simpa using q
 rw[a7]at es;split at es
 case h_3=>cases es
 case h_1 E=>
  injection es with es;injection es with a0 a1;subst a0 a1;obtain ⟨cells',c1,c2⟩:=om U V J E;have ao:len=0:=by
   have:∀{ps:List (Nat×D)} {xs:List D},jn i.size xs ps=some []->xs=[]:=by
    intro ps;induction ps with
    | nil=>intro xs e;simpa [jn]using e
    | cons p ps ih=>
     intro xs e;obtain ⟨p1,p2⟩:=p;simp only[jn]at e;split at e
     ·have:=ih e;simpa using this
     cases e
   have:=this E;simpa using this
  obtain ⟨k1,k2,_⟩:=RS.push f1 np (w':={ w with heap:=w.heap.push (.cells cells' e) }) rfl rfl rfl rfl;refine aZ.value (O c1) k1 (f2.trans k2) ?_;rw[ao];simp only[RV];exact ⟨_,rfl⟩
 rename_i x xs E;obtain ⟨cells',c1,c2⟩:=om U V J E;split at es
 case h_2=>cases es
 rename_i s3 hl;injection es with es;injection es with a0 a1;subst a0 a1;have a3:(x::xs).length=len:=by
  have:∀{ps:List (Nat×D)} {xs ys:List D},jn i.size xs ps=some ys->ys.length=xs.length:=by
   intro ps;induction ps with
   | nil=>intro xs ys e;simp only[jn]at e;injection e with e;rw[e]
   | cons p ps ih=>
    intro xs ys e;obtain ⟨p1,p2⟩:=p;simp only[jn]at e;split at e
    ·have:=ih e;simpa using this
    cases e
  have:=this E;simpa using this
 have a4:=jv c2;obtain ⟨L',k1,k2,k3,k4,k5⟩:=uV (np:=np) (cells:=cells') (w':={ w with heap:=w.heap.push (.cells cells' e) }) f1 hl ht rfl rfl rfl rfl c2 (λj v hj=>by rw[<-Array.getElem?_toList];exact hj) (by simp at a4 |-;omega);refine aZ.value (O c1) k1 (f2.trans k2) ?_;simp only[RV];have a8:len<=maxLen:=by
  have:len<=len*i.size:=Nat.le_mul_of_pos_right _ a6;unfold maxLen;omega
 refine ⟨_,len,len,x::xs,rfl,⟨Nat.le_refl _,a8⟩,λ_=>rfl,yX k4,λ_=>a3.symm,λx m e=>(by cases e),λe=>(by rw[k3]at e;cases e),λb hb=> ?_⟩;have:w.heap.size=b:=by have:some w.heap.size=some b:=k3.symm.trans hb;injection this
 subst this;right;refine ⟨by simp[br],?_⟩;rw[k5];simp[br];simp at a4;rw[a4,<-a3];simp
theorem vg {np:Nat} {o:Oper} {ty e:TypeId} {i:TypeInfo} {z:Value} {agg:Bool} {zero:List AV} {len:Nat} {ps:Array (Nat×Operand)} {qs:List (Nat×VX)} {r:AV} {new:List (Option Obj)}
  (h:RS s a w L Z) (ho:o.op= .buildSlice ty len ps) (hp:jV ps.toList qs=true) (hu:P.underlying ty=some (.slice e)) (hi:P.info? e=some i) (hz:i.zero=some z) (U:z.cells.size=i.size) (V:0<i.size)
  (a6:eF z.cells.toList zero=true) (an:len*i.size<=2^24)
  (es:evalOp (real call loop) s.env s.sto (.buildZ (e,i.size) agg zero len qs)=some (r,new)):new=[]/\aZ P np o s a w L Z r s:=by
 simp only[evalOp]at es;split at es
 case h_2=>cases es
 rename_i vs a7;split at es
 case h_2=>cases es
 rename_i dz a8;split at es
 case h_2=>cases es
 rename_i zd a9;split at es
 case h_2=>cases es
 rename_i ds aa;obtain ⟨m1,m2⟩:=p9 h hp a7;obtain ⟨q1,q2⟩:=BW (c:=aI w Z L s.sto) aa (λ_=>m2);have S:g_ w Z i.size (List.replicate len zd) ((Array.range (len*i.size)).map (λj=>z.cells[j%z.cells.size]!)).toList:=by
  have ac:RD w Z zd z.cells.toList:=by
   apply kg;rw[nR a9];exact qM (c:=aI w Z L s.sto) a6 a8
  have:=range_zero z.cells len (by omega);rw[U]at this |-;rw[this];exact iF ac (by simp[U]) len
 have a0:vs.map (·.1)=((ps.map λp=>(p.1,a.eval p.2)).toList).map (·.1):=by rw[m1];simp
 have a1:∀{cells':Array Value},Instr.fill (λM=>some (M*i.size,i.size)) ((Array.range (len*i.size)).map (λj=>z.cells[j%z.cells.size]!)) ((ps.map λp=>(p.1,a.eval p.2)).toList)=some cells'->
   (execOp a.eval o).run P w= .ok (.value (.slice (some ⟨w.heap.size,0,none⟩) len len)) { w with heap:=w.heap.push (.cells cells' e) }:=by
  intro cells' E;refine eJ (m:=Instr.buildSlice ty len (ps.map λp=>(p.1,a.eval p.2))) (by unfold execOp;rw[ho]) ?_;unfold Instr.buildSlice;by_cases h0:len*i.size=0
  ·have e0:(Array.range (len*i.size)).map (λj=>z.cells[j%z.cells.size]!)= #[]:=by rw[h0];simp
   rw[e0]at E;have I:Instr.fill (λM=>some (M*i.size,i.size)) #[] (List.map (λp=>(p.fst,a.eval p.snd)) ps.toList)=some cells':=by simpa using E
   simp only[Sem.run_bind,run_underlying hu,Result.andThen,sizeOf,typeInfo,Sem.run_pure];have e1:Array.map (λ_=>(default:Value)) (Array.range 0)= #[]:=Array.ext' (by simp);simp[hi,h0,newRow,e1,I]
  have hn:¬(len*i.size>16777216):=by omega
  simp only[Sem.run_bind,run_underlying hu,Result.andThen,sizeOf,typeInfo,Sem.run_pure];have I:=E;simp only[Array.toList_map]at I;simp[hi,h0,hn,newRow,zeroValue,typeInfo,hz,I]
 have a3:ds.length=((ps.map λp=>(p.1,a.eval p.2)).toList).length:=by rw[q1];simp
 have a4:∀(j:Nat) (d:D) (v:Value),ds[j]? =some d->(((ps.map λp=>(p.1,a.eval p.2)).toList).map (·.2))[j]? =some v->RD w Z d v.cells.toList:=by
  intro j d v p q;refine q2 j d v p ?_;simpa using q
 rw[a0]at es;split at es
 case h_2=>cases es
 rename_i ys E;injection es with es;injection es with ae ag;subst ae ag;obtain ⟨cells',c1,c2⟩:=om a3 a4 S E;have O:ys.length=len:=by
  have:∀{ps:List (Nat×D)} {xs ys:List D},jn i.size xs ps=some ys->ys.length=xs.length:=by
   intro ps;induction ps with
   | nil=>intro xs ys e;simp only[jn]at e;injection e with e;rw[e]
   | cons p ps ih=>
    intro xs ys e;obtain ⟨p1,p2⟩:=p;simp only[jn]at e;split at e
    ·have:=ih e;simpa using this
    cases e
  have:=this E;simpa using this
 have ao:len<=maxLen:=by
  have:len<=len*i.size:=Nat.le_mul_of_pos_right _ V;unfold maxLen;omega
 obtain ⟨k1,k2,_⟩:=RS.push h np (w':={ w with heap:=w.heap.push (.cells cells' e) }) rfl rfl rfl rfl;have am:¬aY s.sto L w.heap.size:=λhl=>by obtain ⟨q,ob,p1,p2⟩:=hl;have:=h.fJ p1 p2;omega
 have k3:=k1.P7 (λb=>b=w.heap.size) (λb J=>by subst J;exact ⟨by simp,am⟩);have a5:ko w { w with heap:=w.heap.push (.cells cells' e) } Z (λb=>Z b\/b=w.heap.size):=λb J=>⟨.inl J,by
  have:=(h.dis b J).1;show (w.heap.push _)[b]? =_;rw[Array.getElem?_push,if_neg (by omega)]⟩
 refine ⟨rfl,aZ.value (a1 c1) k3 ⟨k2.os,k2.tape,k2.output,k2.size,k2.keep,k2.lives,λb J=> .inl J,λb J=> ?_,k2.par,λr hr hs=> ?_⟩ ?_⟩
 ·rcases J with J | J
  ·exact .inl J
  subst J;exact .inr (.inl (Nat.le_refl _))
 ·exact ⟨hs,(k2.psame r hr hs).2⟩
 simp only[RV,RD];refine ⟨_,len,by rw[O],by rw[O];exact Nat.le_refl _,.inr ⟨w.heap.size,0,i.size,rfl,.inr rfl,?_⟩⟩;refine qo (qm a5 c2) λj v hj=> ?_
 simp only[World.cell?,Nat.zero_add];simp at hj |-;exact hj
end
end
section
section
variable {P:Program} {call:dh} {loop:di}
variable {s:St} {a:Act} {w:World} {L:Loc} {Z:Nat->Prop}
theorem BX {n:Nat}:∀{xs:List D} {vs:List Value} {F:List Nat},jo w Z n xs vs F->g_ w Z n xs (vs.take (xs.length*n))
 | [],vs,F,_=>by simp only[List.length_nil,Nat.zero_mul,List.take_zero,g_]
 | x::xs,vs,F,h=>by
  simp only[jo]at h;obtain ⟨F1,F2,e,_,j,h3⟩:=h;have E:=BX h3;simp only[g_];refine ⟨vs.take n,(vs.drop n).take (xs.length*n),?_,by simp[e],Oi x _ F1 j,E⟩;rw[List.length_cons,Nat.succ_mul,Nat.add_comm,List.take_add]
theorem BZ {np t:Nat} {s1 s':St} {w':World} {e sz b:Nat} {xs:List D} {cells:Array Value} {F:List Nat} (h:RS s1 a w L Z) (t0:Tr np s.sto s1.sto w w L L Z Z) (hl:s1.lay t [some (.orows (e,sz) xs)]=some s') (ht:t<np)
  (J:w'.os=w.os) (M:w'.tape=w.tape) (O:w'.output=w.output) (hsize:w.heap.size<=w'.heap.size) (hkeep:∀k,k<w.heap.size->k≠b->w'.heap[k]? =w.heap[k]?)
  (E:¬Z b/\¬aY s1.sto L b/\(w.heap.size<=b\/aY s.sto L b))
  (j:w'.heap[b]? =some (.cells cells e)) (S:jo w' Z sz xs cells.toList F) (hF:(b::F).Nodup) (U:∀k∈F,¬Z k/\aY s.sto L k/\¬aY s1.sto L k/\k<w.heap.size) (I:xs.length*sz<=cells.size):
  ∃L',RS s' a w' L' Z/\Tr np s.sto s'.sto w w' L L' Z Z/\L' (t,0)=some b/\s'.sto.get (t,0)=some (.orows (e,sz) xs)/\b_ w' b=cells.size:=by
 have V:b<w'.heap.size:=(Array.getElem?_eq_some_iff.1 j).1;obtain ⟨h1,h2,_,_⟩:=RS.HM (s0:=s) (np:=np) (nb:=some b) (w':=w') (N:=λk=>k∈F) h t0 hl ht J M O hsize (λk hk a0=>hkeep k hk λe=>a0 (by rw[e]))
  (λk hk=>by injection hk with hk;subst hk;exact ⟨E.1,E.2.1,V,E.2.2⟩) (λk _ hk=>by
   obtain ⟨p1,p2,p3,p4⟩:=U k hk;exact ⟨p1,p3,Nat.lt_of_lt_of_le p4 hsize,.inr p2⟩) (by
   simp only[RO];refine ⟨λk=>(by rw[cK]at k;cases k),λk hk=> ?_⟩;rw[cK]at hk;injection hk with hk;subst hk;exact ⟨cells,F,j,I,S,hF,λk=>by rw[jM]⟩)
 refine ⟨_,h1,h2,cK _ _ _ _,?_,by simp[b_,j]⟩;rw[dX (eU hl).1];simp
theorem Dp {np t:Nat} {s':St} {o:Oper} {ty e:TypeId} {i:TypeInfo} {z:Value} {x:Operand} {x':VX} {r:AV}
  (h:RS s a w L Z) (ho:o.op= .buildSlice ty 1 #[(0,x)]) (hx:dr x x'=true) (hu:P.underlying ty=some (.slice e)) (hi:P.info? e=some i) (S:i.zero=some z) (ae:z.cells.size=i.size) (a9:0<i.size)
  (aa:i.size<=2^24) (ht:t<np)
  (es:aK (real call loop) s (some t) (.buildO (e,i.size) x')=some (r,s')):aZ P np o s a w L Z r s':=by
 simp only[aK]at es;split at es
 case h_2=>cases es
 rename_i cs t' a1 I;injection I with I;subst I;split at es
 case h_2=>cases es
 rename_i ds s2 U;split at es
 case isFalse=>cases es
 rename_i ac;split at es
 case h_2=>cases es
 rename_i s3 hl;injection es with es;injection es with a3 a4;subst a3 a4;have J:=aO h hx a1;simp only[RV]at J;obtain ⟨vs,J,a5⟩:=J;obtain ⟨M,f2,f3,F,f4,f5,f6⟩:=rX np cs vs s s2 ds h (Kept.refl _ _ _ _) a5 U;have ag:=wD f4;have a6:(a.eval x).cells.size=i.size:=by rw[J];simp[Value.cells];omega
 have V:(execOp a.eval o).run P w= .ok (.value (.slice (some ⟨w.heap.size,0,none⟩) 1 1)) { w with heap:=w.heap.push (.cells vs.toArray e) }:=by
  refine eJ (m:=Instr.buildSlice ty 1 #[(0,a.eval x)]) (by unfold execOp;rw[ho];simp) ?_;unfold Instr.buildSlice;have h0:¬(i.size=0):=by omega
  have hn:¬(16777216<i.size):=by omega
  simp only[Sem.run_bind,run_underlying hu,Result.andThen,sizeOf,typeInfo,Sem.run_pure];have E:Instr.fill (λk=>some (k*i.size,i.size)) ((Array.range (1*i.size)).map (λj=>z.cells[j%z.cells.size]!)) [(0,a.eval x)]=some vs.toArray:=by
   rw[qA (off:=0) (by rw[a6];simp) (by simp;omega)];simp only[Instr.fill,Option.some.injEq];apply Array.ext';rw[J];simp[Value.cells];have:vs.length=i.size:=by omega
   rw[this];simp
  simp[hi,h0,hn,newRow,zeroValue,typeInfo,S]at E |-;simp[E]
 have a7:∀k∈F,k≠w.heap.size:=λk hk e=>by have:=(f6 k hk).2.2.2;omega
 have a0:ko w { w with heap:=w.heap.push (.cells vs.toArray e) } Z Z:=λb O=>⟨O,by
  have:=(M.dis b O).1;show (w.heap.push _)[b]? =_;rw[Array.getElem?_push,if_neg (by omega)]⟩
 obtain ⟨L',k1,k2,k3,k4,k5⟩:=BZ (s:=s) (np:=np) (b:=w.heap.size) (cells:=vs.toArray) (F:=F) (w':={ w with heap:=w.heap.push (.cells vs.toArray e) }) M f2 hl ht rfl rfl rfl (by simp) (λk hk _=>by
   show (w.heap.push _)[k]? =_;rw[Array.getElem?_push,if_neg (by omega)])
  ⟨λS=>by have:=(M.dis _ S).1;omega,λhl=>(by obtain ⟨q,ob,p1,p2⟩:=hl;have:=M.fJ p1 p2;omega),.inl (Nat.le_refl _)⟩ (by simp)
  (CB.2 ⟨by simp;omega,by
   simp only[OE];have a8:vs.take i.size=vs:=List.take_of_length_le (by omega);rw[a8];exact j7 a0 _ _ _ (λk hk=>by
    show (w.heap.push _)[k]? =_;have:=(f6 k hk).2.2.2;rw[Array.getElem?_push,if_neg (by omega)]) f4⟩)
  (List.nodup_cons.2 ⟨λhk=>a7 _ hk rfl,f5⟩) (λk hk=>f6 k hk) (by simp only[List.length_singleton,Nat.one_mul,List.size_toArray];omega)
 refine aZ.value V k1 k2 ?_;simp only[RV];refine ⟨_,1,1,[.agg ds],rfl,⟨Nat.le_refl _,by unfold maxLen;omega⟩,λ_=>rfl,by show (s3.sto.get (t,0)).bind Obj.rw=_;rw[k4];rfl,λ_=>rfl,λx m e=>(by cases e),λe=>(by rw[k3]at e;cases e),λb O=> ?_⟩;have:w.heap.size=b:=by have:some w.heap.size=some b:=k3.symm.trans O;injection this
 subst this;right;refine ⟨by simp[br],?_⟩;rw[k5];simp[br];omega
theorem Ez {M:Nat->Prop} {E:bC} (np:Nat) {sz:gJ} {x:AV} {v:Value} {s s':St} {xs:List D} (h:RS s a w L Z) (hk:Kept w L M Z E s.sto) (j:RV (aI w M L E) x v)
  (e:rM (real call loop) s sz x=some (xs,s')):RS s' a w L Z/\Tr np s.sto s'.sto w w L L Z Z/\Kept w L Z Z s.sto s'.sto/\∃A c F,v= .slice A xs.length c/\CD w L Z s.sto s'.sto F/\
   ((c=0/\xs=[]/\F=[])\/∃b vs F',A=some ⟨b,0,none⟩/\F=b::F'/\w.heap[b]? =some (.cells vs sz.1 (0,0))/\c*sz.2=vs.size/\xs.length*sz.2<=vs.size/\jo w Z sz.2 xs vs.toList F'):=by
 cases x with
 | emp=>
  simp only[rM]at e;injection e with e;injection e with I J;subst I J;simp only[RV]at j;obtain ⟨A,j⟩:=j;exact ⟨h,Tr.refl _ _ _ _ _,Kept.refl _ _ _ _,A,0,[],j,by simp[CD],.inl ⟨rfl,rfl,rfl⟩⟩
 | arr r sz' g u=>
  simp only[rM]at e;split at e
  ·rename_i a0 ys s2 ho;split at e
   case isFalse=>cases e
   rename_i S;injection e with e;injection e with I J;subst I J S;obtain ⟨U,k2,V,F,O,k5⟩:=rW np _ _ _ _ _ h hk j ho;simp only[OC]at O;obtain ⟨A,c,m1,m2⟩:=O;refine ⟨U,k2,V,A,c,F,m1.1,k5,m2.imp id ?_⟩;rintro ⟨b,vs,F',p1,p2,p3,p4,_,p6,p7⟩;exact ⟨b,vs,F',p1,p2,p3,p4,p6,p7⟩
  cases e
 | _=>simp[rM]at e
theorem tu {np t:Nat} {s':St} {o:Oper} {ty e:TypeId} {i:TypeInfo} {z:Value} {x y:Operand} {x' y':VX} {r:AV} (h:RS s a w L Z)
  (ho:o.op= .call { callee:= .builtin .append,args:= #[x,y],argTypes:= #[ty,ty] }) (hx:dr x x'=true) (hy:dr y y'=true)
  (hu:P.underlying ty=some (.slice e)) (hi:P.info? e=some i) (hz:i.zero=some z) (bs:z.cells.size=i.size) (ht:t<np)
  (es:uy (real call loop) s (some t) (e,i.size) i.bytes x' y'=some (r,s')):aZ P np o s a w L Z r s':=by
 have an:∀{m:Value} {w':World},(Builtin.append_ #[ty,ty] o.type #[a.eval x,a.eval y]).run P w= .ok m w'->(execOp a.eval o).run P w= .ok (.value m) w':=by
  intro m w' hm;unfold execOp;rw[ho];simp[resolve,invoke,builtin,hm]
 unfold uy at es;split at es
 case h_2=>cases es
 rename_i A0 B0 t' e1 e2 ao;injection ao with ao;subst ao;have hA:=aO h hx e1;have hB:=aO h hy e2;split at es
 case h_2=>cases es
 rename_i xs s1 b9;split at es
 case h_2=>cases es
 rename_i cl y0 bt s2 bu;split at es
 case isFalse=>cases es
 rename_i bj;subst bj;split at es
 case h_2=>cases es
 rename_i ac;split at es
 case h_2=>cases es
 rename_i s3 hl;injection es with es;injection es with bv bz;subst bv bz;obtain ⟨f1,f2,f3,VA,V,F1,ap,⟨fn,ff⟩,hcase⟩:=Ez np h (Kept.refl _ _ _ _) hA b9;obtain ⟨g1,g2,g3,F2,g4,gn,gf⟩:=rW np _ _ _ _ _ f1 f3 hB bu;simp only[OC]at g4;obtain ⟨VB,c2,⟨bb,_⟩,g4⟩:=g4;rcases g4 with ⟨_,q,_⟩ | ⟨b2,J,a5,e3,e4,e5,e6,e7,e8,e9⟩
 ·cases q
 generalize c0:y0::bt=ys at*;have ch:0<ys.length:=by rw[<-c0];simp
 subst e4;have bl:(real call loop).app xs ys=xs++ys:=rfl;rw[bl]at hl ac;simp only[real,aM.fits,af]at ac;obtain ⟨c3,_⟩:=ac;obtain ⟨aw,az⟩:=of_decide_eq_true c3;rw[List.length_append]at aw az;have ci:xs.length+ys.length<=9223372036854775807:=by simpa [maxLen]using az
 have b7:∀k,aY s1.sto L k->aY s.sto L k:=λk hl=>by
  rcases f2.lives k hl with m | m
  ·exact m
  obtain ⟨q,ob,p1,p2⟩:=hl;have:=f1.fJ p1 p2;omega
 have b8:∀k,aY s2.sto L k->aY s1.sto L k:=λk hl=>by
  rcases g2.lives k hl with m | m
  ·exact m
  obtain ⟨q,ob,p1,p2⟩:=hl;have:=g1.fJ p1 p2;omega
 have E:∀k∈F1,¬Z k/\aY s.sto L k/\¬aY s2.sto L k/\k<w.heap.size:=λk hk=>by
  obtain ⟨p1,p2,p3,p4⟩:=ff k hk;exact ⟨p1,p2,λhl=>p3 (b8 k hl),p4⟩
 have a1:∀k∈b2::a5,¬Z k/\aY s.sto L k/\¬aY s2.sto L k/\k<w.heap.size:=λk hk=>by
  obtain ⟨p1,p2,p3,p4⟩:=gf k hk;exact ⟨p1,b7 k p2,p3,p4⟩
 have a8:∀k,k∈F1->k∈b2::a5->False:=λk hk c4=>(ff k hk).2.2.1 (gf k c4).2.1
 have ae:=BX e9;have I:=jv ae;have a6:∀j u,(J.toList.take (ys.length*i.size))[j]? =some u->w.cell? ((⟨b2,0,none⟩:Addr).add j)=some u:=λj u O=>by
  rw[List.getElem?_take]at O;split at O
  ·rw[add_plain];simp only[World.cell?,e5,Nat.zero_add];simpa using O
  cases O
 by_cases hroom:xs.length+ys.length<=V
 ·rcases hcase with ⟨q,_,_⟩ | ⟨S,U,M,d1,rfl,d3,d4,d5,d6⟩
  ·omega
  have a3:xs.length*i.size+(J.toList.take (ys.length*i.size)).length<=U.size:=by
   rw[I,<-Nat.add_mul,<-d4];exact Nat.mul_le_mul_right _ hroom
  have hr:=run_append_room (P:=P) w ty o.type e i hu hi S xs.length V U d3 ⟨b2,0,none⟩ ys.length c2 (J.toList.take (ys.length*i.size)) I a6 (wE ae) hroom a3;have a9:lay U.toList (xs.length*i.size) (J.toList.take (ys.length*i.size))=some (U.toList.take (xs.length*i.size)++J.toList.take (ys.length*i.size)++U.toList.drop (xs.length*i.size+(J.toList.take (ys.length*i.size)).length)):=by unfold lay;rw[if_pos (by simpa using a3)]
  generalize hcells:(U.toList.take (xs.length*i.size)++J.toList.take (ys.length*i.size)++U.toList.drop (xs.length*i.size+(J.toList.take (ys.length*i.size)).length))=cells at*;have b0:∀k∈M,k≠S:=λk hk e=>(List.nodup_cons.1 fn).1 (e ▸ hk)
  have b3:∀k∈a5,k≠S:=λk hk e=>a8 S (by simp) (by rw[<-e];simp[hk])
  have a0:∀k,k≠S->(w.setRow S cells.toArray).heap[k]? =w.heap[k]? :=λk hk=>setRow_other _ _ _ _ hk
  have a7:ko w (w.setRow S cells.toArray) Z Z:=λk hk=>⟨hk,a0 k λe=>(E S (by simp)).1 (e ▸ hk)⟩
  obtain ⟨L',k1,k2,k3,k4,k5⟩:=BZ (s:=s) (np:=np) (b:=S) (cells:=cells.toArray) (F:=M++a5) (w':=w.setRow S cells.toArray) g1 (f2.trans g2) hl ht rfl rfl rfl (by simp) (λk _ hk=>a0 k hk)
   ⟨(E S (by simp)).1,(E S (by simp)).2.2.1,.inr (E S (by simp)).2.1⟩ (setRow_heap w S U _ e (0,0) d3)
   (fW.2 ⟨M,a5,rfl,jN (gV a7 _ _ _ _ (λk hk=>a0 k (b0 k hk)) d6) (λj O=>by
     rw[d9 a9,if_neg (by omega)]),
    jN (gV a7 _ _ _ _ (λk hk=>a0 k (b3 k hk)) e9) (λj O=>by
     rw[List.getElem?_drop,d9 a9,if_pos ⟨by omega,by rw[I];omega⟩,List.getElem?_take,if_pos (by omega)];congr 1;omega)⟩)
   (by
    rw[List.nodup_cons];refine ⟨λhk=> ?_,?_⟩
    ·rcases List.mem_append.1 hk with hk | hk
     ·exact b0 _ hk rfl
     exact b3 _ hk rfl
    rw[List.nodup_append];exact ⟨(List.nodup_cons.1 fn).2,(List.nodup_cons.1 gn).2,λx hx y hy e=>a8 x (by simp[hx]) (by rw[e];simp[hy])⟩)
   (λk hk=>by
    rcases List.mem_append.1 hk with hk | hk
    ·exact E k (by simp[hk])
    exact a1 k (by simp[hk]))
   (by
    have:=jY a9;simp only[List.size_toArray,this,Array.length_toList,List.length_append,Nat.add_mul];rw[I]at a3;exact a3)
  refine aZ.value (an (by rw[ap,d1,bb,e3];exact hr)) k1 k2 ?_;simp only[RV];refine ⟨_,xs.length+ys.length,V,xs++ys,rfl,⟨hroom,?_⟩,λe=>(by cases e),by show (s3.sto.get (t,0)).bind Obj.rw=_;rw[k4];rfl,λ_=>by rw[List.length_append],λ_ _ e=>(by cases e),λe=>(by rw[k3]at e;cases e),λb' b4=> .inr ?_⟩
  ·have:=hA;rw[ap]at this;cases A0 with
   | arr q sz' g u=>
    simp only[RV]at this;obtain ⟨_,_,cap',_,m1,⟨_,m2⟩,_⟩:=this;injection m1 with _ _ m1;rw[m1];exact m2
   | emp=>simp only[RV]at this;obtain ⟨_,m1⟩:=this;injection m1 with _ _ m1;rw[m1];exact Nat.zero_le _
   | _=>simp[rM]at b9
  have:S=b':=by have:some S=some b':=k3.symm.trans b4;injection this
  subst this;refine ⟨by simp[br],?_⟩;rw[k5];have:=jY a9;simp only[List.size_toArray,this,Array.length_toList,br,Nat.zero_add];exact d4
 have bc:V<xs.length+ys.length:=by omega
 obtain ⟨cs1,M,⟨ag,bm⟩,am,bo,c5⟩:∃(cs1:List Value) (M:List Nat),((∀k∈M,k∈F1)/\M.Nodup)/\g_ w Z i.size xs cs1/\(∀us:List Value,(∀j,j<xs.length*i.size->us[j]? =cs1[j]?)->jo w Z i.size xs us M)/\
   ((∃ad,VA=some ad/\∀j u,cs1[j]? =some u->w.cell? (ad.add j)=some u)\/(VA=none/\xs=[]/\V=0)):=by
  rcases hcase with ⟨q1,rfl,rfl⟩ | ⟨S,U,M,d1,rfl,d3,d4,d5,d6⟩
  ·refine ⟨[],[],⟨by simp,by simp⟩,by simp only[g_],λus _=>by simp only[jo],?_⟩;cases VA with
   | none=>exact .inr ⟨rfl,rfl,q1⟩
   | some ad=>exact .inl ⟨ad,rfl,by simp⟩
  refine ⟨U.toList.take (xs.length*i.size),M,⟨λk hk=>by simp[hk],(List.nodup_cons.1 fn).2⟩,BX d6,λus c6=>jN d6 λj O=> ?_,.inl ⟨_,d1,λj u O=> ?_⟩⟩
  ·rw[c6 j O,List.getElem?_take,if_pos O]
  rw[List.getElem?_take]at O;split at O
  ·rw[add_plain];simp only[World.cell?,d3,Nat.zero_add];simpa using O
  cases O
 have a4:=jv am;have bd:=grownCap_ge w (xs.length+ys.length) V e;have c7:=grownCap_le_maxLen w (xs.length+ys.length) V e az;have hr:(Builtin.append_ #[ty,ty] o.type #[.slice VA xs.length V,.slice (some ⟨b2,0,none⟩) ys.length c2]).run P w= .ok (.slice (some ⟨w.heap.size,0,none⟩) (xs.length+ys.length) (grownCap w (xs.length+ys.length) V e))
   (w.drew.alloc (.cells (cs1.toArray++(J.toList.take (ys.length*i.size)).toArray++Builtin.zeroCells z.cells (grownCap w (xs.length+ys.length) V e-(xs.length+ys.length))) e)):=by
  rcases c5 with ⟨ad,rfl,c8⟩ | ⟨rfl,rfl,rfl⟩
  ·exact run_append_grow (P:=P) w ty o.type e i z hu hi hz ad xs.length V cs1 a4 c8 ⟨b2,0,none⟩ ys.length c2 _ I a6 bc (by omega) (growslice_fits bc aw)
  have c9:cs1=[]:=by simpa only [g_]using am
  subst c9;have:=run_append_nil (P:=P) w ty o.type e i z hu hi hz ⟨b2,0,none⟩ ys.length c2 _ I a6 (by omega) (by omega) (by simp at aw;omega);simpa using this
 have b5:(cs1.toArray++(J.toList.take (ys.length*i.size)).toArray++Builtin.zeroCells z.cells (grownCap w (xs.length+ys.length) V e-(xs.length+ys.length)):Array Value).size=grownCap w (xs.length+ys.length) V e*i.size:=by
  rw[Array.size_append,Array.size_append,List.size_toArray,List.size_toArray,size_zeroCells,bs,a4,I,<-Nat.add_mul,<-Nat.add_mul];congr 1;omega
 generalize hcells:(cs1.toArray++(J.toList.take (ys.length*i.size)).toArray++Builtin.zeroCells z.cells (grownCap w (xs.length+ys.length) V e-(xs.length+ys.length)):Array Value)=cells at*;have aa:∀k,k<w.heap.size->(w.drew.alloc (.cells cells e)).heap[k]? =w.heap[k]? :=λk hk=>heap_alloc_old w.drew _ k hk
 have a7:ko w (w.drew.alloc (.cells cells e)) Z Z:=λk hk=>⟨hk,aa k (h.dis k hk).1⟩
 have b6:∀j,cells.toList[j]? =if j<xs.length*i.size then cs1[j]? else if j<xs.length*i.size+ys.length*i.size then (J.toList.take (ys.length*i.size))[j-xs.length*i.size]? else cells.toList[j]? :=λj=>by
  by_cases be:j<xs.length*i.size
  ·rw[if_pos be,<-hcells];rw[Array.toList_append,Array.toList_append,List.getElem?_append_left (by simp;omega),List.getElem?_append_left (by simp;omega)]
  rw[if_neg be];by_cases bi:j<xs.length*i.size+ys.length*i.size
  ·rw[if_pos bi,<-hcells];rw[Array.toList_append,Array.toList_append,List.getElem?_append_left (by rw[List.length_append];show j<cs1.length+_;rw[a4,I];omega),List.getElem?_append_right (by show cs1.length<=j;omega)];show (List.take _ _)[j-cs1.length]? =_;rw[a4]
  rw[if_neg bi]
 obtain ⟨L',k1,k2,k3,k4,k5⟩:=BZ (s:=s) (np:=np) (b:=w.heap.size) (cells:=cells) (F:=M++a5) (w':=w.drew.alloc (.cells cells e)) g1 (f2.trans g2) hl ht rfl rfl rfl (by simp) (λk hk _=>aa k hk)
  ⟨λhz=>by have:=(h.dis _ hz).1;omega,λhl=>(by obtain ⟨q,ob,p1,p2⟩:=hl;have:=g1.fJ p1 p2;omega),.inl (Nat.le_refl _)⟩ (heap_alloc_new w.drew _)
  (fW.2 ⟨M,a5,rfl,gV a7 _ _ _ _ (λk hk=>aa k (E k (ag k hk)).2.2.2) (bo _ λj O=>by rw[b6,if_pos O]),
   jN (gV a7 _ _ _ _ (λk hk=>aa k (a1 k (by simp[hk])).2.2.2) e9) (λj O=>by
    rw[List.getElem?_drop,b6,if_neg (by omega),if_pos (by omega),List.getElem?_take,if_pos (by omega)];congr 1;omega)⟩)
  (by
   rw[List.nodup_cons];refine ⟨λhk=> ?_,?_⟩
   ·rcases List.mem_append.1 hk with hk | hk
    ·have:=(E _ (ag _ hk)).2.2.2;omega
    have:=(a1 w.heap.size (by simp[hk])).2.2.2;omega
   rw[List.nodup_append];exact ⟨bm,(List.nodup_cons.1 gn).2,λx hx y hy e=>a8 x (ag x hx) (by rw[e];simp[hy])⟩)
  (λk hk=>by
   rcases List.mem_append.1 hk with hk | hk
   ·exact E k (ag k hk)
   exact a1 k (by simp[hk]))
  (by rw[b5,List.length_append];exact Nat.mul_le_mul_right _ bd)
 refine aZ.value (an (by rw[ap,bb,e3];exact hr)) k1 k2 ?_;simp only[RV];refine ⟨_,xs.length+ys.length,_,xs++ys,rfl,⟨bd,c7⟩,λe=>(by cases e),by show (s3.sto.get (t,0)).bind Obj.rw=_;rw[k4];rfl,λ_=>by rw[List.length_append],λ_ _ e=>(by cases e),λe=>(by rw[k3]at e;cases e),λb' b4=> .inr ?_⟩;have:w.heap.size=b':=by have:some w.heap.size=some b':=k3.symm.trans b4;injection this
 subst this;exact ⟨by simp[br],by rw[k5,b5];simp[br]⟩
end
end
end Go.Vi
