import Derived.Test.YtfnagkpidcdocaaGreatM03
import Derived.Laws.IdiomStrings
import Derived.Laws.BytesArg
set_option linter.all false
namespace Go.Vi
open Go Go.RowKit
section
variable {P:Program} {call:cM} {loop:cN}
variable {s:St} {a:Act} {w:World} {L:Loc} {Z:Nat->Prop}
theorem eD {s s':St} {t:Nat} {l:List (Option Obj)} (hl:s.lay t l=some s'):s.sto.lay t l=some s'.sto/\s'.env=s.env:=by
 unfold St.lay at hl;split at hl
 ·rename_i sto e;injection hl with hl;subst hl;exact ⟨e,rfl⟩
 ·cases hl
theorem Gg {np t:Nat} {s1 s':St} {w':World} {e sz b:Nat} {xs:List D} {cells:Array Value} {cs:List Value} (h:RS s1 a w L Z) (t0:Tr np s.sto s1.sto w w L L Z Z) (hl:s1.lay t [some (.rows (e,sz) xs)]=some s') (ht:t<np)
  (hos:w'.os=w.os) (htp:w'.tape=w.tape) (hop:w'.output=w.output) (hsize:w.heap.size<=w'.heap.size)
  (hkeep:∀k,k<w.heap.size->k≠b->w'.heap[k]? =w.heap[k]?)
  (hnb:¬Z b/\¬aU s1.sto L b/\(w.heap.size<=b\/aU s.sto L b))
  (hheap:w'.heap[b]? =some (.cells cells e)) (hcat:gF w Z sz xs cs) (hpre:∀(j:Nat) (v:Value),cs[j]? =some v->cells[j]? =some v) (hcap:xs.length*sz<=cells.size):
  ∃L',RS s' a w' L' Z/\Tr np s.sto s'.sto w w' L L' Z Z/\L' (t,0)=some b/\s'.sto.get (t,0)=some (.rows (e,sz) xs)/\bX w' b=cells.size:=by
 have hlt:b<w'.heap.size:=(Array.getElem?_eq_some_iff.1 hheap).1;have hzle:jV w w' Z Z:=λk hk=>⟨hk,hkeep k (h.dis k hk).1 λe=>hnb.1 (e ▸ hk)⟩
 obtain ⟨h1,h2,_,_⟩:=RS.lay (s0:=s) (np:=np) (nb:=some b) (w':=w') h t0 hl ht hos htp hop hsize (λk hk hne=>hkeep k hk λe=>hne (by rw[e]))
  (λk hk=>by injection hk with hk;subst hk;exact ⟨hnb.1,hnb.2.1,hlt,hnb.2.2⟩) (by
   simp only[RO];refine ⟨λk=>by simp[upd,eX]at k,λk hk=> ?_⟩;have:b=k:=by simpa [upd,eX]using hk
   subst this;refine ⟨cells,hheap,hcap,sF (sB hzle hcat) λj v hj=> ?_⟩;simp only[World.cell?,hheap,Nat.zero_add];simpa using hpre j v hj)
 refine ⟨_,h1,h2,by simp[upd,eX],?_,by simp[bX,hheap]⟩;rw[dH (eD hl).1];simp
theorem vM {np t:Nat} {s1 s':St} {sz:gG} (h:RS s1 a w L Z) (t0:Tr np s.sto s1.sto w w L L Z Z) (hl:s1.lay t [some (.rows sz [])]=some s') (ht:t<np):
  ∃L',RS s' a w L' Z/\Tr np s.sto s'.sto w w L L' Z Z/\L' (t,0)=none/\s'.sto.get (t,0)=some (.rows sz [])/\(∀q,(s1.sto.get q).isSome->Same (aH w Z L s1.sto) (aH w Z L' s'.sto) q):=by
 obtain ⟨h1,h2,_,h4⟩:=RS.lay (s0:=s) (np:=np) (nb:=none) (w':=w) h t0 hl ht rfl rfl rfl (Nat.le_refl _) (λk hk hne=>rfl) (λk hk=>by cases hk) (by
   simp only[RO];exact ⟨λ_=>trivial,λk hk=>by simp[upd,eX]at hk⟩)
 refine ⟨_,h1,h2,by simp[upd,eX],?_,h4⟩;rw[dH (eD hl).1];simp
theorem jQ {t ty e:TypeId} {i:TypeInfo} (ht:P.underlying t=some (.slice e)) (hi:P.info? e=some i) {A A2:Option Addr} {n cap c2:Nat} (hn:n<=cap):
  (Builtin.append_ #[t,t] ty #[.slice A n cap,.slice A2 0 c2]).run P w= .ok (.slice A n cap) w:=by
 cases A<;>cases A2<;>simp[Builtin.append_,run_underlying ht,sizeOf,typeInfo,hi,Builtin.lenOf,hn,Builtin.firstCells,loadCells,loadCellsFrom,storeCells]
theorem source {s:br} {x:AV} {v:Value} {xs:List D} {sz:Nat} (hobj:∀r ob,s.get r=some ob->RO (aH w Z L s) r ob) (hv:RV (aH w Z L s) x v) (hc:content (real call loop) s x=some xs)
  (hall:xs.all (λy=>y.cells.length==sz)=true) (hne:xs≠[]):∃b o cap cs,v= .slice (some ⟨b,o,none⟩) xs.length cap/\gF w Z sz xs cs/\∀j u,cs[j]? =some u->w.cell? ((⟨b,o,none⟩:Addr).add j)=some u:=by
 obtain ⟨A,cap,h1,h2,h3⟩:=cG hobj hv hc;rcases h3 with h3 | ⟨b,o,z,h4,h5,_⟩
 ·exact (hne h3).elim
 ·have hz:z=sz:=by
   cases xs with
   | nil=>exact (hne rfl).elim
   | cons y l=>
    have h6:=h5;simp only[Rows]at h6;obtain ⟨⟨cs,k1,k2,_⟩,_⟩:=h6;have:=yY k2;simp at hall;omega
  subst hz;obtain ⟨cs,k1,k2⟩:=sD h5;exact ⟨b,o,cap,cs,by rw[h1,h4],k1,λj u hj=>by rw[add_plain];exact k2 j u hj⟩
theorem sW {np t:Nat} {s1 s':St} {o:Oper} {ty e:TypeId} {i:TypeInfo} {z:Value} {A0:Option Addr} {n cap0 cap2:Nat} {xs ys:List D} {cs1 cs2:List Value} {ad ad2:Addr}
  (h:RS s1 a w L Z) (t0:Tr np s.sto s1.sto w w L L Z Z) (hs0:RS s a w L Z) (hl:s1.lay t [some (.rows (e,i.size) (xs++ys))]=some s') (ht:t<np)
  (hu:P.underlying ty=some (.slice e)) (hi:P.info? e=some i) (hz:i.zero=some z) (hzs:z.cells.size=i.size)
  (hrun:∀{m:Value} {w':World},(Builtin.append_ #[ty,ty] o.type #[.slice A0 n cap0,.slice (some ad2) ys.length cap2]).run P w= .ok m w'->(execOp a.eval o).run P w= .ok (.value m) w')
  (hn:n=xs.length) (hA:A0=some ad\/(A0=none/\n=0/\cap0=0)) (hc1:gF w Z i.size xs cs1) (hx:∀j u,cs1[j]? =some u->w.cell? (ad.add j)=some u)
  (hc2:gF w Z i.size ys cs2) (hy:∀j u,cs2[j]? =some u->w.cell? (ad2.add j)=some u) (hgt:cap0<n+ys.length) (f3:(n+ys.length)*i.bytes<=140737488355328) (f4:n+ys.length<=maxLen):
  aV P np o s a w L Z (.arr (t,0) (e,i.size) none false) s':=by
 have f4':n+ys.length<=9223372036854775807:=by simpa [maxLen]using f4
 have hl1:=jb hc1;have hl2:=jb hc2;have hge:=grownCap_ge w (n+ys.length) cap0 e;have hcm:=grownCap_le_maxLen w (n+ys.length) cap0 e f4;have hr:(Builtin.append_ #[ty,ty] o.type #[.slice A0 n cap0,.slice (some ad2) ys.length cap2]).run P w= .ok (.slice (some ⟨w.heap.size,0,none⟩) (n+ys.length) (grownCap w (n+ys.length) cap0 e))
   (w.drew.alloc (.cells (cs1.toArray++cs2.toArray++Builtin.zeroCells z.cells (grownCap w (n+ys.length) cap0 e-(n+ys.length))) e)):=by
  rcases hA with rfl | ⟨rfl,rfl,rfl⟩
  ·exact run_append_grow (P:=P) w ty o.type e i z hu hi hz ad n cap0 cs1 (by rw[hn];exact hl1) hx ad2 ys.length cap2 cs2 hl2 hy hgt (by omega) (growslice_fits hgt f3)
  ·have hx0:xs=[]:=List.eq_nil_of_length_eq_zero hn.symm;subst hx0;have hc0:cs1=[]:=by simpa only [gF]using hc1
   subst hc0;have:=run_append_nil (P:=P) w ty o.type e i z hu hi hz ad2 ys.length cap2 cs2 hl2 hy (by omega) (by omega) (by rw[Nat.zero_add]at f3;omega);simpa using this
 have hsz:(cs1.toArray++cs2.toArray++Builtin.zeroCells z.cells (grownCap w (n+ys.length) cap0 e-(n+ys.length)):Array Value).size=grownCap w (n+ys.length) cap0 e*i.size:=by
  rw[Array.size_append,Array.size_append,List.size_toArray,List.size_toArray,size_zeroCells,hzs,hl1,hl2,<-hn,<-Nat.add_mul,<-Nat.add_mul];congr 1;omega
 obtain ⟨L',k1,k2,k3,k4,k5⟩:=Gg (s:=s) (b:=w.heap.size) (cells:=cs1.toArray++cs2.toArray++Builtin.zeroCells z.cells (grownCap w (n+ys.length) cap0 e-(n+ys.length)))
  (w':=w.drew.alloc (.cells (cs1.toArray++cs2.toArray++Builtin.zeroCells z.cells (grownCap w (n+ys.length) cap0 e-(n+ys.length))) e)) h t0 hl ht rfl rfl rfl (by simp) (λk hk _=>heap_alloc_old w.drew _ k hk)
  ⟨λhz=>by have:=(h.dis _ hz).1;omega,λhl=>(by obtain ⟨q,ob,p1,p2⟩:=hl;have:=h.fq p1 p2;omega),.inl (Nat.le_refl _)⟩ (heap_alloc_new w.drew _) (nQ hc1 hc2)
  (λj v hj=>by
   have h0:=(aq.1 hj).1;rw[Array.getElem?_append_left (by simpa using h0)];simpa using hj) (by rw[hsz,List.length_append,<-hn];exact Nat.mul_le_mul_right _ hge)
 refine aV.value (hrun hr) k1 k2 ?_;simp only[RV];refine ⟨_,n+ys.length,_,xs++ys,rfl,⟨hge,hcm⟩,λe=>(by cases e),wI k4,λ_=>by rw[List.length_append,hn],λ_ _ e=>(by cases e),λe=>(by rw[k3]at e;cases e),λb' hb'=> .inr ?_⟩;have:w.heap.size=b':=by have:some w.heap.size=some b':=k3.symm.trans hb';injection this
 subst this;exact ⟨by simp[bq],by rw[k5,hsz];simp[bq]⟩
theorem tV {np t:Nat} {s':St} {o:Oper} {ty e:TypeId} {i:TypeInfo} {z:Value} {x y:Operand} {x' y':VX} {A B r:AV} (h:RS s a w L Z)
  (ho:o.op= .call { callee:= .builtin .append,args:= #[x,y],argTypes:= #[ty,ty] }) (hx:cR x x'=true) (hy:cR y y'=true)
  (hu:P.underlying ty=some (.slice e)) (hi:P.info? e=some i) (hz:i.zero=some z) (hzs:z.cells.size=i.size) (ht:t<np)
  (e1:ev s.env x'=some A) (e2:ev s.env y'=some B)
  (es:aI (real call loop) s (some t) (.append (e,i.size) i.bytes x' y')=some (r,s')):aV P np o s a w L Z r s':=by
 have hA:=aL h hx e1;have hB:=aL h hy e2;have hrun:∀{m:Value} {w':World},(Builtin.append_ #[ty,ty] o.type #[a.eval x,a.eval y]).run P w= .ok m w'->(execOp a.eval o).run P w= .ok (.value m) w':=by
  intro m w' hm;unfold execOp;rw[ho];simp[resolve,invoke,builtin,hm]
 simp only[aI,e1,e2]at es;split at es
 ·cases es
 rename_i ys hys;obtain ⟨A2,cap2,b1,b2,b3⟩:=cG h.obj hB hys;cases A with
 | emp=>
  simp only at es;split at es
  case h_2=>cases es
  case h_1 hfit=>
   split at es
   case h_2=>cases es
   case h_1 s2 hl=>
    injection es with es;injection es with es1 es2;subst es1;subst es2;simp only[RV]at hA;obtain ⟨A0,hA⟩:=hA;by_cases hy0:ys=[]
    ·subst hy0;obtain ⟨L',k1,k2,k3,k4,_⟩:=vM (s:=s) h (Tr.refl np _ _ _ _) hl ht;refine aV.value (hrun (m:= .slice A0 0 0) (w':=w) (by rw[hA,b1];exact jQ hu hi (Nat.le_refl _))) k1 k2 ?_;simp only[RV];exact ⟨A0,0,0,[],rfl,⟨Nat.le_refl _,Nat.zero_le _⟩,λ_=>rfl,wI k4,λ_=>rfl,λ_ _ e=>(by cases e),λ_=>rfl,λb hb=>by rw[k3]at hb;cases hb⟩
    ·have hfit':=hfit;simp only[real,aJ.fits,af]at hfit';obtain ⟨f1,f2⟩:=hfit';obtain ⟨f3,f4⟩:=of_decide_eq_true f1;obtain ⟨b,off,cap,cs,c1,c2,c3⟩:=source h.obj hB hys f2 hy0;have hpos':0<ys.length:=List.length_pos_iff.2 hy0;refine sW (s:=s) (A0:=A0) (n:=0) (cap0:=0) (xs:=[]) (ys:=ys) (cs1:=[]) (cs2:=cs) (ad:=A0.getD ⟨0,0,none⟩) h (Tr.refl np _ _ _ _) h (by simpa using hl) ht hu hi hz hzs (λhm=>hrun (by rw[hA,c1];exact hm)) rfl ?_ (by simp only[gF]) (by simp) c2 c3 (by omega) (by rw[Nat.zero_add];exact f3) (by rw[Nat.zero_add];exact f4);cases A0 with
     | none=>exact .inr ⟨rfl,rfl,rfl⟩
     | some ad=>exact .inl rfl
 | arr q sz g u=>
  simp only at es;split at es
  case h_2=>cases es
  case h_1 xs hxs=>
   split at es
   case isFalse=>cases es
   case isTrue hc=>
    split at es
    case h_2=>cases es
    case h_1 hfit=>
     split at es
     case h_2=>cases es
     case h_1 s2 hl=>
      injection es with es;injection es with es1 es2;subst es1;subst es2;simp only[af,decide_eq_true_eq]at hc;obtain ⟨hc1,hc2⟩:=hc;subst hc1;have hg0:bq g=0:=by
       cases g with
       | none=>rfl
       | some p=>obtain ⟨p1,p2⟩:=p;simp only[Ge,real,aJ.isZero]at hc2;have:=of_decide_eq_true hc2;simp[bq,this]
      obtain ⟨A1,cap1,d1,d2,d3⟩:=cG h.obj hA hxs;have hA':=hA;simp only[RV]at hA';obtain ⟨a',n',cap',xs0,m1,⟨m2,m2'⟩,_,m4,_,_,m7,m8⟩:=hA';rw[d1]at m1;injection m1 with q1 q2 q3;subst q1;subst q3;have hk:=h.kill q;have hkt:=Tr.kill np s w L Z q;have m4:=zF hxs m4;have hro:=h.obj q _ m4;simp only[RO]at hro;have happ:(real call loop).app xs ys=xs++ys:=rfl;rw[happ]at hl hfit;have hfit':=hfit;simp only[real,aJ.fits,af]at hfit';obtain ⟨f1,f2⟩:=hfit';obtain ⟨f3,f4⟩:=of_decide_eq_true f1;rw[List.all_append,af]at f2;rw[List.length_append]at f3 f4;have f4':xs.length+ys.length<=9223372036854775807:=by simpa [maxLen]using f4
      cases hL:L q with
      | none=>
       have hc0:=m7 hL;subst hc0;have hx0:xs=[]:=List.eq_nil_of_length_eq_zero (by omega);subst hx0;by_cases hy0:ys=[]
       ·subst hy0;obtain ⟨L',k1,k2,k3,k4,_⟩:=vM (s:=s) hk hkt (by simpa using hl) ht;refine aV.value (hrun (m:= .slice A1 0 0) (w':=w) (by rw[d1,b1];exact jQ hu hi (Nat.le_refl _))) k1 k2 ?_;simp only[RV];exact ⟨A1,0,0,[],rfl,⟨Nat.le_refl _,Nat.zero_le _⟩,λ_=>rfl,wI k4,λ_=>rfl,λ_ _ e=>(by cases e),λ_=>rfl,λb hb=>by rw[k3]at hb;cases hb⟩
       ·obtain ⟨b,off,cap,cs,c1,c2,c3⟩:=source h.obj hB hys f2.2 hy0;have hpos':0<ys.length:=List.length_pos_iff.2 hy0;refine sW (s:=s) (A0:=A1) (n:=0) (cap0:=0) (xs:=[]) (ys:=ys) (cs1:=[]) (cs2:=cs) (ad:=A1.getD ⟨0,0,none⟩) hk hkt h hl ht hu hi hz hzs (λhm=>hrun (by rw[d1,c1];exact hm)) rfl ?_ (by simp only[gF]) (by simp) c2 c3 (by omega) (by simpa using f3) (by simpa using f4);cases A1 with
        | none=>exact .inr ⟨rfl,rfl,rfl⟩
        | some ad=>exact .inl rfl
      | some b=>
       rcases m8 b hL with ⟨_,z1⟩ | ⟨z1,z2⟩
       ·exact (z1 hg0).elim
       rw[hg0]at z1 z2;simp only[Nat.zero_mul,Nat.zero_add]at z1 z2;subst z1;obtain ⟨vs,p1,p2,p3⟩:=hro.2 b hL;have hblk:bX w b=vs.size:=by simp[bX,p1]
       have hnl:¬aU (s.kill q).sto L b:=gu h m4 (.inl hL);have hnz:¬Z b:=λhz=>(h.dis b hz).2 ⟨q,_,m4,.inl hL⟩
       have hlv:aU s.sto L b:=⟨q,_,m4,.inl hL⟩
       obtain ⟨
           cs1,o1,o2⟩:∃cs1,gF w Z i.size xs cs1/\∀j u,cs1[j]? =some u->w.cell? ⟨b,j,none⟩=some u:=by
        have hR:Rows w Z xs b 0 i.size:=by
         simp only[content,m4]at hxs;cases g with
         | none=>simp only at hxs;injection hxs with hxs;rw[<-hxs];exact p3
         | some p=>
          obtain ⟨x0,n0⟩:=p;simp only[real,aJ.sub,zD]at hxs;split at hxs
          ·injection hxs with hxs;rw[<-hxs];have:x0.toNat=0:=by simpa [bq]using hg0
           rw[this];exact mQ _ (by simpa using p3)
          ·cases hxs
        obtain ⟨cs1,o1,o2⟩:=sD hR;exact ⟨cs1,o1,λj u hj=>by have:=o2 j u hj;rwa [Nat.zero_add]at this⟩
       have hlen1:=jb o1;have hcell:∀j,w.cell? ⟨b,j,none⟩=vs[j]? :=λj=>by simp[World.cell?,p1]
       by_cases hroom:xs.length+ys.length<=cap1
       ·obtain ⟨ad2,cs2,c1,c2,c3⟩:∃A cs2,a.eval y= .slice A ys.length cap2/\gF w Z i.size ys cs2/\(∀ad,A=some ad->∀j u,cs2[j]? =some u->w.cell? (ad.add j)=some u):=by
         by_cases hy0:ys=[]
         ·subst hy0;exact ⟨A2,[],b1,by simp only[gF],by simp⟩
         ·obtain ⟨b',off,cap,cs,c1,c2,c3⟩:=source h.obj hB hys f2.2 hy0;have:cap=cap2:=by rw[c1]at b1;injection b1
          subst this;exact ⟨_,cs,c1,c2,λad e=>by injection e with e;subst e;exact c3⟩
        have hlen2:=jb c2;have hfitc:xs.length*i.size+cs2.length<=vs.size:=by rw[hlen2,<-Nat.add_mul,<-hblk,<-z2];exact Nat.mul_le_mul_right _ hroom
        have hr:(Builtin.append_ #[ty,ty] o.type #[.slice (some ⟨b,0,none⟩) xs.length cap1,.slice ad2 ys.length cap2]).run P w= .ok (.slice (some ⟨b,0,none⟩) (xs.length+ys.length) cap1)
          (w.setRow b (vs.toList.take (xs.length*i.size)++cs2++vs.toList.drop (xs.length*i.size+cs2.length)).toArray):=by
         cases ad2 with
         | none=>
          have hy0:ys=[]:=by
           rcases b3 with b3 | ⟨_,_,_,b4,_⟩
           ·exact b3
           ·rw[c1]at b1;injection b1 with b1;rw[<-b1]at b4;cases b4
          subst hy0;have:cs2=[]:=by simpa only [gF]using c2
          subst this;have:=jQ (P:=P) (w:=w) (ty:=o.type) hu hi (A:=some ⟨b,0,none⟩) (A2:=none) (n:=xs.length) (cap:=cap1) (c2:=cap2) d2;simp only[List.length_nil,Nat.add_zero,List.append_nil,List.take_append_drop]at this |-;rw[this];congr 1;exact (setRow_self w b vs e (0,0) p1).symm
         | some ad=>exact run_append_room (P:=P) w ty o.type e i hu hi b xs.length cap1 vs p1 ad ys.length cap2 cs2 hlen2 (c3 ad rfl) (uR c2) hroom hfitc
        have elay:lay vs.toList (xs.length*i.size) cs2=some (vs.toList.take (xs.length*i.size)++cs2++vs.toList.drop (xs.length*i.size+cs2.length)):=by unfold lay;rw[if_pos (by simpa using hfitc)]
        obtain ⟨L',k1,k2,k3,k4,k5⟩:=Gg (s:=s) (b:=b) (cells:=(vs.toList.take (xs.length*i.size)++cs2++vs.toList.drop (xs.length*i.size+cs2.length)).toArray)
         (w':=w.setRow b (vs.toList.take (xs.length*i.size)++cs2++vs.toList.drop (xs.length*i.size+cs2.length)).toArray) hk hkt hl ht rfl rfl rfl (by simp) (λk _ hk=>setRow_other _ _ _ _ hk)
         ⟨hnz,hnl,.inr hlv⟩ (setRow_heap w b vs _ e (0,0) p1) (nQ o1 c2)
         (λj v hj=>by
          simp only[List.getElem?_toArray];rw[dK elay];rw[List.getElem?_append]at hj;split at hj
          ·rename_i hlt;rw[if_neg (by omega)];have:=o2 j v hj;rw[hcell]at this;simpa using this
          ·rename_i hlt;have:=(aq.1 hj).1;rw[if_pos (by omega),<-hlen1];exact hj) (by
          have:=jz elay;simp only[List.size_toArray,this,Array.length_toList,List.length_append,Nat.add_mul];omega)
        refine aV.value (hrun (by rw[d1,c1];exact hr)) k1 k2 ?_;simp only[RV];refine ⟨_,xs.length+ys.length,cap1,xs++ys,rfl,⟨hroom,m2'⟩,λe=>(by cases e),wI k4,λ_=>by rw[List.length_append],λ_ _ e=>(by cases e),λe=>(by rw[k3]at e;cases e),λb' hb'=> .inr ?_⟩;have:b=b':=by have:some b=some b':=k3.symm.trans hb';injection this
        subst this;refine ⟨by simp[bq],?_⟩;rw[k5];have:=jz elay;simp only[List.size_toArray,this,Array.length_toList,bq,Nat.zero_add];rw[z2,hblk]
       ·have hy0:ys≠[]:=by rintro rfl;exact hroom (by simpa using d2)
        obtain ⟨b',off,cap,cs,c1,c2,c3⟩:=source h.obj hB hys f2.2 hy0;exact sW (s:=s) (A0:=some ⟨b,0,none⟩) (n:=xs.length) (cap0:=cap1) (xs:=xs) (ys:=ys) (cs1:=cs1) (cs2:=cs) (ad:=⟨b,0,none⟩) hk hkt h hl ht hu hi hz hzs (λhm=>hrun (by rw[d1,c1];exact hm)) rfl (.inl rfl) o1 (λj u hj=>by rw[add_plain,Nat.zero_add];exact o2 j u hj) c2 c3 (by omega) f3 f4
 | _=>simp at es
end
section
section
variable {P:Program} {call:cM} {loop:cN}
variable {s:St} {a:Act} {w:World} {L:Loc} {Z:Nat->Prop}
theorem xK (off:Nat):∀(vs:List Value) (k:Nat) (cells:Array Value),off+k+vs.length<=cells.size->
  ((vs.zipIdx k).foldl (λcs (p:Value×Nat)=>cs.setIfInBounds (off+p.2) p.1) cells).toList=cells.toList.take (off+k)++vs++cells.toList.drop (off+k+vs.length)
 | [],k,cells,_=>by simp
 | v::vs,k,cells,h=>by
  simp only[List.zipIdx_cons,List.foldl_cons];rw[xK off vs (k+1) _ (by simp at h |-;omega)];simp only[Array.toList_setIfInBounds];have:=list_seg_step cells.toList (off+k) v vs (by simp at h |-;omega);rw[show off+(k+1)=off+k+1 by omega,this];simp
theorem RS.push (h:RS s a w L Z) (np:Nat) {o:Go.Obj} {w':World} (hw:w'.heap=w.heap.push o) (hos:w'.os=w.os) (htp:w'.tape=w.tape) (hop:w'.output=w.output):
  RS s a w' L Z/\Tr np s.sto s.sto w w' L L Z Z/\∀q,(s.sto.get q).isSome->Same (aH w Z L s.sto) (aH w' Z L s.sto) q:=by
 have hk:∀b,b<w.heap.size->w'.heap[b]? =w.heap[b]? :=λb hb=>by rw[hw,Array.getElem?_push,if_neg (by omega)]
 have hz:jV w w' Z Z:=λb hb=>⟨hb,hk b (h.dis b hb).1⟩
 have hs:∀q,(s.sto.get q).isSome->Same (aH w Z L s.sto) (aH w' Z L s.sto) q:=λq hq=>by
  obtain ⟨ob,ho⟩:=Option.isSome_iff_exists.1 hq;exact ⟨rfl,λk=>k,λsz xs k=>⟨xs,k,rfl⟩,λb hb _=>dm (hk b (h.block_lt ho hb))⟩
 refine ⟨⟨h.defers,cu (c:=aH w Z L s.sto) (c':=aH w' Z L s.sto) hz _ _ (λq hq=>hs q (dU _ _ h.env q hq)) h.env,λr ob hr=> ?_,h.injH,λb hb=>⟨by rw[hw];simp;have:=(h.dis b hb).1;omega,(h.dis b hb).2⟩⟩,
  ⟨hos,htp,hop,by rw[hw];simp,λb hb _=>hk b hb,λ_ h=> .inl h,λ_ h=>h,λ_ h=> .inl h,λ_ _=>rfl,λq _ hq=>⟨hq,hs q hq⟩⟩,hs⟩
 exact i9 (c:=aH w Z L s.sto) (c':=aH w' Z L s.sto) hz rfl rfl (λb hb=>hk b (h.fq hr hb)) (λq hq=>hs q (ko (h.obj r ob hr) q hq)) (h.obj r ob hr)
theorem Mb {c:Cx} {x:AV} {d:D} {v:Value} (e:Gd x=some d) (hv:Pz c x v):RD c.w c.Z d v.cells.toList:=by
 cases x with
 | d y=>
  simp only[Gd]at e;injection e with e;subst e;have h:=hv (by simp[AV.refs]);have:=pA h (by simp) (by simp) (by simp);simp only[AV.cells,di]at this;obtain ⟨u,us,h1,h2,h3⟩:=this;rw[h1,h3];simpa only [RV]using h2
 | agg cs=>
  simp only[Gd]at e;split at e
  ·rename_i ds hds;injection e with e;subst e;have h:=hv (by simp[AV.refs,sA hds]);simp only[RV]at h;obtain ⟨vs,rfl,h2⟩:=h;simp only[RD,Value.cells];exact Cm hds h2
  ·cases e
 | _=>simp[Gd]at e
theorem Dg {c:Cx}:∀{xs:List AV} {ds:List D} {vs:List Value},p_ xs=some ds->Ov c xs vs->ds.length=vs.length/\∀(i:Nat) (d:D) (v:Value),ds[i]? =some d->vs[i]? =some v->RD c.w c.Z d v.cells.toList
 | [],ds,vs,e,h=>by
  simp only[p_]at e;injection e with e;subst e;have:=h (by simp[AV.bE]);simp only[di]at this;subst this;simp
 | x::xs,ds,vs,e,h=>by
  simp only[p_]at e;split at e
  case h_2=>cases e
  case h_1 d hd=>
   split at e
   case h_2=>cases e
   case h_1 ds' hds=>
    injection e with e;subst e;have hx:x.refs=[]:=by
     cases x with
     | d y=>rfl
     | agg cs=>
          simp only[Gd]at hd;split at hd
          ·rename_i q;simp[AV.refs,sA q]
          ·cases hd
     | _=>simp[Gd]at hd
    have hxs:∀{l:List AV} {e:List D},p_ l=some e->AV.bE l=[]:=by
     intro l;induction l with
     | nil=>intro e _;rfl
     | cons y l ih=>
      intro e he;simp only[p_]at he;split at he
      ·rename_i d2 hd2;split at he
       ·rename_i e2 he2;have hy:y.refs=[]:=by
         cases y with
         | d y=>rfl
         | agg cs=>
            simp only[Gd]at hd2;split at hd2
            ·rename_i q;simp[AV.refs,sA q]
            ·cases hd2
         | _=>simp[Gd]at hd2
        simp[AV.bE,hy,ih he2]
       ·cases he
      ·cases he
    have h0:=h (by simp[AV.bE,hx,hxs hds]);simp only[di]at h0;obtain ⟨v,vs',rfl,h1,h2⟩:=h0;obtain ⟨k1,k2⟩:=Dg hds (λ_=>h2);refine ⟨by simp[k1],λi d' v' a b=> ?_⟩;cases i with
    | zero=>simp at a b;subst a;subst b;exact Mb hd λ_=>h1
    | succ i=>simp at a b;exact k2 i d' v' a b
end
end
section
section
variable {P:Program} {call:cM} {loop:cN}
variable {s:St} {a:Act} {w:World} {L:Loc} {Z:Nat->Prop}
theorem pJ {place:Nat->Option (Nat×Nat)} {cells:Array Value} {i:Nat} {v:Value} {rest:List (Nat×Value)} {off:Nat} (hp:place i=some (off,v.cells.size)) (hb:off+v.cells.size<=cells.size):
  Instr.fill place cells ((i,v)::rest)=Instr.fill place (cells.toList.take off++v.cells.toList++cells.toList.drop (off+v.cells.toList.length)).toArray rest:=by
 have hfold:v.cells.zipIdx.foldl (λcs (p:Value×Nat)=>cs.setIfInBounds (off+p.2) p.1) cells=(cells.toList.take off++v.cells.toList++cells.toList.drop (off+v.cells.toList.length)).toArray:=by
  apply Array.ext';rw[<-Array.foldl_toList,Array.toList_zipIdx];have:=xK off v.cells.toList 0 cells (by simpa using hb);simp only[Nat.add_zero]at this;rw[this]
 simp only[Instr.fill,hp];rw[if_neg (by simp;omega)];rw[show (v.cells.zipIdx.foldl (λcs (x:Value×Nat)=>match x with | (c,j)=>cs.setIfInBounds (off+j) c) cells)=_ from hfold]
theorem Dh {sz:Nat}:∀{xs:List D} {cs:List Value} (i:Nat) {x:D} {us:List Value},gF w Z sz xs cs->i<xs.length->RD w Z x us->us.length=sz->
  gF w Z sz (xs.set i x) (cs.take (i*sz)++us++cs.drop (i*sz+us.length))
 | [],_,i,_,_,_,h,_,_=>by simp at h
 | y::ys,cs,0,x,us,h,_,hx,hl=>by
  simp only[gF]at h;obtain ⟨c1,c2,rfl,h1,h2,h3⟩:=h;simp only[List.set_cons_zero,gF,Nat.zero_mul,List.take_zero,List.nil_append,Nat.zero_add];exact ⟨us,c2,by rw[hl,<-h1,List.drop_left],hl,hx,h3⟩
 | y::ys,cs,i+1,x,us,h,hi,hx,hl=>by
  simp only[gF]at h;obtain ⟨c1,c2,rfl,h1,h2,h3⟩:=h;have ih:=Dh i h3 (by simpa using hi) hx hl;simp only[List.set_cons_succ,gF];refine ⟨c1,_,?_,h1,h2,ih⟩;have e1:(i+1)*sz=c1.length+i*sz:=by rw[Nat.succ_mul,h1];omega
  rw[e1,List.take_length_add_append,show c1.length+i*sz+us.length=c1.length+(i*sz+us.length) by omega,List.drop_length_add_append];simp
theorem qB {sz:Nat}:∀{ps:List (Nat×Value)} {ds xs xs':List D} {cells:Array Value},ds.length=ps.length->
  (∀(i:Nat) (d:D) (v:Value),ds[i]? =some d->(ps.map (·.2))[i]? =some v->RD w Z d v.cells.toList)->gF w Z sz xs cells.toList->kQ sz xs ((ps.map (·.1)).zip ds)=some xs'->
  ∃cells',Instr.fill (λi=>some (i*sz,sz)) cells ps=some cells'/\gF w Z sz xs' cells'.toList
 | [],ds,xs,xs',cells,hl,_,hc,e=>by
  simp only[List.map_nil,List.zip_nil_left,kQ]at e;injection e with e;subst e;exact ⟨cells,rfl,hc⟩
 | (i,v)::ps,[],xs,xs',cells,hl,_,hc,e=>by simp at hl
 | (i,
    v)::ps,d::ds,xs,xs',cells,hl,hr,hc,e=>by
  simp only[List.map_cons,List.zip_cons_cons,kQ]at e;split at e
  case isFalse=>cases e
  case isTrue hcond=>
   simp only[af,decide_eq_true_eq,beq_iff_eq]at hcond;obtain ⟨hi,hsz⟩:=hcond;have hd:=hr 0 d v rfl rfl;have hlen:v.cells.toList.length=sz:=by rw[yY hd,hsz]
   have hcl:=jb hc;have hb:i*sz+v.cells.size<=cells.size:=by
    have:(i+1)*sz<=xs.length*sz:=Nat.mul_le_mul_right _ hi;rw[Nat.succ_mul]at this;simp at hlen hcl;omega
   rw[pJ (off:=i*sz) (by simp at hlen;rw[hlen]) hb];exact qB (by simpa using hl) (λj d' v' p q=>hr (j+1) d' v' (by simpa using p) (by simpa using q)) (Dh i hc hi hd hlen) e
def lN:List (Nat×Operand)->List (Nat×VX)->Bool
 | [],[]=>true
 | (i,x)::l,(j,y)::r=>i==j&&cR x y&&lN l r
 | _,_=>false
theorem tW (h:RS s a w L Z):∀{ps:List (Nat×Operand)} {qs:List (Nat×VX)} {r:List (Nat×AV)},lN ps qs=true->dW s.env qs=some r->
  r.map (·.1)=ps.map (·.1)/\di (aH w Z L s.sto) (r.map (·.2)) (ps.map λp=>a.eval p.2)
 | [],[],r,_,e=>by simp only[dW]at e;injection e with e;subst e;simp[di]
 | (i,
    x)::ps,(j,y)::qs,r,hk,e=>by
  simp only[lN,af,beq_iff_eq]at hk;obtain ⟨⟨rfl,h1⟩,h2⟩:=hk;simp only[dW]at e;split at e
  case h_2=>cases e
  case h_1 u e1=>
   split at e
   case h_2=>cases e
   case h_1 r' e2=>
    injection e with e;subst e;obtain ⟨k1,k2⟩:=tW h h2 e2;simp only[List.map_cons,k1,true_and,di];exact ⟨_,_,rfl,aL h h1 e1,k2⟩
 | [],_::_,_,hk,_=>by simp[lN]at hk
 | _::_,[],_,hk,_=>by simp[lN]at hk
theorem nW {np t:Nat} {s':St} {o:Oper} {ty e:TypeId} {i:TypeInfo} {z:Value} {agg:Bool} {zero:List AV} {len:Nat} {ps:Array (Nat×Operand)} {qs:List (Nat×VX)} {r:AV}
  (h:RS s a w L Z) (ho:o.op= .buildSlice ty len ps) (hp:lN ps.toList qs=true) (hu:P.underlying ty=some (.slice e)) (hi:P.info? e=some i) (hz:i.zero=some z) (hzs:z.cells.size=i.size) (hpos:0<i.size)
  (hok:eK z.cells.toList zero=true) (hbig:len*i.size<=2^24) (ht:t<np)
  (es:aI (real call loop) s (some t) (.buildSlice (e,i.size) agg zero len qs)=some (r,s')):aV P np o s a w L Z r s':=by
 simp only[aI]at es;split at es
 case h_2=>cases es
 case h_1 vs t' hev ht'=>
  injection ht' with ht';subst ht';split at es
  case isFalse=>cases es
  case isTrue=>
   split at es
   case h_2=>cases es
   case h_1 dz hdz=>
    split at es
    case h_2=>cases es
    case h_1 zd hzd=>
     split at es
     case h_2=>cases es
     case h_1 as s2 hfz=>
      split at es
      case h_2=>cases es
      case h_1 ds hds=>
       obtain ⟨m1,m2⟩:=tW h hp hev;obtain ⟨Z',f1,f2,f3,f4⟩:=kE np (vs.map (·.2)) _ s s2 as Z h (Kept.refl _ _ _ _) m2 hfz;obtain ⟨q1,q2⟩:=Dg hds f4;have hcat0:gF w Z' i.size (List.replicate len zd) ((Array.range (len*i.size)).map (λj=>z.cells[j%z.cells.size]!)).toList:=by
        have hrd:RD w Z' zd z.cells.toList:=by
         apply lV;rw[pV hzd];exact sG (c:=⟨w,Z',L,s2.sto.get⟩) hok hdz
        have:=range_zero z.cells len (by omega);rw[hzs]at this |-;rw[this];exact jA hrd (by simp[hzs]) len
       have hidx:vs.map (·.1)=((ps.map λp=>(p.1,a.eval p.2)).toList).map (·.1):=by rw[m1];simp
       have hrun:∀{cells':Array Value},Instr.fill (λi_1=>some (i_1*i.size,i.size)) ((Array.range (len*i.size)).map (λj=>z.cells[j%z.cells.size]!)) ((ps.map λp=>(p.1,a.eval p.2)).toList)=some cells'->
         (execOp a.eval o).run P w= .ok (.value (.slice (some ⟨w.heap.size,0,none⟩) len len)) { w with heap:=w.heap.push (.cells cells' e) }:=by
        intro cells' hfill;refine eE (m:=Instr.buildSlice ty len (ps.map λp=>(p.1,a.eval p.2))) (by unfold execOp;rw[ho]) ?_;unfold Instr.buildSlice;by_cases h0:len*i.size=0
        ·have e0:(Array.range (len*i.size)).map (λj=>z.cells[j%z.cells.size]!)= #[]:=by rw[h0];simp
         rw[e0]at hfill;have hfill':Instr.fill (λi_1=>some (i_1*i.size,i.size)) #[] (List.map (λp=>(p.fst,a.eval p.snd)) ps.toList)=some cells':=by simpa using hfill
         simp only[Sem.run_bind,run_underlying hu,Result.andThen,sizeOf,typeInfo,Sem.run_pure];have e1:Array.map (λ_=>(default:Value)) (Array.range 0)= #[]:=Array.ext' (by simp);simp[hi,h0,newRow,e1,hfill']
        ·have hn:¬(len*i.size>16777216):=by omega
         simp only[Sem.run_bind,run_underlying hu,Result.andThen,sizeOf,typeInfo,Sem.run_pure];have hfill':=hfill;simp only[Array.toList_map]at hfill';simp[hi,h0,hn,newRow,zeroValue,typeInfo,hz,hfill']
       have hds0:ds.length=((ps.map λp=>(p.1,a.eval p.2)).toList).length:=by rw[q1];simp
       have hval:∀(j:Nat) (d:D) (v:Value),ds[j]? =some d->(((ps.map λp=>(p.1,a.eval p.2)).toList).map (·.2))[j]? =some v->RD w Z' d v.cells.toList:=by
        intro j d v p q;refine q2 j d v p ?_;simpa using q
       rw[hidx]at es;split at es
       case h_3=>cases es
       case h_1 hfill=>
        injection es with es;injection es with es1 es2;subst es1;subst es2;obtain ⟨cells',c1,c2⟩:=qB hds0 hval hcat0 hfill;have hl0:len=0:=by
         have:∀{ps:List (Nat×D)} {xs:List D},kQ i.size xs ps=some []->xs=[]:=by
          intro ps;induction ps with
          | nil=>intro xs e;simpa [kQ]using e
          | cons p ps ih=>
           intro xs e;obtain ⟨p1,p2⟩:=p;simp only[kQ]at e;split at e
           ·have:=ih e;simpa using this
           ·cases e
         have:=this hfill;simpa using this
        obtain ⟨k1,k2,_⟩:=RS.push f1 np (w':={ w with heap:=w.heap.push (.cells cells' e) }) rfl rfl rfl rfl;refine aV.value (hrun c1) k1 (f2.trans k2) ?_;rw[hl0];simp only[RV];exact ⟨_,rfl⟩
       case h_2 x xs hfill=>
        obtain ⟨cells',c1,c2⟩:=qB hds0 hval hcat0 hfill;split at es
        case h_2=>cases es
        case h_1 s3 hl=>
         injection es with es;injection es with es1 es2;subst es1;subst es2;have hlen:(x::xs).length=len:=by
          have:∀{ps:List (Nat×D)} {xs ys:List D},kQ i.size xs ps=some ys->ys.length=xs.length:=by
           intro ps;induction ps with
           | nil=>intro xs ys e;simp only[kQ]at e;injection e with e;rw[e]
           | cons p ps ih=>
            intro xs ys e;obtain ⟨p1,p2⟩:=p;simp only[kQ]at e;split at e
            ·have:=ih e;simpa using this
            ·cases e
          have:=this hfill;simpa using this
         have hcl:=jb c2;obtain ⟨L',k1,k2,k3,k4,k5⟩:=tH (np:=np) (cells:=cells') (w':={ w with heap:=w.heap.push (.cells cells' e) }) f1 hl ht rfl rfl rfl rfl c2 (λj v hj=>by rw[<-Array.getElem?_toList];exact hj) (by simp at hcl |-;omega);refine aV.value (hrun c1) k1 (f2.trans k2) ?_;simp only[RV];have hmax:len<=maxLen:=by
          have:len<=len*i.size:=Nat.le_mul_of_pos_right _ hpos;unfold maxLen;omega
         refine ⟨_,len,len,x::xs,rfl,⟨Nat.le_refl _,hmax⟩,λ_=>rfl,wI k4,λ_=>hlen.symm,λx m e=>(by cases e),λe=>(by rw[k3]at e;cases e),λb hb=> ?_⟩;have:w.heap.size=b:=by have:some w.heap.size=some b:=k3.symm.trans hb;injection this
         subst this;right;refine ⟨by simp[bq],?_⟩;rw[k5];simp[bq];simp at hcl;rw[hcl,<-hlen];simp
end
end
section
section
variable {P:Program} {call:cM} {loop:cN}
variable {s:St} {a:Act} {w:World} {L:Loc} {Z:Nat->Prop}
theorem yZ {n:Nat}:∀{xs:List D} {vs:List Value} {F:List Nat},jc w Z n xs vs F->gF w Z n xs (vs.take (xs.length*n))
 | [],vs,F,_=>by simp only[List.length_nil,Nat.zero_mul,List.take_zero,gF]
 | x::xs,vs,F,h=>by
  simp only[jc]at h;obtain ⟨F1,F2,h1,_,h2,h3⟩:=h;have ih:=yZ h3;simp only[gF];refine ⟨vs.take n,(vs.drop n).take (xs.length*n),?_,by simp[h1],KT x _ F1 h2,ih⟩;rw[List.length_cons,Nat.succ_mul,Nat.add_comm,List.take_add]
theorem y6 {np t:Nat} {s1 s':St} {w':World} {e sz b:Nat} {xs:List D} {cells:Array Value} {F:List Nat} (h:RS s1 a w L Z) (t0:Tr np s.sto s1.sto w w L L Z Z) (hl:s1.lay t [some (.orows (e,sz) xs)]=some s') (ht:t<np)
  (hos:w'.os=w.os) (htp:w'.tape=w.tape) (hop:w'.output=w.output) (hsize:w.heap.size<=w'.heap.size) (hkeep:∀k,k<w.heap.size->k≠b->w'.heap[k]? =w.heap[k]?)
  (hnb:¬Z b/\¬aU s1.sto L b/\(w.heap.size<=b\/aU s.sto L b))
  (hheap:w'.heap[b]? =some (.cells cells e)) (hoe:jc w' Z sz xs cells.toList F) (hF:(b::F).Nodup) (hFf:∀k∈F,¬Z k/\aU s.sto L k/\¬aU s1.sto L k/\k<w.heap.size) (hcap:xs.length*sz<=cells.size):
  ∃L',RS s' a w' L' Z/\Tr np s.sto s'.sto w w' L L' Z Z/\L' (t,0)=some b/\s'.sto.get (t,0)=some (.orows (e,sz) xs)/\bX w' b=cells.size:=by
 have hlt:b<w'.heap.size:=(Array.getElem?_eq_some_iff.1 hheap).1;obtain ⟨h1,h2,_,_⟩:=RS.Eg (s0:=s) (np:=np) (nb:=some b) (w':=w') (N:=λk=>k∈F) h t0 hl ht hos htp hop hsize (λk hk hne=>hkeep k hk λe=>hne (by rw[e]))
  (λk hk=>by injection hk with hk;subst hk;exact ⟨hnb.1,hnb.2.1,hlt,hnb.2.2⟩) (λk _ hk=>by
   obtain ⟨p1,p2,p3,p4⟩:=hFf k hk;exact ⟨p1,p3,Nat.lt_of_lt_of_le p4 hsize,.inr p2⟩) (by
   simp only[RO];refine ⟨λk=>(by rw[bZ]at k;cases k),λk hk=> ?_⟩;rw[bZ]at hk;injection hk with hk;subst hk;exact ⟨cells,F,hheap,hcap,hoe,hF,λk=>by rw[js]⟩)
 refine ⟨_,h1,h2,bZ _ _ _ _,?_,by simp[bX,hheap]⟩;rw[dH (eD hl).1];simp
theorem Am {np t:Nat} {s':St} {o:Oper} {ty e:TypeId} {i:TypeInfo} {z:Value} {x:Operand} {x':VX} {r:AV}
  (h:RS s a w L Z) (ho:o.op= .buildSlice ty 1 #[(0,x)]) (hx:cR x x'=true) (hu:P.underlying ty=some (.slice e)) (hi:P.info? e=some i) (hz:i.zero=some z) (hzs:z.cells.size=i.size) (hpos:0<i.size)
  (hbig:i.size<=2^24) (ht:t<np)
  (es:aI (real call loop) s (some t) (.buildO (e,i.size) x')=some (r,s')):aV P np o s a w L Z r s':=by
 simp only[aI]at es;split at es
 case h_2=>cases es
 case h_1 cs t' hev ht'=>
  injection ht' with ht';subst ht';split at es
  case h_2=>cases es
  case h_1 ds s2 hown=>
   split at es
   case isFalse=>cases es
   case isTrue hlen=>
    split at es
    case h_2=>cases es
    case h_1 s3 hl=>
     injection es with es;injection es with es1 es2;subst es1;subst es2;have hv:=aL h hx hev;simp only[RV]at hv;obtain ⟨vs,hv,hcs⟩:=hv;obtain ⟨f1,f2,f3,F,f4,f5,f6⟩:=qL np cs vs s s2 ds h (Kept.refl _ _ _ _) hcs hown;have hvl:=uQ f4;have hsz:(a.eval x).cells.size=i.size:=by rw[hv];simp[Value.cells];omega
     have hrun:(execOp a.eval o).run P w= .ok (.value (.slice (some ⟨w.heap.size,0,none⟩) 1 1)) { w with heap:=w.heap.push (.cells vs.toArray e) }:=by
      refine eE (m:=Instr.buildSlice ty 1 #[(0,a.eval x)]) (by unfold execOp;rw[ho];simp) ?_;unfold Instr.buildSlice;have h0:¬(i.size=0):=by omega
      have hn:¬(16777216<i.size):=by omega
      simp only[Sem.run_bind,run_underlying hu,Result.andThen,sizeOf,typeInfo,Sem.run_pure];have hfill:Instr.fill (λk=>some (k*i.size,i.size)) ((Array.range (1*i.size)).map (λj=>z.cells[j%z.cells.size]!)) [(0,a.eval x)]=some vs.toArray:=by
       rw[pJ (off:=0) (by rw[hsz];simp) (by simp;omega)];simp only[Instr.fill,Option.some.injEq];apply Array.ext';rw[hv];simp[Value.cells];have:vs.length=i.size:=by omega
       rw[this];simp
      simp[hi,h0,hn,newRow,zeroValue,typeInfo,hz]at hfill |-;simp[hfill]
     have hlt:∀k∈F,k≠w.heap.size:=λk hk e=>by have:=(f6 k hk).2.2.2;omega
     have hzle:jV w { w with heap:=w.heap.push (.cells vs.toArray e) } Z Z:=λb hb=>⟨hb,by
      have:=(f1.dis b hb).1;show (w.heap.push _)[b]? =_;rw[Array.getElem?_push,if_neg (by omega)]⟩
     obtain ⟨L',k1,k2,k3,k4,k5⟩:=y6 (s:=s) (np:=np) (b:=w.heap.size) (cells:=vs.toArray) (F:=F) (w':={ w with heap:=w.heap.push (.cells vs.toArray e) }) f1 f2 hl ht rfl rfl rfl (by simp) (λk hk _=>by
       show (w.heap.push _)[k]? =_;rw[Array.getElem?_push,if_neg (by omega)])
      ⟨λhz=>by have:=(f1.dis _ hz).1;omega,λhl=>(by obtain ⟨q,ob,p1,p2⟩:=hl;have:=f1.fq p1 p2;omega),.inl (Nat.le_refl _)⟩ (by simp)
      (zG.2 ⟨by simp;omega,by
       simp only[OE];have htk:vs.take i.size=vs:=List.take_of_length_le (by omega);rw[htk];exact jC hzle _ _ _ (λk hk=>by
        show (w.heap.push _)[k]? =_;have:=(f6 k hk).2.2.2;rw[Array.getElem?_push,if_neg (by omega)]) f4⟩)
      (List.nodup_cons.2 ⟨λhk=>hlt _ hk rfl,f5⟩) (λk hk=>f6 k hk) (by simp only[List.length_singleton,Nat.one_mul,List.size_toArray];omega)
     refine aV.value hrun k1 k2 ?_;simp only[RV];refine ⟨_,1,1,[.agg ds],rfl,⟨Nat.le_refl _,by unfold maxLen;omega⟩,λ_=>rfl,by show (s3.sto.get (t,0)).bind Obj.rw=_;rw[k4];rfl,λ_=>rfl,λx m e=>(by cases e),λe=>(by rw[k3]at e;cases e),λb hb=> ?_⟩;have:w.heap.size=b:=by have:some w.heap.size=some b:=k3.symm.trans hb;injection this
     subst this;right;refine ⟨by simp[bq],?_⟩;rw[k5];simp[bq];omega
theorem BM {Z0:Nat->Prop} {s00:br} (np:Nat) {sz:gG} {x:AV} {v:Value} {s s':St} {xs:List D} (h:RS s a w L Z) (hk:Kept w L Z0 Z s00 s.sto) (hv:RV (aH w Z0 L s00) x v)
  (e:qA (real call loop) s sz x=some (xs,s')):RS s' a w L Z/\Tr np s.sto s'.sto w w L L Z Z/\Kept w L Z Z s.sto s'.sto/\∃A c F,v= .slice A xs.length c/\zH w L Z s.sto s'.sto F/\
   ((c=0/\xs=[]/\F=[])\/∃b vs F',A=some ⟨b,0,none⟩/\F=b::F'/\w.heap[b]? =some (.cells vs sz.1 (0,0))/\c*sz.2=vs.size/\xs.length*sz.2<=vs.size/\jc w Z sz.2 xs vs.toList F'):=by
 cases x with
 | emp=>
  simp only[qA]at e;injection e with e;injection e with e1 e2;subst e1;subst e2;simp only[RV]at hv;obtain ⟨A,hv⟩:=hv;exact ⟨h,Tr.refl _ _ _ _ _,Kept.refl _ _ _ _,A,0,[],hv,by simp[zH],.inl ⟨rfl,rfl,rfl⟩⟩
 | arr r sz' g u=>
  simp only[qA]at e;split at e
  ·rename_i sz1 ys s2 ho;split at e
   case isFalse=>cases e
   case isTrue hs=>
    injection e with e;injection e with e1 e2;subst e1;subst e2;subst hs;obtain ⟨k1,k2,k3,F,k4,k5⟩:=qK np _ _ _ _ _ h hk hv ho;simp only[OC]at k4;obtain ⟨A,c,m1,m2⟩:=k4;refine ⟨k1,k2,k3,A,c,F,m1.1,k5,m2.imp id ?_⟩;rintro ⟨b,vs,F',p1,p2,p3,p4,_,p6,p7⟩;exact ⟨b,vs,F',p1,p2,p3,p4,p6,p7⟩
  ·cases e
 | _=>simp[qA]at e
theorem rO {np t:Nat} {s':St} {o:Oper} {ty e:TypeId} {i:TypeInfo} {z:Value} {x y:Operand} {x' y':VX} {r:AV} (h:RS s a w L Z)
  (ho:o.op= .call { callee:= .builtin .append,args:= #[x,y],argTypes:= #[ty,ty] }) (hx:cR x x'=true) (hy:cR y y'=true)
  (hu:P.underlying ty=some (.slice e)) (hi:P.info? e=some i) (hz:i.zero=some z) (hzs:z.cells.size=i.size) (ht:t<np)
  (es:sV (real call loop) s (some t) (e,i.size) i.bytes x' y'=some (r,s')):aV P np o s a w L Z r s':=by
 have hrun:∀{m:Value} {w':World},(Builtin.append_ #[ty,ty] o.type #[a.eval x,a.eval y]).run P w= .ok m w'->(execOp a.eval o).run P w= .ok (.value m) w':=by
  intro m w' hm;unfold execOp;rw[ho];simp[resolve,invoke,builtin,hm]
 unfold sV at es;split at es
 case h_2=>cases es
 case h_1 A0 B0 t' e1 e2 ht'=>
  injection ht' with ht';subst ht';have hA:=aL h hx e1;have hB:=aL h hy e2;split at es
  case h_2=>cases es
  case h_1 xs s1 hr1=>
   split at es
   case h_2=>cases es
   case h_1 sz2 y0 ys0 s2 hr2=>
    split at es
    case isFalse=>cases es
    case isTrue hsz2=>
     subst hsz2;split at es
     case h_2=>cases es
     case h_1 hfit=>
      split at es
      case h_2=>cases es
      case h_1 s3 hl=>
       injection es with es;injection es with es1 es2;subst es1;subst es2;obtain ⟨f1,f2,f3,VA,c1,F1,hva,⟨fn,ff⟩,hcase⟩:=BM np h (Kept.refl _ _ _ _) hA hr1;obtain ⟨g1,g2,g3,F2,g4,gn,gf⟩:=qK np _ _ _ _ _ f1 f3 hB hr2;simp only[OC]at g4;obtain ⟨VB,c2,⟨hvb,_⟩,g4⟩:=g4;rcases g4 with ⟨_,q,_⟩ | ⟨b2,vs2,F2',e3,e4,e5,e6,e7,e8,e9⟩
       ·cases q
       generalize hys:y0::ys0=ys at*;have hpos:0<ys.length:=by rw[<-hys];simp
       subst e4;have happ:(real call loop).app xs ys=xs++ys:=rfl;rw[happ]at hl hfit;simp only[real,aJ.fits,af]at hfit;obtain ⟨hf1,_⟩:=hfit;obtain ⟨hf3,hf4⟩:=of_decide_eq_true hf1;rw[List.length_append]at hf3 hf4;have hf4':xs.length+ys.length<=9223372036854775807:=by simpa [maxLen]using hf4
       have back1:∀k,aU s1.sto L k->aU s.sto L k:=λk hl=>by
        rcases f2.lives k hl with m | m
        ·exact m
        ·obtain ⟨q,ob,p1,p2⟩:=hl;have:=f1.fq p1 p2;omega
       have back2:∀k,aU s2.sto L k->aU s1.sto L k:=λk hl=>by
        rcases g2.lives k hl with m | m
        ·exact m
        ·obtain ⟨q,ob,p1,p2⟩:=hl;have:=g1.fq p1 p2;omega
       have free1:∀k∈F1,¬Z k/\aU s.sto L k/\¬aU s2.sto L k/\k<w.heap.size:=λk hk=>by
        obtain ⟨p1,p2,p3,p4⟩:=ff k hk;exact ⟨p1,p2,λhl=>p3 (back2 k hl),p4⟩
       have free2:∀k∈b2::F2',¬Z k/\aU s.sto L k/\¬aU s2.sto L k/\k<w.heap.size:=λk hk=>by
        obtain ⟨p1,p2,p3,p4⟩:=gf k hk;exact ⟨p1,back1 k p2,p3,p4⟩
       have hdisj:∀k,k∈F1->k∈b2::F2'->False:=λk hk hk2=>(ff k hk).2.2.1 (gf k hk2).2.1
       have hcat2:=yZ e9;have hlen2:=jb hcat2;have hcell2:∀j u,(vs2.toList.take (ys.length*i.size))[j]? =some u->w.cell? ((⟨b2,0,none⟩:Addr).add j)=some u:=λj u hj=>by
        rw[List.getElem?_take]at hj;split at hj
        ·rw[add_plain];simp only[World.cell?,e5,Nat.zero_add];simpa using hj
        ·cases hj
       by_cases hroom:xs.length+ys.length<=c1
       ·rcases hcase with ⟨q,_,_⟩ | ⟨b1,vs1,F1',d1,rfl,d3,d4,d5,d6⟩
        ·omega
        have hfitc:xs.length*i.size+(vs2.toList.take (ys.length*i.size)).length<=vs1.size:=by
         rw[hlen2,<-Nat.add_mul,<-d4];exact Nat.mul_le_mul_right _ hroom
        have hr:=run_append_room (P:=P) w ty o.type e i hu hi b1 xs.length c1 vs1 d3 ⟨b2,0,none⟩ ys.length c2 (vs2.toList.take (ys.length*i.size)) hlen2 hcell2 (uR hcat2) hroom hfitc;have elay:lay vs1.toList (xs.length*i.size) (vs2.toList.take (ys.length*i.size))=some (vs1.toList.take (xs.length*i.size)++vs2.toList.take (ys.length*i.size)++vs1.toList.drop (xs.length*i.size+(vs2.toList.take (ys.length*i.size)).length)):=by unfold lay;rw[if_pos (by simpa using hfitc)]
        generalize hcells:(vs1.toList.take (xs.length*i.size)++vs2.toList.take (ys.length*i.size)++vs1.toList.drop (xs.length*i.size+(vs2.toList.take (ys.length*i.size)).length))=cells at*;have hne1:∀k∈F1',k≠b1:=λk hk e=>(List.nodup_cons.1 fn).1 (e ▸ hk)
        have hne2:∀k∈F2',k≠b1:=λk hk e=>hdisj b1 (by simp) (by rw[<-e];simp[hk])
        have hother:∀k,k≠b1->(w.setRow b1 cells.toArray).heap[k]? =w.heap[k]? :=λk hk=>setRow_other _ _ _ _ hk
        have hzle:jV w (w.setRow b1 cells.toArray) Z Z:=λk hk=>⟨hk,hother k λe=>(free1 b1 (by simp)).1 (e ▸ hk)⟩
        obtain ⟨L',k1,k2,k3,k4,k5⟩:=y6 (s:=s) (np:=np) (b:=b1) (cells:=cells.toArray) (F:=F1'++F2') (w':=w.setRow b1 cells.toArray) g1 (f2.trans g2) hl ht rfl rfl rfl (by simp) (λk _ hk=>hother k hk)
         ⟨(free1 b1 (by simp)).1,(free1 b1 (by simp)).2.2.1,.inr (free1 b1 (by simp)).2.1⟩ (setRow_heap w b1 vs1 _ e (0,0) d3)
         (fw.2 ⟨F1',F2',rfl,ju (gm hzle _ _ _ _ (λk hk=>hother k (hne1 k hk)) d6) (λj hj=>by
           rw[dK elay,if_neg (by omega)]),
          ju (gm hzle _ _ _ _ (λk hk=>hother k (hne2 k hk)) e9) (λj hj=>by
           rw[List.getElem?_drop,dK elay,if_pos ⟨by omega,by rw[hlen2];omega⟩,List.getElem?_take,if_pos (by omega)];congr 1;omega)⟩)
         (by
          rw[List.nodup_cons];refine ⟨λhk=> ?_,?_⟩
          ·rcases List.mem_append.1 hk with hk | hk
           ·exact hne1 _ hk rfl
           ·exact hne2 _ hk rfl
          ·rw[List.nodup_append];exact ⟨(List.nodup_cons.1 fn).2,(List.nodup_cons.1 gn).2,λx hx y hy e=>hdisj x (by simp[hx]) (by rw[e];simp[hy])⟩)
         (λk hk=>by
          rcases List.mem_append.1 hk with hk | hk
          ·exact free1 k (by simp[hk])
          ·exact free2 k (by simp[hk]))
         (by
          have:=jz elay;simp only[List.size_toArray,this,Array.length_toList,List.length_append,Nat.add_mul];rw[hlen2]at hfitc;exact hfitc)
        refine aV.value (hrun (by rw[hva,d1,hvb,e3];exact hr)) k1 k2 ?_;simp only[RV];refine ⟨_,xs.length+ys.length,c1,xs++ys,rfl,⟨hroom,?_⟩,λe=>(by cases e),by show (s3.sto.get (t,0)).bind Obj.rw=_;rw[k4];rfl,λ_=>by rw[List.length_append],λ_ _ e=>(by cases e),λe=>(by rw[k3]at e;cases e),λb' hb'=> .inr ?_⟩
        ·have:=hA;rw[hva]at this;cases A0 with
         | arr q sz' g u=>
          simp only[RV]at this;obtain ⟨_,_,cap',_,m1,⟨_,m2⟩,_⟩:=this;injection m1 with _ _ m1;rw[m1];exact m2
         | emp=>simp only[RV]at this;obtain ⟨_,m1⟩:=this;injection m1 with _ _ m1;rw[m1];exact Nat.zero_le _
         | _=>simp[qA]at hr1
        ·have:b1=b':=by have:some b1=some b':=k3.symm.trans hb';injection this
         subst this;refine ⟨by simp[bq],?_⟩;rw[k5];have:=jz elay;simp only[List.size_toArray,this,Array.length_toList,bq,Nat.zero_add];exact d4
       ·have hgt:c1<xs.length+ys.length:=by omega
        obtain ⟨cs1,F1',⟨hF1,hnd1⟩,hcat1,hoe1,hAd⟩:∃(cs1:List Value) (F1':List Nat),((∀k∈F1',k∈F1)/\F1'.Nodup)/\gF w Z i.size xs cs1/\(∀us:List Value,(∀j,j<xs.length*i.size->us[j]? =cs1[j]?)->jc w Z i.size xs us F1')/\
          ((∃ad,VA=some ad/\∀j u,cs1[j]? =some u->w.cell? (ad.add j)=some u)\/(VA=none/\xs=[]/\c1=0)):=by
         rcases hcase with ⟨q1,rfl,rfl⟩ | ⟨b1,vs1,F1',d1,rfl,d3,d4,d5,d6⟩
         ·refine ⟨[],[],⟨by simp,by simp⟩,by simp only[gF],λus _=>by simp only[jc],?_⟩;cases VA with
          | none=>exact .inr ⟨rfl,rfl,q1⟩
          | some ad=>exact .inl ⟨ad,rfl,by simp⟩
         ·refine ⟨vs1.toList.take (xs.length*i.size),F1',⟨λk hk=>by simp[hk],(List.nodup_cons.1 fn).2⟩,yZ d6,λus hus=>ju d6 λj hj=> ?_,.inl ⟨_,d1,λj u hj=> ?_⟩⟩
          ·rw[hus j hj,List.getElem?_take,if_pos hj]
          ·rw[List.getElem?_take]at hj;split at hj
           ·rw[add_plain];simp only[World.cell?,d3,Nat.zero_add];simpa using hj
           ·cases hj
        have hlen1:=jb hcat1;have hge:=grownCap_ge w (xs.length+ys.length) c1 e;have hcm:=grownCap_le_maxLen w (xs.length+ys.length) c1 e hf4;have hr:(Builtin.append_ #[ty,ty] o.type #[.slice VA xs.length c1,.slice (some ⟨b2,0,none⟩) ys.length c2]).run P w= .ok (.slice (some ⟨w.heap.size,0,none⟩) (xs.length+ys.length) (grownCap w (xs.length+ys.length) c1 e))
          (w.drew.alloc (.cells (cs1.toArray++(vs2.toList.take (ys.length*i.size)).toArray++Builtin.zeroCells z.cells (grownCap w (xs.length+ys.length) c1 e-(xs.length+ys.length))) e)):=by
         rcases hAd with ⟨ad,rfl,hx1⟩ | ⟨rfl,rfl,rfl⟩
         ·exact run_append_grow (P:=P) w ty o.type e i z hu hi hz ad xs.length c1 cs1 hlen1 hx1 ⟨b2,0,none⟩ ys.length c2 _ hlen2 hcell2 hgt (by omega) (growslice_fits hgt hf3)
         ·have hc0:cs1=[]:=by simpa only [gF]using hcat1
          subst hc0;have:=run_append_nil (P:=P) w ty o.type e i z hu hi hz ⟨b2,0,none⟩ ys.length c2 _ hlen2 hcell2 (by omega) (by omega) (by simp at hf3;omega);simpa using this
        have hszc:(cs1.toArray++(vs2.toList.take (ys.length*i.size)).toArray++Builtin.zeroCells z.cells (grownCap w (xs.length+ys.length) c1 e-(xs.length+ys.length)):Array Value).size=grownCap w (xs.length+ys.length) c1 e*i.size:=by
         rw[Array.size_append,Array.size_append,List.size_toArray,List.size_toArray,size_zeroCells,hzs,hlen1,hlen2,<-Nat.add_mul,<-Nat.add_mul];congr 1;omega
        generalize hcells:(cs1.toArray++(vs2.toList.take (ys.length*i.size)).toArray++Builtin.zeroCells z.cells (grownCap w (xs.length+ys.length) c1 e-(xs.length+ys.length)):Array Value)=cells at*;have hold:∀k,k<w.heap.size->(w.drew.alloc (.cells cells e)).heap[k]? =w.heap[k]? :=λk hk=>heap_alloc_old w.drew _ k hk
        have hzle:jV w (w.drew.alloc (.cells cells e)) Z Z:=λk hk=>⟨hk,hold k (h.dis k hk).1⟩
        have hget:∀j,cells.toList[j]? =if j<xs.length*i.size then cs1[j]? else if j<xs.length*i.size+ys.length*i.size then (vs2.toList.take (ys.length*i.size))[j-xs.length*i.size]? else cells.toList[j]? :=λj=>by
         by_cases c1':j<xs.length*i.size
         ·rw[if_pos c1',<-hcells];rw[Array.toList_append,Array.toList_append,List.getElem?_append_left (by simp;omega),List.getElem?_append_left (by simp;omega)]
         ·rw[if_neg c1'];by_cases c2':j<xs.length*i.size+ys.length*i.size
          ·rw[if_pos c2',<-hcells];rw[Array.toList_append,Array.toList_append,List.getElem?_append_left (by rw[List.length_append];show j<cs1.length+_;rw[hlen1,hlen2];omega),List.getElem?_append_right (by show cs1.length<=j;omega)];show (List.take _ _)[j-cs1.length]? =_;rw[hlen1]
          ·rw[if_neg c2']
        obtain ⟨L',k1,k2,k3,k4,k5⟩:=y6 (s:=s) (np:=np) (b:=w.heap.size) (cells:=cells) (F:=F1'++F2') (w':=w.drew.alloc (.cells cells e)) g1 (f2.trans g2) hl ht rfl rfl rfl (by simp) (λk hk _=>hold k hk)
         ⟨λhz=>by have:=(h.dis _ hz).1;omega,λhl=>(by obtain ⟨q,ob,p1,p2⟩:=hl;have:=g1.fq p1 p2;omega),.inl (Nat.le_refl _)⟩ (heap_alloc_new w.drew _)
         (fw.2 ⟨F1',F2',rfl,gm hzle _ _ _ _ (λk hk=>hold k (free1 k (hF1 k hk)).2.2.2) (hoe1 _ λj hj=>by rw[hget,if_pos hj]),
          ju (gm hzle _ _ _ _ (λk hk=>hold k (free2 k (by simp[hk])).2.2.2) e9) (λj hj=>by
           rw[List.getElem?_drop,hget,if_neg (by omega),if_pos (by omega),List.getElem?_take,if_pos (by omega)];congr 1;omega)⟩)
         (by
          rw[List.nodup_cons];refine ⟨λhk=> ?_,?_⟩
          ·rcases List.mem_append.1 hk with hk | hk
           ·have:=(free1 _ (hF1 _ hk)).2.2.2;omega
           ·have:=(free2 w.heap.size (by simp[hk])).2.2.2;omega
          ·rw[List.nodup_append];exact ⟨hnd1,(List.nodup_cons.1 gn).2,λx hx y hy e=>hdisj x (hF1 x hx) (by rw[e];simp[hy])⟩)
         (λk hk=>by
          rcases List.mem_append.1 hk with hk | hk
          ·exact free1 k (hF1 k hk)
          ·exact free2 k (by simp[hk]))
         (by rw[hszc,List.length_append];exact Nat.mul_le_mul_right _ hge)
        refine aV.value (hrun (by rw[hva,hvb,e3];exact hr)) k1 k2 ?_;simp only[RV];refine ⟨_,xs.length+ys.length,_,xs++ys,rfl,⟨hge,hcm⟩,λe=>(by cases e),by show (s3.sto.get (t,0)).bind Obj.rw=_;rw[k4];rfl,λ_=>by rw[List.length_append],λ_ _ e=>(by cases e),λe=>(by rw[k3]at e;cases e),λb' hb'=> .inr ?_⟩;have:w.heap.size=b':=by have:some w.heap.size=some b':=k3.symm.trans hb';injection this
        subst this;exact ⟨by simp[bq],by rw[k5,hszc];simp[bq]⟩
end
end
end Go.Vi
