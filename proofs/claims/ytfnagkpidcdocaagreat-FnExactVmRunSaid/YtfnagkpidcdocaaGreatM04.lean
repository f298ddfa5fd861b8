import Derived.Test.YtfnagkpidcdocaaGreatM03
import Derived.Laws.IdiomStrings
import Derived.Laws.BytesArg
set_option linter.all false
namespace Go.Vi
open Go Go.RowKit
section
variable {P:Program} {call:FuncId->List AV->List (Option Obj)->Option bk} {loop:Nat->St->Option (Out×St)}
variable {s:St} {a:Act} {w:World} {L:Loc} {Z:Nat->Prop}
theorem dW {s s':St} {t:Nat} {l:List (Option Obj)} (hl:s.lay t l=some s'):s.sto.lay t l=some s'.sto/\s'.env=s.env:=by
 unfold St.lay at hl;split at hl
 ·rename_i sto e;injection hl with hl;subst hl;exact ⟨e,rfl⟩
 ·cases hl
theorem Gp {np t:Nat} {s1 s':St} {w':World} {e sz b:Nat} {xs:List D} {cells:Array Value} {cs:List Value} (h:RS s1 a w L Z) (t0:Tr np s.sto s1.sto w w L L Z Z) (hl:s1.lay t [some (.rows (e,sz) xs)]=some s') (ht:t<np)
  (hos:w'.os=w.os) (htp:w'.tape=w.tape) (hop:w'.output=w.output) (hsize:w.heap.size<=w'.heap.size)
  (hkeep:∀k,k<w.heap.size->k≠b->w'.heap[k]? =w.heap[k]?)
  (hnb:¬Z b/\¬aW s1.sto L b/\(w.heap.size<=b\/aW s.sto L b))
  (hheap:w'.heap[b]? =some (.cells cells e)) (hcat:gm w Z sz xs cs) (hpre:∀(j:Nat) (v:Value),cs[j]? =some v->cells[j]? =some v) (hcap:xs.length*sz<=cells.size):
  ∃L',RS s' a w' L' Z/\Tr np s.sto s'.sto w w' L L' Z Z/\L' (t,0)=some b/\s'.sto.get (t,0)=some (.rows (e,sz) xs)/\bX w' b=cells.size:=by
 have hlt:b<w'.heap.size:=(Array.getElem?_eq_some_iff.1 hheap).1;have hzle:jA w w' Z Z:=fun k hk=>⟨hk,hkeep k (h.dis k hk).1 fun e=>hnb.1 (e ▸ hk)⟩
 obtain ⟨h1,h2,_,_⟩:=RS.lay (s0:=s) (np:=np) (nb:=some b) (w':=w') h t0 hl ht hos htp hop hsize (fun k hk hne=>hkeep k hk fun e=>hne (by rw [e]))
  (fun k hk=>by injection hk with hk;subst hk;exact ⟨hnb.1,hnb.2.1,hlt,hnb.2.2⟩) (by
   simp only [RO];refine ⟨fun k=>by simp [upd,eM]at k,fun k hk=> ?_⟩;have:b=k:=by simpa [upd,eM]using hk
   subst this;refine ⟨cells,hheap,hcap,rm (ri hzle hcat) fun j v hj=> ?_⟩;simp only [World.cell?,hheap,Nat.zero_add];simpa using hpre j v hj)
 refine ⟨_,h1,h2,by simp [upd,eM],?_,by simp [bX,hheap]⟩;rw [dw (dW hl).1];simp
theorem vp {np t:Nat} {s1 s':St} {sz:gq} (h:RS s1 a w L Z) (t0:Tr np s.sto s1.sto w w L L Z Z) (hl:s1.lay t [some (.rows sz [])]=some s') (ht:t<np):
  ∃L',RS s' a w L' Z/\Tr np s.sto s'.sto w w L L' Z Z/\L' (t,0)=none/\s'.sto.get (t,0)=some (.rows sz [])/\(∀q,(s1.sto.get q).isSome->Same (aF w Z L s1.sto) (aF w Z L' s'.sto) q):=by
 obtain ⟨h1,h2,_,h4⟩:=RS.lay (s0:=s) (np:=np) (nb:=none) (w':=w) h t0 hl ht rfl rfl rfl (Nat.le_refl _) (fun k hk hne=>rfl) (fun k hk=>by cases hk) (by
   simp only [RO];exact ⟨fun _=>trivial,fun k hk=>by simp [upd,eM]at hk⟩)
 refine ⟨_,h1,h2,by simp [upd,eM],?_,h4⟩;rw [dw (dW hl).1];simp
theorem jw {t ty e:TypeId} {i:TypeInfo} (ht:P.underlying t=some (.slice e)) (hi:P.info? e=some i) {A A2:Option Addr} {n cap c2:Nat} (hn:n<=cap):
  (Builtin.append_ #[t,t] ty #[.slice A n cap,.slice A2 0 c2]).run P w= .ok (.slice A n cap) w:=by
 cases A<;>cases A2<;>simp [Builtin.append_,run_underlying ht,sizeOf,typeInfo,hi,Builtin.lenOf,hn,Builtin.firstCells,loadCells,loadCellsFrom,storeCells]
theorem source {s:bF} {x:AV} {v:Value} {xs:List D} {sz:Nat} (hobj:∀r ob,s.get r=some ob->RO (aF w Z L s) r ob) (hv:RV (aF w Z L s) x v) (hc:content (real call loop) s x=some xs)
  (hall:xs.all (fun y=>y.cells.length==sz)=true) (hne:xs≠[]):∃b o cap cs,v= .slice (some ⟨b,o,none⟩) xs.length cap/\gm w Z sz xs cs/\∀j u,cs[j]? =some u->w.cell? ((⟨b,o,none⟩:Addr).add j)=some u:=by
 obtain ⟨A,cap,h1,h2,h3⟩:=cG hobj hv hc;rcases h3 with h3 | ⟨b,o,z,h4,h5,_⟩
 ·exact (hne h3).elim
 ·have hz:z=sz:=by
   cases xs with
   | nil=>exact (hne rfl).elim
   | cons y l=>
    have h6:=h5;simp only [Rows]at h6;obtain ⟨⟨cs,k1,k2,_⟩,_⟩:=h6;have:=yN k2;simp at hall;omega
  subst hz;obtain ⟨cs,k1,k2⟩:=rj h5;exact ⟨b,o,cap,cs,by rw [h1,h4],k1,fun j u hj=>by rw [add_plain];exact k2 j u hj⟩
theorem rK {np t:Nat} {s1 s':St} {o:Oper} {ty e:TypeId} {i:TypeInfo} {z:Value} {A0:Option Addr} {n cap0 cap2:Nat} {xs ys:List D} {cs1 cs2:List Value} {ad ad2:Addr}
  (h:RS s1 a w L Z) (t0:Tr np s.sto s1.sto w w L L Z Z) (hs0:RS s a w L Z) (hl:s1.lay t [some (.rows (e,i.size) (xs++ys))]=some s') (ht:t<np)
  (hu:P.underlying ty=some (.slice e)) (hi:P.info? e=some i) (hz:i.zero=some z) (hzs:z.cells.size=i.size)
  (hrun:∀{m:Value} {w':World},(Builtin.append_ #[ty,ty] o.type #[.slice A0 n cap0,.slice (some ad2) ys.length cap2]).run P w= .ok m w'->(execOp a.eval o).run P w= .ok (.value m) w')
  (hn:n=xs.length) (hA:A0=some ad\/(A0=none/\n=0/\cap0=0)) (hc1:gm w Z i.size xs cs1) (hx:∀j u,cs1[j]? =some u->w.cell? (ad.add j)=some u)
  (hc2:gm w Z i.size ys cs2) (hy:∀j u,cs2[j]? =some u->w.cell? (ad2.add j)=some u) (hgt:cap0<n+ys.length) (f3:(n+ys.length)*i.bytes<=140737488355328) (f4:n+ys.length<=maxLen):
  aX P np o s a w L Z (.arr (t,0) (e,i.size) none false) s':=by
 have f4':n+ys.length<=9223372036854775807:=by simpa [maxLen]using f4
 have hl1:=iN hc1;have hl2:=iN hc2;have hge:=grownCap_ge w (n+ys.length) cap0 e;have hcm:=grownCap_le_maxLen w (n+ys.length) cap0 e f4;have hr:(Builtin.append_ #[ty,ty] o.type #[.slice A0 n cap0,.slice (some ad2) ys.length cap2]).run P w= .ok (.slice (some ⟨w.heap.size,0,none⟩) (n+ys.length) (grownCap w (n+ys.length) cap0 e))
   (w.drew.alloc (.cells (cs1.toArray++cs2.toArray++Builtin.zeroCells z.cells (grownCap w (n+ys.length) cap0 e-(n+ys.length))) e)):=by
  rcases hA with rfl | ⟨rfl,rfl,rfl⟩
  ·exact run_append_grow (P:=P) w ty o.type e i z hu hi hz ad n cap0 cs1 (by rw [hn];exact hl1) hx ad2 ys.length cap2 cs2 hl2 hy hgt (by omega) (growslice_fits hgt f3)
  ·have hx0:xs=[]:=List.eq_nil_of_length_eq_zero hn.symm;subst hx0;have hc0:cs1=[]:=by simpa only [gm]using hc1
   subst hc0;have:=run_append_nil (P:=P) w ty o.type e i z hu hi hz ad2 ys.length cap2 cs2 hl2 hy (by omega) (by omega) (by rw [Nat.zero_add]at f3;omega);simpa using this
 have hsz:(cs1.toArray++cs2.toArray++Builtin.zeroCells z.cells (grownCap w (n+ys.length) cap0 e-(n+ys.length)):Array Value).size=grownCap w (n+ys.length) cap0 e*i.size:=by
  rw [Array.size_append,Array.size_append,List.size_toArray,List.size_toArray,size_zeroCells,hzs,hl1,hl2,<-hn,<-Nat.add_mul,<-Nat.add_mul];congr 1;omega
 obtain ⟨L',k1,k2,k3,k4,k5⟩:=Gp (s:=s) (b:=w.heap.size) (cells:=cs1.toArray++cs2.toArray++Builtin.zeroCells z.cells (grownCap w (n+ys.length) cap0 e-(n+ys.length)))
  (w':=w.drew.alloc (.cells (cs1.toArray++cs2.toArray++Builtin.zeroCells z.cells (grownCap w (n+ys.length) cap0 e-(n+ys.length))) e)) h t0 hl ht rfl rfl rfl (by simp) (fun k hk _=>heap_alloc_old w.drew _ k hk)
  ⟨fun hz=>by have:=(h.dis _ hz).1;omega,fun hl=>(by obtain ⟨q,ob,p1,p2⟩:=hl;have:=h.eY p1 p2;omega),.inl (Nat.le_refl _)⟩ (heap_alloc_new w.drew _) (mT hc1 hc2)
  (fun j v hj=>by
   have h0:=(ai.1 hj).1;rw [Array.getElem?_append_left (by simpa using h0)];simpa using hj) (by rw [hsz,List.length_append,<-hn];exact Nat.mul_le_mul_right _ hge)
 refine aX.value (hrun hr) k1 k2 ?_;simp only [RV];refine ⟨_,n+ys.length,_,xs++ys,rfl,⟨hge,hcm⟩,fun e=>(by cases e),v8 k4,fun _=>by rw [List.length_append,hn],fun _ _ e=>(by cases e),fun e=>(by rw [k3]at e;cases e),fun b' hb'=> .inr ?_⟩;have:w.heap.size=b':=by have:some w.heap.size=some b':=k3.symm.trans hb';injection this
 subst this;exact ⟨by simp [bC],by rw [k5,hsz];simp [bC]⟩
theorem sN {np t:Nat} {s':St} {o:Oper} {ty e:TypeId} {i:TypeInfo} {z:Value} {x y:Operand} {x' y':VX} {A B r:AV} (h:RS s a w L Z)
  (ho:o.op= .call { callee:= .builtin .append,args:= #[x,y],argTypes:= #[ty,ty] }) (hx:cN x x'=true) (hy:cN y y'=true)
  (hu:P.underlying ty=some (.slice e)) (hi:P.info? e=some i) (hz:i.zero=some z) (hzs:z.cells.size=i.size) (ht:t<np)
  (e1:ev s.env x'=some A) (e2:ev s.env y'=some B)
  (es:aJ (real call loop) s (some t) (.append (e,i.size) i.bytes x' y')=some (r,s')):aX P np o s a w L Z r s':=by
 have hA:=aL h hx e1;have hB:=aL h hy e2;have hrun:∀{m:Value} {w':World},(Builtin.append_ #[ty,ty] o.type #[a.eval x,a.eval y]).run P w= .ok m w'->(execOp a.eval o).run P w= .ok (.value m) w':=by
  intro m w' hm;unfold execOp;rw [ho];simp [resolve,invoke,builtin,hm]
 simp only [aJ,e1,e2]at es;split at es
 ·cases es
 rename_i ys hys;obtain ⟨A2,cap2,b1,b2,b3⟩:=cG h.obj hB hys;cases A with
 | emp=>
  simp only at es;split at es
  case h_2=>cases es
  case h_1 hfit=>
   split at es
   case h_2=>cases es
   case h_1 s2 hl=>
    injection es with es;injection es with es1 es2;subst es1;subst es2;simp only [RV]at hA;obtain ⟨A0,hA⟩:=hA;by_cases hy0:ys=[]
    ·subst hy0;obtain ⟨L',k1,k2,k3,k4,_⟩:=vp (s:=s) h (Tr.refl np _ _ _ _) hl ht;refine aX.value (hrun (m:= .slice A0 0 0) (w':=w) (by rw [hA,b1];exact jw hu hi (Nat.le_refl _))) k1 k2 ?_;simp only [RV];exact ⟨A0,0,0,[],rfl,⟨Nat.le_refl _,Nat.zero_le _⟩,fun _=>rfl,v8 k4,fun _=>rfl,fun _ _ e=>(by cases e),fun _=>rfl,fun b hb=>by rw [k3]at hb;cases hb⟩
    ·have hfit':=hfit;simp only [real,aK.fits,ah]at hfit';obtain ⟨f1,f2⟩:=hfit';obtain ⟨f3,f4⟩:=of_decide_eq_true f1;obtain ⟨b,off,cap,cs,c1,c2,c3⟩:=source h.obj hB hys f2 hy0;have hpos':0<ys.length:=List.length_pos_iff.2 hy0;refine rK (s:=s) (A0:=A0) (n:=0) (cap0:=0) (xs:=[]) (ys:=ys) (cs1:=[]) (cs2:=cs) (ad:=A0.getD ⟨0,0,none⟩) h (Tr.refl np _ _ _ _) h (by simpa using hl) ht hu hi hz hzs (fun hm=>hrun (by rw [hA,c1];exact hm)) rfl ?_ (by simp only [gm]) (by simp) c2 c3 (by omega) (by rw [Nat.zero_add];exact f3) (by rw [Nat.zero_add];exact f4);cases A0 with
     | none=>exact .inr ⟨rfl,rfl,rfl⟩
     | some ad=>exact .inl rfl
 | arr q sz g u=>
  simp only at es;split at es
  case h_2=>cases es
  case h_1 xs hxs=>
   split at es
   case isFalse=>cases es
   case isTrue hc=>
    split at es
    case h_2=>cases es
    case h_1 hfit=>
     split at es
     case h_2=>cases es
     case h_1 s2 hl=>
      injection es with es;injection es with es1 es2;subst es1;subst es2;simp only [ah,decide_eq_true_eq]at hc;obtain ⟨hc1,hc2⟩:=hc;subst hc1;have hg0:bC g=0:=by
       cases g with
       | none=>rfl
       | some p=>obtain ⟨p1,p2⟩:=p;simp only [Gm,real,aK.isZero]at hc2;have:=of_decide_eq_true hc2;simp [bC,this]
      obtain ⟨A1,cap1,d1,d2,d3⟩:=cG h.obj hA hxs;have hA':=hA;simp only [RV]at hA';obtain ⟨a',n',cap',xs0,m1,⟨m2,m2'⟩,_,m4,_,_,m7,m8⟩:=hA';rw [d1]at m1;injection m1 with q1 q2 q3;subst q1;subst q3;have hk:=h.kill q;have hkt:=Tr.kill np s w L Z q;have m4:=zq hxs m4;have hro:=h.obj q _ m4;simp only [RO]at hro;have happ:(real call loop).app xs ys=xs++ys:=rfl;rw [happ]at hl hfit;have hfit':=hfit;simp only [real,aK.fits,ah]at hfit';obtain ⟨f1,f2⟩:=hfit';obtain ⟨f3,f4⟩:=of_decide_eq_true f1;rw [List.all_append,ah]at f2;rw [List.length_append]at f3 f4;have f4':xs.length+ys.length<=9223372036854775807:=by simpa [maxLen]using f4
      cases hL:L q with
      | none=>
       have hc0:=m7 hL;subst hc0;have hx0:xs=[]:=List.eq_nil_of_length_eq_zero (by omega);subst hx0;by_cases hy0:ys=[]
       ·subst hy0;obtain ⟨L',k1,k2,k3,k4,_⟩:=vp (s:=s) hk hkt (by simpa using hl) ht;refine aX.value (hrun (m:= .slice A1 0 0) (w':=w) (by rw [d1,b1];exact jw hu hi (Nat.le_refl _))) k1 k2 ?_;simp only [RV];exact ⟨A1,0,0,[],rfl,⟨Nat.le_refl _,Nat.zero_le _⟩,fun _=>rfl,v8 k4,fun _=>rfl,fun _ _ e=>(by cases e),fun _=>rfl,fun b hb=>by rw [k3]at hb;cases hb⟩
       ·obtain ⟨b,off,cap,cs,c1,c2,c3⟩:=source h.obj hB hys f2.2 hy0;have hpos':0<ys.length:=List.length_pos_iff.2 hy0;refine rK (s:=s) (A0:=A1) (n:=0) (cap0:=0) (xs:=[]) (ys:=ys) (cs1:=[]) (cs2:=cs) (ad:=A1.getD ⟨0,0,none⟩) hk hkt h hl ht hu hi hz hzs (fun hm=>hrun (by rw [d1,c1];exact hm)) rfl ?_ (by simp only [gm]) (by simp) c2 c3 (by omega) (by simpa using f3) (by simpa using f4);cases A1 with
        | none=>exact .inr ⟨rfl,rfl,rfl⟩
        | some ad=>exact .inl rfl
      | some b=>
       rcases m8 b hL with ⟨_,z1⟩ | ⟨z1,z2⟩
       ·exact (z1 hg0).elim
       rw [hg0]at z1 z2;simp only [Nat.zero_mul,Nat.zero_add]at z1 z2;subst z1;obtain ⟨vs,p1,p2,p3⟩:=hro.2 b hL;have hblk:bX w b=vs.size:=by simp [bX,p1]
       have hnl:¬aW (s.kill q).sto L b:=f8 h m4 (.inl hL);have hnz:¬Z b:=fun hz=>(h.dis b hz).2 ⟨q,_,m4,.inl hL⟩
       have hlv:aW s.sto L b:=⟨q,_,m4,.inl hL⟩
       obtain ⟨
           cs1,o1,o2⟩:∃cs1,gm w Z i.size xs cs1/\∀j u,cs1[j]? =some u->w.cell? ⟨b,j,none⟩=some u:=by
        have hR:Rows w Z xs b 0 i.size:=by
         simp only [content,m4]at hxs;cases g with
         | none=>simp only at hxs;injection hxs with hxs;rw [<-hxs];exact p3
         | some p=>
          obtain ⟨x0,n0⟩:=p;simp only [real,aK.sub,zp]at hxs;split at hxs
          ·injection hxs with hxs;rw [<-hxs];have:x0.toNat=0:=by simpa [bC]using hg0
           rw [this];exact lU _ (by simpa using p3)
          ·cases hxs
        obtain ⟨cs1,o1,o2⟩:=rj hR;exact ⟨cs1,o1,fun j u hj=>by have:=o2 j u hj;rwa [Nat.zero_add]at this⟩
       have hlen1:=iN o1;have hcell:∀j,w.cell? ⟨b,j,none⟩=vs[j]? :=fun j=>by simp [World.cell?,p1]
       by_cases hroom:xs.length+ys.length<=cap1
       ·obtain ⟨ad2,cs2,c1,c2,c3⟩:∃A cs2,a.eval y= .slice A ys.length cap2/\gm w Z i.size ys cs2/\(∀ad,A=some ad->∀j u,cs2[j]? =some u->w.cell? (ad.add j)=some u):=by
         by_cases hy0:ys=[]
         ·subst hy0;exact ⟨A2,[],b1,by simp only [gm],by simp⟩
         ·obtain ⟨b',off,cap,cs,c1,c2,c3⟩:=source h.obj hB hys f2.2 hy0;have:cap=cap2:=by rw [c1]at b1;injection b1
          subst this;exact ⟨_,cs,c1,c2,fun ad e=>by injection e with e;subst e;exact c3⟩
        have hlen2:=iN c2;have hfitc:xs.length*i.size+cs2.length<=vs.size:=by rw [hlen2,<-Nat.add_mul,<-hblk,<-z2];exact Nat.mul_le_mul_right _ hroom
        have hr:(Builtin.append_ #[ty,ty] o.type #[.slice (some ⟨b,0,none⟩) xs.length cap1,.slice ad2 ys.length cap2]).run P w= .ok (.slice (some ⟨b,0,none⟩) (xs.length+ys.length) cap1)
          (w.setRow b (vs.toList.take (xs.length*i.size)++cs2++vs.toList.drop (xs.length*i.size+cs2.length)).toArray):=by
         cases ad2 with
         | none=>
          have hy0:ys=[]:=by
           rcases b3 with b3 | ⟨_,_,_,b4,_⟩
           ·exact b3
           ·rw [c1]at b1;injection b1 with b1;rw [<-b1]at b4;cases b4
          subst hy0;have:cs2=[]:=by simpa only [gm]using c2
          subst this;have:=jw (P:=P) (w:=w) (ty:=o.type) hu hi (A:=some ⟨b,0,none⟩) (A2:=none) (n:=xs.length) (cap:=cap1) (c2:=cap2) d2;simp only [List.length_nil,Nat.add_zero,List.append_nil,List.take_append_drop]at this |-;rw [this];congr 1;exact (setRow_self w b vs e (0,0) p1).symm
         | some ad=>exact run_append_room (P:=P) w ty o.type e i hu hi b xs.length cap1 vs p1 ad ys.length cap2 cs2 hlen2 (c3 ad rfl) (ud c2) hroom hfitc
        have elay:lay vs.toList (xs.length*i.size) cs2=some (vs.toList.take (xs.length*i.size)++cs2++vs.toList.drop (xs.length*i.size+cs2.length)):=by unfold lay;rw [if_pos (by simpa using hfitc)]
        obtain ⟨L',k1,k2,k3,k4,k5⟩:=Gp (s:=s) (b:=b) (cells:=(vs.toList.take (xs.length*i.size)++cs2++vs.toList.drop (xs.length*i.size+cs2.length)).toArray)
         (w':=w.setRow b (vs.toList.take (xs.length*i.size)++cs2++vs.toList.drop (xs.length*i.size+cs2.length)).toArray) hk hkt hl ht rfl rfl rfl (by simp) (fun k _ hk=>setRow_other _ _ _ _ hk)
         ⟨hnz,hnl,.inr hlv⟩ (setRow_heap w b vs _ e (0,0) p1) (mT o1 c2)
         (fun j v hj=>by
          simp only [List.getElem?_toArray];rw [dA elay];rw [List.getElem?_append]at hj;split at hj
          ·rename_i hlt;rw [if_neg (by omega)];have:=o2 j v hj;rw [hcell]at this;simpa using this
          ·rename_i hlt;have:=(ai.1 hj).1;rw [if_pos (by omega),<-hlen1];exact hj) (by
          have:=jh elay;simp only [List.size_toArray,this,Array.length_toList,List.length_append,Nat.add_mul];omega)
        refine aX.value (hrun (by rw [d1,c1];exact hr)) k1 k2 ?_;simp only [RV];refine ⟨_,xs.length+ys.length,cap1,xs++ys,rfl,⟨hroom,m2'⟩,fun e=>(by cases e),v8 k4,fun _=>by rw [List.length_append],fun _ _ e=>(by cases e),fun e=>(by rw [k3]at e;cases e),fun b' hb'=> .inr ?_⟩;have:b=b':=by have:some b=some b':=k3.symm.trans hb';injection this
        subst this;refine ⟨by simp [bC],?_⟩;rw [k5];have:=jh elay;simp only [List.size_toArray,this,Array.length_toList,bC,Nat.zero_add];rw [z2,hblk]
       ·have hy0:ys≠[]:=by rintro rfl;exact hroom (by simpa using d2)
        obtain ⟨b',off,cap,cs,c1,c2,c3⟩:=source h.obj hB hys f2.2 hy0;exact rK (s:=s) (A0:=some ⟨b,0,none⟩) (n:=xs.length) (cap0:=cap1) (xs:=xs) (ys:=ys) (cs1:=cs1) (cs2:=cs) (ad:=⟨b,0,none⟩) hk hkt h hl ht hu hi hz hzs (fun hm=>hrun (by rw [d1,c1];exact hm)) rfl (.inl rfl) o1 (fun j u hj=>by rw [add_plain,Nat.zero_add];exact o2 j u hj) c2 c3 (by omega) f3 f4
 | _=>simp at es
end
section
section
variable {P:Program} {call:FuncId->List AV->List (Option Obj)->Option bk} {loop:Nat->St->Option (Out×St)}
variable {s:St} {a:Act} {w:World} {L:Loc} {Z:Nat->Prop}
theorem xq (off:Nat):∀(vs:List Value) (k:Nat) (cells:Array Value),off+k+vs.length<=cells.size->
  ((vs.zipIdx k).foldl (fun cs (p:Value×Nat)=>cs.setIfInBounds (off+p.2) p.1) cells).toList=cells.toList.take (off+k)++vs++cells.toList.drop (off+k+vs.length)
 | [],k,cells,_=>by simp
 | v::vs,k,cells,h=>by
  simp only [List.zipIdx_cons,List.foldl_cons];rw [xq off vs (k+1) _ (by simp at h |-;omega)];simp only [Array.toList_setIfInBounds];have:=list_seg_step cells.toList (off+k) v vs (by simp at h |-;omega);rw [show off+(k+1)=off+k+1 by omega,this];simp
theorem RS.push (h:RS s a w L Z) (np:Nat) {o:Go.Obj} {w':World} (hw:w'.heap=w.heap.push o) (hos:w'.os=w.os) (htp:w'.tape=w.tape) (hop:w'.output=w.output):
  RS s a w' L Z/\Tr np s.sto s.sto w w' L L Z Z/\∀q,(s.sto.get q).isSome->Same (aF w Z L s.sto) (aF w' Z L s.sto) q:=by
 have hk:∀b,b<w.heap.size->w'.heap[b]? =w.heap[b]? :=fun b hb=>by rw [hw,Array.getElem?_push,if_neg (by omega)]
 have hz:jA w w' Z Z:=fun b hb=>⟨hb,hk b (h.dis b hb).1⟩
 have hs:∀q,(s.sto.get q).isSome->Same (aF w Z L s.sto) (aF w' Z L s.sto) q:=fun q hq=>by
  obtain ⟨ob,ho⟩:=Option.isSome_iff_exists.1 hq;exact ⟨rfl,fun k=>k,fun sz xs k=>⟨xs,k,rfl⟩,fun b hb _=>dh (hk b (h.block_lt ho hb))⟩
 refine ⟨⟨h.defers,ct (c:=aF w Z L s.sto) (c':=aF w' Z L s.sto) hz _ _ (fun q hq=>hs q (dF _ _ h.env q hq)) h.env,fun r ob hr=> ?_,h.injH,fun b hb=>⟨by rw [hw];simp;have:=(h.dis b hb).1;omega,(h.dis b hb).2⟩⟩,
  ⟨hos,htp,hop,by rw [hw];simp,fun b hb _=>hk b hb,fun _ h=> .inl h,fun _ h=>h,fun _ h=> .inl h,fun _ _=>rfl,fun q _ hq=>⟨hq,hs q hq⟩⟩,hs⟩
 exact iJ (c:=aF w Z L s.sto) (c':=aF w' Z L s.sto) hz rfl rfl (fun b hb=>hk b (h.eY hr hb)) (fun q hq=>hs q (jK (h.obj r ob hr) q hq)) (h.obj r ob hr)
theorem LB {c:Cx} {x:AV} {d:D} {v:Value} (e:Gl x=some d) (hv:OI c x v):RD c.w c.Z d v.cells.toList:=by
 cases x with
 | d y=>
  simp only [Gl]at e;injection e with e;subst e;have h:=hv (by simp [AV.refs]);have:=om h (by simp) (by simp) (by simp);simp only [AV.cells,dg]at this;obtain ⟨u,us,h1,h2,h3⟩:=this;rw [h1,h3];simpa only [RV]using h2
 | agg cs=>
  simp only [Gl]at e;split at e
  ·rename_i ds hds;injection e with e;subst e;have h:=hv (by simp [AV.refs,rf hds]);simp only [RV]at h;obtain ⟨vs,rfl,h2⟩:=h;simp only [RD,Value.cells];exact Cw hds h2
  ·cases e
 | _=>simp [Gl]at e
theorem Dg {c:Cx}:∀{xs:List AV} {ds:List D} {vs:List Value},oR xs=some ds->NA c xs vs->ds.length=vs.length/\∀(i:Nat) (d:D) (v:Value),ds[i]? =some d->vs[i]? =some v->RD c.w c.Z d v.cells.toList
 | [],ds,vs,e,h=>by
  simp only [oR]at e;injection e with e;subst e;have:=h (by simp [AV.bO]);simp only [dg]at this;subst this;simp
 | x::xs,ds,vs,e,h=>by
  simp only [oR]at e;split at e
  case h_2=>cases e
  case h_1 d hd=>
   split at e
   case h_2=>cases e
   case h_1 ds' hds=>
    injection e with e;subst e;have hx:x.refs=[]:=by
     cases x with
     | d y=>rfl
     | agg cs=>
          simp only [Gl]at hd;split at hd
          ·rename_i q;simp [AV.refs,rf q]
          ·cases hd
     | _=>simp [Gl]at hd
    have hxs:∀{l:List AV} {e:List D},oR l=some e->AV.bO l=[]:=by
     intro l;induction l with
     | nil=>intro e _;rfl
     | cons y l ih=>
      intro e he;simp only [oR]at he;split at he
      ·rename_i d2 hd2;split at he
       ·rename_i e2 he2;have hy:y.refs=[]:=by
         cases y with
         | d y=>rfl
         | agg cs=>
            simp only [Gl]at hd2;split at hd2
            ·rename_i q;simp [AV.refs,rf q]
            ·cases hd2
         | _=>simp [Gl]at hd2
        simp [AV.bO,hy,ih he2]
       ·cases he
      ·cases he
    have h0:=h (by simp [AV.bO,hx,hxs hds]);simp only [dg]at h0;obtain ⟨v,vs',rfl,h1,h2⟩:=h0;obtain ⟨k1,k2⟩:=Dg hds (fun _=>h2);refine ⟨by simp [k1],fun i d' v' a b=> ?_⟩;cases i with
    | zero=>simp at a b;subst a;subst b;exact LB hd fun _=>h1
    | succ i=>simp at a b;exact k2 i d' v' a b
end
end
section
section
variable {P:Program} {call:FuncId->List AV->List (Option Obj)->Option bk} {loop:Nat->St->Option (Out×St)}
variable {s:St} {a:Act} {w:World} {L:Loc} {Z:Nat->Prop}
theorem oE {place:Nat->Option (Nat×Nat)} {cells:Array Value} {i:Nat} {v:Value} {rest:List (Nat×Value)} {off:Nat} (hp:place i=some (off,v.cells.size)) (hb:off+v.cells.size<=cells.size):
  Instr.fill place cells ((i,v)::rest)=Instr.fill place (cells.toList.take off++v.cells.toList++cells.toList.drop (off+v.cells.toList.length)).toArray rest:=by
 have hfold:v.cells.zipIdx.foldl (fun cs (p:Value×Nat)=>cs.setIfInBounds (off+p.2) p.1) cells=(cells.toList.take off++v.cells.toList++cells.toList.drop (off+v.cells.toList.length)).toArray:=by
  apply Array.ext';rw [<-Array.foldl_toList,Array.toList_zipIdx];have:=xq off v.cells.toList 0 cells (by simpa using hb);simp only [Nat.add_zero]at this;rw [this]
 simp only [Instr.fill,hp];rw [if_neg (by simp;omega)];rw [show (v.cells.zipIdx.foldl (fun cs (x:Value×Nat)=>match x with | (c,j)=>cs.setIfInBounds (off+j) c) cells)=_ from hfold]
theorem Dh {sz:Nat}:∀{xs:List D} {cs:List Value} (i:Nat) {x:D} {us:List Value},gm w Z sz xs cs->i<xs.length->RD w Z x us->us.length=sz->
  gm w Z sz (xs.set i x) (cs.take (i*sz)++us++cs.drop (i*sz+us.length))
 | [],_,i,_,_,_,h,_,_=>by simp at h
 | y::ys,cs,0,x,us,h,_,hx,hl=>by
  simp only [gm]at h;obtain ⟨c1,c2,rfl,h1,h2,h3⟩:=h;simp only [List.set_cons_zero,gm,Nat.zero_mul,List.take_zero,List.nil_append,Nat.zero_add];exact ⟨us,c2,by rw [hl,<-h1,List.drop_left],hl,hx,h3⟩
 | y::ys,cs,i+1,x,us,h,hi,hx,hl=>by
  simp only [gm]at h;obtain ⟨c1,c2,rfl,h1,h2,h3⟩:=h;have ih:=Dh i h3 (by simpa using hi) hx hl;simp only [List.set_cons_succ,gm];refine ⟨c1,_,?_,h1,h2,ih⟩;have e1:(i+1)*sz=c1.length+i*sz:=by rw [Nat.succ_mul,h1];omega
  rw [e1,List.take_length_add_append,show c1.length+i*sz+us.length=c1.length+(i*sz+us.length) by omega,List.drop_length_add_append];simp
theorem pH {sz:Nat}:∀{ps:List (Nat×Value)} {ds xs xs':List D} {cells:Array Value},ds.length=ps.length->
  (∀(i:Nat) (d:D) (v:Value),ds[i]? =some d->(ps.map (·.2))[i]? =some v->RD w Z d v.cells.toList)->gm w Z sz xs cells.toList->j8 sz xs ((ps.map (·.1)).zip ds)=some xs'->
  ∃cells',Instr.fill (fun i=>some (i*sz,sz)) cells ps=some cells'/\gm w Z sz xs' cells'.toList
 | [],ds,xs,xs',cells,hl,_,hc,e=>by
  simp only [List.map_nil,List.zip_nil_left,j8]at e;injection e with e;subst e;exact ⟨cells,rfl,hc⟩
 | (i,v)::ps,[],xs,xs',cells,hl,_,hc,e=>by simp at hl
 | (i,
    v)::ps,d::ds,xs,xs',cells,hl,hr,hc,e=>by
  simp only [List.map_cons,List.zip_cons_cons,j8]at e;split at e
  case isFalse=>cases e
  case isTrue hcond=>
   simp only [ah,decide_eq_true_eq,beq_iff_eq]at hcond;obtain ⟨hi,hsz⟩:=hcond;have hd:=hr 0 d v rfl rfl;have hlen:v.cells.toList.length=sz:=by rw [yN hd,hsz]
   have hcl:=iN hc;have hb:i*sz+v.cells.size<=cells.size:=by
    have:(i+1)*sz<=xs.length*sz:=Nat.mul_le_mul_right _ hi;rw [Nat.succ_mul]at this;simp at hlen hcl;omega
   rw [oE (off:=i*sz) (by simp at hlen;rw [hlen]) hb];exact pH (by simpa using hl) (fun j d' v' p q=>hr (j+1) d' v' (by simpa using p) (by simpa using q)) (Dh i hc hi hd hlen) e
def kI:List (Nat×Operand)->List (Nat×VX)->Bool
 | [],[]=>true
 | (i,x)::l,(j,y)::r=>i==j&&cN x y&&kI l r
 | _,_=>false
theorem sO (h:RS s a w L Z):∀{ps:List (Nat×Operand)} {qs:List (Nat×VX)} {r:List (Nat×AV)},kI ps qs=true->dH s.env qs=some r->
  r.map (·.1)=ps.map (·.1)/\dg (aF w Z L s.sto) (r.map (·.2)) (ps.map fun p=>a.eval p.2)
 | [],[],r,_,e=>by simp only [dH]at e;injection e with e;subst e;simp [dg]
 | (i,
    x)::ps,(j,y)::qs,r,hk,e=>by
  simp only [kI,ah,beq_iff_eq]at hk;obtain ⟨⟨rfl,h1⟩,h2⟩:=hk;simp only [dH]at e;split at e
  case h_2=>cases e
  case h_1 u e1=>
   split at e
   case h_2=>cases e
   case h_1 r' e2=>
    injection e with e;subst e;obtain ⟨k1,k2⟩:=sO h h2 e2;simp only [List.map_cons,k1,true_and,dg];exact ⟨_,_,rfl,aL h h1 e1,k2⟩
 | [],_::_,_,hk,_=>by simp [kI]at hk
 | _::_,[],_,hk,_=>by simp [kI]at hk
theorem mX {np t:Nat} {s':St} {o:Oper} {ty e:TypeId} {i:TypeInfo} {z:Value} {agg:Bool} {zero:List AV} {len:Nat} {ps:Array (Nat×Operand)} {qs:List (Nat×VX)} {r:AV}
  (h:RS s a w L Z) (ho:o.op= .buildSlice ty len ps) (hp:kI ps.toList qs=true) (hu:P.underlying ty=some (.slice e)) (hi:P.info? e=some i) (hz:i.zero=some z) (hzs:z.cells.size=i.size) (hpos:0<i.size)
  (hok:d_ z.cells.toList zero=true) (hbig:len*i.size<=2^24) (ht:t<np)
  (es:aJ (real call loop) s (some t) (.buildSlice (e,i.size) agg zero len qs)=some (r,s')):aX P np o s a w L Z r s':=by
 simp only [aJ]at es;split at es
 case h_2=>cases es
 case h_1 vs t' hev ht'=>
  injection ht' with ht';subst ht';split at es
  case isFalse=>cases es
  case isTrue=>
   split at es
   case h_2=>cases es
   case h_1 dz hdz=>
    split at es
    case h_2=>cases es
    case h_1 zd hzd=>
     split at es
     case h_2=>cases es
     case h_1 as s2 hfz=>
      split at es
      case h_2=>cases es
      case h_1 ds hds=>
       obtain ⟨m1,m2⟩:=sO h hp hev;obtain ⟨Z',f1,f2,f3,f4⟩:=jS np (vs.map (·.2)) _ s s2 as Z h (Kept.refl _ _ _ _) m2 hfz;obtain ⟨q1,q2⟩:=Dg hds f4;have hcat0:gm w Z' i.size (List.replicate len zd) ((Array.range (len*i.size)).map (fun j=>z.cells[j%z.cells.size]!)).toList:=by
        have hrd:RD w Z' zd z.cells.toList:=by
         apply kQ;rw [oO hzd];exact rp (c:=⟨w,Z',L,s2.sto.get⟩) hok hdz
        have:=range_zero z.cells len (by omega);rw [hzs]at this |-;rw [this];exact ji hrd (by simp [hzs]) len
       have hidx:vs.map (·.1)=((ps.map fun p=>(p.1,a.eval p.2)).toList).map (·.1):=by rw [m1];simp
       have hrun:∀{cells':Array Value},Instr.fill (fun i_1=>some (i_1*i.size,i.size)) ((Array.range (len*i.size)).map (fun j=>z.cells[j%z.cells.size]!)) ((ps.map fun p=>(p.1,a.eval p.2)).toList)=some cells'->
         (execOp a.eval o).run P w= .ok (.value (.slice (some ⟨w.heap.size,0,none⟩) len len)) { w with heap:=w.heap.push (.cells cells' e) }:=by
        intro cells' hfill;refine dX (m:=Instr.buildSlice ty len (ps.map fun p=>(p.1,a.eval p.2))) (by unfold execOp;rw [ho]) ?_;unfold Instr.buildSlice;by_cases h0:len*i.size=0
        ·have e0:(Array.range (len*i.size)).map (fun j=>z.cells[j%z.cells.size]!)= #[]:=by rw [h0];simp
         rw [e0]at hfill;have hfill':Instr.fill (fun i_1=>some (i_1*i.size,i.size)) #[] (List.map (fun p=>(p.fst,a.eval p.snd)) ps.toList)=some cells':=by simpa using hfill
         simp only [Sem.run_bind,run_underlying hu,Result.andThen,sizeOf,typeInfo,Sem.run_pure];have e1:Array.map (fun _=>(default:Value)) (Array.range 0)= #[]:=Array.ext' (by simp);simp [hi,h0,newRow,e1,hfill']
        ·have hn:¬(len*i.size>16777216):=by omega
         simp only [Sem.run_bind,run_underlying hu,Result.andThen,sizeOf,typeInfo,Sem.run_pure];have hfill':=hfill;simp only [Array.toList_map]at hfill';simp [hi,h0,hn,newRow,zeroValue,typeInfo,hz,hfill']
       have hds0:ds.length=((ps.map fun p=>(p.1,a.eval p.2)).toList).length:=by rw [q1];simp
       have hval:∀(j:Nat) (d:D) (v:Value),ds[j]? =some d->(((ps.map fun p=>(p.1,a.eval p.2)).toList).map (·.2))[j]? =some v->RD w Z' d v.cells.toList:=by
        intro j d v p q;refine q2 j d v p ?_;simpa using q
       rw [hidx]at es;split at es
       case h_3=>cases es
       case h_1 hfill=>
        injection es with es;injection es with es1 es2;subst es1;subst es2;obtain ⟨cells',c1,c2⟩:=pH hds0 hval hcat0 hfill;have hl0:len=0:=by
         have:∀{ps:List (Nat×D)} {xs:List D},j8 i.size xs ps=some []->xs=[]:=by
          intro ps;induction ps with
          | nil=>intro xs e;simpa [j8]using e
          | cons p ps ih=>
           intro xs e;obtain ⟨p1,p2⟩:=p;simp only [j8]at e;split at e
           ·have:=ih e;simpa using this
           ·cases e
         have:=this hfill;simpa using this
        obtain ⟨k1,k2,_⟩:=RS.push f1 np (w':={ w with heap:=w.heap.push (.cells cells' e) }) rfl rfl rfl rfl;refine aX.value (hrun c1) k1 (f2.trans k2) ?_;rw [hl0];simp only [RV];exact ⟨_,rfl⟩
       case h_2 x xs hfill=>
        obtain ⟨cells',c1,c2⟩:=pH hds0 hval hcat0 hfill;split at es
        case h_2=>cases es
        case h_1 s3 hl=>
         injection es with es;injection es with es1 es2;subst es1;subst es2;have hlen:(x::xs).length=len:=by
          have:∀{ps:List (Nat×D)} {xs ys:List D},j8 i.size xs ps=some ys->ys.length=xs.length:=by
           intro ps;induction ps with
           | nil=>intro xs ys e;simp only [j8]at e;injection e with e;rw [e]
           | cons p ps ih=>
            intro xs ys e;obtain ⟨p1,p2⟩:=p;simp only [j8]at e;split at e
            ·have:=ih e;simpa using this
            ·cases e
          have:=this hfill;simpa using this
         have hcl:=iN c2;obtain ⟨L',k1,k2,k3,k4,k5⟩:=sq (np:=np) (cells:=cells') (w':={ w with heap:=w.heap.push (.cells cells' e) }) f1 hl ht rfl rfl rfl rfl c2 (fun j v hj=>by rw [<-Array.getElem?_toList];exact hj) (by simp at hcl |-;omega);refine aX.value (hrun c1) k1 (f2.trans k2) ?_;simp only [RV];have hmax:len<=maxLen:=by
          have:len<=len*i.size:=Nat.le_mul_of_pos_right _ hpos;unfold maxLen;omega
         refine ⟨_,len,len,x::xs,rfl,⟨Nat.le_refl _,hmax⟩,fun _=>rfl,v8 k4,fun _=>hlen.symm,fun x m e=>(by cases e),fun e=>(by rw [k3]at e;cases e),fun b hb=> ?_⟩;have:w.heap.size=b:=by have:some w.heap.size=some b:=k3.symm.trans hb;injection this
         subst this;right;refine ⟨by simp [bC],?_⟩;rw [k5];simp [bC];simp at hcl;rw [hcl,<-hlen];simp
end
end
section
section
variable {P:Program} {call:FuncId->List AV->List (Option Obj)->Option bk} {loop:Nat->St->Option (Out×St)}
variable {s:St} {a:Act} {w:World} {L:Loc} {Z:Nat->Prop}
theorem yO {n:Nat}:∀{xs:List D} {vs:List Value} {F:List Nat},iO w Z n xs vs F->gm w Z n xs (vs.take (xs.length*n))
 | [],vs,F,_=>by simp only [List.length_nil,Nat.zero_mul,List.take_zero,gm]
 | x::xs,vs,F,h=>by
  simp only [iO]at h;obtain ⟨F1,F2,h1,_,h2,h3⟩:=h;have ih:=yO h3;simp only [gm];refine ⟨vs.take n,(vs.drop n).take (xs.length*n),?_,by simp [h1],Kx x _ F1 h2,ih⟩;rw [List.length_cons,Nat.succ_mul,Nat.add_comm,List.take_add]
theorem yP {np t:Nat} {s1 s':St} {w':World} {e sz b:Nat} {xs:List D} {cells:Array Value} {F:List Nat} (h:RS s1 a w L Z) (t0:Tr np s.sto s1.sto w w L L Z Z) (hl:s1.lay t [some (.orows (e,sz) xs)]=some s') (ht:t<np)
  (hos:w'.os=w.os) (htp:w'.tape=w.tape) (hop:w'.output=w.output) (hsize:w.heap.size<=w'.heap.size) (hkeep:∀k,k<w.heap.size->k≠b->w'.heap[k]? =w.heap[k]?)
  (hnb:¬Z b/\¬aW s1.sto L b/\(w.heap.size<=b\/aW s.sto L b))
  (hheap:w'.heap[b]? =some (.cells cells e)) (hoe:iO w' Z sz xs cells.toList F) (hF:(b::F).Nodup) (hFf:∀k∈F,¬Z k/\aW s.sto L k/\¬aW s1.sto L k/\k<w.heap.size) (hcap:xs.length*sz<=cells.size):
  ∃L',RS s' a w' L' Z/\Tr np s.sto s'.sto w w' L L' Z Z/\L' (t,0)=some b/\s'.sto.get (t,0)=some (.orows (e,sz) xs)/\bX w' b=cells.size:=by
 have hlt:b<w'.heap.size:=(Array.getElem?_eq_some_iff.1 hheap).1;obtain ⟨h1,h2,_,_⟩:=RS.Et (s0:=s) (np:=np) (nb:=some b) (w':=w') (N:=fun k=>k∈F) h t0 hl ht hos htp hop hsize (fun k hk hne=>hkeep k hk fun e=>hne (by rw [e]))
  (fun k hk=>by injection hk with hk;subst hk;exact ⟨hnb.1,hnb.2.1,hlt,hnb.2.2⟩) (fun k _ hk=>by
   obtain ⟨p1,p2,p3,p4⟩:=hFf k hk;exact ⟨p1,p3,Nat.lt_of_lt_of_le p4 hsize,.inr p2⟩) (by
   simp only [RO];refine ⟨fun k=>(by rw [ck]at k;cases k),fun k hk=> ?_⟩;rw [ck]at hk;injection hk with hk;subst hk;exact ⟨cells,F,hheap,hcap,hoe,hF,fun k=>by rw [iY]⟩)
 refine ⟨_,h1,h2,ck _ _ _ _,?_,by simp [bX,hheap]⟩;rw [dw (dW hl).1];simp
theorem Av {np t:Nat} {s':St} {o:Oper} {ty e:TypeId} {i:TypeInfo} {z:Value} {x:Operand} {x':VX} {r:AV}
  (h:RS s a w L Z) (ho:o.op= .buildSlice ty 1 #[(0,x)]) (hx:cN x x'=true) (hu:P.underlying ty=some (.slice e)) (hi:P.info? e=some i) (hz:i.zero=some z) (hzs:z.cells.size=i.size) (hpos:0<i.size)
  (hbig:i.size<=2^24) (ht:t<np)
  (es:aJ (real call loop) s (some t) (.buildO (e,i.size) x')=some (r,s')):aX P np o s a w L Z r s':=by
 simp only [aJ]at es;split at es
 case h_2=>cases es
 case h_1 cs t' hev ht'=>
  injection ht' with ht';subst ht';split at es
  case h_2=>cases es
  case h_1 ds s2 hown=>
   split at es
   case isFalse=>cases es
   case isTrue hlen=>
    split at es
    case h_2=>cases es
    case h_1 s3 hl=>
     injection es with es;injection es with es1 es2;subst es1;subst es2;have hv:=aL h hx hev;simp only [RV]at hv;obtain ⟨vs,hv,hcs⟩:=hv;obtain ⟨f1,f2,f3,F,f4,f5,f6⟩:=pU np cs vs s s2 ds h (Kept.refl _ _ _ _) hcs hown;have hvl:=uc f4;have hsz:(a.eval x).cells.size=i.size:=by rw [hv];simp [Value.cells];omega
     have hrun:(execOp a.eval o).run P w= .ok (.value (.slice (some ⟨w.heap.size,0,none⟩) 1 1)) { w with heap:=w.heap.push (.cells vs.toArray e) }:=by
      refine dX (m:=Instr.buildSlice ty 1 #[(0,a.eval x)]) (by unfold execOp;rw [ho];simp) ?_;unfold Instr.buildSlice;have h0:¬(i.size=0):=by omega
      have hn:¬(16777216<i.size):=by omega
      simp only [Sem.run_bind,run_underlying hu,Result.andThen,sizeOf,typeInfo,Sem.run_pure];have hfill:Instr.fill (fun k=>some (k*i.size,i.size)) ((Array.range (1*i.size)).map (fun j=>z.cells[j%z.cells.size]!)) [(0,a.eval x)]=some vs.toArray:=by
       rw [oE (off:=0) (by rw [hsz];simp) (by simp;omega)];simp only [Instr.fill,Option.some.injEq];apply Array.ext';rw [hv];simp [Value.cells];have:vs.length=i.size:=by omega
       rw [this];simp
      simp [hi,h0,hn,newRow,zeroValue,typeInfo,hz]at hfill |-;simp [hfill]
     have hlt:∀k∈F,k≠w.heap.size:=fun k hk e=>by have:=(f6 k hk).2.2.2;omega
     have hzle:jA w { w with heap:=w.heap.push (.cells vs.toArray e) } Z Z:=fun b hb=>⟨hb,by
      have:=(f1.dis b hb).1;show (w.heap.push _)[b]? =_;rw [Array.getElem?_push,if_neg (by omega)]⟩
     obtain ⟨L',k1,k2,k3,k4,k5⟩:=yP (s:=s) (np:=np) (b:=w.heap.size) (cells:=vs.toArray) (F:=F) (w':={ w with heap:=w.heap.push (.cells vs.toArray e) }) f1 f2 hl ht rfl rfl rfl (by simp) (fun k hk _=>by
       show (w.heap.push _)[k]? =_;rw [Array.getElem?_push,if_neg (by omega)])
      ⟨fun hz=>by have:=(f1.dis _ hz).1;omega,fun hl=>(by obtain ⟨q,ob,p1,p2⟩:=hl;have:=f1.eY p1 p2;omega),.inl (Nat.le_refl _)⟩ (by simp)
      (zu.2 ⟨by simp;omega,by
       simp only [OE];have htk:vs.take i.size=vs:=List.take_of_length_le (by omega);rw [htk];exact jn hzle _ _ _ (fun k hk=>by
        show (w.heap.push _)[k]? =_;have:=(f6 k hk).2.2.2;rw [Array.getElem?_push,if_neg (by omega)]) f4⟩)
      (List.nodup_cons.2 ⟨fun hk=>hlt _ hk rfl,f5⟩) (fun k hk=>f6 k hk) (by simp only [List.length_singleton,Nat.one_mul,List.size_toArray];omega)
     refine aX.value hrun k1 k2 ?_;simp only [RV];refine ⟨_,1,1,[.agg ds],rfl,⟨Nat.le_refl _,by unfold maxLen;omega⟩,fun _=>rfl,by show (s3.sto.get (t,0)).bind Obj.rw=_;rw [k4];rfl,fun _=>rfl,fun x m e=>(by cases e),fun e=>(by rw [k3]at e;cases e),fun b hb=> ?_⟩;have:w.heap.size=b:=by have:some w.heap.size=some b:=k3.symm.trans hb;injection this
     subst this;right;refine ⟨by simp [bC],?_⟩;rw [k5];simp [bC];omega
theorem BU {Z0:Nat->Prop} {s00:bF} (np:Nat) {sz:gq} {x:AV} {v:Value} {s s':St} {xs:List D} (h:RS s a w L Z) (hk:Kept w L Z0 Z s00 s.sto) (hv:RV (aF w Z0 L s00) x v)
  (e:pG (real call loop) s sz x=some (xs,s')):RS s' a w L Z/\Tr np s.sto s'.sto w w L L Z Z/\Kept w L Z Z s.sto s'.sto/\∃A c F,v= .slice A xs.length c/\zw w L Z s.sto s'.sto F/\
   ((c=0/\xs=[]/\F=[])\/∃b vs F',A=some ⟨b,0,none⟩/\F=b::F'/\w.heap[b]? =some (.cells vs sz.1 (0,0))/\c*sz.2=vs.size/\xs.length*sz.2<=vs.size/\iO w Z sz.2 xs vs.toList F'):=by
 cases x with
 | emp=>
  simp only [pG]at e;injection e with e;injection e with e1 e2;subst e1;subst e2;simp only [RV]at hv;obtain ⟨A,hv⟩:=hv;exact ⟨h,Tr.refl _ _ _ _ _,Kept.refl _ _ _ _,A,0,[],hv,by simp [zw],.inl ⟨rfl,rfl,rfl⟩⟩
 | arr r sz' g u=>
  simp only [pG]at e;split at e
  ·rename_i sz1 ys s2 ho;split at e
   case isFalse=>cases e
   case isTrue hs=>
    injection e with e;injection e with e1 e2;subst e1;subst e2;subst hs;obtain ⟨k1,k2,k3,F,k4,k5⟩:=pT np _ _ _ _ _ h hk hv ho;simp only [OC]at k4;obtain ⟨A,c,m1,m2⟩:=k4;refine ⟨k1,k2,k3,A,c,F,m1.1,k5,m2.imp id ?_⟩;rintro ⟨b,vs,F',p1,p2,p3,p4,_,p6,p7⟩;exact ⟨b,vs,F',p1,p2,p3,p4,p6,p7⟩
  ·cases e
 | _=>simp [pG]at e
theorem qG {np t:Nat} {s':St} {o:Oper} {ty e:TypeId} {i:TypeInfo} {z:Value} {x y:Operand} {x' y':VX} {r:AV} (h:RS s a w L Z)
  (ho:o.op= .call { callee:= .builtin .append,args:= #[x,y],argTypes:= #[ty,ty] }) (hx:cN x x'=true) (hy:cN y y'=true)
  (hu:P.underlying ty=some (.slice e)) (hi:P.info? e=some i) (hz:i.zero=some z) (hzs:z.cells.size=i.size) (ht:t<np)
  (es:rJ (real call loop) s (some t) (e,i.size) i.bytes x' y'=some (r,s')):aX P np o s a w L Z r s':=by
 have hrun:∀{m:Value} {w':World},(Builtin.append_ #[ty,ty] o.type #[a.eval x,a.eval y]).run P w= .ok m w'->(execOp a.eval o).run P w= .ok (.value m) w':=by
  intro m w' hm;unfold execOp;rw [ho];simp [resolve,invoke,builtin,hm]
 unfold rJ at es;split at es
 case h_2=>cases es
 case h_1 A0 B0 t' e1 e2 ht'=>
  injection ht' with ht';subst ht';have hA:=aL h hx e1;have hB:=aL h hy e2;split at es
  case h_2=>cases es
  case h_1 xs s1 hr1=>
   split at es
   case h_2=>cases es
   case h_1 sz2 y0 ys0 s2 hr2=>
    split at es
    case isFalse=>cases es
    case isTrue hsz2=>
     subst hsz2;split at es
     case h_2=>cases es
     case h_1 hfit=>
      split at es
      case h_2=>cases es
      case h_1 s3 hl=>
       injection es with es;injection es with es1 es2;subst es1;subst es2;obtain ⟨f1,f2,f3,VA,c1,F1,hva,⟨fn,ff⟩,hcase⟩:=BU np h (Kept.refl _ _ _ _) hA hr1;obtain ⟨g1,g2,g3,F2,g4,gn,gf⟩:=pT np _ _ _ _ _ f1 f3 hB hr2;simp only [OC]at g4;obtain ⟨VB,c2,⟨hvb,_⟩,g4⟩:=g4;rcases g4 with ⟨_,q,_⟩ | ⟨b2,vs2,F2',e3,e4,e5,e6,e7,e8,e9⟩
       ·cases q
       generalize hys:y0::ys0=ys at*;have hpos:0<ys.length:=by rw [<-hys];simp
       subst e4;have happ:(real call loop).app xs ys=xs++ys:=rfl;rw [happ]at hl hfit;simp only [real,aK.fits,ah]at hfit;obtain ⟨hf1,_⟩:=hfit;obtain ⟨hf3,hf4⟩:=of_decide_eq_true hf1;rw [List.length_append]at hf3 hf4;have hf4':xs.length+ys.length<=9223372036854775807:=by simpa [maxLen]using hf4
       have back1:∀k,aW s1.sto L k->aW s.sto L k:=fun k hl=>by
        rcases f2.lives k hl with m | m
        ·exact m
        ·obtain ⟨q,ob,p1,p2⟩:=hl;have:=f1.eY p1 p2;omega
       have back2:∀k,aW s2.sto L k->aW s1.sto L k:=fun k hl=>by
        rcases g2.lives k hl with m | m
        ·exact m
        ·obtain ⟨q,ob,p1,p2⟩:=hl;have:=g1.eY p1 p2;omega
       have free1:∀k∈F1,¬Z k/\aW s.sto L k/\¬aW s2.sto L k/\k<w.heap.size:=fun k hk=>by
        obtain ⟨p1,p2,p3,p4⟩:=ff k hk;exact ⟨p1,p2,fun hl=>p3 (back2 k hl),p4⟩
       have free2:∀k∈b2::F2',¬Z k/\aW s.sto L k/\¬aW s2.sto L k/\k<w.heap.size:=fun k hk=>by
        obtain ⟨p1,p2,p3,p4⟩:=gf k hk;exact ⟨p1,back1 k p2,p3,p4⟩
       have hdisj:∀k,k∈F1->k∈b2::F2'->False:=fun k hk hk2=>(ff k hk).2.2.1 (gf k hk2).2.1
       have hcat2:=yO e9;have hlen2:=iN hcat2;have hcell2:∀j u,(vs2.toList.take (ys.length*i.size))[j]? =some u->w.cell? ((⟨b2,0,none⟩:Addr).add j)=some u:=fun j u hj=>by
        rw [List.getElem?_take]at hj;split at hj
        ·rw [add_plain];simp only [World.cell?,e5,Nat.zero_add];simpa using hj
        ·cases hj
       by_cases hroom:xs.length+ys.length<=c1
       ·rcases hcase with ⟨q,_,_⟩ | ⟨b1,vs1,F1',d1,rfl,d3,d4,d5,d6⟩
        ·omega
        have hfitc:xs.length*i.size+(vs2.toList.take (ys.length*i.size)).length<=vs1.size:=by
         rw [hlen2,<-Nat.add_mul,<-d4];exact Nat.mul_le_mul_right _ hroom
        have hr:=run_append_room (P:=P) w ty o.type e i hu hi b1 xs.length c1 vs1 d3 ⟨b2,0,none⟩ ys.length c2 (vs2.toList.take (ys.length*i.size)) hlen2 hcell2 (ud hcat2) hroom hfitc;have elay:lay vs1.toList (xs.length*i.size) (vs2.toList.take (ys.length*i.size))=some (vs1.toList.take (xs.length*i.size)++vs2.toList.take (ys.length*i.size)++vs1.toList.drop (xs.length*i.size+(vs2.toList.take (ys.length*i.size)).length)):=by unfold lay;rw [if_pos (by simpa using hfitc)]
        generalize hcells:(vs1.toList.take (xs.length*i.size)++vs2.toList.take (ys.length*i.size)++vs1.toList.drop (xs.length*i.size+(vs2.toList.take (ys.length*i.size)).length))=cells at*;have hne1:∀k∈F1',k≠b1:=fun k hk e=>(List.nodup_cons.1 fn).1 (e ▸ hk)
        have hne2:∀k∈F2',k≠b1:=fun k hk e=>hdisj b1 (by simp) (by rw [<-e];simp [hk])
        have hother:∀k,k≠b1->(w.setRow b1 cells.toArray).heap[k]? =w.heap[k]? :=fun k hk=>setRow_other _ _ _ _ hk
        have hzle:jA w (w.setRow b1 cells.toArray) Z Z:=fun k hk=>⟨hk,hother k fun e=>(free1 b1 (by simp)).1 (e ▸ hk)⟩
        obtain ⟨L',k1,k2,k3,k4,k5⟩:=yP (s:=s) (np:=np) (b:=b1) (cells:=cells.toArray) (F:=F1'++F2') (w':=w.setRow b1 cells.toArray) g1 (f2.trans g2) hl ht rfl rfl rfl (by simp) (fun k _ hk=>hother k hk)
         ⟨(free1 b1 (by simp)).1,(free1 b1 (by simp)).2.2.1,.inr (free1 b1 (by simp)).2.1⟩ (setRow_heap w b1 vs1 _ e (0,0) d3)
         (eZ.2 ⟨F1',F2',rfl,i9 (fZ hzle _ _ _ _ (fun k hk=>hother k (hne1 k hk)) d6) (fun j hj=>by
           rw [dA elay,if_neg (by omega)]),
          i9 (fZ hzle _ _ _ _ (fun k hk=>hother k (hne2 k hk)) e9) (fun j hj=>by
           rw [List.getElem?_drop,dA elay,if_pos ⟨by omega,by rw [hlen2];omega⟩,List.getElem?_take,if_pos (by omega)];congr 1;omega)⟩)
         (by
          rw [List.nodup_cons];refine ⟨fun hk=> ?_,?_⟩
          ·rcases List.mem_append.1 hk with hk | hk
           ·exact hne1 _ hk rfl
           ·exact hne2 _ hk rfl
          ·rw [List.nodup_append];exact ⟨(List.nodup_cons.1 fn).2,(List.nodup_cons.1 gn).2,fun x hx y hy e=>hdisj x (by simp [hx]) (by rw [e];simp [hy])⟩)
         (fun k hk=>by
          rcases List.mem_append.1 hk with hk | hk
          ·exact free1 k (by simp [hk])
          ·exact free2 k (by simp [hk]))
         (by
          have:=jh elay;simp only [List.size_toArray,this,Array.length_toList,List.length_append,Nat.add_mul];rw [hlen2]at hfitc;exact hfitc)
        refine aX.value (hrun (by rw [hva,d1,hvb,e3];exact hr)) k1 k2 ?_;simp only [RV];refine ⟨_,xs.length+ys.length,c1,xs++ys,rfl,⟨hroom,?_⟩,fun e=>(by cases e),by show (s3.sto.get (t,0)).bind Obj.rw=_;rw [k4];rfl,fun _=>by rw [List.length_append],fun _ _ e=>(by cases e),fun e=>(by rw [k3]at e;cases e),fun b' hb'=> .inr ?_⟩
        ·have:=hA;rw [hva]at this;cases A0 with
         | arr q sz' g u=>
          simp only [RV]at this;obtain ⟨_,_,cap',_,m1,⟨_,m2⟩,_⟩:=this;injection m1 with _ _ m1;rw [m1];exact m2
         | emp=>simp only [RV]at this;obtain ⟨_,m1⟩:=this;injection m1 with _ _ m1;rw [m1];exact Nat.zero_le _
         | _=>simp [pG]at hr1
        ·have:b1=b':=by have:some b1=some b':=k3.symm.trans hb';injection this
         subst this;refine ⟨by simp [bC],?_⟩;rw [k5];have:=jh elay;simp only [List.size_toArray,this,Array.length_toList,bC,Nat.zero_add];exact d4
       ·have hgt:c1<xs.length+ys.length:=by omega
        obtain ⟨cs1,F1',⟨hF1,hnd1⟩,hcat1,hoe1,hAd⟩:∃(cs1:List Value) (F1':List Nat),((∀k∈F1',k∈F1)/\F1'.Nodup)/\gm w Z i.size xs cs1/\(∀us:List Value,(∀j,j<xs.length*i.size->us[j]? =cs1[j]?)->iO w Z i.size xs us F1')/\
          ((∃ad,VA=some ad/\∀j u,cs1[j]? =some u->w.cell? (ad.add j)=some u)\/(VA=none/\xs=[]/\c1=0)):=by
         rcases hcase with ⟨q1,rfl,rfl⟩ | ⟨b1,vs1,F1',d1,rfl,d3,d4,d5,d6⟩
         ·refine ⟨[],[],⟨by simp,by simp⟩,by simp only [gm],fun us _=>by simp only [iO],?_⟩;cases VA with
          | none=>exact .inr ⟨rfl,rfl,q1⟩
          | some ad=>exact .inl ⟨ad,rfl,by simp⟩
         ·refine ⟨vs1.toList.take (xs.length*i.size),F1',⟨fun k hk=>by simp [hk],(List.nodup_cons.1 fn).2⟩,yO d6,fun us hus=>i9 d6 fun j hj=> ?_,.inl ⟨_,d1,fun j u hj=> ?_⟩⟩
          ·rw [hus j hj,List.getElem?_take,if_pos hj]
          ·rw [List.getElem?_take]at hj;split at hj
           ·rw [add_plain];simp only [World.cell?,d3,Nat.zero_add];simpa using hj
           ·cases hj
        have hlen1:=iN hcat1;have hge:=grownCap_ge w (xs.length+ys.length) c1 e;have hcm:=grownCap_le_maxLen w (xs.length+ys.length) c1 e hf4;have hr:(Builtin.append_ #[ty,ty] o.type #[.slice VA xs.length c1,.slice (some ⟨b2,0,none⟩) ys.length c2]).run P w= .ok (.slice (some ⟨w.heap.size,0,none⟩) (xs.length+ys.length) (grownCap w (xs.length+ys.length) c1 e))
          (w.drew.alloc (.cells (cs1.toArray++(vs2.toList.take (ys.length*i.size)).toArray++Builtin.zeroCells z.cells (grownCap w (xs.length+ys.length) c1 e-(xs.length+ys.length))) e)):=by
         rcases hAd with ⟨ad,rfl,hx1⟩ | ⟨rfl,rfl,rfl⟩
         ·exact run_append_grow (P:=P) w ty o.type e i z hu hi hz ad xs.length c1 cs1 hlen1 hx1 ⟨b2,0,none⟩ ys.length c2 _ hlen2 hcell2 hgt (by omega) (growslice_fits hgt hf3)
         ·have hc0:cs1=[]:=by simpa only [gm]using hcat1
          subst hc0;have:=run_append_nil (P:=P) w ty o.type e i z hu hi hz ⟨b2,0,none⟩ ys.length c2 _ hlen2 hcell2 (by omega) (by omega) (by simp at hf3;omega);simpa using this
        have hszc:(cs1.toArray++(vs2.toList.take (ys.length*i.size)).toArray++Builtin.zeroCells z.cells (grownCap w (xs.length+ys.length) c1 e-(xs.length+ys.length)):Array Value).size=grownCap w (xs.length+ys.length) c1 e*i.size:=by
         rw [Array.size_append,Array.size_append,List.size_toArray,List.size_toArray,size_zeroCells,hzs,hlen1,hlen2,<-Nat.add_mul,<-Nat.add_mul];congr 1;omega
        generalize hcells:(cs1.toArray++(vs2.toList.take (ys.length*i.size)).toArray++Builtin.zeroCells z.cells (grownCap w (xs.length+ys.length) c1 e-(xs.length+ys.length)):Array Value)=cells at*;have hold:∀k,k<w.heap.size->(w.drew.alloc (.cells cells e)).heap[k]? =w.heap[k]? :=fun k hk=>heap_alloc_old w.drew _ k hk
        have hzle:jA w (w.drew.alloc (.cells cells e)) Z Z:=fun k hk=>⟨hk,hold k (h.dis k hk).1⟩
        have hget:∀j,cells.toList[j]? =if j<xs.length*i.size then cs1[j]? else if j<xs.length*i.size+ys.length*i.size then (vs2.toList.take (ys.length*i.size))[j-xs.length*i.size]? else cells.toList[j]? :=fun j=>by
         by_cases c1':j<xs.length*i.size
         ·rw [if_pos c1',<-hcells];rw [Array.toList_append,Array.toList_append,List.getElem?_append_left (by simp;omega),List.getElem?_append_left (by simp;omega)]
         ·rw [if_neg c1'];by_cases c2':j<xs.length*i.size+ys.length*i.size
          ·rw [if_pos c2',<-hcells];rw [Array.toList_append,Array.toList_append,List.getElem?_append_left (by rw [List.length_append];show j<cs1.length+_;rw [hlen1,hlen2];omega),List.getElem?_append_right (by show cs1.length<=j;omega)];show (List.take _ _)[j-cs1.length]? =_;rw [hlen1]
          ·rw [if_neg c2']
        obtain ⟨L',k1,k2,k3,k4,k5⟩:=yP (s:=s) (np:=np) (b:=w.heap.size) (cells:=cells) (F:=F1'++F2') (w':=w.drew.alloc (.cells cells e)) g1 (f2.trans g2) hl ht rfl rfl rfl (by simp) (fun k hk _=>hold k hk)
         ⟨fun hz=>by have:=(h.dis _ hz).1;omega,fun hl=>(by obtain ⟨q,ob,p1,p2⟩:=hl;have:=g1.eY p1 p2;omega),.inl (Nat.le_refl _)⟩ (heap_alloc_new w.drew _)
         (eZ.2 ⟨F1',F2',rfl,fZ hzle _ _ _ _ (fun k hk=>hold k (free1 k (hF1 k hk)).2.2.2) (hoe1 _ fun j hj=>by rw [hget,if_pos hj]),
          i9 (fZ hzle _ _ _ _ (fun k hk=>hold k (free2 k (by simp [hk])).2.2.2) e9) (fun j hj=>by
           rw [List.getElem?_drop,hget,if_neg (by omega),if_pos (by omega),List.getElem?_take,if_pos (by omega)];congr 1;omega)⟩)
         (by
          rw [List.nodup_cons];refine ⟨fun hk=> ?_,?_⟩
          ·rcases List.mem_append.1 hk with hk | hk
           ·have:=(free1 _ (hF1 _ hk)).2.2.2;omega
           ·have:=(free2 w.heap.size (by simp [hk])).2.2.2;omega
          ·rw [List.nodup_append];exact ⟨hnd1,(List.nodup_cons.1 gn).2,fun x hx y hy e=>hdisj x (hF1 x hx) (by rw [e];simp [hy])⟩)
         (fun k hk=>by
          rcases List.mem_append.1 hk with hk | hk
          ·exact free1 k (hF1 k hk)
          ·exact free2 k (by simp [hk]))
         (by rw [hszc,List.length_append];exact Nat.mul_le_mul_right _ hge)
        refine aX.value (hrun (by rw [hva,hvb,e3];exact hr)) k1 k2 ?_;simp only [RV];refine ⟨_,xs.length+ys.length,_,xs++ys,rfl,⟨hge,hcm⟩,fun e=>(by cases e),by show (s3.sto.get (t,0)).bind Obj.rw=_;rw [k4];rfl,fun _=>by rw [List.length_append],fun _ _ e=>(by cases e),fun e=>(by rw [k3]at e;cases e),fun b' hb'=> .inr ?_⟩;have:w.heap.size=b':=by have:some w.heap.size=some b':=k3.symm.trans hb';injection this
        subst this;exact ⟨by simp [bC],by rw [k5,hszc];simp [bC]⟩
end
end
end Go.Vi
