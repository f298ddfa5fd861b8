import Derived.Test.YtfnagkpidcdocaaGreatM02
import Derived.Laws.MakeOwn
set_option linter.all false
namespace Go.Vi
open Go Go.RowKit
def tU:TypeDesc->Bool
 | .struct _=>true
 | .array _ _=>true
 | _=>false
theorem oM {P:Program} {t:TypeId} {d:TypeDesc} (e:P.underlying t=some d) (w:World):(isAgg t).run P w= .ok (tU d) w:=by
 unfold isAgg;rw[Sem.run_bind,run_underlying e];cases d<;>rfl
section
variable {P:Program} {call:dh} {loop:di}
variable {s:St} {a:Act} {w:World} {L:Loc} {Z:Nat->Prop}
theorem add_plain (b o n:Nat):(⟨b,o,none⟩:Addr).add n=⟨b,o+n,none⟩:=by
 unfold Addr.add;split
 ·rename_i h;subst h;rfl
 rfl
theorem Kr (np:Nat) (h:RS s a w L Z) {o:Oper} {t:TypeId} {x:Operand} {x':VX} (ho:o.op= .unOp .neg t x) (E:dr x x'=true) {k:IntKind} {n:Int}
  (e:ev s.env x'=some (.d (.int k n))):aZ P np o s a w L Z (.d (.int k (HS .sub k 0 n))) s:=by
 have j:=aO h E e;simp only[RV,RD,List.cons.injEq,and_true]at j;refine aZ.pure h (eJ (m:=Op.unary .neg (a.eval x)) (by unfold execOp;rw[ho]) (by rw[j];rfl)) (by simp only[RV,RD,HS])
theorem Ks (np:Nat) (h:RS s a w L Z) {o:Oper} {t:TypeId} {x:Operand} {x':VX} (ho:o.op= .unOp .not t x) (E:dr x x'=true) {b:Bool}
  (e:ev s.env x'=some (.d (.bool b))):aZ P np o s a w L Z (.d (.bool (!b))) s:=by
 have j:=aO h E e;simp only[RV,RD,List.cons.injEq,and_true]at j;refine aZ.pure h (eJ (m:=Op.unary .not (a.eval x)) (by unfold execOp;rw[ho]) (by rw[j];rfl)) (by simp only[RV,RD])
theorem CG (np:Nat) (h:RS s a w L Z) {o:Oper} {t t':TypeId} {x:Operand} {x':VX} (ho:o.op= .convert t t' x) (J:dr x x'=true) {k k':IntKind} {n:Int}
  (E:∃j,P.underlying t=some (.int j)) (h3:P.underlying t'=some (.int k'))
  (e:ev s.env x'=some (.d (.int k n))):aZ P np o s a w L Z (.d (.int k' (k'.wrap n))) s:=by
 have I:=aO h J e;simp only[RV,RD,List.cons.injEq,and_true]at I;obtain ⟨j,E⟩:=E;refine aZ.pure h (eJ (m:=convert t t' (a.eval x)) (by unfold execOp;rw[ho]) (u:= .int k' (k'.wrap n)) ?_) (by simp only[RV,RD]);rw[I];simp[convert,run_underlying E,run_underlying h3,Conv.intToInt]
theorem CH (np:Nat) (h:RS s a w L Z) {o:Oper} {t t':TypeId} {x:Operand} {x':VX} (ho:o.op= .convert t t' x) (E:dr x x'=true) {n:ByteArray}
  (I:P.underlying t=some .string) (h3:P.underlying t'=some .string)
  (e:ev s.env x'=some (.d (.str n))):aZ P np o s a w L Z (.d (.str n)) s:=by
 have j:=aO h E e;simp only[RV,RD,List.cons.injEq,and_true]at j;refine aZ.pure h (eJ (m:=convert t t' (a.eval x)) (by unfold execOp;rw[ho]) (u:= .string n) ?_) (by simp only[RV,RD]);rw[j];simp[convert,run_underlying I,run_underlying h3]
theorem HU (np:Nat) (h:RS s a w L Z) {o:Oper} {f:FuncId} {xs:Array Operand} {xs':List VX} (ho:o.op= .makeFunc (.func (zh f)) #[] xs) (j:vW xs.toList xs'=true) {ys:List AV}
  (e:zi s.env xs'=some ys):aZ P np o s a w L Z (.fn f ys) s:=by
 have E:=qL h j e;refine aZ.pure h (eJ (m:=Instr.makeFunc (.func (zh f)) (#[].map a.eval) (xs.map a.eval)) (u:= .func (.func (zh f)) #[] (xs.map a.eval)) (by unfold execOp;rw[ho]) (by simp[Instr.makeFunc])) ?_;simp only[RV];exact ⟨_,by rw[<-Array.toList_map],E⟩
theorem za {f:Field} {i:TypeInfo} (hi:P.info? f.type=some i) (e:i.size≠0) (b o:Nat):(fieldPlace ⟨b,o,none⟩ f).run P w= .ok ⟨b,o+f.offset,none⟩ w:=by
 simp[fieldPlace,sizeOf,typeInfo,hi,e,add_plain]
theorem zb (np:Nat) (h:RS s a w L Z) {o:Oper} {t:TypeId} {x:Operand} {x':VX} {f:Nat} {fs:Array Field} {fd:Field} {i:TypeInfo} (ho:o.op= .fieldAddr t x f) (S:dr x x'=true)
  (U:P.underlying t=some (.struct fs)) (hf:fs[f]? =some fd) (hi:P.info? fd.type=some i) (V:i.size≠0) {u r:AV} (e:ev s.env x'=some u)
  (er:(match u with | .ptr q k=>some (AV.ptr q (k+fd.offset)) | .prow q z j n=>some (.prow q z j (n+fd.offset)) | .sp cs k=>some (.sp cs (k+fd.offset)) | _=>none)=some r):
  aZ P np o s a w L Z r s:=by
 have I:=aO h S e;have E:∀b k,a.eval x= .pointer (some ⟨b,k,none⟩)->(execOp a.eval o).run P w= .ok (.value (.pointer (some ⟨b,k+fd.offset,none⟩))) w:=by
  intro b k hp;refine eJ (m:=Instr.fieldAt t (a.eval x) f) (by unfold execOp;rw[ho]) ?_;rw[hp];simp[Instr.fieldAt,run_underlying U,hf,Instr.sureAddr,za hi V]
 split at er
 ·injection er with er;subst er;simp only[RV]at I;obtain ⟨b,J,k2,M⟩:=I;exact aZ.pure h (E _ _ M) (by simp only[RV];exact ⟨b,J,k2,rfl⟩)
 ·injection er with er;subst er;simp only[RV]at I;obtain ⟨b,J,k2,M,O⟩:=I;exact aZ.pure h (E _ _ O) (by simp only[RV];exact ⟨b,J,k2,M,by rw[Nat.add_assoc]⟩)
 ·injection er with er;subst er;simp only[RV]at I;obtain ⟨b,k,vs,J,k2,M,O⟩:=I;exact aZ.pure h (E _ _ J) (by simp only[RV];exact ⟨b,k,vs,by rw[Nat.add_assoc],k2,M,O⟩)
 cases er
theorem nQ {α:Type} {l r:List α} {off n:Nat} (e:cut l off n=some r):off+n<=l.length/\r=(l.drop off).take n:=by
 unfold cut at e;split at e
 ·injection e with e;exact ⟨by assumption,e.symm⟩
 cases e
theorem Gu {α:Type} {l r:List α} {off n:Nat} (e:cut l off n=some r) {i:Nat} {x:α} (j:r[i]? =some x):l[off+i]? =some x:=by
 obtain ⟨_,rfl⟩:=nQ e;rw[List.getElem?_take]at j;split at j
 ·rwa [List.getElem?_drop]at j
 cases j
theorem CI {α:Type} {l r:List α} {off n:Nat} (e:cut l off n=some r):r.length=n:=by
 obtain ⟨h,rfl⟩:=nQ e;simp;omega
theorem Gv {c:Cx} {as bs:List AV} {vs:List Value} (h:dH c as vs) {off n:Nat} (e:cut as off n=some bs):dH c bs ((vs.drop off).take n):=by
 rw[bJ]at h |-;obtain ⟨M,E⟩:=h;obtain ⟨h3,h4⟩:=nQ e;refine ⟨by rw[CI e];simp;omega,λi x v I j=> ?_⟩;have J:=Gu e I;rw[List.getElem?_take]at j;split at j
 ·rw[List.getElem?_drop]at j;exact E _ x v J j
 cases j
theorem qk {t:TypeId} {i:TypeInfo} {d:TypeDesc} (hi:P.info? t=some i) (E:P.underlying t=some d) {b o:Nat} {vs:List Value} (hl:vs.length=i.size)
  (hc:∀j v,vs[j]? =some v->w.cell? ⟨b,o+j,none⟩=some v):
  tU d=true/\(loadVar t ⟨b,o,none⟩).run P w= .ok (.agg vs.toArray) w\/
  tU d=false/\∀v,vs=[v]->(loadVar t ⟨b,o,none⟩).run P w= .ok v w:=by
 have hcells:(loadCells ⟨b,o,none⟩ vs.length).run P w= .ok vs.toArray w:=run_loadCells_list w _ vs λj v M=>by rw[add_plain];exact hc j v M
 cases I:tU d with
 | true=>
  left;refine ⟨rfl,?_⟩;have e:(isAgg t).run P w= .ok true w:=by rw[oM E,I]
  simp[loadVar,e,sizeOf,typeInfo,hi,<-hl,hcells]
 | false=>
  right;refine ⟨rfl,λv O=> ?_⟩;subst O;have e:(isAgg t).run P w= .ok false w:=by rw[oM E,I]
  have J:=hc 0 v rfl;simp at J;simp[loadVar,e,J]
theorem CJ (
      O:∀r ob,s.sto.get r=some ob->RO (aI w Z L s.sto) r ob) {agg:Bool} {n:Nat} {p x:AV} {v:Value} (J:RV (aI w Z L s.sto) p v) (e:loadAt (real call loop) s.sto agg n p=some x):
  ∃b o cs vs,v= .pointer (some ⟨b,o,none⟩)/\AV.bS agg cs=some x/\vs.length=n/\dH (aI w Z L s.sto) cs vs/\∀j u,vs[j]? =some u->w.cell? ⟨b,o+j,none⟩=some u:=by
 have dl:∀{ds:List D} {vs:List Value},fL w Z ds vs->dH (aI w Z L s.sto) (ds.map .d) vs:=by
  intro ds vs h;rw[bJ];obtain ⟨I,M⟩:=dA.1 h;refine ⟨by simpa using I,λi a u V E=> ?_⟩;rw[List.getElem?_map]at V;cases S:ds[i]? with
  | none=>simp[S]at V
  | some d=>simp[S]at V;subst V;simp only[RV];exact M i d u S E
 have U:∀{ds es:List D} {vs:List Value} {off:Nat},fL w Z ds vs->cut ds off n=some es->fL w Z es ((vs.drop off).take n)/\((vs.drop off).take n).length=n:=by
  intro ds es vs off h hc;obtain ⟨I,M⟩:=dA.1 h;obtain ⟨h3,h4⟩:=nQ hc;refine ⟨dA.2 ⟨by rw[CI hc];simp;omega,λi d u S E=> ?_⟩,by simp;omega⟩;have k1:=Gu hc S;rw[List.getElem?_take]at E;split at E
  ·rw[List.getElem?_drop]at E;exact M _ d u k1 E
  cases E
 have tk:∀{vs:List Value} {off j:Nat} {u:Value},((vs.drop off).take n)[j]? =some u->vs[off+j]? =some u:=by
  intro vs off j u E;rw[List.getElem?_take]at E;split at E
  ·rwa [List.getElem?_drop]at E
  cases E
 unfold loadAt at e;split at e
 ·rename_i r off;split at e
  case h_2=>cases e
  rename_i cs hr;split at e
  case h_2=>cases e
  rename_i cs' hc;have I:=O r _ hr;simp only[RO]at I;obtain ⟨b,vs,ty,M,h3,h4⟩:=I;simp only[RV]at J;obtain ⟨b',_,h5,h6⟩:=J;have hb:b'=b:=by
   have:some b'=some b:=h5.symm.trans M;injection this
  subst hb;refine ⟨b',off,cs',(vs.toList.drop off).take n,h6,e,?_,Gv h4 hc,λj u E=> ?_⟩
  ·have:=(bJ.1 h4).1;obtain ⟨k1,_⟩:=nQ hc;simp at this |-;omega
  have:=tk E;simp only[World.cell?,h3];simpa using this
 ·rename_i r sz i off;split at e
  case h_2=>cases e
  rename_i sz' xs hr;split at e
  case isFalse=>cases e
  rename_i a0;split at e
  case h_2=>cases e
  rename_i x' hx;split at e
  case isFalse=>cases e
  rename_i a3;split at e
  case h_2=>cases e
  rename_i cs' hc;subst a0;have I:=R7 O hr;simp only[RV]at J;obtain ⟨b,_,h5,h6,h7⟩:=J;obtain ⟨vs,h8,h9,a1⟩:=I.2 b h5;simp only[real,aM.cF,Ag]at hx;rw[if_pos h6]at hx;obtain ⟨cs,k1,k2,k3⟩:=fI.1 a1 _ _ hx;obtain ⟨k4,k5⟩:=U (tr k2) hc;refine ⟨b,i.toNat*sz.2+off,cs'.map .d,(cs.drop off).take n,h7,e,k5,dl k4,λj u E=> ?_⟩;have:=k3 (off+j) u (tk E);rw[Nat.zero_add]at this;rw[Nat.add_assoc];exact this
 ·rename_i cs off;split at e
  case h_2=>cases e
  rename_i cs' hc;simp only[RV]at J;obtain ⟨b,k,vs,I,M,h3,h4⟩:=J;obtain ⟨k4,k5⟩:=U h3 hc;refine ⟨b,k+off,cs'.map .d,(vs.drop off).take n,I,e,k5,dl k4,λj u E=> ?_⟩;rw[Nat.add_assoc];exact h4 (off+j) u (tk E)
 cases e
theorem rD {cs:List AV} {x:AV} (h:AV.bS false cs=some x):cs=[x]:=by
 cases cs with
 | nil=>simp[AV.bS]at h
 | cons y l=>cases l with
  | nil=>simp[AV.bS]at h;rw[h]
  | cons z l=>simp[AV.bS]at h
theorem tV (J:∀r ob,s.sto.get r=some ob->RO (aI w Z L s.sto) r ob) {t:TypeId} {i:TypeInfo} {d:TypeDesc} (hi:P.info? t=some i) (S:P.underlying t=some d) {agg:Bool} (j:agg=tU d)
  {p x:AV} {v:Value} (U:RV (aI w Z L s.sto) p v) (e:loadAt (real call loop) s.sto agg i.size p=some x):
  ∃ad u,v= .pointer (some ad)/\(loadVar t ad).run P w= .ok u w/\RV (aI w Z L s.sto) x u:=by
 obtain ⟨b,o,cs,vs,M,E,h3,h4,V⟩:=CJ J U e;rcases qk (w:=w) hi S h3 V with ⟨I,k2⟩ | ⟨I,k2⟩
 ·rw[<-j]at I;subst I;simp only[AV.bS]at E;injection E with E;subst E;exact ⟨_,_,M,k2,by simp only[RV];exact ⟨vs,rfl,h4⟩⟩
 rw[<-j]at I;subst I;have O:=rD E;subst O;simp only[dH]at h4;obtain ⟨v',vs',m1,m2,m3⟩:=h4;subst m3;exact ⟨_,v',M,k2 v' m1,m2⟩
theorem uU (np:Nat) (h:RS s a w L Z) {o:Oper} {t:TypeId} {i:TypeInfo} {d:TypeDesc} {x:Operand} {x':VX} {agg:Bool} (ho:o.op= .load t x) (E:dr x x'=true) (hi:P.info? t=some i) (I:P.underlying t=some d)
  (j:agg=tU d) {p r:AV} (e:ev s.env x'=some p) (er:loadAt (real call loop) s.sto agg i.size p=some r):aZ P np o s a w L Z r s:=by
 obtain ⟨ad,u,J,M,h3⟩:=tV (P:=P) h.obj hi I j (aO h E e) er;refine aZ.pure h (eJ (m:=Instr.loadAt t (a.eval x)) (by unfold execOp;rw[ho]) (u:=u) ?_) h3;rw[J];simp[Instr.loadAt,Instr.sureAddr,M]
theorem CK (np:Nat) (h:RS s a w L Z) {o:Oper} {x:Operand} {x':VX} {i:Nat} (ho:o.op= .extract x i) (I:dr x x'=true) {vs:List AV} {r:AV}
  (e:ev s.env x'=some (.tup vs)) (er:vs[i]? =some r):aZ P np o s a w L Z r s:=by
 have E:=aO h I e;simp only[RV]at E;obtain ⟨us,J,h3⟩:=E;obtain ⟨h4,M⟩:=bJ.1 h3;have j:i<us.length:=by rw[<-h4];exact (ax.1 er).1
 refine aZ.pure h (eJ (m:=Instr.extract (a.eval x) i) (by unfold execOp;rw[ho]) (u:=us[i]) ?_) (M i r _ er (bA j));rw[J];simp[Instr.extract,j]
theorem Fe (np:Nat) (h:RS s a w L Z) {o:Oper} {t:TypeId} {x:Operand} {x':VX} {f:Nat} {fs:Array Field} {fd:Field} {i:TypeInfo} {d:TypeDesc} {agg:Bool} (ho:o.op= .field t x f) (V:dr x x'=true)
  (hu:P.underlying t=some (.struct fs)) (hf:fs[f]? =some fd) (hi:P.info? fd.type=some i) (J:P.underlying fd.type=some d) (E:agg=tU d)
  {cs cs':List AV} {r:AV} (e:ev s.env x'=some (.agg cs)) (ec:cut cs fd.offset i.size=some cs') (er:AV.bS agg cs'=some r):aZ P np o s a w L Z r s:=by
 have M:=aO h V e;simp only[RV]at M;obtain ⟨vs,h2,h3⟩:=M;have h4:=Gv h3 ec;have a0:=(bJ.1 h3).1;obtain ⟨k1,_⟩:=nQ ec;have I:∀{u:Value},(part fd.type vs.toArray fd.offset).run P w= .ok u w->(execOp a.eval o).run P w= .ok (.value u) w:=by
  intro u O;refine eJ (m:=Instr.field t (a.eval x) f) (by unfold execOp;rw[ho]) ?_;rw[h2];simp[Instr.field,run_underlying hu,hf,asAgg,O]
 cases agg with
 | true=>
  have j:(isAgg fd.type).run P w= .ok true w:=by rw[oM J,<-E]
  simp only[AV.bS]at er;injection er with er;subst er;refine aZ.pure h (I (u:= .agg ((vs.drop fd.offset).take i.size).toArray) ?_) (by simp only[RV];exact ⟨_,rfl,h4⟩);simp[part,j,sizeOf,typeInfo,hi]
 | false=>
  have j:(isAgg fd.type).run P w= .ok false w:=by rw[oM J,<-E]
  have S:=rD er;subst S;have U:=CI ec;simp at U;simp only[dH]at h4;obtain ⟨v',vs',m1,m2,m3⟩:=h4;have hv:vs[fd.offset]? =some v':=by
   have:((vs.drop fd.offset).take i.size)[0]? =some v':=by rw[m1];rfl
   rw[<-U]at this;simpa using this
  refine aZ.pure h (I (u:=v') ?_) m2;simp[part,j,hv]
end
section
section
variable {P:Program} {call:dh} {loop:di}
variable {s:St} {a:Act} {w:World} {L:Loc} {Z:Nat->Prop}
theorem f_ {xs:List D} {i:Int} {e:D} (h:(real call loop).cF xs i=some e):0<=i/\xs[i.toNat]? =some e/\i.toNat<xs.length:=by
 simp only[real,aM.cF,Ag]at h;split at h
 ·rename_i j;exact ⟨j,h,(ax.1 h).1⟩
 cases h
theorem vB {t e:TypeId} {i:TypeInfo} (j:P.underlying t=some (.slice e)) (hi:P.info? e=some i) {k:IntKind} {n:Int} {b o len cap:Nat} (I:0<=n) (J:n.toNat<len):
  (Instr.indexAt t (.slice (some ⟨b,o,none⟩) len cap) (.int k n)).run P w= .ok (.pointer (some ⟨b,o+n.toNat*i.size,none⟩)) w:=by
 have E:0<=n/\n<(len:Int):=by omega
 simp[Instr.indexAt,asIntOf,run_underlying j,E,sizeOf,typeInfo,hi,add_plain]
theorem vX (np:Nat) (h:RS s a w L Z) {o:Oper} {t e:TypeId} {i:TypeInfo} {x y:Operand} {x' y':VX} (ho:o.op= .indexAddr t x y) (U:dr x x'=true) (V:dr y y'=true)
  (hu:P.underlying t=some (.slice e)) (hi:P.info? e=some i) {xs:List D} {k:IntKind} {n:Int} {d:D} (e1:ev s.env x'=some (.d (.lst xs))) (e2:ev s.env y'=some (.d (.int k n)))
  (ed:(real call loop).cF xs n=some d) (E:d.cells.length=i.size):aZ P np o s a w L Z (.sp d.cells 0) s:=by
 have J:=aO h U e1;have M:=aO h V e2;simp only[RV,RD,List.cons.injEq,and_true]at J M;obtain ⟨A,c,h3,h4,I⟩:=J;obtain ⟨k1,k2,k3⟩:=f_ ed;rcases I with I | ⟨b,off,sz,h6,h7,h8⟩
 ·subst I;simp at k2
 subst h6;obtain ⟨cs,m1,O,m3⟩:=fI.1 h8 _ _ k2;have S:sz=i.size:=by rw[<-m1,BV O,E]
 refine aZ.pure h (eJ (m:=Instr.indexAt t (a.eval x) (a.eval y)) (by unfold execOp;rw[ho]) (u:= .pointer (some ⟨b,off+n.toNat*i.size,none⟩)) ?_) ?_
 ·rw[h3,M];exact vB hu hi k1 k3
 simp only[RV];exact ⟨b,off+n.toNat*i.size,cs,rfl,h7,tr O,λj u hj=>by rw[<-S];exact m3 j u hj⟩
theorem oT (
      np:Nat) (h:RS s a w L Z) {o:Oper} {t e:TypeId} {i:TypeInfo} {x y:Operand} {x' y':VX} (ho:o.op= .indexAddr t x y) (hx:dr x x'=true) (hy:dr y y'=true)
  (hu:P.underlying t=some (.slice e)) (hi:P.info? e=some i) {r:Id} {g:Option (Int×Int)} {u:Bool} {xs:List D} {k:IntKind} {n:Int} {d:D} (e1:ev s.env x'=some (.arr r (e,i.size) g u)) (e2:ev s.env y'=some (.d (.int k n)))
  (ec:fG (real call loop) s.sto (.arr r (e,i.size) g u)=some xs) (ed:(real call loop).cF xs n=some d):aZ P np o s a w L Z (.prow r (e,i.size) (match g with | none=>n | some (a,_)=>a+n) 0) s:=by
 have O:=aO h hx e1;have S:=aO h hy e2;have E:=O;simp only[RD,List.cons.injEq,and_true,RV]at S;obtain ⟨A,cap,h3⟩:=lZ h.obj O ec;simp only[RV]at E;obtain ⟨a',n',cap',ys,U,m2,_,m4,m5,V,m7,m8⟩:=E;obtain ⟨k1,k2,k3⟩:=f_ ed;rw[h3]at U;injection U with q1 q2 q3;cases I:L r with
 | none=>have:=m7 I;omega
 | some b=>
  rcases m8 b I with ⟨J,_⟩ | ⟨J,_⟩
  ·omega
  rw[<-q1]at J;subst J;refine aZ.pure h (eJ (m:=Instr.indexAt t (a.eval x) (a.eval y)) (by unfold execOp;rw[ho]) (u:= .pointer (some ⟨b,br g*i.size+n.toNat*i.size,none⟩)) ?_) ?_
  ·rw[h3,S];exact vB hu hi k1 k3
  simp only[RV];refine ⟨b,by
   cases ho:s.sto.get r with
   | none=>simp[ho]at m4
   | some _=>rfl,I,?_,?_⟩
  ·cases g with
   | none=>exact k1
   | some p=>obtain ⟨j,M⟩:=p;have:=(V j M rfl).1;simp only;omega
  congr 3;cases g with
  | none=>simp[br]
  | some p=>
   obtain ⟨j,M⟩:=p;have:=(V j M rfl).1;simp only[br];rw[<-Nat.add_mul,show (j+n).toNat=j.toNat+n.toNat by omega];rfl
theorem Ff (np:Nat) (h:RS s a w L Z) {o:Oper} {t:TypeId} {x y:Operand} {x' y':VX} (ho:o.op= .index t x y) (I:dr x x'=true) (J:dr y y'=true)
  (M:P.underlying t=some .string) {sv:ByteArray} {k:IntKind} {n m:Int} (O:ev s.env x'=some (.d (.str sv))) (S:ev s.env y'=some (.d (.int k n)))
  (ed:(real call loop).BS sv n=some m):aZ P np o s a w L Z (.d (.int .u8 m)) s:=by
 have j:=aO h I O;have E:=aO h J S;simp only[RV,RD,List.cons.injEq,and_true]at j E;simp only[real,aM.BS]at ed;split at ed
 case isFalse=>cases ed
 rename_i U;cases e:sv[n.toNat]? with
 | none=>simp[e]at ed
 | some c=>
  simp[e]at ed;refine aZ.pure h (eJ (m:=Instr.index t (a.eval x) (a.eval y)) (by unfold execOp;rw[ho]) (u:= .int .u8 m) ?_) (by simp only[RV,RD]);rw[j,E];simp[Instr.index,asIntOf,run_underlying M,U,e,<-ed]
theorem Kt (np:Nat) (h:RS s a w L Z) {o:Oper} {t:TypeId} {x:Operand} {x':VX} (ho:o.op= .call { callee:= .builtin .len,args:= #[x],argTypes:= #[t] }) (V:dr x x'=true)
  {u r:AV} {D7:Bool} (U:ev s.env x'=some u)
  (M:(D7=true->P.underlying t=some .string)/\(D7=false->∃e,P.underlying t=some (.slice e)))
  (er:evalOp (real call loop) s.env s.sto (.len D7 x')=some (r,[])):aZ P np o s a w L Z r s:=by
 have E:=aO h V U;have j:∀{m:Value},(Builtin.len_ #[t] o.type #[a.eval x]).run P w= .ok m w->(execOp a.eval o).run P w= .ok (.value m) w:=by
  intro m hm;unfold execOp;rw[ho];simp[resolve,invoke,builtin,hm]
 have J:∀{A:Option Addr} {n c:Nat},a.eval x= .slice A n c->(∃e,P.underlying t=some (.slice e))->(Builtin.len_ #[t] o.type #[a.eval x]).run P w= .ok (.int .i64 n) w:=by
  rintro A n c hv ⟨e,I⟩;rw[hv];simp[Builtin.len_,run_underlying I,goInt]
 simp only[evalOp,U]at er;split at er
 ·cases er
 rename_i hS;have I:((∃c,u= .d (.str c))->P.underlying t=some .string)/\((¬∃c,u= .d (.str c))->∃e,P.underlying t=some (.slice e)):=by
  have O:u.D7=D7:=by simpa using hS
  refine ⟨λ⟨c,hc⟩=>M.1 (by rw[<-O,hc];rfl),λhn=>M.2 (by
   rw[<-O];cases u with
   | d y=>cases y<;>first | rfl | exact (hn ⟨_,rfl⟩).elim
   | _=>rfl)⟩
 cases u with
 | d y=>cases y with
  | str c=>
   simp only at er;injection er with er;injection er with er _;subst er;simp only[RV,RD,List.cons.injEq,and_true]at E;refine aZ.pure h (j (m:= .int .i64 c.size) ?_) (by simp only[RV,RD,real,aM.sLen]);rw[E];simp[Builtin.len_,run_underlying (I.1 ⟨_,rfl⟩),goInt]
  | lst xs=>
   simp only at er;injection er with er;injection er with er _;subst er;simp only[RV,RD,List.cons.injEq,and_true]at E;obtain ⟨A,c,h3,_⟩:=E;exact aZ.pure h (j (J h3 (I.2 (by simp)))) (by simp only[RV,RD,real,aM.len])
  | _=>simp at er
 | emp=>
  simp only at er;injection er with er;injection er with er _;subst er;simp only[RV]at E;obtain ⟨A,h3⟩:=E;exact aZ.pure h (j (J h3 (I.2 (by simp)))) (by simp only[RV,RD];rfl)
 | arr q sz g u'=>
  simp only at er;have S:=E;simp only[RV]at S;obtain ⟨A,n,cap,xs,m1,_,_,m4,m5,m6,_⟩:=S;split at er
  ·rename_i p m;injection er with er;injection er with er _;subst er;have:=(m6 _ _ rfl).2.1;subst this;exact aZ.pure h (j (J m1 (I.2 (by simp)))) (by simp only[RV,RD])
  split at er
  ·rename_i ys hc;injection er with er;injection er with er _;subst er;obtain ⟨A',cap',k1⟩:=lZ h.obj E hc;exact aZ.pure h (j (J k1 (I.2 (by simp)))) (by simp only[RV,RD,real,aM.len])
  cases er
 | _=>simp at er
theorem D2 {np t:Nat} {s':St} {ob:Obj} {o:Go.Obj} {w':World} (h:RS s a w L Z) (hl:s.lay t [some ob]=some s') (ht:t<np) (O:w'.heap=w.heap.push o) (a0:w'.os=w.os) (a1:w'.tape=w.tape) (a3:w'.output=w.output)
  (a4:∀c:Cx,c.w=w'->c.Z=Z->c.L (t,0)=some w.heap.size->(∀q,(s.sto.get q).isSome->Same (aI w Z L s.sto) c q)->ko w c.w Z c.Z->RO c (t,0) ob):
  ∃L',RS s' a w' L' Z/\Tr np s.sto s'.sto w w' L L' Z Z/\L' (t,0)=some w.heap.size/\(∀q,(s.sto.get q).isSome->Same (aI w Z L s.sto) (aI w' Z L' s'.sto) q)/\ko w w' Z Z:=by
 have hk:∀b,b<w.heap.size->some b≠some w.heap.size->w'.heap[b]? =w.heap[b]? :=by
  intro b j _;rw[O,Array.getElem?_push,if_neg (by omega)]
 have a5:∀b,some w.heap.size=some b->¬Z b/\¬aY s.sto L b/\b<w'.heap.size/\(w.heap.size<=b\/aY s.sto L b):=by
  intro b j;injection j with j;subst j;refine ⟨λhz=> ?_,λhl=> ?_,by simp[O],.inl (Nat.le_refl _)⟩
  ·have:=(h.dis _ hz).1;omega
  obtain ⟨q,ob',S,U⟩:=hl;have:=h.fJ S U;omega
 have E:=dX (show s.sto.lay t [some ob]=some s'.sto by
  unfold St.lay at hl;split at hl
  ·rename_i sto e;injection hl with hl;subst hl;exact e
  cases hl)
 have hfree:=gW (show s.sto.lay t [some ob]=some s'.sto by
  unfold St.lay at hl;split at hl
  ·rename_i sto e;injection hl with hl;subst hl;exact e
  cases hl)
 have hsame:∀q,(s.sto.get q).isSome->Same (aI w Z L s.sto) (aI w' Z (upd L (t,0) (some w.heap.size)) s'.sto) q:=by
  intro q V;have I:q.1≠t:=λe=>by rw[hfree q e]at V;cases V
  refine ⟨tR L _ _ (λe=>I (by rw[e])),λk=> ?_,λsz xs k=>⟨xs,?_,rfl⟩,λb j hs=> ?_⟩
  ·show (s'.sto.get q).isSome;rw[E,if_neg I];exact k
  ·show (s'.sto.get q).bind Obj.rw=_;rw[E,if_neg I];exact k
  obtain ⟨o',J⟩:=Option.isSome_iff_exists.1 V;exact dP (hk b (h.block_lt J j) (by intro e;injection e with e;have:=h.block_lt J j;omega))
 have M:ko w w' Z Z:=λb j=>⟨j,hk b (h.dis b j).1 (by intro e;injection e with e;have:=(h.dis b j).1;omega)⟩
 obtain ⟨S,U,_,_⟩:=RS.lay (s0:=s) (np:=np) (nb:=some w.heap.size) (w':=w') h (Tr.refl _ _ _ _ _) hl ht a0 a1 a3 (by rw[O];simp) hk a5
  (a4 (aI w' Z (upd L (t,0) (some w.heap.size)) s'.sto) rfl rfl (DV _ _ _) hsame M)
 exact ⟨_,S,U,DV _ _ _,hsame,M⟩
theorem Ku (w:World) (o:Go.Obj):({ w with heap:=w.heap.push o }:World).heap[w.heap.size]? =some o:=by simp
theorem vC {np t:Nat} {s':St} {as:List AV} {vs:List Value} {ty:TypeId} {o:Oper} (h:RS s a w L Z) (hl:s.lay t [some (.box as)]=some s') (M:t<np) (I:dH (aI w Z L s.sto) as vs)
  (e:(execOp a.eval o).run P w= .ok (.value (.pointer (some ⟨w.heap.size,0,none⟩))) { w with heap:=w.heap.push (.cells vs.toArray ty) }):
  aZ P np o s a w L Z (.ptr (t,0) 0) s':=by
 obtain ⟨L',j,J,h3,_,_⟩:=D2 (w':={ w with heap:=w.heap.push (.cells vs.toArray ty) }) (o:= .cells vs.toArray ty) h hl M rfl rfl rfl rfl (λc j J h3 h4 O=>by
  simp only[RO];refine ⟨_,vs.toArray,ty,h3,by rw[j];exact Ku _ _,?_⟩;exact cO (c:=aI w Z L s.sto) (c':=c) O _ _ (λq S=>h4 q (eE _ _ I q S)) (by simpa using I))
 refine aZ.value e j J ?_;simp only[RV];refine ⟨w.heap.size,?_,h3,rfl⟩;have E:=dX (show s.sto.lay t [some (.box as)]=some s'.sto by
  unfold St.lay at hl;split at hl
  ·rename_i sto e;injection hl with hl;subst hl;exact e
  cases hl) (t,0)
 show (s'.sto.get (t,0)).isSome;rw[E];simp
theorem Fg {np t:Nat} {s':St} {as:List AV} {ty:TypeId} {i:TypeInfo} {z:Value} {o:Oper} (h:RS s a w L Z) (ho:o.op= .alloc ty) (hi:P.info? ty=some i) (j:i.zero=some z) (e:eF z.cells.toList as=true)
  (hl:s.lay t [some (.box as)]=some s') (E:t<np):aZ P np o s a w L Z (.ptr (t,0) 0) s':=by
 refine vC (ty:=ty) h hl E (kY e) (eJ (m:=Instr.alloc ty true (.tuple #[])) (by unfold execOp;rw[ho]) ?_);simp[Instr.alloc,zeroValue,typeInfo,hi,j,newVar,newRow]
mutual
theorem rY {w:World} {Z:Nat->Prop}:∀(y:D) (cs:Array Value),¬RD w Z y [.agg cs]
 | .int k n,cs,h=>by simp[RD]at h
 | .bool b,cs,h=>by simp[RD]at h
 | .str s,cs,h=>by simp[RD]at h
 | .lst xs,cs,h=>by simp only[RD]at h;obtain ⟨_,_,h,_⟩:=h;simp at h
 | .agg ds,cs,h=>by simp only[RD]at h;exact D3 ds cs h
 | .own _ _,cs,h=>by simp only[RD]at h;obtain ⟨_,_,_,h⟩:=h;simp at h
theorem D3 {w:World} {Z:Nat->Prop}:∀(y:List D) (cs:Array Value),¬fL w Z y [.agg cs]
 | [],cs,h=>by simp[fL]at h
 | d::ds,cs,h=>by
  simp only[fL]at h;obtain ⟨v,cs',e,j,_⟩:=h;simp at e;obtain ⟨rfl,_⟩:=e;exact rY d cs j
end
theorem ql {c:Cx} {x:AV} {v:Value} (h:RV c x v) (E:∀vs,x≠ .tup vs) (I:x≠ .undef) (J:x≠ .bare):dH c x.cells v.cells.toList:=by
 have one:(∀cs,v≠ .agg cs)->dH c [x] v.cells.toList:=by
  intro j;simp only[dH];refine ⟨v,[],?_,h,rfl⟩;cases v<;>first | rfl | exact (j _ rfl).elim
 cases x with
 | agg as=>
  simp only[RV]at h;obtain ⟨vs,rfl,M⟩:=h;simpa [AV.cells,Value.cells]using M
 | undef=>exact (I rfl).elim
 | bare=>exact (J rfl).elim
 | tup vs=>exact (E vs rfl).elim
 | d y=>
  refine one λcs e=> ?_
  subst e;simp only[RV]at h;exact rY y cs h
 | nilp=>simp only[RV]at h;exact one λcs e=>by rw[h]at e;cases e
 | emp=>simp only[RV]at h;obtain ⟨A,h⟩:=h;exact one λcs e=>by rw[h]at e;cases e
 | ptr r o=>simp only[RV]at h;obtain ⟨b,_,_,h⟩:=h;exact one λcs e=>by rw[h]at e;cases e
 | prow r sz i o=>simp only[RV]at h;obtain ⟨b,_,_,_,h⟩:=h;exact one λcs e=>by rw[h]at e;cases e
 | sp cs' o=>simp only[RV]at h;obtain ⟨b,_,_,h,_⟩:=h;exact one λcs e=>by rw[h]at e;cases e
 | arr r sz g u=>simp only[RV]at h;obtain ⟨_,_,_,_,h,_⟩:=h;exact one λcs e=>by rw[h]at e;cases e
 | fn f as=>simp only[RV]at h;obtain ⟨_,h,_⟩:=h;exact one λcs e=>by rw[h]at e;cases e
theorem Kv {np t:Nat} {s':St} {ty:TypeId} {x:Operand} {x':VX} {o:Oper} (h:RS s a w L Z) (ho:o.op= .box ty x) (I:dr x x'=true) {u:AV} (e:ev s.env x'=some u) (J:∀vs,u≠ .tup vs) (j:u≠ .undef) (E:u≠ .bare)
  (hl:s.lay t [some (.box u.cells)]=some s') (M:t<np):aZ P np o s a w L Z (.ptr (t,0) 0) s':=by
 refine vC (ty:=ty) (vs:=(a.eval x).cells.toList) h hl M (ql (aO h I e) J j E) (eJ (m:=Instr.box ty (a.eval x)) (by unfold execOp;rw[ho]) ?_);simp[Instr.box,newVar,newRow]
end
end
section
section
variable {P:Program} {call:dh} {loop:di}
variable {s:St} {a:Act} {w:World} {L:Loc} {Z:Nat->Prop}
mutual
theorem ze {w:World} {Z:Nat->Prop}:∀(y:D) (cs:Array Value),¬RD w Z y [.tuple cs]
 | .int k n,cs,h=>by simp[RD]at h
 | .bool b,cs,h=>by simp[RD]at h
 | .str s,cs,h=>by simp[RD]at h
 | .lst xs,cs,h=>by simp only[RD]at h;obtain ⟨_,_,h,_⟩:=h;simp at h
 | .agg ds,cs,h=>by simp only[RD]at h;exact D4 ds cs h
theorem D4 {w:World} {Z:Nat->Prop}:∀(y:List D) (cs:Array Value),¬fL w Z y [.tuple cs]
 | [],cs,h=>by simp[fL]at h
 | d::ds,cs,h=>by
  simp only[fL]at h;obtain ⟨v,cs',e,j,_⟩:=h;simp at e;obtain ⟨rfl,_⟩:=e;exact ze d cs j
end
theorem Kw {w:World} {Z:Nat->Prop} {y:D} {v:Value} (h:RD w Z y [v]):v.oneCell'=true:=by
 cases v<;>first | rfl | exact (rY _ _ h).elim | exact (ze _ _ h).elim
theorem Qd {c:Cx} {x:AV} {v:Value} (h:RV c x v) (e:x.one=true):v.oneCell'=true:=by
 cases x with
 | undef=>cases e
 | bare=>cases e
 | agg _=>cases e
 | tup _=>cases e
 | d y=>simp only[RV]at h;exact Kw h
 | nilp=>simp only[RV]at h;rw[h];rfl
 | emp=>simp only[RV]at h;obtain ⟨A,h⟩:=h;rw[h];rfl
 | ptr r o=>simp only[RV]at h;obtain ⟨b,_,_,h⟩:=h;rw[h];rfl
 | prow r sz i o=>simp only[RV]at h;obtain ⟨b,_,_,_,h⟩:=h;rw[h];rfl
 | sp cs' o=>simp only[RV]at h;obtain ⟨b,_,_,h,_⟩:=h;rw[h];rfl
 | arr r sz g u=>simp only[RV]at h;obtain ⟨_,_,_,_,h,_⟩:=h;rw[h];rfl
 | fn f as=>simp only[RV]at h;obtain ⟨_,h,_⟩:=h;rw[h];rfl
theorem MB {c:Cx} {xs:List AV} {vs:List Value} (h:dH c xs vs) (j:xs.all AV.one=true):∀v∈vs,v.oneCell'=true:=by
 obtain ⟨E,I⟩:=bJ.1 h;intro v J;obtain ⟨i,hi⟩:=List.getElem?_of_mem J;have e:i<xs.length:=by rw[E];exact (ax.1 hi).1
 exact Qd (I i xs[i] v (bA e) hi) (List.all_eq_true.1 j _ (List.getElem_mem e))
theorem ju {α:Type} {l v r:List α} {off:Nat} (e:lay l off v=some r):off+v.length<=l.length/\r=l.take off++v++l.drop (off+v.length):=by
 unfold lay at e;split at e
 ·injection e with e;exact ⟨by assumption,e.symm⟩
 cases e
theorem jY {α:Type} {l v r:List α} {off:Nat} (e:lay l off v=some r):r.length=l.length:=by
 obtain ⟨h,rfl⟩:=ju e;simp;omega
theorem d9 {α:Type} {l v r:List α} {off:Nat} (e:lay l off v=some r) (i:Nat):r[i]? =if off<=i/\i<off+v.length then v[i-off]? else l[i]? :=by
 obtain ⟨h,rfl⟩:=ju e;simp only[List.getElem?_append,List.length_append,List.length_take,List.getElem?_take,List.getElem?_drop];by_cases j:i<off
 ·have:min off l.length=off:=by omega
  simp[j,this];rw[if_pos (by omega),if_neg (by omega)]
 by_cases E:i<off+v.length
 ·have:min off l.length=off:=by omega
  rw[this,if_pos (by omega),if_neg j,if_pos (by omega)]
 have:min off l.length=off:=by omega
 rw[this,if_neg (by omega),if_neg (by omega)];congr 1;omega
theorem Gw {c:Cx} {as bs rs:List AV} {vs us:List Value} {off:Nat} (h:dH c as vs) (k:dH c bs us) (e:lay as off bs=some rs):dH c rs (vs.take off++us++vs.drop (off+us.length)):=by
 obtain ⟨J,M⟩:=bJ.1 h;obtain ⟨O,k2⟩:=bJ.1 k;obtain ⟨S,_⟩:=ju e;have I:lay vs off us=some (vs.take off++us++vs.drop (off+us.length)):=by unfold lay;rw[if_pos (by omega)]
 refine bJ.2 ⟨by rw[jY e,jY I,J],λi x v j E=> ?_⟩;rw[d9 e]at j;rw[d9 I]at E;by_cases hc:off<=i/\i<off+bs.length
 ·rw[if_pos hc]at j;rw[if_pos (by omega)]at E;exact k2 _ x v j E
 rw[if_neg hc]at j;rw[if_neg (by omega)]at E;exact M _ x v j E
theorem oN {ty:TypeId} {i:TypeInfo} (hi:P.info? ty=some i) {v:Value} (e:v.cells.size=i.size) {g off:Nat} {cur:Array Value} {t:TypeId} (j:w.heap[g]? =some (.cells cur t (0,0))) (E:off+v.cells.size<=cur.size)
  (I:∀u∈v.cells.toList,u.oneCell'=true):
  (storeVar ty ⟨g,off,none⟩ v).run P w= .ok () (w.setRow g (cur.toList.take off++v.cells.toList++cur.toList.drop (off+v.cells.toList.length)).toArray):=by
 have:=run_storeCells_at P g off t v.cells.toList 0 cur w j (by simpa using E) I;simp only[Nat.add_zero]at this;simp[storeVar,sizeOf,typeInfo,hi,e,this]
theorem Fh {w:World} {Z:Nat->Prop} {L:Loc} {ob:Id->Option Obj}:∀{xs:List AV} {ds:List D} {vs:List Value},dL xs=some ds->dH ⟨w,Z,L,ob⟩ xs vs->fL w Z ds vs
 | [],ds,vs,e,h=>by simp only[dL]at e;injection e with e;subst e;simpa only [dH,fL]using h
 | x::xs,ds,vs,e,h=>by
  cases x with
  | d y=>
   simp only[dL]at e;split at e
   ·rename_i ys E;injection e with e;subst e;simp only[dH]at h;obtain ⟨v,vs',I,j,h3⟩:=h;simp only[RV]at j;simp only[fL];exact ⟨v,vs',I,j,Fh E h3⟩
   cases e
  | _=>simp[dL]at e
theorem tW:∀{xs:List AV} {ds:List D},dL xs=some ds->AV.bR xs=[]
 | [],ds,e=>by simp[AV.bR]
 | x::xs,ds,e=>by
  cases x with
  | d y=>
   simp only[dL]at e;split at e
   ·rename_i ys j;simp[AV.bR,AV.refs,tW j]
   cases e
  | _=>simp[dL]at e
theorem nR {agg:Bool} {cs:List D} {x:D} (h:D.bS agg cs=some x):x.cells=cs:=by
 cases agg with
 | true=>simp[D.bS]at h;subst h;rfl
 | false=>
  cases cs with
  | nil=>simp[D.bS]at h
  | cons y l=>cases l with
   | nil=>
    simp only[D.bS]at h;split at h
    ·cases h
    rename_i e;injection h with h;subst h;cases y<;>first | rfl | simp[D.many]at e
   | cons z l=>simp[D.bS]at h
theorem kg {w:World} {Z:Nat->Prop} {x:D} {cs:List Value} (h:fL w Z x.cells cs):RD w Z x cs:=by
 cases x with
 | agg ds=>simpa only [RD,D.cells]using h
 | _=>
  simp only[D.cells,fL]at h;obtain ⟨v,cs',rfl,e,rfl⟩:=h;exact e
theorem Kx {Z:Nat->Prop} {b sz n off:Nat} {vs:Array Value} {t:TypeId} {xs:List D} {us cs:List Value} {e':D} (E:w.heap[b]? =some (.cells vs t (0,0))) (hrows:Rows w Z xs b 0 sz)
  (J:ko w (w.setRow b (vs.toList.take (n*sz+off)++us++vs.toList.drop (n*sz+off+us.length)).toArray) Z Z) (hn:n<xs.length) (M:cs.length=sz) (hcells:∀j v,cs[j]? =some v->w.cell? ⟨b,0+n*sz+j,none⟩=some v)
  (ho:off+us.length<=sz) (hb:n*sz+off+us.length<=vs.size)
  (he:fL w Z e'.cells (cs.take off++us++cs.drop (off+us.length))):
  Rows (w.setRow b (vs.toList.take (n*sz+off)++us++vs.toList.drop (n*sz+off+us.length)).toArray) Z (xs.set n e') b 0 sz:=by
 have e1:lay vs.toList (n*sz+off) us=some (vs.toList.take (n*sz+off)++us++vs.toList.drop (n*sz+off+us.length)):=by unfold lay;rw[if_pos (by simpa using hb)]
 have O:lay cs off us=some (cs.take off++us++cs.drop (off+us.length)):=by unfold lay;rw[if_pos (by omega)]
 have hcell:∀j,(w.setRow b (vs.toList.take (n*sz+off)++us++vs.toList.drop (n*sz+off+us.length)).toArray).cell? ⟨b,j,none⟩=
   if n*sz+off<=j/\j<n*sz+off+us.length then us[j-(n*sz+off)]? else w.cell? ⟨b,j,none⟩:=by
  intro j;rw[cell_setRow_same w b j vs _ t (0,0) E];simp only[List.getElem?_toArray];rw[d9 e1];split
  ·rfl
  simp[World.cell?,E]
 rw[fI]at hrows |-;intro i x I;by_cases hi:i=n
 ·subst hi;rw[List.getElem?_set_self hn]at I;injection I with I;subst I;refine ⟨cs.take off++us++cs.drop (off+us.length),by rw[jY O,M],dx J _ _ (kg he),λj v e=> ?_⟩;rw[hcell];rw[d9 O]at e;by_cases hc:off<=j/\j<off+us.length
  ·rw[if_pos hc]at e;rw[if_pos (by omega)];rw[show 0+i*sz+j-(i*sz+off)=j-off by omega];exact e
  rw[if_neg hc]at e;rw[if_neg (by omega)];exact hcells j v e
 rw[List.getElem?_set_ne (Ne.symm hi)]at I;obtain ⟨cs',S,h2,h3⟩:=hrows i x I;refine ⟨cs',S,dx J _ _ h2,λj v e=> ?_⟩;have a0:j<sz:=by rw[<-S];exact (ax.1 e).1
 rw[hcell,if_neg]
 ·exact h3 j v e
 rintro ⟨q1,q2⟩;rcases Nat.lt_or_gt_of_ne hi with U | V
 ·have:(i+1)*sz<=n*sz:=Nat.mul_le_mul_right _ U;rw[Nat.succ_mul]at this;omega
 have:(n+1)*sz<=i*sz:=Nat.mul_le_mul_right _ V;rw[Nat.succ_mul]at this;omega
theorem wD {w:World} {Z:Nat->Prop}:∀{xs:List D} {vs:List Value} {F:List Nat},nE w Z xs vs F->vs.length=xs.length
 | [],vs,F,h=>by simp only[nE]at h;rw[h.1];rfl
 | x::xs,vs,F,h=>by
  simp only[nE]at h;obtain ⟨v,vs',F1,F2,rfl,_,_,e⟩:=h;simp[wD e]
theorem Qe {α:Type} {S us J U M:List α} {p off sz:Nat} (I:(S.drop p).take sz=J++(U++M)) (h1:J.length=off) (h2:U.length=us.length) (hs:p+sz<=S.length) (hl:off+us.length<=sz):
  (∀j,j<p->(S.take (p+off)++us++S.drop (p+off+us.length))[j]? =S[j]?)/\
  ((S.take (p+off)++us++S.drop (p+off+us.length)).drop p).take sz=J++(us++M)/\
  (S.take (p+off)++us++S.drop (p+off+us.length)).drop (p+sz)=S.drop (p+sz):=by
 have E:∀j,(S.take (p+off)++us++S.drop (p+off+us.length))[j]? =if j<p+off then S[j]? else if j<p+off+us.length then us[j-(p+off)]? else S[j]? :=by
  intro j;rw[List.append_assoc,List.getElem?_append,List.length_take,Nat.min_eq_left (by omega)];split
  ·rename_i e;rw[List.getElem?_take,if_pos e]
  rename_i e;rw[List.getElem?_append];split
  ·rename_i hk;rw[if_pos (by omega)]
  rename_i hk;rw[if_neg (by omega),List.getElem?_drop];congr 1;omega
 have V:off+us.length+M.length=sz:=by
  have:=congrArg List.length I;simp at this;omega
 have hS:∀j,j<sz->S[p+j]? =(J++(U++M))[j]? :=by
  intro j e;rw[<-I,List.getElem?_take,if_pos e,List.getElem?_drop]
 refine ⟨λj e=>by rw[E,if_pos (by omega)],?_,?_⟩
 ·apply List.ext_getElem?;intro j;rw[List.getElem?_take];split
  ·rename_i e;rw[List.getElem?_drop,E];have O:=hS j e;by_cases c1:j<off
   ·rw[if_pos (by omega),O,List.getElem?_append_left (by omega),List.getElem?_append_left (by omega)]
   rw[if_neg (by omega),List.getElem?_append_right (by omega)];by_cases c2:j<off+us.length
   ·rw[if_pos (by omega),List.getElem?_append_left (by omega)];congr 1;omega
   rw[if_neg (by omega),O,List.getElem?_append_right (by omega),List.getElem?_append_right (by omega),List.getElem?_append_right (by omega),h2]
  rename_i e;rw[List.getElem?_eq_none];simp only[List.length_append];omega
 apply List.ext_getElem?;intro j;rw[List.getElem?_drop,List.getElem?_drop,E,if_neg (by omega),if_neg (by omega)]
theorem rZ (
      np:Nat) {s':St} {o:Oper} {ty:TypeId} {i:TypeInfo} {x y:Operand} {x' y':VX} (h:RS s a w L Z) (ho:o.op= .store ty x y) (J:dr x x'=true) (I:dr y y'=true) (hi:P.info? ty=some i)
  {p v:AV} (e1:ev s.env x'=some p) (e2:ev s.env y'=some v) (es:storeAt (real call loop) s i.size p v=some s'):aZ P np o s a w L Z .bare s':=by
 have hp:=aO h J e1;have hv:=aO h I e2;unfold storeAt at es;simp only at es;split at es
 ·cases es
 rename_i hc;simp only[Bool.or_eq_true,not_or,bne_iff_ne,ne_eq,decide_eq_true_eq,Decidable.not_not,Bool.not_eq_true',Bool.not_eq_false]at hc;obtain ⟨bb,a5⟩:=hc;have hcells:dH (aI w Z L s.sto) v.cells (a.eval y).cells.toList:=by
  refine ql hv ?_ ?_ ?_
  ·rintro vs rfl;simp[AV.cells,AV.one]at a5
  ·rintro rfl;simp[AV.cells,AV.one]at a5
  rintro rfl;simp[AV.cells,AV.one]at a5
 have am:(a.eval y).cells.size=i.size:=by rw[<-Array.length_toList,<-(bJ.1 hcells).1,bb]
 have a6:=MB hcells a5;have a9:∀{ad:Addr} {w':World},a.eval x= .pointer (some ad)->(storeVar ty ad (a.eval y)).run P w= .ok () w'->(execOp a.eval o).run P w= .ok .skip w':=by
  intro ad w' hq hm;unfold execOp;rw[ho];simp only[Instr.storeAt,hq,Instr.sureAddr];simp[hm]
 split at es
 ·rename_i r off;split at es
  case h_2=>cases es
  rename_i cs hr;split at es
  case h_2=>cases es
  rename_i cs' O;injection es with es;subst es;simp only[RV]at hp;obtain ⟨b,_,U,a7⟩:=hp;have V:=h.obj r _ hr;simp only[RO]at V;obtain ⟨b',vs,tt,bj,E,b0⟩:=V;have:b'=b:=by have:some b'=some b:=bj.symm.trans U;injection this
  subst this;have aw:=(bJ.1 b0).1;obtain ⟨b1,_⟩:=ju O;have hbound:off+(a.eval y).cells.size<=vs.size:=by simp at aw;omega
  have hst:=oN (P:=P) hi am E hbound a6;obtain ⟨k1,k2⟩:=h.write (w':=w.setRow b' (vs.toList.take off++(a.eval y).cells.toList++vs.toList.drop (off+(a.eval y).cells.toList.length)).toArray) (ob':= .box cs') np hr U
   rfl rfl rfl (by simp) (λk hk=>setRow_other _ _ _ _ hk) (by
    simp only[b_,setRow_heap w b' vs _ tt (0,0) E,E];simp;omega) (λsz xs e=>by cases e) (λe=>by cases e) (λhsame hz=>by
    simp only[RO];refine ⟨b',_,tt,U,setRow_heap w b' vs _ tt (0,0) E,?_⟩;have:=Gw b0 hcells O;refine cO (c:=aI w Z L s.sto) hz _ _ (λq hq=>hsame q (eE _ _ this q hq)) (by simpa using this))
  exact aZ.skip (a9 a7 hst) k1 k2
 ·rename_i r sz n off;split at es
  case h_1 c8 c9 ch=>
   split at es
   case h_2=>cases es
   rename_i ds s2 bc;split at es
   case h_2=>cases es
   rename_i sz' xs hr;split at es
   case h_2=>cases es
   rename_i cs he;split at es
   case isFalse=>cases es
   rename_i bl;split at es
   case h_2=>cases es
   rename_i cs' O;injection es with es;subst es;obtain ⟨aa,ci⟩:=bl;subst aa;obtain ⟨f1,f2,f3,F,f4,f5,f6⟩:=rX np v.cells _ s s2 ds h (Kept.refl _ _ _ _) hcells bc;have a8:RV (aI w Z L s2.sto) (.prow r sz n off) (a.eval x):=f3.rv (by intro q hq;simp[AV.refs]at hq;subst hq;simp[hr]) hp;simp only[RV]at a8;obtain ⟨b,_,U,bm,a7⟩:=a8;have V:=f1.obj r _ hr;simp only[RO]at V;obtain ⟨vs,G,E,bd,g3,g4,g5⟩:=V.2 b U;obtain ⟨k1,k2,k3⟩:=f_ he;obtain ⟨A,Fi,B,rfl,a1,a2,a3,a4⟩:=Kl g3 k2;simp only[OE]at a2;obtain ⟨b1,b3⟩:=ju O;have ac:=wD f4;have ag:cs=cs.take off++((cs.drop off).take ds.length++cs.drop (off+ds.length)):=by
    rw[<-List.drop_drop,List.take_append_drop,List.take_append_drop]
   rw[ag]at a2;obtain ⟨v1,cl,A1,co,be,rfl,q1,q2,q3⟩:=fX.1 a2;obtain ⟨v2,v3,M,B1,rfl,rfl,q4,q5,q6⟩:=fX.1 q3;have bo:v1.length=off:=by rw[q1,List.length_take];omega
   have bs:v2.length=(a.eval y).cells.toList.length:=by rw[q4,List.length_take,List.length_drop,ac];omega
   rw[Nat.succ_mul]at a3 a4;rw[Array.length_toList]at a4;obtain ⟨w1,w2,w3⟩:=Qe (us:=(a.eval y).cells.toList) be bo bs (by simpa using a4) (by rw[ac];omega);have hbound:n.toNat*sz.2+off+(a.eval y).cells.size<=vs.size:=by
    have:(a.eval y).cells.size=ds.length:=by rw[<-Array.length_toList];exact ac
    omega
   have hst:=oN (P:=P) hi am E hbound a6;have bt:=List.nodup_cons.1 g4;have bu:∀k,k∈b::(A++(A1++(M++B1))++B)->aY s2.sto L k:=λk hk=>by
    rcases List.mem_cons.1 hk with rfl | hk
    ·exact ⟨r,_,hr,.inl U⟩
    exact ⟨r,_,hr,.inr ⟨rfl,(g5 k).2 hk⟩⟩
   have b4:∀k,k∈F->k∉b::(A++(A1++(M++B1))++B):=λk hk bv=>(f6 k hk).2.2.1 (bu k bv)
   obtain ⟨
       r1,r2⟩:=RS.Kf (s0:=s) (w':=w.setRow b (vs.toList.take (n.toNat*sz.2+off)++(a.eval y).cells.toList++vs.toList.drop (n.toNat*sz.2+off+(a.eval y).cells.toList.length)).toArray) (ob':= .orows sz (xs.set n.toNat (.agg cs'))) (N:=λk=>k∈A++(A1++(F++B1))++B) np f1 f2 hr U
    rfl rfl rfl (by simp) (λk hk=>setRow_other _ _ _ _ hk) (by
     simp only[b_,setRow_heap w b vs _ sz.1 (0,0) E,E];simp;omega) (λz ys e=>by cases e;exact ⟨_,rfl,by simp⟩) (λk hk=>by
     rcases hk with hk | ⟨_,hk⟩
     ·rw[cK]at hk;exact .inl (.inl (U.trans hk))
     ·rw[jM]at hk;by_cases b5:k∈F
      ·obtain ⟨p1,p2,p3,p4⟩:=f6 k b5;exact .inr ⟨p1,p3,p4,p2⟩
      refine .inl (.inr ⟨rfl,(g5 k).2 ?_⟩);simp only[List.mem_append]at hk |-;rcases hk with (hk | (hk | (hk | hk))) | hk
      ·exact .inl (.inl hk)
      ·exact .inl (.inr (.inl hk))
      ·exact (b5 hk).elim
      ·exact .inl (.inr (.inr (.inr hk)))
      exact .inr hk) (λhsame hz=>by
     have S:∀k,k≠b->(w.setRow b (vs.toList.take (n.toNat*sz.2+off)++(a.eval y).cells.toList++vs.toList.drop (n.toNat*sz.2+off+(a.eval y).cells.toList.length)).toArray).heap[k]? =w.heap[k]? :=λk hk=>setRow_other _ _ _ _ hk
     have ae:∀k,k∈A++(A1++(M++B1))++B->k≠b:=λk hk e=>bt.1 (e ▸ hk)
     have bi:∀k,k∈F->k≠b:=λk hk e=>b4 k hk (by rw[e];simp)
     simp only[RO];refine ⟨λe=>(by rw[cK]at e;cases e),λb2 a0=> ?_⟩;rw[cK]at a0;injection a0 with a0;subst a0;refine ⟨_,A++(A1++(F++B1))++B,setRow_heap w b vs _ sz.1 (0,0) E,by simp;omega,?_,?_,λk=>by rw[jM]⟩
     ·refine CC k3 (jN (gV hz _ _ _ _ (λk hk=>S k (ae k (by simp[hk]))) a1) λj hj=>w1 j ?_) ?_ ?_ ?_
      ·rw[List.length_take]at hj;exact Nat.lt_of_lt_of_le hj (Nat.mul_le_mul_right _ (by omega))
      ·rw[w2];simp only[OE];rw[show cs'=cs.take off++(ds++cs.drop (off+ds.length)) by rw[b3,List.append_assoc]];exact fX.2 ⟨v1,_,A1,F++B1,rfl,rfl,by rw[q1],j7 hz _ _ _ (λk hk=>S k (ae k (by simp[hk]))) q2,
        fX.2 ⟨_,v3,F,B1,rfl,rfl,ac,j7 hz _ _ _ (λk hk=>S k (bi k hk)) f4,j7 hz _ _ _ (λk hk=>S k (ae k (by simp[hk]))) q6⟩⟩
      ·rw[Nat.succ_mul,w3];exact gV hz _ _ _ _ (λk hk=>S k (ae k (by simp[hk]))) a3
      rw[Nat.succ_mul];simp at hbound |-;omega
     have hd:∀k,k∈F->k∉A/\k∉A1/\k∉B1/\k∉B/\k≠b:=λk hk=>by
      have:=b4 k hk;simp only[List.mem_cons,List.mem_append,not_or]at this;exact ⟨this.2.1.1,this.2.1.2.1,this.2.1.2.2.2,this.2.2,this.1⟩
     have b6:=g4;simp only[List.nodup_cons,List.nodup_append,List.mem_append,not_or]at b6 |-;obtain ⟨⟨⟨n1,n2,n3,n4⟩,n5⟩,⟨⟨n6,⟨n7,⟨n8,n9,cp⟩,bz⟩,b7⟩,c0,an⟩⟩:=b6;refine ⟨⟨⟨n1,n2,λhk=>(hd b hk).2.2.2.2 rfl,n4⟩,n5⟩,⟨n6,⟨n7,⟨f5,n9,λx J y I e=>(hd x J).2.2.1 (e ▸ I)⟩,λx J y I=> ?_⟩,λx J y I=> ?_⟩,c0,λx J y I=> ?_⟩
     ·rcases I with I | I
      ·exact λe=>(hd y I).2.1 (e ▸ J)
      exact bz x J y (.inr I)
     ·rcases I with I | I | I
      ·exact b7 x J y (.inl I)
      ·exact λe=>(hd y I).1 (e ▸ J)
      exact b7 x J y (.inr (.inr I))
     rcases J with J | J | J | J
     ·exact an x (.inl J) y I
     ·exact an x (.inr (.inl J)) y I
     ·exact λe=>(hd x J).2.2.2.1 (e ▸ I)
     exact an x (.inr (.inr (.inr J))) y I)
   exact aZ.skip (a9 a7 hst) r1 r2
  case h_2=>
  split at es
  case h_2=>cases es
  rename_i c1 s2 c3;split at es
  case h_2=>cases es
  rename_i ds b8;split at es
  case h_2=>cases es
  rename_i sz' xs hr;split at es
  case isFalse=>cases es
  rename_i aa;split at es
  case h_2=>cases es
  rename_i e he;split at es
  case isFalse=>cases es
  rename_i c4;split at es
  case h_2=>cases es
  rename_i cs' O;split at es
  case h_2=>cases es
  rename_i e' c5;injection es with es;subst es aa;obtain ⟨Z',f1,f2,f3,f4⟩:=lm np v.cells _ s s2 c1 Z h (Kept.refl _ _ _ _) hcells c3;have ao:fL w Z' ds (a.eval y).cells.toList:=Fh b8 (f4 (by rw[tW b8];simp));have a8:RV (aI w Z' L s2.sto) (.prow r sz n off) (a.eval x):=f3.rv (by intro q hq;simp[AV.refs]at hq;subst hq;simp[hr]) hp;simp only[RV]at a8;obtain ⟨b,_,U,bm,a7⟩:=a8;have V:=f1.obj r _ hr;simp only[RO]at V;obtain ⟨vs,E,bd,hrows⟩:=V.2 b U;obtain ⟨k1,k2,k3⟩:=f_ he;obtain ⟨cs,m1,m2,m3⟩:=fI.1 hrows _ _ k2;have az:=(dA.1 ao).1;obtain ⟨b1,b3⟩:=ju O;have c7:n.toNat*sz.2+sz.2<=xs.length*sz.2:=by rw[<-Nat.succ_mul];exact Nat.mul_le_mul_right _ k3
  have hbound:n.toNat*sz.2+off+(a.eval y).cells.size<=vs.size:=by simp at az;omega
  have hst:=oN (P:=P) hi am E hbound a6;have c6:(xs.set n.toNat e').length=xs.length:=by simp
  have ap:e'.cells.length=sz.2/\fL w Z' e'.cells (cs.take off++(a.eval y).cells.toList++cs.drop (off+(a.eval y).cells.toList.length)):=by
   have q1:fL w Z' cs' (cs.take off++(a.eval y).cells.toList++cs.drop (off+(a.eval y).cells.toList.length)):=by
    obtain ⟨q2,q3⟩:=dA.1 (tr m2);obtain ⟨q4,q5⟩:=dA.1 ao;have e2:lay cs off (a.eval y).cells.toList=some (cs.take off++(a.eval y).cells.toList++cs.drop (off+(a.eval y).cells.toList.length)):=by unfold lay;rw[if_pos (by omega)]
    refine dA.2 ⟨by rw[jY O,jY e2];omega,λj d u hd hu=> ?_⟩;rw[d9 O]at hd;rw[d9 e2]at hu;by_cases b9:off<=j/\j<off+ds.length
    ·rw[if_pos b9]at hd;rw[if_pos (by omega)]at hu;exact q5 _ d u hd hu
    rw[if_neg b9]at hd;rw[if_neg (by omega)]at hu;exact q3 _ d u hd hu
   have q6:e'.cells=cs':=by
    exact nR c5
   rw[q6];exact ⟨by rw[jY O,c4],q1⟩
  obtain ⟨g1,g2⟩:=f1.write (w':=w.setRow b (vs.toList.take (n.toNat*sz.2+off)++(a.eval y).cells.toList++vs.toList.drop (n.toNat*sz.2+off+(a.eval y).cells.toList.length)).toArray) (ob':= .rows sz (xs.set n.toNat e')) np hr U
   rfl rfl rfl (by simp) (λk hk=>setRow_other _ _ _ _ hk) (by
    simp only[b_,setRow_heap w b vs _ sz.1 (0,0) E,E];simp;omega) (λz ys e=>by cases e;exact ⟨_,rfl,c6⟩) (λe=>by cases e) (λhsame hz=>by
    simp only[RO];refine ⟨λe=>(by rw[U]at e;cases e),λb2 a0=> ?_⟩;have:b=b2:=by have:some b=some b2:=U.symm.trans a0;injection this
    subst this;refine ⟨_,setRow_heap w b vs _ sz.1 (0,0) E,by simp;omega,?_⟩;exact Kx E hrows hz k3 m1 m3 (by omega) (by omega) ap.2)
  exact aZ.skip (a9 (by rw[a7]) hst) g1 (f2.trans g2)
 cases es
end
end
section
section
variable {P:Program} {call:dh} {loop:di}
variable {s:St} {a:Act} {w:World} {L:Loc} {Z:Nat->Prop}
def g_ (w:World) (Z:Nat->Prop) (sz:Nat):List D->List Value->Prop
 | [],cs=>cs=[]
 | x::xs,cs=>∃e c2,cs=e++c2/\e.length=sz/\RD w Z x e/\g_ w Z sz xs c2
theorem jv {sz:Nat}:∀{xs:List D} {cs:List Value},g_ w Z sz xs cs->cs.length=xs.length*sz
 | [],cs,h=>by simp only[g_]at h;simp[h]
 | x::xs,cs,h=>by
  simp only[g_]at h;obtain ⟨E,c2,rfl,e,_,j⟩:=h;simp[e,jv j,Nat.succ_mul,Nat.add_comm]
theorem oO {sz:Nat}:∀{xs ys:List D} {cs ds:List Value},g_ w Z sz xs cs->g_ w Z sz ys ds->g_ w Z sz (xs++ys) (cs++ds)
 | [],ys,cs,ds,h,k=>by simp only[g_]at h;subst h;simpa using k
 | x::xs,ys,cs,ds,h,k=>by
  simp only[g_]at h;obtain ⟨e,c2,rfl,j,E,h3⟩:=h;simp only[List.cons_append,g_];exact ⟨e,c2++ds,by simp,j,E,oO h3 k⟩
theorem qm {w':World} {Z':Nat->Prop} (e:ko w w' Z Z') {sz:Nat}:∀{xs:List D} {cs:List Value},g_ w Z sz xs cs->g_ w' Z' sz xs cs
 | [],cs,h=>by simpa only [g_]using h
 | x::xs,cs,h=>by
  simp only[g_]at h |-;obtain ⟨j,c2,E,I,J,h3⟩:=h;exact ⟨j,c2,E,I,dx e x _ J,qm e h3⟩
theorem wE {sz:Nat}:∀{xs:List D} {cs:List Value},g_ w Z sz xs cs->∀v∈cs,v.oneCell'=true
 | [],cs,h,v,e=>by simp only[g_]at h;subst h;cases e
 | x::xs,cs,h,v,e=>by
  simp only[g_]at h;obtain ⟨J,c2,rfl,M,E,h3⟩:=h;rcases List.mem_append.1 e with e | e
  ·obtain ⟨I,k2⟩:=dA.1 (tr E);obtain ⟨i,hi⟩:=List.getElem?_of_mem e;have j:i<x.cells.length:=by rw[I];exact (ax.1 hi).1
   exact Kw (k2 i _ v (bA j) hi)
  exact wE h3 v e
theorem tX {b sz:Nat}:∀{xs:List D} {o:Nat},Rows w Z xs b o sz->∃cs,g_ w Z sz xs cs/\∀j v,cs[j]? =some v->w.cell? ⟨b,o+j,none⟩=some v
 | [],o,_=>⟨[],by simp only[g_],by simp⟩
 | x::xs,o,h=>by
  simp only[Rows]at h;obtain ⟨⟨E,I,J,h3⟩,h4⟩:=h;obtain ⟨c2,M,O⟩:=tX h4;refine ⟨E++c2,by simp only[g_];exact ⟨E,c2,rfl,I,J,M⟩,λj v e=> ?_⟩;rw[List.getElem?_append]at e;split at e
  ·exact h3 j v e
  have:=O _ v e;rw[show o+sz+(j-E.length)=o+j by omega]at this;exact this
theorem qo {b sz:Nat}:∀{xs:List D} {o:Nat} {cs:List Value},g_ w Z sz xs cs->(∀j v,cs[j]? =some v->w.cell? ⟨b,o+j,none⟩=some v)->Rows w Z xs b o sz
 | [],o,cs,_,_=>by simp only[Rows]
 | x::xs,o,cs,h,hc=>by
  simp only[g_]at h;obtain ⟨I,c2,rfl,E,J,h3⟩:=h;simp only[Rows];refine ⟨⟨I,E,J,λj v e=>hc j v ?_⟩,qo h3 λj v e=> ?_⟩
  ·rw[List.getElem?_append_left (ax.1 e).1];exact e
  have:=hc (sz+j) v (by rw[List.getElem?_append_right (by omega),E];simpa using e);rw[show o+(sz+j)=o+sz+j by omega]at this;exact this
theorem iF {sz:Nat} {x:D} {cs:List Value} (h:RD w Z x cs) (hl:cs.length=sz):∀n,g_ w Z sz (List.replicate n x) (List.replicate n cs).flatten
 | 0=>by simp only[List.replicate,List.flatten_nil,g_]
 | n+1=>by
  simp only[List.replicate_succ,List.flatten_cons,g_];exact ⟨cs,_,rfl,hl,h,iF h hl n⟩
theorem uV {np t:Nat} {s':St} {w':World} {e sz:Nat} {xs:List D} {cells:Array Value} {cs:List Value} (h:RS s a w L Z) (hl:s.lay t [some (.rows (e,sz) xs)]=some s') (ht:t<np)
  (V:w'.heap=w.heap.push (.cells cells e)) (a0:w'.os=w.os) (a1:w'.tape=w.tape) (a3:w'.output=w.output)
  (J:g_ w Z sz xs cs) (M:∀(j:Nat) (v:Value),cs[j]? =some v->cells[j]? =some v) (O:xs.length*sz<=cells.size):
  ∃L',RS s' a w' L' Z/\Tr np s.sto s'.sto w w' L L' Z Z/\L' (t,0)=some w.heap.size/\s'.sto.get (t,0)=some (.rows (e,sz) xs)/\b_ w' w.heap.size=cells.size:=by
 have E:w'.heap[w.heap.size]? =some (.cells cells e):=by rw[V];simp
 obtain ⟨L',I,S,h3,_,_⟩:=D2 (w':=w') (o:= .cells cells e) h hl ht V a0 a1 a3 (λc I S h3 h4 h5=>by
  simp only[RO];refine ⟨λk=>(by rw[h3]at k;cases k),λb hb=> ?_⟩;have:w.heap.size=b:=by have:some w.heap.size=some b:=h3.symm.trans hb;injection this
  subst this;refine ⟨cells,by rw[I];exact E,O,?_⟩;refine qo (qm (w:=w) (Z:=Z) (by rw[I,S]at*;exact h5) J) λj v hj=> ?_
  rw[I];simp only[World.cell?,E,Nat.zero_add];simpa using M j v hj)
 refine ⟨L',I,S,h3,?_,by simp[b_,E]⟩;have U:=dX (show s.sto.lay t [some (.rows (e,sz) xs)]=some s'.sto by
  unfold St.lay at hl;split at hl
  ·rename_i sto e;injection hl with hl;subst hl;exact e
  cases hl) (t,0)
 rw[U];simp
theorem qM {c:Cx}:∀{vs:List Value} {as:List AV} {ds:List D},eF vs as=true->dZ as=some ds->fL c.w c.Z ds vs
 | [],[],ds,_,e=>by simp only[dZ]at e;injection e with e;subst e;simp only[fL]
 | v::vs,x::as,ds,h,e=>by
  simp only[eF,af]at h;have j:=oL (c:=c) h.1;cases x with
  | d y=>
   simp only[dZ]at e;split at e
   ·rename_i ys E;injection e with e;subst e;simp only[RV]at j;simp only[fL];exact ⟨v,vs,rfl,j,qM h.2 E⟩
   cases e
  | emp=>
   simp only[dZ]at e;split at e
   ·rename_i ys E;injection e with e;subst e;simp only[RV]at j;obtain ⟨A,j⟩:=j;simp only[fL];refine ⟨v,vs,rfl,?_,qM h.2 E⟩;simp only[RD];exact ⟨A,0,by rw[j];rfl,Nat.le_refl _,.inl trivial⟩
   cases e
  | _=>simp[dZ]at e
 | [],_::_,_,h,_=>by simp[eF]at h
 | _::_,[],_,h,_=>by simp[eF]at h
theorem wF {n:Int} (e:0<=n) (E:n<=9223372036854775807):IntKind.i64.wrap n=n:=by
 have j:n%(18446744073709551616:Int)=n:=Int.emod_eq_of_lt e (by omega);show (if (true&&decide (n%(18446744073709551616:Int)>=(9223372036854775808:Int)))=true then n%(18446744073709551616:Int)-(18446744073709551616:Int)else n%(18446744073709551616:Int))=n;rw[j];rw[if_neg (by simp;omega)]
theorem range_zero (z:Array Value) (n:Nat) (J:0<z.size):((Array.range (n*z.size)).map (λi=>z[i%z.size]!)).toList=(List.replicate n z.toList).flatten:=by
 induction n with
 | zero=>simp
 | succ n I=>
  rw[List.replicate_succ',List.flatten_append,<-I];apply List.ext_getElem?;intro j;simp only[Array.toList_map,Array.toList_range,List.getElem?_map,List.flatten_cons,List.flatten_nil,List.append_nil,List.getElem?_append,List.length_map,List.length_range,Array.length_toList];by_cases E:j<n*z.size
  ·have e:j<(n+1)*z.size:=by rw[Nat.succ_mul];omega
   simp[E,e]
  by_cases e:j<(n+1)*z.size
  ·have h3:j-n*z.size<z.size:=by rw[Nat.succ_mul]at e;omega
   have h4:j%z.size=j-n*z.size:=by
    rw[show j=(j-n*z.size)+n*z.size by omega,Nat.add_mul_mod_self_right,Nat.mod_eq_of_lt h3];omega
   simp[E,e,h4,h3]
  have h3:¬j-n*z.size<z.size:=by rw[Nat.succ_mul]at e;omega
  simp[E,e,h3]
theorem zf {np t:Nat} {s':St} {o:Oper} {ty e:TypeId} {i:TypeInfo} {z:Value} {x y:Operand} {x' y':VX} {agg:Bool} {zero:List AV} {ds:List D} {zd:D} {k k':IntKind} {l c:Int}
  (h:RS s a w L Z) (ho:o.op= .makeSlice ty x y) (hx:dr x x'=true) (hy:dr y y'=true) (hu:P.underlying ty=some (.slice e)) (hi:P.info? e=some i) (hz:i.zero=some z) (E:z.cells.size=i.size) (a1:0<i.size)
  (S:eF z.cells.toList zero=true) (U:dZ zero=some ds) (V:D.bS agg ds=some zd) (e1:ev s.env x'=some (.d (.int k l))) (e2:ev s.env y'=some (.d (.int k' c)))
  (M:(real call loop).cmp .eql l c=true) (I:(real call loop).fP i.bytes c=true) (ht:t<np)
  (hl:s.lay t [some (.rows (e,i.size) ((real call loop).rm c zd))]=some s'):aZ P np o s a w L Z (.arr (t,0) (e,i.size) none true) s':=by
 have h1:=aO h hx e1;have h2:=aO h hy e2;simp only[RV,RD,List.cons.injEq,and_true]at h1 h2;simp only[real,aM.cmp,rV,beq_iff_eq]at M;subst M;simp only[real,aM.fP]at I;obtain ⟨f1,f2,f3⟩:=of_decide_eq_true I;have hw:=wF f1 f3;have O:g_ w Z i.size ((real call loop).rm l zd) (List.replicate l.toNat z.cells.toList).flatten:=by
  have a0:RD w Z zd z.cells.toList:=by
   apply kg;rw[nR V];exact qM (c:=⟨w,Z,L,s.sto.get⟩) S U
  exact iF a0 (by simp[E]) l.toNat
 have J:((real call loop).rm l zd).length=l.toNat:=by simp[real,aM.rm]
 have hcells:=range_zero z.cells l.toNat (by omega);obtain ⟨L',k1,k2,k3,k4,k5⟩:=uV (cells:=(Array.range (l.toNat*z.cells.size)).map (λj=>z.cells[j%z.cells.size]!)) (w':={ w with heap:=w.heap.push (.cells ((Array.range (l.toNat*z.cells.size)).map (λj=>z.cells[j%z.cells.size]!)) e) }) h hl ht rfl rfl rfl rfl O
  (λj v hj=>by rw[<-hcells]at hj;rw[<-Array.getElem?_toList];exact hj) (by simp[J,E])
 have hb:¬((i.bytes:Int)*l>281474976710656):=by
  have:(i.bytes:Int)*l=l*i.bytes:=Int.mul_comm _ _;omega
 refine aZ.value (u:= .slice (some ⟨w.heap.size,0,none⟩) l.toNat l.toNat) (eJ (m:=Instr.makeSlice ty (a.eval x) (a.eval y)) (by unfold execOp;rw[ho]) ?_) k1 k2 ?_
 ·rw[h1,h2];have:=run_make (P:=P) w ty e i z hu hi hz k k' l l f1 (Int.le_refl _) (by omega) f3;rw[this];simp only[World.alloc,madeCells,E]
 simp only[RV];refine ⟨_,l.toNat,l.toNat,_,rfl,⟨Nat.le_refl _,by unfold maxLen;omega⟩,λ_=>rfl,yX k4,λ_=>J.symm,λx m e=>(by cases e),λe=>(by rw[k3]at e;cases e),λb hb=> ?_⟩;have:w.heap.size=b:=by have:some w.heap.size=some b:=k3.symm.trans hb;injection this
 subst this;right;refine ⟨by simp[br],?_⟩;rw[k5];simp[br,E]
end
end
end Go.Vi
