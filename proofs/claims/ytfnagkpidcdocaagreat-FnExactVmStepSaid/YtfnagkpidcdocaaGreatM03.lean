import Derived.Test.YtfnagkpidcdocaaGreatM02
import Derived.Laws.MakeOwn
set_option linter.all false
namespace Go.Vi
open Go Go.RowKit
def sw:TypeDesc->Bool
 | .struct _=>true
 | .array _ _=>true
 | _=>false
theorem nO {P:Program} {t:TypeId} {d:TypeDesc} (hd:P.underlying t=some d) (w:World):(isAgg t).run P w= .ok (sw d) w:=by
 unfold isAgg;rw[Sem.run_bind,run_underlying hd];cases d<;>rfl
section
variable {P:Program} {call:cM} {loop:cN}
variable {s:St} {a:Act} {w:World} {L:Loc} {Z:Nat->Prop}
theorem add_plain (b o n:Nat):(⟨b,o,none⟩:Addr).add n=⟨b,o+n,none⟩:=by
 unfold Addr.add;split
 ·rename_i h;subst h;rfl
 ·rfl
theorem GW (np:Nat) (h:RS s a w L Z) {o:Oper} {t:TypeId} {x:Operand} {x':VX} (ho:o.op= .unOp .neg t x) (hx:cR x x'=true) {k:IntKind} {n:Int}
  (e:ev s.env x'=some (.d (.int k n))):aV P np o s a w L Z (.d (.int k (Ei .sub k 0 n))) s:=by
 have h1:=aL h hx e;simp only[RV,RD,List.cons.injEq,and_true]at h1;refine aV.pure h (eE (m:=Op.unary .neg (a.eval x)) (by unfold execOp;rw[ho]) (by rw[h1];rfl)) (by simp only[RV,RD,Ei])
theorem GX (np:Nat) (h:RS s a w L Z) {o:Oper} {t:TypeId} {x:Operand} {x':VX} (ho:o.op= .unOp .not t x) (hx:cR x x'=true) {b:Bool}
  (e:ev s.env x'=some (.d (.bool b))):aV P np o s a w L Z (.d (.bool (!b))) s:=by
 have h1:=aL h hx e;simp only[RV,RD,List.cons.injEq,and_true]at h1;refine aV.pure h (eE (m:=Op.unary .not (a.eval x)) (by unfold execOp;rw[ho]) (by rw[h1];rfl)) (by simp only[RV,RD])
theorem zJ (np:Nat) (h:RS s a w L Z) {o:Oper} {t t':TypeId} {x:Operand} {x':VX} (ho:o.op= .convert t t' x) (hx:cR x x'=true) {k k':IntKind} {n:Int}
  (h2:∃j,P.underlying t=some (.int j)) (h3:P.underlying t'=some (.int k'))
  (e:ev s.env x'=some (.d (.int k n))):aV P np o s a w L Z (.d (.int k' (k'.wrap n))) s:=by
 have h1:=aL h hx e;simp only[RV,RD,List.cons.injEq,and_true]at h1;obtain ⟨j,h2⟩:=h2;refine aV.pure h (eE (m:=convert t t' (a.eval x)) (by unfold execOp;rw[ho]) (u:= .int k' (k'.wrap n)) ?_) (by simp only[RV,RD]);rw[h1];simp[convert,run_underlying h2,run_underlying h3,Conv.intToInt]
theorem zK (np:Nat) (h:RS s a w L Z) {o:Oper} {t t':TypeId} {x:Operand} {x':VX} (ho:o.op= .convert t t' x) (hx:cR x x'=true) {n:ByteArray}
  (h2:P.underlying t=some .string) (h3:P.underlying t'=some .string)
  (e:ev s.env x'=some (.d (.str n))):aV P np o s a w L Z (.d (.str n)) s:=by
 have h1:=aL h hx e;simp only[RV,RD,List.cons.injEq,and_true]at h1;refine aV.pure h (eE (m:=convert t t' (a.eval x)) (by unfold execOp;rw[ho]) (u:= .string n) ?_) (by simp only[RV,RD]);rw[h1];simp[convert,run_underlying h2,run_underlying h3]
theorem Ek (np:Nat) (h:RS s a w L Z) {o:Oper} {f:FuncId} {xs:Array Operand} {xs':List VX} (ho:o.op= .makeFunc (.func (wS f)) #[] xs) (hx:ux xs.toList xs'=true) {ys:List AV}
  (e:wT s.env xs'=some ys):aV P np o s a w L Z (.fn f ys) s:=by
 have h1:=pU h hx e;refine aV.pure h (eE (m:=Instr.makeFunc (.func (wS f)) (#[].map a.eval) (xs.map a.eval)) (u:= .func (.func (wS f)) #[] (xs.map a.eval)) (by unfold execOp;rw[ho]) (by simp[Instr.makeFunc])) ?_;simp only[RV];exact ⟨_,by rw[<-Array.toList_map],h1⟩
theorem wO {f:Field} {i:TypeInfo} (hi:P.info? f.type=some i) (hs:i.size≠0) (b o:Nat):(fieldPlace ⟨b,o,none⟩ f).run P w= .ok ⟨b,o+f.offset,none⟩ w:=by
 simp[fieldPlace,sizeOf,typeInfo,hi,hs,add_plain]
theorem wP (np:Nat) (h:RS s a w L Z) {o:Oper} {t:TypeId} {x:Operand} {x':VX} {f:Nat} {fs:Array Field} {fd:Field} {i:TypeInfo} (ho:o.op= .fieldAddr t x f) (hx:cR x x'=true)
  (hu:P.underlying t=some (.struct fs)) (hf:fs[f]? =some fd) (hi:P.info? fd.type=some i) (hs:i.size≠0) {u r:AV} (e:ev s.env x'=some u)
  (er:(match u with | .ptr q k=>some (AV.ptr q (k+fd.offset)) | .prow q z j n=>some (.prow q z j (n+fd.offset)) | .sp cs k=>some (.sp cs (k+fd.offset)) | _=>none)=some r):
  aV P np o s a w L Z r s:=by
 have h1:=aL h hx e;have hrun:∀b k,a.eval x= .pointer (some ⟨b,k,none⟩)->(execOp a.eval o).run P w= .ok (.value (.pointer (some ⟨b,k+fd.offset,none⟩))) w:=by
  intro b k hp;refine eE (m:=Instr.fieldAt t (a.eval x) f) (by unfold execOp;rw[ho]) ?_;rw[hp];simp[Instr.fieldAt,run_underlying hu,hf,Instr.sureAddr,wO hi hs]
 split at er
 ·injection er with er;subst er;simp only[RV]at h1;obtain ⟨b,k1,k2,k3⟩:=h1;exact aV.pure h (hrun _ _ k3) (by simp only[RV];exact ⟨b,k1,k2,rfl⟩)
 ·injection er with er;subst er;simp only[RV]at h1;obtain ⟨b,k1,k2,k3,k4⟩:=h1;exact aV.pure h (hrun _ _ k4) (by simp only[RV];exact ⟨b,k1,k2,k3,by rw[Nat.add_assoc]⟩)
 ·injection er with er;subst er;simp only[RV]at h1;obtain ⟨b,k,vs,k1,k2,k3,k4⟩:=h1;exact aV.pure h (hrun _ _ k1) (by simp only[RV];exact ⟨b,k,vs,by rw[Nat.add_assoc],k2,k3,k4⟩)
 ·cases er
theorem mR {α:Type} {l r:List α} {off n:Nat} (e:cut l off n=some r):off+n<=l.length/\r=(l.drop off).take n:=by
 unfold cut at e;split at e
 ·injection e with e;exact ⟨by assumption,e.symm⟩
 ·cases e
theorem Dw {α:Type} {l r:List α} {off n:Nat} (e:cut l off n=some r) {i:Nat} {x:α} (hx:r[i]? =some x):l[off+i]? =some x:=by
 obtain ⟨_,rfl⟩:=mR e;rw[List.getElem?_take]at hx;split at hx
 ·rwa [List.getElem?_drop]at hx
 ·cases hx
theorem zL {α:Type} {l r:List α} {off n:Nat} (e:cut l off n=some r):r.length=n:=by
 obtain ⟨h,rfl⟩:=mR e;simp;omega
theorem Dx {c:Cx} {as bs:List AV} {vs:List Value} (h:di c as vs) {off n:Nat} (e:cut as off n=some bs):di c bs ((vs.drop off).take n):=by
 rw[bF]at h |-;obtain ⟨h1,h2⟩:=h;obtain ⟨h3,h4⟩:=mR e;refine ⟨by rw[zL e];simp;omega,λi x v hx hv=> ?_⟩;have k1:=Dw e hx;rw[List.getElem?_take]at hv;split at hv
 ·rw[List.getElem?_drop]at hv;exact h2 _ x v k1 hv
 ·cases hv
theorem pz {t:TypeId} {i:TypeInfo} {d:TypeDesc} (hi:P.info? t=some i) (hd:P.underlying t=some d) {b o:Nat} {vs:List Value} (hl:vs.length=i.size)
  (hc:∀j v,vs[j]? =some v->w.cell? ⟨b,o+j,none⟩=some v):
  sw d=true/\(loadVar t ⟨b,o,none⟩).run P w= .ok (.agg vs.toArray) w\/
  sw d=false/\∀v,vs=[v]->(loadVar t ⟨b,o,none⟩).run P w= .ok v w:=by
 have hcells:(loadCells ⟨b,o,none⟩ vs.length).run P w= .ok vs.toArray w:=run_loadCells_list w _ vs λj v hj=>by rw[add_plain];exact hc j v hj
 cases hq:sw d with
 | true=>
  left;refine ⟨rfl,?_⟩;have hagg:(isAgg t).run P w= .ok true w:=by rw[nO hd,hq]
  simp[loadVar,hagg,sizeOf,typeInfo,hi,<-hl,hcells]
 | false=>
  right;refine ⟨rfl,λv hv=> ?_⟩;subst hv;have hagg:(isAgg t).run P w= .ok false w:=by rw[nO hd,hq]
  have h0:=hc 0 v rfl;simp at h0;simp[loadVar,hagg,h0]
theorem zM (
      hobj:∀r ob,s.sto.get r=some ob->RO (aH w Z L s.sto) r ob) {agg:Bool} {n:Nat} {p x:AV} {v:Value} (hv:RV (aH w Z L s.sto) p v) (e:loadAt (real call loop) s.sto agg n p=some x):
  ∃b o cs vs,v= .pointer (some ⟨b,o,none⟩)/\AV.bJ agg cs=some x/\vs.length=n/\di (aH w Z L s.sto) cs vs/\∀j u,vs[j]? =some u->w.cell? ⟨b,o+j,none⟩=some u:=by
 have dl:∀{ds:List D} {vs:List Value},fk w Z ds vs->di (aH w Z L s.sto) (ds.map .d) vs:=by
  intro ds vs h;rw[bF];obtain ⟨h1,h2⟩:=eC.1 h;refine ⟨by simpa using h1,λi a u ha hu=> ?_⟩;rw[List.getElem?_map]at ha;cases hd:ds[i]? with
  | none=>simp[hd]at ha
  | some d=>simp[hd]at ha;subst ha;simp only[RV];exact h2 i d u hd hu
 have dcut:∀{ds es:List D} {vs:List Value} {off:Nat},fk w Z ds vs->cut ds off n=some es->fk w Z es ((vs.drop off).take n)/\((vs.drop off).take n).length=n:=by
  intro ds es vs off h hc;obtain ⟨h1,h2⟩:=eC.1 h;obtain ⟨h3,h4⟩:=mR hc;refine ⟨eC.2 ⟨by rw[zL hc];simp;omega,λi d u hd hu=> ?_⟩,by simp;omega⟩;have k1:=Dw hc hd;rw[List.getElem?_take]at hu;split at hu
  ·rw[List.getElem?_drop]at hu;exact h2 _ d u k1 hu
  ·cases hu
 have tk:∀{vs:List Value} {off j:Nat} {u:Value},((vs.drop off).take n)[j]? =some u->vs[off+j]? =some u:=by
  intro vs off j u hu;rw[List.getElem?_take]at hu;split at hu
  ·rwa [List.getElem?_drop]at hu
  ·cases hu
 unfold loadAt at e;split at e
 ·rename_i r off;split at e
  case h_2=>cases e
  case h_1 cs hr=>
   split at e
   case h_2=>cases e
   case h_1 cs' hc=>
    have h1:=hobj r _ hr;simp only[RO]at h1;obtain ⟨b,vs,ty,h2,h3,h4⟩:=h1;simp only[RV]at hv;obtain ⟨b',_,h5,h6⟩:=hv;have hb:b'=b:=by
     have:some b'=some b:=h5.symm.trans h2;injection this
    subst hb;refine ⟨b',off,cs',(vs.toList.drop off).take n,h6,e,?_,Dx h4 hc,λj u hu=> ?_⟩
    ·have:=(bF.1 h4).1;obtain ⟨k1,_⟩:=mR hc;simp at this |-;omega
    ·have:=tk hu;simp only[World.cell?,h3];simpa using this
 ·rename_i r sz i off;split at e
  case h_2=>cases e
  case h_1 sz' xs hr=>
   split at e
   case isFalse=>cases e
   case isTrue hsz=>
    split at e
    case h_2=>cases e
    case h_1 x' hx=>
     split at e
     case isFalse=>cases e
     case isTrue hlen=>
      split at e
      case h_2=>cases e
      case h_1 cs' hc=>
       subst hsz;have h1:=Ou hobj hr;simp only[RV]at hv;obtain ⟨b,_,h5,h6,h7⟩:=hv;obtain ⟨vs,h8,h9,h10⟩:=h1.2 b h5;simp only[real,aJ.dD,zE]at hx;rw[if_pos h6]at hx;obtain ⟨cs,k1,k2,k3⟩:=eW.1 h10 _ _ hx;obtain ⟨k4,k5⟩:=dcut (rN k2) hc;refine ⟨b,i.toNat*sz.2+off,cs'.map .d,(cs.drop off).take n,h7,e,k5,dl k4,λj u hu=> ?_⟩;have:=k3 (off+j) u (tk hu);rw[Nat.zero_add]at this;rw[Nat.add_assoc];exact this
 ·rename_i cs off;split at e
  case h_2=>cases e
  case h_1 cs' hc=>
   simp only[RV]at hv;obtain ⟨b,k,vs,h1,h2,h3,h4⟩:=hv;obtain ⟨k4,k5⟩:=dcut h3 hc;refine ⟨b,k+off,cs'.map .d,(vs.drop off).take n,h1,e,k5,dl k4,λj u hu=> ?_⟩;rw[Nat.add_assoc];exact h4 (off+j) u (tk hu)
 ·cases e
theorem qj {cs:List AV} {x:AV} (h:AV.bJ false cs=some x):cs=[x]:=by
 cases cs with
 | nil=>simp[AV.bJ]at h
 | cons y l=>cases l with
  | nil=>simp[AV.bJ]at h;rw[h]
  | cons z l=>simp[AV.bJ]at h
theorem sx (hobj:∀r ob,s.sto.get r=some ob->RO (aH w Z L s.sto) r ob) {t:TypeId} {i:TypeInfo} {d:TypeDesc} (hi:P.info? t=some i) (hd:P.underlying t=some d) {agg:Bool} (hagg:agg=sw d)
  {p x:AV} {v:Value} (hv:RV (aH w Z L s.sto) p v) (e:loadAt (real call loop) s.sto agg i.size p=some x):
  ∃ad u,v= .pointer (some ad)/\(loadVar t ad).run P w= .ok u w/\RV (aH w Z L s.sto) x u:=by
 obtain ⟨b,o,cs,vs,h1,h2,h3,h4,h5⟩:=zM hobj hv e;rcases pz (w:=w) hi hd h3 h5 with ⟨k1,k2⟩ | ⟨k1,k2⟩
 ·rw[<-hagg]at k1;subst k1;simp only[AV.bJ]at h2;injection h2 with h2;subst h2;exact ⟨_,_,h1,k2,by simp only[RV];exact ⟨vs,rfl,h4⟩⟩
 ·rw[<-hagg]at k1;subst k1;have h2':=qj h2;subst h2';simp only[di]at h4;obtain ⟨v',vs',m1,m2,m3⟩:=h4;subst m3;exact ⟨_,v',h1,k2 v' m1,m2⟩
theorem tG (np:Nat) (h:RS s a w L Z) {o:Oper} {t:TypeId} {i:TypeInfo} {d:TypeDesc} {x:Operand} {x':VX} {agg:Bool} (ho:o.op= .load t x) (hx:cR x x'=true) (hi:P.info? t=some i) (hd:P.underlying t=some d)
  (hagg:agg=sw d) {p r:AV} (e:ev s.env x'=some p) (er:loadAt (real call loop) s.sto agg i.size p=some r):aV P np o s a w L Z r s:=by
 obtain ⟨ad,u,h1,h2,h3⟩:=sx (P:=P) h.obj hi hd hagg (aL h hx e) er;refine aV.pure h (eE (m:=Instr.loadAt t (a.eval x)) (by unfold execOp;rw[ho]) (u:=u) ?_) h3;rw[h1];simp[Instr.loadAt,Instr.sureAddr,h2]
theorem zN (np:Nat) (h:RS s a w L Z) {o:Oper} {x:Operand} {x':VX} {i:Nat} (ho:o.op= .extract x i) (hx:cR x x'=true) {vs:List AV} {r:AV}
  (e:ev s.env x'=some (.tup vs)) (er:vs[i]? =some r):aV P np o s a w L Z r s:=by
 have h1:=aL h hx e;simp only[RV]at h1;obtain ⟨us,h2,h3⟩:=h1;obtain ⟨h4,h5⟩:=bF.1 h3;have hlt:i<us.length:=by rw[<-h4];exact (aq.1 er).1
 refine aV.pure h (eE (m:=Instr.extract (a.eval x) i) (by unfold execOp;rw[ho]) (u:=us[i]) ?_) (h5 i r _ er (bg hlt));rw[h2];simp[Instr.extract,hlt]
theorem Cj (np:Nat) (h:RS s a w L Z) {o:Oper} {t:TypeId} {x:Operand} {x':VX} {f:Nat} {fs:Array Field} {fd:Field} {i:TypeInfo} {d:TypeDesc} {agg:Bool} (ho:o.op= .field t x f) (hx:cR x x'=true)
  (hu:P.underlying t=some (.struct fs)) (hf:fs[f]? =some fd) (hi:P.info? fd.type=some i) (hd:P.underlying fd.type=some d) (hagg:agg=sw d)
  {cs cs':List AV} {r:AV} (e:ev s.env x'=some (.agg cs)) (ec:cut cs fd.offset i.size=some cs') (er:AV.bJ agg cs'=some r):aV P np o s a w L Z r s:=by
 have h1:=aL h hx e;simp only[RV]at h1;obtain ⟨vs,h2,h3⟩:=h1;have h4:=Dx h3 ec;have hlen:=(bF.1 h3).1;obtain ⟨k1,_⟩:=mR ec;have hrun:∀{u:Value},(part fd.type vs.toArray fd.offset).run P w= .ok u w->(execOp a.eval o).run P w= .ok (.value u) w:=by
  intro u hu';refine eE (m:=Instr.field t (a.eval x) f) (by unfold execOp;rw[ho]) ?_;rw[h2];simp[Instr.field,run_underlying hu,hf,asAgg,hu']
 cases agg with
 | true=>
  have hagg':(isAgg fd.type).run P w= .ok true w:=by rw[nO hd,<-hagg]
  simp only[AV.bJ]at er;injection er with er;subst er;refine aV.pure h (hrun (u:= .agg ((vs.drop fd.offset).take i.size).toArray) ?_) (by simp only[RV];exact ⟨_,rfl,h4⟩);simp[part,hagg',sizeOf,typeInfo,hi]
 | false=>
  have hagg':(isAgg fd.type).run P w= .ok false w:=by rw[nO hd,<-hagg]
  have er':=qj er;subst er';have hn:=zL ec;simp at hn;simp only[di]at h4;obtain ⟨v',vs',m1,m2,m3⟩:=h4;have hv:vs[fd.offset]? =some v':=by
   have:((vs.drop fd.offset).take i.size)[0]? =some v':=by rw[m1];rfl
   rw[<-hn]at this;simpa using this
  refine aV.pure h (hrun (u:=v') ?_) m2;simp[part,hagg',hv]
end
section
section
variable {P:Program} {call:cM} {loop:cN}
variable {s:St} {a:Act} {w:World} {L:Loc} {Z:Nat->Prop}
theorem dA {xs:List D} {i:Int} {e:D} (h:(real call loop).dD xs i=some e):0<=i/\xs[i.toNat]? =some e/\i.toNat<xs.length:=by
 simp only[real,aJ.dD,zE]at h;split at h
 ·rename_i h0;exact ⟨h0,h,(aq.1 h).1⟩
 ·cases h
theorem uj {t e:TypeId} {i:TypeInfo} (hu:P.underlying t=some (.slice e)) (hi:P.info? e=some i) {k:IntKind} {n:Int} {b o len cap:Nat} (h0:0<=n) (h1:n.toNat<len):
  (Instr.indexAt t (.slice (some ⟨b,o,none⟩) len cap) (.int k n)).run P w= .ok (.pointer (some ⟨b,o+n.toNat*i.size,none⟩)) w:=by
 have h2:0<=n/\n<(len:Int):=by omega
 simp[Instr.indexAt,asIntOf,run_underlying hu,h2,sizeOf,typeInfo,hi,add_plain]
theorem uy (np:Nat) (h:RS s a w L Z) {o:Oper} {t e:TypeId} {i:TypeInfo} {x y:Operand} {x' y':VX} (ho:o.op= .indexAddr t x y) (hx:cR x x'=true) (hy:cR y y'=true)
  (hu:P.underlying t=some (.slice e)) (hi:P.info? e=some i) {xs:List D} {k:IntKind} {n:Int} {d:D} (e1:ev s.env x'=some (.d (.lst xs))) (e2:ev s.env y'=some (.d (.int k n)))
  (ed:(real call loop).dD xs n=some d) (hlen:d.cells.length=i.size):aV P np o s a w L Z (.sp d.cells 0) s:=by
 have h1:=aL h hx e1;have h2:=aL h hy e2;simp only[RV,RD,List.cons.injEq,and_true]at h1 h2;obtain ⟨A,c,h3,h4,h5⟩:=h1;obtain ⟨k1,k2,k3⟩:=dA ed;rcases h5 with h5 | ⟨b,off,sz,h6,h7,h8⟩
 ·subst h5;simp at k2
 ·subst h6;obtain ⟨cs,m1,m2,m3⟩:=eW.1 h8 _ _ k2;have hsz:sz=i.size:=by rw[<-m1,yY m2,hlen]
  refine aV.pure h (eE (m:=Instr.indexAt t (a.eval x) (a.eval y)) (by unfold execOp;rw[ho]) (u:= .pointer (some ⟨b,off+n.toNat*i.size,none⟩)) ?_) ?_
  ·rw[h3,h2];exact uj hu hi k1 k3
  ·simp only[RV];exact ⟨b,off+n.toNat*i.size,cs,rfl,h7,rN m2,λj u hj=>by rw[<-hsz];exact m3 j u hj⟩
theorem nX (
      np:Nat) (h:RS s a w L Z) {o:Oper} {t e:TypeId} {i:TypeInfo} {x y:Operand} {x' y':VX} (ho:o.op= .indexAddr t x y) (hx:cR x x'=true) (hy:cR y y'=true)
  (hu:P.underlying t=some (.slice e)) (hi:P.info? e=some i) {r:Id} {g:Option (Int×Int)} {u:Bool} {xs:List D} {k:IntKind} {n:Int} {d:D} (e1:ev s.env x'=some (.arr r (e,i.size) g u)) (e2:ev s.env y'=some (.d (.int k n)))
  (ec:eV (real call loop) s.sto (.arr r (e,i.size) g u)=some xs) (ed:(real call loop).dD xs n=some d):aV P np o s a w L Z (.prow r (e,i.size) (match g with | none=>n | some (a,_)=>a+n) 0) s:=by
 have h1:=aL h hx e1;have h2:=aL h hy e2;have h1':=h1;simp only[RD,List.cons.injEq,and_true,RV]at h2;obtain ⟨A,cap,h3⟩:=ld h.obj h1 ec;simp only[RV]at h1';obtain ⟨a',n',cap',ys,m1,m2,_,m4,m5,m6,m7,m8⟩:=h1';obtain ⟨k1,k2,k3⟩:=dA ed;rw[h3]at m1;injection m1 with q1 q2 q3;cases hL:L r with
 | none=>have:=m7 hL;omega
 | some b=>
  rcases m8 b hL with ⟨z1,_⟩ | ⟨z1,_⟩
  ·omega
  ·rw[<-q1]at z1;subst z1;refine aV.pure h (eE (m:=Instr.indexAt t (a.eval x) (a.eval y)) (by unfold execOp;rw[ho]) (u:= .pointer (some ⟨b,bq g*i.size+n.toNat*i.size,none⟩)) ?_) ?_
   ·rw[h3,h2];exact uj hu hi k1 k3
   ·simp only[RV];refine ⟨b,by
     cases ho:s.sto.get r with
     | none=>simp[ho]at m4
     | some _=>rfl,hL,?_,?_⟩
    ·cases g with
     | none=>exact k1
     | some p=>obtain ⟨x0,m0⟩:=p;have:=(m6 x0 m0 rfl).1;simp only;omega
    ·congr 3;cases g with
     | none=>simp[bq]
     | some p=>
      obtain ⟨x0,m0⟩:=p;have:=(m6 x0 m0 rfl).1;simp only[bq];rw[<-Nat.add_mul,show (x0+n).toNat=x0.toNat+n.toNat by omega];rfl
theorem Ck (np:Nat) (h:RS s a w L Z) {o:Oper} {t:TypeId} {x y:Operand} {x' y':VX} (ho:o.op= .index t x y) (hx:cR x x'=true) (hy:cR y y'=true)
  (hu:P.underlying t=some .string) {sv:ByteArray} {k:IntKind} {n m:Int} (e1:ev s.env x'=some (.d (.str sv))) (e2:ev s.env y'=some (.d (.int k n)))
  (ed:(real call loop).yU sv n=some m):aV P np o s a w L Z (.d (.int .u8 m)) s:=by
 have h1:=aL h hx e1;have h2:=aL h hy e2;simp only[RV,RD,List.cons.injEq,and_true]at h1 h2;simp only[real,aJ.yU]at ed;split at ed
 case isFalse=>cases ed
 case isTrue h0=>
  cases hb:sv[n.toNat]? with
  | none=>simp[hb]at ed
  | some c=>
   simp[hb]at ed;refine aV.pure h (eE (m:=Instr.index t (a.eval x) (a.eval y)) (by unfold execOp;rw[ho]) (u:= .int .u8 m) ?_) (by simp only[RV,RD]);rw[h1,h2];simp[Instr.index,asIntOf,run_underlying hu,h0,hb,<-ed]
theorem GY (np:Nat) (h:RS s a w L Z) {o:Oper} {t:TypeId} {x:Operand} {x':VX} (ho:o.op= .call { callee:= .builtin .len,args:= #[x],argTypes:= #[t] }) (hx:cR x x'=true)
  {u r:AV} {Bh:Bool} (e1:ev s.env x'=some u)
  (hu':(Bh=true->P.underlying t=some .string)/\(Bh=false->∃e,P.underlying t=some (.slice e)))
  (er:evalOp (real call loop) s.env s.sto (.len Bh x')=some (r,[])):aV P np o s a w L Z r s:=by
 have h1:=aL h hx e1;have hrun:∀{m:Value},(Builtin.len_ #[t] o.type #[a.eval x]).run P w= .ok m w->(execOp a.eval o).run P w= .ok (.value m) w:=by
  intro m hm;unfold execOp;rw[ho];simp[resolve,invoke,builtin,hm]
 have hsl:∀{A:Option Addr} {n c:Nat},a.eval x= .slice A n c->(∃e,P.underlying t=some (.slice e))->(Builtin.len_ #[t] o.type #[a.eval x]).run P w= .ok (.int .i64 n) w:=by
  rintro A n c hv ⟨e,hu⟩;rw[hv];simp[Builtin.len_,run_underlying hu,goInt]
 simp only[evalOp,e1]at er;split at er
 ·cases er
 rename_i hS;have hu:((∃c,u= .d (.str c))->P.underlying t=some .string)/\((¬∃c,u= .d (.str c))->∃e,P.underlying t=some (.slice e)):=by
  have hS':u.Bh=Bh:=by simpa using hS
  refine ⟨λ⟨c,hc⟩=>hu'.1 (by rw[<-hS',hc];rfl),λhn=>hu'.2 (by
   rw[<-hS'];cases u with
   | d y=>cases y<;>first | rfl | exact (hn ⟨_,rfl⟩).elim
   | _=>rfl)⟩
 cases u with
 | d y=>cases y with
  | str c=>
   simp only at er;injection er with er;injection er with er _;subst er;simp only[RV,RD,List.cons.injEq,and_true]at h1;refine aV.pure h (hrun (m:= .int .i64 c.size) ?_) (by simp only[RV,RD,real,aJ.sLen]);rw[h1];simp[Builtin.len_,run_underlying (hu.1 ⟨_,rfl⟩),goInt]
  | lst xs=>
   simp only at er;injection er with er;injection er with er _;subst er;simp only[RV,RD,List.cons.injEq,and_true]at h1;obtain ⟨A,c,h3,_⟩:=h1;exact aV.pure h (hrun (hsl h3 (hu.2 (by simp)))) (by simp only[RV,RD,real,aJ.len])
  | _=>simp at er
 | emp=>
  simp only at er;injection er with er;injection er with er _;subst er;simp only[RV]at h1;obtain ⟨A,h3⟩:=h1;exact aV.pure h (hrun (hsl h3 (hu.2 (by simp)))) (by simp only[RV,RD];rfl)
 | arr q sz g u'=>
  simp only at er;have h1':=h1;simp only[RV]at h1';obtain ⟨A,n,cap,xs,m1,_,_,m4,m5,m6,_⟩:=h1';split at er
  ·rename_i p m;injection er with er;injection er with er _;subst er;have:=(m6 _ _ rfl).2.1;subst this;exact aV.pure h (hrun (hsl m1 (hu.2 (by simp)))) (by simp only[RV,RD])
  ·split at er
   ·rename_i ys hc;injection er with er;injection er with er _;subst er;obtain ⟨A',cap',k1⟩:=ld h.obj h1 hc;exact aV.pure h (hrun (hsl k1 (hu.2 (by simp)))) (by simp only[RV,RD,real,aJ.len])
   ·cases er
 | _=>simp at er
theorem Bc {np t:Nat} {s':St} {ob:Obj} {o:Go.Obj} {w':World} (h:RS s a w L Z) (hl:s.lay t [some ob]=some s') (ht:t<np) (hw:w'.heap=w.heap.push o) (hos:w'.os=w.os) (htp:w'.tape=w.tape) (hop:w'.output=w.output)
  (hob:∀c:Cx,c.w=w'->c.Z=Z->c.L (t,0)=some w.heap.size->(∀q,(s.sto.get q).isSome->Same (aH w Z L s.sto) c q)->jV w c.w Z c.Z->RO c (t,0) ob):
  ∃L',RS s' a w' L' Z/\Tr np s.sto s'.sto w w' L L' Z Z/\L' (t,0)=some w.heap.size/\(∀q,(s.sto.get q).isSome->Same (aH w Z L s.sto) (aH w' Z L' s'.sto) q)/\jV w w' Z Z:=by
 have hk:∀b,b<w.heap.size->some b≠some w.heap.size->w'.heap[b]? =w.heap[b]? :=by
  intro b hb _;rw[hw,Array.getElem?_push,if_neg (by omega)]
 have hnb:∀b,some w.heap.size=some b->¬Z b/\¬aU s.sto L b/\b<w'.heap.size/\(w.heap.size<=b\/aU s.sto L b):=by
  intro b hb;injection hb with hb;subst hb;refine ⟨λhz=> ?_,λhl=> ?_,by simp[hw],.inl (Nat.le_refl _)⟩
  ·have:=(h.dis _ hz).1;omega
  ·obtain ⟨q,ob',h1,h2⟩:=hl;have:=h.fq h1 h2;omega
 have hget:=dH (show s.sto.lay t [some ob]=some s'.sto by
  unfold St.lay at hl;split at hl
  ·rename_i sto e;injection hl with hl;subst hl;exact e
  ·cases hl)
 have hfree:=gq (show s.sto.lay t [some ob]=some s'.sto by
  unfold St.lay at hl;split at hl
  ·rename_i sto e;injection hl with hl;subst hl;exact e
  ·cases hl)
 have hsame:∀q,(s.sto.get q).isSome->Same (aH w Z L s.sto) (aH w' Z (upd L (t,0) (some w.heap.size)) s'.sto) q:=by
  intro q hq;have hne:q.1≠t:=λe=>by rw[hfree q e]at hq;cases hq
  refine ⟨sq L _ _ (λe=>hne (by rw[e])),λk=> ?_,λsz xs k=>⟨xs,?_,rfl⟩,λb hb hs=> ?_⟩
  ·show (s'.sto.get q).isSome;rw[hget,if_neg hne];exact k
  ·show (s'.sto.get q).bind Obj.rw=_;rw[hget,if_neg hne];exact k
  ·obtain ⟨o',ho'⟩:=Option.isSome_iff_exists.1 hq;exact dm (hk b (h.block_lt ho' hb) (by intro e;injection e with e;have:=h.block_lt ho' hb;omega))
 have hzz:jV w w' Z Z:=λb hb=>⟨hb,hk b (h.dis b hb).1 (by intro e;injection e with e;have:=(h.dis b hb).1;omega)⟩
 obtain ⟨h1,h2,_,_⟩:=RS.lay (s0:=s) (np:=np) (nb:=some w.heap.size) (w':=w') h (Tr.refl _ _ _ _ _) hl ht hos htp hop (by rw[hw];simp) hk hnb
  (hob (aH w' Z (upd L (t,0) (some w.heap.size)) s'.sto) rfl rfl (AZ _ _ _) hsame hzz)
 exact ⟨_,h1,h2,AZ _ _ _,hsame,hzz⟩
theorem GZ (w:World) (o:Go.Obj):({ w with heap:=w.heap.push o }:World).heap[w.heap.size]? =some o:=by simp
theorem ul {np t:Nat} {s':St} {as:List AV} {vs:List Value} {ty:TypeId} {o:Oper} (h:RS s a w L Z) (hl:s.lay t [some (.box as)]=some s') (ht:t<np) (hv:di (aH w Z L s.sto) as vs)
  (e:(execOp a.eval o).run P w= .ok (.value (.pointer (some ⟨w.heap.size,0,none⟩))) { w with heap:=w.heap.push (.cells vs.toArray ty) }):
  aV P np o s a w L Z (.ptr (t,0) 0) s':=by
 obtain ⟨L',h1,h2,h3,_,_⟩:=Bc (w':={ w with heap:=w.heap.push (.cells vs.toArray ty) }) (o:= .cells vs.toArray ty) h hl ht rfl rfl rfl rfl (λc h1 h2 h3 h4 h5=>by
  simp only[RO];refine ⟨_,vs.toArray,ty,h3,by rw[h1];exact GZ _ _,?_⟩;exact cu (c:=aH w Z L s.sto) (c':=c) h5 _ _ (λq hq=>h4 q (dU _ _ hv q hq)) (by simpa using hv))
 refine aV.value e h1 h2 ?_;simp only[RV];refine ⟨w.heap.size,?_,h3,rfl⟩;have hget:=dH (show s.sto.lay t [some (.box as)]=some s'.sto by
  unfold St.lay at hl;split at hl
  ·rename_i sto e;injection hl with hl;subst hl;exact e
  ·cases hl) (t,0)
 show (s'.sto.get (t,0)).isSome;rw[hget];simp
theorem Cl {np t:Nat} {s':St} {as:List AV} {ty:TypeId} {i:TypeInfo} {z:Value} {o:Oper} (h:RS s a w L Z) (ho:o.op= .alloc ty) (hi:P.info? ty=some i) (hz:i.zero=some z) (hok:eK z.cells.toList as=true)
  (hl:s.lay t [some (.box as)]=some s') (ht:t<np):aV P np o s a w L Z (.ptr (t,0) 0) s':=by
 refine ul (ty:=ty) h hl ht (ku hok) (eE (m:=Instr.alloc ty true (.tuple #[])) (by unfold execOp;rw[ho]) ?_);simp[Instr.alloc,zeroValue,typeInfo,hi,hz,newVar,newRow]
mutual
theorem qM {w:World} {Z:Nat->Prop}:∀(y:D) (cs:Array Value),¬RD w Z y [.agg cs]
 | .int k n,cs,h=>by simp[RD]at h
 | .bool b,cs,h=>by simp[RD]at h
 | .str s,cs,h=>by simp[RD]at h
 | .lst xs,cs,h=>by simp only[RD]at h;obtain ⟨_,_,h,_⟩:=h;simp at h
 | .agg ds,cs,h=>by simp only[RD]at h;exact Bd ds cs h
 | .own _ _,cs,h=>by simp only[RD]at h;obtain ⟨_,_,_,h⟩:=h;simp at h
theorem Bd {w:World} {Z:Nat->Prop}:∀(y:List D) (cs:Array Value),¬fk w Z y [.agg cs]
 | [],cs,h=>by simp[fk]at h
 | d::ds,cs,h=>by
  simp only[fk]at h;obtain ⟨v,cs',h1,h2,_⟩:=h;simp at h1;obtain ⟨rfl,_⟩:=h1;exact qM d cs h2
end
theorem pA {c:Cx} {x:AV} {v:Value} (h:RV c x v) (hx:∀vs,x≠ .tup vs) (hu:x≠ .undef) (hb:x≠ .bare):di c x.cells v.cells.toList:=by
 have one:(∀cs,v≠ .agg cs)->di c [x] v.cells.toList:=by
  intro hne;simp only[di];refine ⟨v,[],?_,h,rfl⟩;cases v<;>first | rfl | exact (hne _ rfl).elim
 cases x with
 | agg as=>
  simp only[RV]at h;obtain ⟨vs,rfl,h2⟩:=h;simpa [AV.cells,Value.cells]using h2
 | undef=>exact (hu rfl).elim
 | bare=>exact (hb rfl).elim
 | tup vs=>exact (hx vs rfl).elim
 | d y=>
  refine one λcs hv=> ?_
  subst hv;simp only[RV]at h;exact qM y cs h
 | nilp=>simp only[RV]at h;exact one λcs hv=>by rw[h]at hv;cases hv
 | emp=>simp only[RV]at h;obtain ⟨A,h⟩:=h;exact one λcs hv=>by rw[h]at hv;cases hv
 | ptr r o=>simp only[RV]at h;obtain ⟨b,_,_,h⟩:=h;exact one λcs hv=>by rw[h]at hv;cases hv
 | prow r sz i o=>simp only[RV]at h;obtain ⟨b,_,_,_,h⟩:=h;exact one λcs hv=>by rw[h]at hv;cases hv
 | sp cs' o=>simp only[RV]at h;obtain ⟨b,_,_,h,_⟩:=h;exact one λcs hv=>by rw[h]at hv;cases hv
 | arr r sz g u=>simp only[RV]at h;obtain ⟨_,_,_,_,h,_⟩:=h;exact one λcs hv=>by rw[h]at hv;cases hv
 | fn f as=>simp only[RV]at h;obtain ⟨_,h,_⟩:=h;exact one λcs hv=>by rw[h]at hv;cases hv
theorem G0 {np t:Nat} {s':St} {ty:TypeId} {x:Operand} {x':VX} {o:Oper} (h:RS s a w L Z) (ho:o.op= .box ty x) (hx:cR x x'=true) {u:AV} (e:ev s.env x'=some u) (hu:∀vs,u≠ .tup vs) (hu2:u≠ .undef) (hu3:u≠ .bare)
  (hl:s.lay t [some (.box u.cells)]=some s') (ht:t<np):aV P np o s a w L Z (.ptr (t,0) 0) s':=by
 refine ul (ty:=ty) (vs:=(a.eval x).cells.toList) h hl ht (pA (aL h hx e) hu hu2 hu3) (eE (m:=Instr.box ty (a.eval x)) (by unfold execOp;rw[ho]) ?_);simp[Instr.box,newVar,newRow]
end
end
section
section
variable {P:Program} {call:cM} {loop:cN}
variable {s:St} {a:Act} {w:World} {L:Loc} {Z:Nat->Prop}
mutual
theorem wQ {w:World} {Z:Nat->Prop}:∀(y:D) (cs:Array Value),¬RD w Z y [.tuple cs]
 | .int k n,cs,h=>by simp[RD]at h
 | .bool b,cs,h=>by simp[RD]at h
 | .str s,cs,h=>by simp[RD]at h
 | .lst xs,cs,h=>by simp only[RD]at h;obtain ⟨_,_,h,_⟩:=h;simp at h
 | .agg ds,cs,h=>by simp only[RD]at h;exact Be ds cs h
theorem Be {w:World} {Z:Nat->Prop}:∀(y:List D) (cs:Array Value),¬fk w Z y [.tuple cs]
 | [],cs,h=>by simp[fk]at h
 | d::ds,cs,h=>by
  simp only[fk]at h;obtain ⟨v,cs',h1,h2,_⟩:=h;simp at h1;obtain ⟨rfl,_⟩:=h1;exact wQ d cs h2
end
theorem G1 {w:World} {Z:Nat->Prop} {y:D} {v:Value} (h:RD w Z y [v]):v.oneCell'=true:=by
 cases v<;>first | rfl | exact (qM _ _ h).elim | exact (wQ _ _ h).elim
theorem Mt {c:Cx} {x:AV} {v:Value} (h:RV c x v) (hx:x.one=true):v.oneCell'=true:=by
 cases x with
 | undef=>cases hx
 | bare=>cases hx
 | agg _=>cases hx
 | tup _=>cases hx
 | d y=>simp only[RV]at h;exact G1 h
 | nilp=>simp only[RV]at h;rw[h];rfl
 | emp=>simp only[RV]at h;obtain ⟨A,h⟩:=h;rw[h];rfl
 | ptr r o=>simp only[RV]at h;obtain ⟨b,_,_,h⟩:=h;rw[h];rfl
 | prow r sz i o=>simp only[RV]at h;obtain ⟨b,_,_,_,h⟩:=h;rw[h];rfl
 | sp cs' o=>simp only[RV]at h;obtain ⟨b,_,_,h,_⟩:=h;rw[h];rfl
 | arr r sz g u=>simp only[RV]at h;obtain ⟨_,_,_,_,h,_⟩:=h;rw[h];rfl
 | fn f as=>simp only[RV]at h;obtain ⟨_,h,_⟩:=h;rw[h];rfl
theorem Jq {c:Cx} {xs:List AV} {vs:List Value} (h:di c xs vs) (hx:xs.all AV.one=true):∀v∈vs,v.oneCell'=true:=by
 obtain ⟨h1,h2⟩:=bF.1 h;intro v hv;obtain ⟨i,hi⟩:=List.getElem?_of_mem hv;have hlt:i<xs.length:=by rw[h1];exact (aq.1 hi).1
 exact Mt (h2 i xs[i] v (bg hlt) hi) (List.all_eq_true.1 hx _ (List.getElem_mem hlt))
theorem jH {α:Type} {l v r:List α} {off:Nat} (e:lay l off v=some r):off+v.length<=l.length/\r=l.take off++v++l.drop (off+v.length):=by
 unfold lay at e;split at e
 ·injection e with e;exact ⟨by assumption,e.symm⟩
 ·cases e
theorem jz {α:Type} {l v r:List α} {off:Nat} (e:lay l off v=some r):r.length=l.length:=by
 obtain ⟨h,rfl⟩:=jH e;simp;omega
theorem dK {α:Type} {l v r:List α} {off:Nat} (e:lay l off v=some r) (i:Nat):r[i]? =if off<=i/\i<off+v.length then v[i-off]? else l[i]? :=by
 obtain ⟨h,rfl⟩:=jH e;simp only[List.getElem?_append,List.length_append,List.length_take,List.getElem?_take,List.getElem?_drop];by_cases h1:i<off
 ·have:min off l.length=off:=by omega
  simp[h1,this];rw[if_pos (by omega),if_neg (by omega)]
 ·by_cases h2:i<off+v.length
  ·have:min off l.length=off:=by omega
   rw[this,if_pos (by omega),if_neg h1,if_pos (by omega)]
  ·have:min off l.length=off:=by omega
   rw[this,if_neg (by omega),if_neg (by omega)];congr 1;omega
theorem Dy {c:Cx} {as bs rs:List AV} {vs us:List Value} {off:Nat} (h:di c as vs) (k:di c bs us) (e:lay as off bs=some rs):di c rs (vs.take off++us++vs.drop (off+us.length)):=by
 obtain ⟨h1,h2⟩:=bF.1 h;obtain ⟨k1,k2⟩:=bF.1 k;obtain ⟨e1,_⟩:=jH e;have e2:lay vs off us=some (vs.take off++us++vs.drop (off+us.length)):=by unfold lay;rw[if_pos (by omega)]
 refine bF.2 ⟨by rw[jz e,jz e2,h1],λi x v hx hv=> ?_⟩;rw[dK e]at hx;rw[dK e2]at hv;by_cases hc:off<=i/\i<off+bs.length
 ·rw[if_pos hc]at hx;rw[if_pos (by omega)]at hv;exact k2 _ x v hx hv
 ·rw[if_neg hc]at hx;rw[if_neg (by omega)]at hv;exact h2 _ x v hx hv
theorem nP {ty:TypeId} {i:TypeInfo} (hi:P.info? ty=some i) {v:Value} (hs:v.cells.size=i.size) {g off:Nat} {cur:Array Value} {t:TypeId} (hg:w.heap[g]? =some (.cells cur t (0,0))) (hb:off+v.cells.size<=cur.size)
  (h1:∀u∈v.cells.toList,u.oneCell'=true):
  (storeVar ty ⟨g,off,none⟩ v).run P w= .ok () (w.setRow g (cur.toList.take off++v.cells.toList++cur.toList.drop (off+v.cells.toList.length)).toArray):=by
 have:=run_storeCells_at P g off t v.cells.toList 0 cur w hg (by simpa using hb) h1;simp only[Nat.add_zero]at this;simp[storeVar,sizeOf,typeInfo,hi,hs,this]
theorem Cm {w:World} {Z:Nat->Prop} {L:Loc} {ob:Id->Option Obj}:∀{xs:List AV} {ds:List D} {vs:List Value},dL xs=some ds->di ⟨w,Z,L,ob⟩ xs vs->fk w Z ds vs
 | [],ds,vs,e,h=>by simp only[dL]at e;injection e with e;subst e;simpa only [di,fk]using h
 | x::xs,ds,vs,e,h=>by
  cases x with
  | d y=>
   simp only[dL]at e;split at e
   ·rename_i ys e2;injection e with e;subst e;simp only[di]at h;obtain ⟨v,vs',h1,h2,h3⟩:=h;simp only[RV]at h2;simp only[fk];exact ⟨v,vs',h1,h2,Cm e2 h3⟩
   ·cases e
  | _=>simp[dL]at e
theorem sA:∀{xs:List AV} {ds:List D},dL xs=some ds->AV.bE xs=[]
 | [],ds,e=>by simp[AV.bE]
 | x::xs,ds,e=>by
  cases x with
  | d y=>
   simp only[dL]at e;split at e
   ·rename_i ys e2;simp[AV.bE,AV.refs,sA e2]
   ·cases e
  | _=>simp[dL]at e
theorem pV {agg:Bool} {cs:List D} {x:D} (h:D.bJ agg cs=some x):x.cells=cs:=by
 cases agg with
 | true=>simp[D.bJ]at h;subst h;rfl
 | false=>
  cases cs with
  | nil=>simp[D.bJ]at h
  | cons y l=>cases l with
   | nil=>
    simp only[D.bJ]at h;split at h
    ·cases h
    ·rename_i hm;injection h with h;subst h;cases y<;>first | rfl | simp[D.many]at hm
   | cons z l=>simp[D.bJ]at h
theorem lV {w:World} {Z:Nat->Prop} {x:D} {cs:List Value} (h:fk w Z x.cells cs):RD w Z x cs:=by
 cases x with
 | agg ds=>simpa only [RD,D.cells]using h
 | _=>
  simp only[D.cells,fk]at h;obtain ⟨v,cs',rfl,h1,rfl⟩:=h;exact h1
theorem G3 {Z:Nat->Prop} {b sz n off:Nat} {vs:Array Value} {t:TypeId} {xs:List D} {us cs:List Value} {e':D} (hheap:w.heap[b]? =some (.cells vs t (0,0))) (hrows:Rows w Z xs b 0 sz)
  (hz:jV w (w.setRow b (vs.toList.take (n*sz+off)++us++vs.toList.drop (n*sz+off+us.length)).toArray) Z Z) (hn:n<xs.length) (hcs:cs.length=sz) (hcells:∀j v,cs[j]? =some v->w.cell? ⟨b,0+n*sz+j,none⟩=some v)
  (ho:off+us.length<=sz) (hb:n*sz+off+us.length<=vs.size)
  (he:fk w Z e'.cells (cs.take off++us++cs.drop (off+us.length))):
  Rows (w.setRow b (vs.toList.take (n*sz+off)++us++vs.toList.drop (n*sz+off+us.length)).toArray) Z (xs.set n e') b 0 sz:=by
 have e1:lay vs.toList (n*sz+off) us=some (vs.toList.take (n*sz+off)++us++vs.toList.drop (n*sz+off+us.length)):=by unfold lay;rw[if_pos (by simpa using hb)]
 have e2:lay cs off us=some (cs.take off++us++cs.drop (off+us.length)):=by unfold lay;rw[if_pos (by omega)]
 have hcell:∀j,(w.setRow b (vs.toList.take (n*sz+off)++us++vs.toList.drop (n*sz+off+us.length)).toArray).cell? ⟨b,j,none⟩=
   if n*sz+off<=j/\j<n*sz+off+us.length then us[j-(n*sz+off)]? else w.cell? ⟨b,j,none⟩:=by
  intro j;rw[cell_setRow_same w b j vs _ t (0,0) hheap];simp only[List.getElem?_toArray];rw[dK e1];split
  ·rfl
  ·simp[World.cell?,hheap]
 rw[eW]at hrows |-;intro i x hx;by_cases hi:i=n
 ·subst hi;rw[List.getElem?_set_self hn]at hx;injection hx with hx;subst hx;refine ⟨cs.take off++us++cs.drop (off+us.length),by rw[jz e2,hcs],cS hz _ _ (lV he),λj v hj=> ?_⟩;rw[hcell];rw[dK e2]at hj;by_cases hc:off<=j/\j<off+us.length
  ·rw[if_pos hc]at hj;rw[if_pos (by omega)];rw[show 0+i*sz+j-(i*sz+off)=j-off by omega];exact hj
  ·rw[if_neg hc]at hj;rw[if_neg (by omega)];exact hcells j v hj
 ·rw[List.getElem?_set_ne (Ne.symm hi)]at hx;obtain ⟨cs',h1,h2,h3⟩:=hrows i x hx;refine ⟨cs',h1,cS hz _ _ h2,λj v hj=> ?_⟩;have hj':j<sz:=by rw[<-h1];exact (aq.1 hj).1
  rw[hcell,if_neg]
  ·exact h3 j v hj
  ·rintro ⟨q1,q2⟩;rcases Nat.lt_or_gt_of_ne hi with hlt | hgt
   ·have:(i+1)*sz<=n*sz:=Nat.mul_le_mul_right _ hlt;rw[Nat.succ_mul]at this;omega
   ·have:(n+1)*sz<=i*sz:=Nat.mul_le_mul_right _ hgt;rw[Nat.succ_mul]at this;omega
theorem uQ {w:World} {Z:Nat->Prop}:∀{xs:List D} {vs:List Value} {F:List Nat},mS w Z xs vs F->vs.length=xs.length
 | [],vs,F,h=>by simp only[mS]at h;rw[h.1];rfl
 | x::xs,vs,F,h=>by
  simp only[mS]at h;obtain ⟨v,vs',F1,F2,rfl,_,_,h2⟩:=h;simp[uQ h2]
theorem Mu {α:Type} {S us v1 v2 v3:List α} {p off sz:Nat} (hseg:(S.drop p).take sz=v1++(v2++v3)) (h1:v1.length=off) (h2:v2.length=us.length) (hs:p+sz<=S.length) (hl:off+us.length<=sz):
  (∀j,j<p->(S.take (p+off)++us++S.drop (p+off+us.length))[j]? =S[j]?)/\
  ((S.take (p+off)++us++S.drop (p+off+us.length)).drop p).take sz=v1++(us++v3)/\
  (S.take (p+off)++us++S.drop (p+off+us.length)).drop (p+sz)=S.drop (p+sz):=by
 have hget:∀j,(S.take (p+off)++us++S.drop (p+off+us.length))[j]? =if j<p+off then S[j]? else if j<p+off+us.length then us[j-(p+off)]? else S[j]? :=by
  intro j;rw[List.append_assoc,List.getElem?_append,List.length_take,Nat.min_eq_left (by omega)];split
  ·rename_i hj;rw[List.getElem?_take,if_pos hj]
  ·rename_i hj;rw[List.getElem?_append];split
   ·rename_i hk;rw[if_pos (by omega)]
   ·rename_i hk;rw[if_neg (by omega),List.getElem?_drop];congr 1;omega
 have hlen3:off+us.length+v3.length=sz:=by
  have:=congrArg List.length hseg;simp at this;omega
 have hS:∀j,j<sz->S[p+j]? =(v1++(v2++v3))[j]? :=by
  intro j hj;rw[<-hseg,List.getElem?_take,if_pos hj,List.getElem?_drop]
 refine ⟨λj hj=>by rw[hget,if_pos (by omega)],?_,?_⟩
 ·apply List.ext_getElem?;intro j;rw[List.getElem?_take];split
  ·rename_i hj;rw[List.getElem?_drop,hget];have hS':=hS j hj;by_cases c1:j<off
   ·rw[if_pos (by omega),hS',List.getElem?_append_left (by omega),List.getElem?_append_left (by omega)]
   ·rw[if_neg (by omega),List.getElem?_append_right (by omega)];by_cases c2:j<off+us.length
    ·rw[if_pos (by omega),List.getElem?_append_left (by omega)];congr 1;omega
    ·rw[if_neg (by omega),hS',List.getElem?_append_right (by omega),List.getElem?_append_right (by omega),List.getElem?_append_right (by omega),h2]
  ·rename_i hj;rw[List.getElem?_eq_none];simp only[List.length_append];omega
 ·apply List.ext_getElem?;intro j;rw[List.getElem?_drop,List.getElem?_drop,hget,if_neg (by omega),if_neg (by omega)]
theorem qN (
      np:Nat) {s':St} {o:Oper} {ty:TypeId} {i:TypeInfo} {x y:Operand} {x' y':VX} (h:RS s a w L Z) (ho:o.op= .store ty x y) (hx:cR x x'=true) (hy:cR y y'=true) (hi:P.info? ty=some i)
  {p v:AV} (e1:ev s.env x'=some p) (e2:ev s.env y'=some v) (es:storeAt (real call loop) s i.size p v=some s'):aV P np o s a w L Z .bare s':=by
 have hp:=aL h hx e1;have hv:=aL h hy e2;unfold storeAt at es;simp only at es;split at es
 ·cases es
 rename_i hc;simp only[Bool.or_eq_true,not_or,bne_iff_ne,ne_eq,decide_eq_true_eq,Decidable.not_not,Bool.not_eq_true',Bool.not_eq_false]at hc;obtain ⟨hlen,hone⟩:=hc;have hcells:di (aH w Z L s.sto) v.cells (a.eval y).cells.toList:=by
  refine pA hv ?_ ?_ ?_
  ·rintro vs rfl;simp[AV.cells,AV.one]at hone
  ·rintro rfl;simp[AV.cells,AV.one]at hone
  ·rintro rfl;simp[AV.cells,AV.one]at hone
 have hsz:(a.eval y).cells.size=i.size:=by rw[<-Array.length_toList,<-(bF.1 hcells).1,hlen]
 have hone':=Jq hcells hone;have hrun:∀{ad:Addr} {w':World},a.eval x= .pointer (some ad)->(storeVar ty ad (a.eval y)).run P w= .ok () w'->(execOp a.eval o).run P w= .ok .skip w':=by
  intro ad w' hq hm;unfold execOp;rw[ho];simp only[Instr.storeAt,hq,Instr.sureAddr];simp[hm]
 split at es
 ·rename_i r off;split at es
  case h_2=>cases es
  case h_1 cs hr=>
   split at es
   case h_2=>cases es
   case h_1 cs' hlay=>
    injection es with es;subst es;simp only[RV]at hp;obtain ⟨b,_,hb,hpp⟩:=hp;have hro:=h.obj r _ hr;simp only[RO]at hro;obtain ⟨b',vs,tt,hb',hheap,hvs⟩:=hro;have:b'=b:=by have:some b'=some b:=hb'.symm.trans hb;injection this
    subst this;have hlen':=(bF.1 hvs).1;obtain ⟨hl1,_⟩:=jH hlay;have hbound:off+(a.eval y).cells.size<=vs.size:=by simp at hlen';omega
    have hst:=nP (P:=P) hi hsz hheap hbound hone';obtain ⟨k1,k2⟩:=h.write (w':=w.setRow b' (vs.toList.take off++(a.eval y).cells.toList++vs.toList.drop (off+(a.eval y).cells.toList.length)).toArray) (ob':= .box cs') np hr hb
     rfl rfl rfl (by simp) (λk hk=>setRow_other _ _ _ _ hk) (by
      simp only[bX,setRow_heap w b' vs _ tt (0,0) hheap,hheap];simp;omega) (λsz xs e=>by cases e) (λe=>by cases e) (λhsame hz=>by
      simp only[RO];refine ⟨b',_,tt,hb,setRow_heap w b' vs _ tt (0,0) hheap,?_⟩;have:=Dy hvs hcells hlay;refine cu (c:=aH w Z L s.sto) hz _ _ (λq hq=>hsame q (dU _ _ this q hq)) (by simpa using this))
    exact aV.skip (hrun hpp hst) k1 k2
 ·rename_i r sz n off;split at es
  case h_1 sz0 xs0 hr0=>
   split at es
   case h_2=>cases es
   case h_1 ds s2 hown=>
    split at es
    case h_2=>cases es
    case h_1 sz' xs hr=>
     split at es
     case h_2=>cases es
     case h_1 cs he=>
      split at es
      case isFalse=>cases es
      case isTrue hc2=>
       split at es
       case h_2=>cases es
       case h_1 cs' hlay=>
        injection es with es;subst es;obtain ⟨hsz',hcl⟩:=hc2;subst hsz';obtain ⟨f1,f2,f3,F,f4,f5,f6⟩:=qL np v.cells _ s s2 ds h (Kept.refl _ _ _ _) hcells hown;have hp2:RV (aH w Z L s2.sto) (.prow r sz n off) (a.eval x):=f3.rv (by intro q hq;simp[AV.refs]at hq;subst hq;simp[hr]) hp;simp only[RV]at hp2;obtain ⟨b,_,hb,hn0,hpp⟩:=hp2;have hro:=f1.obj r _ hr;simp only[RO]at hro;obtain ⟨vs,G,hheap,hcap,g3,g4,g5⟩:=hro.2 b hb;obtain ⟨k1,k2,k3⟩:=dA he;obtain ⟨A,Fi,B,rfl,a1,a2,a3,a4⟩:=GP g3 k2;simp only[OE]at a2;obtain ⟨hl1,hl2⟩:=jH hlay;have hus:=uQ f4;have hcsplit:cs=cs.take off++((cs.drop off).take ds.length++cs.drop (off+ds.length)):=by
         rw[<-List.drop_drop,List.take_append_drop,List.take_append_drop]
        rw[hcsplit]at a2;obtain ⟨v1,RG,A1,F23,hseg,rfl,q1,q2,q3⟩:=gy.1 a2;obtain ⟨v2,v3,M,B1,rfl,rfl,q4,q5,q6⟩:=gy.1 q3;have q1':v1.length=off:=by rw[q1,List.length_take];omega
        have q4':v2.length=(a.eval y).cells.toList.length:=by rw[q4,List.length_take,List.length_drop,hus];omega
        rw[Nat.succ_mul]at a3 a4;rw[Array.length_toList]at a4;obtain ⟨w1,w2,w3⟩:=Mu (us:=(a.eval y).cells.toList) hseg q1' q4' (by simpa using a4) (by rw[hus];omega);have hbound:n.toNat*sz.2+off+(a.eval y).cells.size<=vs.size:=by
         have:(a.eval y).cells.size=ds.length:=by rw[<-Array.length_toList];exact hus
         omega
        have hst:=nP (P:=P) hi hsz hheap hbound hone';have hnd:=List.nodup_cons.1 g4;have hGl:∀k,k∈b::(A++(A1++(M++B1))++B)->aU s2.sto L k:=λk hk=>by
         rcases List.mem_cons.1 hk with rfl | hk
         ·exact ⟨r,_,hr,.inl hb⟩
         ·exact ⟨r,_,hr,.inr ⟨rfl,(g5 k).2 hk⟩⟩
        have hFG:∀k,k∈F->k∉b::(A++(A1++(M++B1))++B):=λk hk hk2=>(f6 k hk).2.2.1 (hGl k hk2)
        obtain ⟨
            r1,r2⟩:=RS.GJ (s0:=s) (w':=w.setRow b (vs.toList.take (n.toNat*sz.2+off)++(a.eval y).cells.toList++vs.toList.drop (n.toNat*sz.2+off+(a.eval y).cells.toList.length)).toArray) (ob':= .orows sz (xs.set n.toNat (.agg cs'))) (N:=λk=>k∈A++(A1++(F++B1))++B) np f1 f2 hr hb
         rfl rfl rfl (by simp) (λk hk=>setRow_other _ _ _ _ hk) (by
          simp only[bX,setRow_heap w b vs _ sz.1 (0,0) hheap,hheap];simp;omega) (λz ys e=>by cases e;exact ⟨_,rfl,by simp⟩) (λk hk=>by
          rcases hk with hk | ⟨_,hk⟩
          ·rw[bZ]at hk;exact .inl (.inl (hb.trans hk))
          ·rw[js]at hk;by_cases hkF:k∈F
           ·obtain ⟨p1,p2,p3,p4⟩:=f6 k hkF;exact .inr ⟨p1,p3,p4,p2⟩
           ·refine .inl (.inr ⟨rfl,(g5 k).2 ?_⟩);simp only[List.mem_append]at hk |-;rcases hk with (hk | (hk | (hk | hk))) | hk
            ·exact .inl (.inl hk)
            ·exact .inl (.inr (.inl hk))
            ·exact (hkF hk).elim
            ·exact .inl (.inr (.inr (.inr hk)))
            ·exact .inr hk) (λhsame hz=>by
          have hother:∀k,k≠b->(w.setRow b (vs.toList.take (n.toNat*sz.2+off)++(a.eval y).cells.toList++vs.toList.drop (n.toNat*sz.2+off+(a.eval y).cells.toList.length)).toArray).heap[k]? =w.heap[k]? :=λk hk=>setRow_other _ _ _ _ hk
          have hnb:∀k,k∈A++(A1++(M++B1))++B->k≠b:=λk hk e=>hnd.1 (e ▸ hk)
          have hnbF:∀k,k∈F->k≠b:=λk hk e=>hFG k hk (by rw[e];simp)
          simp only[RO];refine ⟨λe=>(by rw[bZ]at e;cases e),λb2 hb2=> ?_⟩;rw[bZ]at hb2;injection hb2 with hb2;subst hb2;refine ⟨_,A++(A1++(F++B1))++B,setRow_heap w b vs _ sz.1 (0,0) hheap,by simp;omega,?_,?_,λk=>by rw[js]⟩
          ·refine Dv k3 (ju (gm hz _ _ _ _ (λk hk=>hother k (hnb k (by simp[hk]))) a1) λj hj=>w1 j ?_) ?_ ?_ ?_
           ·rw[List.length_take]at hj;exact Nat.lt_of_lt_of_le hj (Nat.mul_le_mul_right _ (by omega))
           ·rw[w2];simp only[OE];rw[show cs'=cs.take off++(ds++cs.drop (off+ds.length)) by rw[hl2,List.append_assoc]];exact gy.2 ⟨v1,_,A1,F++B1,rfl,rfl,by rw[q1],jC hz _ _ _ (λk hk=>hother k (hnb k (by simp[hk]))) q2,
             gy.2 ⟨_,v3,F,B1,rfl,rfl,hus,jC hz _ _ _ (λk hk=>hother k (hnbF k hk)) f4,jC hz _ _ _ (λk hk=>hother k (hnb k (by simp[hk]))) q6⟩⟩
           ·rw[Nat.succ_mul,w3];exact gm hz _ _ _ _ (λk hk=>hother k (hnb k (by simp[hk]))) a3
           ·rw[Nat.succ_mul];simp at hbound |-;omega
          ·have hd:∀k,k∈F->k∉A/\k∉A1/\k∉B1/\k∉B/\k≠b:=λk hk=>by
            have:=hFG k hk;simp only[List.mem_cons,List.mem_append,not_or]at this;exact ⟨this.2.1.1,this.2.1.2.1,this.2.1.2.2.2,this.2.2,this.1⟩
           have g4':=g4;simp only[List.nodup_cons,List.nodup_append,List.mem_append,not_or]at g4' |-;obtain ⟨⟨⟨n1,n2,n3,n4⟩,n5⟩,⟨⟨n6,⟨n7,⟨n8,n9,n10⟩,n11⟩,n12⟩,n13,n14⟩⟩:=g4';refine ⟨⟨⟨n1,n2,λhk=>(hd b hk).2.2.2.2 rfl,n4⟩,n5⟩,⟨n6,⟨n7,⟨f5,n9,λx hx y hy e=>(hd x hx).2.2.1 (e ▸ hy)⟩,λx hx y hy=> ?_⟩,λx hx y hy=> ?_⟩,n13,λx hx y hy=> ?_⟩
           ·rcases hy with hy | hy
            ·exact λe=>(hd y hy).2.1 (e ▸ hx)
            ·exact n11 x hx y (.inr hy)
           ·rcases hy with hy | hy | hy
            ·exact n12 x hx y (.inl hy)
            ·exact λe=>(hd y hy).1 (e ▸ hx)
            ·exact n12 x hx y (.inr (.inr hy))
           ·rcases hx with hx | hx | hx | hx
            ·exact n14 x (.inl hx) y hy
            ·exact n14 x (.inr (.inl hx)) y hy
            ·exact λe=>(hd x hx).2.2.2.1 (e ▸ hy)
            ·exact n14 x (.inr (.inr (.inr hx))) y hy)
        exact aV.skip (hrun hpp hst) r1 r2
  case h_2=>
  split at es
  case h_2=>cases es
  case h_1 vs2 s2 hfz=>
   split at es
   case h_2=>cases es
   case h_1 ds hds=>
    split at es
    case h_2=>cases es
    case h_1 sz' xs hr=>
     split at es
     case isFalse=>cases es
     case isTrue hsz'=>
      split at es
      case h_2=>cases es
      case h_1 e he=>
       split at es
       case isFalse=>cases es
       case isTrue hel=>
        split at es
        case h_2=>cases es
        case h_1 cs' hlay=>
         split at es
         case h_2=>cases es
         case h_1 e' he'=>
          injection es with es;subst es;subst hsz';obtain ⟨Z',f1,f2,f3,f4⟩:=kE np v.cells _ s s2 vs2 Z h (Kept.refl _ _ _ _) hcells hfz;have hds':fk w Z' ds (a.eval y).cells.toList:=Cm hds (f4 (by rw[sA hds];simp));have hp2:RV (aH w Z' L s2.sto) (.prow r sz n off) (a.eval x):=f3.rv (by intro q hq;simp[AV.refs]at hq;subst hq;simp[hr]) hp;simp only[RV]at hp2;obtain ⟨b,_,hb,hn0,hpp⟩:=hp2;have hro:=f1.obj r _ hr;simp only[RO]at hro;obtain ⟨vs,hheap,hcap,hrows⟩:=hro.2 b hb;obtain ⟨k1,k2,k3⟩:=dA he;obtain ⟨cs,m1,m2,m3⟩:=eW.1 hrows _ _ k2;have hdlen:=(eC.1 hds').1;obtain ⟨hl1,hl2⟩:=jH hlay;have hmul:n.toNat*sz.2+sz.2<=xs.length*sz.2:=by rw[<-Nat.succ_mul];exact Nat.mul_le_mul_right _ k3
          have hbound:n.toNat*sz.2+off+(a.eval y).cells.size<=vs.size:=by simp at hdlen;omega
          have hst:=nP (P:=P) hi hsz hheap hbound hone';have hxs:(xs.set n.toNat e').length=xs.length:=by simp
          have he'len:e'.cells.length=sz.2/\fk w Z' e'.cells (cs.take off++(a.eval y).cells.toList++cs.drop (off+(a.eval y).cells.toList.length)):=by
           have q1:fk w Z' cs' (cs.take off++(a.eval y).cells.toList++cs.drop (off+(a.eval y).cells.toList.length)):=by
            obtain ⟨q2,q3⟩:=eC.1 (rN m2);obtain ⟨q4,q5⟩:=eC.1 hds';have e2:lay cs off (a.eval y).cells.toList=some (cs.take off++(a.eval y).cells.toList++cs.drop (off+(a.eval y).cells.toList.length)):=by unfold lay;rw[if_pos (by omega)]
            refine eC.2 ⟨by rw[jz hlay,jz e2];omega,λj d u hd hu=> ?_⟩;rw[dK hlay]at hd;rw[dK e2]at hu;by_cases hcc:off<=j/\j<off+ds.length
            ·rw[if_pos hcc]at hd;rw[if_pos (by omega)]at hu;exact q5 _ d u hd hu
            ·rw[if_neg hcc]at hd;rw[if_neg (by omega)]at hu;exact q3 _ d u hd hu
           have q6:e'.cells=cs':=by
            exact pV he'
           rw[q6];exact ⟨by rw[jz hlay,hel],q1⟩
          obtain ⟨g1,g2⟩:=f1.write (w':=w.setRow b (vs.toList.take (n.toNat*sz.2+off)++(a.eval y).cells.toList++vs.toList.drop (n.toNat*sz.2+off+(a.eval y).cells.toList.length)).toArray) (ob':= .rows sz (xs.set n.toNat e')) np hr hb
           rfl rfl rfl (by simp) (λk hk=>setRow_other _ _ _ _ hk) (by
            simp only[bX,setRow_heap w b vs _ sz.1 (0,0) hheap,hheap];simp;omega) (λz ys e=>by cases e;exact ⟨_,rfl,hxs⟩) (λe=>by cases e) (λhsame hz=>by
            simp only[RO];refine ⟨λe=>(by rw[hb]at e;cases e),λb2 hb2=> ?_⟩;have:b=b2:=by have:some b=some b2:=hb.symm.trans hb2;injection this
            subst this;refine ⟨_,setRow_heap w b vs _ sz.1 (0,0) hheap,by simp;omega,?_⟩;exact G3 hheap hrows hz k3 m1 m3 (by omega) (by omega) he'len.2)
          exact aV.skip (hrun (by rw[hpp]) hst) g1 (f2.trans g2)
 ·cases es
end
end
section
section
variable {P:Program} {call:cM} {loop:cN}
variable {s:St} {a:Act} {w:World} {L:Loc} {Z:Nat->Prop}
def gF (w:World) (Z:Nat->Prop) (sz:Nat):List D->List Value->Prop
 | [],cs=>cs=[]
 | x::xs,cs=>∃c1 c2,cs=c1++c2/\c1.length=sz/\RD w Z x c1/\gF w Z sz xs c2
theorem jb {sz:Nat}:∀{xs:List D} {cs:List Value},gF w Z sz xs cs->cs.length=xs.length*sz
 | [],cs,h=>by simp only[gF]at h;simp[h]
 | x::xs,cs,h=>by
  simp only[gF]at h;obtain ⟨c1,c2,rfl,h1,_,h2⟩:=h;simp[h1,jb h2,Nat.succ_mul,Nat.add_comm]
theorem nQ {sz:Nat}:∀{xs ys:List D} {cs ds:List Value},gF w Z sz xs cs->gF w Z sz ys ds->gF w Z sz (xs++ys) (cs++ds)
 | [],ys,cs,ds,h,k=>by simp only[gF]at h;subst h;simpa using k
 | x::xs,ys,cs,ds,h,k=>by
  simp only[gF]at h;obtain ⟨c1,c2,rfl,h1,h2,h3⟩:=h;simp only[List.cons_append,gF];exact ⟨c1,c2++ds,by simp,h1,h2,nQ h3 k⟩
theorem sB {w':World} {Z':Nat->Prop} (hz:jV w w' Z Z') {sz:Nat}:∀{xs:List D} {cs:List Value},gF w Z sz xs cs->gF w' Z' sz xs cs
 | [],cs,h=>by simpa only [gF]using h
 | x::xs,cs,h=>by
  simp only[gF]at h |-;obtain ⟨c1,c2,h0,h1,h2,h3⟩:=h;exact ⟨c1,c2,h0,h1,cS hz x _ h2,sB hz h3⟩
theorem uR {sz:Nat}:∀{xs:List D} {cs:List Value},gF w Z sz xs cs->∀v∈cs,v.oneCell'=true
 | [],cs,h,v,hv=>by simp only[gF]at h;subst h;cases hv
 | x::xs,cs,h,v,hv=>by
  simp only[gF]at h;obtain ⟨c1,c2,rfl,h1,h2,h3⟩:=h;rcases List.mem_append.1 hv with hv | hv
  ·obtain ⟨k1,k2⟩:=eC.1 (rN h2);obtain ⟨i,hi⟩:=List.getElem?_of_mem hv;have hlt:i<x.cells.length:=by rw[k1];exact (aq.1 hi).1
   exact G1 (k2 i _ v (bg hlt) hi)
  ·exact uR h3 v hv
theorem sD {b sz:Nat}:∀{xs:List D} {o:Nat},Rows w Z xs b o sz->∃cs,gF w Z sz xs cs/\∀j v,cs[j]? =some v->w.cell? ⟨b,o+j,none⟩=some v
 | [],o,_=>⟨[],by simp only[gF],by simp⟩
 | x::xs,o,h=>by
  simp only[Rows]at h;obtain ⟨⟨c1,h1,h2,h3⟩,h4⟩:=h;obtain ⟨c2,h5,h6⟩:=sD h4;refine ⟨c1++c2,by simp only[gF];exact ⟨c1,c2,rfl,h1,h2,h5⟩,λj v hj=> ?_⟩;rw[List.getElem?_append]at hj;split at hj
  ·exact h3 j v hj
  ·have:=h6 _ v hj;rw[show o+sz+(j-c1.length)=o+j by omega]at this;exact this
theorem sF {b sz:Nat}:∀{xs:List D} {o:Nat} {cs:List Value},gF w Z sz xs cs->(∀j v,cs[j]? =some v->w.cell? ⟨b,o+j,none⟩=some v)->Rows w Z xs b o sz
 | [],o,cs,_,_=>by simp only[Rows]
 | x::xs,o,cs,h,hc=>by
  simp only[gF]at h;obtain ⟨c1,c2,rfl,h1,h2,h3⟩:=h;simp only[Rows];refine ⟨⟨c1,h1,h2,λj v hj=>hc j v ?_⟩,sF h3 λj v hj=> ?_⟩
  ·rw[List.getElem?_append_left (aq.1 hj).1];exact hj
  ·have:=hc (sz+j) v (by rw[List.getElem?_append_right (by omega),h1];simpa using hj);rw[show o+(sz+j)=o+sz+j by omega]at this;exact this
theorem jA {sz:Nat} {x:D} {cs:List Value} (h:RD w Z x cs) (hl:cs.length=sz):∀n,gF w Z sz (List.replicate n x) (List.replicate n cs).flatten
 | 0=>by simp only[List.replicate,List.flatten_nil,gF]
 | n+1=>by
  simp only[List.replicate_succ,List.flatten_cons,gF];exact ⟨cs,_,rfl,hl,h,jA h hl n⟩
theorem tH {np t:Nat} {s':St} {w':World} {e sz:Nat} {xs:List D} {cells:Array Value} {cs:List Value} (h:RS s a w L Z) (hl:s.lay t [some (.rows (e,sz) xs)]=some s') (ht:t<np)
  (hw:w'.heap=w.heap.push (.cells cells e)) (hos:w'.os=w.os) (htp:w'.tape=w.tape) (hop:w'.output=w.output)
  (hcat:gF w Z sz xs cs) (hpre:∀(j:Nat) (v:Value),cs[j]? =some v->cells[j]? =some v) (hcap:xs.length*sz<=cells.size):
  ∃L',RS s' a w' L' Z/\Tr np s.sto s'.sto w w' L L' Z Z/\L' (t,0)=some w.heap.size/\s'.sto.get (t,0)=some (.rows (e,sz) xs)/\bX w' w.heap.size=cells.size:=by
 have hnew:w'.heap[w.heap.size]? =some (.cells cells e):=by rw[hw];simp
 obtain ⟨L',h1,h2,h3,_,_⟩:=Bc (w':=w') (o:= .cells cells e) h hl ht hw hos htp hop (λc h1 h2 h3 h4 h5=>by
  simp only[RO];refine ⟨λk=>(by rw[h3]at k;cases k),λb hb=> ?_⟩;have:w.heap.size=b:=by have:some w.heap.size=some b:=h3.symm.trans hb;injection this
  subst this;refine ⟨cells,by rw[h1];exact hnew,hcap,?_⟩;refine sF (sB (w:=w) (Z:=Z) (by rw[h1,h2]at*;exact h5) hcat) λj v hj=> ?_
  rw[h1];simp only[World.cell?,hnew,Nat.zero_add];simpa using hpre j v hj)
 refine ⟨L',h1,h2,h3,?_,by simp[bX,hnew]⟩;have hget:=dH (show s.sto.lay t [some (.rows (e,sz) xs)]=some s'.sto by
  unfold St.lay at hl;split at hl
  ·rename_i sto e;injection hl with hl;subst hl;exact e
  ·cases hl) (t,0)
 rw[hget];simp
theorem sG {c:Cx}:∀{vs:List Value} {as:List AV} {ds:List D},eK vs as=true->dZ as=some ds->fk c.w c.Z ds vs
 | [],[],ds,_,e=>by simp only[dZ]at e;injection e with e;subst e;simp only[fk]
 | v::vs,x::as,ds,h,e=>by
  simp only[eK,af]at h;have h1:=nN (c:=c) h.1;cases x with
  | d y=>
   simp only[dZ]at e;split at e
   ·rename_i ys e2;injection e with e;subst e;simp only[RV]at h1;simp only[fk];exact ⟨v,vs,rfl,h1,sG h.2 e2⟩
   ·cases e
  | emp=>
   simp only[dZ]at e;split at e
   ·rename_i ys e2;injection e with e;subst e;simp only[RV]at h1;obtain ⟨A,h1⟩:=h1;simp only[fk];refine ⟨v,vs,rfl,?_,sG h.2 e2⟩;simp only[RD];exact ⟨A,0,by rw[h1];rfl,Nat.le_refl _,.inl trivial⟩
   ·cases e
  | _=>simp[dZ]at e
 | [],_::_,_,h,_=>by simp[eK]at h
 | _::_,[],_,h,_=>by simp[eK]at h
theorem uS {n:Int} (h0:0<=n) (h1:n<=9223372036854775807):IntKind.i64.wrap n=n:=by
 have h2:n%(18446744073709551616:Int)=n:=Int.emod_eq_of_lt h0 (by omega);show (if (true&&decide (n%(18446744073709551616:Int)>=(9223372036854775808:Int)))=true then n%(18446744073709551616:Int)-(18446744073709551616:Int)else n%(18446744073709551616:Int))=n;rw[h2];rw[if_neg (by simp;omega)]
theorem range_zero (z:Array Value) (n:Nat) (hz:0<z.size):((Array.range (n*z.size)).map (λi=>z[i%z.size]!)).toList=(List.replicate n z.toList).flatten:=by
 induction n with
 | zero=>simp
 | succ n ih=>
  rw[List.replicate_succ',List.flatten_append,<-ih];apply List.ext_getElem?;intro j;simp only[Array.toList_map,Array.toList_range,List.getElem?_map,List.flatten_cons,List.flatten_nil,List.append_nil,List.getElem?_append,List.length_map,List.length_range,Array.length_toList];by_cases h1:j<n*z.size
  ·have h2:j<(n+1)*z.size:=by rw[Nat.succ_mul];omega
   simp[h1,h2]
  ·by_cases h2:j<(n+1)*z.size
   ·have h3:j-n*z.size<z.size:=by rw[Nat.succ_mul]at h2;omega
    have h4:j%z.size=j-n*z.size:=by
     rw[show j=(j-n*z.size)+n*z.size by omega,Nat.add_mul_mod_self_right,Nat.mod_eq_of_lt h3];omega
    simp[h1,h2,h4,h3]
   ·have h3:¬j-n*z.size<z.size:=by rw[Nat.succ_mul]at h2;omega
    simp[h1,h2,h3]
theorem wR {np t:Nat} {s':St} {o:Oper} {ty e:TypeId} {i:TypeInfo} {z:Value} {x y:Operand} {x' y':VX} {agg:Bool} {zero:List AV} {ds:List D} {zd:D} {k k':IntKind} {l c:Int}
  (h:RS s a w L Z) (ho:o.op= .makeSlice ty x y) (hx:cR x x'=true) (hy:cR y y'=true) (hu:P.underlying ty=some (.slice e)) (hi:P.info? e=some i) (hz:i.zero=some z) (hzs:z.cells.size=i.size) (hpos:0<i.size)
  (hok:eK z.cells.toList zero=true) (hds:dZ zero=some ds) (hzd:D.bJ agg ds=some zd) (e1:ev s.env x'=some (.d (.int k l))) (e2:ev s.env y'=some (.d (.int k' c)))
  (heq:(real call loop).cmp .eql l c=true) (hfit:(real call loop).fF i.bytes c=true) (ht:t<np)
  (hl:s.lay t [some (.rows (e,i.size) ((real call loop).qz c zd))]=some s'):aV P np o s a w L Z (.arr (t,0) (e,i.size) none true) s':=by
 have h1:=aL h hx e1;have h2:=aL h hy e2;simp only[RV,RD,List.cons.injEq,and_true]at h1 h2;simp only[real,aJ.cmp,qJ,beq_iff_eq]at heq;subst heq;simp only[real,aJ.fF]at hfit;obtain ⟨f1,f2,f3⟩:=of_decide_eq_true hfit;have hw:=uS f1 f3;have hcat:gF w Z i.size ((real call loop).qz l zd) (List.replicate l.toNat z.cells.toList).flatten:=by
  have hrd:RD w Z zd z.cells.toList:=by
   apply lV;rw[pV hzd];exact sG (c:=⟨w,Z,L,s.sto.get⟩) hok hds
  exact jA hrd (by simp[hzs]) l.toNat
 have hlen:((real call loop).qz l zd).length=l.toNat:=by simp[real,aJ.qz]
 have hcells:=range_zero z.cells l.toNat (by omega);obtain ⟨L',k1,k2,k3,k4,k5⟩:=tH (cells:=(Array.range (l.toNat*z.cells.size)).map (λj=>z.cells[j%z.cells.size]!)) (w':={ w with heap:=w.heap.push (.cells ((Array.range (l.toNat*z.cells.size)).map (λj=>z.cells[j%z.cells.size]!)) e) }) h hl ht rfl rfl rfl rfl hcat
  (λj v hj=>by rw[<-hcells]at hj;rw[<-Array.getElem?_toList];exact hj) (by simp[hlen,hzs])
 have hb:¬((i.bytes:Int)*l>281474976710656):=by
  have:(i.bytes:Int)*l=l*i.bytes:=Int.mul_comm _ _;omega
 refine aV.value (u:= .slice (some ⟨w.heap.size,0,none⟩) l.toNat l.toNat) (eE (m:=Instr.makeSlice ty (a.eval x) (a.eval y)) (by unfold execOp;rw[ho]) ?_) k1 k2 ?_
 ·rw[h1,h2];have:=run_make (P:=P) w ty e i z hu hi hz k k' l l f1 (Int.le_refl _) (by omega) f3;rw[this];simp only[World.alloc,madeCells,hzs]
 ·simp only[RV];refine ⟨_,l.toNat,l.toNat,_,rfl,⟨Nat.le_refl _,by unfold maxLen;omega⟩,λ_=>rfl,wI k4,λ_=>hlen.symm,λx m e=>(by cases e),λe=>(by rw[k3]at e;cases e),λb hb=> ?_⟩;have:w.heap.size=b:=by have:some w.heap.size=some b:=k3.symm.trans hb;injection this
  subst this;right;refine ⟨by simp[bq],?_⟩;rw[k5];simp[bq,hzs]
end
end
end Go.Vi
