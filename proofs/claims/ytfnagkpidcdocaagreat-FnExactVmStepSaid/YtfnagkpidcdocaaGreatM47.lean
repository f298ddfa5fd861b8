import Derived.Test.YtfnagkpidcdocaaGreatM46
import Derived.Test.YtfnagkpidcdocaaGreatM42
set_option linter.all false
namespace T2
open Go Go.Vi Go.Proofs
set_option maxRecDepth 100000
set_option maxHeartbeats 4000000
section
variable {o:aJ} (ho:aR cF bB o)
include ho
theorem vJ {x0 l1 x1 l2 l3 l4:List D} (e1:o.call 86 [Al x0] []=some ⟨.arr (0,0) (226,4) none true,[],[some (.orows (226,4) l1)]⟩) (e2:o.call 87 [Al x1] []=some ⟨.arr (0,0) (249,4) none true,[],[some (.orows (249,4) l2)]⟩) (e3:o.bS l1=l3) (e4:o.bS l2=l4):o.call 100017 [.agg [Al x0,Al x1]] []=Ar (.agg [Al l3,Al l4]):=by
 refine ho.au ?_
 cbv
 repeat' (first | (rw[e1];try cbv) | (rw[e2];try cbv) | (rw[e3];try cbv) | (rw[e4];try cbv))
theorem yR {x0 l1 x1 l2 l3 l4:List D} (e1:o.call 101 [Al x0] []=some ⟨.arr (0,0) (192,3) none true,[],[Oo l1]⟩) (e2:o.call 18 [Al x1] []=some ⟨.arr (0,0) (31,4) none true,[],[Oq l2]⟩) (e3:o.bS l1=l3) (e4:o.bS l2=l4):o.call 100029 [.agg [Al x0,Al x1]] []=Ar (.agg [Al l3,Al l4]):=by
 refine ho.au ?_
 cbv
 repeat' (first | (rw[e1];try cbv) | (rw[e2];try cbv) | (rw[e3];try cbv) | (rw[e4];try cbv))
def mF (k:Int):St:=⟨E 34 [(0,.emp),(1,Ai k),(5,Ai 0)],O 34 []⟩
def kO (k:Int):St:=⟨E 34 [(1,Ai k)],O 34 []⟩
theorem qy {k:Int}:o.loop 10700 (mF k)=some (.exit 0,kO k):=by
 refine ho.aB ?_;have f1:o.cmp .lss 0 0=false:=by rw[ho.cmp];rfl
 cbv
 repeat' (first | (rw[f1];try cbv))
theorem rH {k:Int} (e1:o.loop 10700 (mF k)=some (.exit 0,kO k)):o.call 107 [.emp,Ai k] []=Ar (Ai k):=by
 refine ho.au ?_
 cbv at e1
 cbv
 repeat' (first | (rw[e1];try cbv))
theorem yS {k:Int} {c_0:List D} {n1:Int} {l1 c_1:List D} {n2:Int} {l2:List D} (e1:o.call 107 [.arr (1,0) (192,3) none true,Ai k] [Oo c_0]=some ⟨Ai n1,[Oo l1],[]⟩) (e2:o.call 24 [.arr (1,0) (31,4) none true,Ai n1] [Oq c_1]=some ⟨Ai n2,[Oq l2],[]⟩):o.call 32 [.agg [.arr (1,0) (192,3) none true,.arr (1,1) (31,4) none true],Ai k] [Oo c_0,Oq c_1]=some ⟨Ai n2,[Oo l1,Oq l2],[]⟩:=by
 refine ho.au ?_
 cbv
 repeat' (first | (rw[e1];try cbv) | (rw[e2];try cbv))
theorem w6 {k:Int} {c_0:List D} {n1:Int} {l1 c_1:List D} {n2:Int} {l2:List D} (e1:o.call 107 [.arr (1,0) (192,3) none false,Ai k] [Oo c_0]=some ⟨Ai n1,[Oo l1],[]⟩) (e2:o.call 24 [.arr (1,0) (31,4) none false,Ai n1] [Oq c_1]=some ⟨Ai n2,[Oq l2],[]⟩):o.call 32 [.agg [.arr (1,0) (192,3) none false,.arr (1,1) (31,4) none false],Ai k] [Oo c_0,Oq c_1]=some ⟨Ai n2,[Oo l1,Oq l2],[]⟩:=by
 refine ho.au ?_
 cbv
 repeat' (first | (rw[e1];try cbv) | (rw[e2];try cbv))
theorem w7 {k n1 n2:Int} (e1:o.call 107 [.emp,Ai k] []=Ar (Ai n1)) (e2:o.call 24 [.emp,Ai n1] []=Ar (Ai n2)):o.call 32 [.agg [.emp,.emp],Ai k] []=Ar (Ai n2):=by
 refine ho.au ?_
 cbv
 repeat' (first | (rw[e1];try cbv) | (rw[e2];try cbv))
theorem rI {c_0:List D} {k n1:Int} {c_1:List D} {n2:Int} (e1:o.call 108 [Al c_0,Ai k] []=Ar (Ai n1)) (e2:o.cmp .lss n1 0=false) (e3:o.call 97 [Al c_1,Ai n1] []=Ar (Ai n2)) (e4:o.cmp .lss n2 0=false):o.call 33 [.agg [Al c_0,Al c_1],Ai k] []=Ar (Ai n2):=by
 refine ho.au ?_
 cbv
 repeat' (first | (rw[e1];try cbv) | (rw[e2];try cbv) | (rw[e3];try cbv) | (rw[e4];try cbv))
theorem pZ {a0_0 a0_1:List D} {n1:Int} {a1_0 a1_1:List D} (e1:o.call 14 [.agg [Al a0_0,Al a0_1],Ai 1048576] []=Ar (Ai n1)) (e2:o.cmp .lss n1 0=true):o.call 4 [.agg [Al a0_0,Al a0_1],.agg [Al a1_0,Al a1_1]] []=Ar (Ab true):=by
 refine ho.au ?_
 cbv
 repeat' (first | (rw[e1];try cbv) | (rw[e2];try cbv))
theorem p9 {a0_0 a0_1:List D} {n1:Int} {a1_0 a1_1:List D} {n2:Int} (e1:o.call 14 [.agg [Al a0_0,Al a0_1],Ai 1048576] []=Ar (Ai n1)) (e2:o.cmp .lss n1 0=false) (e3:o.call 27 [.agg [Al a1_0,Al a1_1],Ai n1] []=Ar (Ai n2)) (e4:o.cmp .lss n2 0=true):o.call 4 [.agg [Al a0_0,Al a0_1],.agg [Al a1_0,Al a1_1]] []=Ar (Ab true):=by
 refine ho.au ?_
 cbv
 repeat' (first | (rw[e1];try cbv) | (rw[e2];try cbv) | (rw[e3];try cbv) | (rw[e4];try cbv))
theorem oM {a0_0 a0_1:List D} {n1:Int} {a1_0 a1_1:List D} {n2:Int} {l1 l2:List D} {n3 n4:Int} {s1:ByteArray} {l3:List D} {n5:Int} {l4 l5 l6 l7 l8 l9 l10 l11:List D} {n6 n7:Int} {s2:ByteArray} {l12 l13:List D} {n8:Int} {l14 l15:List D} {n9:Int} {l16 l17:List D} {n10 n11:Int} {l18:List D} {n12:Int} {l19:List D} {n13:Int} (e1:o.call 14 [.agg [Al a0_0,Al a0_1],Ai 1048576] []=Ar (Ai n1)) (e2:o.cmp .lss n1 0=false) (e3:o.call 27 [.agg [Al a1_0,Al a1_1],Ai n1] []=Ar (Ai n2)) (e4:o.cmp .lss n2 0=false) (e5:o.call 100017 [.agg [Al a0_0,Al a0_1]] []=Ar (.agg [Al a0_0,Al a0_1])) (e6:o.call 100029 [.agg [Al a1_0,Al a1_1]] []=Ar (.agg [Al a1_0,Al a1_1])) (e7:o.call 28 [.agg [Al a0_0,Al a0_1],.agg [Al a1_0,Al a1_1]] []=Ar (.tup [.agg [Al l1,Al l2],At n3 n4 s1 l3,Ai n5])) (e8:o.call 17 [.agg [Al a0_0,Al a0_1]] []=some ⟨.agg [.arr (0,0) (226,4) none true,.arr (0,1) (249,4) none true],[],[some (.orows (226,4) l4),some (.orows (249,4) l5)]⟩) (e9:o.call 29 [.agg [Al a1_0,Al a1_1]] []=some ⟨.agg [.arr (0,0) (192,3) none true,.arr (0,1) (31,4) none true],[],[Oo l6,Oq l7]⟩) (e10:o.bS l4=l8) (e11:o.bS l5=l9) (e12:o.bS l6=l10) (e13:o.bS l7=l11) (e14:o.call 30 [.agg [Al l8,Al l9],.agg [Al l10,Al l11]] []=some ⟨.tup [.agg [.emp,.emp],.agg [Ai n6,Ai n7,As s2,.arr (0,0) (31,4) none false],Ai 0],[],[Oq l12]⟩) (e15:o.closed l12=true) (e16:o.call 31 [.agg [Al [],Al []],.agg [Al l1,Al l2]] []=Ar (Ab true)) (e17:o.bS l12=l13) (e18:o.call 20 [At n6 n7 s2 l13,At n3 n4 s1 l3] []=Ar (Ab true)) (e19:o.cmp .neq 0 n5=false) (e20:o.call 21 [.agg [Al l8,Al l9],.agg [Al l8,Al l9]] []=Ar (Ab true)) (e21:o.call 31 [.agg [Al l10,Al l11],.agg [Al l10,Al l11]] []=Ar (Ab true)) (e22:o.call 23 [.agg [.arr (1,0) (226,4) none true,.arr (1,1) (249,4) none true],Ai 1] [some (.orows (226,4) l4),some (.orows (249,4) l5)]=some ⟨Ai n8,[some (.orows (226,4) l14),some (.orows (249,4) l15)],[]⟩) (e23:o.call 32 [.agg [.arr (1,0) (192,3) none true,.arr (1,1) (31,4) none true],Ai n8] [Oo l6,Oq l7]=some ⟨Ai n9,[Oo l16,Oq l17],[]⟩) (e24:o.cmp .lss n9 0=false) (e25:o.call 32 [.agg [.emp,.emp],Ai 1] []=Ar (Ai n10)) (e26:o.call 25 [.agg [Ai n6,Ai n7,As s2,.arr (1,0) (31,4) none false],Ai n10] [Oq l12]=some ⟨Ai n11,[Oq l18],[]⟩) (e27:o.call 33 [.agg [Al [],Al []],Ai 1] []=Ar (Ai n12)) (e28:o.cmp .lss n12 0=false) (e29:o.bS l18=l19) (e30:o.call 26 [At n6 n7 s2 l19,Ai n12] []=Ar (Ai n13)) (e31:o.cmp .lss n13 0=false) (e32:o.cmp .neq n13 n11=false):o.call 4 [.agg [Al a0_0,Al a0_1],.agg [Al a1_0,Al a1_1]] []=Ar (Ab true):=by
 refine ho.au ?_
 cbv
 repeat' (first | (rw[e1];try cbv) | (rw[e2];try cbv) | (rw[e3];try cbv) | (rw[e4];try cbv) | (rw[e5];try cbv) | (rw[e6];try cbv) | (rw[e7];try cbv) | (rw[e8];try cbv) | (rw[e9];try cbv) | (rw[e10];try cbv) | (rw[e11];try cbv) | (rw[e12];try cbv) | (rw[e13];try cbv) | (rw[e14];try cbv) | (rw[e15];try cbv) | (rw[e16];try cbv) | (rw[e17];try cbv) | (rw[e18];try cbv) | (rw[e19];try cbv) | (rw[e20];try cbv) | (rw[e21];try cbv) | (rw[e22];try cbv) | (rw[e23];try cbv) | (rw[e24];try cbv) | (rw[e25];try cbv) | (rw[e26];try cbv) | (rw[e27];try cbv) | (rw[e28];try cbv) | (rw[e29];try cbv) | (rw[e30];try cbv) | (rw[e31];try cbv) | (rw[e32];try cbv))
theorem oN {a0_0 a0_1:List D} {n1:Int} {a1_0 a1_1:List D} {n2:Int} {l1 l2:List D} {n3 n4:Int} {s1:ByteArray} {l3:List D} {n5:Int} {l4 l5 l6 l7 l8 l9 l10 l11:List D} {n6:Int} {l12 l13 l14 l15:List D} {n7:Int} {l16 l17:List D} {n8:Int} {l18 l19:List D} {n9:Int} {l20 l21:List D} {n10:Int} {l22 l23:List D} {n11 n12:Int} (e1:o.call 14 [.agg [Al a0_0,Al a0_1],Ai 1048576] []=Ar (Ai n1)) (e2:o.cmp .lss n1 0=false) (e3:o.call 27 [.agg [Al a1_0,Al a1_1],Ai n1] []=Ar (Ai n2)) (e4:o.cmp .lss n2 0=false) (e5:o.call 100017 [.agg [Al a0_0,Al a0_1]] []=Ar (.agg [Al a0_0,Al a0_1])) (e6:o.call 100029 [.agg [Al a1_0,Al a1_1]] []=Ar (.agg [Al a1_0,Al a1_1])) (e7:o.call 28 [.agg [Al a0_0,Al a0_1],.agg [Al a1_0,Al a1_1]] []=Ar (.tup [.agg [Al l1,Al l2],At n3 n4 s1 l3,Ai n5])) (e8:o.call 17 [.agg [Al a0_0,Al a0_1]] []=some ⟨.agg [.arr (0,0) (226,4) none true,.arr (0,1) (249,4) none true],[],[some (.orows (226,4) l4),some (.orows (249,4) l5)]⟩) (e9:o.call 29 [.agg [Al a1_0,Al a1_1]] []=some ⟨.agg [.arr (0,0) (192,3) none true,.arr (0,1) (31,4) none true],[],[Oo l6,Oq l7]⟩) (e10:o.bS l4=l8) (e11:o.bS l5=l9) (e12:o.bS l6=l10) (e13:o.bS l7=l11) (e14:o.call 30 [.agg [Al l8,Al l9],.agg [Al l10,Al l11]] []=some ⟨.tup [.agg [.arr (0,0) (192,3) none false,.arr (0,1) (31,4) none false],.agg [Ai 0,Ai 0,As ⟨#[]⟩,.emp],Ai n6],[],[Oo l12,Oq l13]⟩) (e15:o.closed l12=true) (e16:o.closed l13=true) (e17:o.bS l12=l14) (e18:o.bS l13=l15) (e19:o.call 31 [.agg [Al l14,Al l15],.agg [Al l1,Al l2]] []=Ar (Ab true)) (e20:o.call 20 [At 0 0 ⟨#[]⟩ [],At n3 n4 s1 l3] []=Ar (Ab true)) (e21:o.cmp .neq n6 n5=false) (e22:o.call 21 [.agg [Al l8,Al l9],.agg [Al l8,Al l9]] []=Ar (Ab true)) (e23:o.call 31 [.agg [Al l10,Al l11],.agg [Al l10,Al l11]] []=Ar (Ab true)) (e24:o.call 23 [.agg [.arr (1,0) (226,4) none true,.arr (1,1) (249,4) none true],Ai 1] [some (.orows (226,4) l4),some (.orows (249,4) l5)]=some ⟨Ai n7,[some (.orows (226,4) l16),some (.orows (249,4) l17)],[]⟩) (e25:o.call 32 [.agg [.arr (1,0) (192,3) none true,.arr (1,1) (31,4) none true],Ai n7] [Oo l6,Oq l7]=some ⟨Ai n8,[Oo l18,Oq l19],[]⟩) (e26:o.cmp .lss n8 0=false) (e27:o.call 32 [.agg [.arr (1,0) (192,3) none false,.arr (1,1) (31,4) none false],Ai 1] [Oo l12,Oq l13]=some ⟨Ai n9,[Oo l20,Oq l21],[]⟩) (e28:o.call 25 [.agg [Ai 0,Ai 0,As ⟨#[]⟩,.emp],Ai n9] []=Ar (Ai n10)) (e29:o.bS l20=l22) (e30:o.bS l21=l23) (e31:o.call 33 [.agg [Al l22,Al l23],Ai 1] []=Ar (Ai n11)) (e32:o.cmp .lss n11 0=false) (e33:o.call 26 [At 0 0 ⟨#[]⟩ [],Ai n11] []=Ar (Ai n12)) (e34:o.cmp .lss n12 0=false) (e35:o.cmp .neq n12 n10=false):o.call 4 [.agg [Al a0_0,Al a0_1],.agg [Al a1_0,Al a1_1]] []=Ar (Ab true):=by
 refine ho.au ?_
 cbv
 repeat' (first | (rw[e1];try cbv) | (rw[e2];try cbv) | (rw[e3];try cbv) | (rw[e4];try cbv) | (rw[e5];try cbv) | (rw[e6];try cbv) | (rw[e7];try cbv) | (rw[e8];try cbv) | (rw[e9];try cbv) | (rw[e10];try cbv) | (rw[e11];try cbv) | (rw[e12];try cbv) | (rw[e13];try cbv) | (rw[e14];try cbv) | (rw[e15];try cbv) | (rw[e16];try cbv) | (rw[e17];try cbv) | (rw[e18];try cbv) | (rw[e19];try cbv) | (rw[e20];try cbv) | (rw[e21];try cbv) | (rw[e22];try cbv) | (rw[e23];try cbv) | (rw[e24];try cbv) | (rw[e25];try cbv) | (rw[e26];try cbv) | (rw[e27];try cbv) | (rw[e28];try cbv) | (rw[e29];try cbv) | (rw[e30];try cbv) | (rw[e31];try cbv) | (rw[e32];try cbv) | (rw[e33];try cbv) | (rw[e34];try cbv) | (rw[e35];try cbv))
end
end T2
namespace T2
open Go Go.Vi Go.Proofs
set_option maxRecDepth 100000
def twins:List (TypeId×TypeId):=[(25,37),(22,34),(242,226),(240,216),(388,224),(23,35),(245,249),(49,53),(47,51),(259,192),(26,29),(62,31),(3,3),(9,9)]
theorem FB:KO Tryz.prog twins=true:=by kernel_rfl
def LO:List TypeId:=[37,34,226,216,224,35,249,53,51,192,29,31,3,9]
theorem FC:wA Tryz.prog LO=true:=by kernel_rfl
theorem Ky:∀(n:Nat) (ys:List D),Own Tryz.prog n 29 [.own (31,4) ys]->bQ (aT ys)=ys:=by
 intro n;induction n using Nat.strongRecOn with
 | ind n ih=>
  intro ys h;obtain ⟨zs,m,em,e_,_,v⟩:=kr Tryz.underlying29 qw h;injection e_ with e_;injection e_ with _ e_;subst e_;rw[gh,eG,List.map_map];refine (List.map_congr_left (g:=id) λy hy=> ?_).trans (List.map_id _);obtain ⟨f1,f2⟩:=v y hy;rw[show bY Tryz.prog 31=true by unfold bY;rw[Tryz.underlying31]]at f2;cases m with
  | zero=>simp[Own]at f1
  | succ m=>
   obtain ⟨d0,d1,d2,d3,e,o0,o1,o2,o3⟩:=Fu f1;obtain ⟨i0,e0,_⟩:=fu Tryz.underlying3 o0;obtain ⟨i1,e1,_⟩:=fu Tryz.underlying3 o1;obtain ⟨s2,e2,_⟩:=su Tryz.underlying9 o2;obtain ⟨l,_,_,e3,_⟩:=kr Tryz.underlying29 qw o3;injection e0 with e0;injection e1 with e1;injection e2 with e2;injection e3 with e3;subst e0 e1 e2 e3;rw[cT f2,e];show oK (bn _)=_;simp only[bn,aT,oK,bQ,ih m (by omega) l o3,id]
theorem NT {n:Nat} {ys:List D} (h:Own Tryz.prog n 51 [.own (192,3) ys]):bQ (aT ys)=ys:=by
 obtain ⟨zs,m,em,e_,_,v⟩:=kr Tryz.underlying51 tN h;injection e_ with e_;injection e_ with _ e_;subst e_;rw[gh,eG,List.map_map];refine (List.map_congr_left (g:=id) λy hy=> ?_).trans (List.map_id _);obtain ⟨f1,f2⟩:=v y hy;rw[show bY Tryz.prog 192=true by unfold bY;rw[Tryz.underlying192]]at f2;cases m with
 | zero=>simp[Own]at f1
 | succ m=>
  obtain ⟨d0,d1,d2,e,o0,o1,o2⟩:=Fx f1;obtain ⟨i0,e0,_⟩:=fu Tryz.underlying3 o0;obtain ⟨i1,e1,_⟩:=fu Tryz.underlying3 o1;obtain ⟨l,_,_,e2,_⟩:=kr Tryz.underlying29 qw o2;injection e0 with e0;injection e1 with e1;injection e2 with e2;subst e0 e1 e2;rw[cT f2,e];show oK (bn _)=_;simp only[bn,aT,oK,bQ,Ky m l o2,id]
def VO (fs st:List D):Prop:=∃N,Own Tryz.prog (N+1) 53 [.own (192,3) (bQ fs),.own (31,4) (bQ st)]/\aT (bQ fs)=fs/\aT (bQ st)=st/\fs.length+cQ fs+(st.length+cQ st)<=140000000000000000
section
variable {o:aJ} (ho:aR cF bB o)
theorem FD {x:D} (h:Sl o x):Own Tryz.prog 16 31 (oK x).cells/\(oK x).many=true/\cnt x<=cB 8:=by
 rcases h with rfl | h
 ·exact ⟨yN ⟨jt Tryz.underlying3 (by decide),jt Tryz.underlying3 (by decide),wH Tryz.underlying9 (by decide),iA Tryz.underlying29 qw (by decide) λx hx=>by cases hx⟩,rfl,by decide⟩
 ·exact ⟨(yP h).1,(yP h).2,yQ h⟩
theorem CV {l:List D} (hn:l.length<=maxLen) (h:∀x∈l,Sl o x):Own Tryz.prog 17 29 [.own (31,4) (bQ l)]:=by
 refine iA Tryz.underlying29 qw (by rw[gR];exact hn) λx hx=> ?_
 rw[gh]at hx;obtain ⟨y,hy,rfl⟩:=List.mem_map.1 hx;obtain ⟨a,b,_⟩:=FD (h y hy);exact ⟨a,by rw[b];unfold bY;rw[Tryz.underlying31]⟩
include ho
theorem IU {fns ps:List D} (hK:f8 fns ps) (hB:cJ o fns ps true=true) {R:List Fr} {f:Fr} {st:List D} (h:Inv o fns R f st):VO (gS R f) st:=by
 have h60:cB 8<=2847000000000:=by decide
 have key:∀g:Fr,sL o fns g->(0<=g.1/\g.1<=1048576)/\(0<=g.2.1/\g.2.1<=1500)/\(g.2.2.length:Int)<=400/\∀t∈g.2.2,Sl o t:=λg hg=>by
  obtain ⟨nm,a,sl,xs,op,N,s,to,_,_,_,_,_,h0,h1,h2,hS,hsl,hSl,_⟩:=CH ho hK hB hg;have:=hK.2.1;exact ⟨⟨hg.1,by have:=hg.2.1;omega⟩,⟨h0,by omega⟩,by omega,hSl⟩
 have hall:∀g∈f::R,sL o fns g:=λg hg=>by
  rcases List.mem_cons.1 hg with h1 | h1
  ·rw[h1];exact h.2.2.1
  ·exact (h.2.1 g h1).1
 have hmem:∀x∈gS R f,∃g∈f::R,x=dS g:=λx hx=>by
  rcases List.mem_append.1 hx with h1 | h1
  ·obtain ⟨g,hg,rfl⟩:=List.mem_map.1 h1;exact ⟨g,List.mem_cons_of_mem _ (List.mem_reverse.1 hg),rfl⟩
  ·rw[List.mem_singleton.1 h1];exact ⟨f,by simp,rfl⟩
 have hn:(gS R f).length=R.length+1:=by simp[gS]
 have h40:=h.1;have s1:=yJ ho hK hB h.2.1;have s2:=EV ho hK hB h.2.2.1;have s3:=h.2.2.2.1;have e0:∀i:Int,0<=i->i<=1000000000000->(Lit.int .i64 i).wf=true:=λi a b=>by simp[Lit.wf,IntKind.min,IntKind.max,IntKind.signed,IntKind.bits];omega
 have c1:cQ (gS R f)<=(gS R f).length*1139000000000000:=rG λx hx=>by
  obtain ⟨g,hg,rfl⟩:=hmem x hx;obtain ⟨_,_,k1,k2⟩:=key g (hall g hg);have hc:=rG λy hy=>(FD (k2 y hy)).2.2
  have h2:(g.2.2.length:Int)*cB 8<=400*cB 8:=Int.mul_le_mul_of_nonneg_right k1 (Da 8);show cnt (.agg [.int .i64 g.1,.int .i64 g.2.1,.lst g.2.2])<=_;simp only[cnt,cQ];omega
 have c2:=rG λy hy=>yQ (h.2.2.2.2 y hy)
 have c3:(st.length:Int)*cB 8<=12000*cB 8:=Int.mul_le_mul_of_nonneg_right (by omega) (Da 8);have c4:((gS R f).length:Int)*1139000000000000<=40*1139000000000000:=Int.mul_le_mul_of_nonneg_right (by omega) (by omega);refine ⟨19,yO ⟨iA Tryz.underlying51 tN (by rw[gR,hn];unfold maxLen;omega) λx hx=> ?_,mO _ _ _ (mO _ _ _ (CV (by unfold maxLen;omega) λx hx=> .inr (h.2.2.2.2 x hx)))⟩,?_,pE λx hx=>iS (h.2.2.2.2 x hx),by omega⟩
 ·rw[gh]at hx;obtain ⟨y,hy,rfl⟩:=List.mem_map.1 hx;obtain ⟨g,hg,rfl⟩:=hmem y hy;obtain ⟨⟨a0,a1⟩,⟨b0,b1⟩,k1,k2⟩:=key g (hall g hg);exact ⟨Af ⟨jt Tryz.underlying3 (e0 _ a0 (by omega)),jt Tryz.underlying3 (e0 _ b0 (by omega)),CV (by unfold maxLen;omega) k2⟩,by unfold bY;rw[Tryz.underlying192];rfl⟩
 ·refine qu λx hx=> ?_
  obtain ⟨g,hg,rfl⟩:=hmem x hx;obtain ⟨_,_,_,k2⟩:=key g (hall g hg);show D.agg [.int .i64 g.1,.int .i64 g.2.1,.lst (aT (bQ g.2.2))]=dS g;rw[pE λt ht=>CF (k2 t ht)];rfl
theorem IV {n:Nat} {ds:List D} (h:Fits Tryz.prog n 49 ds) (hs:lg 1048576 ds):∃fs st,ds=[.lst fs,.lst st]/\Iy n fs st:=by
 cases n with
 | zero=>simp[Fits]at h
 | succ n=>
  obtain ⟨c0,c1,rfl,f0,f1⟩:=vA h;obtain ⟨fs,m,em,e_,w,v⟩:=aS Tryz.underlying47 f0;injection e_ with e_;subst e_;subst em;obtain ⟨st,_,_,e_,_⟩:=aS Tryz.underlying26 f1;injection e_ with e_;subst e_;have hst:=Ah ho f1 hs.2.1;simp only[lg,Sm,kq]at hs;refine ⟨fs,st,rfl,λx hx=> ?_,by omega,λt ht=>lq (hst t ht),by omega⟩;obtain ⟨g1,g2⟩:=v x hx;have gs:=jG (hs.1.2 x hx);rw[show bY Tryz.prog 259=true by unfold bY;rw[Tryz.underlying259]]at g2;obtain ⟨F,p,S,_,e,_⟩:=(mD ho m).2.2.2.2.2.2.2.2.2.1 x.cells g1 gs;rw[cT g2,e];rw[e]at g1 gs;cases m with
  | zero=>simp[Fits]at g1
  | succ m=>
   obtain ⟨d0,d1,d2,e2,_,_,f2⟩:=rD g1;simp only[List.cons.injEq,and_true]at e2;obtain ⟨rfl,rfl,rfl⟩:=e2;have hS:=Ah ho f2 gs.2.2.1;simp only[lg,Sm,kq]at gs;exact ⟨F,p,S,rfl,by omega,λt ht=>lq (lq (lq (hS t ht)))⟩
theorem IW {fs st:List D} (h:VO fs st):∃k2 z0 z1,o.call 32 [.agg [.arr (1,0) (192,3) none false,.arr (1,1) (31,4) none false],Ai 1] [Oo (bQ fs),Oq (bQ st)]=some ⟨Ai k2,[Oo z0,Oq z1],[]⟩/\o.call 33 [.agg [Al (aT z0),Al (aT z1)],Ai 1] []=Ar (Ai k2)/\0<=k2/\k2<=4600000000000000000:=by
 obtain ⟨N,hO,fa,fb,hc⟩:=h;obtain ⟨_,_,e_,oA,oB⟩:=Kx hO;simp only[List.cons.injEq,and_true]at e_;obtain ⟨rfl,rfl⟩:=e_;have cA:cQ (bQ fs)=cQ fs:=by conv=>rhs;rw[<-fa,eJ]
 have cB:cQ (bQ st)=cQ st:=by conv=>rhs;rw[<-fb,eJ]
 have lA:=gR fs;have lB:=gR st;have a0:=dh fs;have a1:=dh st;obtain ⟨z0,k1,C0,H0,q0,r0⟩:=(lJ ho (T2.mt ho) N).2.2.2.1 (bQ fs) oA 1 false (by omega) (by simp only[cnt];omega);simp only[cnt]at r0;obtain ⟨z1,k2,C1,H1,q1,r1⟩:=(lJ ho (T2.mt ho) N).1 (bQ st) oB k1 false (by omega) (by simp only[cnt];omega);simp only[cnt]at r1;exact ⟨k2,z0,z1,w6 ho C0 C1,rI ho H0 (pY ho (by omega)) H1 (pY ho (by omega)),by omega,by omega⟩
theorem CW {n:Nat} {fns ps:List D} (hf:Fits Tryz.prog n 25 [.lst fns,.lst ps]) (hs:lg 1048576 [.lst fns,.lst ps]):o.call 100017 [.agg [Al fns,Al ps]] []=Ar (.agg [Al fns,Al ps]):=by
 cases n with
 | zero=>simp[Fits]at hf
 | succ n=>
  obtain ⟨_,_,e_,f0,f1⟩:=vz hf;simp only[List.cons.injEq,and_true]at e_;obtain ⟨rfl,rfl⟩:=e_;obtain ⟨ys,e1,e3,_⟩:=(mD ho n).2.2.2.1 _ f0 hs.1;obtain ⟨zs,e2,e4,_⟩:=(mD ho n).2.2.2.2.1 _ f1 hs.2.1;exact vJ ho e1 e2 ((ho.bS _).trans e3) ((ho.bS _).trans e4)
theorem Kz {n:Nat} {fs st:List D} (hf:Fits Tryz.prog n 49 [.lst fs,.lst st]) (hs:lg 1048576 [.lst fs,.lst st]):o.call 100029 [.agg [Al fs,Al st]] []=Ar (.agg [Al fs,Al st]):=by
 cases n with
 | zero=>simp[Fits]at hf
 | succ n=>
  obtain ⟨_,_,e_,f0,f1⟩:=vA hf;simp only[List.cons.injEq,and_true]at e_;obtain ⟨rfl,rfl⟩:=e_;obtain ⟨ys,e1,e3,_⟩:=(mD ho n).2.2.2.2.2.2.1 _ f0 hs.1;obtain ⟨zs,e2,e4,_⟩:=(mD ho n).2.1 _ f1 hs.2.1;exact yR ho e1 e2 ((ho.bS _).trans e3) ((ho.bS _).trans e4)
theorem BI {n n2:Nat} {ds vs:List D} (hf:Fits Tryz.prog n 25 ds) (hv:Fits Tryz.prog n2 49 vs):o.call 4 [.agg (ds.map .d),.agg (vs.map .d)] []=Ar (Ab true):=by
 obtain ⟨left,e1,hl⟩:=(FX ho n).1 ds 1048576 hf (by omega) (Int.le_refl _);obtain ⟨fns,ps,rfl⟩:∃fns ps,ds=[.lst fns,.lst ps]:=by
  cases n with
  | zero=>simp[Fits]at hf
  | succ n=>
   obtain ⟨c0,c1,rfl,g0,g1⟩:=vz hf;obtain ⟨fns,_,_,e_,_⟩:=aS Tryz.underlying22 g0;injection e_ with e_;subst e_;obtain ⟨ps,_,_,e_,_⟩:=aS Tryz.underlying23 g1;injection e_ with e_;subst e_;exact ⟨fns,ps,rfl⟩
 obtain ⟨fs,st,rfl⟩:∃fs st,vs=[.lst fs,.lst st]:=by
  cases n2 with
  | zero=>simp[Fits]at hv
  | succ n=>
   obtain ⟨c0,c1,rfl,g0,g1⟩:=vA hv;obtain ⟨fs,_,_,e_,_⟩:=aS Tryz.underlying47 g0;injection e_ with e_;subst e_;obtain ⟨st,_,_,e_,_⟩:=aS Tryz.underlying26 g1;injection e_ with e_;subst e_;exact ⟨fs,st,rfl⟩
 simp only[List.map_cons,List.map_nil]at e1 |-;rcases hl with rfl | ⟨hl0,hl1,hsm⟩
 ·exact pZ ho e1 (Jl ho (by omega))
 have e2:=pY ho hl0;obtain ⟨r2,e3,hr⟩:=(FX ho n2).2.2.1 _ left hv hl0 (by have:=dh [D.lst fns,.lst ps];omega);simp only[List.map_cons,List.map_nil]at e3;rcases hr with rfl | ⟨hr0,hr1,hsx⟩
 ·exact p9 ho e1 e2 e3 (Jl ho (by omega))
 have e4:=pY ho hr0;obtain ⟨_,_,he,hK⟩:=DQ ho hf hsm;simp only[List.cons.injEq,D.lst.injEq,and_true]at he;obtain ⟨rfl,rfl⟩:=he;obtain ⟨_,_,he,hV⟩:=IV ho hv hsx;simp only[List.cons.injEq,D.lst.injEq,and_true]at he;obtain ⟨rfl,rfl⟩:=he;obtain ⟨x0,y0,x1,y1,ed,e8,hO,fA,fB⟩:=(mD ho n).1 _ hf hsm;simp only[List.cons.injEq,D.lst.injEq,and_true]at ed;obtain ⟨rfl,rfl⟩:=ed;obtain ⟨x0,v0,x1,v1,ed,e9,hO2,fC,fD⟩:=(mD ho n2).2.2.1 _ hv hsx;simp only[List.cons.injEq,D.lst.injEq,and_true]at ed;obtain ⟨rfl,rfl⟩:=ed;simp only[List.map_cons,List.map_nil]at e8 e9;have ec:=(vD ho n).2.1 _ (xX FB n 25 37 _ (by decide) hf);have et:=(vD ho n2).2.2.2.1 _ (xX FB n2 49 53 _ (by decide) hv);simp only[List.map_cons,List.map_nil]at ec et;have cA:cQ y0=cQ fns:=by rw[<-fA,eJ]
 have lA:y0.length=fns.length:=by rw[<-fA,ct]
 have cB':cQ y1=cQ ps:=by rw[<-fB,eJ]
 have lB:y1.length=ps.length:=by rw[<-fB,ct]
 have cC:cQ v0=cQ fs:=by rw[<-fC,eJ]
 have lC:v0.length=fs.length:=by rw[<-fC,ct]
 have cD:cQ v1=cQ st:=by rw[<-fD,eJ]
 have lD:v1.length=st.length:=by rw[<-fD,ct]
 have a0:=dh fns;have a1:=dh ps;have a2:=dh fs;have a3:=dh st;simp only[cQ,cnt]at hl1 hr1;cases n with
 | zero=>simp[Fits]at hf
 | succ n=>
 cases n2 with
 | zero=>simp[Fits]at hv
 | succ n2=>
 obtain ⟨d0,d1,e_,oA,oB⟩:=NS hO;simp only[List.cons.injEq,and_true]at e_;obtain ⟨rfl,rfl⟩:=e_;have hO3:=hO2;obtain ⟨d0,d1,e_,oC,oD⟩:=Kx hO2;simp only[List.cons.injEq,and_true]at e_;obtain ⟨rfl,rfl⟩:=e_;obtain ⟨z0,k1,C0,_,q0,r0⟩:=(lJ ho (T2.mt ho) n).2.1 y0 oA 1 true (by omega) (by simp only[cnt];omega);simp only[cnt]at r0;obtain ⟨z1,k2,C1,_,q1,r1⟩:=(lJ ho (T2.mt ho) n).2.2.1 y1 oB k1 true (by omega) (by simp only[cnt];omega);simp only[cnt]at r1;obtain ⟨z2,k3,C2,_,q2,r2'⟩:=(lJ ho (T2.mt ho) n2).2.2.2.1 v0 oC k2 true (by omega) (by simp only[cnt];omega);simp only[cnt]at r2';obtain ⟨z3,k4,C3,_,q3,r3⟩:=(lJ ho (T2.mt ho) n2).1 v1 oD k3 true (by omega) (by simp only[cnt];omega);have m0:=vH ho C0 C1;have m1:=yS ho C2 C3;have hVO:VO fs st:=by
  have w0:=NT oC;have w1:=Ky _ _ oD;rw[fC]at w0;rw[fD]at w1;exact ⟨n2,by rw[w0,w1];exact hO3,by rw[w0,fC],by rw[w1,fD],by omega⟩
 obtain ⟨c,k,m,s',l',fs',st',eI,eS,hr⟩:=z6 ho hK hV;rcases eI with ⟨hc0,⟨rfl,rfl,rfl,rfl⟩,e14⟩ | ⟨rfl,rfl,rfl,hRt,e14⟩
 ·have hVO':VO fs' st':=by
   rcases hr with ⟨rfl,rfl⟩ | ⟨rfl,rfl⟩ | ⟨hB,R',f',rfl,hI⟩
   ·exact hVO
   ·exact ⟨1,yO ⟨iA Tryz.underlying51 tN (by decide) λx hx=>(by cases hx),iA Tryz.underlying29 qw (by decide) λx hx=>by cases hx⟩,rfl,rfl,by decide⟩
   ·exact IU ho hK hB hI
  have hVO2:=hVO';obtain ⟨N,hw,wa,wb,_⟩:=hVO2;have hq:=A8 _ _ _ hw;simp only[aT,bn,wa,wb]at hq;have q4:=(vD ho _).2.2.2.1 _ hq;simp only[List.map_cons,List.map_nil]at q4;have q5:=(vD ho 2).1 [.int .i64 0,.int .i64 0,.str ⟨#[]⟩,.lst []] (Fv ⟨(by simp only[Fits,Tryz.underlying3];exact ⟨0,rfl,by decide⟩),(by simp only[Fits,Tryz.underlying3];exact ⟨0,rfl,by decide⟩),(by simp only[Fits,Tryz.underlying9];exact ⟨_,rfl,by decide⟩),pu Tryz.underlying29 (by decide) (λx hx=>by cases hx)⟩);simp only[List.map_cons,List.map_nil]at q5;have hcl:=wG FC _ _ _ (by decide) hw;simp only[cP,fY,af,Bool.and_true]at hcl;obtain ⟨j,w0,w1,M,H,j0,j1⟩:=IW ho hVO';have h4:o.call 97 [Al [],Ai j] []=Ar (Ai j):=sQ ho [] j j (by decide) rfl;exact oN ho e1 e2 e3 e4 (CW ho hf hsm) (Kz ho hv hsx) eS e8 e9 (by rw[ho.bS];exact fA) (by rw[ho.bS];exact fB) (by rw[ho.bS];exact fC) (by rw[ho.bS];exact fD) e14
   (by rw[ho.closed];exact hcl.1) (by rw[ho.closed];exact hcl.2) (by rw[ho.bS];exact wa) (by rw[ho.bS];exact wb) q4 q5 (eq_int ho _) ec et m0 m1 (pY ho (by omega)) M (uq ho (mE ho (lM ho))) (ho.bS w0) (ho.bS w1) H (pY ho (by omega)) (oL ho h4 (pY ho (by omega))) (pY ho (by omega)) (eq_int ho _)
 ·have hw:=(yP hRt).1;have hz:aT (bQ l')=l':=by
   obtain ⟨m,_,_,hl⟩:=iC (iS hRt);exact pE hl.2
  have hq:=A8 _ _ _ hw;obtain ⟨d0,d1,d2,d3,e_,_,_,_,o3⟩:=Fu hw;simp only[oK,bQ,D.cells,List.cons.injEq,and_true]at e_;obtain ⟨rfl,rfl,rfl,rfl⟩:=e_;simp only[oK,bQ,D.cells,aT,bn,hz]at hq;have q4:=(vD ho _).1 _ hq;simp only[List.map_cons,List.map_nil]at q4;have q5:=(vD ho 2).2.2.2.1 [.lst [],.lst []] (Fw ⟨pu Tryz.underlying51 (by decide) (λx hx=>by cases hx),pu Tryz.underlying29 (by decide) (λx hx=>by cases hx)⟩);simp only[List.map_cons,List.map_nil]at q5;have hc:=yQ hRt;simp only[cnt,cQ]at hc;have h60:cB 8<=2847000000000:=by decide
  have ce:cQ (bQ l')=cQ l':=by rw[<-eJ (bQ l'),hz]
  have le:(bQ l').length=l'.length:=gR l';have a3:=dh l';obtain ⟨z5,k5,C5,H5,q5',r5⟩:=(lJ ho (T2.mt ho) _).1 (bQ l') o3 1 false (by omega) (by simp only[cnt];omega);have h1:o.call 108 [Al [],Ai 1] []=Ar (Ai 1):=vE ho [] 1 1 (by decide) rfl;have h2:o.call 97 [Al [],Ai 1] []=Ar (Ai 1):=sQ ho [] 1 1 (by decide) rfl;exact oM ho e1 e2 e3 e4 (CW ho hf hsm) (Kz ho hv hsx) eS e8 e9 (by rw[ho.bS];exact fA) (by rw[ho.bS];exact fB) (by rw[ho.bS];exact fC) (by rw[ho.bS];exact fD) e14
   (by rw[ho.closed];have:=wG FC _ _ _ (by decide) o3;simpa [cP,fY]using this) q5 (by rw[ho.bS];exact hz) q4 (eq_int ho _) ec et m0 m1 (pY ho (by omega)) (w7 ho (rH ho (qy ho)) (mE ho (lM ho))) (vI ho C5) (rI ho h1 (pY ho (by omega)) h2 (pY ho (by omega))) (pY ho (by omega)) (ho.bS z5) (oL ho H5 (pY ho (by omega))) (pY ho (by omega)) (eq_int ho _)
end
end T2
