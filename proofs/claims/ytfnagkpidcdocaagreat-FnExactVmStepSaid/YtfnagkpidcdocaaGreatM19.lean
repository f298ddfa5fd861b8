import Derived.Test.YtfnagkpidcdocaaGreatM17
set_option linter.all false
namespace T2
open Go Go.Vi
set_option maxRecDepth 100000
set_option maxHeartbeats 4000000
def xH (s:ByteArray):Bool:=decide (s=⟨#[99,97,115,101]⟩) || (decide (s=⟨#[111,102]⟩) || decide (s=⟨#[101,110,100]⟩))
def gD (o:aJ) (s:ByteArray):Bool:=Bl o s&& !xH s
def j9 (s:ByteArray):Bool:=decide (s=⟨#[43]⟩) || (decide (s=⟨#[45]⟩) || (decide (s=⟨#[42]⟩) || (decide (s=⟨#[61,61]⟩) || decide (s=⟨#[60]⟩))))
def lY (o:aJ) (k n:Int) (s:ByteArray) (c:Int):Bool:=
 if k=1 then iK n 0 1000000000000&&decide (s=⟨#[]⟩)&&decide (c=0)
 else if k=2 then gD o s&&decide (n=0)&&decide (c=0)
 else if k=4 then decide (n=0)&&decide (s=⟨#[]⟩)&&decide (c<=20)
 else if k=5 then decide (n=0)&&decide (s=⟨#[]⟩)&&decide (c<=20)
 else if k=6 then decide (n=0)&&decide (s=⟨#[]⟩)&&iK c 2 6
 else false
def gT (o:aJ) (k n:Int) (s:ByteArray) (c sl:Int):Bool:=
 if k=3 then decide (s=⟨#[]⟩)&&decide (c=0)&&iK n (-1) (sl-1)else lY o k n s c
section
variable {o:aJ} (ho:aR cF bB o)
include ho
theorem O5 (a0:ByteArray):o.call 359 [As a0] []=Ar (Ab (xH a0)):=by
 refine ho.aC λR Q=> ?_
 conv=>lhs;cbv
 rcases aP ho a0 ⟨#[99,97,115,101]⟩with ⟨e1,g1⟩|⟨e1,g1⟩<;>(conv=>lhs;rw[e1];cbv)
 ·rcases aP ho a0 ⟨#[111,102]⟩with ⟨e2,g2⟩|⟨e2,g2⟩<;>(conv=>lhs;rw[e2];cbv)
  ·rcases aP ho a0 ⟨#[101,110,100]⟩with ⟨e3,g3⟩|⟨e3,g3⟩<;>(conv=>lhs;rw[e3];cbv)
   all_goals
    subst Q;exact (Eq.refl _).trans (by simp_all [gD,xH,j9])
  ·subst Q;exact (Eq.refl _).trans (by simp_all [gD,xH,j9])
 ·subst Q;exact (Eq.refl _).trans (by simp_all [gD,xH,j9])
theorem uH (a0:ByteArray) (ha:(a0.size:Int)<=9000000000000000000):o.call 278 [As a0] []=Ar (Ab (gD o a0)):=by
 refine ho.aC λR Q=> ?_
 conv=>lhs;cbv
 cases e1:Bl o a0
 ·conv=>lhs;rw[yh ho a0 (by omega),e1];cbv
  subst Q;exact (Eq.refl _).trans (by simp_all [gD,xH,j9])
 ·conv=>lhs;rw[yh ho a0 (by omega),e1];cbv
  rcases qk ho a0 ⟨#[99,97,115,101]⟩with ⟨e3,g3⟩|⟨e3,g3⟩<;>(conv=>lhs;rw[e3];cbv)
  ·subst Q;exact (Eq.refl _).trans (by simp_all [gD,xH,j9])
  ·rcases qk ho a0 ⟨#[111,102]⟩with ⟨e4,g4⟩|⟨e4,g4⟩<;>(conv=>lhs;rw[e4];cbv)
   ·subst Q;exact (Eq.refl _).trans (by simp_all [gD,xH,j9])
   ·rcases qk ho a0 ⟨#[101,110,100]⟩with ⟨e5,g5⟩|⟨e5,g5⟩<;>(conv=>lhs;rw[e5];cbv)
    all_goals
     subst Q;exact (Eq.refl _).trans (by simp_all [gD,xH,j9])
theorem pG (a0:ByteArray) (ha:(a0.size:Int)<=9000000000000000000):o.call 316 [As a0] []=Ar (Ab (gD o a0)):=by
 refine ho.aC λR Q=> ?_
 conv=>lhs;cbv
 cases e1:Bl o a0
 ·conv=>lhs;rw[yj ho a0 (by omega),e1];cbv
  subst Q;exact (Eq.refl _).trans (by simp_all [gD])
 ·conv=>lhs;rw[yj ho a0 (by omega),e1];cbv
  cases e3:xH a0;all_goals
   conv=>lhs;rw[O5 ho,e3];cbv
   subst Q;exact (Eq.refl _).trans (by simp_all [gD])
theorem Fk (a0:ByteArray):o.call 343 [As a0] []=Ar (Ab (j9 a0)):=by
 refine ho.aC λR Q=> ?_
 conv=>lhs;cbv
 rcases aP ho a0 ⟨#[43]⟩with ⟨e1,g1⟩|⟨e1,g1⟩<;>(conv=>lhs;rw[e1];cbv)
 ·rcases aP ho a0 ⟨#[45]⟩with ⟨e2,g2⟩|⟨e2,g2⟩<;>(conv=>lhs;rw[e2];cbv)
  ·rcases aP ho a0 ⟨#[42]⟩with ⟨e3,g3⟩|⟨e3,g3⟩<;>(conv=>lhs;rw[e3];cbv)
   ·rcases aP ho a0 ⟨#[61,61]⟩with ⟨e4,g4⟩|⟨e4,g4⟩<;>(conv=>lhs;rw[e4];cbv)
    ·rcases aP ho a0 ⟨#[60]⟩with ⟨e5,g5⟩|⟨e5,g5⟩<;>(conv=>lhs;rw[e5];cbv)
     all_goals
      subst Q;exact (Eq.refl _).trans (by simp_all [gD,xH,j9])
    ·subst Q;exact (Eq.refl _).trans (by simp_all [gD,xH,j9])
   ·subst Q;exact (Eq.refl _).trans (by simp_all [gD,xH,j9])
  ·subst Q;exact (Eq.refl _).trans (by simp_all [gD,xH,j9])
 ·subst Q;exact (Eq.refl _).trans (by simp_all [gD,xH,j9])
theorem yM (a0:ByteArray):o.call 360 [As a0] []=Ar (Ab (j9 a0)):=by
 refine ho.aC λR Q=> ?_
 conv=>lhs;cbv
 rcases aP ho a0 ⟨#[43]⟩with ⟨e1,g1⟩|⟨e1,g1⟩<;>(conv=>lhs;rw[e1];cbv)
 ·rcases aP ho a0 ⟨#[45]⟩with ⟨e2,g2⟩|⟨e2,g2⟩<;>(conv=>lhs;rw[e2];cbv)
  ·rcases aP ho a0 ⟨#[42]⟩with ⟨e3,g3⟩|⟨e3,g3⟩<;>(conv=>lhs;rw[e3];cbv)
   ·rcases aP ho a0 ⟨#[61,61]⟩with ⟨e4,g4⟩|⟨e4,g4⟩<;>(conv=>lhs;rw[e4];cbv)
    ·rcases aP ho a0 ⟨#[60]⟩with ⟨e5,g5⟩|⟨e5,g5⟩<;>(conv=>lhs;rw[e5];cbv)
     all_goals
      subst Q;exact (Eq.refl _).trans (by simp_all [gD,xH,j9])
    ·subst Q;exact (Eq.refl _).trans (by simp_all [gD,xH,j9])
   ·subst Q;exact (Eq.refl _).trans (by simp_all [gD,xH,j9])
  ·subst Q;exact (Eq.refl _).trans (by simp_all [gD,xH,j9])
 ·subst Q;exact (Eq.refl _).trans (by simp_all [gD,xH,j9])
theorem uI (a0 a1:Int) (a2:ByteArray) (a3:Int) (h3:a0≠3) (h6:a0<=6) (hs:(a2.size:Int)<=9000000000000000000):o.call 392 [Ai a0,Ai a1,As a2,Ai a3] []=Ar (Ab (lY o a0 a1 a2 a3)):=by
 refine ho.aC λR Q=> ?_
 conv=>lhs;cbv
 rcases aj ho a0 1 with ⟨e1,g1⟩|⟨e1,g1⟩<;>(conv=>lhs;rw[e1];cbv)
 ·rcases aj ho a0 2 with ⟨e2,g2⟩|⟨e2,g2⟩<;>(conv=>lhs;rw[e2];cbv)
  ·conv=>lhs;simp (disch:=omega) only [bC ho];cbv
   rcases aj ho a0 4 with ⟨e4,g4⟩|⟨e4,g4⟩<;>(conv=>lhs;rw[e4];cbv)
   ·rcases aj ho a0 5 with ⟨e5,g5⟩|⟨e5,g5⟩<;>(conv=>lhs;rw[e5];cbv)
    ·rcases aj ho a0 6 with ⟨e6,g6⟩|⟨e6,g6⟩<;>(conv=>lhs;rw[e6];cbv)
     ·iterate 3 (conv=>lhs;simp (disch:=omega) only [bC ho];cbv)
      subst Q;exact (Eq.refl _).trans (by clear h6;simp_all [lY])
     ·rcases aj ho a1 0 with ⟨e7,g7⟩|⟨e7,g7⟩<;>(conv=>lhs;rw[e7];cbv)
      ·subst Q;exact (Eq.refl _).trans (by clear h6;simp_all [lY])
      ·rcases aP ho a2 ⟨#[]⟩with ⟨e8,g8⟩|⟨e8,g8⟩<;>(conv=>lhs;rw[e8];cbv)
       ·subst Q;exact (Eq.refl _).trans (by clear h6;simp_all [lY])
       ·rcases aN a3 2 6 with ⟨e9,g9⟩|⟨e9,g9⟩
        all_goals
         conv=>lhs;rw[av ho,e9];cbv
         subst Q;exact (Eq.refl _).trans (by clear h6;simp_all [lY])
    ·rcases aj ho a1 0 with ⟨e6,g6⟩|⟨e6,g6⟩<;>(conv=>lhs;rw[e6];cbv)
     ·subst Q;exact (Eq.refl _).trans (by clear h6;simp_all [lY])
     ·rcases aP ho a2 ⟨#[]⟩with ⟨e7,g7⟩|⟨e7,g7⟩<;>(conv=>lhs;rw[e7];cbv)
      ·subst Q;exact (Eq.refl _).trans (by clear h6;simp_all [lY])
      ·rcases jT ho a3 20 with ⟨e8,g8⟩|⟨e8,g8⟩<;>(conv=>lhs;rw[e8];cbv)
       all_goals
        subst Q;exact (Eq.refl _).trans (by clear h6;simp_all [lY])
   ·rcases aj ho a1 0 with ⟨e5,g5⟩|⟨e5,g5⟩<;>(conv=>lhs;rw[e5];cbv)
    ·subst Q;exact (Eq.refl _).trans (by clear h6;simp_all [lY])
    ·rcases aP ho a2 ⟨#[]⟩with ⟨e6,g6⟩|⟨e6,g6⟩<;>(conv=>lhs;rw[e6];cbv)
     ·subst Q;exact (Eq.refl _).trans (by clear h6;simp_all [lY])
     ·rcases jT ho a3 20 with ⟨e7,g7⟩|⟨e7,g7⟩<;>(conv=>lhs;rw[e7];cbv)
      all_goals
       subst Q;exact (Eq.refl _).trans (by clear h6;simp_all [lY])
  ·rcases aj ho a1 0 with ⟨e3,g3⟩|⟨e3,g3⟩<;>(conv=>lhs;rw[e3];cbv)
   ·subst Q;exact (Eq.refl _).trans (by clear h6;simp_all [lY])
   ·cases he4:gD o a2<;>(conv=>lhs;rw[uH ho a2 (by omega),he4];cbv)
    ·subst Q;try rw[he4]
     exact (Eq.refl _).trans (by clear h6;simp_all [lY])
    ·rcases aj ho a3 0 with ⟨e5,g5⟩|⟨e5,g5⟩<;>(conv=>lhs;rw[e5];cbv)
     all_goals
      subst Q;try rw[he4]
      exact (Eq.refl _).trans (by clear h6;simp_all [lY])
 ·rcases aN a1 0 1000000000000 with ⟨e2,g2⟩|⟨e2,g2⟩
  ·conv=>lhs;rw[av ho,e2];cbv
   subst Q;exact (Eq.refl _).trans (by clear h6;simp_all [lY])
  ·conv=>lhs;rw[av ho,e2];cbv
   rcases aP ho a2 ⟨#[]⟩with ⟨e4,g4⟩|⟨e4,g4⟩<;>(conv=>lhs;rw[e4];cbv)
   ·subst Q;exact (Eq.refl _).trans (by clear h6;simp_all [lY])
   ·rcases aj ho a3 0 with ⟨e5,g5⟩|⟨e5,g5⟩<;>(conv=>lhs;rw[e5];cbv)
    all_goals
     subst Q;exact (Eq.refl _).trans (by clear h6;simp_all [lY])
theorem CP (a0_0 a0_1:Int) (a0_2:ByteArray) (a0_3:List D) (a1:Int) (h1: -1000000000000<=a1/\a1<=1000000000000) (hs:(a0_2.size:Int)<=9000000000000000000):o.call 405 [At a0_0 a0_1 a0_2 a0_3,Ai a1] []=Ar (Ab (gT o a0_0 a0_1 a0_2 a0_3.length a1)):=by
 refine ho.aC λR Q=> ?_
 obtain ⟨n1,e1,g1⟩:=ay ho a0_3;conv=>lhs;cbv;rw[e1];cbv
 rcases aj ho a0_0 1 with ⟨e2,g2⟩|⟨e2,g2⟩<;>(conv=>lhs;rw[e2];cbv)
 ·rcases aj ho a0_0 2 with ⟨e3,g3⟩|⟨e3,g3⟩<;>(conv=>lhs;rw[e3];cbv)
  ·rcases aj ho a0_0 3 with ⟨e4,g4⟩|⟨e4,g4⟩<;>(conv=>lhs;rw[e4];cbv)
   ·rcases aj ho a0_0 4 with ⟨e5,g5⟩|⟨e5,g5⟩<;>(conv=>lhs;rw[e5];cbv)
    ·rcases aj ho a0_0 5 with ⟨e6,g6⟩|⟨e6,g6⟩<;>(conv=>lhs;rw[e6];cbv)
     ·rcases aj ho a0_0 6 with ⟨e7,g7⟩|⟨e7,g7⟩<;>(conv=>lhs;rw[e7];cbv)
      ·subst Q;clear h1;subst g1;simp_all [gT,lY]
      ·rcases aP ho a0_2 ⟨#[]⟩with ⟨e8,g8⟩|⟨e8,g8⟩<;>(conv=>lhs;rw[e8];cbv)
       ·subst Q;clear h1;subst g1;simp_all [gT,lY]
       ·rcases aj ho a0_1 0 with ⟨e9,g9⟩|⟨e9,g9⟩<;>(conv=>lhs;rw[e9];cbv)
        ·subst Q;clear h1;subst g1;simp_all [gT,lY]
        ·rcases aN n1 2 6 with ⟨e10,g10⟩|⟨e10,g10⟩
         all_goals
          conv=>lhs;rw[aF ho,e10];cbv
          subst Q;clear h1;subst g1;simp_all [gT,lY]
     ·rcases aP ho a0_2 ⟨#[]⟩with ⟨e7,g7⟩|⟨e7,g7⟩<;>(conv=>lhs;rw[e7];cbv)
      ·subst Q;clear h1;subst g1;simp_all [gT,lY]
      ·rcases aj ho a0_1 0 with ⟨e8,g8⟩|⟨e8,g8⟩<;>(conv=>lhs;rw[e8];cbv)
       ·subst Q;clear h1;subst g1;simp_all [gT,lY]
       ·rcases jT ho n1 20 with ⟨e9,g9⟩|⟨e9,g9⟩<;>(conv=>lhs;rw[e9];cbv)
        all_goals
         subst Q;clear h1;subst g1;simp_all [gT,lY]
    ·rcases aP ho a0_2 ⟨#[]⟩with ⟨e6,g6⟩|⟨e6,g6⟩<;>(conv=>lhs;rw[e6];cbv)
     ·subst Q;clear h1;subst g1;simp_all [gT,lY]
     ·rcases aj ho a0_1 0 with ⟨e7,g7⟩|⟨e7,g7⟩<;>(conv=>lhs;rw[e7];cbv)
      ·subst Q;clear h1;subst g1;simp_all [gT,lY]
      ·rcases jT ho n1 20 with ⟨e8,g8⟩|⟨e8,g8⟩<;>(conv=>lhs;rw[e8];cbv)
       all_goals
        subst Q;clear h1;subst g1;simp_all [gT,lY]
   ·rcases aP ho a0_2 ⟨#[]⟩with ⟨e5,g5⟩|⟨e5,g5⟩<;>(conv=>lhs;rw[e5];cbv)
    ·subst Q;clear h1;subst g1;simp_all [gT,lY]
    ·rcases aj ho n1 0 with ⟨e6,g6⟩|⟨e6,g6⟩<;>(conv=>lhs;rw[e6];cbv)
     ·subst Q;clear h1;subst g1;simp_all [gT,lY]
     ·obtain ⟨n2,e7,g7⟩:=aO ho a1 1;conv=>lhs;rw[e7];cbv
      rcases aN a0_1 (-1) n2 with ⟨e8,g8⟩|⟨e8,g8⟩
      all_goals
       conv=>lhs;rw[aF ho,e8];cbv
       subst Q;clear h1;subst g1;simp_all [gT,lY]
  ·cases he4:gD o a0_2<;>(conv=>lhs;rw[pG ho a0_2 (by omega),he4];cbv)
   ·subst Q;try rw[he4]
    clear h1;subst g1;simp_all [gT,lY]
   ·rcases aj ho a0_1 0 with ⟨e5,g5⟩|⟨e5,g5⟩<;>(conv=>lhs;rw[e5];cbv)
    ·subst Q;try rw[he4]
     clear h1;subst g1;simp_all [gT,lY]
    ·rcases aj ho n1 0 with ⟨e6,g6⟩|⟨e6,g6⟩<;>(conv=>lhs;rw[e6];cbv)
     all_goals
      subst Q;try rw[he4]
      clear h1;subst g1;simp_all [gT,lY]
 ·rcases aN a0_1 0 1000000000000 with ⟨e3,g3⟩|⟨e3,g3⟩
  ·conv=>lhs;rw[aF ho,e3];cbv
   subst Q;clear h1;subst g1;simp_all [gT,lY]
  ·conv=>lhs;rw[aF ho,e3];cbv
   rcases aP ho a0_2 ⟨#[]⟩with ⟨e5,g5⟩|⟨e5,g5⟩<;>(conv=>lhs;rw[e5];cbv)
   ·subst Q;clear h1;subst g1;simp_all [gT,lY]
   ·rcases aj ho n1 0 with ⟨e6,g6⟩|⟨e6,g6⟩<;>(conv=>lhs;rw[e6];cbv)
    all_goals
     subst Q;clear h1;subst g1;simp_all [gT,lY]
end
def dc (o:aJ) (sl:Int):Nat->D->Int
 | d+1,.agg [.int _ k,.int _ n,.str s,.lst l]=>if gT o k n s l.length sl then (if 1+bI (dc o sl d) l<=300 then 1+bI (dc o sl d) l else 301)else 301
 | _,_=>301
theorem sO {f:D->Int} {x:D} {xs:List D}:bI f (x::xs)=f x+bI f xs:=rfl
theorem iY (o:aJ) (sl:Int) (d:Nat) (t:D):1<=dc o sl d t/\dc o sl d t<=301:=by
 unfold dc;split
 ·rename_i d _ k _ n s l;have:0<=bI (dc o sl d) l:=eL (λx=>(iY o sl d x).1) l;split
  ·split<;>omega
  ·omega
 ·omega
theorem CQ {o:aJ} {sl:Int} {d:Nat} {k n:Int} {s:ByteArray} {l:List D}:dc o sl (d+1) (.agg [.int .i64 k,.int .i64 n,.str s,.lst l])=if gT o k n s l.length sl then (if 1+bI (dc o sl d) l<=300 then 1+bI (dc o sl d) l else 301)else 301:=rfl
def dX (f:D->List D):List D->List D
 | []=>[]
 | x::xs=>f x++dX f xs
theorem vu {f:D->List D} {x:D} {xs:List D}:dX f (x::xs)=f x++dX f xs:=rfl
def kz:Nat->D->List D
 | d+1,.agg [.int _ k,.int _ n,.str s,.lst l]=>(if k=3 then [.int .i64 n]else [])++dX (kz d) l
 | _,_=>[]
theorem mC {d:Nat} {k n:Int} {s:ByteArray} {l:List D}:kz (d+1) (.agg [.int .i64 k,.int .i64 n,.str s,.lst l])=(if k=3 then [.int .i64 n]else [])++dX (kz d) l:=rfl
noncomputable def gU (v:D) (S:List D):Bool:= @decide (v∈S) (Classical.propDecidable _)
theorem vv {v:D} {S:List D} (h:v∈S):gU v S=true:=by unfold gU;exact @decide_eq_true _ (Classical.propDecidable _) h
theorem BG {v:D} {S:List D} (h:v∉S):gU v S=false:=by unfold gU;exact @decide_eq_false _ (Classical.propDecidable _) h
theorem sP {v:D} {S:List D} (h:gU v S=true):v∈S:=by unfold gU at h;exact @of_decide_eq_true _ (Classical.propDecidable _) h
theorem BH {v:D} {S:List D} (h:gU v S=false):v∉S:=by unfold gU at h;exact @of_decide_eq_false _ (Classical.propDecidable _) h
noncomputable def Aa (S:List D):D->Bool
 | .int k n=>decide (n<0) || !gU (.int k n) S
 | _=>true
noncomputable def okV:List D->List D->Bool
 | _,[]=>true
 | S,v::vs=>Aa S v&&okV (S++[v]) vs
theorem rq:∀(a S b:List D),okV S (a++b)=(okV S a&&okV (S++a) b)
 | [],S,b=>by simp[okV]
 | v::a,S,b=>by
  simp only[List.cons_append,okV];rw[rq a (S++[v]) b,List.append_assoc,Bool.and_assoc];rfl
def wY (x:D):Prop:=∃n,x= .int .i64 n
theorem Fl {f:D->List D} (h:∀x,∀y∈f x,wY y):∀xs,∀y∈dX f xs,wY y
 | [],_,hy=>by cases hy
 | x::xs,y,hy=>by
  rcases List.mem_append.1 hy with g | g
  ·exact h x y g
  ·exact Fl h xs y g
theorem Ac:∀d t,∀y∈kz d t,wY y:=by
 intro d t;unfold kz;split
 ·intro y hy;rcases List.mem_append.1 hy with g | g
  ·split at g
   ·rw[List.mem_singleton]at g;exact ⟨_,g⟩
   ·cases g
  ·exact Fl (Ac _) _ y g
 ·intro y hy;cases hy
theorem kA {x:D} (h:wY x):x.cells.length=1:=by obtain ⟨n,rfl⟩:=h;rfl
theorem Fm {f:D->List D} {g:D->Int} {xs:List D} (h:∀x∈xs,((f x).length:Int)<=g x):((dX f xs).length:Int)<=bI g xs:=by
 induction xs with
 | nil=>exact Int.le_refl _
 | cons x xs ih=>
  have:=h x (by simp);have:=ih λy hy=>h y (by simp[hy])
  simp only[dX,bI,List.length_append];omega
theorem ru {o:aJ} {sl:Int}:∀(d:Nat) (t:D),dc o sl d t<=300->((kz d t).length:Int)<=dc o sl d t:=by
 intro d t;unfold dc kz;split
 ·rename_i d _ k _ n s l;intro h;split at h
  ·rename_i hs;split at h
   ·rename_i hle;have h2:((dX (kz d) l).length:Int)<=bI (dc o sl d) l:=Fm λx hx=>ru d x (by have:=pD (f:=dc o sl d) (λx=>(iY o sl d x).1) hx;omega)
    rw[if_pos hs,if_pos hle,List.length_append];split
    ·simp only[List.length_cons,List.length_nil];omega
    ·simp only[List.length_nil];omega
   ·omega
  ·omega
 ·intro h;omega
theorem Fp {o:aJ} {k n:Int} {s:ByteArray} {c:Int} (h:6<k):lY o k n s c=false:=by
 unfold lY;rw[if_neg (by omega),if_neg (by omega),if_neg (by omega),if_neg (by omega),if_neg (by omega)]
section
variable {o:aJ} (ho:aR cF bB o)
include ho
def bw (a0:List D) (a1 n1 i:Int):St:=⟨E 19 [(0,Al a0),(1,Ai a1),(7,Ai n1),(8,Ai i)],O 19 []⟩
def iw (i:Int):St:=⟨E 19 [(4,Ai i)],O 19 []⟩
def fj:St:=⟨E 19 [],O 19 []⟩
theorem LC (a0:List D) (a1:Int) (hT:∀x∈a0,wY x) (n1:Int) (hn:(a0.length:Int)=n1) (hl:n1<=1048576):∀i:Int,0<=i->i<=(n1:Int)->(gU (.int .i64 a1) (a0.drop i.toNat)=true->∃j,0<=j/\o.loop 35800 (bw a0 a1 n1 i)=some (.ret,iw j))/\(gU (.int .i64 a1) (a0.drop i.toNat)=false->o.loop 35800 (bw a0 a1 n1 i)=some (.exit 0,fj)):=by
 refine bV (P:=λi=>(gU (.int .i64 a1) (a0.drop i.toNat)=true->∃j,0<=j/\o.loop 35800 (bw a0 a1 n1 i)=some (.ret,iw j))/\(gU (.int .i64 a1) (a0.drop i.toNat)=false->o.loop 35800 (bw a0 a1 n1 i)=some (.exit 0,fj))) (n1:Int) ?_;intro i h0 h1 ih;try dsimp only at ih |-
 rcases aZ ho i n1 with ⟨e1,g1⟩|⟨e1,g1⟩
 ·rw[bf hn (by omega)];exact ⟨λh=>(by cases sP h),λ_=>(ho.aB (by cbv;repeat (simp only[e1];try cbv)):_=some (.exit 0,fj))⟩
 ·obtain ⟨x,hx0,hx1,hx2⟩:=ax hn h0 g1;obtain ⟨n2,rfl⟩:=hT _ hx2;have e2:=ak ho h0 hx0;rcases aj ho a1 n2 with ⟨e3,g3⟩|⟨e3,g3⟩
  ·obtain ⟨n3,e4⟩:=kx (o.ar .add .i64 i 1);try have g4:n3=i+1:=e4.symm.trans (ck ho (by omega) (by omega))
   have hq:gU (.int .i64 a1) (a0.drop i.toNat)=gU (.int .i64 a1) (a0.drop (i+1).toNat):=by
    rw[hx1];cases h:gU (.int .i64 a1) (a0.drop (i+1).toNat)
    ·exact BG λg=>by
      rcases List.mem_cons.1 g with g | g
      ·injection g with _ g;exact g3 g
      ·exact BH h g
    ·exact vv (List.mem_cons_of_mem _ (sP h))
   rw[hq];have ih2:=ih (by omega);rw[show i+1=n3 by omega]at ih2 |-;exact ⟨λh=>(ih2.1 h).imp λj hj=>⟨hj.1,(λz (hz:o.loop 35800 (bw a0 a1 n1 n3)=some z)=>ho.aB (by rw[<-hz];cbv;repeat (simp only[e1,e2,e3,e4];try cbv)):∀z,o.loop 35800 (bw a0 a1 n1 n3)=some z->o.loop 35800 (bw a0 a1 n1 i)=some z) _ hj.2⟩,λh=>(λz (hz:o.loop 35800 (bw a0 a1 n1 n3)=some z)=>ho.aB (by rw[<-hz];cbv;repeat (simp only[e1,e2,e3,e4];try cbv)):∀z,o.loop 35800 (bw a0 a1 n1 n3)=some z->o.loop 35800 (bw a0 a1 n1 i)=some z) _ (ih2.2 h)⟩
  ·have hp0:=(ho.aB (by cbv;repeat (simp only[e1,e2,e3];try cbv)):o.loop 35800 (bw a0 a1 n1 i)=some (.ret,iw i))
   subst g3;rw[hx1,vv (by simp)];exact ⟨λ_=>⟨i,h0,hp0⟩,λh=>by cases h⟩
theorem LD (a0:List D) (a1:Int) (hT:∀x∈a0,wY x) (hl:(a0.length:Int)<=1048576):∃r,o.call 358 [Al a0,Ai a1] []=Ar (Ai r)/\decide (0<=r)=gU (.int .i64 a1) a0:=by
 obtain ⟨n1,e1,g1⟩:=ay ho a0;have hl:=LC ho a0 a1 hT n1 g1.symm (by omega) 0 (Int.le_refl _) (by omega);rw[show (0:Int).toNat=0 from rfl,List.drop_zero]at hl;cases hc:gU (.int .i64 a1) a0
 ·have e2:o.loop 35800 (bw a0 a1 n1 0)=some (.exit 0,fj):=hl.2 hc;exact ⟨_,(ho.au (by cbv at e2;cbv;repeat (simp only[e1,e2];try cbv)):_=Ar (Ai (-1))),rfl⟩
 ·obtain ⟨n2,hj,e2⟩:=hl.1 hc;exact ⟨_,(ho.au (by cbv at e2;cbv;repeat (simp only[e1,e2];try cbv)):_=Ar (Ai n2)),decide_eq_true hj⟩
theorem pH (a0:List D) (a1:Int) (hT:∀x∈a0,wY x) (hl:(a0.length:Int)<=1048576):o.call 311 [Al a0,Ai a1] []=Ar (Ab (gU (.int .i64 a1) a0)):=by
 refine ho.aC λR Q=> ?_
 obtain ⟨n1,e1,h1⟩:=LD ho a0 a1 hT hl;conv=>lhs;cbv;rw[e1];cbv
 rcases je ho n1 0 with ⟨e2,g2⟩|⟨e2,g2⟩<;>(conv=>lhs;rw[e2];cbv)
 all_goals
  subst Q;exact (Eq.refl _).trans (by rw[<-h1];first | rw[decide_eq_true (by omega)] | rw[decide_eq_false (by omega)])
def bA (a:Int) (p_3:List D) (n2 i:Int) (y:List D) (sl i1:Int):St:=⟨E 103 [(0,.ptr (103,0) 0),(2,Ai a),(90,Al p_3),(91,Ai n2),(92,Ai i)],O 105 [(70,[some (.rows (3,1) y)]),(103,[some (.box [Ai sl,Ai i1,.arr (70,0) (3,1) none false])]),(104,[none])]⟩
def eR (y:List D) (sl i1:Int):St:=⟨E 103 [],O 105 [(70,[some (.rows (3,1) y)]),(103,[some (.box [Ai sl,Ai i1,.arr (70,0) (3,1) none false])]),(104,[none])]⟩
def gL (l2:List D) (sl n5:Int):St:=⟨E 103 [(6,Ab false)],O 105 [(70,[some (.rows (3,1) l2)]),(103,[some (.box [Ai sl,Ai n5,.arr (70,0) (3,1) none false])]),(104,[none])]⟩
def bp (a:Int) (p_3:List D) (n2 i:Int) (y:List D) (sl i1:Int):St:=⟨E 103 [(0,.ptr (103,0) 0),(2,Ai a),(90,Al p_3),(91,Ai n2),(92,Ai i)],O 104 [(70,[some (.rows (3,1) y)]),(103,[some (.box [Ai sl,Ai i1,.arr (70,0) (3,1) none false])])]⟩
def eB (y:List D) (sl i1:Int):St:=⟨E 103 [],O 104 [(70,[some (.rows (3,1) y)]),(103,[some (.box [Ai sl,Ai i1,.arr (70,0) (3,1) none false])])]⟩
def gj (l2:List D) (sl n5:Int):St:=⟨E 103 [(6,Ab false)],O 104 [(70,[some (.rows (3,1) l2)]),(103,[some (.box [Ai sl,Ai n5,.arr (70,0) (3,1) none false])])]⟩
end
end T2
