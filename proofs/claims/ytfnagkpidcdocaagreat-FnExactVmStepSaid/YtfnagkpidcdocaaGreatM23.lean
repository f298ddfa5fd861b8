import Derived.Test.YtfnagkpidcdocaaGreatM22
set_option linter.all false
namespace T2
open Go Go.Vi
set_option maxRecDepth 100000
set_option maxHeartbeats 4000000
section
variable {o:aJ} (ho:aR cF bB o)
include ho
omit ho in
def Nk (l:List D) (m:Int):List D:=l.drop m.toNat
theorem Nl (sl:Int) (d:Nat) (IH:BD o sl d) (m:Nat) (p_0 p_1:Int) (p_2:ByteArray) (p_3:List D) (t_0 t_1:Int) (t_2:ByteArray) (t_3:List D) (hP:Tm m (.agg [.int .i64 p_0,.int .i64 p_1,.str p_2,.lst p_3])) (hM:dc o sl (d+1) (.agg [.int .i64 p_0,.int .i64 p_1,.str p_2,.lst p_3])<=300) (hT:Rt o 8 (.agg [.int .i64 t_0,.int .i64 t_1,.str t_2,.lst t_3])) (fs:List D) (i F pc:Int) (S:List D) (h0:0<=i) (hf:fs[i.toNat]? =some (.agg [.int .i64 F,.int .i64 pc,.own (31,4) S])) (hS:(S.length:Int)=sl) (hSl:∀x∈S,Sl o x):o.call 293 [.prow (1,0) (192,3) i 0,At p_0 p_1 p_2 p_3,At t_0 t_1 t_2 t_3] [Oo fs]=some ⟨Ab (aD (d+1) (.agg [.int .i64 p_0,.int .i64 p_1,.str p_2,.lst p_3]) (.agg [.int .i64 t_0,.int .i64 t_1,.str t_2,.lst t_3]) S).1,[Oo (fs.set i.toNat (.agg [.int .i64 F,.int .i64 pc,.own (31,4) (aD (d+1) (.agg [.int .i64 p_0,.int .i64 p_1,.str p_2,.lst p_3]) (.agg [.int .i64 t_0,.int .i64 t_1,.str t_2,.lst t_3]) S).2]))],[]⟩:=by
 obtain ⟨m,rfl,hs,hl,hPt⟩:=iC hP;obtain ⟨m',hm,hts,htt⟩:=tK hT;have hq:=EK hM;have hpb:=EL hq.1;have hlt:=hU hts;have hT8:∀t∈t_3,Rt o 8 t:=λt h=>xw (by omega) (htt t h)
 refine ho.aC λR Q=> ?_
 conv=>lhs;cbv
 rcases aj ho p_0 1 with ⟨e1,g1⟩|⟨e1,g1⟩<;>(conv=>lhs;rw[e1];cbv)
 ·rcases aj ho p_0 2 with ⟨e2,g2⟩|⟨e2,g2⟩<;>(conv=>lhs;rw[e2];cbv)
  ·rcases aj ho p_0 3 with ⟨e3,g3⟩|⟨e3,g3⟩<;>(conv=>lhs;rw[e3];cbv)
   ·rcases aj ho p_0 4 with ⟨e4,g4⟩|⟨e4,g4⟩<;>(conv=>lhs;rw[e4];cbv)
    ·rcases aj ho p_0 5 with ⟨e5,g5⟩|⟨e5,g5⟩<;>(conv=>lhs;rw[e5];cbv)
     ·obtain ⟨n1,e6,g6⟩:=ay ho p_3;obtain ⟨n2,e7,g7⟩:=aO ho n1 1;conv=>lhs;rw[e6];cbv;rw[e7];cbv
      rcases cE ho t_0 5 with ⟨e8,g8⟩|⟨e8,g8⟩<;>(conv=>lhs;rw[e8];cbv)
      ·obtain ⟨n3,e9,g9⟩:=ay ho t_3;conv=>lhs;rw[e9];cbv
       rcases aZ ho n3 n2 with ⟨e10,g10⟩|⟨e10,g10⟩<;>(conv=>lhs;rw[e10];cbv)
       ·obtain ⟨n4,g11,e11⟩:∃v,v=n2-0/\o.minus n2 0=v:=⟨_,rfl,ho.minus _ _⟩
        obtain ⟨l1,hl1,e12⟩:∃z,z=p_3.take n2.toNat/\o.sub p_3 0 n4=some z:=⟨_,rfl,by rw[iB ho (Int.le_refl _) (by omega) (by omega)];rw[show n4=n2 by omega];rfl⟩
        obtain ⟨l2,hl2,e13⟩:∃z,z=t_3.take n2.toNat/\o.sub t_3 0 n4=some z:=⟨_,rfl,by rw[iB ho (Int.le_refl _) (by omega) (by omega)];rw[show n4=n2 by omega];rfl⟩
        conv=>lhs;rw[e11];cbv;rw[e12];cbv;(try (rw[e11];cbv));(try (rw[e11];cbv));rw[e13];cbv;(try (rw[e11];cbv))
        have hc:=vg ho sl d IH l1 l2 (λx hx=>hPt x (by rw[hl1]at hx;exact List.mem_of_mem_take hx)) (λx hx=>hq.2 x (by rw[hl1]at hx;exact List.mem_of_mem_take hx)) (λx hx=>hT8 x (by rw[hl2]at hx;exact List.mem_of_mem_take hx)) (by rw[hl1,hl2,List.length_take,List.length_take];omega) (by rw[hl1,List.length_take];omega) fs i F pc S h0 hf hS hSl;rw[show aX (aD d) l1 l2 S=(aX (aD d) (p_3.take n2.toNat) t_3 S) by rw[hl1,hl2];exact ve _ _ _ _ (by rw[List.length_take];omega)]at hc;have hsl:=uF (lp (o:=o) d) (p_3.take n2.toNat) t_3 S hT8 hSl;obtain ⟨l3,hl0⟩:∃z,z=fs.set i.toNat (.agg [.int .i64 F,.int .i64 pc,.own (31,4) (aX (aD d) (p_3.take n2.toNat) t_3 S).2]):=⟨_,rfl⟩
        rw[<-hl0]at hc;cases hb:(aX (aD d) (p_3.take n2.toNat) t_3 S).1
        ·have e14:o.call 354 [.prow (1,0) (192,3) i 0,Al l1,Al l2] [Oo fs]=some ⟨Ab false,[Oo l3],[]⟩:=by rw[hb]at hc;exact hc
         conv=>lhs;rw[e14];cbv;(try (rw[e11];cbv))
         subst Q;have hk:(p_3.length:Int)-1=n2:=by omega
         obtain ⟨x,hx0,_,_⟩:=ax (xs:=p_3) rfl (show 0<=n2 by omega) (by omega);have hB:aD (d+1) (.agg [.int .i64 p_0,.int .i64 p_1,.str p_2,.lst p_3]) (.agg [.int .i64 t_0,.int .i64 t_1,.str t_2,.lst t_3]) S=(false,(aX (aD d) (p_3.take n2.toNat) t_3 S).2):=by
          rw[bD,if_neg g1,if_neg g2,if_neg g3,if_neg g4,if_neg g5,if_neg (λh=>h g8),if_neg (by omega)];rw[hk,hx0];show (if (aX (aD d) (p_3.take n2.toNat) t_3 S).1=true then _ else _)=_;rw[hb];rfl
         rw[hB,<-hl0]
        ·have e14:o.call 354 [.prow (1,0) (192,3) i 0,Al l1,Al l2] [Oo fs]=some ⟨Ab true,[Oo l3],[]⟩:=by rw[hb]at hc;exact hc
         obtain ⟨x,hx0,hx1,hx2⟩:=ax (xs:=p_3) rfl (show 0<=n2 by omega) (by omega);obtain ⟨mm,n5,n6,s1,l4,hmm,rfl,hxs,hxl,hxt⟩:=bP (hPt _ hx2);have e15:o.dD p_3 n2=some (.agg [.int .i64 n5,.int .i64 n6,.str s1,.lst l4]):=ak ho (by omega) hx0;have e16:o.fits 4 0 t_3=true:=by exact cn ho (by omega) (by decide) (λz hz=>eU (htt z hz))
         obtain ⟨n7,g17,e17⟩:∃v,v=n3-n2/\o.minus n3 n2=v:=⟨_,rfl,ho.minus _ _⟩
         obtain ⟨l5,hl5,e18⟩:∃z,z=t_3.drop n2.toNat/\o.sub t_3 n2 n7=some z:=⟨_,rfl,by rw[iB ho (by omega) (by omega) (by omega),List.take_of_length_le (by rw[List.length_drop];omega)]⟩
         obtain ⟨l6,hl6,e19⟩:∃z,z=Nk t_3 n2/\o.call 289 [Al l5] []=some ⟨.arr (0,0) (31,4) none false,[],[Os z]⟩:=⟨l5,by rw[hl5];rfl,HX ho l5 (by rw[hl5,List.length_drop];omega) (λz hz=>eU (htt z (by rw[hl5]at hz;exact List.mem_of_mem_drop hz)))⟩
         conv=>lhs;rw[e14];cbv;(try (rw[e11];cbv));rw[e15];cbv;(try (rw[e11];cbv));rw[e16];cbv;(try (rw[e11];cbv));(try (rw[e9];cbv));rw[e17];cbv;(try (rw[e11];cbv));rw[e18];cbv;(try (rw[e11];cbv));(try (rw[e17];cbv));rw[e19];cbv;(try (rw[e11];cbv));(try (rw[e17];cbv))
         have hr:=yF (i:=n2) hts (by assumption) htt (by omega);have hlf:i.toNat<fs.length:=(aq.1 hf).1;have hc:=IH _ _ _ _ _ (hPt _ hx2) (hq.2 _ hx2) _ _ _ _ hr _ i F pc (aX (aD d) (p_3.take n2.toNat) t_3 S).2 h0 (bR hlf) (by rw[hsl.1];exact hS) hsl.2;rw[List.set_set,<-hl0]at hc;obtain ⟨b9,hbv⟩:∃b,(aD d (.agg [.int .i64 n5,.int .i64 n6,.str s1,.lst l4]) (qc t_3 n2) (aX (aD d) (p_3.take n2.toNat) t_3 S).2).1=b:=⟨_,rfl⟩
         obtain ⟨l7,hlv⟩:∃z,fs.set i.toNat (.agg [.int .i64 F,.int .i64 pc,.own (31,4) (aD d (.agg [.int .i64 n5,.int .i64 n6,.str s1,.lst l4]) (qc t_3 n2) (aX (aD d) (p_3.take n2.toNat) t_3 S).2).2])=z:=⟨_,rfl⟩
         have e20:o.call 293 [.prow (1,0) (192,3) i 0,At n5 n6 s1 l4,At 5 0 ⟨#[]⟩ l6] [Oo l3]=some ⟨Ab b9,[Oo l7],[]⟩:=by
          rw[<-hbv,<-hlv,hl6];exact hc
         conv=>lhs;rw[e20];cbv;(try (rw[e11];cbv));(try (rw[e17];cbv))
         subst Q;have hk:(p_3.length:Int)-1=n2:=by omega
         have hB:aD (d+1) (.agg [.int .i64 p_0,.int .i64 p_1,.str p_2,.lst p_3]) (.agg [.int .i64 t_0,.int .i64 t_1,.str t_2,.lst t_3]) S=aD d (.agg [.int .i64 n5,.int .i64 n6,.str s1,.lst l4]) (qc t_3 n2) (aX (aD d) (p_3.take n2.toNat) t_3 S).2:=by
          rw[bD,if_neg g1,if_neg g2,if_neg g3,if_neg g4,if_neg g5,if_neg (λh=>h g8),if_neg (by omega)];rw[hk,hx0];show (if (aX (aD d) (p_3.take n2.toNat) t_3 S).1=true then _ else _)=_;rw[hb,if_pos rfl]
         rw[hB];rw[hbv,hlv]
       ·subst Q;have hB:aD (d+1) (.agg [.int .i64 p_0,.int .i64 p_1,.str p_2,.lst p_3]) (.agg [.int .i64 t_0,.int .i64 t_1,.str t_2,.lst t_3]) S=(false,S):=by rw[bD,if_neg g1,if_neg g2,if_neg g3,if_neg g4,if_neg g5,if_neg (λh=>h g8),if_pos (by omega)]
        rw[hB];show _=some (bW.mk (Ab (false)) [Oo (fs.set i.toNat (.agg [.int .i64 F,.int .i64 pc,.own (31,4) (S)]))] []);rw[ef hf]
      ·subst Q;have hB:aD (d+1) (.agg [.int .i64 p_0,.int .i64 p_1,.str p_2,.lst p_3]) (.agg [.int .i64 t_0,.int .i64 t_1,.str t_2,.lst t_3]) S=(false,S):=by rw[bD,if_neg g1,if_neg g2,if_neg g3,if_neg g4,if_neg g5,if_pos g8]
       rw[hB];show _=some (bW.mk (Ab (false)) [Oo (fs.set i.toNat (.agg [.int .i64 F,.int .i64 pc,.own (31,4) (S)]))] []);rw[ef hf]
     ·rcases aj ho t_0 5 with ⟨e6,g6⟩|⟨e6,g6⟩<;>(conv=>lhs;rw[e6];cbv)
      ·subst Q;have hB:aD (d+1) (.agg [.int .i64 p_0,.int .i64 p_1,.str p_2,.lst p_3]) (.agg [.int .i64 t_0,.int .i64 t_1,.str t_2,.lst t_3]) S=(false,S):=by rw[bD,if_neg g1,if_neg g2,if_neg g3,if_neg g4,if_pos g5,if_neg g6]
       rw[hB];show _=some (bW.mk (Ab (false)) [Oo (fs.set i.toNat (.agg [.int .i64 F,.int .i64 pc,.own (31,4) (S)]))] []);rw[ef hf]
      ·obtain ⟨n1,e7,g7⟩:=ay ho t_3;obtain ⟨n2,e8,g8⟩:=ay ho p_3;conv=>lhs;rw[e7];cbv;rw[e8];cbv
       rcases aj ho n1 n2 with ⟨e9,g9⟩|⟨e9,g9⟩<;>(conv=>lhs;rw[e9];cbv)
       ·subst Q;have hB:aD (d+1) (.agg [.int .i64 p_0,.int .i64 p_1,.str p_2,.lst p_3]) (.agg [.int .i64 t_0,.int .i64 t_1,.str t_2,.lst t_3]) S=(false,S):=by rw[bD,if_neg g1,if_neg g2,if_neg g3,if_neg g4,if_pos g5,if_pos g6,if_neg (by omega)]
        rw[hB];show _=some (bW.mk (Ab (false)) [Oo (fs.set i.toNat (.agg [.int .i64 F,.int .i64 pc,.own (31,4) (S)]))] []);rw[ef hf]
       ·obtain ⟨b8,hbv⟩:∃b,(aX (aD d) p_3 t_3 S).1=b:=⟨_,rfl⟩
        obtain ⟨l1,hlv⟩:∃z,fs.set i.toNat (.agg [.int .i64 F,.int .i64 pc,.own (31,4) (aX (aD d) p_3 t_3 S).2])=z:=⟨_,rfl⟩
        have e10:o.call 354 [.prow (1,0) (192,3) i 0,Al p_3,Al t_3] [Oo fs]=some ⟨Ab b8,[Oo l1],[]⟩:=(vg ho sl d IH p_3 t_3 hPt hq.2 hT8 (by omega) (by omega) fs i F pc S h0 hf hS hSl).trans (by rw[hbv,hlv]);conv=>lhs;rw[e10];cbv
        subst Q;have hB:aD (d+1) (.agg [.int .i64 p_0,.int .i64 p_1,.str p_2,.lst p_3]) (.agg [.int .i64 t_0,.int .i64 t_1,.str t_2,.lst t_3]) S=((aX (aD d) p_3 t_3 S).1,(aX (aD d) p_3 t_3 S).2):=by rw[bD,if_neg g1,if_neg g2,if_neg g3,if_neg g4,if_pos g5,if_pos g6,if_pos (by omega)]
        rw[hB];show _=some (bW.mk (Ab ((aX (aD d) p_3 t_3 S).1)) [Oo (fs.set i.toNat (.agg [.int .i64 F,.int .i64 pc,.own (31,4) ((aX (aD d) p_3 t_3 S).2)]))] []);rw[hbv,hlv]
    ·rcases aj ho t_0 4 with ⟨e5,g5⟩|⟨e5,g5⟩<;>(conv=>lhs;rw[e5];cbv)
     ·subst Q;have hB:aD (d+1) (.agg [.int .i64 p_0,.int .i64 p_1,.str p_2,.lst p_3]) (.agg [.int .i64 t_0,.int .i64 t_1,.str t_2,.lst t_3]) S=(false,S):=by rw[bD,if_neg g1,if_neg g2,if_neg g3,if_pos g4,if_neg g5]
      rw[hB];show _=some (bW.mk (Ab (false)) [Oo (fs.set i.toNat (.agg [.int .i64 F,.int .i64 pc,.own (31,4) (S)]))] []);rw[ef hf]
     ·obtain ⟨n1,e6,g6⟩:=ay ho t_3;obtain ⟨n2,e7,g7⟩:=ay ho p_3;conv=>lhs;rw[e6];cbv;rw[e7];cbv
      rcases aj ho n1 n2 with ⟨e8,g8⟩|⟨e8,g8⟩<;>(conv=>lhs;rw[e8];cbv)
      ·subst Q;have hB:aD (d+1) (.agg [.int .i64 p_0,.int .i64 p_1,.str p_2,.lst p_3]) (.agg [.int .i64 t_0,.int .i64 t_1,.str t_2,.lst t_3]) S=(false,S):=by rw[bD,if_neg g1,if_neg g2,if_neg g3,if_pos g4,if_pos g5,if_neg (by omega)]
       rw[hB];show _=some (bW.mk (Ab (false)) [Oo (fs.set i.toNat (.agg [.int .i64 F,.int .i64 pc,.own (31,4) (S)]))] []);rw[ef hf]
      ·obtain ⟨b7,hbv⟩:∃b,(aX (aD d) p_3 t_3 S).1=b:=⟨_,rfl⟩
       obtain ⟨l1,hlv⟩:∃z,fs.set i.toNat (.agg [.int .i64 F,.int .i64 pc,.own (31,4) (aX (aD d) p_3 t_3 S).2])=z:=⟨_,rfl⟩
       have e9:o.call 354 [.prow (1,0) (192,3) i 0,Al p_3,Al t_3] [Oo fs]=some ⟨Ab b7,[Oo l1],[]⟩:=(vg ho sl d IH p_3 t_3 hPt hq.2 hT8 (by omega) (by omega) fs i F pc S h0 hf hS hSl).trans (by rw[hbv,hlv]);conv=>lhs;rw[e9];cbv
       subst Q;have hB:aD (d+1) (.agg [.int .i64 p_0,.int .i64 p_1,.str p_2,.lst p_3]) (.agg [.int .i64 t_0,.int .i64 t_1,.str t_2,.lst t_3]) S=((aX (aD d) p_3 t_3 S).1,(aX (aD d) p_3 t_3 S).2):=by rw[bD,if_neg g1,if_neg g2,if_neg g3,if_pos g4,if_pos g5,if_pos (by omega)]
       rw[hB];show _=some (bW.mk (Ab ((aX (aD d) p_3 t_3 S).1)) [Oo (fs.set i.toNat (.agg [.int .i64 F,.int .i64 pc,.own (31,4) ((aX (aD d) p_3 t_3 S).2)]))] []);rw[hbv,hlv]
   ·rcases je ho p_1 0 with ⟨e4,g4⟩|⟨e4,g4⟩<;>(conv=>lhs;rw[e4];cbv)
    ·subst Q;have hB:aD (d+1) (.agg [.int .i64 p_0,.int .i64 p_1,.str p_2,.lst p_3]) (.agg [.int .i64 t_0,.int .i64 t_1,.str t_2,.lst t_3]) S=(true,S):=by rw[bD,if_neg g1,if_neg g2,if_pos g3,if_neg (by omega)]
     rw[hB];show _=some (bW.mk (Ab (true)) [Oo (fs.set i.toNat (.agg [.int .i64 F,.int .i64 pc,.own (31,4) (S)]))] []);rw[ef hf]
    ·obtain ⟨n1,n2,l2,⟨rfl,rfl,rfl⟩,e5⟩:∃a b c,(a=F/\b=pc/\c=S)/\o.dD fs i=some (.agg [.int .i64 a,.int .i64 b,.own (31,4) c]):=⟨_,_,_,⟨rfl,rfl,rfl⟩,ak ho h0 hf⟩
     have e6:o.flat l2=true:=by exact sJ ho hSl
     obtain ⟨y,hy0,hy1,hy2⟩:=ax (xs:=l2) rfl (show 0<=p_1 by omega) (by have:=hpb.1 (by assumption);omega);obtain ⟨n3,n4,s1,l3,rfl⟩:=DH (hSl _ hy2);have e7:o.dD l2 p_1=some (.agg [.int .i64 n3,.int .i64 n4,.str s1,.lst l3]):=ak ho (by omega) hy0;conv=>lhs;rw[e5];cbv;rw[e6];cbv;rw[e7];cbv;(try (rw[e7];cbv))
     obtain ⟨l4,hset,e8⟩:∃z,z=l2.set p_1.toNat (.agg [.int .i64 t_0,.int .i64 t_1,.str t_2,.lst t_3])/\o.set l2 p_1 (.agg [.int .i64 t_0,.int .i64 t_1,.str t_2,.lst t_3])=z:=⟨_,rfl,ho.set _ _ _⟩
     have hSl2:∀x∈l4,Sl o x:=λx hx=>by
      rw[hset]at hx;rcases List.mem_or_eq_of_mem_set hx with h | h
      · exact hSl x h
      · rw[h];exact .inr hT
     have e9:o.flat l4=true:=by exact sJ ho hSl2
     obtain ⟨l5,hset2,e10⟩:∃z,z=fs.set i.toNat (.agg [.int .i64 n1,.int .i64 n2,.own (31,4) l4])/\o.set fs i (.agg [.int .i64 n1,.int .i64 n2,.own (31,4) l4])=z:=⟨_,rfl,ho.set _ _ _⟩
     conv=>lhs;rw[e8];cbv;(try (rw[e5];cbv));rw[e9];cbv;rw[e10];cbv
     subst Q;have hB:aD (d+1) (.agg [.int .i64 p_0,.int .i64 p_1,.str p_2,.lst p_3]) (.agg [.int .i64 t_0,.int .i64 t_1,.str t_2,.lst t_3]) l2=(true,l2.set p_1.toNat (.agg [.int .i64 t_0,.int .i64 t_1,.str t_2,.lst t_3])):=by rw[bD,if_neg g1,if_neg g2,if_pos g3,if_pos g4]
     rw[hB,hset2,hset]
  ·rcases aj ho t_0 2 with ⟨e3,g3⟩|⟨e3,g3⟩<;>(conv=>lhs;rw[e3];cbv)
   ·subst Q;have hB:aD (d+1) (.agg [.int .i64 p_0,.int .i64 p_1,.str p_2,.lst p_3]) (.agg [.int .i64 t_0,.int .i64 t_1,.str t_2,.lst t_3]) S=(false,S):=by rw[bD,if_neg g1,if_pos g2,if_neg g3]
    rw[hB];show _=some (bW.mk (Ab (false)) [Oo (fs.set i.toNat (.agg [.int .i64 F,.int .i64 pc,.own (31,4) (S)]))] []);rw[ef hf]
   ·rcases aP ho t_2 p_2 with ⟨e4,g4⟩|⟨e4,g4⟩<;>(conv=>lhs;rw[e4];cbv)
    all_goals
     subst Q;have hB:aD (d+1) (.agg [.int .i64 p_0,.int .i64 p_1,.str p_2,.lst p_3]) (.agg [.int .i64 t_0,.int .i64 t_1,.str t_2,.lst t_3]) S=(decide (t_2=p_2),S):=by rw[bD,if_neg g1,if_pos g2,if_pos g3]
     rw[hB];show _=some (bW.mk (Ab (decide (t_2=p_2))) [Oo (fs.set i.toNat (.agg [.int .i64 F,.int .i64 pc,.own (31,4) (S)]))] []);rw[ef hf];first | rw[decide_eq_true g4] | rw[decide_eq_false g4]
 ·rcases aj ho t_0 1 with ⟨e2,g2⟩|⟨e2,g2⟩<;>(conv=>lhs;rw[e2];cbv)
  ·subst Q;have hB:aD (d+1) (.agg [.int .i64 p_0,.int .i64 p_1,.str p_2,.lst p_3]) (.agg [.int .i64 t_0,.int .i64 t_1,.str t_2,.lst t_3]) S=(false,S):=by rw[bD,if_pos g1,if_neg g2]
   rw[hB];show _=some (bW.mk (Ab (false)) [Oo (fs.set i.toNat (.agg [.int .i64 F,.int .i64 pc,.own (31,4) (S)]))] []);rw[ef hf]
  ·rcases aj ho t_1 p_1 with ⟨e3,g3⟩|⟨e3,g3⟩<;>(conv=>lhs;rw[e3];cbv)
   all_goals
    subst Q;have hB:aD (d+1) (.agg [.int .i64 p_0,.int .i64 p_1,.str p_2,.lst p_3]) (.agg [.int .i64 t_0,.int .i64 t_1,.str t_2,.lst t_3]) S=(decide (t_1=p_1),S):=by rw[bD,if_pos g1,if_pos g2]
    rw[hB];show _=some (bW.mk (Ab (decide (t_1=p_1))) [Oo (fs.set i.toNat (.agg [.int .i64 F,.int .i64 pc,.own (31,4) (S)]))] []);rw[ef hf];first | rw[decide_eq_true g3] | rw[decide_eq_false g3]
theorem Lb (sl:Int) (d:Nat) (IH:MD o sl d) (m:Nat) (p_0 p_1:Int) (p_2:ByteArray) (p_3:List D) (t_0 t_1:Int) (t_2:ByteArray) (t_3:List D) (hP:Tm m (.agg [.int .i64 p_0,.int .i64 p_1,.str p_2,.lst p_3])) (hM:dc o sl (d+1) (.agg [.int .i64 p_0,.int .i64 p_1,.str p_2,.lst p_3])<=300) (hT:Rt o 8 (.agg [.int .i64 t_0,.int .i64 t_1,.str t_2,.lst t_3])) (S:List D) (hS:(S.length:Int)=sl) (hSl:∀x∈S,Sl o x):o.call 188 [At p_0 p_1 p_2 p_3,At t_0 t_1 t_2 t_3,.arr (1,0) (31,4) none false] [Os S]=some ⟨Ab (aD (d+1) (.agg [.int .i64 p_0,.int .i64 p_1,.str p_2,.lst p_3]) (.agg [.int .i64 t_0,.int .i64 t_1,.str t_2,.lst t_3]) S).1,[Os (aD (d+1) (.agg [.int .i64 p_0,.int .i64 p_1,.str p_2,.lst p_3]) (.agg [.int .i64 t_0,.int .i64 t_1,.str t_2,.lst t_3]) S).2],[]⟩:=by
 obtain ⟨m,rfl,hs,hl,hPt⟩:=iC hP;obtain ⟨m',hm,hts,htt⟩:=tK hT;have hq:=EK hM;have hpb:=EL hq.1;have hlt:=hU hts;have hT8:∀t∈t_3,Rt o 8 t:=λt h=>xw (by omega) (htt t h)
 refine ho.aC λR Q=> ?_
 conv=>lhs;cbv
 rcases aj ho p_0 1 with ⟨e1,g1⟩|⟨e1,g1⟩<;>(conv=>lhs;rw[e1];cbv)
 ·rcases aj ho p_0 2 with ⟨e2,g2⟩|⟨e2,g2⟩<;>(conv=>lhs;rw[e2];cbv)
  ·rcases aj ho p_0 3 with ⟨e3,g3⟩|⟨e3,g3⟩<;>(conv=>lhs;rw[e3];cbv)
   ·rcases aj ho p_0 4 with ⟨e4,g4⟩|⟨e4,g4⟩<;>(conv=>lhs;rw[e4];cbv)
    ·rcases aj ho p_0 5 with ⟨e5,g5⟩|⟨e5,g5⟩<;>(conv=>lhs;rw[e5];cbv)
     ·obtain ⟨n1,e6,g6⟩:=ay ho p_3;obtain ⟨n2,e7,g7⟩:=aO ho n1 1;conv=>lhs;rw[e6];cbv;rw[e7];cbv
      rcases cE ho t_0 5 with ⟨e8,g8⟩|⟨e8,g8⟩<;>(conv=>lhs;rw[e8];cbv)
      ·obtain ⟨n3,e9,g9⟩:=ay ho t_3;conv=>lhs;rw[e9];cbv
       rcases aZ ho n3 n2 with ⟨e10,g10⟩|⟨e10,g10⟩<;>(conv=>lhs;rw[e10];cbv)
       ·obtain ⟨n4,g11,e11⟩:∃v,v=n2-0/\o.minus n2 0=v:=⟨_,rfl,ho.minus _ _⟩
        obtain ⟨l1,hl1,e12⟩:∃z,z=p_3.take n2.toNat/\o.sub p_3 0 n4=some z:=⟨_,rfl,by rw[iB ho (Int.le_refl _) (by omega) (by omega)];rw[show n4=n2 by omega];rfl⟩
        conv=>lhs;rw[e11];cbv;rw[e12];cbv;(try (rw[e11];cbv))
        have hc:=sK ho sl d IH l1 t_3 (λx hx=>hPt x (by rw[hl1]at hx;exact List.mem_of_mem_take hx)) (λx hx=>hq.2 x (by rw[hl1]at hx;exact List.mem_of_mem_take hx)) (λx hx=>hT8 x (by exact hx)) (by rw[hl1,List.length_take];omega) (by rw[hl1,List.length_take];omega) S hS hSl;rw[show aX (aD d) l1 t_3 S=(aX (aD d) (p_3.take n2.toNat) t_3 S) by rw[hl1]]at hc;have hsl:=uF (lp (o:=o) d) (p_3.take n2.toNat) t_3 S hT8 hSl;obtain ⟨l2,hl0⟩:∃z,z=(aX (aD d) (p_3.take n2.toNat) t_3 S).2:=⟨_,rfl⟩
        rw[<-hl0]at hc;cases hb:(aX (aD d) (p_3.take n2.toNat) t_3 S).1
        ·have e13:o.call 281 [Al l1,Al t_3,.arr (1,0) (31,4) none false] [Os S]=some ⟨Ab false,[Os l2],[]⟩:=by rw[hb]at hc;exact hc
         conv=>lhs;rw[e13];cbv;(try (rw[e11];cbv))
         subst Q;have hk:(p_3.length:Int)-1=n2:=by omega
         obtain ⟨x,hx0,_,_⟩:=ax (xs:=p_3) rfl (show 0<=n2 by omega) (by omega);have hB:aD (d+1) (.agg [.int .i64 p_0,.int .i64 p_1,.str p_2,.lst p_3]) (.agg [.int .i64 t_0,.int .i64 t_1,.str t_2,.lst t_3]) S=(false,(aX (aD d) (p_3.take n2.toNat) t_3 S).2):=by
          rw[bD,if_neg g1,if_neg g2,if_neg g3,if_neg g4,if_neg g5,if_neg (λh=>h g8),if_neg (by omega)];rw[hk,hx0];show (if (aX (aD d) (p_3.take n2.toNat) t_3 S).1=true then _ else _)=_;rw[hb];rfl
         rw[hB,<-hl0]
        ·have e13:o.call 281 [Al l1,Al t_3,.arr (1,0) (31,4) none false] [Os S]=some ⟨Ab true,[Os l2],[]⟩:=by rw[hb]at hc;exact hc
         obtain ⟨x,hx0,hx1,hx2⟩:=ax (xs:=p_3) rfl (show 0<=n2 by omega) (by omega);obtain ⟨mm,n5,n6,s1,l3,hmm,rfl,hxs,hxl,hxt⟩:=bP (hPt _ hx2);have e14:o.dD p_3 n2=some (.agg [.int .i64 n5,.int .i64 n6,.str s1,.lst l3]):=ak ho (by omega) hx0;have e15:o.fits 4 0 t_3=true:=by exact cn ho (by omega) (by decide) (λz hz=>eU (htt z hz))
         obtain ⟨n7,g16,e16⟩:∃v,v=n3-n2/\o.minus n3 n2=v:=⟨_,rfl,ho.minus _ _⟩
         obtain ⟨l4,hl4,e17⟩:∃z,z=t_3.drop n2.toNat/\o.sub t_3 n2 n7=some z:=⟨_,rfl,by rw[iB ho (by omega) (by omega) (by omega),List.take_of_length_le (by rw[List.length_drop];omega)]⟩
         conv=>lhs;rw[e13];cbv;(try (rw[e11];cbv));rw[e14];cbv;(try (rw[e11];cbv));rw[e15];cbv;(try (rw[e11];cbv));(try (rw[e9];cbv));rw[e16];cbv;(try (rw[e11];cbv));rw[e17];cbv;(try (rw[e11];cbv));(try (rw[e16];cbv))
         have hr:=yF (i:=n2) hts (by assumption) htt (by omega);obtain ⟨b9,hbv⟩:∃b,(aD d (.agg [.int .i64 n5,.int .i64 n6,.str s1,.lst l3]) (qc t_3 n2) (aX (aD d) (p_3.take n2.toNat) t_3 S).2).1=b:=⟨_,rfl⟩
         obtain ⟨l5,hlv⟩:∃z,(aD d (.agg [.int .i64 n5,.int .i64 n6,.str s1,.lst l3]) (qc t_3 n2) (aX (aD d) (p_3.take n2.toNat) t_3 S).2).2=z:=⟨_,rfl⟩
         have e18:o.call 188 [At n5 n6 s1 l3,At 5 0 ⟨#[]⟩ l4,.arr (1,0) (31,4) none false] [Os l2]=some ⟨Ab b9,[Os l5],[]⟩:=by
          rw[<-hbv,<-hlv,hl0];have hc:=IH _ _ _ _ _ (hPt _ hx2) (hq.2 _ hx2) _ _ _ _ hr _ (by rw[hsl.1];exact hS) hsl.2;rw[hl4];exact hc
         conv=>lhs;rw[e18];cbv;(try (rw[e11];cbv));(try (rw[e16];cbv))
         subst Q;have hk:(p_3.length:Int)-1=n2:=by omega
         have hB:aD (d+1) (.agg [.int .i64 p_0,.int .i64 p_1,.str p_2,.lst p_3]) (.agg [.int .i64 t_0,.int .i64 t_1,.str t_2,.lst t_3]) S=aD d (.agg [.int .i64 n5,.int .i64 n6,.str s1,.lst l3]) (qc t_3 n2) (aX (aD d) (p_3.take n2.toNat) t_3 S).2:=by
          rw[bD,if_neg g1,if_neg g2,if_neg g3,if_neg g4,if_neg g5,if_neg (λh=>h g8),if_neg (by omega)];rw[hk,hx0];show (if (aX (aD d) (p_3.take n2.toNat) t_3 S).1=true then _ else _)=_;rw[hb,if_pos rfl]
         rw[hB];rw[hbv,hlv]
       ·subst Q;have hB:aD (d+1) (.agg [.int .i64 p_0,.int .i64 p_1,.str p_2,.lst p_3]) (.agg [.int .i64 t_0,.int .i64 t_1,.str t_2,.lst t_3]) S=(false,S):=by rw[bD,if_neg g1,if_neg g2,if_neg g3,if_neg g4,if_neg g5,if_neg (λh=>h g8),if_pos (by omega)]
        rw[hB];try (show _=some (bW.mk (Ab (false)) [Os (S)] []))
      ·subst Q;have hB:aD (d+1) (.agg [.int .i64 p_0,.int .i64 p_1,.str p_2,.lst p_3]) (.agg [.int .i64 t_0,.int .i64 t_1,.str t_2,.lst t_3]) S=(false,S):=by rw[bD,if_neg g1,if_neg g2,if_neg g3,if_neg g4,if_neg g5,if_pos g8]
       rw[hB];try (show _=some (bW.mk (Ab (false)) [Os (S)] []))
     ·rcases aj ho t_0 5 with ⟨e6,g6⟩|⟨e6,g6⟩<;>(conv=>lhs;rw[e6];cbv)
      ·subst Q;have hB:aD (d+1) (.agg [.int .i64 p_0,.int .i64 p_1,.str p_2,.lst p_3]) (.agg [.int .i64 t_0,.int .i64 t_1,.str t_2,.lst t_3]) S=(false,S):=by rw[bD,if_neg g1,if_neg g2,if_neg g3,if_neg g4,if_pos g5,if_neg g6]
       rw[hB];try (show _=some (bW.mk (Ab (false)) [Os (S)] []))
      ·obtain ⟨n1,e7,g7⟩:=ay ho t_3;obtain ⟨n2,e8,g8⟩:=ay ho p_3;conv=>lhs;rw[e7];cbv;rw[e8];cbv
       rcases aj ho n1 n2 with ⟨e9,g9⟩|⟨e9,g9⟩<;>(conv=>lhs;rw[e9];cbv)
       ·subst Q;have hB:aD (d+1) (.agg [.int .i64 p_0,.int .i64 p_1,.str p_2,.lst p_3]) (.agg [.int .i64 t_0,.int .i64 t_1,.str t_2,.lst t_3]) S=(false,S):=by rw[bD,if_neg g1,if_neg g2,if_neg g3,if_neg g4,if_pos g5,if_pos g6,if_neg (by omega)]
        rw[hB];try (show _=some (bW.mk (Ab (false)) [Os (S)] []))
       ·obtain ⟨b8,hbv⟩:∃b,(aX (aD d) p_3 t_3 S).1=b:=⟨_,rfl⟩
        obtain ⟨l1,hlv⟩:∃z,(aX (aD d) p_3 t_3 S).2=z:=⟨_,rfl⟩
        have e10:o.call 281 [Al p_3,Al t_3,.arr (1,0) (31,4) none false] [Os S]=some ⟨Ab b8,[Os l1],[]⟩:=(sK ho sl d IH p_3 t_3 hPt hq.2 hT8 (by omega) (by omega) S hS hSl).trans (by rw[hbv,hlv]);conv=>lhs;rw[e10];cbv
        subst Q;have hB:aD (d+1) (.agg [.int .i64 p_0,.int .i64 p_1,.str p_2,.lst p_3]) (.agg [.int .i64 t_0,.int .i64 t_1,.str t_2,.lst t_3]) S=((aX (aD d) p_3 t_3 S).1,(aX (aD d) p_3 t_3 S).2):=by rw[bD,if_neg g1,if_neg g2,if_neg g3,if_neg g4,if_pos g5,if_pos g6,if_pos (by omega)]
        rw[hB];try (show _=some (bW.mk (Ab ((aX (aD d) p_3 t_3 S).1)) [Os ((aX (aD d) p_3 t_3 S).2)] []))
        try (rw[hbv,hlv])
    ·rcases aj ho t_0 4 with ⟨e5,g5⟩|⟨e5,g5⟩<;>(conv=>lhs;rw[e5];cbv)
     ·subst Q;have hB:aD (d+1) (.agg [.int .i64 p_0,.int .i64 p_1,.str p_2,.lst p_3]) (.agg [.int .i64 t_0,.int .i64 t_1,.str t_2,.lst t_3]) S=(false,S):=by rw[bD,if_neg g1,if_neg g2,if_neg g3,if_pos g4,if_neg g5]
      rw[hB];try (show _=some (bW.mk (Ab (false)) [Os (S)] []))
     ·obtain ⟨n1,e6,g6⟩:=ay ho t_3;obtain ⟨n2,e7,g7⟩:=ay ho p_3;conv=>lhs;rw[e6];cbv;rw[e7];cbv
      rcases aj ho n1 n2 with ⟨e8,g8⟩|⟨e8,g8⟩<;>(conv=>lhs;rw[e8];cbv)
      ·subst Q;have hB:aD (d+1) (.agg [.int .i64 p_0,.int .i64 p_1,.str p_2,.lst p_3]) (.agg [.int .i64 t_0,.int .i64 t_1,.str t_2,.lst t_3]) S=(false,S):=by rw[bD,if_neg g1,if_neg g2,if_neg g3,if_pos g4,if_pos g5,if_neg (by omega)]
       rw[hB];try (show _=some (bW.mk (Ab (false)) [Os (S)] []))
      ·obtain ⟨b7,hbv⟩:∃b,(aX (aD d) p_3 t_3 S).1=b:=⟨_,rfl⟩
       obtain ⟨l1,hlv⟩:∃z,(aX (aD d) p_3 t_3 S).2=z:=⟨_,rfl⟩
       have e9:o.call 281 [Al p_3,Al t_3,.arr (1,0) (31,4) none false] [Os S]=some ⟨Ab b7,[Os l1],[]⟩:=(sK ho sl d IH p_3 t_3 hPt hq.2 hT8 (by omega) (by omega) S hS hSl).trans (by rw[hbv,hlv]);conv=>lhs;rw[e9];cbv
       subst Q;have hB:aD (d+1) (.agg [.int .i64 p_0,.int .i64 p_1,.str p_2,.lst p_3]) (.agg [.int .i64 t_0,.int .i64 t_1,.str t_2,.lst t_3]) S=((aX (aD d) p_3 t_3 S).1,(aX (aD d) p_3 t_3 S).2):=by rw[bD,if_neg g1,if_neg g2,if_neg g3,if_pos g4,if_pos g5,if_pos (by omega)]
       rw[hB];try (show _=some (bW.mk (Ab ((aX (aD d) p_3 t_3 S).1)) [Os ((aX (aD d) p_3 t_3 S).2)] []))
       try (rw[hbv,hlv])
   ·rcases je ho p_1 0 with ⟨e4,g4⟩|⟨e4,g4⟩<;>(conv=>lhs;rw[e4];cbv)
    ·subst Q;have hB:aD (d+1) (.agg [.int .i64 p_0,.int .i64 p_1,.str p_2,.lst p_3]) (.agg [.int .i64 t_0,.int .i64 t_1,.str t_2,.lst t_3]) S=(true,S):=by rw[bD,if_neg g1,if_neg g2,if_pos g3,if_neg (by omega)]
     rw[hB];try (show _=some (bW.mk (Ab (true)) [Os (S)] []))
    ·have e5:o.call 202 [At t_0 t_1 t_2 t_3] []=Ar (At t_0 t_1 t_2 t_3):=pF ho 8 _ _ _ _ (iS hT);obtain ⟨y,hy0,hy1,hy2⟩:=ax (xs:=S) rfl (show 0<=p_1 by omega) (by have:=hpb.1 (by assumption);omega);obtain ⟨n1,n2,s1,l1,rfl⟩:=DH (hSl _ hy2);have e6:o.dD S p_1=some (.agg [.int .i64 n1,.int .i64 n2,.str s1,.lst l1]):=ak ho (by omega) hy0;conv=>lhs;rw[e5];cbv;rw[e6];cbv;(try (rw[e6];cbv))
     obtain ⟨l2,hset,e7⟩:∃z,z=S.set p_1.toNat (.agg [.int .i64 t_0,.int .i64 t_1,.str t_2,.lst t_3])/\o.set S p_1 (.agg [.int .i64 t_0,.int .i64 t_1,.str t_2,.lst t_3])=z:=⟨_,rfl,ho.set _ _ _⟩
     have hSl2:∀x∈l2,Sl o x:=λx hx=>by
      rw[hset]at hx;rcases List.mem_or_eq_of_mem_set hx with h | h
      · exact hSl x h
      · rw[h];exact .inr hT
     conv=>lhs;rw[e7];cbv
     subst Q;rw[bD,if_neg g1,if_neg g2,if_pos g3,if_pos g4,<-hset]
  ·rcases aj ho t_0 2 with ⟨e3,g3⟩|⟨e3,g3⟩<;>(conv=>lhs;rw[e3];cbv)
   ·subst Q;have hB:aD (d+1) (.agg [.int .i64 p_0,.int .i64 p_1,.str p_2,.lst p_3]) (.agg [.int .i64 t_0,.int .i64 t_1,.str t_2,.lst t_3]) S=(false,S):=by rw[bD,if_neg g1,if_pos g2,if_neg g3]
    rw[hB];try (show _=some (bW.mk (Ab (false)) [Os (S)] []))
   ·rcases aP ho t_2 p_2 with ⟨e4,g4⟩|⟨e4,g4⟩<;>(conv=>lhs;rw[e4];cbv)
    all_goals
     subst Q;have hB:aD (d+1) (.agg [.int .i64 p_0,.int .i64 p_1,.str p_2,.lst p_3]) (.agg [.int .i64 t_0,.int .i64 t_1,.str t_2,.lst t_3]) S=(decide (t_2=p_2),S):=by rw[bD,if_neg g1,if_pos g2,if_pos g3]
     rw[hB];try (show _=some (bW.mk (Ab (decide (t_2=p_2))) [Os (S)] []))
     try (first | rw[decide_eq_true g4] | rw[decide_eq_false g4])
 ·rcases aj ho t_0 1 with ⟨e2,g2⟩|⟨e2,g2⟩<;>(conv=>lhs;rw[e2];cbv)
  ·subst Q;have hB:aD (d+1) (.agg [.int .i64 p_0,.int .i64 p_1,.str p_2,.lst p_3]) (.agg [.int .i64 t_0,.int .i64 t_1,.str t_2,.lst t_3]) S=(false,S):=by rw[bD,if_pos g1,if_neg g2]
   rw[hB];try (show _=some (bW.mk (Ab (false)) [Os (S)] []))
  ·rcases aj ho t_1 p_1 with ⟨e3,g3⟩|⟨e3,g3⟩<;>(conv=>lhs;rw[e3];cbv)
   all_goals
    subst Q;have hB:aD (d+1) (.agg [.int .i64 p_0,.int .i64 p_1,.str p_2,.lst p_3]) (.agg [.int .i64 t_0,.int .i64 t_1,.str t_2,.lst t_3]) S=(decide (t_1=p_1),S):=by rw[bD,if_pos g1,if_pos g2]
    rw[hB];try (show _=some (bW.mk (Ab (decide (t_1=p_1))) [Os (S)] []))
    try (first | rw[decide_eq_true g3] | rw[decide_eq_false g3])
theorem Kl (sl:Int):∀d,BD o sl d
 | 0=>λm k n s l _ hm=>by have hb:dc o sl 0 (.agg [.int .i64 k,.int .i64 n,.str s,.lst l])=301:=rfl;omega
 | d+1=>λm k n s l hP hM tk tn ts tl hT fs i F pc S h0 hf hS hSl=>Nl ho sl d (Kl sl d) m k n s l tk tn ts tl hP hM hT fs i F pc S h0 hf hS hSl
theorem match_ (sl:Int):∀d,MD o sl d
 | 0=>λm k n s l _ hm=>by have hb:dc o sl 0 (.agg [.int .i64 k,.int .i64 n,.str s,.lst l])=301:=rfl;omega
 | d+1=>λm k n s l hP hM tk tn ts tl hT S hS hSl=>Lb ho sl d (match_ sl d) m k n s l tk tn ts tl hP hM hT S hS hSl
end
end T2
