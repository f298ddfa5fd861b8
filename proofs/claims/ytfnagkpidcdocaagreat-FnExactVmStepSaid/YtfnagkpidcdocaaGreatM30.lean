import Derived.Test.YtfnagkpidcdocaaGreatM26
import Derived.Test.YtfnagkpidcdocaaGreatM21
set_option linter.all false
namespace T2
open Go Go.Vi
set_option maxRecDepth 100000
set_option maxHeartbeats 4000000
def lm (xs:List D) (i:Int):Int:=match xs[i.toNat]? with | some (.agg (_:: .int _ a::_))=>a | _=>0
noncomputable def DE (o:aJ) (ps:List D) (i sl:Int):Bool:=match ps[i.toNat]? with | some p=>qU o p sl | none=>false
noncomputable def aQ (o:aJ) (fns ps:List D) (sl n lo op N:Int) (s:ByteArray) (to:Int):Bool:=
 if op=1 then decide (s=⟨#[]⟩)&&decide (to=0)&&iK N 0 1000000000000
 else if op=2 then gD o s&&decide (N=0)&&decide (to=0)
 else if op=3 then decide (s=⟨#[]⟩)&&decide (to=0)&&iK N 0 (sl-1)
 else if op=4 then decide (s=⟨#[]⟩)&&decide (to=0)&&iK N 0 20
 else if op=5 then decide (s=⟨#[]⟩)&&decide (to=0)&&iK N 0 20
 else if op=6 then decide (s=⟨#[]⟩)&&decide (to=0)&&iK N 2 6
 else if op=7 then j9 s&&decide (N=0)&&decide (to=0)
 else if op=8 then decide (0<=jJ fns s)&&decide (lm fns (jJ fns s)=N)&&decide (to=0)
 else if op=9 then decide (s=⟨#[]⟩)&&iK to lo (n-1)&&iK N 0 (ps.length-1)&&DE o ps N sl
 else if op=10 then decide (s=⟨#[]⟩)&&iK to lo (n-1)&&decide (N=0)
 else if op=11 then decide (s=⟨#[]⟩)&&decide (to=0)&&decide (N=0)
 else if op=12 then decide (s=⟨#[]⟩)&&decide (to=0)&&decide (N=0)
 else false
end T2
