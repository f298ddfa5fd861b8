import Derived.Test.YtfnagkpidcdocaaGreatM11
set_option linter.all false
namespace Go.Vi
abbrev Ai (n:Int):AV:= .d (.int .i64 n)
abbrev Ab (b:Bool):AV:= .d (.bool b)
abbrev As (s:ByteArray):AV:= .d (.str s)
abbrev Al (l:List D):AV:= .d (.lst l)
abbrev Ar (a:AV):Option bk:=some ⟨a,[],[]⟩
abbrev U:AV:= .undef
abbrev At (a b:Int) (c:ByteArray) (d:List D):AV:= .agg [.d (.int .i64 a),.d (.int .i64 b),.d (.str c),.d (.lst d)]
abbrev Ob (a b:Id):Obj:= .box [.arr a (192,3) none false,.arr b (31,4) none false]
abbrev Oo (l:List D):Option Obj:=some (.orows (192,3) l)
abbrev Op (l:List D):Option Obj:=some (.rows (192,3) l)
abbrev Oq (l:List D):Option Obj:=some (.orows (31,4) l)
abbrev Os (l:List D):Option Obj:=some (.rows (31,4) l)
abbrev lY:bF:=[[],[],[],[],[],[],[],[],[],[],[],[],[],[],[],[],[],[],[],[],[],[],[],[],[],[],[]]
abbrev Ky:bF:=[[],[],[],[],[],[],[],[],[],[],[],[],[],[],[],[],[],[],[],[],[],[],[],[],[],[],[],[],[],[],[],[],[],[],[],[],[],[],[],[],[],[],[],[],[],[],[],[],[],[]]
end Go.Vi
