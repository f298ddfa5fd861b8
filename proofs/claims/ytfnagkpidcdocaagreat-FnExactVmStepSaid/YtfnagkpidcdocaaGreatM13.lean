import Derived.Test.YtfnagkpidcdocaaGreatM12
set_option linter.all false
namespace Go.Vi
abbrev Ai (n:Int):AV:= .d (.int .i64 n)
abbrev Ab (b:Bool):AV:= .d (.bool b)
abbrev As (s:ByteArray):AV:= .d (.str s)
abbrev Al (l:List D):AV:= .d (.lst l)
abbrev Ar (a:AV):Option bW:=some ⟨a,[],[]⟩
abbrev U:AV:= .undef
abbrev At (a b:Int) (c:ByteArray) (d:List D):AV:= .agg [.d (.int .i64 a),.d (.int .i64 b),.d (.str c),.d (.lst d)]
abbrev Ob (a b:Id):Obj:= .box [.arr a (192,3) none false,.arr b (31,4) none false]
abbrev Oo (l:List D):Option Obj:=some (.orows (192,3) l)
abbrev Op (l:List D):Option Obj:=some (.rows (192,3) l)
abbrev Oq (l:List D):Option Obj:=some (.orows (31,4) l)
abbrev Os (l:List D):Option Obj:=some (.rows (31,4) l)
abbrev G7:br:=[[],[],[],[],[],[],[],[],[],[],[],[],[],[],[]]
abbrev uz:br:=[[],[],[],[],[],[],[],[],[],[],[],[],[],[],[],[],[],[],[],[],[],[],[],[],[],[],[]]
abbrev RH:br:=[[],[],[],[],[],[],[],[],[],[],[],[],[],[],[],[],[],[],[],[],[],[],[],[],[],[],[],[],[],[],[],[],[],[],[],[],[],[],[],[]]
abbrev RI:br:=[[],[],[],[],[],[],[],[],[],[],[],[],[],[],[],[],[],[],[],[],[],[],[],[],[],[],[],[],[],[],[],[],[],[],[],[],[],[],[],[],[],[],[],[],[],[],[],[],[],[]]
abbrev Ow:List AV:=[U,U,U,U,U,U,U,U,U,U,U,U,U,U,U,U,U,U]
abbrev Ox:List AV:=[U,U,U,U,U,U,U,U,U,U,U,U,U,U,U,U,U,U,U]
abbrev G8:List AV:=[U,U,U,U,U,U,U,U,U,U,U,U,U,U,U,U,U,U,U,U,U]
abbrev Oy:List AV:=[U,U,U,U,U,U,U,U,U,U,U,U,U,U,U,U,U,U,U,U,U,U]
abbrev Oz:List AV:=[U,U,U,U,U,U,U,U,U,U,U,U,U,U,U,U,U,U,U,U,U,U,U,U,U]
abbrev OA:List AV:=[U,U,U,U,U,U,U,U,U,U,U,U,U,U,U,U,U,U,U,U,U,U,U,U,U,U,U]
abbrev Sz:List AV:=[U,U,U,U,U,U,U,U,U,U,U,U,U,U,U,U,U,U,U,U,U,U,U,U,U,U,U,U]
abbrev SA:List AV:=[U,U,U,U,U,U,U,U,U,U,U,U,U,U,U,U,U,U,U,U,U,U,U,U,U,U,U,U,U,U,U,U]
abbrev SB:List AV:=[U,U,U,U,U,U,U,U,U,U,U,U,U,U,U,U,U,U,U,U,U,U,U,U,U,U,U,U,U,U,U,U,U,U]
abbrev OM:List AV:=[U,U,U,U,U,U,U,U,U,U,U,U,U,U,U,U,U,U,U,U,U,U,U,U,U,U,U,U,U,U,U,U,U,U,U,U]
abbrev SC:List AV:=[U,U,U,U,U,U,U,U,U,U,U,U,U,U,U,U,U,U,U,U,U,U,U,U,U,U,U,U,U,U,U,U,U,U,U,U,U,U]
abbrev OO:List AV:=[U,U,U,U,U,U,U,U,U,U,U,U,U,U,U,U,U,U,U,U,U,U,U,U,U,U,U,U,U,U,U,U,U,U,U,U,U,U,U,U]
abbrev SD:List AV:=[U,U,U,U,U,U,U,U,U,U,U,U,U,U,U,U,U,U,U,U,U,U,U,U,U,U,U,U,U,U,U,U,U,U,U,U,U,U,U,U,U,U,U,U]
abbrev SE:List AV:=[U,U,U,U,U,U,U,U,U,U,U,U,U,U,U,U,U,U,U,U,U,U,U,U,U,U,U,U,U,U,U,U,U,U,U,U,U,U,U,U,U,U,U,U,U,U,U,U]
abbrev RJ (t:br):br:=[]::[]::[]::[]::[]::[]::[]::[]::[]::[]::[]::[]::[]::[]::[]::[]::[]::[]::[]::[]::[]::[]::[]::[]::[]::[]::[]::[]::[]::[]::[]::[]::[]::[]::t
abbrev KU (t:br):br:=[]::[]::[]::[]::[]::[]::[]::[]::[]::[]::[]::[]::[]::[]::[]::[]::[]::[]::[]::[]::[]::[]::[]::[]::[]::[]::[]::[]::[]::[]::[]::[]::[]::[]::[]::[]::[]::[]::[]::[]::[]::[]::t
end Go.Vi
