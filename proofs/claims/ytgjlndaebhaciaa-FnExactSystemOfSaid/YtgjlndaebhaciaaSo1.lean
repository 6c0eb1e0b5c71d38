/- Codes. -/
import Derived.Test.YtgjlndaebhaciaaSo0
set_option linter.unusedVariables false
set_option maxRecDepth 100000
set_option maxHeartbeats 2000000
namespace Go.AI.So
open Proofs.Try
def lv:=cv (a:=gT f108 [[2,3],[4]])
def eQ:aJ:=⟨17,mkC lv.1,[.tmp 4],.false,.false⟩
theorem pr:OkF 108 eQ:=okq func108
def kO:=cv (a:=gT f137 [[0],[0,3],[3,6,7,8],[3,6,7,8,9],[3,5,6,7,8],[3,5,6,7,8,14],[2],[3,6,7,8],[2]] [(.close [])])
def ix:aJ:=⟨18,mkC kO.1,[.tmp 2],.false,.false⟩
def lX:=cv (a:=lp kO.1 0)
def lR:aA:=mkC lX.1
theorem tG:OkF 137 ix:=okq func137
def jc:=cv (a:=gT f138 [[0,1],[0,1,5],[0,1,5,6],[0,1,6,11],[12],[4],[4],[0,1,13],[4],[0,1,16],[4],[19],[4],[4]])
def dI:aJ:=⟨20,mkC jc.1,[.tmp 4],.false,.false⟩
theorem od:OkF 138 dI:=okq func138
def lj:=cv (a:=gT f152 [[0],[2]])
def eV:aJ:=⟨6,mkC lj.1,[.tmp 2],.false,.false⟩
theorem pD:OkF 152 eV:=okq func152
end Go.AI.So
