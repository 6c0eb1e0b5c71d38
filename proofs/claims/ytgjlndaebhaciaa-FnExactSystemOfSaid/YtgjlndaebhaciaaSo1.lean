/- Codes. -/
import Derived.Test.YtgjlndaebhaciaaSo0
set_option linter.unusedVariables false
set_option maxRecDepth 100000
set_option maxHeartbeats 2000000
namespace Go.AI.So
open Proofs.Try
def li:=cv (a:=gT f108 [[2,3],[4]])
def eU:aI:=⟨17,mkC li.1,[.tmp 4],.false,.false⟩
theorem pG:OkF 108 eU:=okq func108
def kC:=cv (a:=gT f137 [[0],[0,3],[3,6,7,8],[3,6,7,8,9],[3,5,6,7,8],[3,5,6,7,8,14],[2],[3,6,7,8],[2]] [(.close [])])
def iu:aI:=⟨18,mkC kC.1,[.tmp 2],.false,.false⟩
def lS:=cv (a:=lp kC.1 0)
def mR:aw:=mkC lS.1
theorem tX:OkF 137 iu:=okq func137
def j9:=cv (a:=gT f138 [[0,1],[0,1,5],[0,1,5,6],[0,1,6,11],[12],[4],[4],[0,1,13],[4],[0,1,16],[4],[19],[4],[4]])
def dF:aI:=⟨20,mkC j9.1,[.tmp 4],.false,.false⟩
theorem o8:OkF 138 dF:=okq func138
def kU:=cv (a:=gT f152 [[0],[2]])
def eX:aI:=⟨6,mkC kU.1,[.tmp 2],.false,.false⟩
theorem pA:OkF 152 eX:=okq func152
end Go.AI.So
