/- Codes. -/
import Derived.Test.YtgjlndaebhaciaaSo0
set_option linter.unusedVariables false
set_option maxRecDepth 100000
set_option maxHeartbeats 2000000
namespace Go.AI.So
open Proofs.Try
def ln:=cv (a:=gT f108 [[2,3],[4]])
def eQ:aJ:=⟨17,mkC ln.1,[.tmp 4],.false,.false⟩
theorem pi:OkF 108 eQ:=okq func108
def kJ:=cv (a:=gT f137 [[0],[0,3],[3,6,7,8],[3,6,7,8,9],[3,5,6,7,8],[3,5,6,7,8,14],[2],[3,6,7,8],[2]] [(.close [])])
def iy:aJ:=⟨18,mkC kJ.1,[.tmp 2],.false,.false⟩
def lW:=cv (a:=lp kJ.1 0)
def mw:aA:=mkC lW.1
theorem tU:OkF 137 iy:=okq func137
def ji:=cv (a:=gT f138 [[0,1],[0,1,5],[0,1,5,6],[0,1,6,11],[12],[4],[4],[0,1,13],[4],[0,1,16],[4],[19],[4],[4]])
def dH:aJ:=⟨20,mkC ji.1,[.tmp 4],.false,.false⟩
theorem oe:OkF 138 dH:=okq func138
def l8:=cv (a:=gT f152 [[0],[2]])
def eX:aJ:=⟨6,mkC l8.1,[.tmp 2],.false,.false⟩
theorem pt:OkF 152 eX:=okq func152
end Go.AI.So
