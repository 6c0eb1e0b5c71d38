/- Codes. -/
import Derived.Test.YtgjlndaebhaciaaSo0
set_option linter.unusedVariables false
set_option maxRecDepth 100000
set_option maxHeartbeats 2000000
namespace Go.AI.So
open Proofs.Try
def kY:=cv (a:=gT f108 [[2,3],[4]])
def eR:aI:=⟨17,mkC kY.1,[.tmp 4],.false,.false⟩
theorem pu:OkF 108 eR:=okq func108
def kP:=cv (a:=gT f137 [[0],[0,3],[3,6,7,8],[3,6,7,8,9],[3,5,6,7,8],[3,5,6,7,8,14],[2],[3,6,7,8],[2]] [(.close [])])
def iu:aI:=⟨18,mkC kP.1,[.tmp 2],.false,.false⟩
def mJ:=cv (a:=lp kP.1 0)
def ma:aw:=mkC mJ.1
theorem tI:OkF 137 iu:=okq func137
def jb:=cv (a:=gT f138 [[0,1],[0,1,5],[0,1,5,6],[0,1,6,11],[12],[4],[4],[0,1,13],[4],[0,1,16],[4],[19],[4],[4]])
def dF:aI:=⟨20,mkC jb.1,[.tmp 4],.false,.false⟩
theorem nV:OkF 138 dF:=okq func138
def l7:=cv (a:=gT f152 [[0],[2]])
def eU:aI:=⟨6,mkC l7.1,[.tmp 2],.false,.false⟩
theorem pz:OkF 152 eU:=okq func152
end Go.AI.So
