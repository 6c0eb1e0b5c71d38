/- Codes. -/
import Derived.Test.YtgjlndaebhaciaaSo0
set_option linter.unusedVariables false
set_option maxRecDepth 100000
set_option maxHeartbeats 2000000
namespace Go.AI.So
open Proofs.Try
def fw:=cv (a:=gT f108 [[2,3],[4]])
def cc:aG:=⟨17,mkC fw.1,[.tmp 4],.false,.false⟩
theorem jj:OkF 108 cc:=okq func108
def fe:=cv (a:=gT f137 [[0],[0,3],[3,6,7,8],[3,6,7,8,9],[3,5,6,7,8],[3,5,6,7,8,14],[2],[3,6,7,8],[2]] [(.close [])])
def dl:aG:=⟨18,mkC fe.1,[.tmp 2],.false,.false⟩
def fX:=cv (a:=lp fe.1 0)
def fR:aB:=mkC fX.1
theorem nG:OkF 137 dl:=okq func137
def dM:=cv (a:=gT f138 [[0,1],[0,1,5],[0,1,5,6],[0,1,6,11],[12],[4],[4],[0,1,13],[4],[0,1,16],[4],[19],[4],[4]])
def bF:aG:=⟨20,mkC dM.1,[.tmp 4],.false,.false⟩
theorem ip:OkF 138 bF:=okq func138
def fC:=cv (a:=gT f152 [[0],[2]])
def cf:aG:=⟨6,mkC fC.1,[.tmp 2],.false,.false⟩
theorem jm:OkF 152 cf:=okq func152
end Go.AI.So
