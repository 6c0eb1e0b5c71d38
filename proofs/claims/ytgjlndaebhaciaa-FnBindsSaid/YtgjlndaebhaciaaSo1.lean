/- Codes. -/
import Derived.Test.YtgjlndaebhaciaaSo0
set_option linter.unusedVariables false
set_option maxRecDepth 100000
set_option maxHeartbeats 2000000
namespace Go.AI.So
open Proofs.Try
def fN:=cv (a:=gT f108 [[2,3],[4]])
def cr:aC:=⟨17,mkC fN.1,[.tmp 4],.false,.false⟩
theorem kf:OkF 108 cr:=okq func108
def fH:=cv (a:=gT f137 [[0],[0,3],[3,6,7,8],[3,6,7,8,9],[3,5,6,7,8],[3,5,6,7,8,14],[2],[3,6,7,8],[2]] [(.close [])])
def dx:aC:=⟨18,mkC fH.1,[.tmp 2],.false,.false⟩
def gG:=cv (a:=lp fH.1 0)
def gN:au:=mkC gG.1
theorem oA:OkF 137 dx:=okq func137
def dY:=cv (a:=gT f138 [[0,1],[0,1,5],[0,1,5,6],[0,1,6,11],[12],[4],[4],[0,1,13],[4],[0,1,16],[4],[19],[4],[4]])
def bM:aC:=⟨20,mkC dY.1,[.tmp 4],.false,.false⟩
theorem iN:OkF 138 bM:=okq func138
def fS:=cv (a:=gT f152 [[0],[2]])
def cx:aC:=⟨6,mkC fS.1,[.tmp 2],.false,.false⟩
theorem ke:OkF 152 cx:=okq func152
end Go.AI.So
