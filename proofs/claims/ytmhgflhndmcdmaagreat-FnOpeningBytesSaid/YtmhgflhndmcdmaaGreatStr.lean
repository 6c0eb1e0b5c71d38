/- Structs. -/
import Derived.Test.YtmhgflhndmcdmaaGreatTb1
import Derived.Test.YtmhgflhndmcdmaaGreatAiArg
namespace Go.AI.Fn
structure Entry where
  Row : Int
  Col : Int
  Value : Int
structure System where
  Rows : Int
  Cols : Int
  Publics : Int
  A : (List Entry)
  B : (List Entry)
  C : (List Entry)
structure l00Src where
  code : (List UInt8)
  at_ : Int
  seed : Int
structure Setting where
  Rate : Int
  Queries : Int
  Grind : Int
structure Ext where
  A : Int
  B : Int
structure Source where
  Script : (List Ext)
  At : Int
  State : (List UInt8)
  Count : Int
structure Query where
  Pairs : (List Ext)
  Paths : (List (List (List UInt8)))
structure Opening where
  Rounds : (List (List Ext))
  Roots : (List (List UInt8))
  Last : Ext
  Nonce : Int
  Queries : (List Query)
structure byteReader where
  b : (List UInt8)
structure Proof where
  Root : (List UInt8)
  Gates : (List (List Ext))
  VA : Ext
  VB : Ext
  VC : Ext
  Wires : (List (List Ext))
  VW : Ext
  Open : Opening
structure l09Cut where
  t : (List UInt8)
  ok : Bool
def eEntry : En Entry := ⟨3, fun x => [I x.Row, I x.Col, I x.Value]⟩
def bdEntry (x : Entry) : Prop := bdI x.Row ∧ bdI x.Col ∧ bdI x.Value
theorem eEntry_esz : eEntry.esz = 3 := by decide
theorem eEntry_enc (x : Entry) : eEntry.enc x = [I x.Row, I x.Col, I x.Value] := rfl
theorem consEntry (a0 : Int) (a1 : Int) (a2 : Int) (l : List Entry) : consR [I a0, I a1, I a2] (rws eEntry l) = rws eEntry ((⟨a0, a1, a2⟩ : Entry) :: l) := rfl
theorem setEntry (a0 : Int) (a1 : Int) (a2 : Int) (l : List Entry) (i : Nat) : setR (rws eEntry l) i [I a0, I a1, I a2] = rws eEntry (l.set i (⟨a0, a1, a2⟩ : Entry)) := by simp [setR, rws, eEntry]
theorem etaEntry (x : Entry) : Entry.mk x.Row x.Col x.Value = x := rfl
attribute [go_sem] eEntry_esz eEntry_enc consEntry setEntry etaEntry
def eSystem : En System := ⟨6, fun x => [I x.Rows, I x.Cols, I x.Publics, sl eEntry x.A, sl eEntry x.B, sl eEntry x.C]⟩
def bdSystem (x : System) : Prop := bdI x.Rows ∧ bdI x.Cols ∧ bdI x.Publics ∧ bdL bdEntry x.A ∧ bdL bdEntry x.B ∧ bdL bdEntry x.C
theorem eSystem_esz : eSystem.esz = 6 := by decide
theorem eSystem_enc (x : System) : eSystem.enc x = [I x.Rows, I x.Cols, I x.Publics, sl eEntry x.A, sl eEntry x.B, sl eEntry x.C] := rfl
theorem consSystem (a0 : Int) (a1 : Int) (a2 : Int) (a3 : (List Entry)) (a4 : (List Entry)) (a5 : (List Entry)) (l : List System) : consR [I a0, I a1, I a2, sl eEntry a3, sl eEntry a4, sl eEntry a5] (rws eSystem l) = rws eSystem ((⟨a0, a1, a2, a3, a4, a5⟩ : System) :: l) := rfl
theorem setSystem (a0 : Int) (a1 : Int) (a2 : Int) (a3 : (List Entry)) (a4 : (List Entry)) (a5 : (List Entry)) (l : List System) (i : Nat) : setR (rws eSystem l) i [I a0, I a1, I a2, sl eEntry a3, sl eEntry a4, sl eEntry a5] = rws eSystem (l.set i (⟨a0, a1, a2, a3, a4, a5⟩ : System)) := by simp [setR, rws, eSystem]
theorem etaSystem (x : System) : System.mk x.Rows x.Cols x.Publics x.A x.B x.C = x := rfl
attribute [go_sem] eSystem_esz eSystem_enc consSystem setSystem etaSystem
theorem consSystem_1 (a0 : Int) (a1 : Int) (a2 : Int) (a4 : (List Entry)) (a5 : (List Entry)) (l : List System) : consR [I a0, I a1, I a2, .imm 1 [], sl eEntry a4, sl eEntry a5] (rws eSystem l) = rws eSystem ((⟨a0, a1, a2, [], a4, a5⟩ : System) :: l) := rfl
attribute [go_sem] consSystem_1
theorem consSystem_2 (a0 : Int) (a1 : Int) (a2 : Int) (a3 : (List Entry)) (a5 : (List Entry)) (l : List System) : consR [I a0, I a1, I a2, sl eEntry a3, .imm 1 [], sl eEntry a5] (rws eSystem l) = rws eSystem ((⟨a0, a1, a2, a3, [], a5⟩ : System) :: l) := rfl
attribute [go_sem] consSystem_2
theorem consSystem_3 (a0 : Int) (a1 : Int) (a2 : Int) (a5 : (List Entry)) (l : List System) : consR [I a0, I a1, I a2, .imm 1 [], .imm 1 [], sl eEntry a5] (rws eSystem l) = rws eSystem ((⟨a0, a1, a2, [], [], a5⟩ : System) :: l) := rfl
attribute [go_sem] consSystem_3
theorem consSystem_4 (a0 : Int) (a1 : Int) (a2 : Int) (a3 : (List Entry)) (a4 : (List Entry)) (l : List System) : consR [I a0, I a1, I a2, sl eEntry a3, sl eEntry a4, .imm 1 []] (rws eSystem l) = rws eSystem ((⟨a0, a1, a2, a3, a4, []⟩ : System) :: l) := rfl
attribute [go_sem] consSystem_4
theorem consSystem_5 (a0 : Int) (a1 : Int) (a2 : Int) (a4 : (List Entry)) (l : List System) : consR [I a0, I a1, I a2, .imm 1 [], sl eEntry a4, .imm 1 []] (rws eSystem l) = rws eSystem ((⟨a0, a1, a2, [], a4, []⟩ : System) :: l) := rfl
attribute [go_sem] consSystem_5
theorem consSystem_6 (a0 : Int) (a1 : Int) (a2 : Int) (a3 : (List Entry)) (l : List System) : consR [I a0, I a1, I a2, sl eEntry a3, .imm 1 [], .imm 1 []] (rws eSystem l) = rws eSystem ((⟨a0, a1, a2, a3, [], []⟩ : System) :: l) := rfl
attribute [go_sem] consSystem_6
theorem consSystem_7 (a0 : Int) (a1 : Int) (a2 : Int) (l : List System) : consR [I a0, I a1, I a2, .imm 1 [], .imm 1 [], .imm 1 []] (rws eSystem l) = rws eSystem ((⟨a0, a1, a2, [], [], []⟩ : System) :: l) := rfl
attribute [go_sem] consSystem_7
def el00Src : En l00Src := ⟨3, fun x => [sl eU8 x.code, I x.at_, I x.seed]⟩
def bdl00Src (x : l00Src) : Prop := bdL (bdT (α := UInt8)) x.code ∧ bdI x.at_ ∧ bdI x.seed
theorem el00Src_esz : el00Src.esz = 3 := by decide
theorem el00Src_enc (x : l00Src) : el00Src.enc x = [sl eU8 x.code, I x.at_, I x.seed] := rfl
theorem consl00Src (a0 : (List UInt8)) (a1 : Int) (a2 : Int) (l : List l00Src) : consR [sl eU8 a0, I a1, I a2] (rws el00Src l) = rws el00Src ((⟨a0, a1, a2⟩ : l00Src) :: l) := rfl
theorem setl00Src (a0 : (List UInt8)) (a1 : Int) (a2 : Int) (l : List l00Src) (i : Nat) : setR (rws el00Src l) i [sl eU8 a0, I a1, I a2] = rws el00Src (l.set i (⟨a0, a1, a2⟩ : l00Src)) := by simp [setR, rws, el00Src]
theorem etal00Src (x : l00Src) : l00Src.mk x.code x.at_ x.seed = x := rfl
attribute [go_sem] el00Src_esz el00Src_enc consl00Src setl00Src etal00Src
theorem consl00Src_1 (a1 : Int) (a2 : Int) (l : List l00Src) : consR [.imm 1 [], I a1, I a2] (rws el00Src l) = rws el00Src ((⟨[], a1, a2⟩ : l00Src) :: l) := rfl
attribute [go_sem] consl00Src_1
def eSetting : En Setting := ⟨3, fun x => [I x.Rate, I x.Queries, I x.Grind]⟩
def bdSetting (x : Setting) : Prop := bdI x.Rate ∧ bdI x.Queries ∧ bdI x.Grind
theorem eSetting_esz : eSetting.esz = 3 := by decide
theorem eSetting_enc (x : Setting) : eSetting.enc x = [I x.Rate, I x.Queries, I x.Grind] := rfl
theorem consSetting (a0 : Int) (a1 : Int) (a2 : Int) (l : List Setting) : consR [I a0, I a1, I a2] (rws eSetting l) = rws eSetting ((⟨a0, a1, a2⟩ : Setting) :: l) := rfl
theorem setSetting (a0 : Int) (a1 : Int) (a2 : Int) (l : List Setting) (i : Nat) : setR (rws eSetting l) i [I a0, I a1, I a2] = rws eSetting (l.set i (⟨a0, a1, a2⟩ : Setting)) := by simp [setR, rws, eSetting]
theorem etaSetting (x : Setting) : Setting.mk x.Rate x.Queries x.Grind = x := rfl
attribute [go_sem] eSetting_esz eSetting_enc consSetting setSetting etaSetting
def eExt : En Ext := ⟨2, fun x => [I x.A, I x.B]⟩
def bdExt (x : Ext) : Prop := bdI x.A ∧ bdI x.B
theorem eExt_esz : eExt.esz = 2 := by decide
theorem eExt_enc (x : Ext) : eExt.enc x = [I x.A, I x.B] := rfl
theorem consExt (a0 : Int) (a1 : Int) (l : List Ext) : consR [I a0, I a1] (rws eExt l) = rws eExt ((⟨a0, a1⟩ : Ext) :: l) := rfl
theorem setExt (a0 : Int) (a1 : Int) (l : List Ext) (i : Nat) : setR (rws eExt l) i [I a0, I a1] = rws eExt (l.set i (⟨a0, a1⟩ : Ext)) := by simp [setR, rws, eExt]
theorem etaExt (x : Ext) : Ext.mk x.A x.B = x := rfl
attribute [go_sem] eExt_esz eExt_enc consExt setExt etaExt
def eSource : En Source := ⟨4, fun x => [sl eExt x.Script, I x.At, S x.State, I x.Count]⟩
def bdSource (x : Source) : Prop := bdL bdExt x.Script ∧ bdI x.At ∧ bdS x.State ∧ bdI x.Count
theorem eSource_esz : eSource.esz = 4 := by decide
theorem eSource_enc (x : Source) : eSource.enc x = [sl eExt x.Script, I x.At, S x.State, I x.Count] := rfl
theorem consSource (a0 : (List Ext)) (a1 : Int) (a2 : (List UInt8)) (a3 : Int) (l : List Source) : consR [sl eExt a0, I a1, S a2, I a3] (rws eSource l) = rws eSource ((⟨a0, a1, a2, a3⟩ : Source) :: l) := rfl
theorem setSource (a0 : (List Ext)) (a1 : Int) (a2 : (List UInt8)) (a3 : Int) (l : List Source) (i : Nat) : setR (rws eSource l) i [sl eExt a0, I a1, S a2, I a3] = rws eSource (l.set i (⟨a0, a1, a2, a3⟩ : Source)) := by simp [setR, rws, eSource]
theorem etaSource (x : Source) : Source.mk x.Script x.At x.State x.Count = x := rfl
attribute [go_sem] eSource_esz eSource_enc consSource setSource etaSource
theorem consSource_1 (a1 : Int) (a2 : (List UInt8)) (a3 : Int) (l : List Source) : consR [.imm 1 [], I a1, S a2, I a3] (rws eSource l) = rws eSource ((⟨[], a1, a2, a3⟩ : Source) :: l) := rfl
attribute [go_sem] consSource_1
def eQuery : En Query := ⟨2, fun x => [sl eExt x.Pairs, sl (eL eS) x.Paths]⟩
def bdQuery (x : Query) : Prop := bdL bdExt x.Pairs ∧ bdL (bdL bdS) x.Paths
theorem eQuery_esz : eQuery.esz = 2 := by decide
theorem eQuery_enc (x : Query) : eQuery.enc x = [sl eExt x.Pairs, sl (eL eS) x.Paths] := rfl
theorem consQuery (a0 : (List Ext)) (a1 : (List (List (List UInt8)))) (l : List Query) : consR [sl eExt a0, sl (eL eS) a1] (rws eQuery l) = rws eQuery ((⟨a0, a1⟩ : Query) :: l) := rfl
theorem setQuery (a0 : (List Ext)) (a1 : (List (List (List UInt8)))) (l : List Query) (i : Nat) : setR (rws eQuery l) i [sl eExt a0, sl (eL eS) a1] = rws eQuery (l.set i (⟨a0, a1⟩ : Query)) := by simp [setR, rws, eQuery]
theorem etaQuery (x : Query) : Query.mk x.Pairs x.Paths = x := rfl
attribute [go_sem] eQuery_esz eQuery_enc consQuery setQuery etaQuery
theorem consQuery_1 (a1 : (List (List (List UInt8)))) (l : List Query) : consR [.imm 1 [], sl (eL eS) a1] (rws eQuery l) = rws eQuery ((⟨[], a1⟩ : Query) :: l) := rfl
attribute [go_sem] consQuery_1
theorem consQuery_2 (a0 : (List Ext)) (l : List Query) : consR [sl eExt a0, .imm 1 []] (rws eQuery l) = rws eQuery ((⟨a0, []⟩ : Query) :: l) := rfl
attribute [go_sem] consQuery_2
theorem consQuery_3  (l : List Query) : consR [.imm 1 [], .imm 1 []] (rws eQuery l) = rws eQuery ((⟨[], []⟩ : Query) :: l) := rfl
attribute [go_sem] consQuery_3
def eOpening : En Opening := ⟨6, fun x => [sl (eL eExt) x.Rounds, sl eS x.Roots, I x.Last.A, I x.Last.B, I x.Nonce, sl eQuery x.Queries]⟩
def bdOpening (x : Opening) : Prop := bdL (bdL bdExt) x.Rounds ∧ bdL bdS x.Roots ∧ bdExt x.Last ∧ bdI x.Nonce ∧ bdL bdQuery x.Queries
theorem eOpening_esz : eOpening.esz = 6 := by decide
theorem eOpening_enc (x : Opening) : eOpening.enc x = [sl (eL eExt) x.Rounds, sl eS x.Roots, I x.Last.A, I x.Last.B, I x.Nonce, sl eQuery x.Queries] := rfl
theorem consOpening (a0 : (List (List Ext))) (a1 : (List (List UInt8))) (a2 : Int) (a3 : Int) (a4 : Int) (a5 : (List Query)) (l : List Opening) : consR [sl (eL eExt) a0, sl eS a1, I a2, I a3, I a4, sl eQuery a5] (rws eOpening l) = rws eOpening ((⟨a0, a1, ⟨a2, a3⟩, a4, a5⟩ : Opening) :: l) := rfl
theorem setOpening (a0 : (List (List Ext))) (a1 : (List (List UInt8))) (a2 : Int) (a3 : Int) (a4 : Int) (a5 : (List Query)) (l : List Opening) (i : Nat) : setR (rws eOpening l) i [sl (eL eExt) a0, sl eS a1, I a2, I a3, I a4, sl eQuery a5] = rws eOpening (l.set i (⟨a0, a1, ⟨a2, a3⟩, a4, a5⟩ : Opening)) := by simp [setR, rws, eOpening]
theorem etaOpening (x : Opening) : Opening.mk x.Rounds x.Roots x.Last x.Nonce x.Queries = x := rfl
attribute [go_sem] eOpening_esz eOpening_enc consOpening setOpening etaOpening
theorem consOpening_1 (a1 : (List (List UInt8))) (a2 : Int) (a3 : Int) (a4 : Int) (a5 : (List Query)) (l : List Opening) : consR [.imm 1 [], sl eS a1, I a2, I a3, I a4, sl eQuery a5] (rws eOpening l) = rws eOpening ((⟨[], a1, ⟨a2, a3⟩, a4, a5⟩ : Opening) :: l) := rfl
attribute [go_sem] consOpening_1
theorem consOpening_2 (a0 : (List (List Ext))) (a2 : Int) (a3 : Int) (a4 : Int) (a5 : (List Query)) (l : List Opening) : consR [sl (eL eExt) a0, .imm 1 [], I a2, I a3, I a4, sl eQuery a5] (rws eOpening l) = rws eOpening ((⟨a0, [], ⟨a2, a3⟩, a4, a5⟩ : Opening) :: l) := rfl
attribute [go_sem] consOpening_2
theorem consOpening_3 (a2 : Int) (a3 : Int) (a4 : Int) (a5 : (List Query)) (l : List Opening) : consR [.imm 1 [], .imm 1 [], I a2, I a3, I a4, sl eQuery a5] (rws eOpening l) = rws eOpening ((⟨[], [], ⟨a2, a3⟩, a4, a5⟩ : Opening) :: l) := rfl
attribute [go_sem] consOpening_3
theorem consOpening_4 (a0 : (List (List Ext))) (a1 : (List (List UInt8))) (a2 : Int) (a3 : Int) (a4 : Int) (l : List Opening) : consR [sl (eL eExt) a0, sl eS a1, I a2, I a3, I a4, .imm 1 []] (rws eOpening l) = rws eOpening ((⟨a0, a1, ⟨a2, a3⟩, a4, []⟩ : Opening) :: l) := rfl
attribute [go_sem] consOpening_4
theorem consOpening_5 (a1 : (List (List UInt8))) (a2 : Int) (a3 : Int) (a4 : Int) (l : List Opening) : consR [.imm 1 [], sl eS a1, I a2, I a3, I a4, .imm 1 []] (rws eOpening l) = rws eOpening ((⟨[], a1, ⟨a2, a3⟩, a4, []⟩ : Opening) :: l) := rfl
attribute [go_sem] consOpening_5
theorem consOpening_6 (a0 : (List (List Ext))) (a2 : Int) (a3 : Int) (a4 : Int) (l : List Opening) : consR [sl (eL eExt) a0, .imm 1 [], I a2, I a3, I a4, .imm 1 []] (rws eOpening l) = rws eOpening ((⟨a0, [], ⟨a2, a3⟩, a4, []⟩ : Opening) :: l) := rfl
attribute [go_sem] consOpening_6
theorem consOpening_7 (a2 : Int) (a3 : Int) (a4 : Int) (l : List Opening) : consR [.imm 1 [], .imm 1 [], I a2, I a3, I a4, .imm 1 []] (rws eOpening l) = rws eOpening ((⟨[], [], ⟨a2, a3⟩, a4, []⟩ : Opening) :: l) := rfl
attribute [go_sem] consOpening_7
def ebyteReader : En byteReader := ⟨1, fun x => [sl eU8 x.b]⟩
def bdbyteReader (x : byteReader) : Prop := bdL (bdT (α := UInt8)) x.b
theorem ebyteReader_esz : ebyteReader.esz = 1 := by decide
theorem ebyteReader_enc (x : byteReader) : ebyteReader.enc x = [sl eU8 x.b] := rfl
theorem consbyteReader (a0 : (List UInt8)) (l : List byteReader) : consR [sl eU8 a0] (rws ebyteReader l) = rws ebyteReader ((⟨a0⟩ : byteReader) :: l) := rfl
theorem setbyteReader (a0 : (List UInt8)) (l : List byteReader) (i : Nat) : setR (rws ebyteReader l) i [sl eU8 a0] = rws ebyteReader (l.set i (⟨a0⟩ : byteReader)) := by simp [setR, rws, ebyteReader]
theorem etabyteReader (x : byteReader) : byteReader.mk x.b = x := rfl
attribute [go_sem] ebyteReader_esz ebyteReader_enc consbyteReader setbyteReader etabyteReader
theorem consbyteReader_1  (l : List byteReader) : consR [.imm 1 []] (rws ebyteReader l) = rws ebyteReader ((⟨[]⟩ : byteReader) :: l) := rfl
attribute [go_sem] consbyteReader_1
def eProof : En Proof := ⟨17, fun x => [S x.Root, sl (eL eExt) x.Gates, I x.VA.A, I x.VA.B, I x.VB.A, I x.VB.B, I x.VC.A, I x.VC.B, sl (eL eExt) x.Wires, I x.VW.A, I x.VW.B, sl (eL eExt) x.Open.Rounds, sl eS x.Open.Roots, I x.Open.Last.A, I x.Open.Last.B, I x.Open.Nonce, sl eQuery x.Open.Queries]⟩
def bdProof (x : Proof) : Prop := bdS x.Root ∧ bdL (bdL bdExt) x.Gates ∧ bdExt x.VA ∧ bdExt x.VB ∧ bdExt x.VC ∧ bdL (bdL bdExt) x.Wires ∧ bdExt x.VW ∧ bdOpening x.Open
theorem eProof_esz : eProof.esz = 17 := by decide
theorem eProof_enc (x : Proof) : eProof.enc x = [S x.Root, sl (eL eExt) x.Gates, I x.VA.A, I x.VA.B, I x.VB.A, I x.VB.B, I x.VC.A, I x.VC.B, sl (eL eExt) x.Wires, I x.VW.A, I x.VW.B, sl (eL eExt) x.Open.Rounds, sl eS x.Open.Roots, I x.Open.Last.A, I x.Open.Last.B, I x.Open.Nonce, sl eQuery x.Open.Queries] := rfl
theorem consProof (a0 : (List UInt8)) (a1 : (List (List Ext))) (a2 : Int) (a3 : Int) (a4 : Int) (a5 : Int) (a6 : Int) (a7 : Int) (a8 : (List (List Ext))) (a9 : Int) (a10 : Int) (a11 : (List (List Ext))) (a12 : (List (List UInt8))) (a13 : Int) (a14 : Int) (a15 : Int) (a16 : (List Query)) (l : List Proof) : consR [S a0, sl (eL eExt) a1, I a2, I a3, I a4, I a5, I a6, I a7, sl (eL eExt) a8, I a9, I a10, sl (eL eExt) a11, sl eS a12, I a13, I a14, I a15, sl eQuery a16] (rws eProof l) = rws eProof ((⟨a0, a1, ⟨a2, a3⟩, ⟨a4, a5⟩, ⟨a6, a7⟩, a8, ⟨a9, a10⟩, ⟨a11, a12, ⟨a13, a14⟩, a15, a16⟩⟩ : Proof) :: l) := rfl
theorem setProof (a0 : (List UInt8)) (a1 : (List (List Ext))) (a2 : Int) (a3 : Int) (a4 : Int) (a5 : Int) (a6 : Int) (a7 : Int) (a8 : (List (List Ext))) (a9 : Int) (a10 : Int) (a11 : (List (List Ext))) (a12 : (List (List UInt8))) (a13 : Int) (a14 : Int) (a15 : Int) (a16 : (List Query)) (l : List Proof) (i : Nat) : setR (rws eProof l) i [S a0, sl (eL eExt) a1, I a2, I a3, I a4, I a5, I a6, I a7, sl (eL eExt) a8, I a9, I a10, sl (eL eExt) a11, sl eS a12, I a13, I a14, I a15, sl eQuery a16] = rws eProof (l.set i (⟨a0, a1, ⟨a2, a3⟩, ⟨a4, a5⟩, ⟨a6, a7⟩, a8, ⟨a9, a10⟩, ⟨a11, a12, ⟨a13, a14⟩, a15, a16⟩⟩ : Proof)) := by simp [setR, rws, eProof]
theorem etaProof (x : Proof) : Proof.mk x.Root x.Gates x.VA x.VB x.VC x.Wires x.VW x.Open = x := rfl
attribute [go_sem] eProof_esz eProof_enc consProof setProof etaProof
def el09Cut : En l09Cut := ⟨2, fun x => [S x.t, B x.ok]⟩
def bdl09Cut (x : l09Cut) : Prop := bdS x.t ∧ bdT (α := Bool) x.ok
theorem el09Cut_esz : el09Cut.esz = 2 := by decide
theorem el09Cut_enc (x : l09Cut) : el09Cut.enc x = [S x.t, B x.ok] := rfl
theorem consl09Cut (a0 : (List UInt8)) (a1 : Bool) (l : List l09Cut) : consR [S a0, B a1] (rws el09Cut l) = rws el09Cut ((⟨a0, a1⟩ : l09Cut) :: l) := rfl
theorem setl09Cut (a0 : (List UInt8)) (a1 : Bool) (l : List l09Cut) (i : Nat) : setR (rws el09Cut l) i [S a0, B a1] = rws el09Cut (l.set i (⟨a0, a1⟩ : l09Cut)) := by simp [setR, rws, el09Cut]
theorem etal09Cut (x : l09Cut) : l09Cut.mk x.t x.ok = x := rfl
attribute [go_sem] el09Cut_esz el09Cut_enc consl09Cut setl09Cut etal09Cut
end Go.AI.Fn
