/- The loop: the states at its head, its rounds. -/
import Derived.Test.YtjncjpnafabaoaaGreatDoorQa
import Derived.Test.YtjncjpnafabaoaaGreatDoorQf
import Derived.KernelRfl
set_option linter.unusedSimpArgs false
set_option linter.unusedVariables false
set_option linter.unusedSectionVars false
namespace Go.Pv
open Go.Proofs
set_option maxRecDepth 100000
/-! ### The loop of MachineVersions: the states at its head. -/
def schV : V := (.ip [(.is [[(.str [97]),(.int .i64 1),(.str []),(.str [97,32,62,61,32,48]),(.str []),(.int .i64 0),(.int .i64 0),(.str []),.nils,(.int .i64 15),(.int .i64 0),(.str []),(.is [[(.int .i64 1),(.int .i64 0),(.str []),.nils],[(.int .i64 4),(.int .i64 0),(.str [97]),.nils]] true),(.int .i64 0),(.int .i64 0),(.str []),.nils,(.bool false),(.bool true),(.bool false),.nils],[(.str [98]),(.int .i64 1),(.str []),(.str []),(.str []),(.int .i64 0),(.int .i64 0),(.str []),.nils,(.int .i64 0),(.int .i64 0),(.str []),.nils,(.int .i64 0),(.int .i64 0),(.str []),.nils,(.bool false),(.bool false),(.bool false),.nils],[(.str [115,117,109]),(.int .i64 1),(.str [97,43,98]),(.str [115,117,109,32,60,32,49,48,48]),(.str []),(.int .i64 7),(.int .i64 0),(.str []),(.is [[(.int .i64 4),(.int .i64 0),(.str [97]),.nils],[(.int .i64 4),(.int .i64 0),(.str [98]),.nils]] true),(.int .i64 14),(.int .i64 0),(.str []),(.is [[(.int .i64 4),(.int .i64 0),(.str [115,117,109]),.nils],[(.int .i64 1),(.int .i64 100),(.str []),.nils]] true),(.int .i64 0),(.int .i64 0),(.str []),.nils,(.bool true),(.bool true),(.bool false),(.is [[(.int .i64 0)],[(.int .i64 1)]] false)],[(.str [98,105,103]),(.int .i64 2),(.str [115,117,109,32,62,32,49,48]),(.str []),(.str []),(.int .i64 14),(.int .i64 0),(.str []),(.is [[(.int .i64 1),(.int .i64 10),(.str []),.nils],[(.int .i64 4),(.int .i64 0),(.str [115,117,109]),.nils]] true),(.int .i64 0),(.int .i64 0),(.str []),.nils,(.int .i64 0),(.int .i64 0),(.str []),.nils,(.bool true),(.bool false),(.bool false),(.is [[(.int .i64 2)]] false)],[(.str [110,111,116,101]),(.int .i64 3),(.str []),(.str [108,101,110,40,110,111,116,101,41,32,60,32,50,48]),(.str [98,105,103]),(.int .i64 0),(.int .i64 0),(.str []),.nils,(.int .i64 14),(.int .i64 0),(.str []),(.is [[(.int .i64 19),(.int .i64 0),(.str []),(.is [[(.int .i64 4),(.int .i64 0),(.str [110,111,116,101]),.nils]] false)],[(.int .i64 1),(.int .i64 20),(.str []),.nils]] true),(.int .i64 4),(.int .i64 0),(.str [98,105,103]),.nils,(.bool false),(.bool true),(.bool true),.nils]] false),(.im [((.str [97]),(.int .i64 0)),((.str [98]),(.int .i64 1)),((.str [115,117,109]),(.int .i64 2)),((.str [98,105,103]),(.int .i64 3)),((.str [110,111,116,101]),(.int .i64 4))]),(.is [[(.int .i64 2)],[(.int .i64 3)]] false)])
def sh0 : St := ⟨[(999999,.un),(11,(.tm .i64 (.sym 0))),(1,(.iv .i64 0 20 0 10)),(2,(.iv .i64 1 21 0 11)),(10,(.tm .i64 (.sym 1))),(7,(.ptr 0 0))], [(.cells [schV,(.int .i64 4),(.ptr 1 0),(.ptr 6 0),(.tm .i64 (.sym 2))] 5),(.cells [schV,(.sl 2 0 5 none),(.sl 3 0 5 none),(.bool false),(.sl 4 0 5 (some 5)),(.mp 5),.nils] 7),(.cells [(.int .i64 0),(.int .i64 0),(.str []),(.int .i64 0),(.int .i64 0),(.str []),(.int .i64 0),(.int .i64 0),(.str []),(.int .i64 0),(.int .i64 0),(.str []),(.int .i64 0),(.int .i64 0),(.str [])] 3),(.cells [(.int .i64 0),(.tm .i64 (.sym 1)),(.int .i64 0),(.int .i64 0),(.int .i64 0)] 1),(.cells [(.int .i64 0),(.int .i64 0),(.str []),(.int .i64 0),(.int .i64 0),(.str []),(.int .i64 4),(.int .i64 3),(.str []),(.int .i64 4),(.int .i64 3),(.str []),(.int .i64 0),(.int .i64 0),(.str [])] 3),(.map []),(.cells [(.int .i64 4),(.mp 7)] 2),(.map [((.int .i64 1),(.agg [(.tm .i64 (.sym 2)),(.tm .i64 (.sym 0)),.un,.un,(.int .i64 0),(.int .i64 0),(.str [])]))])], []⟩
def sh1a : St := ⟨[(999999,.un),(11,(.tm .i64 (.sym 0))),(1,(.iv .i64 0 20 0 10)),(2,(.iv .i64 1 21 0 11)),(10,(.tm .i64 (.sym 1))),(7,(.ptr 0 0))], [(.cells [schV,(.int .i64 4),(.ptr 1 0),(.ptr 7 0),(.tm .i64 (.sym 2))] 5),(.cells [schV,(.sl 2 0 5 none),(.sl 3 0 5 none),(.bool false),(.sl 4 0 5 (some 5)),(.mp 5),(.sl 6 0 1 none)] 7),(.cells [(.int .i64 0),(.int .i64 0),(.str []),(.int .i64 1),(.tm .i64 (.sym 7)),(.str []),(.int .i64 0),(.int .i64 0),(.str []),(.int .i64 0),(.int .i64 0),(.str []),(.int .i64 0),(.int .i64 0),(.str [])] 3),(.cells [(.int .i64 0),(.tm .i64 (.sym 1)),(.int .i64 0),(.int .i64 0),(.int .i64 0)] 1),(.cells [(.int .i64 0),(.int .i64 0),(.str []),(.int .i64 1),(.tm .i64 (.sym 7)),(.str []),(.int .i64 4),(.int .i64 3),(.str []),(.int .i64 4),(.int .i64 3),(.str []),(.int .i64 0),(.int .i64 0),(.str [])] 3),(.map [((.int .i64 1),(.bool true)),((.int .i64 2),(.bool false))]),(.cells [(.int .i64 2)] 1),(.cells [(.int .i64 4),(.mp 8)] 2),(.map [((.int .i64 1),(.agg [(.tm .i64 (.sym 2)),(.tm .i64 (.sym 0)),.un,.un,(.int .i64 0),(.int .i64 0),(.str [])]))])], []⟩
def sh1b : St := ⟨[(999999,.un),(11,(.tm .i64 (.sym 0))),(1,(.iv .i64 0 20 0 10)),(2,(.iv .i64 1 21 0 11)),(10,(.tm .i64 (.sym 1))),(7,(.ptr 0 0))], [(.cells [schV,(.int .i64 4),(.ptr 1 0),(.ptr 6 0),(.tm .i64 (.sym 2))] 5),(.cells [schV,(.sl 2 0 5 none),(.sl 3 0 5 none),(.bool false),(.sl 4 0 5 (some 5)),(.mp 5),.nils] 7),(.cells [(.int .i64 0),(.int .i64 0),(.str []),(.int .i64 1),(.tm .i64 (.sym 7)),(.str []),(.int .i64 0),(.int .i64 0),(.str []),(.int .i64 0),(.int .i64 0),(.str []),(.int .i64 0),(.int .i64 0),(.str [])] 3),(.cells [(.int .i64 0),(.tm .i64 (.sym 1)),(.int .i64 0),(.int .i64 0),(.int .i64 0)] 1),(.cells [(.int .i64 0),(.int .i64 0),(.str []),(.int .i64 1),(.tm .i64 (.sym 7)),(.str []),(.int .i64 4),(.int .i64 3),(.str []),(.int .i64 4),(.int .i64 3),(.str []),(.int .i64 0),(.int .i64 0),(.str [])] 3),(.map [((.int .i64 1),(.bool false))]),(.cells [(.int .i64 4),(.mp 7)] 2),(.map [((.int .i64 1),(.agg [(.tm .i64 (.sym 2)),(.tm .i64 (.sym 0)),.un,.un,(.int .i64 0),(.int .i64 0),(.str [])]))])], []⟩

def s_ (j : Nat) : Tm := .sym j
def ad (a b : Tm) : Tm := .bin .add .i64 a b
def big : Tm := .lit 1099511627776
def qC : List Qy := [⟨.lss, .sym 0, .sym 20, true⟩, ⟨.gtr, .bin .add .i64 (.lit 2) (.sym 0), .sym 2, true⟩, ⟨.gtr, .bin .add .i64 (.lit 1) (.sym 0), .lit 1099511627776, false⟩, ⟨.geq, .sym 0, .lit 0, true⟩, ⟨.lss, .sym 5, .lit 0, false⟩, ⟨.lss, .sym 0, .lit 30, true⟩,
  ⟨.lss, .lit 1099511627776, .bin .add .i64 (.lit 2) (.sym 0), false⟩, ⟨.lss, .bin .add .i64 (.lit 1) (.sym 0), .sym 0, false⟩, ⟨.lss, .bin .add .i64 (.lit 1) (.sym 0), .lit 1, false⟩, ⟨.leq, .bin .add .i64 (.lit 2) (.sym 0), .lit 1099511627776, true⟩, ⟨.leq, .bin .add .i64 (.lit 1) (.sym 0), .sym 0, false⟩,
  ⟨.gtr, .sym 5, .lit 1099511627776, false⟩, ⟨.eql, .bin .add .i64 (.lit 1) (.sym 0), .sym 0, false⟩, ⟨.eql, .sym 1, .sym 1, true⟩, ⟨.leq, .bin .add .i64 (.sym 5) (.lit 1), .lit 1099511627776, true⟩, ⟨.geq, .sym 1, .lit 1099511627776, false⟩, ⟨.geq, .bin .add .i64 (.sym 5) (.lit 1), .lit 0, true⟩,
  ⟨.leq, .sym 1, .lit 1099511627776, true⟩, ⟨.geq, .sym 1, .lit 0, true⟩, ⟨.eql, .sym 11, .sym 11, true⟩, ⟨.eql, .sym 0, .sym 0, true⟩, ⟨.eql, .sym 7, .sym 7, true⟩]
def qN (b : Bool) : List Qy := [⟨.lss, .sym 0, .sym 21, b⟩]
def qF (b : Bool) : List Qy := [⟨.eql, .sym 5, .sym 1, b⟩, ⟨.eql, .sym 1, .sym 5, b⟩]
def qG : List Qy := [⟨.eql, .bin .add .i64 (.sym 5) (.lit 1), .bin .add .i64 (.sym 1) (.lit 1), true⟩]
def new (b : Bool) : Tm := cond b (.sym 11) (.sym 0)
def qS (n b : Bool) : List Qy := [⟨.eql, .sym 7, new n, b⟩]
/-- another version; from blank; from a value -/
def tConf (n : Bool) : List Qy := qN n ++ (qF false ++ qC)
def tBlank (n : Bool) : List Qy := qN n ++ (qF true ++ (qG ++ qC))
def tSet (n b : Bool) : List Qy := qS n b ++ (qN n ++ (qF true ++ (qG ++ qC)))
def tExit (b : Bool) : List Qy := cond b [⟨.lss, .sym 0, .sym 20, true⟩, ⟨.lss, .sym 0, .lit 30, false⟩, ⟨.eql, .sym 1, .sym 1, true⟩] [⟨.lss, .sym 0, .sym 20, false⟩, ⟨.eql, .sym 1, .sym 1, true⟩]
def gConf : List (Nat × Tm) := [(0, .bin .add .i64 (.sym 0) (.lit 1)), (0, .bin .add .i64 (.lit 1) (.sym 0)), (1, .sym 1), (2, .bin .add .i64 (.lit 2) (.sym 0)), (7, .sym 7)]
def gSet (n : Bool) : List (Nat × Tm) := [(0, .bin .add .i64 (.sym 0) (.lit 1)), (0, .bin .add .i64 (.lit 1) (.sym 0)), (1, .bin .add .i64 (.sym 1) (.lit 1)), (2, .bin .add .i64 (.lit 2) (.sym 0)), (7, new n)]
def gPre : List (Nat × Tm) := [(0, .lit 0), (1, .lit 0), (2, .lit 1)]
def ivs5 : List (Nat × Nat × Nat × Nat) := [(0, 20, 0, 10), (1, 21, 0, 11)]
def args5 : List V := [.tm .i64 (.sym 30), .iv .i64 0 20 0 10, .iv .i64 1 21 0 11]
/-! ### The parts of the code. -/
structure Parts where
  a : VC
  b : VC
  c : VC
  d : VC
  e : VC
  l : List Nat
  body : VC
  post : VC
def partsOf (v : VC) : Parts :=
  match v with
  | .seq a (.seq b (.seq c (.seq d (.seq (.seq e (.block _ (.loop l body))) f)))) => ⟨a, b, c, d, e, l, body, f⟩
  | _ => ⟨.skip, .skip, .skip, .skip, .skip, [], .skip, .skip⟩
def P5 : Parts := partsOf c5.body
theorem body5 : c5.body = .seq P5.a (.seq P5.b (.seq P5.c (.seq P5.d (.seq (.seq P5.e (.block 0 (.loop P5.l P5.body))) P5.post)))) := by kernel_rfl
section
variable [Sy]
/-- What is known ahead: Place, the machine made, awake. -/
def mG (f : FuncId) (args : List V) (h : List VO) : Option CRes :=
  match f with
  | 11 => (match args, h with
    | [.tm .i64 (.sym 10), .tm .i64 (.bin .add .i64 (.sym 1) (.lit 2))], [] => some (.ok (.tm .i64 (.sym 5)) [] [])
    | _, _ => none)
  | 12 => memoL es5 f args h
  | 16 => (match args, h with
    | [], [] => some (.ok (.bool true) [] [])
    | _, _ => none)
  | _ => none
def kG : Callf := callN (mkC mG) 400
def chkRd (S : St) (σ : List (Nat × Tm)) (S' : St) : Bool :=
  match run kG 400 0 P5.body S with
  | some (.normal, T) => (match gcS 0 P5.l T with
    | some T' => svS (svV σ ivs5) T' S'
    | none => false)
  | _ => false
def chkT (T : St) : Bool :=
  match run kG 400 0 P5.post T with
  | some (.ret, U) => (match resV U c5.results with
    | some vs => (match finish 0 0 U (resOne vs) with
      | some (.ok (.bool true) [] []) => true
      | _ => false)
    | none => false)
  | _ => false
def chkX (S : St) : Bool :=
  match run kG 400 0 P5.body S with
  | some (.exit 0, T) => chkT T
  | _ => false
def nx (v : VC) (s : St) (k : St → Bool) : Bool :=
  match run kG 400 0 v s with
  | some (.normal, s') => k s'
  | _ => false
def chkP : Bool :=
  nx P5.a ⟨envOf 0 args5, [], []⟩ fun s => nx P5.b s fun s => nx P5.c s fun s => nx P5.d s fun s => nx P5.e s fun s => (match gcS 0 P5.l s with
    | some T' => svS (svV gPre ivs5) T' sh0
    | none => false)
end
section
variable (val : Nat → Int) (ls : Nat → List Int)
def Okq (T : List Qy) : Prop := ∀ q ∈ T, cmpI q.op (tmEv val q.a) (tmEv val q.b) = some q.r
theorem pre_run (h : Okq val []) : @chkP (sySy val ls [] h) = true := by kernel_rfl
end
end Go.Pv
namespace Go.Pv
open Go.Proofs
set_option maxRecDepth 100000
section
variable (val : Nat → Int) (ls : Nat → List Int)
theorem rx_0 (h : Okq val (tExit false)) : @chkX (sySy val ls _ h) sh0 = true := by kernel_rfl
theorem rx_1a (h : Okq val (tExit false)) : @chkX (sySy val ls _ h) sh1a = true := by kernel_rfl
theorem rx_1b (h : Okq val (tExit false)) : @chkX (sySy val ls _ h) sh1b = true := by kernel_rfl
theorem ry_0 (h : Okq val (tExit true)) : @chkX (sySy val ls _ h) sh0 = true := by kernel_rfl
theorem ry_1a (h : Okq val (tExit true)) : @chkX (sySy val ls _ h) sh1a = true := by kernel_rfl
theorem ry_1b (h : Okq val (tExit true)) : @chkX (sySy val ls _ h) sh1b = true := by kernel_rfl
theorem rc_0t (h : Okq val (tConf true)) : @chkRd (sySy val ls _ h) sh0 gConf sh0 = true := by kernel_rfl
theorem rc_0f (h : Okq val (tConf false)) : @chkRd (sySy val ls _ h) sh0 gConf sh0 = true := by kernel_rfl
theorem rc_1at (h : Okq val (tConf true)) : @chkRd (sySy val ls _ h) sh1a gConf sh1a = true := by kernel_rfl
theorem rc_1af (h : Okq val (tConf false)) : @chkRd (sySy val ls _ h) sh1a gConf sh1a = true := by kernel_rfl
theorem rc_1bt (h : Okq val (tConf true)) : @chkRd (sySy val ls _ h) sh1b gConf sh1b = true := by kernel_rfl
theorem rc_1bf (h : Okq val (tConf false)) : @chkRd (sySy val ls _ h) sh1b gConf sh1b = true := by kernel_rfl
theorem rb_t (h : Okq val (tBlank true)) : @chkRd (sySy val ls _ h) sh0 (gSet true) sh1a = true := by kernel_rfl
theorem rb_f (h : Okq val (tBlank false)) : @chkRd (sySy val ls _ h) sh0 (gSet false) sh1a = true := by kernel_rfl
theorem rs_atf (h : Okq val (tSet true false)) : @chkRd (sySy val ls _ h) sh1a (gSet true) sh1a = true := by kernel_rfl
theorem rs_aff (h : Okq val (tSet false false)) : @chkRd (sySy val ls _ h) sh1a (gSet false) sh1a = true := by kernel_rfl
theorem rs_att (h : Okq val (tSet true true)) : @chkRd (sySy val ls _ h) sh1a (gSet true) sh1b = true := by kernel_rfl
theorem rs_aft (h : Okq val (tSet false true)) : @chkRd (sySy val ls _ h) sh1a (gSet false) sh1b = true := by kernel_rfl
theorem rs_btf (h : Okq val (tSet true false)) : @chkRd (sySy val ls _ h) sh1b (gSet true) sh1a = true := by kernel_rfl
theorem rs_bff (h : Okq val (tSet false false)) : @chkRd (sySy val ls _ h) sh1b (gSet false) sh1a = true := by kernel_rfl
theorem rs_btt (h : Okq val (tSet true true)) : @chkRd (sySy val ls _ h) sh1b (gSet true) sh1b = true := by kernel_rfl
theorem rs_bft (h : Okq val (tSet false true)) : @chkRd (sySy val ls _ h) sh1b (gSet false) sh1b = true := by kernel_rfl
end
end Go.Pv
