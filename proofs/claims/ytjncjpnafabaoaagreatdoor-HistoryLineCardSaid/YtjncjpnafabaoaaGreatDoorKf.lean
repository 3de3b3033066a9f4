/- One call done; the law's context. -/
import Derived.Test.YtjncjpnafabaoaaGreatDoorKa
import Derived.Test.YtjncjpnafabaoaaGreatDoorKe
import Derived.KernelRfl
set_option linter.unusedSimpArgs false
set_option linter.unusedVariables false
set_option linter.unusedSectionVars false
namespace Go.Pv
open Go.Proofs Go.RowKit
set_option maxRecDepth 100000
def sV0 : V := (.ip [(.is [[(.str [97]),(.int .i64 1),(.str []),(.str [97,32,62,61,32,48]),(.str []),(.int .i64 0),(.int .i64 0),(.str []),.nils,(.int .i64 15),(.int .i64 0),(.str []),(.is [[(.int .i64 1),(.int .i64 0),(.str []),.nils],[(.int .i64 4),(.int .i64 0),(.str [97]),.nils]] true),(.int .i64 0),(.int .i64 0),(.str []),.nils,(.bool false),(.bool true),(.bool false),.nils],[(.str [98]),(.int .i64 1),(.str []),(.str []),(.str []),(.int .i64 0),(.int .i64 0),(.str []),.nils,(.int .i64 0),(.int .i64 0),(.str []),.nils,(.int .i64 0),(.int .i64 0),(.str []),.nils,(.bool false),(.bool false),(.bool false),.nils],[(.str [115,117,109]),(.int .i64 1),(.str [97,43,98]),(.str [115,117,109,32,60,32,49,48,48]),(.str []),(.int .i64 7),(.int .i64 0),(.str []),(.is [[(.int .i64 4),(.int .i64 0),(.str [97]),.nils],[(.int .i64 4),(.int .i64 0),(.str [98]),.nils]] true),(.int .i64 14),(.int .i64 0),(.str []),(.is [[(.int .i64 4),(.int .i64 0),(.str [115,117,109]),.nils],[(.int .i64 1),(.int .i64 100),(.str []),.nils]] true),(.int .i64 0),(.int .i64 0),(.str []),.nils,(.bool true),(.bool true),(.bool false),(.is [[(.int .i64 0)],[(.int .i64 1)]] false)],[(.str [98,105,103]),(.int .i64 2),(.str [115,117,109,32,62,32,49,48]),(.str []),(.str []),(.int .i64 14),(.int .i64 0),(.str []),(.is [[(.int .i64 1),(.int .i64 10),(.str []),.nils],[(.int .i64 4),(.int .i64 0),(.str [115,117,109]),.nils]] true),(.int .i64 0),(.int .i64 0),(.str []),.nils,(.int .i64 0),(.int .i64 0),(.str []),.nils,(.bool true),(.bool false),(.bool false),(.is [[(.int .i64 2)]] false)],[(.str [110,111,116,101]),(.int .i64 3),(.str []),(.str [108,101,110,40,110,111,116,101,41,32,60,32,50,48]),(.str [98,105,103]),(.int .i64 0),(.int .i64 0),(.str []),.nils,(.int .i64 14),(.int .i64 0),(.str []),(.is [[(.int .i64 19),(.int .i64 0),(.str []),(.is [[(.int .i64 4),(.int .i64 0),(.str [110,111,116,101]),.nils]] false)],[(.int .i64 1),(.int .i64 20),(.str []),.nils]] true),(.int .i64 4),(.int .i64 0),(.str [98,105,103]),.nils,(.bool false),(.bool true),(.bool true),.nils]] false),(.im [((.str [97]),(.int .i64 0)),((.str [98]),(.int .i64 1)),((.str [115,117,109]),(.int .i64 2)),((.str [98,105,103]),(.int .i64 3)),((.str [110,111,116,101]),(.int .i64 4))]),(.is [[(.int .i64 2)],[(.int .i64 3)]] false)])
/-! ### What a call leaves, less told. -/
def chkW [Sy] (n : Nat) (o : Option CRes) (r : CRes) : Bool :=
  match o, r with
  | some (.ok v h1 ws), .ok v' h2 ws' => V.same v v' && decide (ws = ws') && wkH n ws 0 h1 h2
  | _, _ => false
theorem fact_chk [Sy] {H : Array Obj} {memo : FuncId → List V → List VO → Option CRes} (hm : ∀ f args hl r, memo f args hl = some r → Fact Tryz.prog H f args hl r) {n : Nat} {f : FuncId} {args : List V} {hl : List VO} {r : CRes} (h : chkW hl.length (callN (mkC memo) n f args hl) r = true) : Fact Tryz.prog H f args hl r := by
  unfold chkW at h
  split at h
  · rename_i v h1 ws v' h2 ws' e
    simp only [Bool.and_eq_true, decide_eq_true_eq] at h
    have e1 := V.same_eq _ _ h.1.1
    have e2 := h.1.2
    subst e1
    subst e2
    exact fact_weak h.2 (fact_of hm e)
  · cases h
/-! ### Two neighbours, the same or not. -/
def decD (i : Nat) (d : Bool) (op : BinOp) (a b : Tm) : Option Bool :=
  match op, a, b with
  | .eql, .sym x, .sym y => if Nat.beq x y then some true else if Nat.beq (x + 1) y && Nat.beq y i then some d else none
  | _, _, _ => none
@[reducible] def syD (val : Nat → Int) (i : Nat) (d : Bool) (h : ∀ x, x + 1 = i → (val x == val i) = d) : Sy where
  val := val
  dec := decD i d
  ok := by
    intro op a b r hr
    unfold decD at hr
    split at hr
    · rename_i x y
      split at hr
      · rename_i e; cases hr
        obtain rfl := Nat.eq_of_beq_eq_true e
        exact congrArg some (beq_self_eq_true _)
      · split at hr
        · rename_i e
          cases hr
          rw [Bool.and_eq_true] at e
          obtain rfl := Nat.eq_of_beq_eq_true e.2
          exact congrArg some (h x (Nat.eq_of_beq_eq_true e.1))
        · cases hr
    · cases hr
def dA0 : List V := [sV0,(.ptr 0 0),(.agg [(.int .i64 2),(.int .i64 0),(.int .i64 0),(.str [98]),(.int .i64 0),(.int .i64 1),(.tm .i64 (.sym 0)),(.str [])])]
def dH0 : List VO := [(.cells [sV0,(.sl 1 0 5 none),(.sl 2 0 5 none),(.bool false),(.sl 3 0 5 (some 5)),(.mp 4),.nils] 7),(.cells [(.int .i64 0),(.int .i64 0),(.str []),(.int .i64 0),(.int .i64 0),(.str []),(.int .i64 0),(.int .i64 0),(.str []),(.int .i64 0),(.int .i64 0),(.str []),(.int .i64 0),(.int .i64 0),(.str [])] 3),(.cells [(.int .i64 0),(.int .i64 0),(.int .i64 0),(.int .i64 0),(.int .i64 0)] 1),(.cells [(.int .i64 0),(.int .i64 0),(.str []),(.int .i64 0),(.int .i64 0),(.str []),(.int .i64 4),(.int .i64 3),(.str []),(.int .i64 4),(.int .i64 3),(.str []),(.int .i64 0),(.int .i64 0),(.str [])] 3),(.map [])]
def dR0 : CRes := (.ok (.agg [(.int .i64 0),(.int .i64 1),(.int .i64 0),(.int .i64 0),(.str [])]) [(.cells [sV0,(.sl 1 0 5 none),(.sl 2 0 5 none),(.bool false),(.sl 3 0 5 (some 5)),(.mp 4),.un] 7),(.cells [(.int .i64 0),(.int .i64 0),(.str []),(.int .i64 1),(.tm .i64 (.sym 0)),(.str []),(.int .i64 0),(.int .i64 0),(.str []),(.int .i64 0),(.int .i64 0),(.str []),(.int .i64 0),(.int .i64 0),(.str [])] 3),(.cells [(.int .i64 0),(.int .i64 1),(.int .i64 0),(.int .i64 0),(.int .i64 0)] 1),(.cells [(.int .i64 0),(.int .i64 0),(.str []),(.int .i64 1),(.tm .i64 (.sym 0)),(.str []),(.int .i64 4),(.int .i64 3),(.str []),(.int .i64 4),(.int .i64 3),(.str []),(.int .i64 0),(.int .i64 0),(.str [])] 3),.dead,.dead] [0,2,3,1,4])
theorem do0_r [Sy] : chkW dH0.length (callN (mkC m0) 400 38 dA0 dH0) dR0 = true := by kernel_rfl
theorem do0 {H : Array Obj} [Sy] : Fact Tryz.prog H 38 dA0 dH0 dR0 := fact_chk m0_ok do0_r
def dA1 : List V := [sV0,(.ptr 0 0),(.agg [(.int .i64 4),(.int .i64 0),(.int .i64 0),(.str [98]),(.int .i64 0),(.int .i64 0),(.int .i64 0),(.str [])])]
def dH1 : List VO := [(.cells [sV0,(.sl 1 0 5 none),(.sl 2 0 5 none),(.bool false),(.sl 3 0 5 (some 5)),(.mp 4),.nils] 7),(.cells [(.int .i64 0),(.int .i64 0),(.str []),(.int .i64 1),(.tm .i64 (.sym 0)),(.str []),(.int .i64 0),(.int .i64 0),(.str []),(.int .i64 0),(.int .i64 0),(.str []),(.int .i64 0),(.int .i64 0),(.str [])] 3),(.cells [(.int .i64 0),(.int .i64 1),(.int .i64 0),(.int .i64 0),(.int .i64 0)] 1),(.cells [(.int .i64 0),(.int .i64 0),(.str []),(.int .i64 1),(.tm .i64 (.sym 0)),(.str []),(.int .i64 4),(.int .i64 3),(.str []),(.int .i64 4),(.int .i64 3),(.str []),(.int .i64 0),(.int .i64 0),(.str [])] 3),(.map [])]
def dR1 : CRes := (.ok (.agg [(.int .i64 0),(.int .i64 1),(.int .i64 1),(.tm .i64 (.sym 0)),(.str [])]) [(.cells [sV0,(.sl 1 0 5 none),(.sl 2 0 5 none),(.bool false),(.sl 3 0 5 (some 5)),(.mp 4),.nils] 7),(.cells [(.int .i64 0),(.int .i64 0),(.str []),(.int .i64 1),(.tm .i64 (.sym 0)),(.str []),(.int .i64 0),(.int .i64 0),(.str []),(.int .i64 0),(.int .i64 0),(.str []),(.int .i64 0),(.int .i64 0),(.str [])] 3),(.cells [(.int .i64 0),(.int .i64 1),(.int .i64 0),(.int .i64 0),(.int .i64 0)] 1),(.cells [(.int .i64 0),(.int .i64 0),(.str []),(.int .i64 1),(.tm .i64 (.sym 0)),(.str []),(.int .i64 4),(.int .i64 3),(.str []),(.int .i64 4),(.int .i64 3),(.str []),(.int .i64 0),(.int .i64 0),(.str [])] 3),(.map [])] [])
theorem do1_r [Sy] : chkW dH1.length (callN (mkC m0) 400 38 dA1 dH1) dR1 = true := by kernel_rfl
theorem do1 {H : Array Obj} [Sy] : Fact Tryz.prog H 38 dA1 dH1 dR1 := fact_chk m0_ok do1_r
def dA2 : List V := [sV0,(.ptr 0 0),(.agg [(.int .i64 2),(.int .i64 0),(.int .i64 0),(.str [98]),(.int .i64 1),(.int .i64 1),(.tm .i64 (.sym 1)),(.str [])])]
def dH2 : List VO := [(.cells [sV0,(.sl 1 0 5 none),(.sl 2 0 5 none),(.bool false),(.sl 3 0 5 (some 5)),(.mp 4),.nils] 7),(.cells [(.int .i64 0),(.int .i64 0),(.str []),(.int .i64 1),(.tm .i64 (.sym 0)),(.str []),(.int .i64 0),(.int .i64 0),(.str []),(.int .i64 0),(.int .i64 0),(.str []),(.int .i64 0),(.int .i64 0),(.str [])] 3),(.cells [(.int .i64 0),(.int .i64 1),(.int .i64 0),(.int .i64 0),(.int .i64 0)] 1),(.cells [(.int .i64 0),(.int .i64 0),(.str []),(.int .i64 1),(.tm .i64 (.sym 0)),(.str []),(.int .i64 4),(.int .i64 3),(.str []),(.int .i64 4),(.int .i64 3),(.str []),(.int .i64 0),(.int .i64 0),(.str [])] 3),(.map [])]
def dR2 : CRes := (.ok (.agg [(.int .i64 0),(.int .i64 2),(.int .i64 0),(.int .i64 0),(.str [])]) [(.cells [sV0,(.sl 1 0 5 none),(.sl 2 0 5 none),(.bool false),(.sl 3 0 5 (some 5)),(.mp 4),.un] 7),(.cells [(.int .i64 0),(.int .i64 0),(.str []),(.int .i64 1),(.tm .i64 (.sym 1)),(.str []),(.int .i64 0),(.int .i64 0),(.str []),(.int .i64 0),(.int .i64 0),(.str []),(.int .i64 0),(.int .i64 0),(.str [])] 3),(.cells [(.int .i64 0),(.int .i64 2),(.int .i64 0),(.int .i64 0),(.int .i64 0)] 1),(.cells [(.int .i64 0),(.int .i64 0),(.str []),(.int .i64 1),(.tm .i64 (.sym 1)),(.str []),(.int .i64 4),(.int .i64 3),(.str []),(.int .i64 4),(.int .i64 3),(.str []),(.int .i64 0),(.int .i64 0),(.str [])] 3),.dead,.dead] [0,2,3,1,4])
theorem do2_true (val : Nat → Int) (h : ∀ x, x + 1 = 1 → (val x == val 1) = true) : letI := syD val 1 true h; chkW dH2.length (callN (mkC m0) 400 38 dA2 dH2) dR2 = true := by kernel_rfl
theorem do2_false (val : Nat → Int) (h : ∀ x, x + 1 = 1 → (val x == val 1) = false) : letI := syD val 1 false h; chkW dH2.length (callN (mkC m0) 400 38 dA2 dH2) dR2 = true := by kernel_rfl
theorem do2 {H : Array Obj} [A : Sy] : Fact Tryz.prog H 38 dA2 dH2 dR2 := by
  by_cases e : (A.val 0 == A.val 1) = true
  · have h : ∀ x, x + 1 = 1 → (A.val x == A.val 1) = true := fun x hx => by
      have : x = 0 := by omega
      rw [this]; exact e
    exact Fact.cast (A := syD A.val 1 true h) (B := A) rfl (@fact_chk (syD A.val 1 true h) H _ (@m0_ok (syD A.val 1 true h) H) _ _ _ _ _ (do2_true A.val h))
  · have h : ∀ x, x + 1 = 1 → (A.val x == A.val 1) = false := fun x hx => by
      have : x = 0 := by omega
      rw [this]; exact Bool.eq_false_iff.2 e
    exact Fact.cast (A := syD A.val 1 false h) (B := A) rfl (@fact_chk (syD A.val 1 false h) H _ (@m0_ok (syD A.val 1 false h) H) _ _ _ _ _ (do2_false A.val h))
def dA3 : List V := [sV0,(.ptr 0 0),(.agg [(.int .i64 4),(.int .i64 0),(.int .i64 0),(.str [98]),(.int .i64 0),(.int .i64 0),(.int .i64 0),(.str [])])]
def dH3 : List VO := [(.cells [sV0,(.sl 1 0 5 none),(.sl 2 0 5 none),(.bool false),(.sl 3 0 5 (some 5)),(.mp 4),.nils] 7),(.cells [(.int .i64 0),(.int .i64 0),(.str []),(.int .i64 1),(.tm .i64 (.sym 1)),(.str []),(.int .i64 0),(.int .i64 0),(.str []),(.int .i64 0),(.int .i64 0),(.str []),(.int .i64 0),(.int .i64 0),(.str [])] 3),(.cells [(.int .i64 0),(.int .i64 2),(.int .i64 0),(.int .i64 0),(.int .i64 0)] 1),(.cells [(.int .i64 0),(.int .i64 0),(.str []),(.int .i64 1),(.tm .i64 (.sym 1)),(.str []),(.int .i64 4),(.int .i64 3),(.str []),(.int .i64 4),(.int .i64 3),(.str []),(.int .i64 0),(.int .i64 0),(.str [])] 3),(.map [])]
def dR3 : CRes := (.ok (.agg [(.int .i64 0),(.int .i64 2),(.int .i64 1),(.tm .i64 (.sym 1)),(.str [])]) [(.cells [sV0,(.sl 1 0 5 none),(.sl 2 0 5 none),(.bool false),(.sl 3 0 5 (some 5)),(.mp 4),.nils] 7),(.cells [(.int .i64 0),(.int .i64 0),(.str []),(.int .i64 1),(.tm .i64 (.sym 1)),(.str []),(.int .i64 0),(.int .i64 0),(.str []),(.int .i64 0),(.int .i64 0),(.str []),(.int .i64 0),(.int .i64 0),(.str [])] 3),(.cells [(.int .i64 0),(.int .i64 2),(.int .i64 0),(.int .i64 0),(.int .i64 0)] 1),(.cells [(.int .i64 0),(.int .i64 0),(.str []),(.int .i64 1),(.tm .i64 (.sym 1)),(.str []),(.int .i64 4),(.int .i64 3),(.str []),(.int .i64 4),(.int .i64 3),(.str []),(.int .i64 0),(.int .i64 0),(.str [])] 3),(.map [])] [])
theorem do3_r [Sy] : chkW dH3.length (callN (mkC m0) 400 38 dA3 dH3) dR3 = true := by kernel_rfl
theorem do3 {H : Array Obj} [Sy] : Fact Tryz.prog H 38 dA3 dH3 dR3 := fact_chk m0_ok do3_r
def dA4 : List V := [sV0,(.ptr 0 0),(.agg [(.int .i64 2),(.int .i64 0),(.int .i64 0),(.str [98]),(.int .i64 2),(.int .i64 1),(.tm .i64 (.sym 2)),(.str [])])]
def dH4 : List VO := [(.cells [sV0,(.sl 1 0 5 none),(.sl 2 0 5 none),(.bool false),(.sl 3 0 5 (some 5)),(.mp 4),.nils] 7),(.cells [(.int .i64 0),(.int .i64 0),(.str []),(.int .i64 1),(.tm .i64 (.sym 1)),(.str []),(.int .i64 0),(.int .i64 0),(.str []),(.int .i64 0),(.int .i64 0),(.str []),(.int .i64 0),(.int .i64 0),(.str [])] 3),(.cells [(.int .i64 0),(.int .i64 2),(.int .i64 0),(.int .i64 0),(.int .i64 0)] 1),(.cells [(.int .i64 0),(.int .i64 0),(.str []),(.int .i64 1),(.tm .i64 (.sym 1)),(.str []),(.int .i64 4),(.int .i64 3),(.str []),(.int .i64 4),(.int .i64 3),(.str []),(.int .i64 0),(.int .i64 0),(.str [])] 3),(.map [])]
def dR4 : CRes := (.ok (.agg [(.int .i64 0),(.int .i64 3),(.int .i64 0),(.int .i64 0),(.str [])]) [(.cells [sV0,(.sl 1 0 5 none),(.sl 2 0 5 none),(.bool false),(.sl 3 0 5 (some 5)),(.mp 4),.un] 7),(.cells [(.int .i64 0),(.int .i64 0),(.str []),(.int .i64 1),(.tm .i64 (.sym 2)),(.str []),(.int .i64 0),(.int .i64 0),(.str []),(.int .i64 0),(.int .i64 0),(.str []),(.int .i64 0),(.int .i64 0),(.str [])] 3),(.cells [(.int .i64 0),(.int .i64 3),(.int .i64 0),(.int .i64 0),(.int .i64 0)] 1),(.cells [(.int .i64 0),(.int .i64 0),(.str []),(.int .i64 1),(.tm .i64 (.sym 2)),(.str []),(.int .i64 4),(.int .i64 3),(.str []),(.int .i64 4),(.int .i64 3),(.str []),(.int .i64 0),(.int .i64 0),(.str [])] 3),.dead,.dead] [0,2,3,1,4])
theorem do4_true (val : Nat → Int) (h : ∀ x, x + 1 = 2 → (val x == val 2) = true) : letI := syD val 2 true h; chkW dH4.length (callN (mkC m0) 400 38 dA4 dH4) dR4 = true := by kernel_rfl
theorem do4_false (val : Nat → Int) (h : ∀ x, x + 1 = 2 → (val x == val 2) = false) : letI := syD val 2 false h; chkW dH4.length (callN (mkC m0) 400 38 dA4 dH4) dR4 = true := by kernel_rfl
theorem do4 {H : Array Obj} [A : Sy] : Fact Tryz.prog H 38 dA4 dH4 dR4 := by
  by_cases e : (A.val 1 == A.val 2) = true
  · have h : ∀ x, x + 1 = 2 → (A.val x == A.val 2) = true := fun x hx => by
      have : x = 1 := by omega
      rw [this]; exact e
    exact Fact.cast (A := syD A.val 2 true h) (B := A) rfl (@fact_chk (syD A.val 2 true h) H _ (@m0_ok (syD A.val 2 true h) H) _ _ _ _ _ (do4_true A.val h))
  · have h : ∀ x, x + 1 = 2 → (A.val x == A.val 2) = false := fun x hx => by
      have : x = 1 := by omega
      rw [this]; exact Bool.eq_false_iff.2 e
    exact Fact.cast (A := syD A.val 2 false h) (B := A) rfl (@fact_chk (syD A.val 2 false h) H _ (@m0_ok (syD A.val 2 false h) H) _ _ _ _ _ (do4_false A.val h))
def dA5 : List V := [sV0,(.ptr 0 0),(.agg [(.int .i64 4),(.int .i64 0),(.int .i64 0),(.str [98]),(.int .i64 0),(.int .i64 0),(.int .i64 0),(.str [])])]
def dH5 : List VO := [(.cells [sV0,(.sl 1 0 5 none),(.sl 2 0 5 none),(.bool false),(.sl 3 0 5 (some 5)),(.mp 4),.nils] 7),(.cells [(.int .i64 0),(.int .i64 0),(.str []),(.int .i64 1),(.tm .i64 (.sym 2)),(.str []),(.int .i64 0),(.int .i64 0),(.str []),(.int .i64 0),(.int .i64 0),(.str []),(.int .i64 0),(.int .i64 0),(.str [])] 3),(.cells [(.int .i64 0),(.int .i64 3),(.int .i64 0),(.int .i64 0),(.int .i64 0)] 1),(.cells [(.int .i64 0),(.int .i64 0),(.str []),(.int .i64 1),(.tm .i64 (.sym 2)),(.str []),(.int .i64 4),(.int .i64 3),(.str []),(.int .i64 4),(.int .i64 3),(.str []),(.int .i64 0),(.int .i64 0),(.str [])] 3),(.map [])]
def dR5 : CRes := (.ok (.agg [(.int .i64 0),(.int .i64 3),(.int .i64 1),(.tm .i64 (.sym 2)),(.str [])]) [(.cells [sV0,(.sl 1 0 5 none),(.sl 2 0 5 none),(.bool false),(.sl 3 0 5 (some 5)),(.mp 4),.nils] 7),(.cells [(.int .i64 0),(.int .i64 0),(.str []),(.int .i64 1),(.tm .i64 (.sym 2)),(.str []),(.int .i64 0),(.int .i64 0),(.str []),(.int .i64 0),(.int .i64 0),(.str []),(.int .i64 0),(.int .i64 0),(.str [])] 3),(.cells [(.int .i64 0),(.int .i64 3),(.int .i64 0),(.int .i64 0),(.int .i64 0)] 1),(.cells [(.int .i64 0),(.int .i64 0),(.str []),(.int .i64 1),(.tm .i64 (.sym 2)),(.str []),(.int .i64 4),(.int .i64 3),(.str []),(.int .i64 4),(.int .i64 3),(.str []),(.int .i64 0),(.int .i64 0),(.str [])] 3),(.map [])] [])
theorem do5_r [Sy] : chkW dH5.length (callN (mkC m0) 400 38 dA5 dH5) dR5 = true := by kernel_rfl
theorem do5 {H : Array Obj} [Sy] : Fact Tryz.prog H 38 dA5 dH5 dR5 := fact_chk m0_ok do5_r
def dA6 : List V := [sV0,(.ptr 0 0),(.agg [(.int .i64 2),(.int .i64 0),(.int .i64 0),(.str [98]),(.int .i64 3),(.int .i64 1),(.tm .i64 (.sym 3)),(.str [])])]
def dH6 : List VO := [(.cells [sV0,(.sl 1 0 5 none),(.sl 2 0 5 none),(.bool false),(.sl 3 0 5 (some 5)),(.mp 4),.nils] 7),(.cells [(.int .i64 0),(.int .i64 0),(.str []),(.int .i64 1),(.tm .i64 (.sym 2)),(.str []),(.int .i64 0),(.int .i64 0),(.str []),(.int .i64 0),(.int .i64 0),(.str []),(.int .i64 0),(.int .i64 0),(.str [])] 3),(.cells [(.int .i64 0),(.int .i64 3),(.int .i64 0),(.int .i64 0),(.int .i64 0)] 1),(.cells [(.int .i64 0),(.int .i64 0),(.str []),(.int .i64 1),(.tm .i64 (.sym 2)),(.str []),(.int .i64 4),(.int .i64 3),(.str []),(.int .i64 4),(.int .i64 3),(.str []),(.int .i64 0),(.int .i64 0),(.str [])] 3),(.map [])]
def dR6 : CRes := (.ok (.agg [(.int .i64 0),(.int .i64 4),(.int .i64 0),(.int .i64 0),(.str [])]) [(.cells [sV0,(.sl 1 0 5 none),(.sl 2 0 5 none),(.bool false),(.sl 3 0 5 (some 5)),(.mp 4),.un] 7),(.cells [(.int .i64 0),(.int .i64 0),(.str []),(.int .i64 1),(.tm .i64 (.sym 3)),(.str []),(.int .i64 0),(.int .i64 0),(.str []),(.int .i64 0),(.int .i64 0),(.str []),(.int .i64 0),(.int .i64 0),(.str [])] 3),(.cells [(.int .i64 0),(.int .i64 4),(.int .i64 0),(.int .i64 0),(.int .i64 0)] 1),(.cells [(.int .i64 0),(.int .i64 0),(.str []),(.int .i64 1),(.tm .i64 (.sym 3)),(.str []),(.int .i64 4),(.int .i64 3),(.str []),(.int .i64 4),(.int .i64 3),(.str []),(.int .i64 0),(.int .i64 0),(.str [])] 3),.dead,.dead] [0,2,3,1,4])
theorem do6_true (val : Nat → Int) (h : ∀ x, x + 1 = 3 → (val x == val 3) = true) : letI := syD val 3 true h; chkW dH6.length (callN (mkC m0) 400 38 dA6 dH6) dR6 = true := by kernel_rfl
theorem do6_false (val : Nat → Int) (h : ∀ x, x + 1 = 3 → (val x == val 3) = false) : letI := syD val 3 false h; chkW dH6.length (callN (mkC m0) 400 38 dA6 dH6) dR6 = true := by kernel_rfl
theorem do6 {H : Array Obj} [A : Sy] : Fact Tryz.prog H 38 dA6 dH6 dR6 := by
  by_cases e : (A.val 2 == A.val 3) = true
  · have h : ∀ x, x + 1 = 3 → (A.val x == A.val 3) = true := fun x hx => by
      have : x = 2 := by omega
      rw [this]; exact e
    exact Fact.cast (A := syD A.val 3 true h) (B := A) rfl (@fact_chk (syD A.val 3 true h) H _ (@m0_ok (syD A.val 3 true h) H) _ _ _ _ _ (do6_true A.val h))
  · have h : ∀ x, x + 1 = 3 → (A.val x == A.val 3) = false := fun x hx => by
      have : x = 2 := by omega
      rw [this]; exact Bool.eq_false_iff.2 e
    exact Fact.cast (A := syD A.val 3 false h) (B := A) rfl (@fact_chk (syD A.val 3 false h) H _ (@m0_ok (syD A.val 3 false h) H) _ _ _ _ _ (do6_false A.val h))
def dA7 : List V := [sV0,(.ptr 0 0),(.agg [(.int .i64 4),(.int .i64 0),(.int .i64 0),(.str [98]),(.int .i64 0),(.int .i64 0),(.int .i64 0),(.str [])])]
def dH7 : List VO := [(.cells [sV0,(.sl 1 0 5 none),(.sl 2 0 5 none),(.bool false),(.sl 3 0 5 (some 5)),(.mp 4),.nils] 7),(.cells [(.int .i64 0),(.int .i64 0),(.str []),(.int .i64 1),(.tm .i64 (.sym 3)),(.str []),(.int .i64 0),(.int .i64 0),(.str []),(.int .i64 0),(.int .i64 0),(.str []),(.int .i64 0),(.int .i64 0),(.str [])] 3),(.cells [(.int .i64 0),(.int .i64 4),(.int .i64 0),(.int .i64 0),(.int .i64 0)] 1),(.cells [(.int .i64 0),(.int .i64 0),(.str []),(.int .i64 1),(.tm .i64 (.sym 3)),(.str []),(.int .i64 4),(.int .i64 3),(.str []),(.int .i64 4),(.int .i64 3),(.str []),(.int .i64 0),(.int .i64 0),(.str [])] 3),(.map [])]
def dR7 : CRes := (.ok (.agg [(.int .i64 0),(.int .i64 4),(.int .i64 1),(.tm .i64 (.sym 3)),(.str [])]) [(.cells [sV0,(.sl 1 0 5 none),(.sl 2 0 5 none),(.bool false),(.sl 3 0 5 (some 5)),(.mp 4),.nils] 7),(.cells [(.int .i64 0),(.int .i64 0),(.str []),(.int .i64 1),(.tm .i64 (.sym 3)),(.str []),(.int .i64 0),(.int .i64 0),(.str []),(.int .i64 0),(.int .i64 0),(.str []),(.int .i64 0),(.int .i64 0),(.str [])] 3),(.cells [(.int .i64 0),(.int .i64 4),(.int .i64 0),(.int .i64 0),(.int .i64 0)] 1),(.cells [(.int .i64 0),(.int .i64 0),(.str []),(.int .i64 1),(.tm .i64 (.sym 3)),(.str []),(.int .i64 4),(.int .i64 3),(.str []),(.int .i64 4),(.int .i64 3),(.str []),(.int .i64 0),(.int .i64 0),(.str [])] 3),(.map [])] [])
theorem do7_r [Sy] : chkW dH7.length (callN (mkC m0) 400 38 dA7 dH7) dR7 = true := by kernel_rfl
theorem do7 {H : Array Obj} [Sy] : Fact Tryz.prog H 38 dA7 dH7 dR7 := fact_chk m0_ok do7_r
def doEs : List Me := [⟨38, dA0, dH0, dR0⟩, ⟨38, dA1, dH1, dR1⟩, ⟨38, dA2, dH2, dR2⟩, ⟨38, dA3, dH3, dR3⟩, ⟨38, dA4, dH4, dR4⟩, ⟨38, dA5, dH5, dR5⟩, ⟨38, dA6, dH6, dR6⟩, ⟨38, dA7, dH7, dR7⟩]
theorem doEs_ok {H : Array Obj} [Sy] : ∀ e ∈ doEs, Fact Tryz.prog H e.f e.a e.h e.r := by
  simp only [doEs, List.forall_mem_cons]
  exact ⟨do0, do1, do2, do3, do4, do5, do6, do7, fun _ h => nomatch h⟩
end Go.Pv
namespace Go.Pv
open Go.Proofs Go.RowKit
set_option maxRecDepth 100000
/-! ### The numbers that are set: symbols 0 to 3; which is wrong: 15; by how much: 16; how many numbers: 20. -/
structure LineH (val : Nat → Int) (n : Nat) (b4 dby : Bool) : Prop where
  len : ∀ i : Nat, i < n → (i : Int) < val 20
  eq : n < 4 → val 20 = n
  four : ¬ n < 4 → decide ((4 : Int) < val 20) = b4
  by_ : (val 16 == 0) = dby
  add : dby = false → ∀ j : Nat, j < 4 → IntKind.i64.wrap (val j + val 16) ≠ val j
def decL (n : Nat) (b4 dby : Bool) (op : BinOp) (a b : Tm) : Option Bool :=
  match op, a, b with
  | .lss, .lit (.ofNat i), .sym 20 => if Nat.blt i n then some true else if Nat.blt n 4 then (if Nat.beq i n then some false else none) else if Nat.beq i 4 then some b4 else none
  | .eql, .sym 16, .lit (.ofNat 0) => some dby
  | .eql, .sym j, .bin .add .i64 (.sym k) (.sym 16) => if Nat.beq j k && Nat.blt j 4 && !dby then some false else none
  | .eql, a, b => if a = b then some true else none
  | _, _, _ => none
@[reducible] def syL (val : Nat → Int) (n : Nat) (b4 dby : Bool) (h : LineH val n b4 dby) : Sy where
  val := val
  dec := decL n b4 dby
  ok := by
    intro op a b r hr
    unfold decL at hr
    split at hr
    · rename_i i
      split at hr
      · rename_i hi
        cases hr
        rw [Nat.blt_eq] at hi
        exact congrArg some (decide_eq_true (h.len i hi))
      · split at hr
        · rename_i hn
          rw [Nat.blt_eq] at hn
          split at hr
          · rename_i hi
            cases hr
            obtain rfl := Nat.eq_of_beq_eq_true hi
            refine congrArg some (decide_eq_false ?_)
            show ¬ ((i : Int) < val 20)
            rw [h.eq hn]
            omega
          · cases hr
        · rename_i hn
          rw [Nat.blt_eq] at hn
          split at hr
          · rename_i hi
            cases hr
            obtain rfl := Nat.eq_of_beq_eq_true hi
            exact congrArg some (h.four hn)
          · cases hr
    · cases hr
      exact congrArg some h.by_
    · rename_i j k
      split at hr
      · rename_i hc
        cases hr
        simp only [Bool.and_eq_true, Bool.not_eq_true'] at hc
        obtain rfl := Nat.eq_of_beq_eq_true hc.1.1
        have h4 := hc.1.2
        rw [Nat.blt_eq] at h4
        refine congrArg some ?_
        have := h.add hc.2 j h4
        show (val j == IntKind.i64.wrap (val j + val 16)) = false
        rw [beq_eq_false_iff_ne]
        exact fun e => this e.symm
      · cases hr
    · split at hr
      · rename_i e
        cases hr
        subst e
        exact congrArg some (beq_self_eq_true _)
      · cases hr
    · cases hr
section
variable [Sy]
def mPlaceL (n k : Int) (args : List V) (h : List VO) : Option CRes :=
  match args, h with
  | [.tm .i64 (.sym 15), .int .i64 m], [] => if m = n then some (.ok (.int .i64 k) [] []) else none
  | _, _ => none
/-- The context of the law: what is known ahead. -/
def mL (es : List Me) (n k : Int) (f : FuncId) (args : List V) (h : List VO) : Option CRes :=
  match f with
  | 7 => memoL news f args h
  | 10 => if args.isEmpty && h.isEmpty then some (.ok (.bool true) [] []) else none
  | 11 => mPlaceL n k args h
  | 43 | 70 | 73 => memPut 43 70 73 f args h
  | 38 => memoL doEs f args h
  | 25 | 27 | 9 => memoL es f args h
  | _ => none
theorem mL_ok {es : List Me} (hes : ∀ e ∈ es, Fact Tryz.prog #[] e.f e.a e.h e.r) (hf : ∀ i, inI64 (Sy.val i) = true) (n k : Int) (hn : n = 1 ∨ n = 2 ∨ n = 3 ∨ n = 4 ∨ n = 5) (hk : Sy.val 15 % n = k) : ∀ f args hl r, mL es n k f args hl = some r → Fact Tryz.prog #[] f args hl r := by
  intro f args hl r h
  unfold mL at h
  split at h
  · exact memoL_ok (Q := fun f a h r => Fact Tryz.prog #[] f a h r) news_ok h
  · split at h
    · rename_i hc
      simp only [Bool.and_eq_true, List.isEmpty_iff] at hc
      cases h
      rw [hc.1, hc.2]
      exact fact_of m3_ok awake_run
    · cases h
  · unfold mPlaceL at h
    split at h
    · rename_i m
      split at h
      · rename_i hm
        cases h
        intro g w us hE hA
        have hp := place_1 (C := mkC m0) (fun _ _ => rfl) rfl (by kernel_rfl) rfl 10 (Sy.val 15) m k (hm ▸ hn) (hm ▸ hk)
        exact callN_ok mixed (mkC_ok m0_ok) 11 _ _ _ _ hp g w us hE (args2 hA (fun u hu => hu.conc0) (fun u hu => hu))
      · cases h
    · cases h
  · exact memP_ok hf h
  · exact memP_ok hf h
  · exact memP_ok hf h
  · exact memoL_ok (Q := fun f a h r => Fact Tryz.prog #[] f a h r) doEs_ok h
  · exact memoL_ok (Q := fun f a h r => Fact Tryz.prog #[] f a h r) hes h
  · exact memoL_ok (Q := fun f a h r => Fact Tryz.prog #[] f a h r) hes h
  · exact memoL_ok (Q := fun f a h r => Fact Tryz.prog #[] f a h r) hes h
  · cases h
end
def l_c1 : V := (.is [[(.int .i64 1),(.int .i64 2),(.int .i64 2),(.int .i64 0),(.int .i64 0),(.str [98]),(.int .i64 0),(.int .i64 1),(.tm .i64 (.sym 0)),(.str []),(.int .i64 0),(.int .i64 1),(.int .i64 0),(.int .i64 0),(.str [])],[(.int .i64 3),(.int .i64 4),(.int .i64 4),(.int .i64 0),(.int .i64 0),(.str [98]),(.int .i64 0),(.int .i64 0),(.int .i64 0),(.str []),(.int .i64 0),(.int .i64 1),(.int .i64 1),(.tm .i64 (.sym 0)),(.str [])]] false)
def l_w1x0 : V := (.is [[(.int .i64 1),(.int .i64 2),(.int .i64 2),(.int .i64 0),(.int .i64 0),(.str [98]),(.int .i64 0),(.int .i64 1),(.tm .i64 (.sym 0)),(.str []),(.int .i64 0),(.int .i64 1),(.int .i64 0),(.int .i64 0),(.str [])],[(.int .i64 3),(.int .i64 4),(.int .i64 4),(.int .i64 0),(.int .i64 0),(.str [98]),(.int .i64 0),(.int .i64 0),(.int .i64 0),(.str []),(.int .i64 0),(.int .i64 1),(.int .i64 1),(.tm .i64 (.bin .add .i64 (.sym 0) (.sym 16))),(.str [])]] false)
def l_c2 : V := (.is [[(.int .i64 1),(.int .i64 2),(.int .i64 2),(.int .i64 0),(.int .i64 0),(.str [98]),(.int .i64 0),(.int .i64 1),(.tm .i64 (.sym 0)),(.str []),(.int .i64 0),(.int .i64 1),(.int .i64 0),(.int .i64 0),(.str [])],[(.int .i64 3),(.int .i64 4),(.int .i64 4),(.int .i64 0),(.int .i64 0),(.str [98]),(.int .i64 0),(.int .i64 0),(.int .i64 0),(.str []),(.int .i64 0),(.int .i64 1),(.int .i64 1),(.tm .i64 (.sym 0)),(.str [])],[(.int .i64 5),(.int .i64 6),(.int .i64 2),(.int .i64 0),(.int .i64 0),(.str [98]),(.int .i64 1),(.int .i64 1),(.tm .i64 (.sym 1)),(.str []),(.int .i64 0),(.int .i64 2),(.int .i64 0),(.int .i64 0),(.str [])],[(.int .i64 7),(.int .i64 8),(.int .i64 4),(.int .i64 0),(.int .i64 0),(.str [98]),(.int .i64 0),(.int .i64 0),(.int .i64 0),(.str []),(.int .i64 0),(.int .i64 2),(.int .i64 1),(.tm .i64 (.sym 1)),(.str [])]] false)
def l_w2x0 : V := (.is [[(.int .i64 1),(.int .i64 2),(.int .i64 2),(.int .i64 0),(.int .i64 0),(.str [98]),(.int .i64 0),(.int .i64 1),(.tm .i64 (.sym 0)),(.str []),(.int .i64 0),(.int .i64 1),(.int .i64 0),(.int .i64 0),(.str [])],[(.int .i64 3),(.int .i64 4),(.int .i64 4),(.int .i64 0),(.int .i64 0),(.str [98]),(.int .i64 0),(.int .i64 0),(.int .i64 0),(.str []),(.int .i64 0),(.int .i64 1),(.int .i64 1),(.tm .i64 (.bin .add .i64 (.sym 0) (.sym 16))),(.str [])],[(.int .i64 5),(.int .i64 6),(.int .i64 2),(.int .i64 0),(.int .i64 0),(.str [98]),(.int .i64 1),(.int .i64 1),(.tm .i64 (.sym 1)),(.str []),(.int .i64 0),(.int .i64 2),(.int .i64 0),(.int .i64 0),(.str [])],[(.int .i64 7),(.int .i64 8),(.int .i64 4),(.int .i64 0),(.int .i64 0),(.str [98]),(.int .i64 0),(.int .i64 0),(.int .i64 0),(.str []),(.int .i64 0),(.int .i64 2),(.int .i64 1),(.tm .i64 (.sym 1)),(.str [])]] false)
def l_w2x1 : V := (.is [[(.int .i64 1),(.int .i64 2),(.int .i64 2),(.int .i64 0),(.int .i64 0),(.str [98]),(.int .i64 0),(.int .i64 1),(.tm .i64 (.sym 0)),(.str []),(.int .i64 0),(.int .i64 1),(.int .i64 0),(.int .i64 0),(.str [])],[(.int .i64 3),(.int .i64 4),(.int .i64 4),(.int .i64 0),(.int .i64 0),(.str [98]),(.int .i64 0),(.int .i64 0),(.int .i64 0),(.str []),(.int .i64 0),(.int .i64 1),(.int .i64 1),(.tm .i64 (.sym 0)),(.str [])],[(.int .i64 5),(.int .i64 6),(.int .i64 2),(.int .i64 0),(.int .i64 0),(.str [98]),(.int .i64 1),(.int .i64 1),(.tm .i64 (.sym 1)),(.str []),(.int .i64 0),(.int .i64 2),(.int .i64 0),(.int .i64 0),(.str [])],[(.int .i64 7),(.int .i64 8),(.int .i64 4),(.int .i64 0),(.int .i64 0),(.str [98]),(.int .i64 0),(.int .i64 0),(.int .i64 0),(.str []),(.int .i64 0),(.int .i64 2),(.int .i64 1),(.tm .i64 (.bin .add .i64 (.sym 1) (.sym 16))),(.str [])]] false)
def l_c3 : V := (.is [[(.int .i64 1),(.int .i64 2),(.int .i64 2),(.int .i64 0),(.int .i64 0),(.str [98]),(.int .i64 0),(.int .i64 1),(.tm .i64 (.sym 0)),(.str []),(.int .i64 0),(.int .i64 1),(.int .i64 0),(.int .i64 0),(.str [])],[(.int .i64 3),(.int .i64 4),(.int .i64 4),(.int .i64 0),(.int .i64 0),(.str [98]),(.int .i64 0),(.int .i64 0),(.int .i64 0),(.str []),(.int .i64 0),(.int .i64 1),(.int .i64 1),(.tm .i64 (.sym 0)),(.str [])],[(.int .i64 5),(.int .i64 6),(.int .i64 2),(.int .i64 0),(.int .i64 0),(.str [98]),(.int .i64 1),(.int .i64 1),(.tm .i64 (.sym 1)),(.str []),(.int .i64 0),(.int .i64 2),(.int .i64 0),(.int .i64 0),(.str [])],[(.int .i64 7),(.int .i64 8),(.int .i64 4),(.int .i64 0),(.int .i64 0),(.str [98]),(.int .i64 0),(.int .i64 0),(.int .i64 0),(.str []),(.int .i64 0),(.int .i64 2),(.int .i64 1),(.tm .i64 (.sym 1)),(.str [])],[(.int .i64 9),(.int .i64 10),(.int .i64 2),(.int .i64 0),(.int .i64 0),(.str [98]),(.int .i64 2),(.int .i64 1),(.tm .i64 (.sym 2)),(.str []),(.int .i64 0),(.int .i64 3),(.int .i64 0),(.int .i64 0),(.str [])],[(.int .i64 11),(.int .i64 12),(.int .i64 4),(.int .i64 0),(.int .i64 0),(.str [98]),(.int .i64 0),(.int .i64 0),(.int .i64 0),(.str []),(.int .i64 0),(.int .i64 3),(.int .i64 1),(.tm .i64 (.sym 2)),(.str [])]] false)
def l_w3x0 : V := (.is [[(.int .i64 1),(.int .i64 2),(.int .i64 2),(.int .i64 0),(.int .i64 0),(.str [98]),(.int .i64 0),(.int .i64 1),(.tm .i64 (.sym 0)),(.str []),(.int .i64 0),(.int .i64 1),(.int .i64 0),(.int .i64 0),(.str [])],[(.int .i64 3),(.int .i64 4),(.int .i64 4),(.int .i64 0),(.int .i64 0),(.str [98]),(.int .i64 0),(.int .i64 0),(.int .i64 0),(.str []),(.int .i64 0),(.int .i64 1),(.int .i64 1),(.tm .i64 (.bin .add .i64 (.sym 0) (.sym 16))),(.str [])],[(.int .i64 5),(.int .i64 6),(.int .i64 2),(.int .i64 0),(.int .i64 0),(.str [98]),(.int .i64 1),(.int .i64 1),(.tm .i64 (.sym 1)),(.str []),(.int .i64 0),(.int .i64 2),(.int .i64 0),(.int .i64 0),(.str [])],[(.int .i64 7),(.int .i64 8),(.int .i64 4),(.int .i64 0),(.int .i64 0),(.str [98]),(.int .i64 0),(.int .i64 0),(.int .i64 0),(.str []),(.int .i64 0),(.int .i64 2),(.int .i64 1),(.tm .i64 (.sym 1)),(.str [])],[(.int .i64 9),(.int .i64 10),(.int .i64 2),(.int .i64 0),(.int .i64 0),(.str [98]),(.int .i64 2),(.int .i64 1),(.tm .i64 (.sym 2)),(.str []),(.int .i64 0),(.int .i64 3),(.int .i64 0),(.int .i64 0),(.str [])],[(.int .i64 11),(.int .i64 12),(.int .i64 4),(.int .i64 0),(.int .i64 0),(.str [98]),(.int .i64 0),(.int .i64 0),(.int .i64 0),(.str []),(.int .i64 0),(.int .i64 3),(.int .i64 1),(.tm .i64 (.sym 2)),(.str [])]] false)
def l_w3x1 : V := (.is [[(.int .i64 1),(.int .i64 2),(.int .i64 2),(.int .i64 0),(.int .i64 0),(.str [98]),(.int .i64 0),(.int .i64 1),(.tm .i64 (.sym 0)),(.str []),(.int .i64 0),(.int .i64 1),(.int .i64 0),(.int .i64 0),(.str [])],[(.int .i64 3),(.int .i64 4),(.int .i64 4),(.int .i64 0),(.int .i64 0),(.str [98]),(.int .i64 0),(.int .i64 0),(.int .i64 0),(.str []),(.int .i64 0),(.int .i64 1),(.int .i64 1),(.tm .i64 (.sym 0)),(.str [])],[(.int .i64 5),(.int .i64 6),(.int .i64 2),(.int .i64 0),(.int .i64 0),(.str [98]),(.int .i64 1),(.int .i64 1),(.tm .i64 (.sym 1)),(.str []),(.int .i64 0),(.int .i64 2),(.int .i64 0),(.int .i64 0),(.str [])],[(.int .i64 7),(.int .i64 8),(.int .i64 4),(.int .i64 0),(.int .i64 0),(.str [98]),(.int .i64 0),(.int .i64 0),(.int .i64 0),(.str []),(.int .i64 0),(.int .i64 2),(.int .i64 1),(.tm .i64 (.bin .add .i64 (.sym 1) (.sym 16))),(.str [])],[(.int .i64 9),(.int .i64 10),(.int .i64 2),(.int .i64 0),(.int .i64 0),(.str [98]),(.int .i64 2),(.int .i64 1),(.tm .i64 (.sym 2)),(.str []),(.int .i64 0),(.int .i64 3),(.int .i64 0),(.int .i64 0),(.str [])],[(.int .i64 11),(.int .i64 12),(.int .i64 4),(.int .i64 0),(.int .i64 0),(.str [98]),(.int .i64 0),(.int .i64 0),(.int .i64 0),(.str []),(.int .i64 0),(.int .i64 3),(.int .i64 1),(.tm .i64 (.sym 2)),(.str [])]] false)
def l_w3x2 : V := (.is [[(.int .i64 1),(.int .i64 2),(.int .i64 2),(.int .i64 0),(.int .i64 0),(.str [98]),(.int .i64 0),(.int .i64 1),(.tm .i64 (.sym 0)),(.str []),(.int .i64 0),(.int .i64 1),(.int .i64 0),(.int .i64 0),(.str [])],[(.int .i64 3),(.int .i64 4),(.int .i64 4),(.int .i64 0),(.int .i64 0),(.str [98]),(.int .i64 0),(.int .i64 0),(.int .i64 0),(.str []),(.int .i64 0),(.int .i64 1),(.int .i64 1),(.tm .i64 (.sym 0)),(.str [])],[(.int .i64 5),(.int .i64 6),(.int .i64 2),(.int .i64 0),(.int .i64 0),(.str [98]),(.int .i64 1),(.int .i64 1),(.tm .i64 (.sym 1)),(.str []),(.int .i64 0),(.int .i64 2),(.int .i64 0),(.int .i64 0),(.str [])],[(.int .i64 7),(.int .i64 8),(.int .i64 4),(.int .i64 0),(.int .i64 0),(.str [98]),(.int .i64 0),(.int .i64 0),(.int .i64 0),(.str []),(.int .i64 0),(.int .i64 2),(.int .i64 1),(.tm .i64 (.sym 1)),(.str [])],[(.int .i64 9),(.int .i64 10),(.int .i64 2),(.int .i64 0),(.int .i64 0),(.str [98]),(.int .i64 2),(.int .i64 1),(.tm .i64 (.sym 2)),(.str []),(.int .i64 0),(.int .i64 3),(.int .i64 0),(.int .i64 0),(.str [])],[(.int .i64 11),(.int .i64 12),(.int .i64 4),(.int .i64 0),(.int .i64 0),(.str [98]),(.int .i64 0),(.int .i64 0),(.int .i64 0),(.str []),(.int .i64 0),(.int .i64 3),(.int .i64 1),(.tm .i64 (.bin .add .i64 (.sym 2) (.sym 16))),(.str [])]] false)
def l_c4 : V := (.is [[(.int .i64 1),(.int .i64 2),(.int .i64 2),(.int .i64 0),(.int .i64 0),(.str [98]),(.int .i64 0),(.int .i64 1),(.tm .i64 (.sym 0)),(.str []),(.int .i64 0),(.int .i64 1),(.int .i64 0),(.int .i64 0),(.str [])],[(.int .i64 3),(.int .i64 4),(.int .i64 4),(.int .i64 0),(.int .i64 0),(.str [98]),(.int .i64 0),(.int .i64 0),(.int .i64 0),(.str []),(.int .i64 0),(.int .i64 1),(.int .i64 1),(.tm .i64 (.sym 0)),(.str [])],[(.int .i64 5),(.int .i64 6),(.int .i64 2),(.int .i64 0),(.int .i64 0),(.str [98]),(.int .i64 1),(.int .i64 1),(.tm .i64 (.sym 1)),(.str []),(.int .i64 0),(.int .i64 2),(.int .i64 0),(.int .i64 0),(.str [])],[(.int .i64 7),(.int .i64 8),(.int .i64 4),(.int .i64 0),(.int .i64 0),(.str [98]),(.int .i64 0),(.int .i64 0),(.int .i64 0),(.str []),(.int .i64 0),(.int .i64 2),(.int .i64 1),(.tm .i64 (.sym 1)),(.str [])],[(.int .i64 9),(.int .i64 10),(.int .i64 2),(.int .i64 0),(.int .i64 0),(.str [98]),(.int .i64 2),(.int .i64 1),(.tm .i64 (.sym 2)),(.str []),(.int .i64 0),(.int .i64 3),(.int .i64 0),(.int .i64 0),(.str [])],[(.int .i64 11),(.int .i64 12),(.int .i64 4),(.int .i64 0),(.int .i64 0),(.str [98]),(.int .i64 0),(.int .i64 0),(.int .i64 0),(.str []),(.int .i64 0),(.int .i64 3),(.int .i64 1),(.tm .i64 (.sym 2)),(.str [])],[(.int .i64 13),(.int .i64 14),(.int .i64 2),(.int .i64 0),(.int .i64 0),(.str [98]),(.int .i64 3),(.int .i64 1),(.tm .i64 (.sym 3)),(.str []),(.int .i64 0),(.int .i64 4),(.int .i64 0),(.int .i64 0),(.str [])],[(.int .i64 15),(.int .i64 16),(.int .i64 4),(.int .i64 0),(.int .i64 0),(.str [98]),(.int .i64 0),(.int .i64 0),(.int .i64 0),(.str []),(.int .i64 0),(.int .i64 4),(.int .i64 1),(.tm .i64 (.sym 3)),(.str [])]] false)
def l_w4x0 : V := (.is [[(.int .i64 1),(.int .i64 2),(.int .i64 2),(.int .i64 0),(.int .i64 0),(.str [98]),(.int .i64 0),(.int .i64 1),(.tm .i64 (.sym 0)),(.str []),(.int .i64 0),(.int .i64 1),(.int .i64 0),(.int .i64 0),(.str [])],[(.int .i64 3),(.int .i64 4),(.int .i64 4),(.int .i64 0),(.int .i64 0),(.str [98]),(.int .i64 0),(.int .i64 0),(.int .i64 0),(.str []),(.int .i64 0),(.int .i64 1),(.int .i64 1),(.tm .i64 (.bin .add .i64 (.sym 0) (.sym 16))),(.str [])],[(.int .i64 5),(.int .i64 6),(.int .i64 2),(.int .i64 0),(.int .i64 0),(.str [98]),(.int .i64 1),(.int .i64 1),(.tm .i64 (.sym 1)),(.str []),(.int .i64 0),(.int .i64 2),(.int .i64 0),(.int .i64 0),(.str [])],[(.int .i64 7),(.int .i64 8),(.int .i64 4),(.int .i64 0),(.int .i64 0),(.str [98]),(.int .i64 0),(.int .i64 0),(.int .i64 0),(.str []),(.int .i64 0),(.int .i64 2),(.int .i64 1),(.tm .i64 (.sym 1)),(.str [])],[(.int .i64 9),(.int .i64 10),(.int .i64 2),(.int .i64 0),(.int .i64 0),(.str [98]),(.int .i64 2),(.int .i64 1),(.tm .i64 (.sym 2)),(.str []),(.int .i64 0),(.int .i64 3),(.int .i64 0),(.int .i64 0),(.str [])],[(.int .i64 11),(.int .i64 12),(.int .i64 4),(.int .i64 0),(.int .i64 0),(.str [98]),(.int .i64 0),(.int .i64 0),(.int .i64 0),(.str []),(.int .i64 0),(.int .i64 3),(.int .i64 1),(.tm .i64 (.sym 2)),(.str [])],[(.int .i64 13),(.int .i64 14),(.int .i64 2),(.int .i64 0),(.int .i64 0),(.str [98]),(.int .i64 3),(.int .i64 1),(.tm .i64 (.sym 3)),(.str []),(.int .i64 0),(.int .i64 4),(.int .i64 0),(.int .i64 0),(.str [])],[(.int .i64 15),(.int .i64 16),(.int .i64 4),(.int .i64 0),(.int .i64 0),(.str [98]),(.int .i64 0),(.int .i64 0),(.int .i64 0),(.str []),(.int .i64 0),(.int .i64 4),(.int .i64 1),(.tm .i64 (.sym 3)),(.str [])]] false)
def l_w4x1 : V := (.is [[(.int .i64 1),(.int .i64 2),(.int .i64 2),(.int .i64 0),(.int .i64 0),(.str [98]),(.int .i64 0),(.int .i64 1),(.tm .i64 (.sym 0)),(.str []),(.int .i64 0),(.int .i64 1),(.int .i64 0),(.int .i64 0),(.str [])],[(.int .i64 3),(.int .i64 4),(.int .i64 4),(.int .i64 0),(.int .i64 0),(.str [98]),(.int .i64 0),(.int .i64 0),(.int .i64 0),(.str []),(.int .i64 0),(.int .i64 1),(.int .i64 1),(.tm .i64 (.sym 0)),(.str [])],[(.int .i64 5),(.int .i64 6),(.int .i64 2),(.int .i64 0),(.int .i64 0),(.str [98]),(.int .i64 1),(.int .i64 1),(.tm .i64 (.sym 1)),(.str []),(.int .i64 0),(.int .i64 2),(.int .i64 0),(.int .i64 0),(.str [])],[(.int .i64 7),(.int .i64 8),(.int .i64 4),(.int .i64 0),(.int .i64 0),(.str [98]),(.int .i64 0),(.int .i64 0),(.int .i64 0),(.str []),(.int .i64 0),(.int .i64 2),(.int .i64 1),(.tm .i64 (.bin .add .i64 (.sym 1) (.sym 16))),(.str [])],[(.int .i64 9),(.int .i64 10),(.int .i64 2),(.int .i64 0),(.int .i64 0),(.str [98]),(.int .i64 2),(.int .i64 1),(.tm .i64 (.sym 2)),(.str []),(.int .i64 0),(.int .i64 3),(.int .i64 0),(.int .i64 0),(.str [])],[(.int .i64 11),(.int .i64 12),(.int .i64 4),(.int .i64 0),(.int .i64 0),(.str [98]),(.int .i64 0),(.int .i64 0),(.int .i64 0),(.str []),(.int .i64 0),(.int .i64 3),(.int .i64 1),(.tm .i64 (.sym 2)),(.str [])],[(.int .i64 13),(.int .i64 14),(.int .i64 2),(.int .i64 0),(.int .i64 0),(.str [98]),(.int .i64 3),(.int .i64 1),(.tm .i64 (.sym 3)),(.str []),(.int .i64 0),(.int .i64 4),(.int .i64 0),(.int .i64 0),(.str [])],[(.int .i64 15),(.int .i64 16),(.int .i64 4),(.int .i64 0),(.int .i64 0),(.str [98]),(.int .i64 0),(.int .i64 0),(.int .i64 0),(.str []),(.int .i64 0),(.int .i64 4),(.int .i64 1),(.tm .i64 (.sym 3)),(.str [])]] false)
def l_w4x2 : V := (.is [[(.int .i64 1),(.int .i64 2),(.int .i64 2),(.int .i64 0),(.int .i64 0),(.str [98]),(.int .i64 0),(.int .i64 1),(.tm .i64 (.sym 0)),(.str []),(.int .i64 0),(.int .i64 1),(.int .i64 0),(.int .i64 0),(.str [])],[(.int .i64 3),(.int .i64 4),(.int .i64 4),(.int .i64 0),(.int .i64 0),(.str [98]),(.int .i64 0),(.int .i64 0),(.int .i64 0),(.str []),(.int .i64 0),(.int .i64 1),(.int .i64 1),(.tm .i64 (.sym 0)),(.str [])],[(.int .i64 5),(.int .i64 6),(.int .i64 2),(.int .i64 0),(.int .i64 0),(.str [98]),(.int .i64 1),(.int .i64 1),(.tm .i64 (.sym 1)),(.str []),(.int .i64 0),(.int .i64 2),(.int .i64 0),(.int .i64 0),(.str [])],[(.int .i64 7),(.int .i64 8),(.int .i64 4),(.int .i64 0),(.int .i64 0),(.str [98]),(.int .i64 0),(.int .i64 0),(.int .i64 0),(.str []),(.int .i64 0),(.int .i64 2),(.int .i64 1),(.tm .i64 (.sym 1)),(.str [])],[(.int .i64 9),(.int .i64 10),(.int .i64 2),(.int .i64 0),(.int .i64 0),(.str [98]),(.int .i64 2),(.int .i64 1),(.tm .i64 (.sym 2)),(.str []),(.int .i64 0),(.int .i64 3),(.int .i64 0),(.int .i64 0),(.str [])],[(.int .i64 11),(.int .i64 12),(.int .i64 4),(.int .i64 0),(.int .i64 0),(.str [98]),(.int .i64 0),(.int .i64 0),(.int .i64 0),(.str []),(.int .i64 0),(.int .i64 3),(.int .i64 1),(.tm .i64 (.bin .add .i64 (.sym 2) (.sym 16))),(.str [])],[(.int .i64 13),(.int .i64 14),(.int .i64 2),(.int .i64 0),(.int .i64 0),(.str [98]),(.int .i64 3),(.int .i64 1),(.tm .i64 (.sym 3)),(.str []),(.int .i64 0),(.int .i64 4),(.int .i64 0),(.int .i64 0),(.str [])],[(.int .i64 15),(.int .i64 16),(.int .i64 4),(.int .i64 0),(.int .i64 0),(.str [98]),(.int .i64 0),(.int .i64 0),(.int .i64 0),(.str []),(.int .i64 0),(.int .i64 4),(.int .i64 1),(.tm .i64 (.sym 3)),(.str [])]] false)
def l_w4x3 : V := (.is [[(.int .i64 1),(.int .i64 2),(.int .i64 2),(.int .i64 0),(.int .i64 0),(.str [98]),(.int .i64 0),(.int .i64 1),(.tm .i64 (.sym 0)),(.str []),(.int .i64 0),(.int .i64 1),(.int .i64 0),(.int .i64 0),(.str [])],[(.int .i64 3),(.int .i64 4),(.int .i64 4),(.int .i64 0),(.int .i64 0),(.str [98]),(.int .i64 0),(.int .i64 0),(.int .i64 0),(.str []),(.int .i64 0),(.int .i64 1),(.int .i64 1),(.tm .i64 (.sym 0)),(.str [])],[(.int .i64 5),(.int .i64 6),(.int .i64 2),(.int .i64 0),(.int .i64 0),(.str [98]),(.int .i64 1),(.int .i64 1),(.tm .i64 (.sym 1)),(.str []),(.int .i64 0),(.int .i64 2),(.int .i64 0),(.int .i64 0),(.str [])],[(.int .i64 7),(.int .i64 8),(.int .i64 4),(.int .i64 0),(.int .i64 0),(.str [98]),(.int .i64 0),(.int .i64 0),(.int .i64 0),(.str []),(.int .i64 0),(.int .i64 2),(.int .i64 1),(.tm .i64 (.sym 1)),(.str [])],[(.int .i64 9),(.int .i64 10),(.int .i64 2),(.int .i64 0),(.int .i64 0),(.str [98]),(.int .i64 2),(.int .i64 1),(.tm .i64 (.sym 2)),(.str []),(.int .i64 0),(.int .i64 3),(.int .i64 0),(.int .i64 0),(.str [])],[(.int .i64 11),(.int .i64 12),(.int .i64 4),(.int .i64 0),(.int .i64 0),(.str [98]),(.int .i64 0),(.int .i64 0),(.int .i64 0),(.str []),(.int .i64 0),(.int .i64 3),(.int .i64 1),(.tm .i64 (.sym 2)),(.str [])],[(.int .i64 13),(.int .i64 14),(.int .i64 2),(.int .i64 0),(.int .i64 0),(.str [98]),(.int .i64 3),(.int .i64 1),(.tm .i64 (.sym 3)),(.str []),(.int .i64 0),(.int .i64 4),(.int .i64 0),(.int .i64 0),(.str [])],[(.int .i64 15),(.int .i64 16),(.int .i64 4),(.int .i64 0),(.int .i64 0),(.str [98]),(.int .i64 0),(.int .i64 0),(.int .i64 0),(.str []),(.int .i64 0),(.int .i64 4),(.int .i64 1),(.tm .i64 (.bin .add .i64 (.sym 3) (.sym 16))),(.str [])]] false)
end Go.Pv
