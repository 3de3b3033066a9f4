/- Runes' classes; the formulas, parsed. -/
import Derived.Test.YtjncjpnafabaoaaGreatDoorQb
import Derived.KernelRfl
set_option linter.unusedSimpArgs false
set_option linter.unusedVariables false
set_option linter.unusedSectionVars false
namespace Go.Pv
variable [Sy]
open Go.Proofs
set_option maxRecDepth 100000
/-- The kinds of the first runes. -/
def cls (n : Nat) : Int :=
  cond (Nat.ble 97 n && Nat.ble n 122 || Nat.ble 65 n && Nat.ble n 90 || Nat.beq n 95) 1 (cond (Nat.ble 48 n && Nat.ble n 57) 2 (cond (Nat.beq n 32 || Nat.beq n 9 || Nat.beq n 10 || Nat.beq n 13) 3 0))
/-- Those that come up. -/
def used : List Nat := [32, 34, 37, 40, 41, 42, 43, 44, 45, 47, 48, 49, 50, 51, 52, 53, 55, 60, 61, 62, 97, 98, 99, 100, 101, 102, 103, 104, 105, 108, 109, 110, 111, 112, 114, 115, 116, 117, 119, 120, 121, 122, 124]
theorem cls_all : used.all (fun (n : Nat) => decide (callN (mkC m0) 100 74 [.int .i32 n] [] = some (.ok (.int .i64 (cls n)) [] []))) = true := by kernel_rfl
def mCls (args : List V) (h : List VO) : Option CRes :=
  match args, h with
  | [.int .i32 (.ofNat n)], [] => cond (used.any (Nat.beq n)) (some (.ok (.int .i64 (cls n)) [] [])) none
  | _, _ => none
theorem mCls_ok {H : Array Obj} {args : List V} {h : List VO} {r : CRes} (hm : mCls args h = some r) : Fact Tryz.prog H 74 args h r := by
  unfold mCls at hm
  split at hm
  · rename_i n
    cases hb : used.any (Nat.beq n) with
    | false => rw [hb] at hm; cases hm
    | true =>
      rw [hb] at hm
      cases hm
      obtain ⟨k, hk, e⟩ := List.any_eq_true.1 hb
      obtain rfl := Nat.eq_of_beq_eq_true e
      have := List.all_eq_true.1 cls_all n hk
      exact fact_of m0_ok (of_decide_eq_true this)
  · cases hm
def m1 (f : FuncId) (args : List V) (h : List VO) : Option CRes :=
  match f with
  | 74 => mCls args h
  | _ => none
theorem m1_ok {H : Array Obj} : ∀ f args hl r, m1 f args hl = some r → Fact Tryz.prog H f args hl r := by
  intro f args hl r h
  unfold m1 at h
  split at h
  · exact mCls_ok h
  · cases h
end Go.Pv
namespace Go.Pv
variable [Sy]
open Go.Proofs
set_option maxRecDepth 100000
def r0 : CRes := (.ok (.tup [(.agg [(.int .i64 15),(.int .i64 0),(.str []),(.is [[(.int .i64 1),(.int .i64 0),(.str []),.nils],[(.int .i64 4),(.int .i64 0),(.str [97]),.nils]] true)]),(.int .i64 0),(.int .i64 0)]) [] [])
theorem p0 : callN (mkC m1) 400 47 [(.str [97,32,62,61,32,48])] [] = some r0 := by kernel_rfl
def r1 : CRes := (.ok (.tup [(.agg [(.int .i64 7),(.int .i64 0),(.str []),(.is [[(.int .i64 4),(.int .i64 0),(.str [97]),.nils],[(.int .i64 4),(.int .i64 0),(.str [98]),.nils]] true)]),(.int .i64 0),(.int .i64 0)]) [] [])
theorem p1 : callN (mkC m1) 400 47 [(.str [97,43,98])] [] = some r1 := by kernel_rfl
def r2 : CRes := (.ok (.tup [(.agg [(.int .i64 14),(.int .i64 0),(.str []),(.is [[(.int .i64 4),(.int .i64 0),(.str [115,117,109]),.nils],[(.int .i64 1),(.int .i64 100),(.str []),.nils]] true)]),(.int .i64 0),(.int .i64 0)]) [] [])
theorem p2 : callN (mkC m1) 400 47 [(.str [115,117,109,32,60,32,49,48,48])] [] = some r2 := by kernel_rfl
def r3 : CRes := (.ok (.tup [(.agg [(.int .i64 14),(.int .i64 0),(.str []),(.is [[(.int .i64 1),(.int .i64 10),(.str []),.nils],[(.int .i64 4),(.int .i64 0),(.str [115,117,109]),.nils]] true)]),(.int .i64 0),(.int .i64 0)]) [] [])
theorem p3 : callN (mkC m1) 400 47 [(.str [115,117,109,32,62,32,49,48])] [] = some r3 := by kernel_rfl
def r4 : CRes := (.ok (.tup [(.agg [(.int .i64 14),(.int .i64 0),(.str []),(.is [[(.int .i64 19),(.int .i64 0),(.str []),(.is [[(.int .i64 4),(.int .i64 0),(.str [110,111,116,101]),.nils]] false)],[(.int .i64 1),(.int .i64 20),(.str []),.nils]] true)]),(.int .i64 0),(.int .i64 0)]) [] [])
theorem p4 : callN (mkC m1) 400 47 [(.str [108,101,110,40,110,111,116,101,41,32,60,32,50,48])] [] = some r4 := by kernel_rfl
def r5 : CRes := (.ok (.tup [(.agg [(.int .i64 4),(.int .i64 0),(.str [98,105,103]),.nils]),(.int .i64 0),(.int .i64 0)]) [] [])
theorem p5 : callN (mkC m1) 400 47 [(.str [98,105,103])] [] = some r5 := by kernel_rfl
def parses : List Me := [⟨47, [(.str [97,32,62,61,32,48])], [], r0⟩,
  ⟨47, [(.str [97,43,98])], [], r1⟩,
  ⟨47, [(.str [115,117,109,32,60,32,49,48,48])], [], r2⟩,
  ⟨47, [(.str [115,117,109,32,62,32,49,48])], [], r3⟩,
  ⟨47, [(.str [108,101,110,40,110,111,116,101,41,32,60,32,50,48])], [], r4⟩,
  ⟨47, [(.str [98,105,103])], [], r5⟩]
theorem parses_ok {H : Array Obj} : ∀ e ∈ parses, Fact Tryz.prog H e.f e.a e.h e.r := by
  simp only [parses, List.forall_mem_cons]
  exact ⟨fact_of m1_ok p0, fact_of m1_ok p1, fact_of m1_ok p2, fact_of m1_ok p3, fact_of m1_ok p4, fact_of m1_ok p5, fun _ h => nomatch h⟩
def m2 (f : FuncId) (args : List V) (h : List VO) : Option CRes :=
  match f with
  | 47 => memoL parses f args h
  | _ => m1 f args h
theorem m2_ok {H : Array Obj} : ∀ f args hl r, m2 f args hl = some r → Fact Tryz.prog H f args hl r := by
  intro f args hl r h
  unfold m2 at h
  split at h
  · exact memoL_ok (Q := fun f a h r => Fact Tryz.prog H f a h r) parses_ok h
  · exact m1_ok _ _ _ _ h
end Go.Pv
