/- Runes' classes. -/
import Derived.Test.YtcbpldmnobckeaaGreatDoorUa
import Derived.KernelRfl
set_option linter.unusedSimpArgs false
set_option linter.unusedVariables false
namespace Go.Pv
open Go.Proofs
set_option maxRecDepth 100000
/-- The kinds of the first runes. -/
def cls (n : Nat) : Int :=
  cond (Nat.ble 97 n && Nat.ble n 122 || Nat.ble 65 n && Nat.ble n 90 || Nat.beq n 95) 1 (cond (Nat.ble 48 n && Nat.ble n 57) 2 (cond (Nat.beq n 32 || Nat.beq n 9 || Nat.beq n 10 || Nat.beq n 13) 3 0))
/-- Those that come up. -/
def used : List Nat := [32, 34, 37, 40, 41, 42, 43, 44, 45, 47, 48, 49, 50, 51, 52, 53, 55, 60, 61, 62, 97, 98, 99, 100, 101, 102, 103, 104, 105, 108, 109, 110, 111, 112, 114, 115, 116, 117, 119, 120, 121, 122, 124]
theorem cls_all : used.all (fun (n : Nat) => decide (callN (mkC m0) 100 32 [.int .i32 n] [] = some (.ok (.int .i64 (cls n)) [] []))) = true := by kernel_rfl
def mCls (args : List V) (h : List VO) : Option CRes :=
  match args, h with
  | [.int .i32 (.ofNat n)], [] => cond (used.any (Nat.beq n)) (some (.ok (.int .i64 (cls n)) [] [])) none
  | _, _ => none
theorem mCls_ok {H : Array Obj} {args : List V} {h : List VO} {r : CRes} (hm : mCls args h = some r) : Fact Tryz.prog H 32 args h r := by
  unfold mCls at hm
  split at hm
  · rename_i n
    cases hb : used.any (Nat.beq n) with
    | false => rw [hb] at hm; cases hm
    | true =>
      rw [hb] at hm
      cases hm
      obtain ⟨k, hk, e⟩ := List.any_eq_true.1 hb
      obtain rfl := Nat.eq_of_beq_eq_true e
      have := List.all_eq_true.1 cls_all n hk
      exact fact_of m0_ok (of_decide_eq_true this)
  · cases hm
def m1 (f : FuncId) (args : List V) (h : List VO) : Option CRes :=
  match f with
  | 32 => mCls args h
  | 58 => cond (sameVs args [.str unqS] && h.isEmpty) (some unqR) none
  | _ => none
theorem m1_ok {H : Array Obj} : ∀ f args hl r, m1 f args hl = some r → Fact Tryz.prog H f args hl r := by
  intro f args hl r h
  unfold m1 at h
  split at h
  · exact mCls_ok h
  · cases hb : sameVs args [.str unqS] && hl.isEmpty with
    | false => rw [hb] at h; cases h
    | true =>
      rw [hb] at h
      cases h
      rw [Bool.and_eq_true] at hb
      rw [sameVs_eq _ _ hb.1, List.isEmpty_iff.1 hb.2]
      exact unq_ok
  · cases h
end Go.Pv
