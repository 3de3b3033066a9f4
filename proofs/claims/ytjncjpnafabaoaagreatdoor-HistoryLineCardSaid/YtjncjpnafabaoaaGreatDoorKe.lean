/- The document's example; calls from a bare world. -/
import Derived.Test.YtjncjpnafabaoaaGreatDoorKd
import Derived.KernelRfl
import Derived.Test.YtjncjpnafabaoaaGreatDoorKb
set_option linter.unusedSimpArgs false
set_option linter.unusedVariables false
set_option linter.unusedSectionVars false
namespace Go.Pv
variable [Sy]
open Go.Proofs
set_option maxRecDepth 100000
theorem awake_run : callN (mkC m3) 400 10 [] [] = some (.ok (.bool true) [] []) := by kernel_rfl
end Go.Pv
namespace Go.Pv
open Go.Proofs Go.RowKit
set_option maxRecDepth 100000
section
variable [Sy]
/-- Place at a number that is not known, the answer given. -/
def mPlace (n k : Int) (args : List V) (h : List VO) : Option CRes :=
  match args, h with
  | [.tm .i64 (.sym 2), .int .i64 m], [] => if m = n then some (.ok (.int .i64 k) [] []) else none
  | _, _ => none
/-- The context of the law: what is known ahead. -/
def m5 (n k : Int) (f : FuncId) (args : List V) (h : List VO) : Option CRes :=
  match f with
  | 7 => memoL news f args h
  | 10 => if args.isEmpty && h.isEmpty then some (.ok (.bool true) [] []) else none
  | 11 => mPlace n k args h
  | 43 | 70 | 73 => memPut 43 70 73 f args h
  | _ => none
theorem m5_ok {H : Array Obj} (hf : ∀ i, inI64 (Sy.val i) = true) (n k : Int) (hn : n = 1 ∨ n = 2 ∨ n = 3 ∨ n = 4 ∨ n = 5) (hk : Sy.val 2 % n = k) : ∀ f args hl r, m5 n k f args hl = some r → Fact Tryz.prog H f args hl r := by
  intro f args hl r h
  unfold m5 at h
  split at h
  · exact memoL_ok (Q := fun f a h r => Fact Tryz.prog H f a h r) news_ok h
  · split at h
    · rename_i hc
      simp only [Bool.and_eq_true, List.isEmpty_iff] at hc
      cases h
      rw [hc.1, hc.2]
      exact fact_of m3_ok awake_run
    · cases h
  · unfold mPlace at h
    split at h
    · rename_i m
      split at h
      · rename_i hm
        cases h
        intro g w us hE hA
        have hp := place_1 (C := mkC m0) (fun _ _ => rfl) rfl (by kernel_rfl) rfl 10 (Sy.val 2) m k (hm ▸ hn) (hm ▸ hk)
        exact callN_ok mixed (mkC_ok m0_ok) 11 _ _ _ _ hp g w us hE (args2 hA (fun u hu => hu.conc0) (fun u hu => hu))
      · cases h
    · cases h
  · exact memP_ok hf h
  · exact memP_ok hf h
  · exact memP_ok hf h
  · cases h

/-! ### A call from a bare world. -/
def gE : G := ⟨fun _ => False, fun _ => False, fun _ => 0, fun _ => 0, fun _ => .dead⟩
omit [Sy] in
theorem gE_O (b : Nat) : ¬ gE.O b := by
  rintro (h | ⟨k, h, _⟩)
  · exact h
  · exact h
theorem ent_bare (w : World) : Ent #[] gE w [] where
  rel := ⟨fun _ h => h.elim, fun _ _ h => h.elim, fun _ h => h.elim, fun _ => trivial, fun _ h => h.elim, fun _ h => h.elim, Nat.le_refl _, fun _ _ _ => rfl, rfl, rfl, rfl⟩
  dom := fun _ => ⟨fun h => h.elim, fun h => absurd h (Nat.not_lt_zero _)⟩
  h := fun _ => rfl
  laid := ⟨fun b hb => absurd hb (Nat.not_lt_zero _), fun _ _ _ _ => .un _⟩
theorem below_bare {g' : G} {w w' : World} (h : Aft gE w g' w') : Below w.heap.size w w' :=
  ⟨h.rel.os, h.rel.tape, h.rel.output, h.rel.size, fun k hk => (h.step.stay k (gE_O k) hk).2⟩
/-- From the machine to the model, from a bare world: a call that hands back a bool. -/
theorem bool_calls {C : Ctx} (hC : CtxOk Tryz.prog #[] C) {N : Nat} {f : FuncId} {args : List V} {b : Bool} (hr : callN C N f args [] = some (.ok (.bool b) [] [])) {w : World}
    {us : Array Value} (hA : Args gE w args us) (hE : ∀ us w, (callFunc f us).run Tryz.prog w = .ok (.enter f us) w) :
    Calls Tryz.prog f us w fun e w' => e = .returned (.bool b) ∧ Below w.heap.size w w' := by
  rcases callN_ok mixed hC N _ _ _ _ hr gE w us (ent_bare w) hA with ⟨_, h⟩ | ⟨u, w', h, _⟩
  · refine h.mono ?_
    rintro e w' h
    cases e with
    | returned u =>
      obtain ⟨v, hl', ws, g', e1, A⟩ := h
      cases e1
      exact ⟨by rw [A.val.inv_bool], below_bare A.aft⟩
    | panicked c => obtain ⟨v, g', u, e1, _⟩ := h; cases e1
    | outgrown => exact h.elim
  · rw [hE] at h; cases h
end
end Go.Pv
