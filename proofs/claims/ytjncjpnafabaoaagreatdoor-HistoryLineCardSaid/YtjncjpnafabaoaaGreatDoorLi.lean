/- The law, at whatever comes in. -/
import Derived.Test.YtjncjpnafabaoaaGreatDoorLh
import Derived.Shelf.Abstract
import Derived.Test.YtjncjpnafabaoaaGreatDoorIe
set_option linter.unusedSimpArgs false
set_option linter.unusedVariables false
set_option linter.unusedSectionVars false

namespace Go.Pv
open Go.Proofs Go.RowKit
set_option maxRecDepth 100000
theorem enter3 : ∀ args w, (callFunc 3 args).run Tryz.prog w = .ok (.enter 3 args) w := fun args w => enters_of (c := Tryz.f3.body.getD default) Tryz.func3 (by kernel_rfl) (by kernel_rfl) args w
def symL (n : Nat) : List (List V) := (List.range n).map fun i => [.tm .i64 (.sym i)]
theorem r0y_c (val : Nat → Int) (b4 : Bool) (dby : Bool) (h : LineH val 0 b4 dby) (hf : ∀ i, inI64 (val i) = true) (W : World) (us : Array Value) (hA : @Args (syL val 0 b4 dby h) gE W [.it (symL 0) 20, .tm .i64 (.sym 15), .tm .i64 (.sym 16)] us) : Calls Tryz.prog 3 us W fun e w' => e = .returned (.bool true) ∧ Below W.heap.size W w' :=
  @bool_calls (syL val 0 b4 dby h) _ (@mkC_ok (syL val 0 b4 dby h) _ _ (@mL_ok (syL val 0 b4 dby h) [c0zE] (by simp only [List.forall_mem_cons]; exact ⟨c0zF val b4 dby h hf, fun _ h => nomatch h⟩) hf 1 0 (by omega) (Int.emod_one _))) 400 3 _ true (r0y val b4 dby h) W us hA enter3
theorem r1y_c (val : Nat → Int) (b4 : Bool) (h : LineH val 1 b4 true) (hf : ∀ i, inI64 (val i) = true) (W : World) (us : Array Value) (hA : @Args (syL val 1 b4 true h) gE W [.it (symL 1) 20, .tm .i64 (.sym 15), .tm .i64 (.sym 16)] us) : Calls Tryz.prog 3 us W fun e w' => e = .returned (.bool true) ∧ Below W.heap.size W w' :=
  @bool_calls (syL val 1 b4 true h) _ (@mkC_ok (syL val 1 b4 true h) _ _ (@mL_ok (syL val 1 b4 true h) [c1zE] (by simp only [List.forall_mem_cons]; exact ⟨c1zF val b4 true h hf, fun _ h => nomatch h⟩) hf 1 0 (by omega) (Int.emod_one _))) 400 3 _ true (r1y val b4 h) W us hA enter3
theorem r10_c (val : Nat → Int) (b4 : Bool) (h : LineH val 1 b4 false) (hf : ∀ i, inI64 (val i) = true) (hk : val 15 % 1 = 0) (W : World) (us : Array Value) (hA : @Args (syL val 1 b4 false h) gE W [.it (symL 1) 20, .tm .i64 (.sym 15), .tm .i64 (.sym 16)] us) : Calls Tryz.prog 3 us W fun e w' => e = .returned (.bool true) ∧ Below W.heap.size W w' :=
  @bool_calls (syL val 1 b4 false h) _ (@mkC_ok (syL val 1 b4 false h) _ _ (@mL_ok (syL val 1 b4 false h) [c1zE, w1x0zE] (by simp only [List.forall_mem_cons]; exact ⟨c1zF val b4 false h hf, w1x0zF val b4 h hf, fun _ h => nomatch h⟩) hf 1 0 (by omega) hk)) 400 3 _ true (r10 val b4 h) W us hA enter3
theorem r2y_c (val : Nat → Int) (b4 : Bool) (h : LineH val 2 b4 true) (hf : ∀ i, inI64 (val i) = true) (W : World) (us : Array Value) (hA : @Args (syL val 2 b4 true h) gE W [.it (symL 2) 20, .tm .i64 (.sym 15), .tm .i64 (.sym 16)] us) : Calls Tryz.prog 3 us W fun e w' => e = .returned (.bool true) ∧ Below W.heap.size W w' :=
  @bool_calls (syL val 2 b4 true h) _ (@mkC_ok (syL val 2 b4 true h) _ _ (@mL_ok (syL val 2 b4 true h) [c2zE] (by simp only [List.forall_mem_cons]; exact ⟨c2zF val b4 true h hf, fun _ h => nomatch h⟩) hf 1 0 (by omega) (Int.emod_one _))) 400 3 _ true (r2y val b4 h) W us hA enter3
theorem r20_c (val : Nat → Int) (b4 : Bool) (h : LineH val 2 b4 false) (hf : ∀ i, inI64 (val i) = true) (hk : val 15 % 2 = 0) (W : World) (us : Array Value) (hA : @Args (syL val 2 b4 false h) gE W [.it (symL 2) 20, .tm .i64 (.sym 15), .tm .i64 (.sym 16)] us) : Calls Tryz.prog 3 us W fun e w' => e = .returned (.bool true) ∧ Below W.heap.size W w' :=
  @bool_calls (syL val 2 b4 false h) _ (@mkC_ok (syL val 2 b4 false h) _ _ (@mL_ok (syL val 2 b4 false h) [c2zE, w2x0zE] (by simp only [List.forall_mem_cons]; exact ⟨c2zF val b4 false h hf, w2x0zF val b4 h hf, fun _ h => nomatch h⟩) hf 2 0 (by omega) hk)) 400 3 _ true (r20 val b4 h) W us hA enter3
theorem r21_c (val : Nat → Int) (b4 : Bool) (h : LineH val 2 b4 false) (hf : ∀ i, inI64 (val i) = true) (hk : val 15 % 2 = 1) (W : World) (us : Array Value) (hA : @Args (syL val 2 b4 false h) gE W [.it (symL 2) 20, .tm .i64 (.sym 15), .tm .i64 (.sym 16)] us) : Calls Tryz.prog 3 us W fun e w' => e = .returned (.bool true) ∧ Below W.heap.size W w' :=
  @bool_calls (syL val 2 b4 false h) _ (@mkC_ok (syL val 2 b4 false h) _ _ (@mL_ok (syL val 2 b4 false h) [c2zE, w2x1zE] (by simp only [List.forall_mem_cons]; exact ⟨c2zF val b4 false h hf, w2x1zF val b4 h hf, fun _ h => nomatch h⟩) hf 2 1 (by omega) hk)) 400 3 _ true (r21 val b4 h) W us hA enter3
theorem r3y_c (val : Nat → Int) (b4 : Bool) (h : LineH val 3 b4 true) (hf : ∀ i, inI64 (val i) = true) (W : World) (us : Array Value) (hA : @Args (syL val 3 b4 true h) gE W [.it (symL 3) 20, .tm .i64 (.sym 15), .tm .i64 (.sym 16)] us) : Calls Tryz.prog 3 us W fun e w' => e = .returned (.bool true) ∧ Below W.heap.size W w' :=
  @bool_calls (syL val 3 b4 true h) _ (@mkC_ok (syL val 3 b4 true h) _ _ (@mL_ok (syL val 3 b4 true h) [c3zE] (by simp only [List.forall_mem_cons]; exact ⟨c3zF val b4 true h hf, fun _ h => nomatch h⟩) hf 1 0 (by omega) (Int.emod_one _))) 400 3 _ true (r3y val b4 h) W us hA enter3
theorem r30_c (val : Nat → Int) (b4 : Bool) (h : LineH val 3 b4 false) (hf : ∀ i, inI64 (val i) = true) (hk : val 15 % 3 = 0) (W : World) (us : Array Value) (hA : @Args (syL val 3 b4 false h) gE W [.it (symL 3) 20, .tm .i64 (.sym 15), .tm .i64 (.sym 16)] us) : Calls Tryz.prog 3 us W fun e w' => e = .returned (.bool true) ∧ Below W.heap.size W w' :=
  @bool_calls (syL val 3 b4 false h) _ (@mkC_ok (syL val 3 b4 false h) _ _ (@mL_ok (syL val 3 b4 false h) [c3zE, w3x0zE] (by simp only [List.forall_mem_cons]; exact ⟨c3zF val b4 false h hf, w3x0zF val b4 h hf, fun _ h => nomatch h⟩) hf 3 0 (by omega) hk)) 400 3 _ true (r30 val b4 h) W us hA enter3
theorem r31_c (val : Nat → Int) (b4 : Bool) (h : LineH val 3 b4 false) (hf : ∀ i, inI64 (val i) = true) (hk : val 15 % 3 = 1) (W : World) (us : Array Value) (hA : @Args (syL val 3 b4 false h) gE W [.it (symL 3) 20, .tm .i64 (.sym 15), .tm .i64 (.sym 16)] us) : Calls Tryz.prog 3 us W fun e w' => e = .returned (.bool true) ∧ Below W.heap.size W w' :=
  @bool_calls (syL val 3 b4 false h) _ (@mkC_ok (syL val 3 b4 false h) _ _ (@mL_ok (syL val 3 b4 false h) [c3zE, w3x1zE] (by simp only [List.forall_mem_cons]; exact ⟨c3zF val b4 false h hf, w3x1zF val b4 h hf, fun _ h => nomatch h⟩) hf 3 1 (by omega) hk)) 400 3 _ true (r31 val b4 h) W us hA enter3
theorem r32_c (val : Nat → Int) (b4 : Bool) (h : LineH val 3 b4 false) (hf : ∀ i, inI64 (val i) = true) (hk : val 15 % 3 = 2) (W : World) (us : Array Value) (hA : @Args (syL val 3 b4 false h) gE W [.it (symL 3) 20, .tm .i64 (.sym 15), .tm .i64 (.sym 16)] us) : Calls Tryz.prog 3 us W fun e w' => e = .returned (.bool true) ∧ Below W.heap.size W w' :=
  @bool_calls (syL val 3 b4 false h) _ (@mkC_ok (syL val 3 b4 false h) _ _ (@mL_ok (syL val 3 b4 false h) [c3zE, w3x2zE] (by simp only [List.forall_mem_cons]; exact ⟨c3zF val b4 false h hf, w3x2zF val b4 h hf, fun _ h => nomatch h⟩) hf 3 2 (by omega) hk)) 400 3 _ true (r32 val b4 h) W us hA enter3
theorem r4ty_c (val : Nat → Int) (h : LineH val 4 true true) (hf : ∀ i, inI64 (val i) = true) (W : World) (us : Array Value) (hA : @Args (syL val 4 true true h) gE W [.it (symL 4) 20, .tm .i64 (.sym 15), .tm .i64 (.sym 16)] us) : Calls Tryz.prog 3 us W fun e w' => e = .returned (.bool true) ∧ Below W.heap.size W w' :=
  @bool_calls (syL val 4 true true h) _ (@mkC_ok (syL val 4 true true h) _ _ (@mL_ok (syL val 4 true true h) [c4zE] (by simp only [List.forall_mem_cons]; exact ⟨c4zF val true true h hf, fun _ h => nomatch h⟩) hf 1 0 (by omega) (Int.emod_one _))) 400 3 _ true (r4ty val h) W us hA enter3
theorem r4t0_c (val : Nat → Int) (h : LineH val 4 true false) (hf : ∀ i, inI64 (val i) = true) (hk : val 15 % 4 = 0) (W : World) (us : Array Value) (hA : @Args (syL val 4 true false h) gE W [.it (symL 4) 20, .tm .i64 (.sym 15), .tm .i64 (.sym 16)] us) : Calls Tryz.prog 3 us W fun e w' => e = .returned (.bool true) ∧ Below W.heap.size W w' :=
  @bool_calls (syL val 4 true false h) _ (@mkC_ok (syL val 4 true false h) _ _ (@mL_ok (syL val 4 true false h) [c4zE, w4x0zE] (by simp only [List.forall_mem_cons]; exact ⟨c4zF val true false h hf, w4x0zF val true h hf, fun _ h => nomatch h⟩) hf 4 0 (by omega) hk)) 400 3 _ true (r4t0 val h) W us hA enter3
theorem r4t1_c (val : Nat → Int) (h : LineH val 4 true false) (hf : ∀ i, inI64 (val i) = true) (hk : val 15 % 4 = 1) (W : World) (us : Array Value) (hA : @Args (syL val 4 true false h) gE W [.it (symL 4) 20, .tm .i64 (.sym 15), .tm .i64 (.sym 16)] us) : Calls Tryz.prog 3 us W fun e w' => e = .returned (.bool true) ∧ Below W.heap.size W w' :=
  @bool_calls (syL val 4 true false h) _ (@mkC_ok (syL val 4 true false h) _ _ (@mL_ok (syL val 4 true false h) [c4zE, w4x1zE] (by simp only [List.forall_mem_cons]; exact ⟨c4zF val true false h hf, w4x1zF val true h hf, fun _ h => nomatch h⟩) hf 4 1 (by omega) hk)) 400 3 _ true (r4t1 val h) W us hA enter3
theorem r4t2_c (val : Nat → Int) (h : LineH val 4 true false) (hf : ∀ i, inI64 (val i) = true) (hk : val 15 % 4 = 2) (W : World) (us : Array Value) (hA : @Args (syL val 4 true false h) gE W [.it (symL 4) 20, .tm .i64 (.sym 15), .tm .i64 (.sym 16)] us) : Calls Tryz.prog 3 us W fun e w' => e = .returned (.bool true) ∧ Below W.heap.size W w' :=
  @bool_calls (syL val 4 true false h) _ (@mkC_ok (syL val 4 true false h) _ _ (@mL_ok (syL val 4 true false h) [c4zE, w4x2zE] (by simp only [List.forall_mem_cons]; exact ⟨c4zF val true false h hf, w4x2zF val true h hf, fun _ h => nomatch h⟩) hf 4 2 (by omega) hk)) 400 3 _ true (r4t2 val h) W us hA enter3
theorem r4t3_c (val : Nat → Int) (h : LineH val 4 true false) (hf : ∀ i, inI64 (val i) = true) (hk : val 15 % 4 = 3) (W : World) (us : Array Value) (hA : @Args (syL val 4 true false h) gE W [.it (symL 4) 20, .tm .i64 (.sym 15), .tm .i64 (.sym 16)] us) : Calls Tryz.prog 3 us W fun e w' => e = .returned (.bool true) ∧ Below W.heap.size W w' :=
  @bool_calls (syL val 4 true false h) _ (@mkC_ok (syL val 4 true false h) _ _ (@mL_ok (syL val 4 true false h) [c4zE, w4x3zE] (by simp only [List.forall_mem_cons]; exact ⟨c4zF val true false h hf, w4x3zF val true h hf, fun _ h => nomatch h⟩) hf 4 3 (by omega) hk)) 400 3 _ true (r4t3 val h) W us hA enter3
theorem r4fy_c (val : Nat → Int) (h : LineH val 4 false true) (hf : ∀ i, inI64 (val i) = true) (W : World) (us : Array Value) (hA : @Args (syL val 4 false true h) gE W [.it (symL 4) 20, .tm .i64 (.sym 15), .tm .i64 (.sym 16)] us) : Calls Tryz.prog 3 us W fun e w' => e = .returned (.bool true) ∧ Below W.heap.size W w' :=
  @bool_calls (syL val 4 false true h) _ (@mkC_ok (syL val 4 false true h) _ _ (@mL_ok (syL val 4 false true h) [c4zE] (by simp only [List.forall_mem_cons]; exact ⟨c4zF val false true h hf, fun _ h => nomatch h⟩) hf 1 0 (by omega) (Int.emod_one _))) 400 3 _ true (r4fy val h) W us hA enter3
theorem r4f0_c (val : Nat → Int) (h : LineH val 4 false false) (hf : ∀ i, inI64 (val i) = true) (hk : val 15 % 4 = 0) (W : World) (us : Array Value) (hA : @Args (syL val 4 false false h) gE W [.it (symL 4) 20, .tm .i64 (.sym 15), .tm .i64 (.sym 16)] us) : Calls Tryz.prog 3 us W fun e w' => e = .returned (.bool true) ∧ Below W.heap.size W w' :=
  @bool_calls (syL val 4 false false h) _ (@mkC_ok (syL val 4 false false h) _ _ (@mL_ok (syL val 4 false false h) [c4zE, w4x0zE] (by simp only [List.forall_mem_cons]; exact ⟨c4zF val false false h hf, w4x0zF val false h hf, fun _ h => nomatch h⟩) hf 4 0 (by omega) hk)) 400 3 _ true (r4f0 val h) W us hA enter3
theorem r4f1_c (val : Nat → Int) (h : LineH val 4 false false) (hf : ∀ i, inI64 (val i) = true) (hk : val 15 % 4 = 1) (W : World) (us : Array Value) (hA : @Args (syL val 4 false false h) gE W [.it (symL 4) 20, .tm .i64 (.sym 15), .tm .i64 (.sym 16)] us) : Calls Tryz.prog 3 us W fun e w' => e = .returned (.bool true) ∧ Below W.heap.size W w' :=
  @bool_calls (syL val 4 false false h) _ (@mkC_ok (syL val 4 false false h) _ _ (@mL_ok (syL val 4 false false h) [c4zE, w4x1zE] (by simp only [List.forall_mem_cons]; exact ⟨c4zF val false false h hf, w4x1zF val false h hf, fun _ h => nomatch h⟩) hf 4 1 (by omega) hk)) 400 3 _ true (r4f1 val h) W us hA enter3
theorem r4f2_c (val : Nat → Int) (h : LineH val 4 false false) (hf : ∀ i, inI64 (val i) = true) (hk : val 15 % 4 = 2) (W : World) (us : Array Value) (hA : @Args (syL val 4 false false h) gE W [.it (symL 4) 20, .tm .i64 (.sym 15), .tm .i64 (.sym 16)] us) : Calls Tryz.prog 3 us W fun e w' => e = .returned (.bool true) ∧ Below W.heap.size W w' :=
  @bool_calls (syL val 4 false false h) _ (@mkC_ok (syL val 4 false false h) _ _ (@mL_ok (syL val 4 false false h) [c4zE, w4x2zE] (by simp only [List.forall_mem_cons]; exact ⟨c4zF val false false h hf, w4x2zF val false h hf, fun _ h => nomatch h⟩) hf 4 2 (by omega) hk)) 400 3 _ true (r4f2 val h) W us hA enter3
theorem r4f3_c (val : Nat → Int) (h : LineH val 4 false false) (hf : ∀ i, inI64 (val i) = true) (hk : val 15 % 4 = 3) (W : World) (us : Array Value) (hA : @Args (syL val 4 false false h) gE W [.it (symL 4) 20, .tm .i64 (.sym 15), .tm .i64 (.sym 16)] us) : Calls Tryz.prog 3 us W fun e w' => e = .returned (.bool true) ∧ Below W.heap.size W w' :=
  @bool_calls (syL val 4 false false h) _ (@mkC_ok (syL val 4 false false h) _ _ (@mL_ok (syL val 4 false false h) [c4zE, w4x3zE] (by simp only [List.forall_mem_cons]; exact ⟨c4zF val false false h hf, w4x3zF val false h hf, fun _ h => nomatch h⟩) hf 4 3 (by omega) hk)) 400 3 _ true (r4f3 val h) W us hA enter3
end Go.Pv
namespace Go.Pv
open Go.Proofs Go.RowKit
set_option maxRecDepth 100000
theorem flat1 {α : Type} (f : α → V) : ∀ l : List α, (l.map fun x => [f x]).flatten = l.map f
  | [] => rfl
  | a :: l => by simp [flat1 f l]
theorem it_of [Sy] {g : G} {w : World} {u : Value} (n : Nat) (ns : List Int) (hn : n ≤ ns.length) (hv : ∀ i, i < n → Sy.val i = ns.getD i 0) (hl : Sy.val 20 = (ns.length : Int))
    (h : VR g w true (.is (ns.map fun z => [V.int .i64 z]) false) u) : VR g w true (.it (symL n) 20) u := by
  have e : (symL n).length = n := by simp [symL]
  refine .it true (symL n) ((ns.drop n).map fun z => [V.int .i64 z]) 20 u ?_ (by simp [e]; rw [hl]; omega)
  obtain ⟨us, esz, a, c, hu, h1, h2, h3, h4, h5, h6, h7⟩ := h.inv_is
  have hlen : (symL n ++ (ns.drop n).map fun z => [V.int .i64 z]).length = ns.length := by simp [e]; omega
  rw [flat1] at h2 h7
  have hfl : (symL n ++ (ns.drop n).map fun z => [V.int .i64 z]).flatten = (List.range n).map (fun i => V.tm .i64 (.sym i)) ++ (ns.drop n).map fun z => V.int .i64 z := by
    rw [List.flatten_append, symL, flat1, flat1]
  have hu' : u = .slice a (symL n ++ (ns.drop n).map fun z => [V.int .i64 z]).length c := by rw [hlen, hu]; simp
  rw [hu']
  refine .is true _ false us 1 a c ?_ ?_ ?_ (by simp) h5 h6 ?_
  · intro x hx
    rcases List.mem_append.1 hx with hx | hx
    · simp only [symL, List.mem_map] at hx; obtain ⟨_, _, rfl⟩ := hx; rfl
    · simp only [List.mem_map] at hx; obtain ⟨_, _, rfl⟩ := hx; rfl
  · rw [hfl, h2]; simp; omega
  · rw [hlen]; simpa using h3
  · intro j c' u' hc hu
    have hj : j < ns.length := by
      have := (List.getElem?_eq_some_iff.1 hu).1
      rw [h2] at this; simpa using this
    have hz : (ns.map fun z => V.int .i64 z)[j]? = some (.int .i64 ns[j]) := by rw [List.getElem?_map, List.getElem?_eq_getElem hj]; rfl
    have hq := (h7 j _ u' hz hu).inv_int
    rw [hfl, List.getElem?_append] at hc
    simp only [List.length_map, List.length_range] at hc
    split at hc
    · rename_i hjn
      rw [List.getElem?_map, List.getElem?_range hjn] at hc
      simp only [Option.map_some, Option.some.injEq] at hc
      subst hc
      rw [hq]
      have : ns[j] = Tm.ev (.sym j) := by
        show ns[j] = Sy.val j
        rw [hv j hjn, List.getD_eq_getElem?_getD, List.getElem?_eq_getElem hj]
        rfl
      rw [this]
      exact .tm _ _ _
    · rename_i hjn
      rw [List.getElem?_map, List.getElem?_drop, show n + (j - n) = j by omega, List.getElem?_eq_getElem hj] at hc
      simp only [Option.map_some, Option.some.injEq] at hc
      subst hc
      rw [hq]
      exact .int _ _ _
theorem args3 [Sy] {a : V} {u : Value} {x y : Int} {W : World} (ha : VR gE W true a u) (hx : Sy.val 15 = x) (hy : Sy.val 16 = y) : Args gE W [a, .tm .i64 (.sym 15), .tm .i64 (.sym 16)] #[u, .int .i64 x, .int .i64 y] := by
  refine ⟨rfl, ?_⟩
  intro j v u' hv hu
  match j, hv, hu with
  | 0, hv, hu => simp at hv hu; subst hv; subst hu; exact ha
  | 1, hv, hu => simp at hv hu; subst hv; subst hu; rw [← hx]; exact .tm _ _ _
  | 2, hv, hu => simp at hv hu; subst hv; subst hu; rw [← hy]; exact .tm _ _ _
def valL (ns : List Int) (x y : Int) (i : Nat) : Int := if i < 4 then ns.getD i 0 else if i = 15 then x else if i = 16 then y else if i = 20 then (ns.length : Int) else 0
theorem wrap_ne {a b : Int} (ha : inI64 a = true) (hb : inI64 b = true) (h0 : b ≠ 0) : IntKind.i64.wrap (a + b) ≠ a := by
  have e : IntKind.i64.wrap (a + b) = (a + b + 9223372036854775808) % 18446744073709551616 - 9223372036854775808 := by
    unfold IntKind.wrap
    simp [IntKind.bits, IntKind.signed]
    split <;> omega
  simp only [inI64, Bool.and_eq_true, decide_eq_true_eq] at ha hb
  rw [e]
  omega
/-- What the law is called with, as the machine has it. -/
structure Inp (ns : List Int) (x y : Int) : Prop where
  hns : ∀ z ∈ ns, inI64 z = true
  hx : inI64 x = true
  hy : inI64 y = true
  l : ns.length ≤ 9223372036854775807
theorem val_in {ns : List Int} {x y : Int} (h : Inp ns x y) (i : Nat) : inI64 (valL ns x y i) = true := by
  unfold valL
  split
  · rw [List.getD_eq_getElem?_getD]
    cases hq : ns[i]? with
    | none => rfl
    | some z => exact h.hns z (List.mem_of_getElem? hq)
  · split
    · exact h.hx
    · split
      · exact h.hy
      · split
        · have := h.l
          simp only [inI64, Bool.and_eq_true, decide_eq_true_eq]
          omega
        · rfl
theorem lineH {ns : List Int} {x y : Int} (h : Inp ns x y) (n : Nat) (b4 dby : Bool) (hn : n ≤ ns.length) (h4 : n ≤ 4) (hlt : n < 4 → ns.length = n) (hb : ¬ n < 4 → decide ((4 : Int) < (ns.length : Int)) = b4) (hd : (y == 0) = dby) : LineH (valL ns x y) n b4 dby where
  len := fun i hi => by show (i : Int) < (ns.length : Int); omega
  eq := fun hh => by show (ns.length : Int) = n; rw [hlt hh]
  four := hb
  by_ := hd
  add := fun hf j hj => by
    refine wrap_ne (val_in h j) (val_in h 16) ?_
    show y ≠ 0
    subst hd
    simpa using hf
theorem line_calls {ns : List Int} {x y : Int} (h : Inp ns x y) {W : World} {u : Value} (hu : ∀ [Sy], VR gE W true (.is (ns.map fun z => [V.int .i64 z]) false) u) :
    Calls Tryz.prog 3 #[u, .int .i64 x, .int .i64 y] W fun e w' => e = .returned (.bool true) ∧ Below W.heap.size W w' := by
  have hf := val_in h
  have A : ∀ (n : Nat) (b4 dby : Bool) (H : LineH (valL ns x y) n b4 dby), n ≤ ns.length → n ≤ 4 → @Args (syL (valL ns x y) n b4 dby H) gE W [.it (symL n) 20, .tm .i64 (.sym 15), .tm .i64 (.sym 16)] #[u, .int .i64 x, .int .i64 y] := by
    intro n b4 dby H hn h4
    refine @args3 (syL (valL ns x y) n b4 dby H) _ _ _ _ _ (@it_of (syL (valL ns x y) n b4 dby H) _ _ _ n ns hn ?_ rfl (@hu (syL (valL ns x y) n b4 dby H))) rfl rfl
    intro i hi
    show valL ns x y i = _
    unfold valL
    rw [if_pos (by omega)]
  cases hd : (y == 0)
  · -- by is not nought
    by_cases hl : 4 ≤ ns.length
    · have hk : x % 4 = 0 ∨ x % 4 = 1 ∨ x % 4 = 2 ∨ x % 4 = 3 := by omega
      cases hb : decide ((4 : Int) < (ns.length : Int))
      · have H := lineH h 4 false false hl (by omega) (fun hh => absurd hh (by omega)) (fun _ => hb) hd
        rcases hk with hk | hk | hk | hk
        · exact r4f0_c _ H hf hk W _ (A _ _ _ H hl (by omega))
        · exact r4f1_c _ H hf hk W _ (A _ _ _ H hl (by omega))
        · exact r4f2_c _ H hf hk W _ (A _ _ _ H hl (by omega))
        · exact r4f3_c _ H hf hk W _ (A _ _ _ H hl (by omega))
      · have H := lineH h 4 true false hl (by omega) (fun hh => absurd hh (by omega)) (fun _ => hb) hd
        rcases hk with hk | hk | hk | hk
        · exact r4t0_c _ H hf hk W _ (A _ _ _ H hl (by omega))
        · exact r4t1_c _ H hf hk W _ (A _ _ _ H hl (by omega))
        · exact r4t2_c _ H hf hk W _ (A _ _ _ H hl (by omega))
        · exact r4t3_c _ H hf hk W _ (A _ _ _ H hl (by omega))
    · obtain hl | hl | hl | hl : ns.length = 0 ∨ ns.length = 1 ∨ ns.length = 2 ∨ ns.length = 3 := by omega
      · have H := lineH h 0 false false (by omega) (by omega) (fun _ => hl) (fun hh => absurd (by omega) hh) hd
        exact r0y_c _ _ _ H hf W _ (A _ _ _ H (by omega) (by omega))
      · have H := lineH h 1 false false (by omega) (by omega) (fun _ => hl) (fun hh => absurd (by omega) hh) hd
        exact r10_c _ _ H hf (Int.emod_one _) W _ (A _ _ _ H (by omega) (by omega))
      · have H := lineH h 2 false false (by omega) (by omega) (fun _ => hl) (fun hh => absurd (by omega) hh) hd
        have hk : x % 2 = 0 ∨ x % 2 = 1 := by omega
        rcases hk with hk | hk
        · exact r20_c _ _ H hf hk W _ (A _ _ _ H (by omega) (by omega))
        · exact r21_c _ _ H hf hk W _ (A _ _ _ H (by omega) (by omega))
      · have H := lineH h 3 false false (by omega) (by omega) (fun _ => hl) (fun hh => absurd (by omega) hh) hd
        have hk : x % 3 = 0 ∨ x % 3 = 1 ∨ x % 3 = 2 := by omega
        rcases hk with hk | hk | hk
        · exact r30_c _ _ H hf hk W _ (A _ _ _ H (by omega) (by omega))
        · exact r31_c _ _ H hf hk W _ (A _ _ _ H (by omega) (by omega))
        · exact r32_c _ _ H hf hk W _ (A _ _ _ H (by omega) (by omega))
  · by_cases hl : 4 ≤ ns.length
    · cases hb : decide ((4 : Int) < (ns.length : Int))
      · have H := lineH h 4 false true hl (by omega) (fun hh => absurd hh (by omega)) (fun _ => hb) hd
        exact r4fy_c _ H hf W _ (A _ _ _ H hl (by omega))
      · have H := lineH h 4 true true hl (by omega) (fun hh => absurd hh (by omega)) (fun _ => hb) hd
        exact r4ty_c _ H hf W _ (A _ _ _ H hl (by omega))
    · obtain hl | hl | hl | hl : ns.length = 0 ∨ ns.length = 1 ∨ ns.length = 2 ∨ ns.length = 3 := by omega
      · have H := lineH h 0 false true (by omega) (by omega) (fun _ => hl) (fun hh => absurd (by omega) hh) hd
        exact r0y_c _ _ _ H hf W _ (A _ _ _ H (by omega) (by omega))
      · have H := lineH h 1 false true (by omega) (by omega) (fun _ => hl) (fun hh => absurd (by omega) hh) hd
        exact r1y_c _ _ H hf W _ (A _ _ _ H (by omega) (by omega))
      · have H := lineH h 2 false true (by omega) (by omega) (fun _ => hl) (fun hh => absurd (by omega) hh) hd
        exact r2y_c _ _ H hf W _ (A _ _ _ H (by omega) (by omega))
      · have H := lineH h 3 false true (by omega) (by omega) (fun _ => hl) (fun hh => absurd (by omega) hh) hd
        exact r3y_c _ _ H hf W _ (A _ _ _ H (by omega) (by omega))
end Go.Pv
