/- HistoryTwo: for every input the law returns true; its arguments read behind the call as they read before. Conditions: the listed package variables hold what the program text lays (the card ties them). -/
import Derived.Test.YtjncjpnafabaoaaGreatDoorQa
import Derived.Test.YtjncjpnafabaoaaGreatDoorQb
import Derived.Test.YtjncjpnafabaoaaGreatDoorQc
import Derived.Test.YtjncjpnafabaoaaGreatDoorQd
import Derived.Test.YtjncjpnafabaoaaGreatDoorQe
import Derived.Test.YtjncjpnafabaoaaGreatDoorQf
import Derived.Test.YtjncjpnafabaoaaGreatDoorQg
import Derived.Test.YtjncjpnafabaoaaGreatDoorQh
import Derived.Test.YtjncjpnafabaoaaGreatDoorRows
import Derived.Test.YtjncjpnafabaoaaGreatDoorCards
import Derived.Test.YtjncjpnafabaoaaGreatDoorTie
import Derived.Shelf.Abstract
import Derived.ProofKit
import Derived.OpenShut
import Derived.LaidMore
import Derived.Lay
import Derived.ChangeSame
import Derived.Stop.Joined
import Derived.SevenTiedAt
import Derived.Carry
namespace Go.Proofs.YtjncjpnafabaoaaGreatDoor
open Go.Pv Go.ChangeShapes Go.WideShapes Go.RowKit
set_option maxRecDepth 100000
theorem Tryz.own : ownKnob Tryz.prog.godebug = none := by kernel_rfl
theorem enter4 : ∀ args w, (callFunc 4 args).run Tryz.prog w = .ok (.enter 4 args) w := fun args w => enters_of (c := Tryz.f4.body.getD default) Tryz.func4 (by kernel_rfl) (by kernel_rfl) args w
theorem kept_below {W W' : World} (h : Below W.heap.size W W') (may : MemPlace → Prop) : W.keptBut W' may := by
  refine ⟨h.os, h.output, fun i hi => ?_⟩
  rw [h.block i hi]
  cases W.heap[i]? with
  | none => rfl
  | some o => cases o <;> simp
theorem in_wf {n : Int} (h : (Lit.int .i64 n).wf = true) : inI64 n = true := by
  have e1 : IntKind.i64.min = -9223372036854775808 := rfl
  have e2 : IntKind.i64.max = 9223372036854775807 := rfl
  simp only [Lit.wf, e1, e2] at h
  simpa [inI64] using h
theorem args4 [Sy] {v w s : Int} {ap : Bool} (h0 : Sy.val 0 = v) (h1 : Sy.val 1 = w) (h2 : Sy.val 2 = s) (W : World) : Args gE W [.tm .i64 (.sym 0), .tm .i64 (.sym 1), .bool ap, .tm .i64 (.sym 2)] #[.int .i64 v, .int .i64 w, .bool ap, .int .i64 s] := by
  refine ⟨rfl, ?_⟩
  intro j x u hx hu
  match j, hx, hu with
  | 0, hx, hu => simp at hx hu; subst hx; subst hu; rw [← h0]; exact .tm _ _ _
  | 1, hx, hu => simp at hx hu; subst hx; subst hu; rw [← h1]; exact .tm _ _ _
  | 2, hx, hu => simp at hx hu; subst hx; subst hu; exact .bool _ _
  | 3, hx, hu => simp at hx hu; subst hx; subst hu; rw [← h2]; exact .tm _ _ _
/-- The call, at whatever comes in. -/
theorem two_calls (v w s : Int) (ap : Bool) (hv : inI64 v = true) (hw : inI64 w = true) (hs : inI64 s = true) (W : World) :
    Calls Tryz.prog 4 #[.int .i64 v, .int .i64 w, .bool ap, .int .i64 s] W fun e w' => e = .returned (.bool true) ∧ Below W.heap.size W w' := by
  have hf : ∀ i, inI64 (val2 v w s i) = true := by
    intro i
    unfold val2
    split
    · exact hv
    · exact hw
    · exact hs
  have hk : s % 3 = 0 ∨ s % 3 = 1 ∨ s % 3 = 2 := by omega
  rcases hk with hk | hk | hk
  · let h : ∀ b, (none : Option Bool) = some b → (v == w) = b := fun b e => nomatch e
    cases ap
    · exact @bool_calls (sy2 v w s none h) _ (@mkC_ok (sy2 v w s none h) _ _ (@m5_ok (sy2 v w s none h) _ hf 3 0 (by omega) hk)) 400 4 _ true (two_a v w s h) W _ (@args4 (sy2 v w s none h) _ _ _ _ rfl rfl rfl W) enter4
    · exact @bool_calls (sy2 v w s none h) _ (@mkC_ok (sy2 v w s none h) _ _ (@m5_ok (sy2 v w s none h) _ hf 3 0 (by omega) hk)) 400 4 _ true (two_b v w s h) W _ (@args4 (sy2 v w s none h) _ _ _ _ rfl rfl rfl W) enter4
  · let h : ∀ b, (none : Option Bool) = some b → (v == w) = b := fun b e => nomatch e
    cases ap
    · exact @bool_calls (sy2 v w s none h) _ (@mkC_ok (sy2 v w s none h) _ _ (@m5_ok (sy2 v w s none h) _ hf 3 1 (by omega) hk)) 400 4 _ true (two_c v w s h) W _ (@args4 (sy2 v w s none h) _ _ _ _ rfl rfl rfl W) enter4
    · exact @bool_calls (sy2 v w s none h) _ (@mkC_ok (sy2 v w s none h) _ _ (@m5_ok (sy2 v w s none h) _ hf 3 1 (by omega) hk)) 400 4 _ true (two_d v w s h) W _ (@args4 (sy2 v w s none h) _ _ _ _ rfl rfl rfl W) enter4
  · by_cases e : (v == w) = true
    · have h : ∀ b, some true = some b → (v == w) = b := fun b eb => by cases eb; exact e
      cases ap
      · exact @bool_calls (sy2 v w s (some true) h) _ (@mkC_ok (sy2 v w s (some true) h) _ _ (@m5_ok (sy2 v w s (some true) h) _ hf 3 2 (by omega) hk)) 400 4 _ true (two_e v w s h) W _ (@args4 (sy2 v w s (some true) h) _ _ _ _ rfl rfl rfl W) enter4
      · exact @bool_calls (sy2 v w s (some true) h) _ (@mkC_ok (sy2 v w s (some true) h) _ _ (@m5_ok (sy2 v w s (some true) h) _ hf 3 2 (by omega) hk)) 400 4 _ true (two_f v w s h) W _ (@args4 (sy2 v w s (some true) h) _ _ _ _ rfl rfl rfl W) enter4
    · have h : ∀ b, some false = some b → (v == w) = b := fun b eb => by cases eb; simpa using e
      cases ap
      · exact @bool_calls (sy2 v w s (some false) h) _ (@mkC_ok (sy2 v w s (some false) h) _ _ (@m5_ok (sy2 v w s (some false) h) _ hf 3 2 (by omega) hk)) 400 4 _ true (two_g v w s h) W _ (@args4 (sy2 v w s (some false) h) _ _ _ _ rfl rfl rfl W) enter4
      · exact @bool_calls (sy2 v w s (some false) h) _ (@mkC_ok (sy2 v w s (some false) h) _ _ (@m5_ok (sy2 v w s (some false) h) _ hf 3 2 (by omega) hk)) 400 4 _ true (two_h v w s h) W _ (@args4 (sy2 v w s (some false) h) _ _ _ _ rfl rfl rfl W) enter4
theorem lifted (os : Os) (started : os.Started) (H : Type) (enc : TypeId × Value → H) :
    ReturnsInHanded {} Tryz.checked os 4 .any (fun w args => (Rows.historyTwoSpec.pre enc Tryz.prog Tryz.f4 [] false w args ∧ laidMetH Tryz.prog Rows.historyTwoRow.laid w) ∧ sizedMet enc Tryz.prog Tryz.f4 (OpenSpec.ofChange Rows.historyTwoSpec) false w args)
      (Rows.historyTwoSpec.post enc Tryz.prog Tryz.f4 false true false false) := by
  refine returnsInHanded_of_change_and (C := Tryz.checked) (X := fun w _ => laidMetH Tryz.prog Rows.historyTwoRow.laid w) (fun _ _ _ hh h => h.of_heap hh) Tryz.own started (by kernel_rfl) Tryz.func4
    (ChangeSpec.witness_shaped (enc := enc) (C := Tryz.checked) (os := os) (X := fun w _ => laidMetH Tryz.prog Rows.historyTwoRow.laid w) false (World.laidAll Tryz.prog os Rows.historyTwoRow.laid) #[.int .i64 0, .int .i64 0, .bool false, .int .i64 0] 8 (World.laidAll_os _ _ _)
      (World.shaped_of_ZipB (by kernel_rfl) (by kernel_rfl)) (by kernel_rfl) (by kernel_rfl) (by kernel_rfl)
      (by rw [MakeChecks.laidMetH_plain _ _ _ (by kernel_rfl)]; exact laidMet_laidAll _ (by kernel_rfl) (by kernel_rfl))) ?_
  intro W base args ds gs before hval0 hW hc _ hL _
  have hval : ∀ (j : Nat) t v, Tryz.f4.params[j]? = some t → args[j]? = some v → Value.okWide Tryz.prog W .any base t v := hval0
  have hW' := hW
  obtain ⟨p, q, hA0, hV, rfl, _, _⟩ := hW
  have hA : DataW.TrodAll enc Tryz.prog W 0 (fun _ => true) true Tryz.f4.params.toList args.toList ds p := hA0
  rw [Tryz.params4] at hA hval
  obtain ⟨v0, v1, v2, v3, d0, d1, d2, d3, p0, p1, p2, p3, rfl, rfl, rfl, h0, h1, h2, h3⟩ := trodAll_four hA
  obtain ⟨rfl, rfl⟩ := trodVars_none hV
  obtain ⟨x0, rfl, rfl, rfl, w0⟩ := open_int Tryz.underlying2 (hval 0 2 v0 rfl rfl) h0
  obtain ⟨x1, rfl, rfl, rfl, w1⟩ := open_int Tryz.underlying2 (hval 1 2 v1 rfl rfl) h1
  obtain ⟨x2, rfl, rfl, rfl⟩ := open_bool Tryz.underlying4 (hval 2 4 v2 rfl rfl) h2
  obtain ⟨x3, rfl, rfl, rfl, w3⟩ := open_int Tryz.underlying3 (hval 3 3 v3 rfl rfl) h3
  refine (two_calls x0 x1 x3 x2 (in_wf w0) (in_wf w1) (in_wf w3) W).mono fun e W' ⟨he, hb⟩ => ?_
  subst he
  refine ⟨_, rfl, _, _, _, [], [], [], hW', trodAll_mk1 (shut_bool Tryz.underlying4 _), ?_, rfl, kept_below hb _, fun h => by cases h⟩
  exact trodAll_mk4 (p := []) (p' := []) (p'' := []) (p3 := []) (shut_int Tryz.underlying2 w0) (shut_int Tryz.underlying2 w1) (shut_bool Tryz.underlying4 _) (shut_int Tryz.underlying3 w3)
theorem f_holds : Rows.HistoryTwoSaid :=
  OpenClaim.holds_of_wide 4 Tryz.f4 rfl rfl rfl rfl rfl rfl rfl ⟨rfl, rfl, rfl, rfl, rfl⟩ rfl rfl rfl rfl rfl (by kernel_rfl) Tryz.func4 (by kernel_rfl)
    (of_decide_eq_true (by kernel_rfl)) (by unfold Func.isWrapper; first | (rw [if_pos (by decide +kernel)]; kernel_rfl) | (rw [if_neg (by decide +kernel)]; exact ⟨rfl, rfl⟩))
    (fun os started H enc _ => lifted os started H enc)
/-- THE TIED CARD. -/
theorem x_holds : Rows.HistoryTwoCardSaid :=
  Claim7.holds_tied_plain_at .later [] [.data, .data, .data, .data, .sentinel, .sentinel, .pinned] true (true, "1a4d32d1f666f597bf113df1ad76025fa91ef6f577f2946efc10044821ce2a21") true f_holds (fun _ h => by cases h) (by kernel_rfl) (fun _ h => by cases h) historyTwo_row_tie rfl ⟨rfl, rfl⟩ (by kernel_rfl) rfl
    (fun f fn hf hfn => by
      obtain rfl : f = 4 := Option.some.inj ((show Tryz.prog.funcNamed "palaver/palaverlaw26.HistoryTwo" = some 4 by kernel_rfl).symm.trans hf) |>.symm
      obtain rfl : fn = Tryz.f4 := (Option.some.inj (Tryz.func4.symm.trans hfn)).symm
      exact ⟨by kernel_rfl, fun j t ht => by
        rw [Tryz.params4] at ht
        have hm : t ∈ [2, 2, 4, 3] := by simpa using Array.mem_of_getElem? ht
        have hall : ([2, 2, 4, 3].all fun u => !Tryz.prog.wantsStandIn u) = true := by kernel_rfl
        exact (show Tryz.prog.wantsStandIn t = false by simpa using List.all_eq_true.1 hall t hm)⟩)
    (by kernel_rfl)
end Go.Proofs.YtjncjpnafabaoaaGreatDoor
