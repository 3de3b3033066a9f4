/- HistoryFree: for every input the law returns true; its arguments read behind the call as they read before. Conditions: the listed package variables hold what the program text lays (the card ties them). -/
import Derived.Test.YtcbpldmnobckeaaGreatDoorWa
import Derived.Test.YtcbpldmnobckeaaGreatDoorCards
import Derived.Test.YtcbpldmnobckeaaGreatDoorTie
import Derived.SevenTiedAt
namespace Go.Proofs.YtcbpldmnobckeaaGreatDoor
open Go.Pv Go.ChangeShapes Go.WideShapes Go.RowKit
set_option maxRecDepth 100000
theorem Tryz.own : ownKnob Tryz.prog.godebug = none := by kernel_rfl
theorem Tryz.r22 : Tryz.prog.readableRec 22 = true := by kernel_rfl
theorem Tryz.b22 : 22 < Tryz.prog.types.size := of_decide_eq_true (by kernel_rfl)
/-- The call, at whatever comes in. -/
theorem law_calls {H : Type} {enc : TypeId × Value → H} {W : World} {x : Int} {v : Value} {fuel : Nat} {d : DataW H × List MemPlace} (hv : v.cells.toList = [v]) (hd : DataW.trod enc Tryz.prog W 0 (fun _ => true) true fuel 22 v.cells.toList = some d) (hG : GlobH W.heap) :
    Calls Tryz.prog 3 #[.int .i64 x, v] W fun e w' => e = .returned (.bool true) ∧ Below W.heap.size W w' := by
  have hA : ∀ (y : V), VR gE W true y v → Args gE W [.int .i64 x, y] #[.int .i64 x, v] := by
    intro y hy
    refine ⟨rfl, ?_⟩
    intro j c u hc hu
    match j, hc, hu with
    | 0, hc, hu => simp at hc hu; subst hc; subst hu; exact .int _ _ _
    | 1, hc, hu => simp at hc hu; subst hc; subst hu; exact hy
  rcases flat_slice (d := 6) Tryz.underlying22 flat37 (by kernel_rfl) hd hv gE gE_O true with ⟨_, h⟩ | ⟨xs, _, hev, h⟩
  · exact bool_calls cf_ok (hf_nil 100 (by omega) x) hG (fun _ _ => rfl) (hA _ h) enter3
  · exact bool_calls cf_ok (hf_ok 100 (by omega) x xs false (fun y hy => by
      obtain ⟨cs, F⟩ := hev y hy
      exact fl_ev F)) hG (fun _ _ => rfl) (hA _ h) enter3
theorem lifted (os : Os) (started : os.Started) (H : Type) (enc : TypeId × Value → H) :
    ReturnsInHanded {} Tryz.checked os 3 .any (fun w args => (Rows.historyFreeSpec.pre enc Tryz.prog Tryz.f3 [] false w args ∧ laidMetH Tryz.prog Rows.historyFreeRow.laid w) ∧ sizedMet enc Tryz.prog Tryz.f3 (OpenSpec.ofChange Rows.historyFreeSpec) false w args)
      (Rows.historyFreeSpec.post enc Tryz.prog Tryz.f3 false true false false) := by
  refine returnsInHanded_of_change_and (C := Tryz.checked) (X := fun w _ => laidMetH Tryz.prog Rows.historyFreeRow.laid w) (fun _ _ _ hh h => h.of_heap hh) Tryz.own started (by kernel_rfl) Tryz.func3
    (ChangeSpec.witness_shaped (enc := enc) (C := Tryz.checked) (os := os) (X := fun w _ => laidMetH Tryz.prog Rows.historyFreeRow.laid w) false (World.laidAll Tryz.prog os Rows.historyFreeRow.laid) #[.int .i64 0, .slice none 0 0] 8 (World.laidAll_os _ _ _)
      (World.shaped_of_ZipB (by kernel_rfl) (by kernel_rfl)) (by kernel_rfl) (by kernel_rfl) (by kernel_rfl)
      (by rw [MakeChecks.laidMetH_plain _ _ _ (by kernel_rfl)]; exact laidMet_laidAll _ (by kernel_rfl) (by kernel_rfl))) ?_
  intro W base args ds gs before hval0 hW hc _ hL _
  have hval : ∀ (j : Nat) t v, Tryz.f3.params[j]? = some t → args[j]? = some v → Value.okWide Tryz.prog W .any base t v := hval0
  have hW' := hW
  obtain ⟨p, q, hA0, hV, rfl, _, _⟩ := hW
  have hA : DataW.TrodAll enc Tryz.prog W 0 (fun _ => true) true Tryz.f3.params.toList args.toList ds p := hA0
  rw [Tryz.params3] at hA hval
  obtain ⟨v0, v1, d0, d1, p0, p1, rfl, rfl, rfl, h0, h1⟩ := trodAll_two hA
  obtain ⟨rfl, rfl⟩ := trodVars_none hV
  obtain ⟨x, rfl, rfl, rfl, wx⟩ := open_int Tryz.underlying3 (hval 0 3 v0 rfl rfl) h0
  obtain ⟨a, len, cap, rfl⟩ := okWide_slice Tryz.underlying22 (hval 1 22 v1 rfl rfl)
  obtain ⟨fuel, hd⟩ := h1
  obtain ⟨hG, _⟩ := glob_ok hL
  refine (law_calls rfl hd hG).mono fun e W' ⟨he, hb⟩ => ?_
  subst he
  have hlt : ∀ p ∈ p1, p.block < W.heap.size := fun p hp => hW'.lt p (by simp [hp])
  refine ⟨_, rfl, _, _, _, [], p1, [], hW', trodAll_mk1 (shut_bool Tryz.underlying4 _), ?_, rfl, kept_below hb _, fun h => by cases h⟩
  exact trodAll_mk2 (p := []) (shut_int Tryz.underlying3 wx) ⟨fuel, carry Tryz.r22 Tryz.b22 (kept_below hb (fun _ => False)) hd hlt (fun _ _ h => h)⟩

theorem f_holds : Rows.HistoryFreeSaid :=
  OpenClaim.holds_of_wide 3 Tryz.f3 rfl rfl rfl rfl rfl rfl rfl ⟨rfl, rfl, rfl, rfl, rfl⟩ rfl rfl rfl rfl rfl (by kernel_rfl) Tryz.func3 (by kernel_rfl)
    (of_decide_eq_true (by kernel_rfl)) (by unfold Func.isWrapper; first | (rw [if_pos (by decide +kernel)]; kernel_rfl) | (rw [if_neg (by decide +kernel)]; exact ⟨rfl, rfl⟩))
    (fun os started H enc _ => lifted os started H enc)
/-- THE TIED CARD. -/
theorem x_holds : Rows.HistoryFreeCardSaid :=
  Claim7.holds_tied_plain_at .later [] [.data, .data, .data, .data, .sentinel, .sentinel, .pinned] true (true, "eba13e612c019249f5e17bec30131a9bc9046f6d6fef411406feeacf4f3b4a13") true f_holds (fun _ h => by cases h) (by kernel_rfl) (fun _ h => by cases h) historyFree_row_tie rfl ⟨rfl, rfl⟩ (by kernel_rfl) rfl
    (fun f fn hf hfn => by
      obtain rfl : f = 3 := Option.some.inj ((show Tryz.prog.funcNamed "palaver/palaverlaw26.HistoryFree" = some 3 by kernel_rfl).symm.trans hf) |>.symm
      obtain rfl : fn = Tryz.f3 := (Option.some.inj (Tryz.func3.symm.trans hfn)).symm
      exact ⟨by kernel_rfl, fun j t ht => by
        rw [Tryz.params3] at ht
        have hm : t ∈ [3, 22] := by simpa using Array.mem_of_getElem? ht
        have hall : ([3, 22].all fun u => !Tryz.prog.wantsStandIn u) = true := by kernel_rfl
        exact (show Tryz.prog.wantsStandIn t = false by simpa using List.all_eq_true.1 hall t hm)⟩)
    (by kernel_rfl)
end Go.Proofs.YtcbpldmnobckeaaGreatDoor
