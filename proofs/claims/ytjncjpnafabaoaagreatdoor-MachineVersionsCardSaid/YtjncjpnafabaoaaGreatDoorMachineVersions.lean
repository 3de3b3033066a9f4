/- MachineVersions: for every input the law returns true; its arguments read behind the call as they read before. Conditions: the listed package variables hold what the program text lays (the card ties them). -/
import Derived.Test.YtjncjpnafabaoaaGreatDoorRa
import Derived.Test.YtjncjpnafabaoaaGreatDoorQi
import Derived.Test.YtjncjpnafabaoaaGreatDoorOe
import Derived.Test.YtjncjpnafabaoaaGreatDoorRows
import Derived.Test.YtjncjpnafabaoaaGreatDoorCards
import Derived.Test.YtjncjpnafabaoaaGreatDoorTie
import Derived.Shelf.Abstract
import Derived.ProofKit
import Derived.OpenShut
import Derived.LaidMore
import Derived.Lay
import Derived.ChangeSame
import Derived.ChangeStays
import Derived.ChangeBook
import Derived.Deep.Frames
import Derived.Stop.Joined
import Derived.SevenTiedAt
import Derived.Carry
namespace Go.Proofs.YtjncjpnafabaoaaGreatDoor
open Go.Pv Go.ChangeShapes Go.WideShapes Go.RowKit
set_option maxRecDepth 100000
theorem Tryz.own : ownKnob Tryz.prog.godebug = none := by kernel_rfl
theorem Tryz.r22 : Tryz.prog.readableRec 22 = true := by kernel_rfl
theorem Tryz.r45 : Tryz.prog.readableRec 45 = true := by kernel_rfl
theorem Tryz.b45 : 45 < Tryz.prog.types.size := of_decide_eq_true (by kernel_rfl)
theorem Tryz.b22 : 22 < Tryz.prog.types.size := of_decide_eq_true (by kernel_rfl)
theorem laidOut' : laidOutB Tryz.prog = true := by kernel_rfl
theorem kept_below {W W' : World} (h : Below W.heap.size W W') (may : MemPlace → Prop) : W.keptBut W' may := by
  refine ⟨h.os, h.output, fun i hi => ?_⟩
  rw [h.block i hi]
  cases W.heap[i]? with
  | none => rfl
  | some o => cases o <;> simp
/-- A reading is carried over what turns nothing old. -/
theorem carry {H : Type} {enc : TypeId × Value → H} {t : TypeId} (hr : Tryz.prog.readableRec t = true) (hrow : t < Tryz.prog.types.size) {W W' : World} {may : MemPlace → Prop} (hk : W.keptBut W' may) {n : Nat} {cs : List Value} {x : DataW H × List MemPlace}
    (h : DataW.trod enc Tryz.prog W 0 (fun _ => true) true n t cs = some x) (hlt : ∀ p ∈ x.2, p.block < W.heap.size) (hno : ∀ p ∈ x.2, ¬ may p) :
    DataW.trod enc Tryz.prog W' 0 (fun b => decide (b < W.heap.size)) true n t cs = some x :=
  DataW.trod_stays (kids_book laidOut' hr) (book_sized hr) (fun h => by cases h) ⟨hrow, book_self t⟩ h
    (fun p hp => hk.sameAt (hlt p hp) (hno p hp) (fun b e => by
      have := DataW.trod_good (kids_book laidOut' hr) (fun h => by cases h) n t cs x ⟨hrow, book_self t⟩ h p hp
      subst e
      exact this))
    (fun p hp => by simpa using hlt p hp)
theorem in_wf {n : Int} (h : (Lit.int .i64 n).wf = true) : inI64 n = true := by
  have e1 : IntKind.i64.min = -9223372036854775808 := rfl
  have e2 : IntKind.i64.max = 9223372036854775807 := rfl
  simp only [Lit.wf, e1, e2] at h
  simpa [inI64] using h
theorem ints_of : ∀ (xs : List (List V)), (∀ y ∈ xs, ∃ cs, FL [.int .i64] y cs) → ∃ ns : List Int, xs = ns.map (fun z => [V.int .i64 z]) ∧ ∀ z ∈ ns, inI64 z = true
  | [], _ => ⟨[], rfl, fun _ h => by cases h⟩
  | y :: xs, h => by
    obtain ⟨ns, rfl, h2⟩ := ints_of xs fun y hy => h y (by simp [hy])
    obtain ⟨cs, F⟩ := h y (by simp)
    cases F with
    | int k n hw F' =>
      cases F'
      exact ⟨n :: ns, rfl, fun z hz => by
        rcases List.mem_cons.1 hz with rfl | hz
        · exact in_wf hw
        · exact h2 z hz⟩
theorem ints_free : ∀ ns : List Int, freeLL (ns.map fun z => [V.int .i64 z]) = true
  | [] => rfl
  | z :: ns => by simp [freeLL, freeL, V.free, ints_free ns]
theorem ints_any {A B : Sy} {g : G} {w : World} {u : Value} {ns : List Int} (h : @VR A g w true (.is (ns.map fun z => [V.int .i64 z]) false) u) : @VR B g w true (.is (ns.map fun z => [V.int .i64 z]) false) u :=
  free_cast h (by simp only [V.free]; exact ints_free ns)
@[reducible] def sy0 : Sy := { val := fun _ => 0, dec := fun _ _ _ => none, ok := fun _ _ _ _ h => nomatch h }
/-- A row of integers comes in. -/
theorem slice_in {H : Type} {enc : TypeId × Value → H} {W : World} {t e : TypeId} {v : Value} {fuel : Nat} {d : DataW H × List MemPlace} (ht : Tryz.prog.underlying t = some (.slice e)) (hfl : flatT Tryz.prog 6 e = some [.int .i64]) (hp : Tryz.prog.cellsOf e = 1) (hv : v.cells.toList = [v]) (hd : DataW.trod enc Tryz.prog W 0 (fun _ => true) true fuel t v.cells.toList = some d) :
    ∃ ns : List Int, ∀ A : Sy, @VR A gE W true (.is (ns.map fun z => [V.int .i64 z]) false) v := by
  rcases @flat_slice sy0 _ _ _ _ _ _ _ 6 _ _ _ _ _ _ ht hfl hp hd hv gE gE_O true with ⟨hv0, h⟩ | ⟨xs, hlen, hev, h⟩
  · refine ⟨[], ?_⟩
    intro B
    subst hv0
    exact @VR.is B gE W true [] false [] 1 none 0 (fun _ h => by cases h) rfl (Nat.le_refl _) (fun h => by cases h) (fun _ h => by cases h) (fun j u h => by simp at h) (fun j c u h => by simp at h)
  · obtain ⟨ns, rfl, hns⟩ := ints_of xs hev
    exact ⟨ns, fun B => ints_any (A := sy0) (B := B) h⟩
theorem lifted (os : Os) (started : os.Started) (H : Type) (enc : TypeId × Value → H) :
    ReturnsInHanded {} Tryz.checked os 5 .any (fun w args => (Rows.machineVersionsSpec.pre enc Tryz.prog Tryz.f5 [] false w args ∧ laidMetH Tryz.prog Rows.machineVersionsRow.laid w) ∧ sizedMet enc Tryz.prog Tryz.f5 (OpenSpec.ofChange Rows.machineVersionsSpec) false w args)
      (Rows.machineVersionsSpec.post enc Tryz.prog Tryz.f5 false true false false) := by
  refine returnsInHanded_of_change_and (C := Tryz.checked) (X := fun w _ => laidMetH Tryz.prog Rows.machineVersionsRow.laid w) (fun _ _ _ hh h => h.of_heap hh) Tryz.own started (by kernel_rfl) Tryz.func5
    (ChangeSpec.witness_shaped (enc := enc) (C := Tryz.checked) (os := os) (X := fun w _ => laidMetH Tryz.prog Rows.machineVersionsRow.laid w) false (World.laidAll Tryz.prog os Rows.machineVersionsRow.laid) #[.int .i64 0, .slice none 0 0, .slice none 0 0] 8 (World.laidAll_os _ _ _)
      (World.shaped_of_ZipB (by kernel_rfl) (by kernel_rfl)) (by kernel_rfl) (by kernel_rfl) (by kernel_rfl)
      (by rw [MakeChecks.laidMetH_plain _ _ _ (by kernel_rfl)]; exact laidMet_laidAll _ (by kernel_rfl) (by kernel_rfl))) ?_
  intro W base args ds gs before hval0 hW hc _ hL _
  have hval : ∀ (j : Nat) t v, Tryz.f5.params[j]? = some t → args[j]? = some v → Value.okWide Tryz.prog W .any base t v := hval0
  have hW' := hW
  obtain ⟨p, q, hA0, hV, rfl, _, _⟩ := hW
  have hA : DataW.TrodAll enc Tryz.prog W 0 (fun _ => true) true Tryz.f5.params.toList args.toList ds p := hA0
  rw [Tryz.params5] at hA hval
  obtain ⟨v0, v1, v2, d0, d1, d2, p0, p1, p2, rfl, rfl, rfl, h0, h1, h2⟩ := trodAll_three hA
  obtain ⟨rfl, rfl⟩ := trodVars_none hV
  obtain ⟨x0, rfl, rfl, rfl, w0⟩ := open_int Tryz.underlying3 (hval 0 3 v0 rfl rfl) h0
  obtain ⟨a1, len1, cap1, rfl⟩ := okWide_slice Tryz.underlying45 (hval 1 45 v1 rfl rfl)
  obtain ⟨a2, len2, cap2, rfl⟩ := okWide_slice Tryz.underlying22 (hval 2 22 v2 rfl rfl)
  obtain ⟨fuel1, hd1⟩ := h1
  obtain ⟨fuel2, hd2⟩ := h2
  obtain ⟨vs, hvs⟩ := slice_in Tryz.underlying45 (by kernel_rfl) (by kernel_rfl) rfl hd1
  obtain ⟨ns, hns⟩ := slice_in Tryz.underlying22 (by kernel_rfl) (by kernel_rfl) rfl hd2
  refine (ver_calls hvs hns).mono fun e W' ⟨he, hb⟩ => ?_
  subst he
  have hlt1 : ∀ p ∈ p1, p.block < W.heap.size := fun p hp => hW'.lt p (by simp [hp])
  have hlt2 : ∀ p ∈ p2, p.block < W.heap.size := fun p hp => hW'.lt p (by simp [hp])
  refine ⟨_, rfl, _, _, _, [], [] ++ (p1 ++ p2), [], hW', trodAll_mk1 (shut_bool Tryz.underlying4 _), ?_, rfl, kept_below hb _, fun h => by cases h⟩
  exact trodAll_mk3 (p := []) (shut_int Tryz.underlying3 w0) ⟨fuel1, carry Tryz.r45 Tryz.b45 (kept_below hb (fun _ => False)) hd1 hlt1 (fun _ _ h => h)⟩ ⟨fuel2, carry Tryz.r22 Tryz.b22 (kept_below hb (fun _ => False)) hd2 hlt2 (fun _ _ h => h)⟩
theorem f_holds : Rows.MachineVersionsSaid :=
  OpenClaim.holds_of_wide 5 Tryz.f5 rfl rfl rfl rfl rfl rfl rfl ⟨rfl, rfl, rfl, rfl, rfl⟩ rfl rfl rfl rfl rfl (by kernel_rfl) Tryz.func5 fclosed
    (of_decide_eq_true (by kernel_rfl)) (by unfold Func.isWrapper; first | (rw [if_pos (by decide +kernel)]; kernel_rfl) | (rw [if_neg (by decide +kernel)]; exact ⟨rfl, rfl⟩))
    (fun os started H enc _ => lifted os started H enc)
/-- THE TIED CARD. -/
theorem x_holds : Rows.MachineVersionsCardSaid :=
  Claim7.holds_tied_plain_at .later [] [.data, .data, .data, .data, .sentinel, .sentinel, .pinned] true (true, "1a4d32d1f666f597bf113df1ad76025fa91ef6f577f2946efc10044821ce2a21") true f_holds (fun _ h => by cases h) (by kernel_rfl) (fun _ h => by cases h) machineVersions_row_tie rfl ⟨rfl, rfl⟩ (by kernel_rfl) rfl
    (fun f fn hf hfn => by
      obtain rfl : f = 5 := Option.some.inj ((show Tryz.prog.funcNamed "palaver/palaverlaw16.MachineVersions" = some 5 by kernel_rfl).symm.trans hf) |>.symm
      obtain rfl : fn = Tryz.f5 := (Option.some.inj (Tryz.func5.symm.trans hfn)).symm
      exact ⟨by kernel_rfl, fun j t ht => by
        rw [Tryz.params5] at ht
        have hm : t ∈ [3, 45, 22] := by simpa using Array.mem_of_getElem? ht
        have hall : ([3, 45, 22].all fun u => !Tryz.prog.wantsStandIn u) = true := by kernel_rfl
        exact (show Tryz.prog.wantsStandIn t = false by simpa using List.all_eq_true.1 hall t hm)⟩)
    (by kernel_rfl)
end Go.Proofs.YtjncjpnafabaoaaGreatDoor
