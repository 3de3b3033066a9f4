/- From the machine to the row. -/
import Derived.Test.YtcbpldmnobckeaaGreatDoorUa
import Derived.Test.YtcbpldmnobckeaaGreatDoorVe
import Derived.Test.YtcbpldmnobckeaaGreatDoorRows
import Derived.ProofKit
import Derived.OpenShut
import Derived.LaidMore
import Derived.Lay
import Derived.ChangeStays
import Derived.ChangeSame
import Derived.ChangeBook
import Derived.Stop.Joined
import Derived.Test.YtcbpldmnobckeaaGreatDoorSc
import Derived.Deep.Frames
set_option linter.unusedSimpArgs false
set_option linter.unusedVariables false
namespace Go.Pv
open Go.Proofs Go.Proofs.YtcbpldmnobckeaaGreatDoor Go.ChangeShapes Go.WideShapes Go.RowKit
set_option maxRecDepth 100000
/-! ### What is listed, cell by cell. -/
theorem first_ok : Go.Pinned.utf8First = .agg (first256.map fun (n : Nat) => .lit (.int .u8 (n : Int))) := by kernel_rfl
theorem accept_ok : (Rows.laid_unicode_utf8_acceptRanges : DataW Unit) = .agg ((List.range 16).map fun i => .agg [.lit (.int .u8 (accept32.getD (2 * i) 0 : Nat)), .lit (.int .u8 (accept32.getD (2 * i + 1) 0 : Nat))]) := by kernel_rfl
theorem len256 : first256.length = 256 := by kernel_rfl
theorem len32 : accept32.length = 32 := by kernel_rfl
theorem first_cells {W : World} {cs : List Value} {fuel : Nat} {p : List MemPlace} {t : TypeId} {n : Nat} (ht : Tryz.prog.underlying t = some (.array n 5)) (h : DataW.trod (fun _ => ()) Tryz.prog W 0 (fun _ => true) false fuel t cs = some (.agg (first256.map fun (n : Nat) => .lit (.int .u8 (n : Int))), p)) :
    ∀ j (hj : j < 256), cs[j]? = some (.int .u8 ((first256[j]'(by rw [len256]; exact hj) : Nat) : Int)) := by
  intro j hj
  obtain ⟨xs, m, _, ex, hln, hl, hel⟩ := DataW.trod_array ht h
  have c5 : Tryz.prog.cellsOf 5 = 1 := by kernel_rfl
  simp only [Prod.mk.injEq, DataW.agg.injEq] at ex
  have e3 : xs.map (·.1) = first256.map fun (n : Nat) => (DataW.lit (.int .u8 (n : Int)) : DataW Unit) := ex.1.symm
  have hxl : xs.length = 256 := by have := congrArg List.length e3; simpa [len256] using this
  have hE := hel j (by omega)
  rw [c5, Nat.mul_one, List.getElem?_eq_getElem (by omega)] at hE
  obtain ⟨z, e1, e2, _⟩ := DataW.trod_int Tryz.underlying5 hE
  have e4 : (xs.map (·.1))[j]? = (first256.map fun (n : Nat) => (DataW.lit (.int .u8 (n : Int)) : DataW Unit))[j]? := by rw [e3]
  rw [List.getElem?_map, List.getElem?_map, List.getElem?_eq_getElem (by omega : j < xs.length), List.getElem?_eq_getElem (by rw [len256]; exact hj : j < first256.length), e2] at e4
  simp only [Option.map_some, Option.some.injEq, DataW.lit.injEq, Lit.int.injEq, true_and] at e4
  have h0 : ((cs.drop j).take 1)[0]? = some (.int .u8 z) := by rw [e1]; rfl
  rw [← e4]
  simpa using h0
theorem accept_cells {W : World} {cs : List Value} {fuel : Nat} {p : List MemPlace} {t : TypeId} {n : Nat} (ht : Tryz.prog.underlying t = some (.array n 257))
    (h : DataW.trod (fun _ => ()) Tryz.prog W 0 (fun _ => true) false fuel t cs = some (.agg ((List.range 16).map fun i => .agg [.lit (.int .u8 (accept32.getD (2 * i) 0 : Nat)), .lit (.int .u8 (accept32.getD (2 * i + 1) 0 : Nat))]), p)) :
    ∀ i, i < 16 → cs[2 * i]? = some (.int .u8 (accept32.getD (2 * i) 0 : Nat)) ∧ cs[2 * i + 1]? = some (.int .u8 (accept32.getD (2 * i + 1) 0 : Nat)) := by
  intro i hi
  obtain ⟨xs, m, _, ex, hln, hl, hel⟩ := DataW.trod_array ht h
  have c257 : Tryz.prog.cellsOf 257 = 2 := by kernel_rfl
  have c5 : Tryz.prog.cellsOf 5 = 1 := by kernel_rfl
  simp only [Prod.mk.injEq, DataW.agg.injEq] at ex
  have e3 := ex.1.symm
  have hxl : xs.length = 16 := by have := congrArg List.length e3; simpa using this
  have hE := hel i (by omega)
  rw [c257, List.getElem?_eq_getElem (by omega)] at hE
  obtain ⟨ys, m', _, ey, hcl, hyl, hf⟩ := DataW.trod_struct Tryz.underlying257 hE
  have e4 : (xs.map (·.1))[i]? = some (.agg [.lit (.int .u8 (accept32.getD (2 * i) 0 : Nat)), .lit (.int .u8 (accept32.getD (2 * i + 1) 0 : Nat))]) := by
    rw [e3, List.getElem?_map, List.getElem?_range hi]; rfl
  rw [List.getElem?_map, List.getElem?_eq_getElem (by omega : i < xs.length)] at e4
  simp only [Option.map_some, Option.some.injEq] at e4
  rw [ey] at e4
  simp only [DataW.agg.injEq] at e4
  have f0 := hf 0 _ rfl
  have f1 := hf 1 _ rfl
  have hyl2 : ys.length = 2 := by rw [hyl]; rfl
  match ys, hyl2, e4, f0, f1 with
  | [y0, y1], _, e4, f0, f1 =>
    simp only [List.map_cons, List.map_nil, List.cons.injEq, and_true] at e4
    obtain ⟨z0, a1, a2, _⟩ := DataW.trod_int Tryz.underlying5 (show DataW.trod _ Tryz.prog W 0 _ false m' 5 _ = some y0 from f0)
    obtain ⟨z1, b1, b2, _⟩ := DataW.trod_int Tryz.underlying5 (show DataW.trod _ Tryz.prog W 0 _ false m' 5 _ = some y1 from f1)
    have a1' : ((((cs.drop (i * 2)).take 2).drop 0).take 1) = [.int .u8 z0] := by rw [← c5]; exact a1
    have b1' : ((((cs.drop (i * 2)).take 2).drop 1).take 1) = [.int .u8 z1] := by rw [← c5]; exact b1
    rw [a2, b2] at e4
    simp only [DataW.lit.injEq, Lit.int.injEq, true_and] at e4
    have g0 : ((((cs.drop (i * 2)).take 2).drop 0).take 1)[0]? = some (.int .u8 z0) := by rw [a1']; rfl
    have g1 : ((((cs.drop (i * 2)).take 2).drop 1).take 1)[0]? = some (.int .u8 z1) := by rw [b1']; rfl
    rw [← e4.1, ← e4.2]
    constructor
    · simpa [Nat.mul_comm] using g0
    · simpa [Nat.mul_comm, List.getElem?_take, Nat.add_comm] using g1
/-- What is listed gives the machine its tables. -/
theorem glob_ok {W : World} (hL : laidMetH Tryz.prog Rows.historyFreeRow.laid W) : GlobH W.heap ∧ 4 < W.heap.size := by
  rw [MakeChecks.laidMetH_plain _ _ _ (by kernel_rfl)] at hL
  obtain ⟨ps, ⟨g0, t0, cs0, f0, p0, q0, hg0, ht0, hv0, hd0, ⟨g1, t1, cs1, f1, p1, q1, hg1, ht1, hv1, hd1, ⟨g2, t2, cs2, f2, p2, q2, hg2, ht2, hv2, hd2, ⟨g3, t3, cs3, f3, p3, q3, hg3, ht3, hv3, hd3, ⟨g4, t4, cs4, f4, p4, q4, hg4, ht4, hv4, hd4, ⟨g5, t5, cs5, f5, p5, q5, hg5, ht5, hv5, hd5, ⟨g6, t6, cs6, f6, p6, q6, hg6, ht6, hv6, hd6, _, _⟩, _⟩, _⟩, _⟩, _⟩, _⟩, _⟩, _⟩ := hL
  obtain rfl := Option.some.inj ((show Tryz.prog.globalNamed "unicode/utf8.acceptRanges" = some 4 by kernel_rfl).symm.trans hg3)
  obtain rfl := Option.some.inj ((show (Tryz.prog.globals[4]?).map (·.type) = some 258 by kernel_rfl).symm.trans ht3)
  obtain rfl := Option.some.inj ((show Tryz.prog.globalNamed "unicode/utf8.first" = some 3 by kernel_rfl).symm.trans hg6)
  clear hd0 hd1 hd2 hd4 hd5 hv0 hv1 hv2 hv4 hv5
  obtain rfl := Option.some.inj ((show (Tryz.prog.globals[3]?).map (·.type) = some 255 by kernel_rfl).symm.trans ht6)
  have A := accept_cells Tryz.underlying258 (accept_ok ▸ hd3)
  have F := first_cells Tryz.underlying255 (show DataW.trod _ _ _ _ _ _ _ _ _ = some (DataW.agg _, p6) from first_ok ▸ (show DataW.trod (fun _ => ()) Tryz.prog W 0 (fun _ => true) false f6 255 cs6.toList = some (Go.Pinned.utf8First, p6) from hd6))
  have cellA : ∀ j u, cs3.toList[j]? = some u → W.cell? ⟨4, j, none⟩ = some u := fun j u h => by rw [World.var?_cell hg3 hv3 j]; simpa using h
  have cellF : ∀ j u, cs6.toList[j]? = some u → W.cell? ⟨3, j, none⟩ = some u := fun j u h => by rw [World.var?_cell hg6 hv6 j]; simpa using h
  have l4 : 4 < W.heap.size := block_lt_of_cell (cellA 0 _ (A 0 (by omega)).1)
  refine ⟨fun g w hL0 k => ?_, l4⟩
  have add_at : ∀ b j : Nat, (⟨b, 0, none⟩ : Addr).add j = ⟨b, j, none⟩ := fun b j => by
    unfold Addr.add
    by_cases h : j = 0 <;> simp [h]
  match k with
  | 3 =>
    refine VR.ip true _ (first256.map fun (n : Nat) => .int .u8 n) ⟨3, 0, none⟩ (by simp) (by intro u hu; simp at hu; obtain ⟨n, _, rfl⟩ := hu; rfl) ?_ ?_
    · intro j u hu
      have hj : j < 256 := by have := (List.getElem?_eq_some_iff.1 hu).1; simpa [len256] using this
      refine ⟨(hL0 3 (by omega)).1, ?_⟩
      rw [add_at, World.cell?_of_block (hL0 3 (by omega)).2]
      rw [List.getElem?_map, List.getElem?_eq_getElem (by rw [len256]; exact hj)] at hu
      simp only [Option.map_some, Option.some.injEq] at hu
      rw [← hu]
      exact cellF j _ (F j hj)
    · intro j c u hc hu
      rw [List.getElem?_map] at hc hu
      cases hq : first256[j]? with
      | none => rw [hq] at hc; simp at hc
      | some q => rw [hq] at hc hu; simp at hc hu; subst hc; subst hu; exact .int _ _ _
  | 4 =>
    refine VR.ip true _ (accept32.map fun (n : Nat) => .int .u8 n) ⟨4, 0, none⟩ (by simp) (by intro u hu; simp at hu; obtain ⟨n, _, rfl⟩ := hu; rfl) ?_ ?_
    · intro j u hu
      have hj : j < 32 := by have := (List.getElem?_eq_some_iff.1 hu).1; simpa [len32] using this
      refine ⟨(hL0 4 (by omega)).1, ?_⟩
      rw [add_at, World.cell?_of_block (hL0 4 (by omega)).2]
      have hu' : u = .int .u8 (accept32.getD j 0 : Nat) := by
        rw [List.getElem?_map, List.getElem?_eq_getElem (by rw [len32]; exact hj)] at hu
        simp only [Option.map_some, Option.some.injEq] at hu
        rw [← hu, List.getD_eq_getElem?_getD, List.getElem?_eq_getElem (by rw [len32]; exact hj)]
        rfl
      rw [hu']
      refine cellA j _ ?_
      have h2 := A (j / 2) (by omega)
      rcases Nat.mod_two_eq_zero_or_one j with h | h
      · have := h2.1; rwa [show 2 * (j / 2) = j by omega] at this
      · have := h2.2; rwa [show 2 * (j / 2) + 1 = j by omega] at this
    · intro j c u hc hu
      rw [List.getElem?_map] at hc hu
      cases hq : accept32[j]? with
      | none => rw [hq] at hc; simp at hc
      | some q => rw [hq] at hc hu; simp at hc hu; subst hc; subst hu; exact .int _ _ _
  | 0 | 1 | 2 => exact .un _
  | k + 5 => exact .un _
end Go.Pv
namespace Go.Pv
open Go.Proofs Go.Proofs.YtcbpldmnobckeaaGreatDoor Go.ChangeShapes Go.WideShapes Go.RowKit
set_option maxRecDepth 100000
/-! ### HistoryFree: the row. -/
theorem flat37 : flatT Tryz.prog 6 37 = some [.int .i64, .bool, .int .i64, .int .i64, .int .i64, .str, .int .i64, .int .i64, .int .i64, .str, .int .i64, .int .i64, .int .i64, .int .i64, .str] := by kernel_rfl
theorem fl_int {k : IntKind} {ks : List FK} {vs : List V} {cs : List Value} (h : FL (.int k :: ks) vs cs) : ∃ n vs' cs', vs = .int k n :: vs' ∧ FL ks vs' cs' := by cases h; exact ⟨_, _, _, rfl, by assumption⟩
theorem fl_bool {ks : List FK} {vs : List V} {cs : List Value} (h : FL (.bool :: ks) vs cs) : ∃ n vs' cs', vs = .bool n :: vs' ∧ FL ks vs' cs' := by cases h; exact ⟨_, _, _, rfl, by assumption⟩
theorem fl_str {ks : List FK} {vs : List V} {cs : List Value} (h : FL (.str :: ks) vs cs) : ∃ n vs' cs', vs = .str n :: vs' ∧ FL ks vs' cs' := by cases h; exact ⟨_, _, _, rfl, by assumption⟩
theorem fl_ev {y : List V} {cs : List Value} (h : FL [.int .i64, .bool, .int .i64, .int .i64, .int .i64, .str, .int .i64, .int .i64, .int .i64, .str, .int .i64, .int .i64, .int .i64, .int .i64, .str] y cs) :
    ∃ (c : Int) (b : Bool) (ki ss sq ve vk vn re rn rk rv : Int) (fd vs rs : List UInt8), y = ev15 c b ki ss sq ve vk vn re rn rk rv fd vs rs := by
  obtain ⟨c, _, _, rfl, h0⟩ := fl_int h
  obtain ⟨b, _, _, rfl, h1⟩ := fl_bool h0
  obtain ⟨ki, _, _, rfl, h2⟩ := fl_int h1
  obtain ⟨ss, _, _, rfl, h3⟩ := fl_int h2
  obtain ⟨sq, _, _, rfl, h4⟩ := fl_int h3
  obtain ⟨fd, _, _, rfl, h5⟩ := fl_str h4
  obtain ⟨ve, _, _, rfl, h6⟩ := fl_int h5
  obtain ⟨vk, _, _, rfl, h7⟩ := fl_int h6
  obtain ⟨vn, _, _, rfl, h8⟩ := fl_int h7
  obtain ⟨vs, _, _, rfl, h9⟩ := fl_str h8
  obtain ⟨re, _, _, rfl, h10⟩ := fl_int h9
  obtain ⟨rn, _, _, rfl, h11⟩ := fl_int h10
  obtain ⟨rk, _, _, rfl, h12⟩ := fl_int h11
  obtain ⟨rv, _, _, rfl, h13⟩ := fl_int h12
  obtain ⟨rs, _, _, rfl, h14⟩ := fl_str h13
  cases h14
  exact ⟨c, b, ki, ss, sq, ve, vk, vn, re, rn, rk, rv, fd, vs, rs, rfl⟩
theorem laidOut' : laidOutB Tryz.prog = true := by kernel_rfl
theorem kept_below {W W' : World} (h : Below W.heap.size W W') (may : MemPlace → Prop) : W.keptBut W' may := by
  refine ⟨h.os, h.output, fun i hi => ?_⟩
  rw [h.block i hi]
  cases W.heap[i]? with
  | none => rfl
  | some o => cases o <;> simp
/-- A reading is carried over what turns nothing old. -/
theorem carry {H : Type} {enc : TypeId × Value → H} {t : TypeId} (hr : Tryz.prog.readableRec t = true) (hrow : t < Tryz.prog.types.size) {W W' : World} {may : MemPlace → Prop} (hk : W.keptBut W' may) {n : Nat} {cs : List Value} {x : DataW H × List MemPlace}
    (h : DataW.trod enc Tryz.prog W 0 (fun _ => true) true n t cs = some x) (hlt : ∀ p ∈ x.2, p.block < W.heap.size) (hno : ∀ p ∈ x.2, ¬ may p) :
    DataW.trod enc Tryz.prog W' 0 (fun b => decide (b < W.heap.size)) true n t cs = some x :=
  DataW.trod_stays (kids_book laidOut' hr) (book_sized hr) (fun h => by cases h) ⟨hrow, book_self t⟩ h
    (fun p hp => hk.sameAt (hlt p hp) (hno p hp) (fun b e => by
      have := DataW.trod_good (kids_book laidOut' hr) (fun h => by cases h) n t cs x ⟨hrow, book_self t⟩ h p hp
      subst e
      exact this))
    (fun p hp => by simpa using hlt p hp)
theorem enter3 : ∀ args w, (callFunc 3 args).run Tryz.prog w = .ok (.enter 3 args) w := fun args w => enters_of (c := Tryz.f3.body.getD default) Tryz.func3 (by kernel_rfl) (by kernel_rfl) args w
theorem cf_ok {H : Array Obj} : CtxOk Tryz.prog H CF := mkC_ok m4_ok
/-- From the machine to the model, from a bare world: a call that hands back a bool. -/
theorem bool_calls {H : Array Obj} {C : Ctx} (hC : CtxOk Tryz.prog H C) {N : Nat} {f : FuncId} {args : List V} {b : Bool} (hr : callN C N f args [] = some (.ok (.bool b) [] [])) (hG : GlobH H) {w : World} (hL : ∀ b, b < H.size → w.heap[b]? = H[b]?)
    {us : Array Value} (hA : Args gE w args us) (hE : ∀ us w, (callFunc f us).run Tryz.prog w = .ok (.enter f us) w) :
    Calls Tryz.prog f us w fun e w' => e = .returned (.bool b) ∧ Below w.heap.size w w' := by
  have hF : Fact Tryz.prog H f args [] _ := fun g w us hE hA => callN_ok mixed hC N _ _ _ _ hr g w us hE hA
  refine (calls_bare hF hG hL hA hE).mono ?_
  rintro e w' h
  cases e with
  | returned u =>
    obtain ⟨v, hl', ws, g', e1, A⟩ := h
    cases e1
    exact ⟨by rw [A.val.inv_bool], below_bare A.aft⟩
  | panicked c => obtain ⟨v, g', u, e1, _⟩ := h; cases e1
  | outgrown => exact h.elim
end Go.Pv
