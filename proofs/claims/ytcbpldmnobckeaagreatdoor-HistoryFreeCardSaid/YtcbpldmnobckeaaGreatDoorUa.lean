/- The one text that one formula holds. -/
import Derived.Test.YtcbpldmnobckeaaGreatDoorXa
import Derived.Shelf.Strings.Builder1
import Derived.WalkKit
import Derived.Lib.AppendStr
import Derived.Lib.UnsafeStr
import Derived.Laws.Externs
set_option linter.unusedSimpArgs false
set_option linter.unusedVariables false
namespace Go.Proofs
open Go.Shelf
def Tryz.lays169_ren : Go.Shelf.Ren := ⟨fun | 169 => 93 | n => n, fun | 70 => 184 | 9 => 9 | 0 => 0 | 72 => 186 | 37 => 99 | 127 => 220 | 3 => 3 | 5 => 5 | n => n, fun | n => n⟩
theorem Tryz.lays169 : Go.Proofs.Lays.n169 Tryz.prog Tryz.lays169_ren := {
  mixed := by kernel_rfl
  f169 := Tryz.func93.trans (congrArg some (by kernel_rfl))
  t0 := Tryz.underlying0
  a0 := Tryz.isAgg0
  z0 := Tryz.sizeOf0
  v0 := Tryz.zeroValue0
  t3 := Tryz.underlying3
  a3 := Tryz.isAgg3
  z3 := Tryz.sizeOf3
  v3 := Tryz.zeroValue3
  t9 := Tryz.underlying9
  a9 := Tryz.isAgg9
  z9 := Tryz.sizeOf9
  v9 := Tryz.zeroValue9
  t37 := Tryz.underlying99
  a37 := Tryz.isAgg99
  z37 := Tryz.sizeOf99
  v37 := Tryz.zeroValue99
  t70 := Tryz.underlying184
  a70 := Tryz.isAgg184
  z70 := Tryz.sizeOf184
  v70 := Tryz.zeroValue184
  t72 := Tryz.underlying186
  a72 := Tryz.isAgg186
  z72 := Tryz.sizeOf186
  v72 := Tryz.zeroValue186
  t127 := Tryz.underlying220
  a127 := Tryz.isAgg220
  z127 := Tryz.sizeOf220
  v127 := Tryz.zeroValue220 }
theorem Tryz.Builder_Extra_169 : Builder.Extra Tryz.prog Tryz.lays169_ren := {
  sizeBuilder := by kernel_rfl
  liesBuilder := by kernel_rfl
  t5 := Tryz.underlying5
  a5 := Tryz.isAgg5
  z5 := Tryz.sizeOf5
  v5 := Tryz.zeroValue5
  infoByte := by kernel_rfl
  cellsByte := by kernel_rfl
  sizeByte := by kernel_rfl
  neB5 := by decide }
open Go.RowKit in
/-- (*strings.Builder).String (laid). -/
theorem Tryz.Builder_String (B b : Nat) (l : List UInt8) (w : World) (h : Lib.IsBuilder 186 5 B b (Lib.byteCells l) w) (h0 : l ≠ []) :
    Calls Tryz.prog 93 #[.pointer (some ⟨b, 0, none⟩)] w fun e w' => e = .returned (.string ⟨l.toArray⟩) ∧ Below B w w' := Any.Builder_String Tryz.lays169 Tryz.Builder_Extra_169 B b l w h h0
open Go.RowKit in
set_option maxHeartbeats 2000000 in
set_option maxRecDepth 100000 in
/-- copyCheck at a new builder. -/
theorem Tryz.cc_fresh (b : Nat) (w : World) (h0 : w.cell? ⟨b, 0, none⟩ = some (.pointer none)) (hsh : w.shape? b = some (186, 2)) (hfz : w.frozen? ⟨b, 0, none⟩ = false) :
    Calls Tryz.prog 132 #[.pointer (some ⟨b, 0, none⟩)] w fun e w' => e = .returned (.tuple #[]) ∧ w' = w.setCell ⟨b, 0, none⟩ (.pointer (some ⟨b, 0, none⟩)) := by
  have X := Tryz.Builder_Extra_169.toX72
  obtain ⟨j, hj, hjs⟩ := Option.map_eq_some_iff.1 X.sizeBuilder
  have mixed := Go.Pv.mixed
  go_enter Tryz.func132, Tryz.ntmps132
  go_wp2
  rw [Lib.run_to_unsafe w ⟨b, 0, none⟩ (by kernel_rfl) (by kernel_rfl) hj (by rw [hjs]; decide) hsh (Nat.zero_lt_succ 1)]
  simp only [Result.andThen]
  rw [Oper.upon_value]
  go_wp2
  rw [run_callFunc_extern Tryz.func159 (by kernel_rfl) (by kernel_rfl) (by kernel_rfl) (e := Extern.AbiNoEscape.same) (by kernel_rfl)]
  rw [Lib.run_noEscape]
  simp only [Result.andThen]
  rw [Oper.upon_value]
  go_wp2
  rw [Lib.run_from_unsafe w ⟨b, 0, none⟩ (by kernel_rfl) (by kernel_rfl) hj hsh X.liesBuilder]
  simp only [Result.andThen]
  rw [Oper.upon_value]
  go_wp2
  go_end0
  exact ⟨rfl, rfl⟩

open Go.RowKit in
set_option maxHeartbeats 4000000 in
set_option maxRecDepth 100000 in
theorem Tryz.cc (B b : Nat) (bs : List Value) (w : World) (h : Lib.IsBuilder 186 5 B b bs w) :
    Calls Tryz.prog 132 #[.pointer (some ⟨b, 0, none⟩)] w fun e w' => e = .returned (.tuple #[]) ∧ (Lib.BuilderAt 186 5 B b (.pointer (some ⟨b, 0, none⟩)) bs w' ∧ Below B w w') := by
  rcases h with h | h
  · refine (Tryz.cc_fresh b w h.cell0 h.shape h.frozen0).mono ?_
    rintro e w' ⟨rfl, rfl⟩
    exact ⟨rfl, h.used _, (Below.refl B w).setCell (p := ⟨b, 0, none⟩) h.1 _⟩
  · have c0 := h.cell0
    have hk : Calls Tryz.prog 132 #[.pointer (some ⟨b, 0, none⟩)] w fun e w' => e = .returned (.tuple #[]) ∧ w' = w := by
      have X := Tryz.Builder_Extra_169.toX72
      obtain ⟨j, hj, _⟩ := Option.map_eq_some_iff.1 X.sizeBuilder
      go_enter Tryz.func132, Tryz.ntmps132
      go_wp2
      rw [Lib.run_neq_ptr_same w _ Tryz.underlying184 hj]
      go_wp2
      go_end0
      exact ⟨rfl, rfl⟩
    refine hk.mono ?_
    rintro e w' ⟨rfl, rfl⟩
    exact ⟨rfl, h, Below.refl B _⟩
open Go.RowKit in
set_option maxHeartbeats 4000000 in
set_option maxRecDepth 100000 in
theorem Tryz.ar (B : Nat) (v : Value) (n : Nat) (xs : List Value) (r : Int) (h0 : 0 ≤ r) (h1 : r ≤ 127) (w : World) (hown : w.ownsRow B 5 1 v n xs) (hlen : n + 4 ≤ 140737488355328) (hBw : B ≤ w.heap.size) :
    Calls Tryz.prog 133 #[v, .int .i32 r] w fun e w' => ∃ v', e = .returned v' ∧ w'.ownsRow B 5 1 v' (n + 1) (xs ++ [.int .u8 r]) ∧ ∃ o, (w.alloc o).grownBy w' v.ownBlock := by
  obtain ⟨i0, hi, hz0, hz1, hz2⟩ := info_parts Tryz.Builder_Extra_169.infoByte
  have mixed := Go.Pv.mixed
  go_enter Tryz.func133, Tryz.ntmps133
  go_wp2_with (at_builtin; refine wpList_append_own _ rfl _ _ 99 rfl B 5 i0 (.int .u8 0) 1 1 Tryz.underlying99 hi hz0 hz1 hz2 rfl (by decide) _ _ _ rfl (hown.alloc _) ⟨w.heap.size, 0, none⟩ 1 1 [.int .u8 r] rfl rfl ?c1 ?c2 ?c3 ?c4 ?c5 ?_)
  all_goals first
    | (intro v' w2 hown' hgrow _; go_wp2; go_ret; exact ⟨_, rfl, hown', _, hgrow⟩)
    | (unfold maxLen; omega)
    | omega
    | (simp; omega)
    | rfl
    | (intro u hu; simp at hu; subst hu; rfl)
    | (intro j u hj
       match j, hj with
       | 0, hj => simp at hj; subst hj; simp [Addr.add]
       | (j + 1), hj => simp at hj)
theorem Tryz.enter132 : ∀ args w, (callFunc 132 args).run Tryz.prog w = .ok (.enter 132 args) w := fun args w => enters_of (c := Tryz.f132.body.getD default) Tryz.func132 (by kernel_rfl) (by kernel_rfl) args w
theorem Tryz.enter133 : ∀ args w, (callFunc 133 args).run Tryz.prog w = .ok (.enter 133 args) w := fun args w => enters_of (c := Tryz.f133.body.getD default) Tryz.func133 (by kernel_rfl) (by kernel_rfl) args w
open Go.RowKit in
set_option maxHeartbeats 4000000 in
set_option maxRecDepth 100000 in
theorem Tryz.wr (B b : Nat) (bs : List Value) (r : Int) (hr0 : 0 ≤ r) (hr1 : r ≤ 127) (w : World) (h : Lib.IsBuilder 186 5 B b bs w) (hlen : bs.length + 4 ≤ 140737488355328) (hBw : B ≤ w.heap.size) :
    Calls Tryz.prog 95 #[.pointer (some ⟨b, 0, none⟩), .int .i32 r] w fun e w' => e = .returned (.tuple #[.int .i64 1, .nilIface]) ∧ (Lib.BuilderAt 186 5 B b (.pointer (some ⟨b, 0, none⟩)) (bs ++ [.int .u8 r]) w' ∧ Below B w w') := by
  have mixed := Go.Pv.mixed
  have e132 := Tryz.enter132
  have e133 := Tryz.enter133
  go_enter Tryz.func95, Tryz.ntmps95
  go_wp2_with (go_at_call 132; refine (Tryz.cc B b bs _ h).mono ?_)
  rintro e w1 ⟨rfl, h1, hb1⟩
  obtain ⟨hB, v, hbk, hown, hne⟩ := h1
  obtain ⟨ao, cap, rfl⟩ : ∃ ao cap, v = .slice ao bs.length cap := by
    rcases hown.2 with ⟨hv, h0⟩ | ⟨g, cap, cur, hv, _⟩
    · exact ⟨none, 0, by rw [hv, h0]⟩
    · exact ⟨_, _, hv⟩
  have c0 : w1.cell? ⟨b, 0, none⟩ = some (.pointer (some ⟨b, 0, none⟩)) := by rw [Lib.cell_of_heap hbk]; rfl
  have c1 : w1.cell? ⟨b, 1, none⟩ = some (.slice ao bs.length cap) := by rw [Lib.cell_of_heap hbk]; rfl
  go_wp2_with (go_at_call 133; refine (Tryz.ar B _ bs.length bs r hr0 hr1 _ hown hlen (by have := hb1.size; omega)).mono ?_)
  rintro e w2 ⟨v', rfl, hown', o, hgrow⟩
  have hlt : b < w1.heap.size := by
    rcases Nat.lt_or_ge b w1.heap.size with h' | h'
    · exact h'
    · simp [Array.getElem?_eq_none h'] at hbk
  have hb2 : w2.heap[b]? = some (.cells #[.pointer (some ⟨b, 0, none⟩), .slice ao bs.length cap] 186 (0, 0)) := by
    rw [hgrow.block b (by simp; omega) (fun e => hne e.symm), Lib.alloc_old w1 _ b hlt]
    exact hbk
  have d0 : w2.cell? ⟨b, 0, none⟩ = some (.pointer (some ⟨b, 0, none⟩)) := by rw [Lib.cell_of_heap hb2]; rfl
  have d1 : w2.cell? ⟨b, 1, none⟩ = some (.slice ao bs.length cap) := by rw [Lib.cell_of_heap hb2]; rfl
  have f1 : w2.frozen? ⟨b, 1, none⟩ = false := Lib.frozen_of_heap hb2 1
  obtain ⟨g, cap', rfl⟩ : ∃ g cap', v' = .slice (some ⟨g, 0, none⟩) (bs.length + 1) cap' := by
    rcases hown'.2 with ⟨_, h0⟩ | ⟨g, cap', cur, hv, _⟩
    · omega
    · exact ⟨g, cap', hv⟩
  go_wp2
  go_ret2
  refine ⟨?_, ?_, ?_⟩
  · have e : ((bs.length : Int) + 1 - (bs.length : Int)) = 1 := by omega
    simp [e]
  · exact Lib.BuilderAt.put (T := 186) (e := 5) hB hb2 (bs' := bs ++ [.int .u8 r]) (by simpa using hown') Tryz.Builder_Extra_169.neB5
  · exact ((hb1.alloc (by have := hb1.size; omega) _).grown hgrow (by have := hb1.size; simp; omega) (fun k hk => (hown.lt k hk).1)).setCell (p := ⟨b, 1, none⟩) hB _
end Go.Proofs
namespace Go.Pv
open Go.Proofs Go.RowKit
def unqS : List UInt8 := [34, 32, 34, 44, 32, 108, 97, 115, 116, 41, 41]
def unqR : CRes := .ok (.tup [.str [32], .int .i64 3, .bool true]) [] []
theorem enter92' : ∀ args w, (callFunc 92 args).run Tryz.prog w = .ok (.enter 92 args) w := enter92
theorem enter93 : ∀ args w, (callFunc 93 args).run Tryz.prog w = .ok (.enter 93 args) w := fun args w => enters_of (c := Tryz.f93.body.getD default) Tryz.func93 (by kernel_rfl) (by kernel_rfl) args w
theorem enter95 : ∀ args w, (callFunc 95 args).run Tryz.prog w = .ok (.enter 95 args) w := fun args w => enters_of (c := Tryz.f95.body.getD default) Tryz.func95 (by kernel_rfl) (by kernel_rfl) args w
theorem enter58 : ∀ args w, (callFunc 58 args).run Tryz.prog w = .ok (.enter 58 args) w := fun args w => enters_of (c := Tryz.f58.body.getD default) Tryz.func58 (by kernel_rfl) (by kernel_rfl) args w
theorem isB_below {B b : Nat} {bs : List Value} {w w' : World} (h : Lib.IsBuilder 186 5 B b bs w) (hb : Below w.heap.size w w') : Lib.IsBuilder 186 5 B b bs w' := by
  have at_ : ∀ p, Lib.BuilderAt 186 5 B b p bs w → Lib.BuilderAt 186 5 B b p bs w' := by
    rintro p ⟨h1, v, h2, h3, h4⟩
    refine ⟨h1, v, (hb.block b (heap_lt h2)).trans h2, ⟨h3.1, ?_⟩, h4⟩
    rcases h3.2 with h5 | ⟨g, cap, cur, e1, e2, e3, e4⟩
    · exact .inl h5
    · exact .inr ⟨g, cap, cur, e1, e2, (hb.block g (heap_lt e3)).trans e3, e4⟩
  exact h.imp (at_ _) (at_ _)
set_option maxHeartbeats 8000000 in
set_option maxRecDepth 100000 in
theorem unq_walk {H : Array Obj} (hG : GlobH H) (w : World) (hL : ∀ b, b < H.size → w.heap[b]? = H[b]?) (hsz : H.size ≤ w.heap.size) :
    Calls Tryz.prog 58 #[.string ⟨#[34, 32, 34, 44, 32, 108, 97, 115, 116, 41, 41]⟩] w fun e w' => e = .returned (.tuple #[.string ⟨#[32]⟩, .int .i64 3, .bool true]) ∧ Below w.heap.size w w' := by
  have mixed := Go.Pv.mixed
  have e92 := enter92
  have e93 := enter93
  have e95 := enter95
  have keep : ∀ w', Below w.heap.size w w' → ∀ b, b < H.size → w'.heap[b]? = H[b]? := fun w' h b hb => (h.block b (by omega)).trans (hL b hb)
  go_enter Tryz.func58, Tryz.ntmps58
  go_wp2
  go_loopw [6] (fun i wr => (i = .int .i64 1 ∧ Lib.IsBuilder 186 5 w.heap.size w.heap.size [] wr ∧ Below w.heap.size w wr) ∨ (i = .int .i64 2 ∧ Lib.IsBuilder 186 5 w.heap.size w.heap.size [.int .u8 32] wr ∧ Below w.heap.size w wr)) (fun i _ => 5 - (intOf i).toNat)
  case atStart => exact .inl ⟨rfl, Lib.fresh_isBuilder 186 5 w, (Below.refl _ w).alloc (Nat.le_refl _) _⟩
  case round =>
    have hszw : ∀ wr, Below w.heap.size w wr → w.heap.size ≤ wr.heap.size := fun wr h => h.size
    rcases hrel with ⟨rfl, hI, hb⟩ | ⟨rfl, hI, hb⟩
    · go_wp2_with (go_at_call 92; refine (at_calls (H := H) at_run hG (keep _ hb)).mono ?_)
      all_goals first | (exfalso; rename_i hx; revert hx; decide) | skip
      rintro e W1 ⟨rfl, b1⟩
      have hI1 := isB_below hI b1
      have hb1 : Below w.heap.size w W1 := ⟨b1.os.trans hb.os, b1.tape.trans hb.tape, b1.output.trans hb.output, Nat.le_trans hb.size b1.size, fun k hk => (b1.block k (by have := hb.size; omega)).trans (hb.block k hk)⟩
      go_wp2_with (go_at_call 95; refine (Tryz.wr w.heap.size w.heap.size [] 32 (by omega) (by omega) W1 hI1 (by simp) hb1.size).mono ?_)
      rintro e W2 ⟨rfl, h2, b2⟩
      go_wp2
      go_roundw
      case rel => exact .inr ⟨rfl, .inr h2, ⟨b2.os.trans hb1.os, b2.tape.trans hb1.tape, b2.output.trans hb1.output, Nat.le_trans hb1.size b2.size, fun k hk => (b2.block k hk).trans (hb1.block k hk)⟩⟩
      case measure => simp [intOf]
    · go_wp2_with (go_at_call 92; refine (at_calls (H := H) at_run2 hG (keep _ hb)).mono ?_)
      all_goals first | (exfalso; rename_i hx; revert hx; decide) | skip
      rintro e W1 ⟨rfl, b1⟩
      have hI1 := isB_below hI b1
      have hb1 : Below w.heap.size w W1 := ⟨b1.os.trans hb.os, b1.tape.trans hb.tape, b1.output.trans hb.output, Nat.le_trans hb.size b1.size, fun k hk => (b1.block k (by have := hb.size; omega)).trans (hb.block k hk)⟩
      go_wp2_with (go_at_call 93; refine (Tryz.Builder_String w.heap.size w.heap.size [32] W1 hI1 (by simp)).mono ?_)
      rintro e W2 ⟨rfl, b2⟩
      go_wp2
      go_ret3
      exact ⟨rfl, ⟨b2.os.trans hb1.os, b2.tape.trans hb1.tape, b2.output.trans hb1.output, Nat.le_trans hb1.size b2.size, fun k hk => (b2.block k hk).trans (hb1.block k hk)⟩⟩
/-- value.Unquoted at the text that one formula holds. -/
theorem unq_ok {H : Array Obj} : Fact Tryz.prog H 58 [.str unqS] [] unqR := by
  intro g w us hE hA
  left
  have hus : us = #[.string ⟨#[34, 32, 34, 44, 32, 108, 97, 115, 116, 41, 41]⟩] := by
    have h1 := hA.1
    have e0 : us[0]? = some (us[0]'(by rw [h1]; simp)) := Array.getElem?_eq_getElem _
    have v0 := (hA.2 0 _ _ rfl e0).inv_str
    apply Array.ext
    · simpa using h1
    · intro i hi hi'
      have : i = 0 := by simp at hi'; omega
      subst this
      exact v0
  subst hus
  refine ⟨enter58 _ _, ?_⟩
  have hsz : H.size ≤ w.heap.size := by
    rcases Nat.lt_or_ge w.heap.size H.size with h | h
    · have := (hE.laid.all w.heap.size h).2
      rw [Array.getElem?_eq_none (Nat.le_refl _), Array.getElem?_eq_getElem h] at this
      cases this
    · exact h
  refine (unq_walk hE.laid.glob w (fun b hb => (hE.laid.all b hb).2) hsz).mono ?_
  rintro e w' ⟨rfl, b⟩
  have st : Step g w g w' := ⟨fun q hq hlt => ⟨hq, b.block q hlt⟩⟩
  have hD : ∀ k, ¬ g.D k := fun k hk => absurd ((hE.dom k).1 hk) (Nat.not_lt_zero _)
  have hh : ∀ k, g.h k = .dead := fun k => hE.h k
  have ha : ∀ k, ¬ (g.h k).alive := fun k h => by rw [hh k] at h; exact h
  have hR : Rel g (own g) w w' := ⟨hE.rel.dom, hE.rel.inj, hE.rel.sep, fun k => by rw [hh k]; trivial, fun k h => absurd h (ha k), hE.rel.xlt, b.size, fun q hq _ => b.block q hq, b.os, b.tape, b.output⟩
  refine ⟨_, _, _, g, rfl, ⟨⟨hR, st, rfl⟩, hE.dom, hE.h, Nat.le_refl _, fun k _ => ⟨rfl, rfl⟩, ?_, fun k _ _ => rfl⟩⟩
  refine .tup _ _ _ rfl ?_
  intro j x u hx hu
  match j, hx, hu with
  | 0, hx, hu => simp at hx hu; subst hx; subst hu; exact .str _ _
  | 1, hx, hu => simp at hx hu; subst hx; subst hu; exact .int _ _ _
  | 2, hx, hu => simp at hx hu; subst hx; subst hu; exact .bool _ _
end Go.Pv
