/- The machine: its operations are the model's. -/
import Derived.Test.YtjncjpnafabaoaaGreatDoorOa
import Derived.MapKept
import Derived.Lib.ConvBytes
import Derived.Laws.BytesString
import Derived.Laws.AppendOwn
set_option linter.unusedSimpArgs false
set_option linter.unusedVariables false
set_option linter.unusedSectionVars false
namespace Go.Pv
variable [Sy]
section
variable {P : Program} {ρ : Operand → Value} {o : Oper} {g : G} {O0 : Nat → Prop} {w0 w : World} {e : Env} {N : Nat} {rc : Rec} {call : Callf}

theorem take_set_succ {α : Type} (l : List α) (i : Nat) (v : α) (h : i < l.length) : (l.set i v).take (i + 1) = l.take i ++ [v] := by
  apply List.ext_getElem?
  intro j
  simp only [List.getElem?_take, List.getElem?_set, List.getElem?_append, List.length_take]
  by_cases h1 : j < i
  · simp [h1, show j < i + 1 by omega, show ¬ i = j by omega, show j < min i l.length by omega]
  · by_cases h2 : j = i
    · subst h2; simp [h, show ¬ j < min j l.length by omega, show j - min j l.length = 0 by omega]
    · have e1 : ¬ j < i + 1 := by omega
      have e2 : ¬ j < min i l.length := by omega
      rw [if_neg e1, if_neg e2, List.getElem?_eq_none]
      simp; omega
theorem drop_set_past {α : Type} (l : List α) (i n : Nat) (v : α) : (l.set i v).drop (i + 1 + n) = l.drop (i + 1 + n) := by
  apply List.ext_getElem?
  intro j
  simp only [List.getElem?_drop, List.getElem?_set]
  rw [if_neg (by omega)]
theorem fold_seg (off : Nat) : ∀ (vs : List Value) (k : Nat) (arr : Array Value), off + k + vs.length ≤ arr.size →
    ((vs.zipIdx k).foldl (fun cs (c : Value × Nat) => cs.setIfInBounds (off + c.2) c.1) arr).toList = arr.toList.take (off + k) ++ vs ++ arr.toList.drop (off + k + vs.length)
  | [], k, arr, _ => by simp
  | v :: vs, k, arr, h => by
    simp only [List.length_cons] at h
    simp only [List.zipIdx_cons, List.foldl_cons]
    rw [fold_seg off vs (k + 1) _ (by simp; omega)]
    simp only [Array.toList_setIfInBounds, List.length_cons]
    rw [show off + (k + 1) = off + k + 1 by omega, take_set_succ _ _ _ (by simp; omega), drop_set_past]
    simp [show off + k + 1 + vs.length = off + k + (vs.length + 1) by omega]

theorem Cells.seg {r : Bool} {cs vs : List V} {us xs : List Value} {off : Nat} (h : Cells g w r cs us) (hv : Cells g w r vs xs) (_hl : off + vs.length ≤ cs.length) :
    Cells g w r (setSeg cs off vs) (us.take off ++ xs ++ us.drop (off + xs.length)) := by
  unfold setSeg
  rw [show xs.length = vs.length from hv.len]
  exact ((h.take off).append hv).append (h.drop _)
theorem setSeg_len {cs vs : List V} {off : Nat} (hl : off + vs.length ≤ cs.length) : (setSeg cs off vs).length = cs.length := by
  simp [setSeg]; omega

theorem fill_ok (E : Evs g w e ρ) {place : Nat → Option (Nat × Nat)} : ∀ (parts : List (Nat × Operand)) (ps : List (Nat × Nat × Od)),
    (ps.length = parts.length ∧ ∀ (j : Nat) (p : Nat × Operand) (q : Nat × Nat × Od), parts[j]? = some p → ps[j]? = some q → place p.1 = some (q.1, q.2.1) ∧ odOf p.2 = some q.2.2) →
    ∀ (cs cs' : List V) (arr : Array Value), Cells g w true cs arr.toList → fillP cs (ps.map fun p => (p.1, p.2.1, p.2.2.ev e)) = some cs' →
    ∃ arr', Instr.fill place arr (parts.map fun (i, x) => (i, ρ x)) = some arr' ∧ Cells g w true cs' arr'.toList ∧ cs'.length = cs.length
  | [], [], _, cs, cs', arr, C, h => by
    simp [fillP] at h
    subst h
    exact ⟨arr, by simp [Instr.fill], C, rfl⟩
  | [], q :: ps, hp, _, _, _, _, _ => by simp at hp
  | p :: parts, [], hp, _, _, _, _, _ => by simp at hp
  | (i, x) :: parts, (off, n, od) :: ps, hp, cs, cs', arr, C, h => by
    obtain ⟨hl, hp⟩ := hp
    obtain ⟨h1, h2⟩ := hp 0 (i, x) (off, n, od) rfl rfl
    simp only [List.map_cons, fillP] at h
    split at h
    · rename_i vs hvs
      split at h
      · rename_i hc
        have hx := cells_of (od_ok E h2) hvs
        have hxl := hx.len
        have hcl := C.len
        have hsz : (ρ x).cells.size = n := by simp at hxl; omega
        have hfit : ¬ off + (ρ x).cells.size > arr.size := by simp at hcl; omega
        have hfold : ((ρ x).cells.zipIdx.foldl (fun cs (c : Value × Nat) => cs.setIfInBounds (off + c.2) c.1) arr).toList = arr.toList.take off ++ (ρ x).cells.toList ++ arr.toList.drop (off + (ρ x).cells.toList.length) := by
          rw [← Array.foldl_toList, Array.toList_zipIdx, fold_seg off _ 0 arr (by simp; omega)]
          simp
        obtain ⟨arr', k1, k2, k3⟩ := fill_ok E parts ps ⟨by simpa using hl, fun j p q hp' hq' => hp (j + 1) p q (by simpa using hp') (by simpa using hq')⟩ (setSeg cs off vs) cs'
          ((ρ x).cells.zipIdx.foldl (fun cs (c : Value × Nat) => cs.setIfInBounds (off + c.2) c.1) arr) (by rw [hfold]; exact C.seg hx (by omega)) h
        refine ⟨arr', ?_, k2, k3.trans (setSeg_len (by omega))⟩
        have hp1 : place i = some (off, n) := h1
        simp only [List.map_cons, Instr.fill, hp1, hsz, ne_eq, not_true_eq_false, decide_false, Bool.false_or]
        rw [if_neg (by rw [← hsz]; simpa using hfit)]
        exact k1
      · cases h
    · cases h

theorem partsF_ok {pl : List (Nat × Nat)} : ∀ {parts : List (Nat × Operand)} {ps : List (Nat × Nat × Od)}, partsF pl parts = some ps →
    ps.length = parts.length ∧ ∀ (j : Nat) (p : Nat × Operand) (q : Nat × Nat × Od), parts[j]? = some p → ps[j]? = some q → (fun i => pl.toArray[i]?) p.1 = some (q.1, q.2.1) ∧ odOf p.2 = some q.2.2
  | [], ps, h => by simp [partsF] at h; subst h; exact ⟨rfl, fun j p q hp => by simp at hp⟩
  | (i, x) :: parts, ps, h => by
    simp only [partsF] at h
    split at h
    · rename_i f a l hf ha hl
      simp at h
      subst h
      obtain ⟨k1, k2⟩ := partsF_ok hl
      refine ⟨by simp [k1], fun j p q hp hq => ?_⟩
      cases j with
      | zero => simp at hp hq; subst hp; subst hq; exact ⟨by simpa using hf, ha⟩
      | succ j => exact k2 j p q (by simpa using hp) (by simpa using hq)
    · cases h
theorem partsA_ok {n : Nat} : ∀ {parts : List (Nat × Operand)} {ps : List (Nat × Nat × Od)}, partsA n parts = some ps →
    ps.length = parts.length ∧ ∀ (j : Nat) (p : Nat × Operand) (q : Nat × Nat × Od), parts[j]? = some p → ps[j]? = some q → some (p.1 * n, n) = some (q.1, q.2.1) ∧ odOf p.2 = some q.2.2
  | [], ps, h => by simp [partsA] at h; subst h; exact ⟨rfl, fun j p q hp => by simp at hp⟩
  | (i, x) :: parts, ps, h => by
    simp only [partsA] at h
    split at h
    · rename_i a l ha hl
      simp at h
      subst h
      obtain ⟨k1, k2⟩ := partsA_ok hl
      refine ⟨by simp [k1], fun j p q hp hq => ?_⟩
      cases j with
      | zero => simp at hp hq; subst hp; subst hq; exact ⟨rfl, ha⟩
      | succ j => exact k2 j p q (by simpa using hp) (by simpa using hq)
    · cases h

theorem op_build_s (R : Rel g O0 w0 w) (E : Evs g w e ρ) {t : TypeId} {parts : Array (Nat × Operand)} {fs : Array Field} {zs : List V} {pl : List (Nat × Nat)} {ps : List (Nat × Nat × Od)} (ho : o.op = .build t parts)
    (ht : P.underlying t = some (.struct fs)) (hz : zeroOf P t = some zs) (hpl : placesOf P fs = some pl) (hps : partsF pl parts.toList = some ps)
    (hv : vop call g.h N e (.build zs ps) = some (.ok rc)) : OpOk P ρ o g O0 w0 w rc := by
  simp only [vop, v_mov, v_pick, v_new, v_box, v_build, v_buildS, v_load, v_store, v_nilc, v_bin, v_una, v_conv, v_mkI, v_mkF, v_mkM, v_mkS, v_slc, v_fad, v_fld, v_iad, v_idx, v_look, v_mset, v_rng, v_nxt, v_tas, v_ext, v_call, v_calld, v_len, v_app, v_copy, v_clearM, v_clearS, v_del, v_mx, v_pan] at hv
  split at hv
  · rename_i cs hcs
    simp [ok1] at hv
    subst hv
    obtain ⟨zv, hzi, hzr, hzc⟩ := zeroOf_run hz w
    obtain ⟨arr', k1, k2, _⟩ := fill_ok E (place := fun i => pl.toArray[i]?) parts.toList ps (partsF_ok hps) zs cs zv.cells (hzc g w true) hcs
    refine OpOk.pure R [] (u := .agg arr') ?_ (.agg _ cs arr' (by simpa using k2.len) (fun u hu => k2.one u (by simpa using hu)) fun j x u hx hu => k2.rel j x u hx (by simpa using hu))
    have hb : P.built t (parts.map fun (i, x) => (i, ρ x)).toList = some arr' := by
      cases hi : P.info? t with
      | none => rw [hi] at hzi; cases hzi
      | some it =>
        rw [hi] at hzi
        simp at hzi
        unfold placesOf at hpl
        simp only [Program.built, hi, ht, hzi, hpl, Array.toList_map]
        exact k1
    simp [execOp, ho, run_build w t _ arr' hb]
  · cases hv

theorem op_build_a (R : Rel g O0 w0 w) (E : Evs g w e ρ) {t el : TypeId} {parts : Array (Nat × Operand)} {len n : Nat} {zs : List V} {ps : List (Nat × Nat × Od)} (ho : o.op = .build t parts)
    (ht : P.underlying t = some (.array len el)) (hz : zeroOf P t = some zs) (hn : szOf P el = some n) (hps : partsA n parts.toList = some ps)
    (hv : vop call g.h N e (.build zs ps) = some (.ok rc)) : OpOk P ρ o g O0 w0 w rc := by
  simp only [vop, v_mov, v_pick, v_new, v_box, v_build, v_buildS, v_load, v_store, v_nilc, v_bin, v_una, v_conv, v_mkI, v_mkF, v_mkM, v_mkS, v_slc, v_fad, v_fld, v_iad, v_idx, v_look, v_mset, v_rng, v_nxt, v_tas, v_ext, v_call, v_calld, v_len, v_app, v_copy, v_clearM, v_clearS, v_del, v_mx, v_pan] at hv
  split at hv
  · rename_i cs hcs
    simp [ok1] at hv
    subst hv
    obtain ⟨zv, hzi, hzr, hzc⟩ := zeroOf_run hz w
    obtain ⟨arr', k1, k2, _⟩ := fill_ok E (place := fun i => some (i * n, n)) parts.toList ps (partsA_ok hps) zs cs zv.cells (hzc g w true) hcs
    refine OpOk.pure R [] (u := .agg arr') ?_ (.agg _ cs arr' (by simpa using k2.len) (fun u hu => k2.one u (by simpa using hu)) fun j x u hx hu => k2.rel j x u hx (by simpa using hu))
    have hb : P.built t (parts.map fun (i, x) => (i, ρ x)).toList = some arr' := by
      cases hi : P.info? t with
      | none => rw [hi] at hzi; cases hzi
      | some it =>
        rw [hi] at hzi
        simp at hzi
        simp only [szOf, Option.map_eq_some_iff] at hn
        obtain ⟨ie, hie, rfl⟩ := hn
        simp only [Program.built, hi, ht, hzi, hie, Array.toList_map]
        exact k1
    simp [execOp, ho, run_build w t _ arr' hb]
  · cases hv

theorem rep_flatten {α : Type} : ∀ (n : Nat) (zs : List α), (List.replicate n zs).flatten.length = n * zs.length
  | 0, zs => by simp
  | n + 1, zs => by simp
theorem rep_get {α : Type} (n : Nat) (zs : List α) (j : Nat) (h : j < n * zs.length) : (List.replicate n zs).flatten[j]? = zs[j % zs.length]? := by
  induction n generalizing j with
  | zero => simp at h
  | succ n ih =>
    rw [List.replicate_succ, List.flatten_cons]
    have h0 : 0 < zs.length := by rcases Nat.eq_zero_or_pos zs.length with h' | h' <;> simp_all
    by_cases hj : j < zs.length
    · rw [List.getElem?_append_left hj, Nat.mod_eq_of_lt hj]
    · rw [List.getElem?_append_right (by omega), ih _ (by rw [Nat.add_mul] at h; omega)]
      rw [← Nat.mod_eq_sub_mod (by omega)]
/-- A row of zeros. -/
theorem zeros_cells {zs : List V} {zv : Array Value} (h : Cells g w true zs zv.toList) (h0 : 0 < zs.length) (n : Nat) :
    Cells g w true (List.replicate n zs).flatten ((Array.range (n * zs.length)).map (zv[· % zv.size]!)).toList := by
  have hl := h.len
  have hz : zv.size = zs.length := by simpa using hl
  refine ⟨by simp, ?_, ?_⟩
  · intro u hu
    simp only [Array.toList_map, List.mem_map] at hu
    obtain ⟨j, _, rfl⟩ := hu
    have : j % zv.size < zv.size := Nat.mod_lt _ (by omega)
    rw [getElem!_pos zv _ this]
    exact h.one _ (by simp)
  · intro j c u hc hu
    have hj : j < n * zs.length := by
      have := (List.getElem?_eq_some_iff.1 hc).1
      simpa using this
    rw [rep_get n zs j hj] at hc
    have hm : j % zs.length < zs.length := Nat.mod_lt _ h0
    have hu' : zv.toList[j % zs.length]? = some u := by
      simp only [Array.toList_map, List.getElem?_map, Array.toList_range, List.getElem?_range hj, Option.map_some, Option.some.injEq] at hu
      rw [hz, getElem!_pos zv _ (by omega)] at hu
      rw [← hu, Array.getElem?_toList, Array.getElem?_eq_getElem (by omega)]
    exact h.rel _ c u hc hu'

theorem op_buildS (R : Rel g O0 w0 w) (E : Evs g w e ρ) {t el : TypeId} {parts : Array (Nat × Operand)} {len n : Nat} {zs : List V} {ps : List (Nat × Nat × Od)} (ho : o.op = .buildSlice t len parts)
    (ht : P.underlying t = some (.slice el)) (hz : zeroOf P el = some zs) (hn : szOf P el = some n) (hlim : len * n ≤ 2 ^ 20) (hzl : zs.length = n) (h0 : 0 < n) (hps : partsA n parts.toList = some ps) (hN : N ∈ rc.upd.map (·.1) → ¬ g.D N)
    (hv : vop call g.h N e (.buildS (List.replicate len zs).flatten len n ps) = some (.ok rc)) : OpOk P ρ o g O0 w0 w rc := by
  simp only [vop, v_mov, v_pick, v_new, v_box, v_build, v_buildS, v_load, v_store, v_nilc, v_bin, v_una, v_conv, v_mkI, v_mkF, v_mkM, v_mkS, v_slc, v_fad, v_fld, v_iad, v_idx, v_look, v_mset, v_rng, v_nxt, v_tas, v_ext, v_call, v_calld, v_len, v_app, v_copy, v_clearM, v_clearS, v_del, v_mx, v_pan] at hv
  split at hv
  · rename_i cs hcs
    simp only [Option.some.injEq, Res.ok.injEq] at hv
    subst hv
    obtain ⟨zv, hzi, hzr, hzc⟩ := zeroOf_run hz w
    have hZ := zeros_cells (hzc g w true) (by omega) len
    have hl := (hzc g w true).len
    obtain ⟨arr', k1, k2, k3⟩ := fill_ok E (place := fun i => some (i * n, n)) parts.toList ps (partsA_ok hps) _ cs _ hZ hcs
    have hl2 := k2.len
    have hlen : cs.length = len * n := by rw [k3, rep_flatten, hzl]
    obtain ⟨q1, q2, q3⟩ := new_cells R (c := 0) (cs := cs) (esz := n) (hN (by simp)) (alloc_heap w (.cells arr' el)) rfl rfl rfl (by simp at hl2; omega) (by simp) (by rw [List.take_of_length_le (by omega)]; exact k2)
    refine ⟨_, _, _, .slice (some ⟨w.heap.size, 0, none⟩) len len, ?_, .inl rfl, q3, q1, q2, ?_⟩
    · have hlim' : ¬ len * n > 2 ^ 24 := by have : (2 : Nat) ^ 20 ≤ 2 ^ 24 := by decide
                                            omega
      have k1' : Instr.fill (fun i => some (i * n, n)) ((Array.range (len * n)).map (zv.cells[· % zv.cells.size]!)) (parts.map fun x => (x.1, ρ x.2)).toList = some arr' := by
        rw [hzl] at k1
        simpa using k1
      by_cases hz0 : len * n = 0
      · rw [hz0] at k1'
        have hr : ∀ f : Nat → Value, (Array.range 0).map f = #[] := fun f => by simp
        rw [hr] at k1'
        simp only [execOp, ho, Instr.buildSlice, Sem.run_bind, run_underlying ht, Result.andThen_ok, szOf_run hn, hlim', if_false, hz0, if_true, gt_iff_lt, Nat.not_lt_zero, pure_bind, Sem.run_pure, hr, k1', newRow, run_newObj]
        rfl
      · simp only [execOp, ho, Instr.buildSlice, Sem.run_bind, run_underlying ht, Result.andThen_ok, szOf_run hn, hlim', if_false, hz0, hzr, Sem.run_pure, k1', newRow, run_newObj]
        rfl
    · have := VR.sl (g := g.new N w.heap.size 0 (.cells cs n)) (w := w.alloc (.cells arr' el)) N 0 len (some len) len (.inr rfl) (fun x hx => by cases hx; rfl) (fun hx => by cases hx) (Nat.le_refl _)
      simpa [G.new] using this
  · cases hv
end
end Go.Pv
namespace Go.Pv
variable [Sy]
section
variable {P : Program} {ρ : Operand → Value} {o : Oper} {g : G} {O0 : Nat → Prop} {w0 w : World} {e : Env} {N : Nat} {rc : Rec} {call : Callf}

def G.set (g : G) (k : Nat) (vo : VO) : G := { g with h := fun j => if j = k then vo else g.h j }

theorem G.set_move (g : G) (k : Nat) (vo : VO) : ∀ j, g.D j → (g.set k vo).D j ∧ (g.set k vo).B j = g.B j ∧ (g.set k vo).C j = g.C j := fun _ h => ⟨h, rfl, rfl⟩

theorem set_ok (R : Rel g O0 w0 w) {w' : World} {k : Nat} {vo : VO} (hk : (g.h k).alive) (hs : w'.heap.size = w.heap.size) (hot : ∀ b, b ≠ g.B k → w'.heap[b]? = w.heap[b]?)
    (h1 : w'.os = w.os) (h2 : w'.tape = w.tape) (h3 : w'.output = w.output) (hob : Step g w (g.set k vo) w' → OR (g.set k vo) w' k vo) :
    Rel (g.set k vo) O0 w0 w' ∧ Step g w (g.set k vo) w' ∧ Eff g [(k, vo)] (g.set k vo) := by
  have U : Up g w (g.set k vo) w' (· = k) := by
    refine ⟨rfl, by omega, h1, h2, h3, G.set_move g k vo, fun j hj => by simp [G.set, hj], fun b _ hb => hot b fun e => hb k rfl hk e.symm, ?_, ?_⟩
    · rintro j rfl _
      exact ⟨R.dom j hk, .inl ⟨j, rfl, hk, rfl⟩⟩
    · rintro j l rfl rfl _ _ _
      rfl
  have S := R.step U
  refine ⟨R.up U ?_, S, ⟨rfl, fun j => ?_, fun j _ => ⟨rfl, rfl⟩, fun j => ?_⟩⟩
  · rintro j rfl
    have := hob S
    simpa [G.set] using this
  · constructor
    · exact .inl
    · rintro (h | h)
      · exact h
      · simp at h; subst h; exact R.dom j hk
  · simp only [G.set, lookU]
    by_cases hj : j = k
    · subst hj; simp
    · have : ¬ k = j := fun e => hj e.symm
      simp [hj, this]

theorem or_cells (R : Rel g O0 w0 w) {k esz : Nat} {cs : List V} (hk : g.h k = .cells cs esz) : ∃ (arr : Array Value) (t : TypeId), w.heap[g.B k]? = some (.cells arr t (0, 0)) ∧ cs.length ≤ arr.size ∧ g.C k * esz ≤ arr.size ∧
    Cells g w true cs (arr.toList.take cs.length) := by
  have ho := R.obj k
  rw [hk] at ho
  obtain ⟨arr, t, hh, hl, hc, hr⟩ := ho
  refine ⟨arr, t, hh, hl, hc, by simp; omega, ?_, ?_⟩
  · intro u hu
    obtain ⟨j, hj⟩ := List.mem_iff_getElem?.1 hu
    rw [List.getElem?_take] at hj
    split at hj
    · rename_i hjn
      rw [Array.getElem?_toList] at hj
      exact (hr _ _ u (List.getElem?_eq_getElem hjn) hj).1
    · cases hj
  · intro j c u hc hu
    rw [List.getElem?_take] at hu
    split at hu
    · rw [Array.getElem?_toList] at hu
      exact (hr _ c u hc hu).2
    · cases hu

theorem set_cells (R : Rel g O0 w0 w) {w' : World} {k esz esz' : Nat} {cs cs' : List V} {arr : Array Value} {t : TypeId} (hk : g.h k = .cells cs' esz') (hs : w'.heap.size = w.heap.size) (hot : ∀ b, b ≠ g.B k → w'.heap[b]? = w.heap[b]?)
    (h1 : w'.os = w.os) (h2 : w'.tape = w.tape) (h3 : w'.output = w.output) (hh : w'.heap[g.B k]? = some (.cells arr t (0, 0))) (hl : cs.length ≤ arr.size) (hc : g.C k * esz ≤ arr.size) (C : Cells g w true cs (arr.toList.take cs.length)) :
    Rel (g.set k (.cells cs esz)) O0 w0 w' ∧ Step g w (g.set k (.cells cs esz)) w' ∧ Eff g [(k, .cells cs esz)] (g.set k (.cells cs esz)) := by
  refine set_ok R (by rw [hk]; trivial) hs hot h1 h2 h3 fun S => ?_
  have C' := C.move S (G.set_move g k _)
  refine ⟨arr, t, hh, hl, hc, ?_⟩
  intro j v u hv hu
  have hj : j < cs.length := (List.getElem?_eq_some_iff.1 hv).1
  have hu' : (arr.toList.take cs.length)[j]? = some u := by rw [List.getElem?_take, if_pos hj, Array.getElem?_toList]; exact hu
  exact ⟨C'.one u (List.mem_of_getElem? hu'), C'.rel j v u hv hu'⟩

theorem take_seg {α : Type} (L xs : List α) (n off : Nat) (hn : n ≤ L.length) (h : off + xs.length ≤ n) :
    (L.take off ++ xs ++ L.drop (off + xs.length)).take n = (L.take n).take off ++ xs ++ (L.take n).drop (off + xs.length) := by
  have e1 : L.take off = (L.take n).take off := by rw [List.take_take, Nat.min_eq_left (by omega)]
  have e2 : L.drop (off + xs.length) = (L.take n).drop (off + xs.length) ++ L.drop n := by
    conv => lhs; rw [← List.take_append_drop n L]
    rw [List.drop_append_of_le_length (by simp; omega)]
  rw [e2, e1, ← List.append_assoc]
  apply List.take_left'
  simp
  omega

/-- A stretch of what is owned is written. -/
theorem seg_ok (R : Rel g O0 w0 w) {k esz off : Nat} {cs vs : List V} {us : List Value} (hk : g.h k = .cells cs esz) (hl : off + vs.length ≤ cs.length) (C : Cells g w true vs us) :
    ∃ w', (∀ P : Program, (storeCells ⟨g.B k, off, none⟩ us).run P w = .ok () w') ∧ Rel (g.set k (.cells (setSeg cs off vs) esz)) O0 w0 w' ∧ Step g w (g.set k (.cells (setSeg cs off vs) esz)) w' ∧
      Eff g [(k, .cells (setSeg cs off vs) esz)] (g.set k (.cells (setSeg cs off vs) esz)) := by
  obtain ⟨arr, t, hh, hla, hca, CA⟩ := or_cells R hk
  have hul := C.len
  have hst : ∀ P, (storeCells ⟨g.B k, off, none⟩ us).run P w = _ := fun P => run_storeCells_at P (g.B k) off t us 0 arr w hh (by simp; omega) C.one
  simp only [Nat.add_zero] at hst
  refine ⟨_, hst, ?_⟩
  refine set_cells R hk (setRow_size _ _ _) (fun b hb => setRow_other _ _ _ _ hb) rfl rfl rfl (setRow_heap _ _ _ _ _ _ hh) ?_ ?_ ?_
  · rw [setSeg_len hl]; simp; omega
  · simp; omega
  · rw [setSeg_len hl, List.toList_toArray, take_seg _ _ _ _ (by simpa using hla) (by omega)]
    exact CA.seg C hl

theorem op_store (R : Rel g O0 w0 w) (E : Evs g w e ρ) {t : TypeId} {a x : Operand} {a' x' : Od} {n : Nat} (ho : o.op = .store t a x) (hn : szOf P t = some n) (ha : odOf a = some a') (hx : odOf x = some x')
    (hv : vop call g.h N e (.store n a' x') = some (.ok rc)) : OpOk P ρ o g O0 w0 w rc := by
  have h1 := od_ok E ha
  have h2 := od_ok E hx
  simp only [vop, v_mov, v_pick, v_new, v_box, v_build, v_buildS, v_load, v_store, v_nilc, v_bin, v_una, v_conv, v_mkI, v_mkF, v_mkM, v_mkS, v_slc, v_fad, v_fld, v_iad, v_idx, v_look, v_mset, v_rng, v_nxt, v_tas, v_ext, v_call, v_calld, v_len, v_app, v_copy, v_clearM, v_clearS, v_del, v_mx, v_pan] at hv
  split at hv
  · rename_i k off hq
    split at hv
    · rename_i cs esz hk
      split at hv
      · rename_i vs hvs
        split at hv
        · rename_i hc
          simp only [Option.some.injEq, Res.ok.injEq] at hv
          subst hv
          rw [hq] at h1
          obtain ⟨hD, hu⟩ := h1.inv_ptr
          have C := cells_of h2 hvs
          have hl := C.len
          obtain ⟨w', q1, q2, q3, q4⟩ := seg_ok (off := off) R hk (by omega) C
          have hsz : (ρ x).cells.size = n := by simp at hl; omega
          refine ⟨.skip, w', _, undef, ?_, .inr ⟨rfl, rfl⟩, q4, q2, q3, .un _⟩
          simp [execOp, ho, Instr.storeAt, hu, Instr.sureAddr, storeVar, szOf_run hn, hsz, q1 P]
        · cases hv
      · cases hv
    · cases hv
  · cases hv
end
end Go.Pv
namespace Go.Pv
variable [Sy]
section
variable {P : Program} {ρ : Operand → Value} {o : Oper} {g : G} {O0 : Nat → Prop} {w0 w : World} {e : Env} {N : Nat} {rc : Rec} {call : Callf}

theorem part_ok {t : TypeId} {U : Array Value} {off : Nat} {gg : Option Nat} {cs : List V} {v : V} (hg : aggOf P t = some gg) (C : Cells g w true cs U.toList)
    (hv' : shapeOf gg ((cs.drop off).take (gg.getD 1)) = some v) : ∃ u, (part t U off).run P w = .ok u w ∧ VR g w true v u := by
  have C' := (C.drop off).take (gg.getD 1)
  cases gg with
  | some n =>
    obtain ⟨q1, q2⟩ := aggOf_some hg
    refine ⟨_, ?_, shape_some C' hv'⟩
    simp only [part, Sem.run_bind, q1, Result.andThen_ok, if_true, szOf_run q2, Sem.run_pure]
    congr 2
    apply Array.ext'
    simp [List.take_drop, Nat.add_comm]
  | none =>
    obtain ⟨u, q1, q2⟩ := shape_none C' hv'
    refine ⟨u, ?_, q2⟩
    have q3 : U[off]? = some u := by
      have := congrArg (·[0]?) q1
      simpa [List.getElem?_take, List.getElem?_drop] using this
    simp [part, aggOf_none hg, q3]

theorem op_idx_a (R : Rel g O0 w0 w) (E : Evs g w e ρ) {t el : TypeId} {x i : Operand} {x' i' : Od} {k len : Nat} {gg : Option Nat} (ho : o.op = .index t x i)
    (hs : P.underlying t = some (.array len el)) (hk : szOf P el = some k) (hg : aggOf P el = some gg) (hx : odOf x = some x') (hi : odOf i = some i')
    (hv : vop call g.h N e (.idx (some (len, k, gg)) x' i') = some (.ok rc)) : OpOk P ρ o g O0 w0 w rc := by
  have h1 := od_ok E hx
  have h2 := od_ok E hi
  simp only [vop, v_mov, v_pick, v_new, v_box, v_build, v_buildS, v_load, v_store, v_nilc, v_bin, v_una, v_conv, v_mkI, v_mkF, v_mkM, v_mkS, v_slc, v_fad, v_fld, v_iad, v_idx, v_look, v_mset, v_rng, v_nxt, v_tas, v_ext, v_call, v_calld, v_len, v_app, v_copy, v_clearM, v_clearS, v_del, v_mx, v_pan] at hv
  split at hv
  · rename_i ik n hq
    rw [hq] at h2
    have h2 := h2.inv_int
    split at hv
    · cases hv
    · rename_i hneg
      have c1 : 0 ≤ n := by omega
      split at hv
      · rename_i cs hxq
        rw [hxq] at h1
        obtain ⟨U, hU, hl, hone, ha⟩ := h1.inv_agg
        have C : Cells g w true cs U.toList := ⟨by simpa using hl, fun u hu => hone u (by simpa using hu), fun j c u hc hu => ha j c u hc (by simpa using hu)⟩
        split at hv
        · rename_i hlt
          split at hv
          · rename_i v hv'
            simp [ok1] at hv
            subst hv
            obtain ⟨u, k1, k2⟩ := part_ok hg C hv'
            have c2 : n < (len : Int) := by omega
            refine OpOk.pure R [] (u := u) ?_ k2
            simp [execOp, ho, Instr.index, h2, asIntOf, run_underlying hs, hU, c1, c2, szOf_run hk, k1]
          · cases hv
        · cases hv
      · cases hv
  · cases hv

theorem bound_ok {x : V} {u : Value} {n y : Nat} {c : BoundsCode} (h : VR g w true x u) (hn : natOf x = some n) (hy : n ≤ y) : (Instr.sliceBound u y c).run P w = .ok n w := by
  unfold natOf at hn
  split at hn
  · rename_i k i
    split at hn
    · rename_i h0
      simp at hn
      subst hn
      have := h.inv_int
      subst this
      have c2 : i ≤ (y : Int) := by omega
      simp [Instr.sliceBound, asIntOf, h0, c2]
    · cases hn
  · cases hn
theorem opt_ok (E : Evs g w e ρ) {x : Option Operand} {x' : Option Od} {d n : Nat} (hx : odOpt x = some x') (hn : natOr (x'.map (·.ev e)) d = some n) :
    (x = none ∧ x' = none ∧ n = d) ∨ ∃ y a, x = some y ∧ x' = some a ∧ VR g w true (a.ev e) (ρ y) ∧ natOf (a.ev e) = some n := by
  cases x with
  | none => simp [odOpt] at hx; subst hx; simp [natOr] at hn; exact .inl ⟨rfl, rfl, hn.symm⟩
  | some y =>
    simp only [odOpt, Option.map_eq_some_iff] at hx
    obtain ⟨a, ha, rfl⟩ := hx
    exact .inr ⟨y, a, rfl, rfl, od_ok E ha, hn⟩

theorem bounds_ok (E : Evs g w e ρ) {lo hi mx : Option Operand} {lo' hi' mx' : Option Od} {b : Bool} {len cap l h m d : Nat} (hlo : odOpt lo = some lo') (hhi : odOpt hi = some hi') (hmx : odOpt mx = some mx')
    (h1 : natOr (lo'.map (·.ev e)) 0 = some l) (h2 : natOr (hi'.map (·.ev e)) len = some h) (h3 : natOr (mx'.map (·.ev e)) d = some m) (hm : (mx'.isNone || hi'.isSome) = true)
    (c1 : l ≤ h) (c2 : h ≤ m) (c3 : m ≤ cap) : (Instr.sliceBounds b len cap (lo.map ρ) (hi.map ρ) (mx.map ρ)).run P w = .ok (l, h, if mx'.isSome then m else cap) w := by
  rcases opt_ok E hlo h1 with ⟨rfl, rfl, rfl⟩ | ⟨yl, al, rfl, rfl, vl, nl⟩ <;> rcases opt_ok E hhi h2 with ⟨rfl, rfl, rfl⟩ | ⟨yh, ah, rfl, rfl, vh, nh⟩ <;>
    rcases opt_ok E hmx h3 with ⟨rfl, rfl, rfl⟩ | ⟨ym, am, rfl, rfl, vm, nm⟩ <;> simp [Instr.sliceBounds] at hm ⊢
  · simp [bound_ok vh nh (show _ ≤ cap by omega)]
  · simp [bound_ok vm nm c3, bound_ok vh nh c2]
  · simp [bound_ok vl nl c1]
  · simp [bound_ok vh nh (show _ ≤ cap by omega), bound_ok vl nl c1]
  · simp [bound_ok vm nm c3, bound_ok vh nh c2, bound_ok vl nl c1]
end
end Go.Pv
namespace Go.Pv
variable [Sy]
section
variable {P : Program} {ρ : Operand → Value} {o : Oper} {g : G} {O0 : Nat → Prop} {w0 w : World} {e : Env} {N : Nat} {rc : Rec} {call : Callf}

theorem flatten_take {k : Nat} : ∀ {xs : List (List V)}, (∀ x ∈ xs, x.length = k) → ∀ {q : Nat}, (xs.take q).flatten = xs.flatten.take (q * k)
  | [], _, q => by simp
  | y :: ys, hy, 0 => by simp
  | y :: ys, hy, q + 1 => by
    have hyl := hy y (by simp)
    simp only [List.take_succ_cons, List.flatten_cons, flatten_take (fun x hx => hy x (List.mem_cons_of_mem _ hx)), Nat.succ_mul]
    rw [List.take_append, List.take_of_length_le (l := y) (by omega), hyl, Nat.add_sub_cancel]
theorem flatten_drop {k : Nat} : ∀ {xs : List (List V)}, (∀ x ∈ xs, x.length = k) → ∀ {q : Nat}, (xs.drop q).flatten = xs.flatten.drop (q * k)
  | [], _, q => by simp
  | y :: ys, hy, 0 => by simp
  | y :: ys, hy, q + 1 => by
    have hyl := hy y (by simp)
    simp only [List.drop_succ_cons, List.flatten_cons, flatten_drop (fun x hx => hy x (List.mem_cons_of_mem _ hx)), Nat.succ_mul]
    rw [List.drop_append, List.drop_of_length_le (l := y) (by omega), hyl, Nat.add_sub_cancel, List.nil_append]

theorem op_slc_str (R : Rel g O0 w0 w) (E : Evs g w e ρ) {t : TypeId} {x : Operand} {x' : Od} {lo hi : Option Operand} {lo' hi' : Option Od} (ho : o.op = .slice t x lo hi none)
    (ht : P.underlying t = some .string) (hx : odOf x = some x') (hlo : odOpt lo = some lo') (hhi : odOpt hi = some hi')
    (hv : vop call g.h N e (.slc true 1 x' lo' hi' none) = some (.ok rc)) : OpOk P ρ o g O0 w0 w rc := by
  have h1 := od_ok E hx
  simp only [vop, v_mov, v_pick, v_new, v_box, v_build, v_buildS, v_load, v_store, v_nilc, v_bin, v_una, v_conv, v_mkI, v_mkF, v_mkM, v_mkS, v_slc, v_fad, v_fld, v_iad, v_idx, v_look, v_mset, v_rng, v_nxt, v_tas, v_ext, v_call, v_calld, v_len, v_app, v_copy, v_clearM, v_clearS, v_del, v_mx, v_pan] at hv
  split at hv
  · cases hv
  · rename_i l hl
    split at hv
    · rename_i s hq
      rw [hq] at h1
      have hu := h1.inv_str
      split at hv
      · rename_i h hh
        split at hv
        · rename_i hc
          simp [ok1] at hv
          subst hv
          have hb := bounds_ok (P := P) (w := w) E (mx := none) (mx' := none) (b := false) (len := s.length) (cap := s.length) (m := s.length) (d := s.length) hlo hhi rfl hl hh rfl (by simp) hc.1 hc.2.1 (Nat.le_refl _)
          refine OpOk.pure R [] ?_ (.str _ _)
          have hsz : (⟨s.toArray⟩ : ByteArray).size = s.length := by simp [ByteArray.size]
          simp at hb
          simp [execOp, ho, Instr.sliceAt, run_underlying ht, Instr.slice, hu, hsz, hb, ByteArray.extract_mk, List.take_drop]
          rw [Nat.add_sub_cancel' hc.1]
        · cases hv
      · cases hv
    · split at hv <;> simp at hv
    · split at hv <;> simp at hv
    · split at hv <;> simp at hv
    · cases hv

theorem op_slc (R : Rel g O0 w0 w) (E : Evs g w e ρ) {t el : TypeId} {n : Nat} {x : Operand} {x' : Od} {lo hi mx : Option Operand} {lo' hi' mx' : Option Od} (ho : o.op = .slice t x lo hi mx)
    (ht : P.underlying t = some (.slice el)) (hn : szOf P el = some n) (h0 : 0 < n) (hm : (mx'.isNone || hi'.isSome) = true) (hx : odOf x = some x') (hlo : odOpt lo = some lo') (hhi : odOpt hi = some hi') (hmx : odOpt mx = some mx')
    (hv : vop call g.h N e (.slc false n x' lo' hi' mx') = some (.ok rc)) : OpOk P ρ o g O0 w0 w rc := by
  have h1 := od_ok E hx
  simp only [vop, v_mov, v_pick, v_new, v_box, v_build, v_buildS, v_load, v_store, v_nilc, v_bin, v_una, v_conv, v_mkI, v_mkF, v_mkM, v_mkS, v_slc, v_fad, v_fld, v_iad, v_idx, v_look, v_mset, v_rng, v_nxt, v_tas, v_ext, v_call, v_calld, v_len, v_app, v_copy, v_clearM, v_clearS, v_del, v_mx, v_pan] at hv
  split at hv
  · cases hv
  · rename_i l hl
    split at hv
    · split at hv <;> simp at hv
    · rename_i hq
      rw [hq] at h1
      have hu := h1.inv_nils
      split at hv
      · rename_i h m hh hmm
        split at hv
        · rename_i hc
          obtain ⟨rfl, rfl, rfl, _⟩ := hc
          simp [ok1] at hv
          subst hv
          have hb := bounds_ok (P := P) (w := w) E (b := true) (len := 0) (cap := 0) hlo hhi hmx hl hh hmm hm (Nat.le_refl _) (Nat.le_refl _) (Nat.le_refl _)
          refine OpOk.pure R [] ?_ (.nils _)
          simp [execOp, ho, Instr.sliceAt, run_underlying ht, Instr.slice, hu, hb, szOf_run hn]
        · cases hv
      · cases hv
    · rename_i xs clip hq
      rw [hq] at h1
      obtain ⟨us, esz, a, c, hu, he, hl1, hcap, hclip, hone, hcell, hrel⟩ := h1.inv_is
      split at hv
      · rename_i h m hh hmm
        split at hv
        · rename_i hc
          obtain ⟨c1, c2, c3, _, c4⟩ := hc
          simp [ok1] at hv
          subst hv
          have hb := bounds_ok (P := P) (w := w) E (b := true) (len := xs.length) (cap := c) hlo hhi hmx hl hh hmm hm c1 c2 (by omega)
          have hfl := flatten_len he
          have hmc : ∀ q, m ≤ q → h ≤ q := fun q hq => by omega
          have hlen : ((xs.take h).drop l).length = h - l := by simp; omega
          have he' : ∀ x ∈ (xs.take h).drop l, x.length = esz := fun x hx => he x (List.mem_of_mem_take (List.mem_of_mem_drop hx))
          have hfl' := flatten_len he'
          have hen : l = 0 ∨ esz = n := by
            rcases c4 with h | h
            · exact .inl h
            · by_cases hl0 : l = 0
              · exact .inl hl0
              · cases xs with
                | nil => simp at c3; omega
                | cons y ys => right; rw [← h, ← he y (by simp)]; rfl
          have hfe : ((xs.take h).drop l).flatten = (xs.flatten.take (h * esz)).drop (l * esz) := by
            rw [flatten_drop (fun x hx => he x (List.mem_of_mem_take hx)), flatten_take he]
          refine OpOk.pure R [] (u := .slice (if (if mx'.isSome then m else c) = l then a else a.map (·.add (l * n))) (h - l) ((if mx'.isSome then m else c) - l)) ?_ ?_
          · simp [execOp, ho, Instr.sliceAt, run_underlying ht, Instr.slice, hu, hb, szOf_run hn]
          · have C : Cells g w false xs.flatten us := ⟨hl1, hone, hrel⟩
            have C' := (C.take (h * esz)).drop (l * esz)
            rw [← hlen]
            refine .is _ _ _ ((us.take (h * esz)).drop (l * esz)) esz _ _ he' (by rw [hfe]; exact C'.len) ?_ ?_ C'.one ?_ (by rw [hfe]; exact C'.rel)
            · rw [hlen]; split <;> omega
            · rw [hlen]
              intro hcl
              by_cases hs : mx'.isSome
              · simp [hs] at hcl ⊢; omega
              · simp [hs] at hcl ⊢
                have := hclip hcl.1
                omega
            · intro j u hj
              have hj' : j < ((us.take (h * esz)).drop (l * esz)).length := (List.getElem?_eq_some_iff.1 hj).1
              rw [List.getElem?_drop, List.getElem?_take] at hj
              split at hj
              · obtain ⟨ad, rfl, q1, q2⟩ := hcell _ u hj
                have hne : ¬ (if mx'.isSome then m else c) = l := by
                  intro e'
                  have : h = l := by split at e' <;> omega
                  subst this
                  simp at hj'
                refine ⟨ad.add (l * n), by simp [hne], ?_, ?_⟩
                · rw [add_block]; exact q1
                · rcases hen with rfl | rfl
                  · simp at q2 ⊢; exact add_add' ad 0 j (by simpa using q2)
                  · exact add_add' ad _ j q2
              · cases hj
        · cases hv
      · cases hv
    · rename_i k off len cap hq
      rw [hq] at h1
      obtain ⟨hD, c, hu, hcs, hcn, hlc⟩ := h1.inv_sl
      split at hv
      · rename_i h m hh hmm
        split at hv
        · rename_i hc
          obtain ⟨c1, c2, c3, _⟩ := hc
          have hb := bounds_ok (P := P) (w := w) E (b := true) (len := len) (cap := c) hlo hhi hmx hl hh hmm hm c1 c2 (by omega)
          simp only [ok1, Option.some.injEq, Res.ok.injEq] at hv
          subst hv
          have hrun : (execOp ρ o).run P w = .ok (.value (.slice (if (if mx'.isSome then m else c) = l then some ⟨g.B k, off, none⟩ else some ((⟨g.B k, off, none⟩ : Addr).add (l * n))) (h - l) ((if mx'.isSome then m else c) - l))) w := by
            simp [execOp, ho, Instr.sliceAt, run_underlying ht, Instr.slice, hu, hb, szOf_run hn]
          refine OpOk.pure R [] hrun ?_
          by_cases hl0 : l = 0
          · subst hl0
            simp only [if_true, Nat.sub_zero, Nat.zero_mul, Addr.add, ite_self]
            refine .sl k off h _ _ hD ?_ ?_ (by split <;> omega)
            · intro x hx
              by_cases hs : mx'.isSome
              · simp [hs] at hx ⊢; exact hx
              · simp [hs] at hx ⊢; exact hcs x hx
            · intro hx hof
              by_cases hs : mx'.isSome
              · simp [hs] at hx
              · simp [hs] at hx ⊢; exact hcn hx hof
          · rw [if_neg hl0]
            by_cases hhl : h = l
            · rw [if_pos hhl]
              subst hhl
              rw [Nat.sub_self]
              exact .is _ [] false [] 0 _ _ (fun x hx => by cases hx) rfl (Nat.zero_le _) (fun h => by cases h) (fun x hx => by cases hx) (fun j u hu => by simp at hu) (fun j c u hc => by simp at hc)
            · rw [if_neg hhl]
              have hne : ¬ (if mx'.isSome then m else c) = l := by split <;> omega
              rw [if_neg hne, Addr.add_lit]
              refine .sl k (off + l * n) (h - l) _ _ hD ?_ ?_ (by split <;> omega)
              · intro x hx
                by_cases hs : mx'.isSome
                · simp [hs] at hx ⊢; exact hx
                · simp [hs] at hx ⊢
                  obtain ⟨y, hy, rfl⟩ := hx
                  rw [hcs y hy]
              · intro _ hof
                have : 0 < l * n := Nat.mul_pos (by omega) h0
                omega
        · cases hv
      · cases hv
    · cases hv

end
end Go.Pv
namespace Go.Pv
variable [Sy]
section
variable {P : Program} {ρ : Operand → Value} {o : Oper} {g : G} {O0 : Nat → Prop} {w0 w : World} {e : Env} {N : Nat} {rc : Rec} {call : Callf}

theorem or_map (R : Rel g O0 w0 w) {k : Nat} {es : List (V × V)} (hk : g.h k = .map es) : ∃ (arr : Array MapEntry) (ck : Nat), w.heap[g.B k]? = some (.map arr ck) ∧ arr.size = es.length ∧
    ∀ (j : Nat) (e : V × V) (m : MapEntry), es[j]? = some e → arr[j]? = some m → VR g w true e.1 m.key ∧ VR g w true e.2 m.val := by
  have ho := R.obj k
  rwa [hk] at ho

theorem op_len (R : Rel g O0 w0 w) (E : Evs g w e ρ) {c : Call} {t : TypeId} {x : Operand} {x' : Od} {d : TypeDesc} {kd : Nat} (ho : o.op = .call c) (hc : c.callee = .builtin .len) (ha : c.args = #[x]) (hty : c.argTypes = #[t])
    (ht : P.underlying t = some d) (hd : (kd = 0 ∧ d = .string) ∨ (kd = 1 ∧ ∃ e, d = .slice e) ∨ (kd = 2 ∧ ∃ k e, d = .map k e)) (hx : odOf x = some x')
    (hv : vop call g.h N e (.len kd x') = some (.ok rc)) : OpOk P ρ o g O0 w0 w rc := by
  have h1 := od_ok E hx
  have hrun : (execOp ρ o).run P w = ((Builtin.len_ #[t] o.type #[ρ x]).run P w).andThen fun v w => .ok (.value v) w := by
    simp [execOp, ho, resolve, hc, ha, hty, invoke, builtin]
  simp only [vop, v_mov, v_pick, v_new, v_box, v_build, v_buildS, v_load, v_store, v_nilc, v_bin, v_una, v_conv, v_mkI, v_mkF, v_mkM, v_mkS, v_slc, v_fad, v_fld, v_iad, v_idx, v_look, v_mset, v_rng, v_nxt, v_tas, v_ext, v_call, v_calld, v_len, v_app, v_copy, v_clearM, v_clearS, v_del, v_mx, v_pan] at hv
  split at hv
  · rename_i s hq
    rw [hq] at h1
    simp [ok1] at hv
    subst hv
    obtain ⟨_, rfl⟩ | ⟨h, _⟩ | ⟨h, _⟩ := hd <;> first | cases h | skip
    refine OpOk.pure R [] (u := .int .i64 s.length) ?_ (.int _ _ _)
    rw [hrun]
    have hsz : (⟨s.toArray⟩ : ByteArray).size = s.length := by simp [ByteArray.size]
    simp [Builtin.len_, run_underlying ht, h1.inv_str, goInt, hsz]
  · rename_i hq
    rw [hq] at h1
    simp [ok1] at hv
    subst hv
    obtain ⟨h, _⟩ | ⟨_, el, rfl⟩ | ⟨h, _⟩ := hd <;> first | cases h | skip
    refine OpOk.pure R [] (u := .int .i64 0) ?_ (.int _ _ _)
    rw [hrun]
    simp [Builtin.len_, run_underlying ht, h1.inv_nils, goInt]
  · rename_i xs cl hq
    rw [hq] at h1
    simp [ok1] at hv
    subst hv
    obtain ⟨h, _⟩ | ⟨_, el, rfl⟩ | ⟨h, _⟩ := hd <;> first | cases h | skip
    refine OpOk.pure R [] (u := .int .i64 xs.length) ?_ (.int _ _ _)
    obtain ⟨us, esz, a, c, hu, _⟩ := h1.inv_is
    rw [hrun]
    simp [Builtin.len_, run_underlying ht, hu, goInt]
  · rename_i k off n cap hq
    rw [hq] at h1
    simp [ok1] at hv
    subst hv
    obtain ⟨h, _⟩ | ⟨_, el, rfl⟩ | ⟨h, _⟩ := hd <;> first | cases h | skip
    refine OpOk.pure R [] (u := .int .i64 n) ?_ (.int _ _ _)
    obtain ⟨_, c, hu, _⟩ := h1.inv_sl
    rw [hrun]
    simp [Builtin.len_, run_underlying ht, hu, goInt]
  · rename_i hq
    rw [hq] at h1
    simp [ok1] at hv
    subst hv
    obtain ⟨h, _⟩ | ⟨h, _⟩ | ⟨_, kt, el, rfl⟩ := hd <;> first | cases h | skip
    refine OpOk.pure R [] (u := .int .i64 0) ?_ (.int _ _ _)
    rw [hrun]
    simp [Builtin.len_, run_underlying ht, h1.inv_nilm, goInt]
  · rename_i es hq
    rw [hq] at h1
    simp [ok1] at hv
    subst hv
    obtain ⟨h, _⟩ | ⟨h, _⟩ | ⟨_, kt, el, rfl⟩ := hd <;> first | cases h | skip
    refine OpOk.pure R [] (u := .int .i64 es.length) ?_ (.int _ _ _)
    obtain ⟨q, arr, ck, hu, _, hw, hl, _⟩ := h1.inv_im
    rw [hrun]
    simp [Builtin.len_, run_underlying ht, hu, goInt, MapKept.run_getObj_map hw, hl]
  · rename_i q hq
    rw [hq] at h1
    obtain ⟨h, _⟩ | ⟨h, _⟩ | ⟨_, kt, el, rfl⟩ := hd <;> first | cases h | skip
    split at hv
    · rename_i es hk
      simp only [Option.some.injEq, Res.ok.injEq] at hv
      subst hv
      obtain ⟨hD, hu⟩ := h1.inv_mp
      obtain ⟨arr, ck, hw, hl, _⟩ := or_map R hk
      refine OpOk.pure R [q] (u := .int .i64 es.length) ?_ (.int _ _ _)
      rw [hrun]
      simp [Builtin.len_, run_underlying ht, hu, goInt, MapKept.run_getObj_map hw, hl]
    · cases hv
  · rename_i xs kk hq
    rw [hq] at h1
    simp [ok1] at hv
    subst hv
    obtain ⟨h, _⟩ | ⟨_, el, rfl⟩ | ⟨h, _⟩ := hd <;> first | cases h | skip
    obtain ⟨rest, h1, hkk⟩ := h1.inv_it
    obtain ⟨us, esz, a, c, hu, _⟩ := h1.inv_is
    refine OpOk.pure R [] (u := .int .i64 (Tm.ev (.sym kk))) ?_ (.tm _ _ _)
    have hev : Tm.ev (.sym kk) = ((xs ++ rest).length : Int) := hkk
    rw [hrun, hev]
    simp [Builtin.len_, run_underlying ht, hu, goInt]
  · rename_i kk id nn ix el hq
    rw [hq] at h1
    simp [ok1] at hv
    subst hv
    obtain ⟨h, _⟩ | ⟨_, el', rfl⟩ | ⟨h, _⟩ := hd <;> first | cases h | skip
    obtain ⟨h1, hkk, _⟩ := h1.inv_iv
    generalize Sy.lists id = zs at h1 hkk
    obtain ⟨us, esz, a, c, hu, _⟩ := h1.inv_is
    refine OpOk.pure R [] (u := .int .i64 (Tm.ev (.sym nn))) ?_ (.tm _ _ _)
    have hev : Tm.ev (.sym nn) = (zs.length : Int) := hkk
    rw [hrun, hev]
    simp [Builtin.len_, run_underlying ht, hu, goInt]
  · cases hv

theorem op_mkS (R : Rel g O0 w0 w) (E : Evs g w e ρ) {t el : TypeId} {l c : Operand} {l' c' : Od} {i : TypeInfo} {zs : List V} (ho : o.op = .makeSlice t l c)
    (ht : P.underlying t = some (.slice el)) (hi : P.info? el = some i) (hz : zeroOf P el = some zs) (hzl : zs.length = i.size) (h0 : 0 < i.size) (hl : odOf l = some l') (hc : odOf c = some c') (hN : N ∈ rc.upd.map (·.1) → ¬ g.D N)
    (hv : vop call g.h N e (.mkS zs i.size i.bytes l' c') = some (.ok rc)) : OpOk P ρ o g O0 w0 w rc := by
  have h1 := od_ok E hl
  have h2 := od_ok E hc
  simp only [vop, v_mov, v_pick, v_new, v_box, v_build, v_buildS, v_load, v_store, v_nilc, v_bin, v_una, v_conv, v_mkI, v_mkF, v_mkM, v_mkS, v_slc, v_fad, v_fld, v_iad, v_idx, v_look, v_mset, v_rng, v_nxt, v_tas, v_ext, v_call, v_calld, v_len, v_app, v_copy, v_clearM, v_clearS, v_del, v_mx, v_pan] at hv
  split at hv
  · rename_i ln cn hln hcn
    split at hv
    · rename_i hcond
      obtain ⟨rfl, hb, hm⟩ := hcond
      simp only [Option.some.injEq, Res.ok.injEq] at hv
      subst hv
      unfold natOf at hln hcn
      split at hln
      · rename_i kl nl hql
        split at hln
        · rename_i hl0
          split at hcn
          · rename_i kc nc hqc
            split at hcn
            · rename_i hc0
              simp at hln hcn
              rw [hql] at h1
              rw [hqc] at h2
              have h1 := h1.inv_int
              have h2 := h2.inv_int
              obtain ⟨zv, hzi, hzr, hzc⟩ := zeroOf_run hz w
              have hzi' : i.zero = some zv := by rw [hi] at hzi; exact hzi
              have hnn : nl = nc := by omega
              subst hnn
              have hmb : maxBytes = 2 ^ 46 := rfl
              have hmul : (i.bytes : Int) * nl ≤ 281474976710656 := by
                have e1 : nl = (ln : Int) := by omega
                rw [e1, Int.mul_comm]
                have : ((ln * i.bytes : Nat) : Int) ≤ 281474976710656 := by
                  have : maxBytes ≤ 281474976710656 := by decide
                  omega
                simpa using this
              have hle : maxBytes ≤ 9223372036854775807 := by decide
              have hrun := run_make (P := P) w t el i zv ht hi hzi' kl kc nl nl hl0 (Int.le_refl _) hmul (by omega)
              rw [hln] at hrun
              have hZ := zeros_cells (hzc g w true) (by omega) ln
              have hl3 := hZ.len
              have hmc : madeCells zv.cells (ln * i.size) = (Array.range (ln * zs.length)).map (zv.cells[· % zv.cells.size]!) := by rw [hzl]; rfl
              rw [hmc] at hrun
              have hlen : (List.replicate ln zs).flatten.length = ln * i.size := by rw [rep_flatten, hzl]
              obtain ⟨q1, q2, q3⟩ := new_cells R (c := ln) (arr := (Array.range (ln * zs.length)).map (zv.cells[· % zv.cells.size]!)) (cs := (List.replicate ln zs).flatten) (esz := i.size) (hN (by simp)) (alloc_heap w (.cells ((Array.range (ln * zs.length)).map (zv.cells[· % zv.cells.size]!)) el)) rfl rfl rfl (by rw [hlen, ← hzl]; simp) (by simp [hzl]) (by rw [List.take_of_length_le (by omega)]; exact hZ)
              refine ⟨_, _, _, .slice (some ⟨w.heap.size, 0, none⟩) ln ln, ?_, .inl rfl, q3, q1, q2, ?_⟩
              · simp [execOp, ho, h1, h2, hrun]
              · have := VR.sl (g := g.new N w.heap.size ln (.cells (List.replicate ln zs).flatten i.size)) (w := w.alloc (.cells ((Array.range (ln * zs.length)).map (zv.cells[· % zv.cells.size]!)) el)) N 0 ln (some ln) ln (.inr rfl) (fun x hx => by cases hx; rfl) (fun hx => by cases hx) (Nat.le_refl _)
                simpa [G.new] using this
            · cases hcn
          · cases hcn
        · cases hln
      · cases hln
    · cases hv
  · cases hv

theorem keyOk_is {ks : Bool} {v : V} {u : Value} {d : TypeDesc} (h : keyOk ks v = true) (hv : VR g w true v u) (hd : if ks then d = .string else ∃ k, d = .int k) : (ks = true ∧ d = .string ∧ ∃ s, conc0 v = .str s ∧ u = .string ⟨s.toArray⟩) ∨ (ks = false ∧ (∃ k, d = .int k) ∧ ∃ k n, conc0 v = .int k n ∧ u = .int k n) := by
  unfold keyOk at h
  split at h
  · right
    simp at hd
    exact ⟨rfl, hd, _, _, rfl, hv.inv_int⟩
  · left
    simp at hd
    exact ⟨rfl, hd, _, rfl, hv.inv_str⟩
  · left
    simp at hd
    exact ⟨rfl, hd, _, rfl, hv.inv_ct⟩
  · cases h

theorem run_keys {kt : TypeId} {d : TypeDesc} {u : Value} (ht : P.underlying kt = some d) (hd : (d = .string ∧ ∃ s, u = .string s) ∨ (∃ k, d = .int k) ∧ ∃ k n, u = .int k n) (b : Bool) (m : Nat) :
    (Instr.checkKey b (m + 1) kt u).run P w = .ok () w := by
  unfold Instr.checkKey
  rcases hd with ⟨rfl, s, rfl⟩ | ⟨⟨k, rfl⟩, k', n, rfl⟩ <;> simp [run_underlying ht]

theorem str_eq (s t : List UInt8) : ((⟨s.toArray⟩ : ByteArray) == ⟨t.toArray⟩) = decide (s = t) := by
  by_cases h : s = t
  · subst h; simp [(MapKept.bytes_beq _ _).2 rfl]
  · simp only [h, decide_false]
    rw [Bool.eq_false_iff]
    intro hh
    have := (MapKept.bytes_beq _ _).1 hh
    simp at this
    exact h this

theorem find_ok0 {d : TypeDesc} {ks : Bool} {r : Bool} {kv : V} {ku : Value} (hk : keyOk ks kv = true) (hc : conc0 kv = kv) (hv : VR g w true kv ku) (hd : if ks then d = .string else ∃ k, d = .int k) : ∀ (es : List (V × V)) (ms : List MapEntry) (i : Nat), ms.length = es.length →
    (∀ (j : Nat) (e : V × V) (m : MapEntry), es[j]? = some e → ms[j]? = some m → VR g w r e.1 m.key ∧ VR g w r e.2 m.val) → ∀ res, findM kv es i = some res →
    (res = none ∧ Instr.findNow d ku ms i = some none) ∨ ∃ j k' v m, res = some (i + j, v) ∧ es[j]? = some (k', v) ∧ ms[j]? = some m ∧ m.key = ku ∧ Instr.findNow d ku ms i = some (some (i + j, m.val))
  | [], ms, i, hl, _, res, h => by
    simp at hl
    subst hl
    simp [findM] at h
    subst h
    exact .inl ⟨rfl, rfl⟩
  | (a, b) :: es, [], i, hl, _, res, h => by simp at hl
  | (a, b) :: es, m :: ms, i, hl, hr, res, h => by
    obtain ⟨ha, hb⟩ := hr 0 (a, b) m rfl rfl
    have ih := find_ok0 (r := r) hk hc hv hd es ms (i + 1) (by simpa using hl) (fun j e m he hm => hr (j + 1) e m (by simpa using he) (by simpa using hm)) res
    have hgo : Instr.sameNow d ku m.key = some false → findM kv es (i + 1) = some res → (res = none ∧ Instr.findNow d ku (m :: ms) i = some none) ∨ ∃ j k' v m', res = some (i + j, v) ∧ ((a, b) :: es)[j]? = some (k', v) ∧ (m :: ms)[j]? = some m' ∧ m'.key = ku ∧ Instr.findNow d ku (m :: ms) i = some (some (i + j, m'.val)) := by
      intro hs hf
      rcases ih hf with ⟨h1, h2⟩ | ⟨j, k', v, m', h1, h2, h3, h4, h5⟩
      · exact .inl ⟨h1, by simp [Instr.findNow, hs, h2]⟩
      · exact .inr ⟨j + 1, k', v, m', by rw [h1]; congr 2; omega, by simpa using h2, by simpa using h3, h4, by simp [Instr.findNow, hs, h5]; omega⟩
    have hki := keyOk_is hk hv hd
    rw [hc] at hki
    rcases hki with ⟨_, rfl, s, rfl, rfl⟩ | ⟨_, ⟨kd, rfl⟩, k, n, rfl, rfl⟩
    · simp only [findM] at h
      split at h
      · rename_i q; exact nomatch q
      · rename_i s' t q
        cases q
        have hm := ha.inv_str
        split at h
        · rename_i hst
          subst hst
          simp at h
          subst h
          exact .inr ⟨0, _, b, m, rfl, rfl, rfl, hm, by simp [Instr.findNow, Instr.sameNow, hm, str_eq]⟩
        · rename_i hst
          exact hgo (by simp [Instr.sameNow, hm, str_eq, hst]) h
      · cases h
    · simp only [findM] at h
      split at h
      · rename_i k1 n1 k2 n2 q
        injection q with q1 q2
        subst q1
        subst q2
        have hm := ha.inv_int
        split at h
        · rename_i hkk
          subst hkk
          split at h
          · rename_i hst
            subst hst
            simp at h
            subst h
            exact .inr ⟨0, _, b, m, rfl, rfl, rfl, hm, by simp [Instr.findNow, Instr.sameNow, hm]⟩
          · rename_i hst
            exact hgo (by simp [Instr.sameNow, hm, hst]) h
        · cases h
      · rename_i q; exact nomatch q
      · cases h

theorem conc0_idem (v : V) : conc0 (conc0 v) = conc0 v := by cases v <;> rfl
theorem keyOk_conc {ks : Bool} {v : V} (h : keyOk ks v = true) : keyOk ks (conc0 v) = true := by
  unfold keyOk at h
  split at h
  · rfl
  · rfl
  · rfl
  · cases h
def concE (es : List (V × V)) : List (V × V) := es.map fun e => (conc0 e.1, e.2)
theorem findM_conc {k : V} : ∀ {es : List (V × V)} {i : Nat} {res : Option (Nat × V)}, findM k es i = some res → findM (conc0 k) (concE es) i = some res
  | [], i, res, h => by simpa [findM, concE] using h
  | (a, b) :: es, i, res, h => by
    simp only [findM] at h
    split at h
    · simp only [concE, List.map_cons, conc0, findM] at h ⊢
      split at h
      · rename_i e; rw [if_pos e]
        split at h
        · rename_i e; rw [if_pos e]; exact h
        · rename_i e; rw [if_neg e]; exact findM_conc (k := .int _ _) h
      · cases h
    · simp only [concE, List.map_cons, conc0, findM] at h ⊢
      split at h
      · rename_i e; rw [if_pos e]; exact h
      · rename_i e; rw [if_neg e]; exact findM_conc (k := .str _) h
    · cases h
theorem findX_conc {k : V} : ∀ {es : List (V × V)} {i : Nat} {res : Option (Nat × V)}, findX k es i = some res → findM (conc0 k) (concE es) i = some res
  | [], i, res, h => by simpa [findX, findM, concE] using h
  | (a, b) :: es, i, res, h => by
    simp only [findX] at h
    split at h
    · rename_i x y hp
      obtain ⟨h1, h2, _⟩ := chPair_ok hp
      simp only [concE, List.map_cons, h1, h2, findM]
      split at h
      · rename_i hs
        have := chSame_ok hs
        simp only [beq_iff_eq] at this
        rw [if_pos this]; exact h
      · rename_i hs
        have := chSame_ok hs
        simp only [beq_eq_false_iff_ne, ne_eq] at this
        rw [if_neg this]
        have := findX_conc h
        rw [h1] at this
        exact this
      · cases h
    · split at h
      · simp only [concE, List.map_cons, conc0, findM]
        split at h
        · rename_i e; rw [if_pos e]; exact h
        · rename_i e; rw [if_neg e]; exact findX_conc (k := .str _) h
      · cases h
theorem find_ok {d : TypeDesc} {ks : Bool} {r : Bool} {kv : V} {ku : Value} (hk : keyOk ks kv = true) (hv : VR g w true kv ku) (hd : if ks then d = .string else ∃ k, d = .int k) (es : List (V × V)) (ms : List MapEntry) (i : Nat) (hl : ms.length = es.length)
    (hr : ∀ (j : Nat) (e : V × V) (m : MapEntry), es[j]? = some e → ms[j]? = some m → VR g w r e.1 m.key ∧ VR g w r e.2 m.val) (res : Option (Nat × V)) (h : findY kv es i = some res) :
    (res = none ∧ Instr.findNow d ku ms i = some none) ∨ ∃ j k' v m, res = some (i + j, v) ∧ es[j]? = some (k', v) ∧ ms[j]? = some m ∧ m.key = ku ∧ Instr.findNow d ku ms i = some (some (i + j, m.val)) := by
  have h' : findM (conc0 kv) (concE es) i = some res := by
    unfold findY at h
    split at h
    · rename_i q; cases h; exact findM_conc q
    · exact findX_conc h
  rcases find_ok0 (r := r) (keyOk_conc hk) (conc0_idem kv) hv.conc0 hd (concE es) ms i (by simpa [concE] using hl) (fun j e m he hm => by
    simp only [concE, List.getElem?_map, Option.map_eq_some_iff] at he
    obtain ⟨e', he', rfl⟩ := he
    obtain ⟨q1, q2⟩ := hr j e' m he' hm
    exact ⟨q1.conc0, q2⟩) res h' with h1 | ⟨j, k', v, m, h1, h2, h3, h4, h5⟩
  · exact .inl h1
  · simp only [concE, List.getElem?_map, Option.map_eq_some_iff, Prod.mk.injEq] at h2
    obtain ⟨e', he', _, rfl⟩ := h2
    exact .inr ⟨j, e'.1, e'.2, m, h1, he', h3, h4, h5⟩
end
end Go.Pv
namespace Go.Pv
variable [Sy]
section
variable {P : Program} {ρ : Operand → Value} {o : Oper} {g : G} {O0 : Nat → Prop} {w0 w : World} {e : Env} {N : Nat} {rc : Rec} {call : Callf}

theorem tup2 {r : Bool} {a b : V} {x y : Value} (h1 : VR g w r a x) (h2 : VR g w r b y) : VR g w r (.tup [a, b]) (.tuple #[x, y]) := .tup _ _ _ rfl fun j v u hx hu => by
  match j with
  | 0 => simp at hx hu; subst hx; subst hu; exact h1
  | 1 => simp at hx hu; subst hx; subst hu; exact h2
  | j + 2 => simp at hx

theorem keys_of {ks : Bool} {kt : TypeId} {d : TypeDesc} {v : V} {u : Value} (ht : P.underlying kt = some d) (h : keyOk ks v = true) (hv : VR g w true v u) (hd : if ks then d = .string else ∃ k, d = .int k) (b : Bool) (m : Nat) :
    (Instr.checkKey b (m + 1) kt u).run P w = .ok () w := by
  rcases keyOk_is h hv hd with ⟨_, h1, s, _, h2⟩ | ⟨_, h1, k, n, _, h2⟩
  · exact run_keys ht (.inl ⟨h1, _, h2⟩) b m
  · exact run_keys ht (.inr ⟨h1, k, n, h2⟩) b m
theorem keys_of' {ks : Bool} {kt : TypeId} {d : TypeDesc} {v : V} {u : Value} (ht : P.underlying kt = some d) (h : keyOk ks v = true) (hv : VR g w true v u) (hd : if ks then d = .string else ∃ k, d = .int k) (b : Bool) (m : Nat) (hm : 0 < m) :
    (Instr.checkKey b m kt u).run P w = .ok () w := by
  match m, hm with
  | m + 1, _ => exact keys_of ht h hv hd b m

theorem op_look (R : Rel g O0 w0 w) (E : Evs g w e ρ) {t kt el : TypeId} {m k : Operand} {m' k' : Od} {ks ok : Bool} {z : V} {d : TypeDesc} (ho : o.op = .lookup t m k ok)
    (ht : P.underlying t = some (.map kt el)) (hkt : P.underlying kt = some d) (hd : if ks then d = .string else ∃ k, d = .int k) (hz : zero1 P el = some z) (hm : odOf m = some m') (hk : odOf k = some k')
    (hv : vop call g.h N e (.look ks z ok m' k') = some (.ok rc)) : OpOk P ρ o g O0 w0 w rc := by
  have h1 := od_ok E hm
  have h2 := od_ok E hk
  obtain ⟨zv, hzr, hzv⟩ := zero1_run hz w
  simp only [vop, v_mov, v_pick, v_new, v_box, v_build, v_buildS, v_load, v_store, v_nilc, v_bin, v_una, v_conv, v_mkI, v_mkF, v_mkM, v_mkS, v_slc, v_fad, v_fld, v_iad, v_idx, v_look, v_mset, v_rng, v_nxt, v_tas, v_ext, v_call, v_calld, v_len, v_app, v_copy, v_clearM, v_clearS, v_del, v_mx, v_pan] at hv
  split at hv
  · rename_i hko
    have hck := fun b => keys_of' (P := P) hkt hko h2 hd b 10000 (by decide)
    -- what comes of the entries
    have key : ∀ (arr : Array MapEntry) (es : List (V × V)) (r : Bool) (rd : List Nat), (ρ m = .map none ∧ arr = #[] ∨ ∃ q ck, ρ m = .map (some q) ∧ w.heap[q]? = some (.map arr ck)) → arr.size = es.length →
        (∀ (j : Nat) (e : V × V) (m : MapEntry), es[j]? = some e → arr[j]? = some m → VR g w r e.1 m.key ∧ VR g w r e.2 m.val) →
        (match findY (k'.ev e) es 0 with
          | some (some (_, v)) => some (Res.ok ⟨if ok then .tup [v, .bool true] else v, [], rd⟩)
          | some none => some (Res.ok ⟨if ok then .tup [z, .bool false] else z, [], rd⟩)
          | none => none) = some (.ok rc) → OpOk P ρ o g O0 w0 w rc := by
      intro arr es r rd hcase hl hr hres
      have hfin : ∀ res, (Instr.findKey kt (ρ k) arr.toList).run P w = .ok res w → (Instr.lookup t (ρ m) (ρ k) ok).run P w = (match res with
          | some (_, v) => .ok (if ok then .tuple #[v, .bool true] else v) w
          | none => .ok (if ok then .tuple #[zv, .bool false] else zv) w) := by
        intro res hres
        rcases hcase with ⟨hml, rfl⟩ | ⟨q, ck, hml, hw⟩
        · cases res <;> simp [Instr.lookup, run_underlying ht, hml, hck, hres, hzr]
        · cases res <;> simp [Instr.lookup, run_underlying ht, hml, hck, hres, hzr, MapKept.run_getObj_map hw]
      generalize hf : findY (k'.ev e) es 0 = res at hres
      cases res with
      | none => cases hres
      | some res =>
        rcases find_ok (r := r) hko h2 hd es arr.toList 0 (by simpa using hl) (fun j e m he hm => hr j e m he (by simpa using hm)) res hf with ⟨rfl, hn⟩ | ⟨j, k1, v, mm, rfl, hes, hms, _, hn⟩
        · simp only [Option.some.injEq, Res.ok.injEq] at hres
          subst hres
          have hfk := hfin _ (MapKept.run_findKey (w := w) hkt hn)
          refine OpOk.pure R rd (u := if ok then .tuple #[zv, .bool false] else zv) ?_ ?_
          · simp only [execOp, ho, Sem.run_bind, hfk, Result.andThen_ok, Sem.run_pure]
          · cases ok
            · exact hzv g true
            · exact tup2 (hzv g true) (.bool _ _)
        · simp only [Option.some.injEq, Res.ok.injEq] at hres
          subst hres
          have hfk := hfin _ (MapKept.run_findKey (w := w) hkt hn)
          have hvr := ((hr j (k1, v) mm hes (by simpa using hms)).2).up
          refine OpOk.pure R rd (u := if ok then .tuple #[mm.val, .bool true] else mm.val) ?_ ?_
          · simp only [execOp, ho, Sem.run_bind, hfk, Result.andThen_ok, Sem.run_pure]
          · cases ok
            · exact hvr
            · exact tup2 hvr (.bool _ _)
    split at hv
    · rename_i hq
      rw [hq] at h1
      exact key #[] [] true [] (.inl ⟨h1.inv_nilm, rfl⟩) rfl (fun j e m he => by simp at he) hv
    · rename_i es hq
      rw [hq] at h1
      obtain ⟨q, arr, ck, hu, _, hw, hl, hk1, hk2⟩ := h1.inv_im
      exact key arr es false [] (.inr ⟨q, ck, hu, hw⟩) hl (fun j e m he hm => ⟨hk1 j e m he hm, hk2 j e m he hm⟩) hv
    · rename_i q hq
      rw [hq] at h1
      split at hv
      · rename_i es hk
        obtain ⟨hD, hu⟩ := h1.inv_mp
        obtain ⟨arr, ck, hw, hl, hr⟩ := or_map R hk
        exact key arr es true [q] (.inr ⟨_, ck, hu, hw⟩) hl hr hv
      · cases hv
    · cases hv
  · cases hv
end
end Go.Pv
namespace Go.Pv
variable [Sy]
section
variable {P : Program} {ρ : Operand → Value} {o : Oper} {g : G} {O0 : Nat → Prop} {w0 w : World} {e : Env} {N : Nat} {rc : Rec} {call : Callf}

theorem set_block (R : Rel g O0 w0 w) {k : Nat} {vo : VO} {ob ob' : Obj} (hk : (g.h k).alive) (hw : w.heap[g.B k]? = some ob)
    (hob : Step g w (g.set k vo) { w with heap := w.heap.setIfInBounds (g.B k) ob' } → (({ w with heap := w.heap.setIfInBounds (g.B k) ob' } : World).heap[g.B k]? = some ob') → OR (g.set k vo) { w with heap := w.heap.setIfInBounds (g.B k) ob' } k vo) :
    Rel (g.set k vo) O0 w0 { w with heap := w.heap.setIfInBounds (g.B k) ob' } ∧ Step g w (g.set k vo) { w with heap := w.heap.setIfInBounds (g.B k) ob' } ∧ Eff g [(k, vo)] (g.set k vo) :=
  set_ok R hk (by simp) (fun b hb => (MapKept.heap_set hw).2 b hb) rfl rfl rfl fun S => hob S (MapKept.heap_set hw).1

theorem set_map (R : Rel g O0 w0 w) {k : Nat} {es : List (V × V)} {arr : Array MapEntry} {ck : Nat} {ob : Obj} (hk : (g.h k).alive) (hw : w.heap[g.B k]? = some ob) (hl : arr.size = es.length)
    (hr : ∀ (j : Nat) (e : V × V) (m : MapEntry), es[j]? = some e → arr[j]? = some m → VR g w true e.1 m.key ∧ VR g w true e.2 m.val) :
    Rel (g.set k (.map es)) O0 w0 { w with heap := w.heap.setIfInBounds (g.B k) (.map arr ck) } ∧ Step g w (g.set k (.map es)) { w with heap := w.heap.setIfInBounds (g.B k) (.map arr ck) } ∧ Eff g [(k, .map es)] (g.set k (.map es)) :=
  set_block R hk hw fun S h => ⟨arr, ck, h, hl, fun j e m he hm => ⟨((hr j e m he hm).1).move S (G.set_move g k _), ((hr j e m he hm).2).move S (G.set_move g k _)⟩⟩

theorem sameBits_ok {ks : Bool} {v : V} {u : Value} {d : TypeDesc} (h : keyOk ks v = true) (hv : VR g w true v u) (hd : if ks then d = .string else ∃ k, d = .int k) (n : Nat) : Instr.sameBits n u u = true := by
  rcases keyOk_is h hv hd with ⟨_, _, s, _, rfl⟩ | ⟨_, _, k, n', _, rfl⟩
  · cases n <;> simp [Instr.sameBits, (MapKept.bytes_beq _ _).2 rfl]
  · cases n <;> simp [Instr.sameBits]

theorem op_mset (R : Rel g O0 w0 w) (E : Evs g w e ρ) {t kt el : TypeId} {m k x : Operand} {m' k' x' : Od} {ks : Bool} {d : TypeDesc} (ho : o.op = .mapUpdate t m k x)
    (ht : P.underlying t = some (.map kt el)) (hkt : P.underlying kt = some d) (hd : if ks then d = .string else ∃ k, d = .int k) (hm : odOf m = some m') (hk : odOf k = some k') (hx : odOf x = some x')
    (hv : vop call g.h N e (.mset ks m' k' x') = some (.ok rc)) : OpOk P ρ o g O0 w0 w rc := by
  have h1 := od_ok E hm
  have h2 := od_ok E hk
  have h3 := od_ok E hx
  simp only [vop, v_mov, v_pick, v_new, v_box, v_build, v_buildS, v_load, v_store, v_nilc, v_bin, v_una, v_conv, v_mkI, v_mkF, v_mkM, v_mkS, v_slc, v_fad, v_fld, v_iad, v_idx, v_look, v_mset, v_rng, v_nxt, v_tas, v_ext, v_call, v_calld, v_len, v_app, v_copy, v_clearM, v_clearS, v_del, v_mx, v_pan] at hv
  split at hv
  · rename_i hko
    have hck := fun b => keys_of' (P := P) hkt hko h2 hd b 10000 (by decide)
    split at hv
    · rename_i q hq
      rw [hq] at h1
      obtain ⟨hD, hu⟩ := h1.inv_mp
      split at hv
      · rename_i es hes
        obtain ⟨arr, ck, hw, hl, hr⟩ := or_map R hes
        have hal : (g.h q).alive := by rw [hes]; trivial
        split at hv
        · rename_i i vv hf
          simp only [Option.some.injEq, Res.ok.injEq] at hv
          subst hv
          rcases find_ok (r := true) hko h2 hd es arr.toList 0 (by simpa using hl) (fun j e m he hm => hr j e m he (by simpa using hm)) _ hf with ⟨hn, _⟩ | ⟨j, k1, v, mm, hj, hes', hms, hke, hn⟩
          · cases hn
          · simp only [Option.some.injEq, Prod.mk.injEq, Nat.zero_add] at hj
            obtain ⟨rfl, rfl⟩ := hj
            have hfk := MapKept.run_findKey (w := w) hkt hn
            have hmm : arr[i]? = some mm := by simpa using hms
            have hi : i < arr.size := (Array.getElem?_eq_some_iff.1 hmm).1
            have hlast : Instr.sameBits 10000 mm.key (ρ k) = true := by rw [hke]; exact sameBits_ok hko h2 hd _
            obtain ⟨q1, q2, q3⟩ := set_map R (es := es.set i (k'.ev e, x'.ev e)) (arr := arr.modify i fun e => { e with key := ρ k, val := ρ x }) (ck := ck) hal hw (by simp [hl]) (by
              intro j e' m' he hm
              rw [List.getElem?_set] at he
              rw [Array.getElem?_modify] at hm
              split at he
              · rename_i hij
                subst hij
                rw [if_pos rfl, hmm] at hm
                split at he
                · simp at he hm
                  subst he
                  subst hm
                  exact ⟨h2, h3⟩
                · cases he
              · rename_i hij
                rw [if_neg hij] at hm
                exact hr j e' m' he hm)
            refine ⟨.skip, _, _, undef, ?_, .inr ⟨rfl, rfl⟩, q3, q1, q2, .un _⟩
            simp at hfk
            simp [execOp, ho, Instr.mapUpdate, run_underlying ht, hu, MapKept.run_getObj_map hw, hck, hfk, hmm, Instr.keyThatStays, hlast, MapKept.run_setObj_map _ hw]
        · rename_i hf
          simp only [Option.some.injEq, Res.ok.injEq] at hv
          subst hv
          rcases find_ok (r := true) hko h2 hd es arr.toList 0 (by simpa using hl) (fun j e m he hm => hr j e m he (by simpa using hm)) _ hf with ⟨_, hn⟩ | ⟨j, k1, v, mm, hj, _⟩
          · have hfk := MapKept.run_findKey (w := w) hkt hn
            obtain ⟨q1, q2, q3⟩ := set_map R (es := es ++ [(k'.ev e, x'.ev e)]) (arr := arr.push { key := ρ k, val := ρ x, born := ck }) (ck := ck + 1) hal hw (by simp [hl]) (by
              intro j e' m' he hm
              rw [List.getElem?_append] at he
              rw [Array.getElem?_push] at hm
              split at he
              · rename_i hij
                rw [if_neg (by omega)] at hm
                exact hr j e' m' he hm
              · rename_i hij
                have hje : j = es.length := by
                  have := (List.getElem?_eq_some_iff.1 he).1
                  simp at this
                  omega
                subst hje
                rw [if_pos hl.symm] at hm
                simp at he hm
                subst he
                subst hm
                exact ⟨h2, h3⟩)
            refine ⟨.skip, _, _, undef, ?_, .inr ⟨rfl, rfl⟩, q3, q1, q2, .un _⟩
            simp [execOp, ho, Instr.mapUpdate, run_underlying ht, hu, MapKept.run_getObj_map hw, hck, hfk, MapKept.run_setObj_map _ hw]
          · cases hj
        · cases hv
      · cases hv
    · cases hv
  · cases hv

theorem op_del (R : Rel g O0 w0 w) (E : Evs g w e ρ) {c : Call} {t kt el : TypeId} {m k : Operand} {m' k' : Od} {ks : Bool} {d : TypeDesc} (ho : o.op = .call c) (hc : c.callee = .builtin .delete) (ha : c.args = #[m, k]) (hty : c.argTypes[0]? = some t)
    (ht : P.underlying t = some (.map kt el)) (hkt : P.underlying kt = some d) (hd : if ks then d = .string else ∃ k, d = .int k) (hm : odOf m = some m') (hk : odOf k = some k')
    (hv : vop call g.h N e (.del ks m' k') = some (.ok rc)) : OpOk P ρ o g O0 w0 w rc := by
  have h1 := od_ok E hm
  have h2 := od_ok E hk
  have hrun : (execOp ρ o).run P w = ((Builtin.delete_ c.argTypes o.type #[ρ m, ρ k]).run P w).andThen fun v w => .ok (.value v) w := by
    simp [execOp, ho, resolve, hc, ha, invoke, builtin]
  simp only [vop, v_mov, v_pick, v_new, v_box, v_build, v_buildS, v_load, v_store, v_nilc, v_bin, v_una, v_conv, v_mkI, v_mkF, v_mkM, v_mkS, v_slc, v_fad, v_fld, v_iad, v_idx, v_look, v_mset, v_rng, v_nxt, v_tas, v_ext, v_call, v_calld, v_len, v_app, v_copy, v_clearM, v_clearS, v_del, v_mx, v_pan] at hv
  split at hv
  · rename_i hko
    have hck := fun b => keys_of' (P := P) hkt hko h2 hd b 10000 (by decide)
    have htup : ∀ (g : G) (w : World), VR g w true (.tup []) (.tuple #[]) := fun g w => .tup _ _ _ rfl fun j x u h => by simp at h
    split at hv
    · rename_i q hq
      rw [hq] at h1
      obtain ⟨hD, hu⟩ := h1.inv_mp
      split at hv
      · rename_i es hes
        obtain ⟨arr, ck, hw, hl, hr⟩ := or_map R hes
        have hal : (g.h q).alive := by rw [hes]; trivial
        split at hv
        · rename_i i vv hf
          simp only [Option.some.injEq, Res.ok.injEq] at hv
          subst hv
          rcases find_ok (r := true) hko h2 hd es arr.toList 0 (by simpa using hl) (fun j e m he hm => hr j e m he (by simpa using hm)) _ hf with ⟨hn, _⟩ | ⟨j, k1, v, mm, hj, hes', hms, hke, hn⟩
          · cases hn
          · simp only [Option.some.injEq, Prod.mk.injEq, Nat.zero_add] at hj
            obtain ⟨rfl, rfl⟩ := hj
            have hfk := MapKept.run_findKey (w := w) hkt hn
            have hmm : arr[i]? = some mm := by simpa using hms
            have hi : i < arr.size := (Array.getElem?_eq_some_iff.1 hmm).1
            have hi' : i < es.length := by omega
            obtain ⟨q1, q2, q3⟩ := set_map R (es := es.eraseIdx i) (arr := arr.eraseIdxIfInBounds i) (ck := ck) hal hw (by simp [Array.eraseIdxIfInBounds, hi, List.length_eraseIdx, hl, hi']) (by
              intro j e' m' he hm
              have hm' : (arr.toList.eraseIdx i)[j]? = some m' := by
                rw [← Array.getElem?_toList] at hm
                simpa [Array.eraseIdxIfInBounds, hi] using hm
              rw [List.getElem?_eraseIdx] at he hm'
              split at he
              · rename_i hji
                rw [if_pos hji] at hm'
                exact hr j e' m' he (by simpa using hm')
              · rename_i hji
                rw [if_neg hji] at hm'
                exact hr (j + 1) e' m' he (by simpa using hm'))
            refine ⟨.value (.tuple #[]), _, _, .tuple #[], ?_, .inl rfl, q3, q1, q2, htup _ _⟩
            simp at hfk
            rw [hrun]
            simp [Builtin.delete_, hty, run_underlying ht, hu, MapKept.run_getObj_map hw, hck, hfk, MapKept.run_setObj_map _ hw]
        · rename_i hf
          simp only [Option.some.injEq, Res.ok.injEq] at hv
          subst hv
          rcases find_ok (r := true) hko h2 hd es arr.toList 0 (by simpa using hl) (fun j e m he hm => hr j e m he (by simpa using hm)) _ hf with ⟨_, hn⟩ | ⟨j, k1, v, mm, hj, _⟩
          · have hfk := MapKept.run_findKey (w := w) hkt hn
            obtain ⟨q1, q2, q3⟩ := set_map R (es := es) (arr := arr) (ck := ck) hal hw hl hr
            refine ⟨.value (.tuple #[]), _, _, .tuple #[], ?_, .inl rfl, q3, q1, q2, htup _ _⟩
            rw [hrun]
            simp [Builtin.delete_, hty, run_underlying ht, hu, MapKept.run_getObj_map hw, hck, hfk, MapKept.run_setObj_map _ hw]
          · cases hj
        · cases hv
      · cases hv
    · cases hv
  · cases hv

theorem op_clearM (R : Rel g O0 w0 w) (E : Evs g w e ρ) {c : Call} {t kt el : TypeId} {x : Operand} {x' : Od} (ho : o.op = .call c) (hc : c.callee = .builtin .clear) (ha : c.args = #[x]) (hty : c.argTypes = #[t])
    (ht : P.underlying t = some (.map kt el)) (hx : odOf x = some x')
    (hv : vop call g.h N e (.clearM x') = some (.ok rc)) : OpOk P ρ o g O0 w0 w rc := by
  have h1 := od_ok E hx
  have hrun : (execOp ρ o).run P w = ((Builtin.clear_ #[t] o.type #[ρ x]).run P w).andThen fun v w => .ok (.value v) w := by
    simp [execOp, ho, resolve, hc, ha, hty, invoke, builtin]
  have htup : ∀ (g : G) (w : World), VR g w true (.tup []) (.tuple #[]) := fun g w => .tup _ _ _ rfl fun j x u h => by simp at h
  simp only [vop, v_mov, v_pick, v_new, v_box, v_build, v_buildS, v_load, v_store, v_nilc, v_bin, v_una, v_conv, v_mkI, v_mkF, v_mkM, v_mkS, v_slc, v_fad, v_fld, v_iad, v_idx, v_look, v_mset, v_rng, v_nxt, v_tas, v_ext, v_call, v_calld, v_len, v_app, v_copy, v_clearM, v_clearS, v_del, v_mx, v_pan] at hv
  split at hv
  · rename_i q hq
    rw [hq] at h1
    obtain ⟨hD, hu⟩ := h1.inv_mp
    split at hv
    · rename_i es hes
      obtain ⟨arr, ck, hw, hl, hr⟩ := or_map R hes
      simp only [Option.some.injEq, Res.ok.injEq] at hv
      subst hv
      obtain ⟨q1, q2, q3⟩ := set_map R (k := q) (es := []) (arr := #[]) (ck := ck) (by rw [hes]; trivial) hw rfl (fun j e m he => by simp at he)
      refine ⟨.value (.tuple #[]), _, _, .tuple #[], ?_, .inl rfl, q3, q1, q2, htup _ _⟩
      rw [hrun]
      simp [Builtin.clear_, run_underlying ht, hu, MapKept.run_getObj_map hw, MapKept.run_setObj_map _ hw]
    · cases hv
  · rename_i hq
    rw [hq] at h1
    simp [ok1] at hv
    subst hv
    refine OpOk.pure R [] (u := .tuple #[]) ?_ (htup _ _)
    rw [hrun]
    simp [Builtin.clear_, run_underlying ht, h1.inv_nilm]
  · cases hv

theorem op_nxt (R : Rel g O0 w0 w) (E : Evs g w e ρ) {x : Operand} {x' : Od} (ho : o.op = .next x true) (hx : odOf x = some x')
    (hv : vop call g.h N e (.nxt x') = some (.ok rc)) : OpOk P ρ o g O0 w0 w rc := by
  have h1 := od_ok E hx
  simp only [vop, v_mov, v_pick, v_new, v_box, v_build, v_buildS, v_load, v_store, v_nilc, v_bin, v_una, v_conv, v_mkI, v_mkF, v_mkM, v_mkS, v_slc, v_fad, v_fld, v_iad, v_idx, v_look, v_mset, v_rng, v_nxt, v_tas, v_ext, v_call, v_calld, v_len, v_app, v_copy, v_clearM, v_clearS, v_del, v_mx, v_pan] at hv
  split at hv
  · rename_i q hq
    rw [hq] at h1
    obtain ⟨hD, hu⟩ := h1.inv_ptr
    split at hv
    · rename_i s pos hes
      have hw : w.heap[g.B q]? = some (.stringIter ⟨s.toArray⟩ pos) := by
        have := R.obj q
        rw [hes] at this
        exact this
      have hsz : (⟨s.toArray⟩ : ByteArray).size = s.length := by simp [ByteArray.size]
      have hget : (getObj (g.B q)).run P w = .ok (.stringIter ⟨s.toArray⟩ pos) w := by simp [getObj, Sem.run, hw]
      split at hv
      · rename_i hlt
        simp only [Option.some.injEq, Res.ok.injEq] at hv
        subst hv
        obtain ⟨q1, q2, q3⟩ := set_block R (k := q) (vo := .iter s (pos + (Utf8.decode ⟨s.toArray⟩ pos).2)) (ob' := .stringIter ⟨s.toArray⟩ (pos + (Utf8.decode ⟨s.toArray⟩ pos).2)) (by rw [hes]; trivial) hw fun S h => h
        refine ⟨.value (.tuple #[.bool true, goInt pos, .int .i32 (Utf8.decode ⟨s.toArray⟩ pos).1]), _, _, _, ?_, .inl rfl, q3, q1, q2, ?_⟩
        · have hset : ∀ ob, (setObj (g.B q) ob).run P w = .ok () { w with heap := w.heap.setIfInBounds (g.B q) ob } := fun ob => by simp [setObj, Sem.run, hw]
          simp [execOp, ho, Instr.next, hu, hget, hsz, hlt, hset]
        · refine .tup _ _ _ rfl fun j v u hx hu => ?_
          match j with
          | 0 => simp at hx hu; subst hx; subst hu; exact .bool _ _
          | 1 => simp at hx hu; subst hx; subst hu; exact .int _ _ _
          | 2 => simp at hx hu; subst hx; subst hu; exact .int _ _ _
          | j + 3 => simp at hx
      · rename_i hlt
        simp only [Option.some.injEq, Res.ok.injEq] at hv
        subst hv
        refine OpOk.pure R [q] (u := .tuple #[.bool false]) ?_ ?_
        · simp [execOp, ho, Instr.next, hu, hget, hsz, hlt]
        · refine .tup _ _ _ rfl fun j v u hx hu => ?_
          match j with
          | 0 => simp at hx hu; subst hx; subst hu; exact .bool _ _
          | j + 1 => simp at hx
    · cases hv
  · cases hv

theorem op_mx (R : Rel g O0 w0 w) (E : Evs g w e ρ) {c : Call} {b : Bool} {l : List Od} (ho : o.op = .call c) (hc : c.callee = .builtin (if b then .max else .min)) (hl : odsOf c.args.toList = some l)
    (hv : vop call g.h N e (.mx b l) = some (.ok rc)) : OpOk P ρ o g O0 w0 w rc := by
  simp only [vop, v_mov, v_pick, v_new, v_box, v_build, v_buildS, v_load, v_store, v_nilc, v_bin, v_una, v_conv, v_mkI, v_mkF, v_mkM, v_mkS, v_slc, v_fad, v_fld, v_iad, v_idx, v_look, v_mset, v_rng, v_nxt, v_tas, v_ext, v_call, v_calld, v_len, v_app, v_copy, v_clearM, v_clearS, v_del, v_mx, v_pan] at hv
  split at hv
  · rename_i x' y'
    obtain ⟨hlen, hrel⟩ := ods_ok E hl
    generalize hA : c.args.toList = A at hlen hrel hl
    match A, hlen with
    | [x, y], _ =>
      have ha : c.args = #[x, y] := by rw [← Array.toArray_toList (xs := c.args), hA]
      have h1 := hrel 0 _ _ rfl rfl
      have h2 := hrel 1 _ _ rfl rfl
      split at hv
      · rename_i k a k2 b2 hx hy
        split at hv
        · rename_i hk
          subst hk
          simp [ok1] at hv
          subst hv
          simp only [hx] at h1
          simp only [hy] at h2
          have h1 := h1.inv_int
          have h2 := h2.inv_int
          refine OpOk.pure R [] ?_ (.int _ _ _)
          cases b
          · simp [execOp, ho, resolve, hc, ha, invoke, builtin, Builtin.min_, h1, h2, Builtin.min2]
          · simp [execOp, ho, resolve, hc, ha, invoke, builtin, Builtin.max_, h1, h2, Builtin.max2]
        · cases hv
      · split at hv
        · rename_i kk s t hp
          split at hv
          · rename_i r hr
            simp [ok1] at hv
            subst hv
            obtain ⟨e1, e2, _⟩ := tmPair_ok hp
            have g1 : ρ x = .int kk s.ev := by have := h1.conc0; rw [e1] at this; exact this.inv_int
            have g2 : ρ y = .int kk t.ev := by have := h2.conc0; rw [e2] at this; exact this.inv_int
            have hc2 := Sy.ok _ _ _ _ hr
            cases b
            · simp only [Bool.false_eq_true, if_false, cmpI, Option.some.injEq] at hc2
              have hc3 : decide (t.ev < s.ev) = r := hc2
              refine OpOk.pure R [] (u := if r then ρ y else ρ x) ?_ (by cases r <;> simp [h1, h2])
              cases r
              · have : ¬ t.ev < s.ev := by simpa using hc3
                simp [execOp, ho, resolve, hc, ha, invoke, builtin, Builtin.min_, g1, g2, Builtin.min2, this]
              · have : t.ev < s.ev := by simpa using hc3
                simp [execOp, ho, resolve, hc, ha, invoke, builtin, Builtin.min_, g1, g2, Builtin.min2, this]
            · simp only [if_true, cmpI, Option.some.injEq] at hc2
              have hc3 : decide (t.ev > s.ev) = r := hc2
              refine OpOk.pure R [] (u := if r then ρ y else ρ x) ?_ (by cases r <;> simp [h1, h2])
              cases r
              · have : ¬ s.ev < t.ev := by simpa using hc3
                simp [execOp, ho, resolve, hc, ha, invoke, builtin, Builtin.max_, g1, g2, Builtin.max2, this]
              · have : s.ev < t.ev := by simpa using hc3
                simp [execOp, ho, resolve, hc, ha, invoke, builtin, Builtin.max_, g1, g2, Builtin.max2, this]
          · cases hv
        · cases hv
  · cases hv
end
end Go.Pv
namespace Go.Pv
variable [Sy]
section
variable {P : Program} {ρ : Operand → Value} {o : Oper} {g : G} {O0 : Nat → Prop} {w0 w : World} {e : Env} {N : Nat} {rc : Rec} {call : Callf}

theorem cell_heap {w w' : World} (h : w'.heap = w.heap) (a : Addr) : w'.cell? a = w.cell? a := by simp [World.cell?, h]

theorem cells_at {k off : Nat} {arr : Array Value} {t : TypeId} {fr : Nat × Nat} (hh : w.heap[k]? = some (.cells arr t fr)) (j : Nat) : w.cell? ((⟨k, off, none⟩ : Addr).add j) = arr[off + j]? := by
  rw [Addr.add_lit]
  simp [World.cell?, hh]

/-- The cells of a slice's elements, in the model. -/
theorem src_ok (R : Rel g O0 w0 w) {x : V} {u : Value} {esz n : Nat} {cs : List V} {rd : List Nat} (hv : VR g w true x u) (h : sliceC g.h esz x = some (cs, n, rd)) :
    ∃ us, Cells g w true cs us ∧ cs.length = n * esz ∧ (∀ P w, (Builtin.lenOf u).run P w = .ok n w) ∧ ∀ m, m ≤ n → ∀ P w', w'.heap = w.heap → (Builtin.firstCells esz m u).run P w' = .ok (us.take (m * esz)).toArray w' := by
  have load : ∀ (ad : Addr) (us : List Value), (∀ (j : Nat) (x : Value), us[j]? = some x → w.cell? (ad.add j) = some x) → us.length = n * esz → ∀ m, m ≤ n → ∀ P w', w'.heap = w.heap → (loadCells ad (m * esz)).run P w' = .ok (us.take (m * esz)).toArray w' := by
    intro ad us hc hl m hm P w' hw
    have hle : m * esz ≤ n * esz := Nat.mul_le_mul_right _ hm
    have hlen : (us.take (m * esz)).length = m * esz := by simp; omega
    have := run_loadCells_list (P := P) w' ad (us.take (m * esz)) (fun j v hj => by
      rw [List.getElem?_take] at hj
      split at hj
      · rw [cell_heap hw]; exact hc j v hj
      · cases hj)
    rwa [hlen] at this
  unfold sliceC at h
  split at h
  · simp at h
    obtain ⟨rfl, rfl, rfl⟩ := h
    have hu := hv.inv_nils
    subst hu
    refine ⟨[], Cells.nil, by simp, fun P w => rfl, fun m hm P w' _ => ?_⟩
    simp [Builtin.firstCells]
  · rename_i s
    split at h
    · rename_i h1
      subst h1
      simp at h
      obtain ⟨rfl, rfl, rfl⟩ := h
      have hu := hv.inv_str
      subst hu
      have hsz : (⟨s.toArray⟩ : ByteArray).size = s.length := by simp [ByteArray.size]
      refine ⟨s.map fun b => .int .u8 b.toNat, ⟨by simp [bytesV], fun u hu => ?_, fun j c u hc hu => ?_⟩, by simp [bytesV], fun P w => ?_, fun m hm P w' _ => ?_⟩
      · obtain ⟨b, _, rfl⟩ := List.mem_map.1 hu
        rfl
      · simp only [bytesV, List.getElem?_map, Option.map_eq_some_iff] at hc hu
        obtain ⟨b, hb, rfl⟩ := hc
        obtain ⟨b', hb', rfl⟩ := hu
        rw [hb] at hb'
        cases hb'
        exact .int _ _ _
      · simp [Builtin.lenOf, hsz]
      · simp [Builtin.firstCells, ByteArray.extract_mk, List.map_take]
    · cases h
  · rename_i xs cl
    split at h
    · rename_i hall
      simp at h
      obtain ⟨rfl, rfl, rfl⟩ := h
      obtain ⟨us, e1, a, c, rfl, he, hl, _, _, hone, hcell, hrel⟩ := hv.inv_is
      have hall' : ∀ x ∈ xs, x.length = esz := by simpa using hall
      have hfl := flatten_len hall'
      refine ⟨us, ⟨hl, hone, fun j c u hc hu => (hrel j c u hc hu).up⟩, hfl, fun P w => rfl, fun m hm P w' hw => ?_⟩
      cases a with
      | none =>
        have : us = [] := by
          cases us with
          | nil => rfl
          | cons u us =>
            obtain ⟨ad, h, _⟩ := hcell 0 u rfl
            cases h
        subst this
        simp [Builtin.firstCells]
      | some ad =>
        exact load ad us (fun j x hx => by
          obtain ⟨ad', h, _, h'⟩ := hcell j x hx
          cases h
          exact h') (by rw [hl, hfl]) m hm P w' hw
    · cases h
  · rename_i k off len cap
    split at h
    · rename_i ccs ez hk
      split at h
      · rename_i hlim
        simp at h
        obtain ⟨rfl, rfl, rfl⟩ := h
        obtain ⟨hD, c, rfl, _⟩ := hv.inv_sl
        obtain ⟨arr, t, hh, hla, _, C⟩ := or_cells R hk
        have C' := (C.drop off).take (len * esz)
        refine ⟨_, C', by simp; omega, fun P w => rfl, fun m hm P w' hw => ?_⟩
        refine load _ _ (fun j x hx => ?_) (by simp; omega) m hm P w' hw
        rw [List.getElem?_take] at hx
        split at hx
        · rw [List.getElem?_drop, List.getElem?_take] at hx
          split at hx
          · rw [cells_at hh]; simpa using hx
          · cases hx
        · cases hx
      · cases h
    · cases h
  · cases h

theorem op_copy (R : Rel g O0 w0 w) (E : Evs g w e ρ) {c : Call} {t el ty2 : TypeId} {x y : Operand} {x' y' : Od} {n : Nat} (ho : o.op = .call c) (hc : c.callee = .builtin .copy) (ha : c.args = #[x, y]) (hty : c.argTypes = #[t, ty2])
    (ht : P.underlying t = some (.slice el)) (hn : szOf P el = some n) (hx : odOf x = some x') (hy : odOf y = some y')
    (hv : vop call g.h N e (.copy n x' y') = some (.ok rc)) : OpOk P ρ o g O0 w0 w rc := by
  have h1 := od_ok E hx
  have h2 := od_ok E hy
  have hrun : (execOp ρ o).run P w = ((Builtin.copy_ #[t, ty2] o.type #[ρ x, ρ y]).run P w).andThen fun v w => .ok (.value v) w := by
    simp [execOp, ho, resolve, hc, ha, hty, invoke, builtin]
  simp only [vop, v_mov, v_pick, v_new, v_box, v_build, v_buildS, v_load, v_store, v_nilc, v_bin, v_una, v_conv, v_mkI, v_mkF, v_mkM, v_mkS, v_slc, v_fad, v_fld, v_iad, v_idx, v_look, v_mset, v_rng, v_nxt, v_tas, v_ext, v_call, v_calld, v_len, v_app, v_copy, v_clearM, v_clearS, v_del, v_mx, v_pan] at hv
  split at hv
  · cases hv
  · rename_i ys m rd hs
    obtain ⟨us, C, hl, hlen, hfirst⟩ := src_ok R h2 hs
    split at hv
    · rename_i hq
      rw [hq] at h1
      simp only [Option.some.injEq, Res.ok.injEq] at hv
      subst hv
      refine OpOk.pure R rd (u := .int .i64 0) ?_ (.int _ _ _)
      have hf := hfirst 0 (Nat.zero_le _) P w rfl
      rw [hrun]
      simp [Builtin.copy_, run_underlying ht, h1.inv_nils, hlen, szOf_run hn, hf, goInt]
    · rename_i k off len cap hq
      rw [hq] at h1
      obtain ⟨hD, cc, hu, _⟩ := h1.inv_sl
      split at hv
      · rename_i ccs ez hk
        split at hv
        · rename_i hlim
          simp only [Option.some.injEq, Res.ok.injEq] at hv
          subst hv
          have hmin : Nat.min m len = min m len := rfl
          have hf := hfirst (min m len) (Nat.min_le_left _ _) P w rfl
          have hle : min m len * n ≤ len * n := Nat.mul_le_mul_right _ (Nat.min_le_right _ _)
          obtain ⟨w', q1, q2, q3, q4⟩ := seg_ok (off := off) R hk (vs := ys.take (min m len * n)) (by simp; omega) (C.take _)
          refine ⟨.value (.int .i64 (min m len : Nat)), w', _, _, ?_, .inl rfl, q4, q2, q3, .int _ _ _⟩
          rw [hrun]
          simp [Builtin.copy_, run_underlying ht, hu, hlen, szOf_run hn, hf, goInt, q1 P, hmin]
        · cases hv
      · cases hv
    · cases hv

theorem op_clearS (R : Rel g O0 w0 w) (E : Evs g w e ρ) {c : Call} {t el : TypeId} {x : Operand} {x' : Od} {n : Nat} {zs : List V} (ho : o.op = .call c) (hc : c.callee = .builtin .clear) (ha : c.args = #[x]) (hty : c.argTypes = #[t])
    (ht : P.underlying t = some (.slice el)) (hz : zeroOf P el = some zs) (hzl : zs.length = n) (h0 : 0 < n) (hx : odOf x = some x')
    (hv : vop call g.h N e (.clearS zs n x') = some (.ok rc)) : OpOk P ρ o g O0 w0 w rc := by
  have h1 := od_ok E hx
  have hrun : (execOp ρ o).run P w = ((Builtin.clear_ #[t] o.type #[ρ x]).run P w).andThen fun v w => .ok (.value v) w := by
    simp [execOp, ho, resolve, hc, ha, hty, invoke, builtin]
  have htup : ∀ (g : G) (w : World), VR g w true (.tup []) (.tuple #[]) := fun g w => .tup _ _ _ rfl fun j x u h => by simp at h
  obtain ⟨zv, hzi, hzr, hzc⟩ := zeroOf_run hz w
  simp only [vop, v_mov, v_pick, v_new, v_box, v_build, v_buildS, v_load, v_store, v_nilc, v_bin, v_una, v_conv, v_mkI, v_mkF, v_mkM, v_mkS, v_slc, v_fad, v_fld, v_iad, v_idx, v_look, v_mset, v_rng, v_nxt, v_tas, v_ext, v_call, v_calld, v_len, v_app, v_copy, v_clearM, v_clearS, v_del, v_mx, v_pan] at hv
  split at hv
  · rename_i hq
    rw [hq] at h1
    simp [ok1] at hv
    subst hv
    refine OpOk.pure R [] (u := .tuple #[]) ?_ (htup _ _)
    rw [hrun]
    simp [Builtin.clear_, run_underlying ht, h1.inv_nils]
  · rename_i cl hq
    rw [hq] at h1
    simp [ok1] at hv
    subst hv
    obtain ⟨us, e1, a, c, hu, _⟩ := h1.inv_is
    refine OpOk.pure R [] (u := .tuple #[]) ?_ (htup _ _)
    rw [hrun]
    cases a <;> simp [Builtin.clear_, run_underlying ht, hu]
  · rename_i k off len cap hq
    rw [hq] at h1
    obtain ⟨hD, cc, hu, _⟩ := h1.inv_sl
    split at hv
    · rename_i ccs ez hk
      split at hv
      · rename_i hlim
        simp only [Option.some.injEq, Res.ok.injEq] at hv
        subst hv
        have hZ := zeros_cells (hzc g w true) (by omega) len
        obtain ⟨w', q1, q2, q3, q4⟩ := seg_ok (off := off) R hk (vs := (List.replicate len zs).flatten) (by rw [rep_flatten, hzl]; omega) hZ
        refine ⟨.value (.tuple #[]), w', _, _, ?_, .inl rfl, q4, q2, q3, htup _ _⟩
        rw [hrun]
        by_cases hl0 : len = 0
        · subst hl0
          have := q1 P
          simp [storeCells] at this
          subst this
          simp [Builtin.clear_, run_underlying ht, hu]
        · have hzs : zv.cells.size = zs.length := by have := (hzc g w true).len; simpa using this
          have q1 := q1 P
          rw [← hzs] at q1
          match len, hl0 with
          | len + 1, _ =>
            simp only [Builtin.clear_, List.getElem?_toArray, Sem.run_bind, run_underlying ht, Result.andThen_ok, hu]
            simp [run_underlying ht, hzr, Builtin.zeroCells, hu] at q1 ⊢
            rw [q1]
            rfl
      · cases hv
    · cases hv
  · cases hv
end
end Go.Pv
namespace Go.Pv
variable [Sy]
section
variable {P : Program} {ρ : Operand → Value} {o : Oper} {g : G} {O0 : Nat → Prop} {w0 w : World} {e : Env} {N : Nat} {rc : Rec} {call : Callf}

theorem unbyte_ok : ∀ {cs : List V} {us : List Value} {s : List UInt8}, Cells g w true cs us → unbyte cs = some s → ∃ ns : List Int, us = ns.map (Value.int .u8) ∧ ns.map (fun n => UInt8.ofNat n.toNat) = s
  | [], us, s, C, h => by
    simp [unbyte] at h
    subst h
    have := C.len
    simp at this
    subst this
    exact ⟨[], rfl, rfl⟩
  | c :: cs, [], s, C, h => by have := C.len; simp at this
  | c :: cs, u :: us, s, C, h => by
    have C' : Cells g w true cs us := C.drop 1
    unfold unbyte at h
    split at h
    · rename_i hh; cases hh
    · rename_i n r hh
      cases hh
      simp only [Option.map_eq_some_iff] at h
      obtain ⟨s', hs', rfl⟩ := h
      obtain ⟨ns, rfl, rfl⟩ := unbyte_ok C' hs'
      have := (C.rel 0 _ u rfl rfl).inv_int
      subst this
      exact ⟨n :: ns, rfl, rfl⟩
    · cases h

theorem foldl_push : ∀ (ns : List Int) (r : ByteArray), ns.foldl (fun r n => r.push (UInt8.ofNat n.toNat)) r = ⟨r.data ++ (ns.map fun n => UInt8.ofNat n.toNat).toArray⟩
  | [], r => by simp
  | n :: ns, r => by
    simp only [List.foldl_cons, foldl_push ns, List.map_cons]
    simp [ByteArray.push]

theorem bytesL_flat : ∀ key : List UInt8, (bytesL key).flatten = key.map fun b => V.int .u8 b.toNat
  | [] => rfl
  | b :: key => by
    have := bytesL_flat key
    simp only [bytesL, List.map_cons, List.flatten_cons] at this ⊢
    rw [this]
    rfl
theorem unbyte_map : ∀ key : List UInt8, unbyte (key.map fun b => V.int .u8 b.toNat) = some key
  | [] => rfl
  | b :: key => by simp [unbyte, unbyte_map key]
theorem slice_bytes (hh : Nat → VO) (key : List UInt8) : sliceC hh 1 (.is (bytesL key) false) = some (key.map fun b => V.int .u8 b.toNat, key.length, []) := by
  have h1 : (bytesL key).all (·.length == 1) = true := by simp [bytesL]
  simp only [sliceC, h1, if_true, bytesL_flat]
  simp [bytesL]
theorem b2s_run (R : Rel g O0 w0 w) {s d el : TypeId} {x : Operand} {v : V} {cs : List V} {n : Nat} {rd : List Nat} {st : List UInt8} (ho : o.op = .convert s d x)
    (hs : P.underlying s = some (.slice el)) (he : P.underlying el = some (.int .u8)) (hd : P.underlying d = some .string) (h1 : VR g w true v (ρ x))
    (hq : sliceC g.h 1 v = some (cs, n, rd)) (hst : unbyte cs = some st) : (execOp ρ o).run P w = .ok (.value (.string ⟨st.toArray⟩)) w := by
  obtain ⟨us, C, hl, hlen, hfirst⟩ := src_ok R h1 hq
  obtain ⟨ns, rfl, rfl⟩ := unbyte_ok C hst
  have hlu := C.len
  have hn : ns.length = n := by simp at hlu; omega
  have hf := hfirst n (Nat.le_refl _) P w rfl
  have hlen' := hlen P w
  generalize hu : ρ x = u at hf hlen' h1
  cases u <;> try (simp [Builtin.lenOf, stuck] at hlen'; done)
  · rename_i bs
    -- a string: the same
    simp [Builtin.lenOf] at hlen'
    have e1 : ns.map (Value.int .u8) = bs.data.toList.map fun b => .int .u8 b.toNat := by
      simp [Builtin.firstCells] at hf
      have := congrArg Array.toList hf
      simp only [Array.toList_extract, Array.toList_map, List.extract_eq_take_drop, List.drop_zero, Nat.sub_zero] at this
      have hb : bs.data.toList.length = n := by rw [← hlen']; rfl
      rw [List.take_of_length_le (by simp; omega), List.take_of_length_le (by simp; omega)] at this
      exact this.symm
    have e2 : ns = bs.data.toList.map fun b => (b.toNat : Int) := by
      have := congrArg (List.map fun v => match v with | Value.int _ n => n | _ => 0) e1
      simpa [List.map_map, Function.comp_def] using this
    have e3 : (ns.map fun n => UInt8.ofNat n.toNat) = bs.data.toList := by
      rw [e2]
      simp [List.map_map, Function.comp_def]
    rw [e3, bytes_eta]
    simp [execOp, ho, convert, run_underlying hs, run_underlying hd, hu]
  · rename_i a l c
    simp [Builtin.lenOf] at hlen'
    subst hlen'
    cases a with
    | none =>
      simp [Builtin.firstCells] at hf
      have : ns = [] := by
        cases ns with
        | nil => rfl
        | cons a b => simp at hn; subst hn; simp at hf
      subst this
      simp [execOp, ho, convert, run_underlying hs, run_underlying hd, run_underlying he, hu, Conv.bytesToString]
      rfl
    | some a =>
      simp only [Builtin.firstCells, Nat.mul_one] at hf
      rw [List.take_of_length_le (by simp; omega)] at hf
      have := run_bytesToString w a l c ns hf
      rw [foldl_push] at this
      simp [execOp, ho, convert, run_underlying hs, run_underlying hd, run_underlying he, hu, this]

theorem op_b2s (R : Rel g O0 w0 w) (E : Evs g w e ρ) {s d el : TypeId} {x : Operand} {x' : Od} (ho : o.op = .convert s d x)
    (hs : P.underlying s = some (.slice el)) (he : P.underlying el = some (.int .u8)) (hd : P.underlying d = some .string) (hx : odOf x = some x')
    (hv : vop call g.h N e (.conv .b2s x') = some (.ok rc)) : OpOk P ρ o g O0 w0 w rc := by
  have h1 := od_ok E hx
  simp only [vop, v_mov, v_pick, v_new, v_box, v_build, v_buildS, v_load, v_store, v_nilc, v_bin, v_una, v_conv, v_mkI, v_mkF, v_mkM, v_mkS, v_slc, v_fad, v_fld, v_iad, v_idx, v_look, v_mset, v_rng, v_nxt, v_tas, v_ext, v_call, v_calld, v_len, v_app, v_copy, v_clearM, v_clearS, v_del, v_mx, v_pan] at hv
  split at hv
  · rename_i cs n rd hq
    simp only [Option.map_eq_some_iff] at hv
    obtain ⟨st, hst, hrc⟩ := hv
    simp only [Res.ok.injEq] at hrc
    subst hrc
    exact OpOk.pure R rd (b2s_run R ho hs he hd h1 hq hst) (.str _ _)
  · split at hv
    · rename_i ch hc
      simp [ok1] at hv
      subst hv
      rw [hc] at h1
      exact OpOk.pure R [] (b2s_run R ho hs he hd h1.inv_cb (slice_bytes _ _) (unbyte_map _)) (.ct _ _)
    · cases hv

theorem Rel.notO (R : Rel g O0 w0 w) {b : Nat} (h : w.heap.size ≤ b) : ¬ g.O b := by
  rintro (hx | ⟨k, ha, e⟩)
  · have := R.xlt b hx
    have := R.size
    omega
  · have := (R.obj k).lt ha
    omega

/-- Something new that is not owned. -/
theorem fresh_ok (R : Rel g O0 w0 w) {w' : World} (hs : w.heap.size ≤ w'.heap.size) (h1 : w'.os = w.os) (h2 : w'.tape = w.tape) (h3 : w'.output = w.output) (hot : ∀ b, b < w.heap.size → w'.heap[b]? = w.heap[b]?) :
    Rel g O0 w0 w' ∧ Step g w g w' := by
  have U : Up g w g w' (fun _ => False) := ⟨rfl, hs, h1, h2, h3, fun k h => ⟨h, rfl, rfl⟩, fun k _ => rfl, fun b hb _ => hot b hb, fun k h => h.elim, fun k l h => h.elim⟩
  exact ⟨R.up U fun k h => h.elim, R.step U⟩

theorem flat_bytes : ∀ st : List UInt8, (st.map fun b => [V.int .u8 b.toNat]).flatten = st.map fun b => V.int .u8 b.toNat
  | [] => rfl
  | b :: st => by simp only [List.map_cons, List.flatten_cons, List.singleton_append]; rw [flat_bytes st]

theorem op_s2b (R : Rel g O0 w0 w) (E : Evs g w e ρ) {s d el : TypeId} {x : Operand} {x' : Od} (ho : o.op = .convert s d x)
    (hs : P.underlying s = some .string) (he : P.underlying el = some (.int .u8)) (hd : P.underlying d = some (.slice el)) (hx : odOf x = some x')
    (hv : vop call g.h N e (.conv .s2b x') = some (.ok rc)) : OpOk P ρ o g O0 w0 w rc := by
  have h1 := od_ok E hx
  simp only [vop, v_mov, v_pick, v_new, v_box, v_build, v_buildS, v_load, v_store, v_nilc, v_bin, v_una, v_conv, v_mkI, v_mkF, v_mkM, v_mkS, v_slc, v_fad, v_fld, v_iad, v_idx, v_look, v_mset, v_rng, v_nxt, v_tas, v_ext, v_call, v_calld, v_len, v_app, v_copy, v_clearM, v_clearS, v_del, v_mx, v_pan] at hv
  split at hv
  · rename_i st hq
    rw [hq] at h1
    have hu := h1.inv_str
    split at hv
    · simp [ok1] at hv
      subst hv
      have hrun := Lib.run_convert_string_bytes w s d el ⟨st.toArray⟩ hs hd he
      have hsz : (⟨st.toArray⟩ : ByteArray).size = st.length := by simp [ByteArray.size]
      obtain ⟨q1, q2⟩ := fresh_ok R (w' := Lib.bytesWorld w el ⟨st.toArray⟩) (by rw [Lib.bytesWorld_size]; omega) rfl rfl rfl (fun b hb => Lib.bytesWorld_at_old w el _ b hb)
      refine ⟨_, _, g, .slice (some ⟨w.heap.size, 0, none⟩) st.length (grownCap w st.length 0 el), ?_, .inl rfl, Eff.nil g, q1, q2, ?_⟩
      · rw [hsz] at hrun
        simp [execOp, ho, hu, hrun]
      · have hlen : (st.map fun b => [V.int .u8 b.toNat]).length = st.length := by simp
        rw [← hlen]
        refine .is _ _ false (st.map fun b => .int .u8 b.toNat) 1 _ _ ?_ ?_ ?_ (fun h => by cases h) ?_ ?_ ?_
        · intro x hx
          obtain ⟨b, _, rfl⟩ := List.mem_map.1 hx
          rfl
        · rw [flatten_len (k := 1)]
          · simp
          · intro x hx
            obtain ⟨b, _, rfl⟩ := List.mem_map.1 hx
            rfl
        · rw [hlen]; exact grownCap_ge _ _ _ _
        · intro u hu
          obtain ⟨b, _, rfl⟩ := List.mem_map.1 hu
          rfl
        · intro j u hu
          refine ⟨_, rfl, ?_, ?_⟩
          · exact R.notO (Nat.le_refl _)
          · simp only [List.getElem?_map, Option.map_eq_some_iff] at hu
            obtain ⟨b, hb, rfl⟩ := hu
            have hj : j < st.length := (List.getElem?_eq_some_iff.1 hb).1
            rw [Addr.add_lit]
            have := Lib.bytesWorld_cell w el ⟨st.toArray⟩ j (by rw [hsz]; exact hj)
            simp only [Nat.zero_add]
            rw [this]
            simp [List.getD, hb]
        · intro j c u hc hu
          have hfl := flat_bytes st
          rw [hfl] at hc
          simp only [List.getElem?_map, Option.map_eq_some_iff] at hc hu
          obtain ⟨b, hb, rfl⟩ := hc
          obtain ⟨b', hb', rfl⟩ := hu
          rw [hb] at hb'
          cases hb'
          exact .int _ _ _
    · cases hv
  · cases hv
end
end Go.Pv
namespace Go.Pv
variable [Sy]
section
variable {P : Program} {ρ : Operand → Value} {o : Oper} {g : G} {O0 : Nat → Prop} {w0 w : World} {e : Env} {N : Nat} {rc : Rec} {call : Callf}

theorem lookU_append (u u' : List (Nat × VO)) (n : Nat) (d : VO) : lookU (u ++ u') n d = lookU u' n (lookU u n d) := by
  induction u generalizing d with
  | nil => rfl
  | cons p u ih => obtain ⟨k, o⟩ := p; simp only [List.cons_append, lookU, ih]
theorem Eff.trans {g g' g'' : G} {u u' : List (Nat × VO)} (a : Eff g u g') (b : Eff g' u' g'') : Eff g (u ++ u') g'' := by
  refine ⟨b.X.trans a.X, fun k => ?_, fun k hk => ?_, fun k => ?_⟩
  · rw [b.D, a.D, List.map_append, List.mem_append, or_assoc]
  · obtain ⟨h1, h2⟩ := a.B k hk
    obtain ⟨h3, h4⟩ := b.B k ((a.D k).2 (.inl hk))
    exact ⟨h3.trans h1, h4.trans h2⟩
  · rw [b.h, a.h, lookU_append]
theorem Eff.move {g g' : G} {u : List (Nat × VO)} (a : Eff g u g') : ∀ k, g.D k → g'.D k ∧ g'.B k = g.B k ∧ g'.C k = g.C k := fun k hk => ⟨(a.D k).2 (.inl hk), a.B k hk⟩

/-- A new object takes over an old one's block. -/
theorem over_ok (R : Rel g O0 w0 w) {w' : World} {k nk : Nat} {vo : VO} (hnk : ¬ g.D nk) (hk : (g.h k).alive) (hs : w'.heap.size = w.heap.size) (hot : ∀ b, b ≠ g.B k → w'.heap[b]? = w.heap[b]?)
    (h1 : w'.os = w.os) (h2 : w'.tape = w.tape) (h3 : w'.output = w.output)
    (hob : Step g w ((g.set k .dead).new nk (g.B k) (g.C k) vo) w' → (∀ j, g.D j → ((g.set k .dead).new nk (g.B k) (g.C k) vo).D j ∧ ((g.set k .dead).new nk (g.B k) (g.C k) vo).B j = g.B j ∧ ((g.set k .dead).new nk (g.B k) (g.C k) vo).C j = g.C j) →
      OR ((g.set k .dead).new nk (g.B k) (g.C k) vo) w' nk vo) :
    let g' := (g.set k .dead).new nk (g.B k) (g.C k) vo
    Rel g' O0 w0 w' ∧ Step g w g' w' ∧ Eff g [(k, .dead), (nk, vo)] g' := by
  intro g'
  have hkD := R.dom k hk
  have hkn : k ≠ nk := fun e => hnk (e ▸ hkD)
  have hB : ∀ j, g.D j → g'.D j ∧ g'.B j = g.B j ∧ g'.C j = g.C j := fun j hj => by
    have : j ≠ nk := fun e => hnk (e ▸ hj)
    exact ⟨.inl hj, by simp [g', G.new, G.set, this], by simp [g', G.new, G.set, this]⟩
  have hdead : g'.h k = .dead := by simp [g', G.new, G.set, hkn]
  have U : Up g w g' w' (fun j => j = k ∨ j = nk) := by
    refine ⟨rfl, by omega, h1, h2, h3, hB, fun j hj => ?_, fun b _ hb => hot b fun e => hb k (.inl rfl) hk e.symm, ?_, ?_⟩
    · simp only [not_or] at hj
      simp [g', G.new, G.set, hj.1, hj.2]
    · rintro j (rfl | rfl) ha
      · rw [hdead] at ha; exact ha.elim
      · exact ⟨.inr rfl, .inl ⟨k, .inl rfl, hk, by simp [g', G.new]⟩⟩
    · rintro j l (rfl | rfl) (rfl | rfl) ha hl _
      · rfl
      · rw [hdead] at ha; exact ha.elim
      · rw [hdead] at hl; exact hl.elim
      · rfl
  have S := R.step U
  refine ⟨R.up U ?_, S, ?_⟩
  · rintro j (rfl | rfl)
    · rw [hdead]; trivial
    · have := hob S hB
      simpa [g', G.new] using this
  · refine ⟨rfl, fun j => ?_, fun j hj => (hB j hj).2, fun j => ?_⟩
    · simp only [g', G.new, G.set, List.map_cons, List.map_nil, List.mem_cons, List.not_mem_nil, or_false]
      constructor
      · rintro (h | h)
        · exact .inl h
        · exact .inr (.inr h)
      · rintro (h | rfl | h)
        · exact .inl h
        · exact .inl hkD
        · exact .inr h
    · simp only [g', G.new, G.set, lookU]
      by_cases hj : j = nk
      · subst hj; simp
      · have e1 : ¬ nk = j := fun e => hj e.symm
        by_cases hj' : j = k
        · subst hj'; simp [hj, e1]
        · have e2 : ¬ k = j := fun e => hj' e.symm
          simp [hj, e1, hj', e2]

section
variable {t tx ty el : TypeId} {i : TypeInfo} {dx : TypeDesc} {zv : Value}
/-- 'append' where there is no room. -/
theorem run_grow (ht : P.underlying t = some (.slice el)) (hx : P.underlying tx = some dx) (hdx : dx = .string ∨ ∃ e, dx = .slice e) (hi : P.info? el = some i) (hz : i.zero = some zv)
    {base : Option Addr} {sLen sCap n : Nat} {x : Value} {olds news : Array Value} (hlen : ∀ P w, (Builtin.lenOf x).run P w = .ok n w)
    (hfo : (Builtin.firstCells i.size sLen (.slice base sLen sCap)).run P w.drew = .ok olds w.drew) (hfn : (Builtin.firstCells i.size n x).run P w.drew = .ok news w.drew)
    (hg : sCap < sLen + n) (h63 : ((sLen + n : Nat) : Int) ≤ 9223372036854775807) (hfit : Builtin.nextslicecap (sLen + n) sCap * i.bytes ≤ 281474976710656) :
    (Builtin.append_ #[t, tx] ty #[.slice base sLen sCap, x]).run P w = .ok (.slice (some ⟨w.heap.size, 0, none⟩) (sLen + n) (grownCap w (sLen + n) sCap el))
      (w.drew.alloc (.cells (olds ++ news ++ Builtin.zeroCells zv.cells (grownCap w (sLen + n) sCap el - (sLen + n))) el)) := by
  have hn : ¬ (sLen + n ≤ sCap) := by omega
  have h63' : ¬ (9223372036854775807 < ((sLen : Int) + (n : Int))) := by omega
  have h48' : ¬ (281474976710656 < Builtin.nextslicecap (sLen + n) sCap * i.bytes) := by omega
  rcases hdx with rfl | ⟨e2, rfl⟩ <;> simp [Builtin.append_, run_underlying ht, run_underlying hx, sizeOf, typeInfo, zeroValue, hi, hz, hlen, hn, h63', h48', Question.forced, hfo, hfn, newRow, grownCap]

theorem run_room (ht : P.underlying t = some (.slice el)) (hx : P.underlying tx = some dx) (hdx : dx = .string ∨ ∃ e, dx = .slice e) (hi : P.info? el = some i)
    {base : Option Addr} {sLen sCap n : Nat} {x : Value} {news : Array Value} {w' : World} (hlen : ∀ P w, (Builtin.lenOf x).run P w = .ok n w)
    (hfn : (Builtin.firstCells i.size n x).run P w = .ok news w) (hroom : sLen + n ≤ sCap) (hst : (match base with | some a => storeCells (a.add (sLen * i.size)) news.toList | none => pure ()).run P w = .ok () w') :
    (Builtin.append_ #[t, tx] ty #[.slice base sLen sCap, x]).run P w = .ok (.slice base (sLen + n) sCap) w' := by
  cases base with
  | none =>
    simp at hst
    subst hst
    rcases hdx with rfl | ⟨e2, rfl⟩ <;> simp [Builtin.append_, run_underlying ht, run_underlying hx, sizeOf, typeInfo, hi, hlen, hroom, hfn]
  | some a =>
    simp at hst
    rcases hdx with rfl | ⟨e2, rfl⟩ <;> simp [Builtin.append_, run_underlying ht, run_underlying hx, sizeOf, typeInfo, hi, hlen, hroom, hfn, hst]
end
end
end Go.Pv
