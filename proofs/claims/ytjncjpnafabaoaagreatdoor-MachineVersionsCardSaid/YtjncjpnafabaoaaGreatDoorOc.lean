/- The machine: what calls keep; regions. -/
import Derived.Test.YtjncjpnafabaoaaGreatDoorOb
set_option linter.unusedSimpArgs false
set_option linter.unusedVariables false
set_option linter.unusedSectionVars false
namespace Go.Pv
variable [Sy]
section
variable {P : Program} {ρ : Operand → Value} {o : Oper} {g : G} {O0 : Nat → Prop} {w0 w : World} {e : Env} {N : Nat} {rc : Rec} {call : Callf}

theorem grow_ok (R : Rel g O0 w0 w) (hN : ¬ g.D N) {sLen n sCap esz : Nat} {el : TypeId} {co ys : List V} {olds news : List Value} {zv : Value} (Co : Cells g w true co olds) (Cn : Cells g w true ys news)
    (hlo : co.length = sLen * esz) (hln : ys.length = n * esz) (hzs : zv.cells.size = esz) :
    let c := grownCap w (sLen + n) sCap el
    let w' := w.drew.alloc (.cells (olds.toArray ++ news.toArray ++ Builtin.zeroCells zv.cells (c - (sLen + n))) el)
    let g' := g.new N w.heap.size c (.cells (co ++ ys) esz)
    Rel g' O0 w0 w' ∧ Step g w g' w' ∧ Eff g [(N, .cells (co ++ ys) esz)] g' ∧ VR g' w' true (.sl N 0 (sLen + n) none) (.slice (some ⟨w.heap.size, 0, none⟩) (sLen + n) c) := by
  intro c w' g'
  have hge : sLen + n ≤ c := grownCap_ge w _ _ _
  have h1 := Co.len
  have h2 := Cn.len
  have hsum : (sLen + n) * esz + (c - (sLen + n)) * esz = c * esz := by rw [← Nat.add_mul]; congr 1; omega
  have hap : (sLen + n) * esz = sLen * esz + n * esz := Nat.add_mul _ _ _
  obtain ⟨q1, q2, q3⟩ := new_cells R (w' := w') (c := c) (cs := co ++ ys) (esz := esz) (arr := olds.toArray ++ news.toArray ++ Builtin.zeroCells zv.cells (c - (sLen + n))) (t := el) hN rfl rfl rfl rfl
    (by simp [size_zeroCells]; omega) (by simp only [Array.size_append, List.size_toArray, size_zeroCells, hzs]; omega) (by
      have : (olds.toArray ++ news.toArray ++ Builtin.zeroCells zv.cells (c - (sLen + n))).toList.take (co ++ ys).length = olds ++ news := by
        simp only [Array.toList_append]
        apply List.take_left'
        simp; omega
      rw [this]
      exact Co.append Cn)
  refine ⟨q1, q2, q3, ?_⟩
  have := VR.sl (g := g') (w := w') N 0 (sLen + n) none c (.inr rfl) (fun x hx => by cases hx) (fun _ _ => by simp [g', G.new]) hge
  simpa [g', G.new] using this

theorem list_arr {us : List Value} {m : Nat} (h : us.length = m) : (us.take m).toArray = us.toArray := by rw [List.take_of_length_le (by omega)]

theorem op_app (R : Rel g O0 w0 w) (E : Evs g w e ρ) {c : Call} {t tx el : TypeId} {dx : TypeDesc} {x y : Operand} {x' y' : Od} {i : TypeInfo} {zs : List V} (ho : o.op = .call c) (hc : c.callee = .builtin .append) (ha : c.args = #[x, y]) (hty : c.argTypes = #[t, tx])
    (ht : P.underlying t = some (.slice el)) (htx : P.underlying tx = some dx) (hdx : dx = .string ∨ ∃ e, dx = .slice e) (hi : P.info? el = some i) (hz : zeroOf P el = some zs) (hzl : zs.length = i.size) (h0 : 0 < i.size)
    (hx : odOf x = some x') (hy : odOf y = some y') (hN : N ∈ rc.upd.map (·.1) → ¬ g.D N)
    (hv : vop call g.h N e (.app i.size i.bytes x' y') = some (.ok rc)) : OpOk P ρ o g O0 w0 w rc := by
  have h1 := od_ok E hx
  have h2 := od_ok E hy
  have hrun : (execOp ρ o).run P w = ((Builtin.append_ #[t, tx] o.type #[ρ x, ρ y]).run P w).andThen fun v w => .ok (.value v) w := by
    simp [execOp, ho, resolve, hc, ha, hty, invoke, builtin]
  obtain ⟨zv, hzi, hzr, hzc⟩ := zeroOf_run hz w
  have hzi' : i.zero = some zv := by rw [hi] at hzi; exact hzi
  have hzs : zv.cells.size = i.size := by have := (hzc g w true).len; simp at this; omega
  have hmb : maxBytes ≤ 140737488355328 := by decide
  have hmb' : maxBytes ≤ 9223372036854775807 := by decide
  simp only [vop, v_mov, v_pick, v_new, v_box, v_build, v_buildS, v_load, v_store, v_nilc, v_bin, v_una, v_conv, v_mkI, v_mkF, v_mkM, v_mkS, v_slc, v_fad, v_fld, v_iad, v_idx, v_look, v_mset, v_rng, v_nxt, v_tas, v_ext, v_call, v_calld, v_len, v_app, v_copy, v_clearM, v_clearS, v_del, v_mx, v_pan] at hv
  split at hv
  · cases hv
  · rename_i ys n rd hs
    obtain ⟨us, C, hl, hlen, hfirst⟩ := src_ok R h2 hs
    have hul := C.len
    have hfn := fun w' (hw : w'.heap = w.heap) => hfirst n (Nat.le_refl _) P w' hw
    rw [list_arr (by omega)] at hfn
    split at hv
    · -- nothing
      rename_i hn0
      subst hn0
      have hus : us = [] := by
        have : us.length = 0 := by omega
        exact List.length_eq_zero_iff.1 this
      subst hus
      have hroom : ∀ (base : Option Addr) (sLen sCap : Nat), ρ x = .slice base sLen sCap → sLen ≤ sCap → (execOp ρ o).run P w = .ok (.value (ρ x)) w := by
        intro base sLen sCap hu hle
        have := run_room (P := P) (w := w) (w' := w) (ty := o.type) ht htx hdx hi (base := base) (sLen := sLen) (sCap := sCap) hlen (hfn w rfl) (by omega) (by cases base <;> simp [storeCells])
        rw [hrun, hu, this]
        simp
      split at hv
      · rename_i hq
        rw [hq] at h1
        simp at hv
        subst hv
        exact OpOk.pure R rd (hroom none 0 0 h1.inv_nils (Nat.le_refl _)) h1
      · rename_i xs cl hq
        rw [hq] at h1
        simp at hv
        subst hv
        obtain ⟨_, _, a, c, hu, _, _, hcap, _⟩ := h1.inv_is
        exact OpOk.pure R rd (hroom _ _ _ hu hcap) h1
      · rename_i k of l cp hq
        rw [hq] at h1
        simp at hv
        subst hv
        obtain ⟨_, c, hu, _, _, hle⟩ := h1.inv_sl
        exact OpOk.pure R rd (hroom _ _ _ hu hle) h1
      · cases hv
    · rename_i hn0
      split at hv
      · -- onto nil
        rename_i hq
        rw [hq] at h1
        split at hv
        · rename_i hb
          simp only [Option.some.injEq, Res.ok.injEq] at hv
          subst hv
          have hg := run_grow (P := P) (w := w) (ty := o.type) ht htx hdx hi hzi' (base := none) (sLen := 0) (sCap := 0) (olds := #[]) hlen (by simp [Builtin.firstCells]) (hfn _ rfl) (by omega) (by omega) (growslice_fits (by omega) (by simp; omega))
          obtain ⟨q1, q2, q3, q4⟩ := grow_ok R (hN (by simp)) (sLen := 0) (n := n) (sCap := 0) (el := el) (co := []) (olds := []) (zv := zv) Cells.nil C (by simp) hl hzs
          simp only [List.nil_append, Nat.zero_add] at q1 q2 q3 q4 hg
          refine ⟨_, _, _, _, ?_, .inl rfl, q3, q1, q2, q4⟩
          rw [hrun, h1.inv_nils, hg]
          simp
        · cases hv
      · -- onto what is only read
        rename_i xs hq
        rw [hq] at h1
        split at hv
        · rename_i hb
          simp only [Option.some.injEq, Res.ok.injEq] at hv
          subst hv
          obtain ⟨hb1, hb2, hb3⟩ := hb
          have hsc : sliceC g.h i.size (.is xs true) = some (xs.flatten, xs.length, []) := by simp [sliceC, hb3]
          obtain ⟨ous, CO, hol, holen, hofirst⟩ := src_ok R h1 hsc
          obtain ⟨_, _, a, c, hu, _, _, _, hclip, _⟩ := h1.inv_is
          have hcc := hclip rfl
          subst hcc
          have hfo := hofirst xs.length (Nat.le_refl _) P w.drew rfl
          have hocl := CO.len
          rw [list_arr (by omega), hu] at hfo
          have hg := run_grow (P := P) (w := w) (ty := o.type) ht htx hdx hi hzi' hlen hfo (hfn _ rfl) (by omega) (by omega) (growslice_fits (by omega) (by omega))
          obtain ⟨q1, q2, q3, q4⟩ := grow_ok R (hN (by simp)) (sLen := xs.length) (n := n) (sCap := xs.length) (el := el) (zv := zv) CO C hol hl hzs
          refine ⟨_, _, _, _, ?_, .inl rfl, q3, q1, q2, q4⟩
          rw [hrun, hu, hg]
          simp
        · cases hv
      · rename_i k off len cap hq
        rw [hq] at h1
        obtain ⟨hD, cc, hu, hcs, hcn, hle⟩ := h1.inv_sl
        split at hv
        · rename_i cs ez hk
          obtain ⟨arr, at', hh, hla, hca, CA⟩ := or_cells R hk
          split at hv
          · rename_i hb
            split at hv
            · -- the capacity is known
              rename_i cap
              split at hv
              · rename_i hcond
                obtain ⟨hc1, hc2⟩ := hcond
                simp only [Option.some.injEq, Res.ok.injEq] at hv
                subst hv
                have := hcs _ rfl
                subst this
                have hsc : sliceC g.h i.size (.sl k off len (some cc)) = some ((cs.drop off).take (len * i.size), len, [k]) := by simp [sliceC, hk, hc2]
                rw [hu] at h1
                obtain ⟨ous, CO, hol, holen, hofirst⟩ := src_ok R h1 hsc
                have hfo := hofirst len (Nat.le_refl _) P w.drew rfl
                have hocl := CO.len
                rw [list_arr (by omega)] at hfo
                have hg := run_grow (P := P) (w := w) (ty := o.type) ht htx hdx hi hzi' hlen hfo (hfn _ rfl) (by omega) (by omega) (growslice_fits (by omega) (by omega))
                obtain ⟨q1, q2, q3, q4⟩ := grow_ok R (hN (by simp)) (sLen := len) (n := n) (sCap := cc) (el := el) (zv := zv) CO C hol hl hzs
                refine ⟨_, _, _, _, ?_, .inl rfl, q3, q1, q2, q4⟩
                rw [hrun, hu, hg]
                simp
              · cases hv
            · -- it is the whole block's
              split at hv
              · rename_i hcond
                obtain ⟨rfl, hcl, rfl, hrd⟩ := hcond
                simp only [Option.some.injEq, Res.ok.injEq] at hv
                subst hv
                have hcc := hcn rfl rfl
                subst hcc
                have hal : (g.h k).alive := by rw [hk]; trivial
                by_cases hroom : len + n ≤ g.C k
                · -- room
                  have hmul : (len + n) * i.size ≤ g.C k * i.size := Nat.mul_le_mul_right _ hroom
                  have hap : (len + n) * i.size = len * i.size + n * i.size := Nat.add_mul _ _ _
                  have hst := run_storeCells_at P (g.B k) (len * i.size) at' us 0 arr w hh (by omega) C.one
                  simp only [Nat.add_zero] at hst
                  have hr := run_room (P := P) (w := w) (ty := o.type) ht htx hdx hi (base := some ⟨g.B k, 0, none⟩) (sLen := len) (sCap := g.C k) hlen (hfn w rfl) hroom (by simpa [Addr.add_lit] using hst)
                  obtain ⟨q1, q2, q3⟩ := over_ok R (hN (by simp)) hal (vo := .cells (cs ++ ys) i.size) (setRow_size w (g.B k) _) (fun b hb => setRow_other w _ _ _ hb) rfl rfl rfl (fun S hB => by
                    have CB := (CA.append C).move S hB
                    refine ⟨(arr.toList.take (len * i.size) ++ us ++ arr.toList.drop (len * i.size + us.length)).toArray, at', ?_, ?_, ?_, ?_⟩
                    · simpa [G.new] using setRow_heap w (g.B k) arr _ at' (0, 0) hh
                    · simp; omega
                    · simp [G.new, G.set]; omega
                    · intro j v u hv hu
                      have hu' : (arr.toList.take cs.length ++ us)[j]? = some u := by
                        have hj : j < (cs ++ ys).length := (List.getElem?_eq_some_iff.1 hv).1
                        rw [hcl]
                        rw [List.getElem?_toArray, List.getElem?_append_left (by simp at hj ⊢; omega)] at hu
                        exact hu
                      exact ⟨CB.one u (List.mem_of_getElem? hu'), CB.rel j v u hv hu'⟩)
                  refine ⟨_, _, _, .slice (some ⟨g.B k, 0, none⟩) (len + n) (g.C k), ?_, .inl rfl, q3, q1, q2, ?_⟩
                  · rw [hrun, hu, hr]
                    simp
                  · have := VR.sl (g := (g.set k .dead).new N (g.B k) (g.C k) (.cells (cs ++ ys) i.size)) (w := w.setRow (g.B k) (arr.toList.take (len * i.size) ++ us ++ arr.toList.drop (len * i.size + us.length)).toArray) N 0 (len + n) none (g.C k) (.inr rfl) (fun x hx => by cases hx) (fun _ _ => by simp [G.new]) hroom
                    simpa [G.new] using this
                · -- a new one
                  obtain ⟨r1, r2, r3⟩ := set_ok R (w' := w) (k := k) (vo := .dead) hal rfl (fun _ _ => rfl) rfl rfl rfl (fun _ => trivial)
                  have hsc : sliceC g.h i.size (.sl k 0 len none) = some ((cs.drop 0).take (len * i.size), len, [k]) := by simp [sliceC, hk, hcl]
                  rw [hu] at h1
                  obtain ⟨ous, CO, hol, holen, hofirst⟩ := src_ok R h1 hsc
                  have hfo := hofirst len (Nat.le_refl _) P w.drew rfl
                  have hocl := CO.len
                  rw [list_arr (by omega)] at hfo
                  have hcs' : (cs.drop 0).take (len * i.size) = cs := by rw [List.drop_zero, List.take_of_length_le (by omega)]
                  rw [hcs'] at CO hol
                  have hg := run_grow (P := P) (w := w) (ty := o.type) ht htx hdx hi hzi' hlen hfo (hfn _ rfl) (by omega) (by omega) (growslice_fits (by omega) (by omega))
                  obtain ⟨q1, q2, q3, q4⟩ := grow_ok r1 (N := N) (hN (by simp)) (sLen := len) (n := n) (sCap := g.C k) (el := el) (zv := zv) (CO.move r2 (G.set_move g k _)) (C.move r2 (G.set_move g k _)) hol hl hzs
                  refine ⟨_, _, _, _, ?_, .inl rfl, r3.trans q3, q1, r2.trans q2 (Nat.le_refl _), q4⟩
                  rw [hrun, hu, hg]
                  simp
              · cases hv
          · cases hv
        · cases hv
      · cases hv
end
end Go.Pv
namespace Go.Pv
variable [Sy]
section
variable {P : Program} {ρ : Operand → Value} {o : Oper} {g : G} {O0 : Nat → Prop} {w0 w : World} {e : Env} {N : Nat} {rc : Rec} {call : Callf}

theorem arr1 {α : Type} {a : Array α} {x : α} (h : a.toList = [x]) : a = #[x] := by rw [← Array.toArray_toList (xs := a), h]
theorem arr2 {α : Type} {a : Array α} {x y : α} (h : a.toList = [x, y]) : a = #[x, y] := by rw [← Array.toArray_toList (xs := a), h]
theorem szOf_info {t : TypeId} {i : TypeInfo} {n : Nat} (hi : P.info? t = some i) (h : szOf P t = some n) : n = i.size := by
  simp [szOf, hi] at h; exact h.symm
theorem isU8_ok {t : TypeId} (h : isU8 P t = true) : P.underlying t = some (.int .u8) := by
  unfold isU8 at h
  split at h
  · assumption
  · cases h

/-- Which operations enter another function, and which panic. -/
def VOp.far : VOp → Bool
  | .call _ _ | .calld _ _ | .pan _ => true
  | _ => false

theorem stripCall_ok (R : Rel g O0 w0 w) (E : Evs g w e ρ) (hN : N ∈ rc.upd.map (·.1) → ¬ g.D N) {c : Call} (ho : o.op = .call c) {vo : VOp} (hs : stripCall P c = some vo) (hf : vo.far = false) (hv : vop call g.h N e vo = some (.ok rc)) : OpOk P ρ o g O0 w0 w rc := by
  unfold stripCall at hs
  split at hs
  · simp only [Option.map_eq_some_iff] at hs
    obtain ⟨_, _, rfl⟩ := hs
    cases hf
  · split at hs
    · cases hs; cases hf
    · cases hs
  · rename_i hc
    split at hs
    · rename_i x t ha hty
      split at hs
      · rename_i h1 h2; cases hs; exact op_len R E ho hc (arr1 ha) (arr1 hty) h1 (.inl ⟨rfl, rfl⟩) h2 hv
      · rename_i h1 h2; cases hs; exact op_len R E ho hc (arr1 ha) (arr1 hty) h1 (.inr (.inl ⟨rfl, _, rfl⟩)) h2 hv
      · rename_i h1 h2; cases hs; exact op_len R E ho hc (arr1 ha) (arr1 hty) h1 (.inr (.inr ⟨rfl, _, _, rfl⟩)) h2 hv
      · cases hs
    · cases hs
  · rename_i hc
    split at hs
    · rename_i x y t u ha hty
      split at hs
      · rename_i e1 e2 x' y' h1 h2 h3 h4
        split at hs
        · rename_i n z i h5 h6 h7
          split at hs
          · rename_i hcond
            cases hs
            have := szOf_info h7 h5
            subst this
            exact op_app R E ho hc (arr2 ha) (arr2 hty) h1 h2 (.inr ⟨_, rfl⟩) h7 h6 hcond.1 hcond.2 h3 h4 hN hv
          · cases hs
        · cases hs
      · rename_i e1 x' y' h1 h2 h3 h4
        split at hs
        · rename_i n z i h5 h6 h7
          split at hs
          · rename_i hcond
            cases hs
            have := szOf_info h7 h5
            subst this
            exact op_app R E ho hc (arr2 ha) (arr2 hty) h1 h2 (.inl rfl) h7 h6 hcond.1 hcond.2 h3 h4 hN hv
          · cases hs
        · cases hs
      · cases hs
    · cases hs
  · rename_i hc
    split at hs
    · rename_i x y t u ha hty
      split at hs
      · rename_i h1 h2 h3
        simp only [Option.map_eq_some_iff] at hs
        obtain ⟨n, hn, rfl⟩ := hs
        exact op_copy R E ho hc (arr2 ha) (arr2 hty) h1 hn h2 h3 hv
      · cases hs
    · cases hs
  · rename_i hc
    split at hs
    · rename_i x t ha hty
      split at hs
      · rename_i h1 h2; cases hs; exact op_clearM R E ho hc (arr1 ha) (arr1 hty) h1 h2 hv
      · rename_i h1 h2
        split at hs
        · rename_i n z h3 h4
          split at hs
          · rename_i hcond
            cases hs
            exact op_clearS R E ho hc (arr1 ha) (arr1 hty) h1 h4 hcond.1 hcond.2 h2 hv
          · cases hs
        · cases hs
      · cases hs
    · cases hs
  · rename_i hc
    split at hs
    · rename_i m k t r ha hty
      have hty' : c.argTypes[0]? = some t := by rw [← Array.getElem?_toList, hty]; rfl
      split at hs
      · rename_i h1 h2 h3
        split at hs
        · rename_i h4; cases hs; exact op_del (ks := false) R E ho hc (arr2 ha) hty' h1 h4 ⟨_, rfl⟩ h2 h3 hv
        · rename_i h4; cases hs; exact op_del (ks := true) R E ho hc (arr2 ha) hty' h1 h4 rfl h2 h3 hv
        · cases hs
      · cases hs
    · cases hs
  · rename_i hc
    simp only [Option.map_eq_some_iff] at hs
    obtain ⟨l, hl, rfl⟩ := hs
    exact op_mx (b := true) R E ho hc hl hv
  · rename_i hc
    simp only [Option.map_eq_some_iff] at hs
    obtain ⟨l, hl, rfl⟩ := hs
    exact op_mx (b := false) R E ho hc hl hv
  · cases hs

theorem vop_ok (R : Rel g O0 w0 w) (E : Evs g w e ρ) (hN : N ∈ rc.upd.map (·.1) → ¬ g.D N) {vo : VOp} (hs : stripOp P o = some vo) (hf : vo.far = false) (hv : vop call g.h N e vo = some (.ok rc)) : OpOk P ρ o g O0 w0 w rc := by
  have hmov : ∀ {od : Od}, vop call g.h N e (.mov od) = some (.ok rc) → rc = ⟨od.ev e, [], []⟩ := fun h => by simp [vop, v_mov, v_pick, v_new, v_box, v_build, v_buildS, v_load, v_store, v_nilc, v_bin, v_una, v_conv, v_mkI, v_mkF, v_mkM, v_mkS, v_slc, v_fad, v_fld, v_iad, v_idx, v_look, v_mset, v_rng, v_nxt, v_tas, v_ext, v_call, v_calld, v_len, v_app, v_copy, v_clearM, v_clearS, v_del, v_mx, v_pan, ok1] at h; exact h.symm
  unfold stripOp at hs
  split at hs
  · rename_i x ho
    simp only [Option.map_eq_some_iff] at hs
    obtain ⟨a, ha, rfl⟩ := hs
    rw [hmov hv]
    exact op_mov R E (.inl ho) ha
  · rename_i x ho
    simp only [Option.map_eq_some_iff] at hs
    obtain ⟨a, ha, rfl⟩ := hs
    rw [hmov hv]
    exact op_mov R E (.inr ho) ha
  · -- pick
    rename_i c a b ho
    split at hs
    · rename_i h1 h2 h3; cases hs; exact op_pick R E ho h1 h2 h3 hv
    · cases hs
  · -- alloc
    rename_i t ho
    simp only [Option.map_eq_some_iff] at hs
    obtain ⟨z, hz, rfl⟩ := hs
    exact op_new R ho hz hN hv
  · -- box
    rename_i t x ho
    split at hs
    · rename_i h1 h2; cases hs; exact op_box R E ho h1 hN hv
    · cases hs
  · -- build
    rename_i t parts ho
    split at hs
    · rename_i h1 h2
      split at hs
      · rename_i pl h3
        simp only [Option.map_eq_some_iff] at hs
        obtain ⟨ps, hps, rfl⟩ := hs
        exact op_build_s R E ho h1 h2 h3 hps hv
      · cases hs
    · rename_i h1 h2
      split at hs
      · rename_i n h3
        simp only [Option.map_eq_some_iff] at hs
        obtain ⟨ps, hps, rfl⟩ := hs
        exact op_build_a R E ho h1 h2 h3 hps hv
      · cases hs
    · cases hs
  · -- buildSlice
    rename_i t len parts ho
    split at hs
    · rename_i el h1
      split at hs
      · rename_i n z h2 h3
        split at hs
        · rename_i hcond
          simp only [Option.map_eq_some_iff] at hs
          obtain ⟨ps, hps, rfl⟩ := hs
          exact op_buildS R E ho h1 h3 h2 hcond.1 hcond.2.1 hcond.2.2 hps hN hv
        · cases hs
      · cases hs
    · cases hs
  · -- load
    rename_i t a ho
    split at hs
    · rename_i h1 h2; cases hs; exact op_load R E ho h1 h2 hv
    · cases hs
  · -- store
    rename_i t a x ho
    split at hs
    · rename_i h1 h2 h3; cases hs; exact op_store R E ho h1 h2 h3 hv
    · cases hs
  · -- nilCheck
    rename_i x ho
    simp only [Option.map_eq_some_iff] at hs
    obtain ⟨a, ha, rfl⟩ := hs
    exact op_nilc R E ho ha hv
  · -- binOp
    rename_i op t x y ty ho
    split at hs
    · rename_i h1 h2; cases hs; exact op_bin R E ho h1 h2 hv
    · cases hs
  · -- unOp
    rename_i op ty x ho
    simp only [Option.map_eq_some_iff] at hs
    obtain ⟨a, ha, rfl⟩ := hs
    exact op_una R E ho ha hv
  · -- convert
    rename_i s d x ho
    split at hs
    · rename_i h1 h2 h3; cases hs; exact op_conv_int R E ho h1 h2 h3 hv
    · rename_i h1 h2 h3; cases hs; exact op_conv_same R E ho h1 h2 h3 hv
    · rename_i h1 h2 h3
      split at hs
      · rename_i hu; cases hs; exact op_s2b R E ho h1 (isU8_ok hu) h2 h3 hv
      · cases hs
    · rename_i h1 h2 h3
      split at hs
      · rename_i hu; cases hs; exact op_b2s R E ho h1 (isU8_ok hu) h2 h3 hv
      · cases hs
    · cases hs
  · -- makeInterface
    rename_i t x ho
    split at hs
    · cases hs
    · rename_i d x' hne h1 h2
      cases hs
      simp [vop, v_mov, v_pick, v_new, v_box, v_build, v_buildS, v_load, v_store, v_nilc, v_bin, v_una, v_conv, v_mkI, v_mkF, v_mkM, v_mkS, v_slc, v_fad, v_fld, v_iad, v_idx, v_look, v_mset, v_rng, v_nxt, v_tas, v_ext, v_call, v_calld, v_len, v_app, v_copy, v_clearM, v_clearS, v_del, v_mx, v_pan, ok1] at hv
      subst hv
      exact op_mkI R E ho h2 h1 (fun ms hms => by subst hms; exact hne _ rfl)
    · cases hs
  · -- makeFunc
    rename_i f a b ho
    split at hs
    · rename_i h1 h2
      cases hs
      simp [vop, v_mov, v_pick, v_new, v_box, v_build, v_buildS, v_load, v_store, v_nilc, v_bin, v_una, v_conv, v_mkI, v_mkF, v_mkM, v_mkS, v_slc, v_fad, v_fld, v_iad, v_idx, v_look, v_mset, v_rng, v_nxt, v_tas, v_ext, v_call, v_calld, v_len, v_app, v_copy, v_clearM, v_clearS, v_del, v_mx, v_pan, ok1] at hv
      subst hv
      exact op_mkF R E ho h1 h2
    · cases hs
  · -- makeMap
    rename_i t r ho
    split at hs
    · rename_i h1; cases hs; exact op_mkM R ho hN hv
    · cases hs
  · -- makeSlice
    rename_i t l c ho
    split at hs
    · rename_i h1 h2 h3
      split at hs
      · rename_i n z i h4 h5 h6
        split at hs
        · rename_i hcond
          cases hs
          have := szOf_info h6 h4
          subst this
          exact op_mkS R E ho h1 h6 h5 hcond.1 hcond.2 h2 h3 hN hv
        · cases hs
      · cases hs
    · cases hs
  · -- slice
    rename_i t x lo hi mx ho
    split at hs
    · rename_i x' lo' hi' h1 h2 h3 h4 h5
      cases hs
      have hmx : mx = none := by
        cases mx with
        | none => rfl
        | some m => simp [odOpt] at h5
      subst hmx
      exact op_slc_str R E ho h1 h2 h3 h4 hv
    · rename_i el x' lo' hi' mx' h1 h2 h3 h4 h5
      split at hs
      · rename_i n h6
        split at hs
        · rename_i hcond
          cases hs
          exact op_slc R E ho h1 h6 hcond.1 hcond.2 h2 h3 h4 h5 hv
        · cases hs
      · cases hs
    · cases hs
  · -- fieldAddr
    rename_i s x f ho
    split at hs
    · rename_i fs x' h1 h2
      split at hs
      · rename_i fd h3
        split at hs
        · rename_i n h4
          split at hs
          · rename_i hcond; cases hs; exact op_fad R E ho h1 h3 h4 hcond h2 hv
          · cases hs
        · cases hs
      · cases hs
    · cases hs
  · -- field
    rename_i s x f ho
    split at hs
    · rename_i fs x' h1 h2
      split at hs
      · rename_i fd h3
        simp only [Option.map_eq_some_iff] at hs
        obtain ⟨gg, hg, rfl⟩ := hs
        exact op_fld R E ho h1 h3 hg h2 hv
      · cases hs
    · cases hs
  · -- indexAddr
    rename_i t x i ho
    split at hs
    · rename_i n el x' i' h1 h2 h3
      split at hs
      · rename_i k h4
        split at hs
        · rename_i hcond; cases hs; exact op_iad_a R E ho h1 h4 hcond.1 h2 h3 hv
        · cases hs
      · cases hs
    · rename_i el x' i' h1 h2 h3
      split at hs
      · rename_i k h4
        split at hs
        · rename_i hcond; cases hs; exact op_iad_s R E ho h1 h4 hcond h2 h3 hv
        · cases hs
      · cases hs
    · cases hs
  · -- index
    rename_i t x i ho
    split at hs
    · rename_i n el x' i' h1 h2 h3
      split at hs
      · rename_i h4 h5; cases hs; exact op_idx_a R E ho h1 h4 h5 h2 h3 hv
      · cases hs
    · rename_i x' i' h1 h2 h3
      cases hs
      exact op_idx_s R E ho h1 h2 h3 hv
    · cases hs
  · -- lookup
    rename_i t m k ok ho
    split at hs
    · rename_i kt el m' k' h1 h2 h3
      split at hs
      · rename_i h4 h5; cases hs; exact op_look (ks := false) R E ho h1 h4 ⟨_, rfl⟩ h5 h2 h3 hv
      · rename_i h4 h5; cases hs; exact op_look (ks := true) R E ho h1 h4 rfl h5 h2 h3 hv
      · cases hs
    · cases hs
  · -- mapUpdate
    rename_i t m k x ho
    split at hs
    · rename_i kt el m' k' x' h1 h2 h3 h4
      split at hs
      · rename_i h5; cases hs; exact op_mset (ks := false) R E ho h1 h5 ⟨_, rfl⟩ h2 h3 h4 hv
      · rename_i h5; cases hs; exact op_mset (ks := true) R E ho h1 h5 rfl h2 h3 h4 hv
      · cases hs
    · cases hs
  · -- range
    rename_i t x ho
    split at hs
    · rename_i h1 h2; cases hs; exact op_rng R E ho h1 h2 hN hv
    · cases hs
  · -- next
    rename_i x ho
    simp only [Option.map_eq_some_iff] at hs
    obtain ⟨a, ha, rfl⟩ := hs
    exact op_nxt R E ho ha hv
  · -- typeAssert
    rename_i x xt t ok ho
    split at hs
    · cases hs
    · rename_i d x' z hne h1 h2 h3
      cases hs
      exact op_tas R E ho h1 (fun ms hms => by subst hms; exact hne _ rfl) h3 h2 hv
    · cases hs
  · -- extract
    rename_i x i ho
    simp only [Option.map_eq_some_iff] at hs
    obtain ⟨a, ha, rfl⟩ := hs
    exact op_ext R E ho ha hv
  · -- panic
    simp only [Option.map_eq_some_iff] at hs
    obtain ⟨_, _, rfl⟩ := hs
    cases hf
  · -- call
    rename_i c ho
    exact stripCall_ok R E hN ho hs hf hv
  · cases hs
end
end Go.Pv
namespace Go.Pv
variable [Sy]

/-! ### Names given anew. -/
mutual
theorem V.ren_ren (f b : Nat → Nat) : ∀ v : V, (∀ k ∈ v.refs, b (f k) = k) → (v.ren f).ren b = v
  | .ptr k o, h => by simp [V.ren, h k (by simp [V.refs])]
  | .sl k o l c, h => by simp [V.ren, h k (by simp [V.refs])]
  | .mp k, h => by simp [V.ren, h k (by simp [V.refs])]
  | .fn g a c, h => by
    simp only [V.refs, List.mem_append] at h
    simp [V.ren, renL_renL f b a fun k hk => h k (.inl hk), renL_renL f b c fun k hk => h k (.inr hk)]
  | .ifc t v, h => by simp [V.ren, V.ren_ren f b v (by simpa [V.refs] using h)]
  | .agg cs, h => by simp [V.ren, renL_renL f b cs (by simpa [V.refs] using h)]
  | .tup cs, h => by simp [V.ren, renL_renL f b cs (by simpa [V.refs] using h)]
  | .un, _ | .bool _, _ | .int _ _, _ | .str _, _ | .nilp, _ | .ip _, _ | .nils, _ | .is _ _, _ | .nilm, _ | .im _, _ | .nilf, _ | .nili, _ | .tm _ _, _ | .ct _, _ | .cb _, _ | .it _ _, _ | .iv _ _ _ _ _, _ => by simp [V.ren]
theorem renL_renL (f b : Nat → Nat) : ∀ l : List V, (∀ k ∈ V.refs.refsL l, b (f k) = k) → V.ren.renL b (V.ren.renL f l) = l
  | [], _ => rfl
  | v :: l, h => by
    simp only [V.refs.refsL, List.mem_append] at h
    simp [V.ren.renL, V.ren_ren f b v fun k hk => h k (.inl hk), renL_renL f b l fun k hk => h k (.inr hk)]
end
theorem VO.ren_ren (f b : Nat → Nat) (o : VO) (h : ∀ k ∈ o.refs, b (f k) = k) : (o.ren f).ren b = o := by
  cases o with
  | dead => rfl
  | cells cs e => simp [VO.ren, renL_renL f b cs (by simpa [VO.refs] using h)]
  | map es =>
    simp only [VO.ren, List.map_map, VO.map.injEq]
    conv => rhs; rw [← List.map_id es]
    apply List.map_congr_left
    intro e he
    simp only [VO.refs, List.mem_flatMap, List.mem_append] at h
    simp [V.ren_ren f b e.1 fun k hk => h k ⟨e, he, .inl hk⟩, V.ren_ren f b e.2 fun k hk => h k ⟨e, he, .inr hk⟩]
  | iter s p => rfl
theorem VO.alive_ren (f : Nat → Nat) (o : VO) : (o.ren f).alive ↔ o.alive := by cases o <;> rfl

theorem refsL_map {l : List V} {k : Nat} : k ∈ V.refs.refsL l ↔ ∃ v ∈ l, k ∈ v.refs := by
  induction l with
  | nil => simp [V.refs.refsL]
  | cons v l ih => simp [V.refs.refsL, ih]

/-- An object under other names. -/
theorem OR.ren {g g' : G} {w w' : World} {k k' : Nat} {o : VO} {f : Nat → Nat} (h : OR g w k o) (s : Step g w g' w')
    (hf : ∀ k ∈ o.refs, g.D k → g'.D (f k) ∧ g'.B (f k) = g.B k ∧ g'.C (f k) = g.C k) (hB : g'.B k' = g.B k) (hC : g'.C k' = g.C k) (hh : w'.heap[g.B k]? = w.heap[g.B k]?) : OR g' w' k' (o.ren f) := by
  cases o with
  | dead => trivial
  | cells cs esz =>
    obtain ⟨arr, t, h, h1, h2, h3⟩ := h
    refine ⟨arr, t, by rw [hB, hh]; exact h, by rw [len_renL]; exact h1, by rw [hC]; exact h2, fun j c u hc hu => ?_⟩
    obtain ⟨y, hy, rfl⟩ := getL_ren hc
    obtain ⟨q1, q2⟩ := h3 j y u hy hu
    exact ⟨q1, q2.ren s fun k hk => hf k (by simp only [VO.refs]; exact refsL_mem hy k hk)⟩
  | map es =>
    obtain ⟨arr, ck, h, h1, h2⟩ := h
    refine ⟨arr, ck, by rw [hB, hh]; exact h, by simpa using h1, fun j e m he hm => ?_⟩
    simp only [List.getElem?_map, Option.map_eq_some_iff] at he
    obtain ⟨y, hy, rfl⟩ := he
    obtain ⟨q1, q2⟩ := h2 j y m hy hm
    have hmem : y ∈ es := List.mem_of_getElem? hy
    exact ⟨q1.ren s fun k hk => hf k (by simp only [VO.refs, List.mem_flatMap, List.mem_append]; exact ⟨y, hmem, .inl hk⟩),
      q2.ren s fun k hk => hf k (by simp only [VO.refs, List.mem_flatMap, List.mem_append]; exact ⟨y, hmem, .inr hk⟩)⟩
  | iter t pos => show w'.heap[g'.B k']? = _; rw [hB, hh]; exact h

/-! ### What a call keeps. -/
/-- The blocks that were laid before all. -/
def Laid0 (H : Array Obj) (g : G) (w : World) : Prop := ∀ b, b < H.size → ¬ g.O b ∧ w.heap[b]? = H[b]?
theorem Laid0.step {H : Array Obj} {g g' : G} {w w' : World} (h : Laid0 H g w) (s : Step g w g' w') : Laid0 H g' w' := fun b hb => by
  obtain ⟨h1, h2⟩ := h b hb
  have hlt : b < w.heap.size := by
    rcases Nat.lt_or_ge b w.heap.size with h' | h'
    · exact h'
    · rw [Array.getElem?_eq_none h', Array.getElem?_eq_getElem hb] at h2; cases h2
  obtain ⟨h3, h4⟩ := s.stay b h1 hlt
  exact ⟨h3, h4.trans h2⟩
/-- The package-level variables hold what is known of them. -/
def GlobH (H : Array Obj) : Prop := ∀ (g : G) (w : World), Laid0 H g w → ∀ k, VR g w true (globT k) (.pointer (some ⟨k, 0, none⟩))
structure Laid (H : Array Obj) (g : G) (w : World) : Prop where
  all : Laid0 H g w
  glob : GlobH H
theorem Laid.step {H : Array Obj} {g g' : G} {w w' : World} (h : Laid H g w) (s : Step g w g' w') : Laid H g' w' := ⟨h.all.step s, h.glob⟩

/-- Some objects are no longer known. -/
def G.kill (g : G) (m : List Nat) : G := { g with h := fun k => if k ∈ m then .dead else g.h k }
theorem G.kill_nil (g : G) : g.kill [] = g := by simp [G.kill]
def own (g : G) (b : Nat) : Prop := ∃ k, (g.h k).alive ∧ g.B k = b
/-- A function's first state. -/
structure Ent (H : Array Obj) (g : G) (w : World) (hl : List VO) : Prop where
  rel : Rel g (own g) w w
  dom : ∀ k, g.D k ↔ k < hl.length
  h : ∀ k, g.h k = hl.getD k .dead
  laid : Laid H g w
def Args (g : G) (w : World) (args : List V) (us : Array Value) : Prop :=
  us.size = args.length ∧ ∀ (j : Nat) (x : V) (u : Value), args[j]? = some x → us[j]? = some u → VR g w true x u
/-- What is known of what was thrown. -/
def PanR (v : V) (u : Value) : Prop := ∃ t x y, v = .ifc t x ∧ u = .iface t y

structure Aft (g : G) (w : World) (g' : G) (w' : World) : Prop where
  rel : Rel g' (own g) w w'
  step : Step g w g' w'
  X : g'.X = g.X
structure AftOk (g : G) (w : World) (hl : List VO) (g' : G) (w' : World) (v : V) (hl' : List VO) (ws : List Nat) (u : Value) : Prop where
  aft : Aft g w g' w'
  dom : ∀ k, g'.D k ↔ k < hl'.length
  h : ∀ k, g'.h k = hl'.getD k .dead
  len : hl.length ≤ hl'.length
  B : ∀ k, k < hl.length → g'.B k = g.B k ∧ g'.C k = g.C k
  val : VR g' w' true v u
  ws : ∀ k, k < hl.length → k ∉ ws → hl'.getD k .dead = hl.getD k .dead

def CallR (g : G) (w : World) (hl : List VO) (r : CRes) : Ending → World → Prop
  | .returned u, w' => ∃ v hl' ws g', r = .ok v hl' ws ∧ AftOk g w hl g' w' v hl' ws u
  | .panicked chain, w' => ∃ v g' u, r = .pan v ∧ chain = [{ v := u, recovered := false }] ∧ PanR v u ∧ Aft g w g' w'
  | .outgrown, _ => False
/-- A function, called: it is entered, or it is the model's own. -/
def Far (P : Program) (f : FuncId) (us : Array Value) (w : World) (R : Ending → World → Prop) : Prop :=
  ((callFunc f us).run P w = .ok (.enter f us) w ∧ Calls P f us w R) ∨ ∃ u w', (callFunc f us).run P w = .ok (.value u) w' ∧ R (.returned u) w'
theorem Far.mono {P : Program} {f : FuncId} {us : Array Value} {w : World} {R R' : Ending → World → Prop} (h : Far P f us w R) (hr : ∀ e w', R e w' → R' e w') : Far P f us w R' := by
  rcases h with ⟨h1, h2⟩ | ⟨u, w', h1, h2⟩
  · exact .inl ⟨h1, h2.mono hr⟩
  · exact .inr ⟨u, w', h1, hr _ _ h2⟩
/-- The machine's calls are the model's. -/
def CallOk (P : Program) (H : Array Obj) (call : Callf) : Prop :=
  ∀ f args hl r, call f args hl = some r → ∀ (g : G) (w : World) (us : Array Value), Ent H g w hl → Args g w args us → Far P f us w (CallR g w hl r)
end Go.Pv
namespace Go.Pv
variable [Sy]
section
variable {P : Program} {H : Array Obj} {g : G} {O0 : Nat → Prop} {w0 w : World} {rc : Rec} {call : Callf}

theorem VR.refs_D {r : Bool} {v : V} {u : Value} (h : VR g w r v u) : ∀ k ∈ v.refs, g.D k := by
  have elem : ∀ (cs : List V) (us : List Value), us.length = cs.length → (∀ (j : Nat) (x : V) (u : Value), cs[j]? = some x → us[j]? = some u → ∀ k ∈ x.refs, g.D k) → ∀ k ∈ V.refs.refsL cs, g.D k := by
    intro cs us hl ha k hk
    obtain ⟨v, hv, hkv⟩ := refsL_map.1 hk
    obtain ⟨j, hj⟩ := List.mem_iff_getElem?.1 hv
    have hjl : j < us.length := by rw [hl]; exact (List.getElem?_eq_some_iff.1 hj).1
    exact ha j v us[j] hj (List.getElem?_eq_getElem hjl) k hkv
  induction h with
  | ptr k off hD => intro q hq; simp [V.refs] at hq; subst hq; exact hD
  | sl k off len cap c hD _ _ _ => intro q hq; simp [V.refs] at hq; subst hq; exact hD
  | mp k hD => intro q hq; simp [V.refs] at hq; subst hq; exact hD
  | fn r f a b A A' hl hl' ha hb iha ihb =>
    intro q hq
    simp only [V.refs, List.mem_append] at hq
    rcases hq with hq | hq
    · exact elem a A.toList (by simpa using hl) (fun j x u hx hu => iha j x u hx (by simpa using hu)) q hq
    · exact elem b A'.toList (by simpa using hl') (fun j x u hx hu => ihb j x u hx (by simpa using hu)) q hq
  | ifc r t v u h ih => intro q hq; exact ih q (by simpa [V.refs] using hq)
  | agg r cs U hl h1 ha ih => intro q hq; exact elem cs U.toList (by simpa using hl) (fun j x u hx hu => ih j x u hx (by simpa using hu)) q (by simpa [V.refs] using hq)
  | tup r cs U hl ha ih => intro q hq; exact elem cs U.toList (by simpa using hl) (fun j x u hx hu => ih j x u hx (by simpa using hu)) q (by simpa [V.refs] using hq)
  | _ => intro q hq; simp [V.refs] at hq

theorem OR.refs_D {k : Nat} {o : VO} (h : OR g w k o) : ∀ q ∈ o.refs, g.D q := by
  cases o with
  | dead => intro q hq; simp [VO.refs] at hq
  | iter => intro q hq; simp [VO.refs] at hq
  | cells cs esz =>
    obtain ⟨arr, t, _, hl, _, hr⟩ := h
    intro q hq
    simp only [VO.refs] at hq
    obtain ⟨v, hv, hkv⟩ := refsL_map.1 hq
    obtain ⟨j, hj⟩ := List.mem_iff_getElem?.1 hv
    have hjl : j < arr.size := Nat.lt_of_lt_of_le (List.getElem?_eq_some_iff.1 hj).1 hl
    exact (hr j v arr[j] hj (Array.getElem?_eq_getElem hjl)).2.refs_D q hkv
  | map es =>
    obtain ⟨arr, ck, _, hl, hr⟩ := h
    intro q hq
    simp only [VO.refs, List.mem_flatMap, List.mem_append] at hq
    obtain ⟨p, hp, hq⟩ := hq
    obtain ⟨j, hj⟩ := List.mem_iff_getElem?.1 hp
    have hjl : j < arr.size := by rw [hl]; exact (List.getElem?_eq_some_iff.1 hj).1
    obtain ⟨h1, h2⟩ := hr j p arr[j] hj (Array.getElem?_eq_getElem hjl)
    rcases hq with hq | hq
    · exact h1.refs_D q hq
    · exact h2.refs_D q hq

theorem Args.refs_D {args : List V} {us : Array Value} (h : Args g w args us) : ∀ k ∈ V.refs.refsL args, g.D k := by
  intro k hk
  obtain ⟨v, hv, hkv⟩ := refsL_map.1 hk
  obtain ⟨j, hj⟩ := List.mem_iff_getElem?.1 hv
  have hjl : j < us.size := by rw [h.1]; exact (List.getElem?_eq_some_iff.1 hj).1
  exact (h.2 j v us[j] hj (Array.getElem?_eq_getElem hjl)).refs_D k hkv

theorem reach_nodup (h : Nat → VO) : ∀ (n : Nat) (todo acc : List Nat), acc.Nodup → (reach h n todo acc).Nodup
  | 0, _, acc, ha => by simpa [reach] using ha
  | n + 1, [], acc, ha => by simpa [reach] using ha
  | n + 1, k :: todo, acc, ha => by
    unfold reach
    split
    · exact reach_nodup h n todo acc ha
    · rename_i hk
      refine reach_nodup h n _ _ ?_
      rw [List.nodup_append]
      refine ⟨ha, by simp, fun a ha' b hb => ?_⟩
      simp at hb
      subst hb
      intro e
      subst e
      exact hk (by simpa using ha')

theorem reach_D (R : Rel g O0 w0 w) : ∀ (n : Nat) (todo acc : List Nat), (∀ k ∈ todo, g.D k) → (∀ k ∈ acc, g.D k) → ∀ k ∈ reach g.h n todo acc, g.D k
  | 0, _, acc, _, ha => by simpa [reach] using ha
  | n + 1, [], acc, _, ha => by simpa [reach] using ha
  | n + 1, k :: todo, acc, ht, ha => by
    unfold reach
    split
    · exact reach_D R n todo acc (fun q hq => ht q (by simp [hq])) ha
    · refine reach_D R n _ _ ?_ ?_
      · intro q hq
        rcases List.mem_append.1 hq with hq | hq
        · exact (R.obj k).refs_D q hq
        · exact ht q (by simp [hq])
      · intro q hq
        rcases List.mem_append.1 hq with hq | hq
        · exact ha q hq
        · simp at hq; subst hq; exact ht q (by simp)

/-- What a callee is handed: the objects of m, under new numbers. -/
def G.sub (g : G) (m : List Nat) : G where
  D := fun i => i < m.length
  X := fun b => g.X b ∨ ∃ k, (g.h k).alive ∧ k ∉ m ∧ g.B k = b
  B := fun i => g.B (m.getD i 0)
  C := fun i => g.C (m.getD i 0)
  h := fun i => (m.map fun k => (g.h k).ren fun k => m.idxOf k).getD i .dead

theorem idx_lt {m : List Nat} {k : Nat} (h : k ∈ m) : m.idxOf k < m.length := List.idxOf_lt_length_of_mem h
theorem idx_get {m : List Nat} {k : Nat} (h : k ∈ m) : m.getD (m.idxOf k) 0 = k := by
  rw [List.getD_eq_getElem?_getD, List.getElem?_eq_getElem (idx_lt h), List.getElem_idxOf]
  rfl
theorem idx_of {m : List Nat} (hn : m.Nodup) {i : Nat} (h : i < m.length) : m.idxOf (m.getD i 0) = i := by
  rw [List.getD_eq_getElem?_getD, List.getElem?_eq_getElem h]
  exact hn.idxOf_getElem i h
theorem get_mem {m : List Nat} {i : Nat} (h : i < m.length) : m.getD i 0 ∈ m := by
  rw [List.getD_eq_getElem?_getD, List.getElem?_eq_getElem h]
  exact List.getElem_mem h

theorem sub_h {m : List Nat} {i : Nat} (h : i < m.length) : (g.sub m).h i = (g.h (m.getD i 0)).ren fun k => m.idxOf k := by
  simp [G.sub, List.getD_eq_getElem?_getD, h]
theorem sub_dead {m : List Nat} {i : Nat} (h : m.length ≤ i) : (g.sub m).h i = .dead := by
  simp [G.sub, List.getD_eq_getElem?_getD, h]
theorem sub_h' {m : List Nat} {i : Nat} (h : (( g.sub m).h i).alive) : i < m.length ∧ (g.h (m.getD i 0)).alive := by
  rcases Nat.lt_or_ge i m.length with h' | h'
  · rw [sub_h h', VO.alive_ren] at h; exact ⟨h', h⟩
  · rw [sub_dead h'] at h; exact h.elim

theorem sub_O {m : List Nat} {b : Nat} : (g.sub m).O b ↔ g.O b := by
  constructor
  · rintro ((h | ⟨k, ha, _, e⟩) | ⟨i, ha, e⟩)
    · exact .inl h
    · exact .inr ⟨k, ha, e⟩
    · obtain ⟨_, h⟩ := sub_h' ha
      exact .inr ⟨_, h, e⟩
  · rintro (h | ⟨k, ha, e⟩)
    · exact .inl (.inl h)
    · by_cases hk : k ∈ m
      · exact .inr ⟨m.idxOf k, by rw [sub_h (idx_lt hk), idx_get hk, VO.alive_ren]; exact ha, by show g.B (m.getD (m.idxOf k) 0) = b; rw [idx_get hk]; exact e⟩
      · exact .inl (.inr ⟨k, ha, hk, e⟩)

theorem sub_step {m : List Nat} : Step g w (g.sub m) w := ⟨fun b hb _ => ⟨fun h => hb (sub_O.1 h), rfl⟩⟩

theorem sub_ent (R : Rel g O0 w0 w) (L : Laid H g w) {m roots : List Nat} (hn : m.Nodup) (hc : closed g.h m roots = true) :
    Ent H (g.sub m) w (m.map fun k => (g.h k).ren fun k => m.idxOf k) := by
  simp only [closed, Bool.and_eq_true, List.all_eq_true, List.contains_iff_mem] at hc
  have hcl : ∀ k ∈ m, ∀ q ∈ (g.h k).refs, q ∈ m := hc.2
  refine ⟨⟨?_, ?_, ?_, ?_, ?_, ?_, Nat.le_refl _, fun _ _ _ => rfl, rfl, rfl, rfl⟩, fun k => by simp [G.sub], fun k => rfl, L.step sub_step⟩
  · intro i ha
    exact (sub_h' ha).1
  · intro i j hi hj e
    obtain ⟨h1, h2⟩ := sub_h' hi
    obtain ⟨h3, h4⟩ := sub_h' hj
    have := R.inj _ _ h2 h4 e
    rw [← idx_of hn h1, this, idx_of hn h3]
  · rintro i hi (hx | ⟨k, ha, hk, e⟩)
    · exact R.sep _ (sub_h' hi).2 hx
    · have := R.inj k _ ha (sub_h' hi).2 e
      exact hk (this ▸ get_mem (sub_h' hi).1)
  · intro i
    rcases Nat.lt_or_ge i m.length with hi | hi
    · rw [sub_h hi]
      refine (R.obj _).ren sub_step ?_ rfl rfl rfl
      intro q hq hD
      have hqm := hcl _ (get_mem hi) q hq
      exact ⟨idx_lt hqm, by show g.B (m.getD (m.idxOf q) 0) = _; rw [idx_get hqm], by show g.C (m.getD (m.idxOf q) 0) = _; rw [idx_get hqm]⟩
    · rw [sub_dead hi]; trivial
  · intro i ha
    exact .inl ⟨i, ha, rfl⟩
  · rintro b (hx | ⟨k, ha, _, e⟩)
    · exact Nat.lt_of_lt_of_le (R.xlt b hx) R.size
    · rw [← e]; exact (R.obj k).lt ha
end
end Go.Pv
namespace Go.Pv
variable [Sy]
section
variable {P : Program} {H : Array Obj} {g : G} {O0 : Nat → Prop} {w0 w : World} {rc : Rec} {call : Callf}

/-- The caller's view behind a call. -/
def G.back (g g' : G) (m : List Nat) (nk ex : Nat) (upd : List (Nat × VO)) : G where
  D := fun k => g.D k ∨ k ∈ upd.map (·.1)
  X := g.X
  B := fun k => if nk ≤ k ∧ k < nk + ex then g'.B (m.length + (k - nk)) else g.B k
  C := fun k => if nk ≤ k ∧ k < nk + ex then g'.C (m.length + (k - nk)) else g.C k
  h := fun k => lookU upd k (g.h k)

theorem lookU_notin {u : List (Nat × VO)} {k : Nat} {d : VO} (h : k ∉ u.map (·.1)) : lookU u k d = d := by
  induction u generalizing d with
  | nil => rfl
  | cons p u ih =>
    obtain ⟨j, o⟩ := p
    simp only [List.map_cons, List.mem_cons, not_or] at h
    rw [lookU, ih h.2, if_neg (fun e => h.1 e.symm)]
/-- Each key's objects being one. -/
theorem lookU_fun {u : List (Nat × VO)} {k : Nat} {d o : VO} (hk : k ∈ u.map (·.1)) (h : ∀ o', (k, o') ∈ u → o' = o) : lookU u k d = o := by
  induction u generalizing d with
  | nil => simp at hk
  | cons p u ih =>
    obtain ⟨j, o'⟩ := p
    by_cases hk' : k ∈ u.map (·.1)
    · exact ih hk' fun o'' h' => h o'' (List.mem_cons_of_mem _ h')
    · have hj : j = k := by
        simp only [List.map_cons, List.mem_cons] at hk
        rcases hk with e | e
        · exact e.symm
        · exact absurd e hk'
      subst hj
      rw [lookU, lookU_notin hk', if_pos rfl]
      exact h o' (by simp)

def backOf (m : List Nat) (nk : Nat) : Nat → Nat := fun k => if k < m.length then m.getD k 0 else nk + (k - m.length)
def updOf (m : List Nat) (nk : Nat) (h' : List VO) (ws : List Nat) : List (Nat × VO) :=
  (ws.map fun i => (m.getD i 0, (h'.getD i .dead).ren (backOf m nk))) ++ ((List.range (h'.length - m.length)).map fun i => (nk + i, ((h'.getD (m.length + i) .dead)).ren (backOf m nk)))

theorem mem_updOf {m : List Nat} {nk : Nat} {h' : List VO} {ws : List Nat} {k : Nat} : k ∈ (updOf m nk h' ws).map (·.1) ↔ (∃ i ∈ ws, m.getD i 0 = k) ∨ ∃ i, i < h'.length - m.length ∧ nk + i = k := by
  simp [updOf]
theorem mem_updOf' {m : List Nat} {nk : Nat} {h' : List VO} {ws : List Nat} {k : Nat} {o : VO} : (k, o) ∈ updOf m nk h' ws ↔ (∃ i ∈ ws, m.getD i 0 = k ∧ (h'.getD i .dead).ren (backOf m nk) = o) ∨ ∃ i, i < h'.length - m.length ∧ nk + i = k ∧ (h'.getD (m.length + i) .dead).ren (backOf m nk) = o := by
  simp [updOf]

theorem doCall_ok (HC : CallOk P H call) (R : Rel g O0 w0 w) (L : Laid H g w) {f : FuncId} {args : List V} {us : Array Value} {nk : Nat} {res : Res} (ha : Args g w args us) (hv : doCall call g.h nk f args = some res)
    (hN : ∀ rc, res = .ok rc → (∀ k ∈ rc.rd, k < nk) ∧ ∀ k, nk ≤ k → k ∈ rc.upd.map (·.1) → ¬ g.D k) :
    Far P f us w fun
      | .returned u, w' => ∃ rc g', res = .ok rc ∧ Eff g rc.upd g' ∧ Rel g' O0 w0 w' ∧ Step g w g' w' ∧ VR g' w' true rc.val u
      | .panicked chain, w' => ∃ v u, res = .pan v ∧ chain = [{ v := u, recovered := false }] ∧ PanR v u ∧ Rel (g.kill (reach g.h 2000 (V.refs.refsL args) [])) O0 w0 w' ∧ Step g w (g.kill (reach g.h 2000 (V.refs.refsL args) [])) w'
      | .outgrown, _ => False := by
  simp only [doCall] at hv
  split at hv
  · rename_i hcl
    generalize hm : reach g.h 2000 (V.refs.refsL args) [] = m at hv hcl hN ⊢
    have hnd : m.Nodup := hm ▸ reach_nodup g.h 2000 _ [] (by simp)
    have hmD : ∀ k ∈ m, g.D k := hm ▸ reach_D R 2000 _ [] ha.refs_D (by simp)
    have hcl' := hcl
    simp only [closed, Bool.and_eq_true, List.all_eq_true, List.contains_iff_mem] at hcl'
    have E := sub_ent R L hnd hcl
    have hA : Args (g.sub m) w (V.ren.renL (fun k => m.idxOf k) args) us := by
      refine ⟨by rw [len_renL]; exact ha.1, fun j x u hx hu => ?_⟩
      obtain ⟨y, hy, rfl⟩ := getL_ren hx
      refine (ha.2 j y u hy hu).ren sub_step fun q hq _ => ?_
      have hqm := hcl'.1 q (refsL_mem hy q hq)
      exact ⟨idx_lt hqm, by show g.B (m.getD (m.idxOf q) 0) = _; rw [idx_get hqm], by show g.C (m.getD (m.idxOf q) 0) = _; rw [idx_get hqm]⟩
    split at hv
    · cases hv
    · -- it throws
      rename_i v hc
      cases hv
      refine (HC _ _ _ _ hc (g.sub m) w us E hA).mono ?_
      intro e w' he
      cases e with
      | returned u =>
        obtain ⟨_, _, _, _, h, _⟩ := he
        cases h
      | outgrown => exact he
      | panicked chain =>
        obtain ⟨v', g', u, h1, h2, h3, h4⟩ := he
        cases h1
        let g'' : G := { g with h := fun k => if k ∈ m then .dead else g.h k }
        have U : Up g w g'' w' (· ∈ m) := by
          refine ⟨rfl, h4.rel.size, h4.rel.os, h4.rel.tape, h4.rel.output, fun k hk => ⟨hk, rfl, rfl⟩, fun k hk => by simp [g'', hk], ?_, ?_, ?_⟩
          · intro b hb hbk
            refine h4.rel.frame b hb ?_
            rintro ⟨i, hi, e⟩
            obtain ⟨h5, h6⟩ := sub_h' hi
            exact hbk _ (get_mem h5) h6 e
          · intro k hk hal
            simp [g'', hk, VO.alive] at hal
          · intro k l hk _ hal
            simp [g'', hk, VO.alive] at hal
        refine ⟨v, u, rfl, h2, h3, (R.up U ?_ : Rel g'' _ _ _), (R.step U : Step _ _ g'' _)⟩
        intro k hk
        have : g''.h k = .dead := by simp [g'', hk]
        rw [this]; trivial
    · rename_i v h' ws hc
      split at hv
      · rename_i hws
        cases hv
        obtain ⟨hlen, hws⟩ := hws
        simp only [List.all_eq_true, decide_eq_true_eq] at hws
        have hN' := hN _ rfl
        refine (HC _ _ _ _ hc (g.sub m) w us E hA).mono ?_
        intro e w' he
        cases e with
        | outgrown => exact he
        | panicked chain =>
          obtain ⟨_, _, _, h, _⟩ := he
          cases h
        | returned u =>
          obtain ⟨v2, hl2, ws2, g', h1, A⟩ := he
          cases h1
          have hupd : (ws.map fun i => (m.getD i 0, (h'.getD i .dead).ren fun k => if k < m.length then m.getD k 0 else nk + (k - m.length))) ++ ((List.range (h'.length - m.length)).map fun i => (nk + i, ((h'.getD (m.length + i) .dead)).ren fun k => if k < m.length then m.getD k 0 else nk + (k - m.length))) = updOf m nk h' ws := rfl
          simp only [hupd] at hN' ⊢
          have hmlen : (m.map fun k => (g.h k).ren fun k => m.idxOf k).length = m.length := by simp
          obtain ⟨hmn, hN'⟩ := hN'
          have hmn : ∀ k ∈ m, k < nk := hmn
          -- the new numbers are new
          have hnew : ∀ i, i < h'.length - m.length → ¬ g.D (nk + i) := fun i hi => hN' (nk + i) (by omega) (mem_updOf.2 (.inr ⟨i, hi, rfl⟩))
          generalize hex : h'.length - m.length = ex at *
          have hl' : h'.length = m.length + ex := by omega
          let g'' := g.back g' m nk ex (updOf m nk h' ws)
          have hold : ∀ k, g.D k → ¬ (nk ≤ k ∧ k < nk + ex) := fun k hk hh => hnew (k - nk) (by omega) (by rw [show nk + (k - nk) = k by omega]; exact hk)
          have hmove : ∀ k, g.D k → g''.D k ∧ g''.B k = g.B k ∧ g''.C k = g.C k := fun k hk => ⟨.inl hk, by show (if _ then _ else _) = _; rw [if_neg (hold k hk)], by show (if _ then _ else _) = _; rw [if_neg (hold k hk)]⟩
          have hback : ∀ i, i < m.length → backOf m nk i = m.getD i 0 := fun i hi => by simp [backOf, hi]
          have hback' : ∀ i, backOf m nk (m.length + i) = nk + i := by
            intro i
            have h1 : ¬ (m.length + i < m.length) := by omega
            unfold backOf
            rw [if_neg h1, Nat.add_sub_cancel_left]
          -- what lies under the names that come back
          have hBi : ∀ i, i < h'.length → g''.D (backOf m nk i) ∧ g''.B (backOf m nk i) = g'.B i ∧ g''.C (backOf m nk i) = g'.C i := by
            intro i hi
            rcases Nat.lt_or_ge i m.length with h | h
            · rw [hback i h]
              obtain ⟨q1, q2, q3⟩ := hmove _ (hmD _ (get_mem h))
              obtain ⟨q4, q5⟩ := A.B i (by rw [hmlen]; exact h)
              exact ⟨q1, q2.trans q4.symm, q3.trans q5.symm⟩
            · obtain ⟨j, rfl⟩ : ∃ j, i = m.length + j := ⟨i - m.length, by omega⟩
              rw [hback']
              have hj : nk ≤ nk + j ∧ nk + j < nk + ex := by omega
              refine ⟨.inr (mem_updOf.2 (.inr ⟨j, by omega, rfl⟩)), ?_, ?_⟩
              · show (if _ then _ else _) = _
                rw [if_pos hj, show nk + j - nk = j by omega]
              · show (if _ then _ else _) = _
                rw [if_pos hj, show nk + j - nk = j by omega]
          have hhi : ∀ i, i < m.length → i ∈ ws → g''.h (m.getD i 0) = (h'.getD i .dead).ren (backOf m nk) := by
            intro i hi hw
            refine lookU_fun (mem_updOf.2 (.inl ⟨i, hw, rfl⟩)) fun o' ho' => ?_
            rcases mem_updOf'.1 ho' with ⟨j, hj, e1, e2⟩ | ⟨j, hj, e1, e2⟩
            · have : j = i := by rw [← idx_of hnd (hws j hj), e1, idx_of hnd hi]
              subst this
              exact e2.symm
            · have := hmn _ (get_mem hi)
              omega
          have hhn : ∀ i, i < ex → g''.h (nk + i) = (h'.getD (m.length + i) .dead).ren (backOf m nk) := by
            intro i hi
            refine lookU_fun (mem_updOf.2 (.inr ⟨i, by omega, rfl⟩)) fun o' ho' => ?_
            rcases mem_updOf'.1 ho' with ⟨j, hj, e1, e2⟩ | ⟨j, hj, e1, e2⟩
            · have := hmn _ (get_mem (hws j hj))
              omega
            · have : j = i := by omega
              subst this
              exact e2.symm
          have hhk : ∀ k, (∀ i ∈ ws, m.getD i 0 ≠ k) → ¬ (nk ≤ k ∧ k < nk + ex) → g''.h k = g.h k := by
            intro k h1 h2
            refine lookU_notin fun hk => ?_
            rcases mem_updOf.1 hk with ⟨i, hi, e⟩ | ⟨i, hi, e⟩
            · exact h1 i hi e
            · omega
          -- whatever is alive among what was handed over, is alive behind
          have hali : ∀ k, (k ∈ m ∨ (nk ≤ k ∧ k < nk + ex)) → (g''.h k).alive → ∃ i, i < h'.length ∧ backOf m nk i = k ∧ (g'.h i).alive ∧ (g''.h k = (h'.getD i .dead).ren (backOf m nk) ∨ (i < m.length ∧ i ∉ ws ∧ g''.h k = g.h k)) := by
            intro k hk hal
            rcases hk with hk | ⟨hk1, hk2⟩
            · have hi := idx_lt hk
              have hg := idx_get hk
              by_cases hw : m.idxOf k ∈ ws
              · have e := hhi _ hi hw
                rw [hg] at e
                refine ⟨m.idxOf k, by omega, by rw [hback _ hi, hg], ?_, .inl e⟩
                rw [e, VO.alive_ren] at hal
                rw [A.h]; exact hal
              · have e : g''.h k = g.h k := hhk k (fun i hi' e => by
                  have : i = m.idxOf k := by rw [← e, idx_of hnd (hws i hi')]
                  exact hw (this ▸ hi')) (hold k (hmD k hk))
                refine ⟨m.idxOf k, by omega, by rw [hback _ hi, hg], ?_, .inr ⟨hi, hw, e⟩⟩
                rw [A.h, A.ws _ (by rw [hmlen]; exact hi) hw, ← E.h, sub_h hi, hg, VO.alive_ren, ← e]
                exact hal
            · obtain ⟨j, rfl⟩ : ∃ j, k = nk + j := ⟨k - nk, by omega⟩
              have e := hhn j (by omega)
              refine ⟨m.length + j, by omega, hback' j, ?_, .inl e⟩
              rw [e, VO.alive_ren] at hal
              rw [A.h]; exact hal
          have U : Up g w g'' w' (fun k => k ∈ m ∨ (nk ≤ k ∧ k < nk + ex)) := by
            refine ⟨rfl, A.aft.rel.size, A.aft.rel.os, A.aft.rel.tape, A.aft.rel.output, hmove, ?_, ?_, ?_, ?_⟩
            · intro k hk
              simp only [not_or] at hk
              exact hhk k (fun i hi e => hk.1 (e ▸ get_mem (hws i hi))) hk.2
            · intro b hb hbk
              refine A.aft.rel.frame b hb ?_
              rintro ⟨i, hi, e⟩
              obtain ⟨h5, h6⟩ := sub_h' hi
              exact hbk _ (.inl (get_mem h5)) h6 e
            · intro k hk hal
              obtain ⟨i, hi, rfl, hal', _⟩ := hali k hk hal
              obtain ⟨q1, q2, _⟩ := hBi i hi
              refine ⟨q1, ?_⟩
              rw [q2]
              rcases A.aft.rel.own i hal' with ⟨j, hj, e⟩ | h
              · obtain ⟨h5, h6⟩ := sub_h' hj
                exact .inl ⟨_, .inl (get_mem h5), h6, e⟩
              · exact .inr h
            · intro k l hk hl hak hal e
              obtain ⟨i, hi, rfl, hai, _⟩ := hali k hk hak
              obtain ⟨j, hj, rfl, haj, _⟩ := hali l hl hal
              rw [(hBi i hi).2.1, (hBi j hj).2.1] at e
              rw [A.aft.rel.inj i j hai haj e]
          have hO : ∀ b, ¬ g'.O b → ¬ g''.O b := by
            rintro b hb (hx | ⟨k, hal, e⟩)
            · exact hb (.inl (by rw [A.aft.X]; exact .inl hx))
            · by_cases hk : k ∈ m ∨ (nk ≤ k ∧ k < nk + ex)
              · obtain ⟨i, hi, rfl, hai, _⟩ := hali k hk hal
                exact hb (.inr ⟨i, hai, (hBi i hi).2.1.symm.trans e⟩)
              · have e2 := U.same k hk
                rw [e2] at hal
                simp only [not_or] at hk
                exact hb (.inl (by rw [A.aft.X]; exact .inr ⟨k, hal, hk.1, (hmove k (R.dom k hal)).2.1.symm.trans e⟩))
          have S2 : Step g' w' g'' w' := ⟨fun b hb _ => ⟨hO b hb, rfl⟩⟩
          have hfr : ∀ k, g'.D k → g''.D (backOf m nk k) ∧ g''.B (backOf m nk k) = g'.B k ∧ g''.C (backOf m nk k) = g'.C k := fun k hk => hBi k ((A.dom k).1 hk)
          refine ⟨_, g'', rfl, ⟨rfl, fun k => Iff.rfl, fun k hk => (hmove k hk).2, fun k => rfl⟩, R.up U ?_, R.step U, ?_⟩
          · intro k hk
            by_cases hal : (g''.h k).alive
            · obtain ⟨i, hi, rfl, hai, h | ⟨h1, h2, h3⟩⟩ := hali k hk hal
              · rw [h]
                have := A.aft.rel.obj i
                rw [A.h] at this
                exact this.ren S2 (fun q _ hD => hfr q hD) (hBi i hi).2.1 (hBi i hi).2.2 rfl
              · have h4 : g'.h i = (g.h (m.getD i 0)).ren fun k => m.idxOf k := by rw [A.h, A.ws i (by rw [hmlen]; exact h1) h2, ← E.h, sub_h h1]
                have := A.aft.rel.obj i
                rw [h4] at this
                have := this.ren (f := backOf m nk) (k' := backOf m nk i) S2 (fun q _ hD => hfr q hD) (hBi i hi).2.1 (hBi i hi).2.2 rfl
                rw [VO.ren_ren] at this
                · rw [h3, hback i h1]
                  rw [hback i h1] at this
                  exact this
                · intro q hq
                  have hqm := hcl'.2 _ (get_mem h1) q hq
                  rw [hback _ (idx_lt hqm), idx_get hqm]
            · cases hh : g''.h k with
              | dead => trivial
              | _ => rw [hh] at hal; exact absurd trivial hal
          · exact A.val.ren S2 fun q _ hD => hfr q hD
      · cases hv
  · cases hv
end
end Go.Pv
namespace Go.Pv
variable [Sy]
section
variable {call : Callf} {hh hh' : Nat → VO} {nk : Nat} {e e' : Env} {rc : Rec}

theorem ev_env {x : Od} (h : ∀ t ∈ x.tm, e.get t = e'.get t) : x.ev e = x.ev e' := by
  cases x with
  | t n => exact h n (by simp [Od.tm])
  | c v => rfl
theorem evo_env {x : Option Od} (h : ∀ t ∈ (x.map (·.tm)).getD [], e.get t = e'.get t) : x.map (·.ev e) = x.map (·.ev e') := by
  cases x with
  | none => rfl
  | some x => simp [ev_env (x := x) (by simpa using h)]
theorem evl_env {l : List Od} (h : ∀ t ∈ l.flatMap (·.tm), e.get t = e'.get t) : l.map (·.ev e) = l.map (·.ev e') := by
  apply List.map_congr_left
  intro x hx
  exact ev_env fun t ht => h t (List.mem_flatMap.2 ⟨x, hx, ht⟩)
theorem evp_env {l : List (Nat × Nat × Od)} (h : ∀ t ∈ l.flatMap fun p => p.2.2.tm, e.get t = e'.get t) : (l.map fun p => (p.1, p.2.1, p.2.2.ev e)) = l.map fun p => (p.1, p.2.1, p.2.2.ev e') := by
  apply List.map_congr_left
  intro x hx
  rw [ev_env fun t ht => h t (List.mem_flatMap.2 ⟨x, hx, ht⟩)]

theorem vop_env {vo : VOp} (h : ∀ t ∈ vo.tm, e.get t = e'.get t) : vop call hh nk e vo = vop call hh nk e' vo := by
  cases vo <;> simp only [VOp.tm, List.mem_append] at h
  case mov x => simp only [vop, v_mov, v_pick, v_new, v_box, v_build, v_buildS, v_load, v_store, v_nilc, v_bin, v_una, v_conv, v_mkI, v_mkF, v_mkM, v_mkS, v_slc, v_fad, v_fld, v_iad, v_idx, v_look, v_mset, v_rng, v_nxt, v_tas, v_ext, v_call, v_calld, v_len, v_app, v_copy, v_clearM, v_clearS, v_del, v_mx, v_pan, ev_env h]
  case pick a b c => simp only [vop, v_mov, v_pick, v_new, v_box, v_build, v_buildS, v_load, v_store, v_nilc, v_bin, v_una, v_conv, v_mkI, v_mkF, v_mkM, v_mkS, v_slc, v_fad, v_fld, v_iad, v_idx, v_look, v_mset, v_rng, v_nxt, v_tas, v_ext, v_call, v_calld, v_len, v_app, v_copy, v_clearM, v_clearS, v_del, v_mx, v_pan, ev_env fun t ht => h t (.inl (.inl ht)), ev_env fun t ht => h t (.inl (.inr ht)), ev_env fun t ht => h t (.inr ht)]
  case new z => rfl
  case box x n => simp only [vop, v_mov, v_pick, v_new, v_box, v_build, v_buildS, v_load, v_store, v_nilc, v_bin, v_una, v_conv, v_mkI, v_mkF, v_mkM, v_mkS, v_slc, v_fad, v_fld, v_iad, v_idx, v_look, v_mset, v_rng, v_nxt, v_tas, v_ext, v_call, v_calld, v_len, v_app, v_copy, v_clearM, v_clearS, v_del, v_mx, v_pan, ev_env h]
  case build z l => simp only [vop, v_mov, v_pick, v_new, v_box, v_build, v_buildS, v_load, v_store, v_nilc, v_bin, v_una, v_conv, v_mkI, v_mkF, v_mkM, v_mkS, v_slc, v_fad, v_fld, v_iad, v_idx, v_look, v_mset, v_rng, v_nxt, v_tas, v_ext, v_call, v_calld, v_len, v_app, v_copy, v_clearM, v_clearS, v_del, v_mx, v_pan, evp_env h]
  case buildS z n m l => simp only [vop, v_mov, v_pick, v_new, v_box, v_build, v_buildS, v_load, v_store, v_nilc, v_bin, v_una, v_conv, v_mkI, v_mkF, v_mkM, v_mkS, v_slc, v_fad, v_fld, v_iad, v_idx, v_look, v_mset, v_rng, v_nxt, v_tas, v_ext, v_call, v_calld, v_len, v_app, v_copy, v_clearM, v_clearS, v_del, v_mx, v_pan, evp_env h]
  case load g x => simp only [vop, v_mov, v_pick, v_new, v_box, v_build, v_buildS, v_load, v_store, v_nilc, v_bin, v_una, v_conv, v_mkI, v_mkF, v_mkM, v_mkS, v_slc, v_fad, v_fld, v_iad, v_idx, v_look, v_mset, v_rng, v_nxt, v_tas, v_ext, v_call, v_calld, v_len, v_app, v_copy, v_clearM, v_clearS, v_del, v_mx, v_pan, ev_env h]
  case store n a b => simp only [vop, v_mov, v_pick, v_new, v_box, v_build, v_buildS, v_load, v_store, v_nilc, v_bin, v_una, v_conv, v_mkI, v_mkF, v_mkM, v_mkS, v_slc, v_fad, v_fld, v_iad, v_idx, v_look, v_mset, v_rng, v_nxt, v_tas, v_ext, v_call, v_calld, v_len, v_app, v_copy, v_clearM, v_clearS, v_del, v_mx, v_pan, ev_env fun t ht => h t (.inl ht), ev_env fun t ht => h t (.inr ht)]
  case nilc x => simp only [vop, v_mov, v_pick, v_new, v_box, v_build, v_buildS, v_load, v_store, v_nilc, v_bin, v_una, v_conv, v_mkI, v_mkF, v_mkM, v_mkS, v_slc, v_fad, v_fld, v_iad, v_idx, v_look, v_mset, v_rng, v_nxt, v_tas, v_ext, v_call, v_calld, v_len, v_app, v_copy, v_clearM, v_clearS, v_del, v_mx, v_pan, ev_env h]
  case bin o k a b => simp only [vop, v_mov, v_pick, v_new, v_box, v_build, v_buildS, v_load, v_store, v_nilc, v_bin, v_una, v_conv, v_mkI, v_mkF, v_mkM, v_mkS, v_slc, v_fad, v_fld, v_iad, v_idx, v_look, v_mset, v_rng, v_nxt, v_tas, v_ext, v_call, v_calld, v_len, v_app, v_copy, v_clearM, v_clearS, v_del, v_mx, v_pan, ev_env fun t ht => h t (.inl ht), ev_env fun t ht => h t (.inr ht)]
  case una o x => simp only [vop, v_mov, v_pick, v_new, v_box, v_build, v_buildS, v_load, v_store, v_nilc, v_bin, v_una, v_conv, v_mkI, v_mkF, v_mkM, v_mkS, v_slc, v_fad, v_fld, v_iad, v_idx, v_look, v_mset, v_rng, v_nxt, v_tas, v_ext, v_call, v_calld, v_len, v_app, v_copy, v_clearM, v_clearS, v_del, v_mx, v_pan, ev_env h]
  case conv c x => simp only [vop, v_mov, v_pick, v_new, v_box, v_build, v_buildS, v_load, v_store, v_nilc, v_bin, v_una, v_conv, v_mkI, v_mkF, v_mkM, v_mkS, v_slc, v_fad, v_fld, v_iad, v_idx, v_look, v_mset, v_rng, v_nxt, v_tas, v_ext, v_call, v_calld, v_len, v_app, v_copy, v_clearM, v_clearS, v_del, v_mx, v_pan, ev_env h]
  case mkI t x => simp only [vop, v_mov, v_pick, v_new, v_box, v_build, v_buildS, v_load, v_store, v_nilc, v_bin, v_una, v_conv, v_mkI, v_mkF, v_mkM, v_mkS, v_slc, v_fad, v_fld, v_iad, v_idx, v_look, v_mset, v_rng, v_nxt, v_tas, v_ext, v_call, v_calld, v_len, v_app, v_copy, v_clearM, v_clearS, v_del, v_mx, v_pan, ev_env h]
  case mkF f a b => simp only [vop, v_mov, v_pick, v_new, v_box, v_build, v_buildS, v_load, v_store, v_nilc, v_bin, v_una, v_conv, v_mkI, v_mkF, v_mkM, v_mkS, v_slc, v_fad, v_fld, v_iad, v_idx, v_look, v_mset, v_rng, v_nxt, v_tas, v_ext, v_call, v_calld, v_len, v_app, v_copy, v_clearM, v_clearS, v_del, v_mx, v_pan, evl_env fun t ht => h t (.inl ht), evl_env fun t ht => h t (.inr ht)]
  case mkM => rfl
  case mkS z s b l c => simp only [vop, v_mov, v_pick, v_new, v_box, v_build, v_buildS, v_load, v_store, v_nilc, v_bin, v_una, v_conv, v_mkI, v_mkF, v_mkM, v_mkS, v_slc, v_fad, v_fld, v_iad, v_idx, v_look, v_mset, v_rng, v_nxt, v_tas, v_ext, v_call, v_calld, v_len, v_app, v_copy, v_clearM, v_clearS, v_del, v_mx, v_pan, ev_env fun t ht => h t (.inl ht), ev_env fun t ht => h t (.inr ht)]
  case slc s n x a b c => simp only [vop, v_mov, v_pick, v_new, v_box, v_build, v_buildS, v_load, v_store, v_nilc, v_bin, v_una, v_conv, v_mkI, v_mkF, v_mkM, v_mkS, v_slc, v_fad, v_fld, v_iad, v_idx, v_look, v_mset, v_rng, v_nxt, v_tas, v_ext, v_call, v_calld, v_len, v_app, v_copy, v_clearM, v_clearS, v_del, v_mx, v_pan, ev_env fun t ht => h t (.inl (.inl (.inl ht))), evo_env fun t ht => h t (.inl (.inl (.inr ht))), evo_env fun t ht => h t (.inl (.inr ht)), evo_env fun t ht => h t (.inr ht)]
  case fad o x => simp only [vop, v_mov, v_pick, v_new, v_box, v_build, v_buildS, v_load, v_store, v_nilc, v_bin, v_una, v_conv, v_mkI, v_mkF, v_mkM, v_mkS, v_slc, v_fad, v_fld, v_iad, v_idx, v_look, v_mset, v_rng, v_nxt, v_tas, v_ext, v_call, v_calld, v_len, v_app, v_copy, v_clearM, v_clearS, v_del, v_mx, v_pan, ev_env h]
  case fld o g x => simp only [vop, v_mov, v_pick, v_new, v_box, v_build, v_buildS, v_load, v_store, v_nilc, v_bin, v_una, v_conv, v_mkI, v_mkF, v_mkM, v_mkS, v_slc, v_fad, v_fld, v_iad, v_idx, v_look, v_mset, v_rng, v_nxt, v_tas, v_ext, v_call, v_calld, v_len, v_app, v_copy, v_clearM, v_clearS, v_del, v_mx, v_pan, ev_env h]
  case iad s a x i => simp only [vop, v_mov, v_pick, v_new, v_box, v_build, v_buildS, v_load, v_store, v_nilc, v_bin, v_una, v_conv, v_mkI, v_mkF, v_mkM, v_mkS, v_slc, v_fad, v_fld, v_iad, v_idx, v_look, v_mset, v_rng, v_nxt, v_tas, v_ext, v_call, v_calld, v_len, v_app, v_copy, v_clearM, v_clearS, v_del, v_mx, v_pan, ev_env fun t ht => h t (.inl ht), ev_env fun t ht => h t (.inr ht)]
  case idx a x i => simp only [vop, v_mov, v_pick, v_new, v_box, v_build, v_buildS, v_load, v_store, v_nilc, v_bin, v_una, v_conv, v_mkI, v_mkF, v_mkM, v_mkS, v_slc, v_fad, v_fld, v_iad, v_idx, v_look, v_mset, v_rng, v_nxt, v_tas, v_ext, v_call, v_calld, v_len, v_app, v_copy, v_clearM, v_clearS, v_del, v_mx, v_pan, ev_env fun t ht => h t (.inl ht), ev_env fun t ht => h t (.inr ht)]
  case look k z o a b => simp only [vop, v_mov, v_pick, v_new, v_box, v_build, v_buildS, v_load, v_store, v_nilc, v_bin, v_una, v_conv, v_mkI, v_mkF, v_mkM, v_mkS, v_slc, v_fad, v_fld, v_iad, v_idx, v_look, v_mset, v_rng, v_nxt, v_tas, v_ext, v_call, v_calld, v_len, v_app, v_copy, v_clearM, v_clearS, v_del, v_mx, v_pan, ev_env fun t ht => h t (.inl ht), ev_env fun t ht => h t (.inr ht)]
  case mset k a b c => simp only [vop, v_mov, v_pick, v_new, v_box, v_build, v_buildS, v_load, v_store, v_nilc, v_bin, v_una, v_conv, v_mkI, v_mkF, v_mkM, v_mkS, v_slc, v_fad, v_fld, v_iad, v_idx, v_look, v_mset, v_rng, v_nxt, v_tas, v_ext, v_call, v_calld, v_len, v_app, v_copy, v_clearM, v_clearS, v_del, v_mx, v_pan, ev_env fun t ht => h t (.inl (.inl ht)), ev_env fun t ht => h t (.inl (.inr ht)), ev_env fun t ht => h t (.inr ht)]
  case rng x => simp only [vop, v_mov, v_pick, v_new, v_box, v_build, v_buildS, v_load, v_store, v_nilc, v_bin, v_una, v_conv, v_mkI, v_mkF, v_mkM, v_mkS, v_slc, v_fad, v_fld, v_iad, v_idx, v_look, v_mset, v_rng, v_nxt, v_tas, v_ext, v_call, v_calld, v_len, v_app, v_copy, v_clearM, v_clearS, v_del, v_mx, v_pan, ev_env h]
  case nxt x => simp only [vop, v_mov, v_pick, v_new, v_box, v_build, v_buildS, v_load, v_store, v_nilc, v_bin, v_una, v_conv, v_mkI, v_mkF, v_mkM, v_mkS, v_slc, v_fad, v_fld, v_iad, v_idx, v_look, v_mset, v_rng, v_nxt, v_tas, v_ext, v_call, v_calld, v_len, v_app, v_copy, v_clearM, v_clearS, v_del, v_mx, v_pan, ev_env h]
  case tas t z o x => simp only [vop, v_mov, v_pick, v_new, v_box, v_build, v_buildS, v_load, v_store, v_nilc, v_bin, v_una, v_conv, v_mkI, v_mkF, v_mkM, v_mkS, v_slc, v_fad, v_fld, v_iad, v_idx, v_look, v_mset, v_rng, v_nxt, v_tas, v_ext, v_call, v_calld, v_len, v_app, v_copy, v_clearM, v_clearS, v_del, v_mx, v_pan, ev_env h]
  case ext x i => simp only [vop, v_mov, v_pick, v_new, v_box, v_build, v_buildS, v_load, v_store, v_nilc, v_bin, v_una, v_conv, v_mkI, v_mkF, v_mkM, v_mkS, v_slc, v_fad, v_fld, v_iad, v_idx, v_look, v_mset, v_rng, v_nxt, v_tas, v_ext, v_call, v_calld, v_len, v_app, v_copy, v_clearM, v_clearS, v_del, v_mx, v_pan, ev_env h]
  case call f l => simp only [vop, v_mov, v_pick, v_new, v_box, v_build, v_buildS, v_load, v_store, v_nilc, v_bin, v_una, v_conv, v_mkI, v_mkF, v_mkM, v_mkS, v_slc, v_fad, v_fld, v_iad, v_idx, v_look, v_mset, v_rng, v_nxt, v_tas, v_ext, v_call, v_calld, v_len, v_app, v_copy, v_clearM, v_clearS, v_del, v_mx, v_pan, evl_env h]
  case calld f l => simp only [vop, v_mov, v_pick, v_new, v_box, v_build, v_buildS, v_load, v_store, v_nilc, v_bin, v_una, v_conv, v_mkI, v_mkF, v_mkM, v_mkS, v_slc, v_fad, v_fld, v_iad, v_idx, v_look, v_mset, v_rng, v_nxt, v_tas, v_ext, v_call, v_calld, v_len, v_app, v_copy, v_clearM, v_clearS, v_del, v_mx, v_pan, ev_env fun t ht => h t (.inl ht), evl_env fun t ht => h t (.inr ht)]
  case len k x => simp only [vop, v_mov, v_pick, v_new, v_box, v_build, v_buildS, v_load, v_store, v_nilc, v_bin, v_una, v_conv, v_mkI, v_mkF, v_mkM, v_mkS, v_slc, v_fad, v_fld, v_iad, v_idx, v_look, v_mset, v_rng, v_nxt, v_tas, v_ext, v_call, v_calld, v_len, v_app, v_copy, v_clearM, v_clearS, v_del, v_mx, v_pan, ev_env h]
  case app s b x y => simp only [vop, v_mov, v_pick, v_new, v_box, v_build, v_buildS, v_load, v_store, v_nilc, v_bin, v_una, v_conv, v_mkI, v_mkF, v_mkM, v_mkS, v_slc, v_fad, v_fld, v_iad, v_idx, v_look, v_mset, v_rng, v_nxt, v_tas, v_ext, v_call, v_calld, v_len, v_app, v_copy, v_clearM, v_clearS, v_del, v_mx, v_pan, ev_env fun t ht => h t (.inl ht), ev_env fun t ht => h t (.inr ht)]
  case copy s x y => simp only [vop, v_mov, v_pick, v_new, v_box, v_build, v_buildS, v_load, v_store, v_nilc, v_bin, v_una, v_conv, v_mkI, v_mkF, v_mkM, v_mkS, v_slc, v_fad, v_fld, v_iad, v_idx, v_look, v_mset, v_rng, v_nxt, v_tas, v_ext, v_call, v_calld, v_len, v_app, v_copy, v_clearM, v_clearS, v_del, v_mx, v_pan, ev_env fun t ht => h t (.inl ht), ev_env fun t ht => h t (.inr ht)]
  case clearM x => simp only [vop, v_mov, v_pick, v_new, v_box, v_build, v_buildS, v_load, v_store, v_nilc, v_bin, v_una, v_conv, v_mkI, v_mkF, v_mkM, v_mkS, v_slc, v_fad, v_fld, v_iad, v_idx, v_look, v_mset, v_rng, v_nxt, v_tas, v_ext, v_call, v_calld, v_len, v_app, v_copy, v_clearM, v_clearS, v_del, v_mx, v_pan, ev_env h]
  case clearS z s x => simp only [vop, v_mov, v_pick, v_new, v_box, v_build, v_buildS, v_load, v_store, v_nilc, v_bin, v_una, v_conv, v_mkI, v_mkF, v_mkM, v_mkS, v_slc, v_fad, v_fld, v_iad, v_idx, v_look, v_mset, v_rng, v_nxt, v_tas, v_ext, v_call, v_calld, v_len, v_app, v_copy, v_clearM, v_clearS, v_del, v_mx, v_pan, ev_env h]
  case del k x y => simp only [vop, v_mov, v_pick, v_new, v_box, v_build, v_buildS, v_load, v_store, v_nilc, v_bin, v_una, v_conv, v_mkI, v_mkF, v_mkM, v_mkS, v_slc, v_fad, v_fld, v_iad, v_idx, v_look, v_mset, v_rng, v_nxt, v_tas, v_ext, v_call, v_calld, v_len, v_app, v_copy, v_clearM, v_clearS, v_del, v_mx, v_pan, ev_env fun t ht => h t (.inl ht), ev_env fun t ht => h t (.inr ht)]
  case mx b l =>
    match l with
    | [] | [_] | _ :: _ :: _ :: _ => rfl
    | [x, y] => simp only [vop, v_mov, v_pick, v_new, v_box, v_build, v_buildS, v_load, v_store, v_nilc, v_bin, v_una, v_conv, v_mkI, v_mkF, v_mkM, v_mkS, v_slc, v_fad, v_fld, v_iad, v_idx, v_look, v_mset, v_rng, v_nxt, v_tas, v_ext, v_call, v_calld, v_len, v_app, v_copy, v_clearM, v_clearS, v_del, v_mx, v_pan, ev_env (x := x) fun t ht => h t (by simp [ht]), ev_env (x := y) fun t ht => h t (by simp [ht])]
  case pan x => simp only [vop, v_mov, v_pick, v_new, v_box, v_build, v_buildS, v_load, v_store, v_nilc, v_bin, v_una, v_conv, v_mkI, v_mkF, v_mkM, v_mkS, v_slc, v_fad, v_fld, v_iad, v_idx, v_look, v_mset, v_rng, v_nxt, v_tas, v_ext, v_call, v_calld, v_len, v_app, v_copy, v_clearM, v_clearS, v_del, v_mx, v_pan, ev_env h]

theorem loadC_hh {a : V} {n : Nat} {cs : List V} {rd : List Nat} (hv : loadC hh a n = some (cs, rd)) (h : ∀ k ∈ rd, hh k = hh' k) : loadC hh' a n = some (cs, rd) := by
  unfold loadC at hv ⊢
  split at hv
  · exact hv
  · rename_i k off
    split at hv
    · rename_i c ez hk
      split at hv
      · rename_i hc
        simp only [Option.some.injEq, Prod.mk.injEq] at hv
        obtain ⟨rfl, rfl⟩ := hv
        simp [← h k (by simp), hk, hc]
      · cases hv
    · cases hv
  · cases hv
theorem sliceC_hh {x : V} {esz n : Nat} {cs : List V} {rd : List Nat} (hv : sliceC hh esz x = some (cs, n, rd)) (h : ∀ k ∈ rd, hh k = hh' k) : sliceC hh' esz x = some (cs, n, rd) := by
  unfold sliceC at hv ⊢
  split at hv
  · exact hv
  · exact hv
  · exact hv
  · rename_i k off len cap
    split at hv
    · rename_i c ez hk
      split at hv
      · rename_i hc
        simp only [Option.some.injEq, Prod.mk.injEq] at hv
        obtain ⟨rfl, rfl, rfl⟩ := hv
        simp [← h k (by simp), hk, hc]
      · cases hv
    · cases hv
  · cases hv
theorem reach_sub : ∀ (n : Nat) (todo acc : List Nat), ∀ k ∈ acc, k ∈ reach hh n todo acc
  | 0, _, acc, k, hk => by simpa [reach] using hk
  | n + 1, [], acc, k, hk => by simpa [reach] using hk
  | n + 1, q :: todo, acc, k, hk => by
    unfold reach
    split
    · exact reach_sub n todo acc k hk
    · exact reach_sub n _ _ k (by simp [hk])
theorem reach_hh : ∀ (n : Nat) (todo acc : List Nat), (∀ k ∈ reach hh n todo acc, hh k = hh' k) → reach hh' n todo acc = reach hh n todo acc
  | 0, _, acc, _ => by simp [reach]
  | n + 1, [], acc, _ => by simp [reach]
  | n + 1, q :: todo, acc, h => by
    unfold reach at h ⊢
    split
    · rename_i hq
      rw [if_pos hq] at h
      exact reach_hh n todo acc h
    · rename_i hq
      rw [if_neg hq] at h
      have := h q (reach_sub n _ _ q (by simp))
      rw [← this]
      exact reach_hh n _ _ h
theorem doCall_hh {f : FuncId} {args : List V} {res : Res} (hv : doCall call hh nk f args = some res) (h : ∀ k ∈ reach hh 2000 (V.refs.refsL args) [], hh k = hh' k) : doCall call hh' nk f args = some res := by
  have e1 := reach_hh (hh' := hh') 2000 (V.refs.refsL args) [] h
  simp only [doCall] at hv ⊢
  rw [e1]
  generalize reach hh 2000 (V.refs.refsL args) [] = m at hv h ⊢
  have e2 : closed hh' m (V.refs.refsL args) = closed hh m (V.refs.refsL args) := by
    unfold closed
    congr 1
    rw [Bool.eq_iff_iff]
    simp only [List.all_eq_true]
    constructor <;> intro hq k hk
    · rw [h k hk]; exact hq k hk
    · rw [← h k hk]; exact hq k hk
  have e3 : (m.map fun k => (hh' k).ren fun k => m.idxOf k) = m.map fun k => (hh k).ren fun k => m.idxOf k := by
    apply List.map_congr_left
    intro k hk
    rw [h k hk]
  rw [e2, e3]
  exact hv
theorem doCall_rd {f : FuncId} {args : List V} (hv : doCall call hh nk f args = some (.ok rc)) : rc.rd = reach hh 2000 (V.refs.refsL args) [] := by
  unfold doCall at hv
  simp only at hv
  split at hv
  · split at hv
    · cases hv
    · cases hv
    · split at hv
      · cases hv; rfl
      · cases hv
  · cases hv

theorem vop_hh {vo : VOp} (hv : vop call hh nk e vo = some (.ok rc)) (h : ∀ k ∈ rc.rd, hh k = hh' k) : vop call hh' nk e vo = some (.ok rc) := by
  cases vo
  case load g x =>
    simp only [vop, v_mov, v_pick, v_new, v_box, v_build, v_buildS, v_load, v_store, v_nilc, v_bin, v_una, v_conv, v_mkI, v_mkF, v_mkM, v_mkS, v_slc, v_fad, v_fld, v_iad, v_idx, v_look, v_mset, v_rng, v_nxt, v_tas, v_ext, v_call, v_calld, v_len, v_app, v_copy, v_clearM, v_clearS, v_del, v_mx, v_pan] at hv ⊢
    split at hv
    · rename_i cs rd hq
      simp only [Option.map_eq_some_iff, Res.ok.injEq] at hv
      obtain ⟨v, hs, rfl⟩ := hv
      rw [loadC_hh hq h]
      simp [hs]
    · cases hv
  case store n a x =>
    simp only [vop, v_mov, v_pick, v_new, v_box, v_build, v_buildS, v_load, v_store, v_nilc, v_bin, v_una, v_conv, v_mkI, v_mkF, v_mkM, v_mkS, v_slc, v_fad, v_fld, v_iad, v_idx, v_look, v_mset, v_rng, v_nxt, v_tas, v_ext, v_call, v_calld, v_len, v_app, v_copy, v_clearM, v_clearS, v_del, v_mx, v_pan] at hv ⊢
    split at hv
    · rename_i k off hq
      split at hv
      · rename_i cs ez hk
        split at hv
        · rename_i vs hvs
          split at hv
          · rename_i hc
            cases hv
            simp [hq, ← h k (by simp), hk, hvs, hc]
          · cases hv
        · cases hv
      · cases hv
    · cases hv
  case conv c x =>
    cases c <;> try exact hv
    simp only [vop, v_mov, v_pick, v_new, v_box, v_build, v_buildS, v_load, v_store, v_nilc, v_bin, v_una, v_conv, v_mkI, v_mkF, v_mkM, v_mkS, v_slc, v_fad, v_fld, v_iad, v_idx, v_look, v_mset, v_rng, v_nxt, v_tas, v_ext, v_call, v_calld, v_len, v_app, v_copy, v_clearM, v_clearS, v_del, v_mx, v_pan] at hv ⊢
    split at hv
    · rename_i cs n rd hq
      simp only [Option.map_eq_some_iff, Res.ok.injEq] at hv
      obtain ⟨v, hs, rfl⟩ := hv
      rw [sliceC_hh hq h]
      simp [hs]
    · split at hv
      · rename_i ch hc
        cases hv
        simp [hc, sliceC, ok1]
      · cases hv
  case look ks z ok m k =>
    simp only [vop, v_mov, v_pick, v_new, v_box, v_build, v_buildS, v_load, v_store, v_nilc, v_bin, v_una, v_conv, v_mkI, v_mkF, v_mkM, v_mkS, v_slc, v_fad, v_fld, v_iad, v_idx, v_look, v_mset, v_rng, v_nxt, v_tas, v_ext, v_call, v_calld, v_len, v_app, v_copy, v_clearM, v_clearS, v_del, v_mx, v_pan] at hv ⊢
    split at hv
    · rename_i hko
      rw [if_pos hko]
      split at hv
      · rename_i hq; exact hv
      · rename_i hq; exact hv
      · rename_i q hq
        split at hv
        · rename_i es hes
          have : rc.rd = [q] := by
            split at hv
            · cases hv; rfl
            · cases hv; rfl
            · cases hv
          simp only [hq, ← h q (by rw [this]; simp), hes]
          exact hv
        · cases hv
      · cases hv
    · cases hv
  case mset ks m k x =>
    simp only [vop, v_mov, v_pick, v_new, v_box, v_build, v_buildS, v_load, v_store, v_nilc, v_bin, v_una, v_conv, v_mkI, v_mkF, v_mkM, v_mkS, v_slc, v_fad, v_fld, v_iad, v_idx, v_look, v_mset, v_rng, v_nxt, v_tas, v_ext, v_call, v_calld, v_len, v_app, v_copy, v_clearM, v_clearS, v_del, v_mx, v_pan] at hv ⊢
    split at hv
    · rename_i hko
      rw [if_pos hko]
      split at hv
      · rename_i q hq
        split at hv
        · rename_i es hes
          split at hv
          · rename_i i vv hf
            cases hv
            simp [hq, ← h q (by simp), hes, hf]
          · rename_i hf
            cases hv
            simp [hq, ← h q (by simp), hes, hf]
          · cases hv
        · cases hv
      · cases hv
    · cases hv
  case nxt x =>
    simp only [vop, v_mov, v_pick, v_new, v_box, v_build, v_buildS, v_load, v_store, v_nilc, v_bin, v_una, v_conv, v_mkI, v_mkF, v_mkM, v_mkS, v_slc, v_fad, v_fld, v_iad, v_idx, v_look, v_mset, v_rng, v_nxt, v_tas, v_ext, v_call, v_calld, v_len, v_app, v_copy, v_clearM, v_clearS, v_del, v_mx, v_pan] at hv ⊢
    split at hv
    · rename_i q hq
      split at hv
      · rename_i s pos hes
        have : rc.rd = [q] := by
          split at hv
          · cases hv; rfl
          · cases hv; rfl
        simp only [hq, ← h q (by rw [this]; simp), hes]
        exact hv
      · cases hv
    · cases hv
  case call f l =>
    simp only [vop, v_mov, v_pick, v_new, v_box, v_build, v_buildS, v_load, v_store, v_nilc, v_bin, v_una, v_conv, v_mkI, v_mkF, v_mkM, v_mkS, v_slc, v_fad, v_fld, v_iad, v_idx, v_look, v_mset, v_rng, v_nxt, v_tas, v_ext, v_call, v_calld, v_len, v_app, v_copy, v_clearM, v_clearS, v_del, v_mx, v_pan] at hv ⊢
    exact doCall_hh hv (by rw [← doCall_rd hv]; exact h)
  case calld f l =>
    simp only [vop, v_mov, v_pick, v_new, v_box, v_build, v_buildS, v_load, v_store, v_nilc, v_bin, v_una, v_conv, v_mkI, v_mkF, v_mkM, v_mkS, v_slc, v_fad, v_fld, v_iad, v_idx, v_look, v_mset, v_rng, v_nxt, v_tas, v_ext, v_call, v_calld, v_len, v_app, v_copy, v_clearM, v_clearS, v_del, v_mx, v_pan] at hv ⊢
    split at hv
    · rename_i g a b hq
      exact doCall_hh hv (by rw [← doCall_rd hv]; exact h)
    · cases hv
  case len kd x =>
    simp only [vop, v_mov, v_pick, v_new, v_box, v_build, v_buildS, v_load, v_store, v_nilc, v_bin, v_una, v_conv, v_mkI, v_mkF, v_mkM, v_mkS, v_slc, v_fad, v_fld, v_iad, v_idx, v_look, v_mset, v_rng, v_nxt, v_tas, v_ext, v_call, v_calld, v_len, v_app, v_copy, v_clearM, v_clearS, v_del, v_mx, v_pan] at hv ⊢
    split at hv
    · rename_i hq; exact hv
    · rename_i hq; exact hv
    · rename_i hq; exact hv
    · rename_i hq; exact hv
    · rename_i hq; exact hv
    · rename_i hq; exact hv
    · rename_i q hq
      split at hv
      · rename_i es hes
        cases hv
        simp [hq, ← h q (by simp), hes]
      · cases hv
    · rename_i hq; exact hv
    · rename_i hq; exact hv
    · cases hv
  case app esz bytes x y =>
    simp only [vop, v_mov, v_pick, v_new, v_box, v_build, v_buildS, v_load, v_store, v_nilc, v_bin, v_una, v_conv, v_mkI, v_mkF, v_mkM, v_mkS, v_slc, v_fad, v_fld, v_iad, v_idx, v_look, v_mset, v_rng, v_nxt, v_tas, v_ext, v_call, v_calld, v_len, v_app, v_copy, v_clearM, v_clearS, v_del, v_mx, v_pan] at hv ⊢
    split at hv
    · cases hv
    · rename_i ys n rd hs
      have hrd : ∀ k ∈ rd, k ∈ rc.rd := by
        intro k hk
        split at hv
        · split at hv
          · cases hv; exact hk
          · cases hv; exact hk
          · cases hv; exact hk
          · cases hv
        · split at hv
          · split at hv
            · cases hv; exact hk
            · cases hv
          · split at hv
            · cases hv; exact hk
            · cases hv
          · split at hv
            · split at hv
              · split at hv
                · split at hv
                  · cases hv; exact List.mem_cons_of_mem _ hk
                  · cases hv
                · split at hv
                  · cases hv; exact List.mem_cons_of_mem _ hk
                  · cases hv
              · cases hv
            · cases hv
          · cases hv
      rw [sliceC_hh hs fun k hk => h k (hrd k hk)]
      simp only
      split at hv
      · rename_i hn
        rw [if_pos hn]
        exact hv
      · rename_i hn
        rw [if_neg hn]
        split at hv
        · rename_i hq; exact hv
        · rename_i hq; exact hv
        · rename_i k off len cap hq
          split at hv
          · rename_i cs ez hk
            have : k ∈ rc.rd := by
              split at hv
              · split at hv
                · split at hv
                  · cases hv; simp
                  · cases hv
                · split at hv
                  · cases hv; simp
                  · cases hv
              · cases hv
            simp only [hq, ← h k this, hk]
            exact hv
          · cases hv
        · cases hv
  case copy esz x y =>
    simp only [vop, v_mov, v_pick, v_new, v_box, v_build, v_buildS, v_load, v_store, v_nilc, v_bin, v_una, v_conv, v_mkI, v_mkF, v_mkM, v_mkS, v_slc, v_fad, v_fld, v_iad, v_idx, v_look, v_mset, v_rng, v_nxt, v_tas, v_ext, v_call, v_calld, v_len, v_app, v_copy, v_clearM, v_clearS, v_del, v_mx, v_pan] at hv ⊢
    split at hv
    · cases hv
    · rename_i ys n rd hs
      have hrd : ∀ k ∈ rd, k ∈ rc.rd := by
        intro k hk
        split at hv
        · cases hv; exact hk
        · split at hv
          · split at hv
            · cases hv; exact List.mem_cons_of_mem _ hk
            · cases hv
          · cases hv
        · cases hv
      rw [sliceC_hh hs fun k hk => h k (hrd k hk)]
      simp only
      split at hv
      · rename_i hq; exact hv
      · rename_i k off len cap hq
        split at hv
        · rename_i cs ez hk
          split at hv
          · rename_i hc
            cases hv
            rw [← h k (by simp), hk]
            simp only
            rw [if_pos hc]
          · cases hv
        · cases hv
      · cases hv
  case clearM x =>
    simp only [vop, v_mov, v_pick, v_new, v_box, v_build, v_buildS, v_load, v_store, v_nilc, v_bin, v_una, v_conv, v_mkI, v_mkF, v_mkM, v_mkS, v_slc, v_fad, v_fld, v_iad, v_idx, v_look, v_mset, v_rng, v_nxt, v_tas, v_ext, v_call, v_calld, v_len, v_app, v_copy, v_clearM, v_clearS, v_del, v_mx, v_pan] at hv ⊢
    split at hv
    · rename_i q hq
      split at hv
      · rename_i es hes
        cases hv
        simp [hq, ← h q (by simp), hes]
      · cases hv
    · rename_i hq; exact hv
    · cases hv
  case clearS z esz x =>
    simp only [vop, v_mov, v_pick, v_new, v_box, v_build, v_buildS, v_load, v_store, v_nilc, v_bin, v_una, v_conv, v_mkI, v_mkF, v_mkM, v_mkS, v_slc, v_fad, v_fld, v_iad, v_idx, v_look, v_mset, v_rng, v_nxt, v_tas, v_ext, v_call, v_calld, v_len, v_app, v_copy, v_clearM, v_clearS, v_del, v_mx, v_pan] at hv ⊢
    split at hv
    · rename_i hq; exact hv
    · rename_i hq; exact hv
    · rename_i k off len cap hq
      split at hv
      · rename_i cs ez hk
        split at hv
        · rename_i hc
          cases hv
          simp [hq, ← h k (by simp), hk, hc]
        · cases hv
      · cases hv
    · cases hv
  case del ks m k =>
    simp only [vop, v_mov, v_pick, v_new, v_box, v_build, v_buildS, v_load, v_store, v_nilc, v_bin, v_una, v_conv, v_mkI, v_mkF, v_mkM, v_mkS, v_slc, v_fad, v_fld, v_iad, v_idx, v_look, v_mset, v_rng, v_nxt, v_tas, v_ext, v_call, v_calld, v_len, v_app, v_copy, v_clearM, v_clearS, v_del, v_mx, v_pan] at hv ⊢
    split at hv
    · rename_i hko
      rw [if_pos hko]
      split at hv
      · rename_i q hq
        split at hv
        · rename_i es hes
          split at hv
          · rename_i i vv hf
            cases hv
            simp [hq, ← h q (by simp), hes, hf]
          · rename_i hf
            cases hv
            simp [hq, ← h q (by simp), hes, hf]
          · cases hv
        · cases hv
      · cases hv
    · cases hv
  all_goals exact hv

theorem vop_pure {vo : VOp} (hp : vo.pure = true) (hv : vop call hh nk e vo = some (.ok rc)) : rc.rd = [] ∧ rc.upd = [] := by
  cases vo <;> simp only [VOp.pure] at hp <;> try (exact Bool.noConfusion hp)
  all_goals simp only [vop, v_mov, v_pick, v_new, v_box, v_build, v_buildS, v_load, v_store, v_nilc, v_bin, v_una, v_conv, v_mkI, v_mkF, v_mkM, v_mkS, v_slc, v_fad, v_fld, v_iad, v_idx, v_look, v_mset, v_rng, v_nxt, v_tas, v_ext, v_call, v_calld, v_len, v_app, v_copy, v_clearM, v_clearS, v_del, v_mx, v_pan, ok1] at hv
  case conv c x =>
    cases c <;> simp only at hv hp
    all_goals (repeat' (split at hv)) <;> first | (cases hv; exact ⟨rfl, rfl⟩) | cases hv | cases hp
  all_goals (repeat' (split at hv)) <;> first | (cases hv; exact ⟨rfl, rfl⟩) | cases hv
end
end Go.Pv
namespace Go.Pv
variable [Sy]

/-! ### What stripping a region keeps. -/
section
variable {P : Program} {ops : Array Oper} {bef : Array Nat} {nt : Nat}

structure Opd (P : Program) (ops : Array Oper) (bef : Array Nat) (nt : Nat) (pur : Nat → Bool) (n : Nat) (i : Nat) (o : Oper) (v : VOper) : Prop where
  op : stripOp P o = some v.op
  dst : v.dst = o.dst
  lt : ∀ d, o.dst = some d → d < nt
  grd : (o.guard = none ∧ v.guard = none) ∨ ∃ j b t, o.guard = some (j, b) ∧ v.guard = some (t, b) ∧ (ops[j]?).bind (·.dst) = some t
  un : ∀ j, j < i → j ∈ v.un ∨ v.op.pure = true ∨ pur j = true ∨ (bef.getD i 0).testBit j = true
  lone : v.lone = true → ∀ j, j < n → j ≠ i → (bef.getD (max i j) 0).testBit (min i j) = true

theorem stripOper_ok {pur : List Bool} {i : Nat} {o : Oper} {v : VOper} (h : stripOper P ops bef pur i o nt = some v) : Opd P ops bef nt (fun j => pur.getD j true) ops.size i o v := by
  unfold stripOper at h
  split at h
  · cases h
  · rename_i vo hvo
    simp only at h
    split at h
    · cases h
    · rename_i g hg
      split at h
      · rename_i hd
        cases h
        refine ⟨hvo, rfl, ?_, ?_, ?_, ?_⟩
        · intro d hdd
          rw [hdd] at hd
          simpa using hd
        · split at hg
          · rename_i h0
            cases hg
            exact .inl ⟨h0, rfl⟩
          · rename_i j b h0
            split at hg
            · rename_i t ht
              cases hg
              exact .inr ⟨j, b, t, h0, rfl, ht⟩
            · cases hg
        · intro j hj
          simp only [List.mem_filter, List.mem_range]
          cases h1 : vo.pure <;> cases h2 : pur.getD j true <;> cases h3 : (bef.getD i 0).testBit j <;> simp_all
        · intro hl j hj hne
          simp only [List.all_eq_true, List.mem_range, Bool.or_eq_true, beq_iff_eq] at hl
          exact (hl j hj).resolve_left hne
      · cases h

theorem stripOps_ok : ∀ {l : List Oper} {i : Nat} {pur : List Bool} {vl : List VOper}, stripOps P ops bef nt l i pur = some vl → pur.length = i →
    vl.length = l.length ∧ ∀ (j : Nat) (o : Oper) (v : VOper), l[j]? = some o → vl[j]? = some v → Opd P ops bef nt (fun q => (pur ++ vl.map (·.op.pure)).getD q true) ops.size (i + j) o v
  | [], i, pur, vl, h, _ => by
    simp [stripOps] at h
    subst h
    exact ⟨rfl, fun j o v h => by simp at h⟩
  | o :: l, i, pur, vl, h, hi => by
    unfold stripOps at h
    split at h
    · cases h
    · rename_i v hv
      split at h
      · rename_i r hr
        cases h
        obtain ⟨h1, h2⟩ := stripOps_ok hr (by simp [hi])
        refine ⟨by simp [h1], ?_⟩
        intro j o' v' ho hv'
        cases j with
        | zero =>
          simp at ho hv'
          subst ho
          subst hv'
          have := stripOper_ok hv
          refine ⟨this.op, this.dst, this.lt, this.grd, fun j hj => ?_, this.lone⟩
          have hj' : j < pur.length := by omega
          have := this.un j hj
          have e1 : (pur ++ (v :: r).map (·.op.pure)).getD j true = pur.getD j true := by simp only [List.getD_eq_getElem?_getD, List.getElem?_append_left hj']
          show _ ∨ _ ∨ (pur ++ (v :: r).map (·.op.pure)).getD j true = true ∨ _
          rw [e1]
          exact this
        | succ j =>
          simp at ho hv'
          have := h2 j o' v' ho hv'
          rw [show i + (j + 1) = i + 1 + j by omega]
          simpa using this
      · cases h

/-! Whoever comes before, comes before. -/
def befStep (acc : Array Nat) (o : Oper) : Nat := o.after.foldl (fun s e => if Region.binds .any e then s ||| 2 ^ e.on ||| acc.getD e.on 0 else s) 0
theorem before_eq (ops : Array Oper) : Region.before ops = ops.toList.foldl (fun acc o => acc.push (befStep acc o)) #[] := by
  rw [Array.foldl_toList]; rfl
theorem befStep_bit {acc : Array Nat} {o : Oper} {j : Nat} (h : (befStep acc o).testBit j = true) : ∃ e ∈ o.after, Region.binds .any e = true ∧ (e.on = j ∨ (acc.getD e.on 0).testBit j = true) := by
  have key : ∀ (l : List Edge) (s : Nat), (l.foldl (fun s e => if Region.binds .any e then s ||| 2 ^ e.on ||| acc.getD e.on 0 else s) s).testBit j = true → s.testBit j = true ∨ ∃ e ∈ l, Region.binds .any e = true ∧ (e.on = j ∨ (acc.getD e.on 0).testBit j = true) := by
    intro l
    induction l with
    | nil => intro s h; exact .inl h
    | cons e l ih =>
      intro s h
      simp only [List.foldl_cons] at h
      rcases ih _ h with h1 | ⟨e', he', h2⟩
      · by_cases hb : Region.binds .any e = true
        · rw [if_pos hb] at h1
          simp only [Nat.testBit_or, Bool.or_eq_true, Nat.testBit_two_pow, decide_eq_true_eq] at h1
          rcases h1 with (h1 | h1) | h1
          · exact .inl h1
          · exact .inr ⟨e, by simp, hb, .inl h1⟩
          · exact .inr ⟨e, by simp, hb, .inr h1⟩
        · rw [if_neg hb] at h1
          exact .inl h1
      · exact .inr ⟨e', by simp [he'], h2⟩
  unfold befStep at h
  rw [← Array.foldl_toList] at h
  rcases key _ _ h with h1 | ⟨e, he, h1⟩
  · simp at h1
  · exact ⟨e, by simpa using he, h1⟩
theorem before_fold : ∀ (l : List Oper) (acc : Array Nat), (∀ k, k < acc.size → (l.foldl (fun acc o => acc.push (befStep acc o)) acc).getD k 0 = acc.getD k 0) ∧
    ∀ (j : Nat) (o : Oper), l[j]? = some o → ∃ acc' : Array Nat, acc'.size = acc.size + j ∧ (∀ k, k < acc'.size → (l.foldl (fun acc o => acc.push (befStep acc o)) acc).getD k 0 = acc'.getD k 0) ∧
      (l.foldl (fun acc o => acc.push (befStep acc o)) acc).getD (acc.size + j) 0 = befStep acc' o
  | [], acc => ⟨fun k _ => rfl, fun j o h => by simp at h⟩
  | x :: l, acc => by
    obtain ⟨h1, h2⟩ := before_fold l (acc.push (befStep acc x))
    simp only [List.foldl_cons]
    have hpush : ∀ k, k < acc.size → (acc.push (befStep acc x)).getD k 0 = acc.getD k 0 := fun k hk => by simp [Array.getD_eq_getD_getElem?, Array.getElem?_push, Nat.ne_of_lt hk]
    refine ⟨fun k hk => ?_, ?_⟩
    · rw [h1 k (by simp; omega), hpush k hk]
    · intro j o ho
      cases j with
      | zero =>
        simp at ho
        subst ho
        refine ⟨acc, by simp, fun k hk => by rw [h1 k (by simp; omega), hpush k hk], ?_⟩
        rw [h1 _ (by simp)]
        simp [Array.getD_eq_getD_getElem?]
      | succ j =>
        simp at ho
        obtain ⟨acc', q1, q2, q3⟩ := h2 j o ho
        refine ⟨acc', by simp at q1; omega, q2, ?_⟩
        rw [show acc.size + (j + 1) = (acc.push (befStep acc x)).size + j by simp; omega]
        exact q3
theorem before_ok {i j : Nat} {o : Oper} (hi : ops[i]? = some o) (h : ((Region.before ops).getD i 0).testBit j = true) :
    ∃ e ∈ o.after, Region.binds .any e = true ∧ (e.on = j ∨ (e.on < i ∧ ((Region.before ops).getD e.on 0).testBit j = true)) := by
  rw [before_eq] at h ⊢
  obtain ⟨acc', q1, q2, q3⟩ := (before_fold ops.toList #[]).2 i o (by simpa using hi)
  simp only [List.size_toArray, List.length_nil, Nat.zero_add] at q1 q3
  rw [q3] at h
  obtain ⟨e, he, hb, h1⟩ := befStep_bit h
  refine ⟨e, he, hb, ?_⟩
  rcases h1 with h1 | h1
  · exact .inl h1
  · right
    have hlt : e.on < acc'.size := by
      rcases Nat.lt_or_ge e.on acc'.size with h' | h'
      · exact h'
      · simp [Array.getD_eq_getD_getElem?, Array.getElem?_eq_none h'] at h1
    exact ⟨by omega, by rw [q2 _ hlt]; exact h1⟩
/-- What is listed behind all that it waits for. -/
def Down (ops : Array Oper) (S : Nat → Bool) : Prop := ∀ (i : Nat) (o : Oper), ops[i]? = some o → S i = true → ∀ e ∈ o.after, Region.binds .any e = true → S e.on = true
theorem before_in {S : Nat → Bool} (hd : Down ops S) : ∀ (i : Nat) (o : Oper), ops[i]? = some o → (∀ e ∈ o.after, Region.binds .any e = true → S e.on = true) → ∀ j, ((Region.before ops).getD i 0).testBit j = true → S j = true := by
  intro i
  induction i using Nat.strongRecOn with
  | _ i ih =>
    intro o ho hS j hj
    obtain ⟨e, he, hb, rfl | ⟨h1, h2⟩⟩ := before_ok ho hj
    · exact hS e he hb
    · have hSe := hS e he hb
      have hlt : i < ops.size := (Array.getElem?_eq_some_iff.1 ho).1
      have hoe : ops[e.on]? = some (ops[e.on]'(by omega)) := Array.getElem?_eq_getElem _
      exact ih e.on h1 _ hoe (hd e.on _ hoe hSe) j h2
end
end Go.Pv
namespace Go.Pv
variable [Sy]
section
variable {P : Program} {H : Array Obj} {ops : Array Oper} {bef : Array Nat} {nt : Nat} {pur : Nat → Bool} {n i : Nat} {o : Oper} {v : VOper} {g : G} {O0 : Nat → Prop} {w0 w : World} {e : Env} {a : Act} {call : Callf} {nk : Nat}
  {Q : Exit → Act → World → Prop} {K : Act → World → Prop}

theorem evs_of {H : Array Obj} (L : Laid H g w) (h : ∀ t, VR g w true (e.get t) (a.eval (.tmp t))) : Evs g w e a.eval := ⟨h, fun _ => rfl, fun _ => rfl, fun k => L.glob g w L.all k⟩

theorem yield_of (h : ∀ t, VR g w true (e.get t) (a.eval (.tmp t))) {j t : Nat} (hj : (ops[j]?).bind (·.dst) = some t) : (∀ c, e.get t = .bool c → yielded ops a.tmps j = some c) ∧ (∀ l, e.get t = .tup l → yielded ops a.tmps j = none) := by
  have ht := h t
  constructor
  · intro c hc
    rw [hc] at ht
    have := ht.inv_bool
    simp only [Act.eval] at this
    unfold yielded
    rw [hj]
    simp only [Option.bind_some]
    rw [Array.getD_eq_getD_getElem?] at this
    cases hq : a.tmps[t]? with
    | none => rw [hq] at this; simp [undef] at this
    | some x => rw [hq] at this; simp at this; subst this; rfl
  · intro l hl
    rw [hl] at ht
    obtain ⟨U, hU, _⟩ := ht.inv_tup
    simp only [Act.eval] at hU
    unfold yielded
    rw [hj]
    simp only [Option.bind_some]
    rw [Array.getD_eq_getD_getElem?] at hU
    cases hq : a.tmps[t]? with
    | none => rfl
    | some x => rw [hq] at hU; simp at hU; subst hU; rfl

theorem wanted_of (O : Opd P ops bef nt pur n i o v) (h : ∀ t, VR g w true (e.get t) (a.eval (.tmp t))) {b : Bool} (hw : wantedV e v.guard = some b) : Region.wanted o (yielded ops a.tmps) = b := by
  rcases O.grd with ⟨h1, h2⟩ | ⟨j, c, t, h1, h2, h3⟩
  · rw [h2] at hw
    simp [wantedV] at hw
    subst hw
    simp [Region.wanted, h1]
  · rw [h2] at hw
    simp only [wantedV] at hw
    obtain ⟨q1, q2⟩ := yield_of h h3
    simp only [Region.wanted, h1]
    split at hw
    · rename_i x hx
      simp at hw
      subst hw
      rw [q1 _ hx]
      cases x <;> cases c <;> rfl
    · rename_i l hx
      simp at hw
      subst hw
      rw [q2 _ hx]
      rfl
    · cases hw

theorem step_skip (O : Opd P ops bef nt pur n i o v) (ho : ops[i]? = some o) (h : ∀ t, VR g w true (e.get t) (a.eval (.tmp t))) (hw : wantedV e v.guard = some false) (hK : K (a.put o.dst undef) w) : wpOp P ops Q i K a w := by
  unfold wpOp
  simp only [ho]
  rw [wanted_of O h hw]
  exact hK

theorem strip_far {vo : VOp} (hs : stripOp P o = some vo) (hf : vo.far = true) : (∃ c, o.op = .call c ∧ stripCall P c = some vo) ∨ ∃ x od, o.op = .panic x ∧ odOf x = some od ∧ vo = .pan od := by
  unfold stripOp at hs
  split at hs
  case h_29 x ho =>
    simp only [Option.map_eq_some_iff] at hs
    obtain ⟨od, h1, rfl⟩ := hs
    exact .inr ⟨_, od, ho, h1, rfl⟩
  case h_30 c ho => exact .inl ⟨c, ho, hs⟩
  all_goals exfalso
  all_goals (repeat' (split at hs))
  all_goals first
    | (cases hs; exact Bool.noConfusion hf)
    | (cases hs; done)
    | (simp only [Option.map_eq_some_iff] at hs; obtain ⟨_, _, rfl⟩ := hs; exact Bool.noConfusion hf)

theorem stripCall_far {c : Call} {vo : VOp} (hs : stripCall P c = some vo) (hf : vo.far = true) :
    (∃ f l, c.callee = .value (.func f) ∧ odsOf c.args.toList = some l ∧ vo = .call f l) ∨ ∃ x f l, c.callee = .value x ∧ odOf x = some f ∧ odsOf c.args.toList = some l ∧ vo = .calld f l := by
  unfold stripCall at hs
  split at hs
  case h_1 f hc =>
    simp only [Option.map_eq_some_iff] at hs
    obtain ⟨l, h1, rfl⟩ := hs
    exact .inl ⟨f, l, hc, h1, rfl⟩
  case h_2 x _ hc =>
    split at hs
    · rename_i f l h1 h2
      cases hs
      exact .inr ⟨x, f, l, hc, h1, h2, rfl⟩
    · cases hs
  all_goals exfalso
  all_goals (repeat' (split at hs))
  all_goals first
    | (cases hs; exact Bool.noConfusion hf)
    | (cases hs; done)
    | (simp only [Option.map_eq_some_iff] at hs; obtain ⟨_, _, rfl⟩ := hs; exact Bool.noConfusion hf)

theorem vop_nopan {vo : VOp} {hh : Nat → VO} {x : V} (hf : vo.far = false) (hv : vop call hh nk e vo = some (.pan x)) : False := by
  cases vo <;> simp only [VOp.far] at hf <;> try (exact Bool.noConfusion hf)
  all_goals simp only [vop, v_mov, v_pick, v_new, v_box, v_build, v_buildS, v_load, v_store, v_nilc, v_bin, v_una, v_conv, v_mkI, v_mkF, v_mkM, v_mkS, v_slc, v_fad, v_fld, v_iad, v_idx, v_look, v_mset, v_rng, v_nxt, v_tas, v_ext, v_call, v_calld, v_len, v_app, v_copy, v_clearM, v_clearS, v_del, v_mx, v_pan, ok1, Option.map_eq_some_iff] at hv
  all_goals (repeat' (split at hv))
  all_goals first
    | (cases hv; done)
    | (simp at hv; done)
    | (obtain ⟨_, _, h⟩ := hv; cases h)

/-- What an operation does. -/
theorem step_ok (HC : CallOk P H call) (O : Opd P ops bef nt pur n i o v) (ho : ops[i]? = some o) (R : Rel g O0 w0 w) (L : Laid H g w) (h : ∀ t, VR g w true (e.get t) (a.eval (.tmp t))) (hw : wantedV e v.guard = some true)
    {res : Res} (hv : vop call g.h nk e v.op = some res) (hN : ∀ rc, res = .ok rc → (∀ k ∈ rc.rd, k < nk) ∧ ∀ k, nk ≤ k → k ∈ rc.upd.map (·.1) → ¬ g.D k)
    (hK : ∀ rc, res = .ok rc → ∀ g' w' u, Eff g rc.upd g' → Rel g' O0 w0 w' → Step g w g' w' → VR g' w' true rc.val u → K (a.put o.dst u) w')
    (hQ : ∀ x, res = .pan x → ∀ w' u, PanR x u → Rel (g.kill (harm g.h e v.op)) O0 w0 w' → Step g w (g.kill (harm g.h e v.op)) w' → Q (.panic [{ v := u, recovered := false }]) a w') : wpOp P ops Q i K a w := by
  have E := evs_of L h
  unfold wpOp
  simp only [ho]
  rw [wanted_of O h hw, if_pos rfl]
  left
  unfold Oper.wp
  have far : ∀ {f : FuncId} {args : List V} {us : Array Value}, harm g.h e v.op = reach g.h 2000 (V.refs.refsL args) [] → (execOp a.eval o).run P w = (callFunc f us).run P w → Args g w args us → doCall call g.h nk f args = some res → o.upon P a K Q ((execOp a.eval o).run P w) := by
    intro f args us hha he ha hd
    rcases doCall_ok HC R L ha hd hN with ⟨h1, h2⟩ | ⟨u, w', h1, rc, g', h2, h3, h4, h5, h6⟩
    · rw [he, h1, Oper.upon_enter]
      refine h2.mono ?_
      intro e w' hh
      cases e with
      | returned u =>
        obtain ⟨rc, g', q1, q2, q3, q4, q5⟩ := hh
        exact hK rc q1 g' w' u q2 q3 q4 q5
      | panicked chain =>
        obtain ⟨x, u, q1, rfl, q3, q4, q5⟩ := hh
        exact hQ x q1 w' u q3 (hha ▸ q4) (hha ▸ q5)
      | outgrown => exact hh.elim
    · rw [he, h1, Oper.upon_value]
      exact hK rc h2 g' w' u h3 h4 h5 h6
  cases hf : v.op.far with
  | false =>
    cases res with
    | ok rc =>
      obtain ⟨nx, w', g', u, h1, h2, h3, h4, h5, h6⟩ := vop_ok (N := nk) R E (fun hm => (hN rc rfl).2 nk (Nat.le_refl _) hm) O.op hf hv
      rw [h1]
      rcases h2 with rfl | ⟨rfl, rfl⟩
      · rw [Oper.upon_value]; exact hK rc rfl g' w' u h3 h4 h5 h6
      · rw [Oper.upon_skip]; exact hK rc rfl g' w' _ h3 h4 h5 h6
    | pan x => exact (vop_nopan hf hv).elim
  | true =>
    rcases strip_far O.op hf with ⟨c, hop, hc⟩ | ⟨x, od, hop, hod, hvo⟩
    · rcases stripCall_far hc hf with ⟨f, l, hcal, hl, hvo⟩ | ⟨x, fo, l, hcal, hfo, hl, hvo⟩
      · rw [hvo] at hv
        obtain ⟨k1, k2⟩ := ods_ok E hl
        simp only [vop, v_mov, v_pick, v_new, v_box, v_build, v_buildS, v_load, v_store, v_nilc, v_bin, v_una, v_conv, v_mkI, v_mkF, v_mkM, v_mkS, v_slc, v_fad, v_fld, v_iad, v_idx, v_look, v_mset, v_rng, v_nxt, v_tas, v_ext, v_call, v_calld, v_len, v_app, v_copy, v_clearM, v_clearS, v_del, v_mx, v_pan] at hv
        refine far (f := f) (args := l.map (·.ev e)) (us := c.args.map a.eval) (by rw [hvo]; rfl) ?_ ⟨by simp [k1], fun j x u hx hu => k2 j x u hx (by simpa using hu)⟩ hv
        simp [execOp, hop, resolve, hcal, Act.eval, Deferred.ofValue, invoke]
      · rw [hvo] at hv
        obtain ⟨k1, k2⟩ := ods_ok E hl
        have hfv := od_ok E hfo
        simp only [vop, v_mov, v_pick, v_new, v_box, v_build, v_buildS, v_load, v_store, v_nilc, v_bin, v_una, v_conv, v_mkI, v_mkF, v_mkM, v_mkS, v_slc, v_fad, v_fld, v_iad, v_idx, v_look, v_mset, v_rng, v_nxt, v_tas, v_ext, v_call, v_calld, v_len, v_app, v_copy, v_clearM, v_clearS, v_del, v_mx, v_pan] at hv
        split at hv
        · rename_i f pa pb hq
          rw [hq] at hfv
          obtain ⟨A, A', hu, hA, hA', ra, rb⟩ := hfv.inv_fn
          refine far (f := f) (args := pa ++ l.map (·.ev e) ++ pb) (us := A ++ c.args.map a.eval ++ A') (by rw [hvo]; simp [harm, hq]) ?_ ⟨by simp [k1, hA, hA'], fun j x u hx hu => ?_⟩ hv
          · simp [execOp, hop, resolve, hcal, hu, Deferred.ofValue, invoke]
          · have hx' : (pa ++ (l.map (·.ev e) ++ pb))[j]? = some x := by simpa using hx
            have hu' : (A.toList ++ ((c.args.toList.map a.eval) ++ A'.toList))[j]? = some u := by
              rw [← Array.getElem?_toList] at hu
              simpa using hu
            rw [List.getElem?_append] at hx' hu'
            have l1 : A.toList.length = pa.length := by simpa using hA
            rw [l1] at hu'
            split at hx'
            · rename_i hj
              rw [if_pos hj] at hu'
              exact ra j x u hx' (by simpa using hu')
            · rename_i hj
              rw [if_neg hj] at hu'
              rw [List.getElem?_append] at hx' hu'
              have l2 : (c.args.toList.map a.eval).length = (l.map (·.ev e)).length := by simp [k1]
              rw [l2] at hu'
              split at hx'
              · rename_i hj2
                rw [if_pos hj2] at hu'
                exact k2 _ x u hx' hu'
              · rename_i hj2
                rw [if_neg hj2] at hu'
                exact rb _ x u hx' (by simpa using hu')
        · cases hv
    · rw [hvo] at hv
      have hx := od_ok E hod
      simp only [vop, v_mov, v_pick, v_new, v_box, v_build, v_buildS, v_load, v_store, v_nilc, v_bin, v_una, v_conv, v_mkI, v_mkF, v_mkM, v_mkS, v_slc, v_fad, v_fld, v_iad, v_idx, v_look, v_mset, v_rng, v_nxt, v_tas, v_ext, v_call, v_calld, v_len, v_app, v_copy, v_clearM, v_clearS, v_del, v_mx, v_pan] at hv
      split at hv
      · rename_i t x' hq
        simp only [Option.some.injEq] at hv
        subst hv
        rw [hq] at hx
        obtain ⟨y, hy, _⟩ := hx.inv_ifc
        have hrun : (execOp a.eval o).run P w = .halt (.panic (.iface t y)) w := by
          simp [execOp, hop, hy, Instr.panic]
        rw [hrun, Oper.upon_panic]
        have hk : g.kill (harm g.h e v.op) = g := by rw [hvo]; exact G.kill_nil g
        exact hQ _ rfl w _ ⟨t, x', y, rfl, rfl⟩ (hk.symm ▸ R) (hk.symm ▸ Step.refl g w)
      · cases hv
end
end Go.Pv
namespace Go.Pv
variable [Sy]

theorem chk_apply : ∀ (u : List (Nat × VO)) (h : List VO), chkU h.length u = true → (∀ k, (applyU h u).getD k .dead = lookU u k (h.getD k .dead)) ∧ (∀ k, k < (applyU h u).length ↔ k < h.length ∨ k ∈ u.map (·.1))
  | [], h, _ => ⟨fun k => rfl, fun k => by simp [applyU]⟩
  | (q, o) :: r, h, hc => by
    unfold chkU at hc
    by_cases hq : q < h.length
    · rw [if_pos hq] at hc
      obtain ⟨h1, h2⟩ := chk_apply r (h.set q o) (by simpa using hc)
      simp only [applyU, if_pos hq, lookU]
      refine ⟨fun k => ?_, fun k => ?_⟩
      · rw [h1]
        congr 1
        simp only [List.getD_eq_getElem?_getD, List.getElem?_set]
        by_cases hk : q = k
        · subst hk; simp [hq]
        · simp [hk]
      · rw [h2]
        simp only [List.length_set, List.map_cons, List.mem_cons]
        constructor
        · rintro (h | h)
          · exact .inl h
          · exact .inr (.inr h)
        · rintro (h | rfl | h)
          · exact .inl h
          · exact .inl hq
          · exact .inr h
    · rw [if_neg hq] at hc
      simp only [Bool.and_eq_true, beq_iff_eq] at hc
      obtain ⟨rfl, hc⟩ := hc
      obtain ⟨h1, h2⟩ := chk_apply r (h ++ [o]) (by simpa using hc)
      simp only [applyU, if_neg hq, lookU]
      refine ⟨fun k => ?_, fun k => ?_⟩
      · rw [h1]
        congr 1
        simp only [List.getD_eq_getElem?_getD]
        by_cases hk : h.length = k
        · subst hk; simp
        · rw [if_neg hk]
          rcases Nat.lt_or_ge k h.length with h' | h'
          · rw [List.getElem?_append_left h']
          · rw [List.getElem?_eq_none (by simp; omega), List.getElem?_eq_none h']
      · rw [h2]
        simp only [List.length_append, List.length_singleton, List.map_cons, List.mem_cons]
        constructor
        · rintro (h' | h')
          · by_cases hk : k = h.length
            · exact .inr (.inl hk)
            · exact .inl (by omega)
          · exact .inr (.inr h')
        · rintro (h' | rfl | h')
          · exact .inl (by omega)
          · exact .inl (by omega)
          · exact .inr h'

theorem addWs_ok {m0 : Nat} : ∀ (u : List (Nat × VO)) (ws : List Nat) {k : Nat}, k < m0 → k ∉ addWs m0 ws u → k ∉ ws ∧ k ∉ u.map (·.1)
  | [], ws, k, _, h => ⟨h, by simp⟩
  | (q, o) :: r, ws, k, hk, h => by
    unfold addWs at h
    obtain ⟨h1, h2⟩ := addWs_ok r _ hk h
    split at h1
    · rename_i hq
      simp only [List.mem_cons, not_or] at h1
      exact ⟨h1.2, by simp only [List.map_cons, List.mem_cons, not_or]; exact ⟨h1.1, h2⟩⟩
    · rename_i hq
      refine ⟨h1, ?_⟩
      simp only [List.map_cons, List.mem_cons, not_or]
      refine ⟨?_, h2⟩
      rintro rfl
      apply hq
      exact ⟨hk, by simpa using h1⟩

theorem get_putE (e : Env) (d : Option Nat) (v : V) (t : Nat) : (putE e d v).get t = if d = some t then v else e.get t := by
  cases d with
  | none => simp [putE]
  | some d => simp [putE, Env.get]
theorem eval_put {a : Act} {d : Option Nat} {u : Value} (h : ∀ x, d = some x → x < a.tmps.size) (t : Nat) : (a.put d u).eval (.tmp t) = if d = some t then u else a.eval (.tmp t) := by
  cases d with
  | none => simp [Act.put]
  | some d =>
    have := h d rfl
    simp only [Act.put, Act.eval, Array.getD_eq_getD_getElem?, Array.getElem?_setIfInBounds, Option.some.injEq]
    by_cases hd : d = t
    · subst hd; simp [this]
    · simp [hd]

/-- What waits to be called at the end: it was made of values, which are still what they were. -/
structure Dfr where
  make : List Value → List Deferred
  xs : List V
  ok : List Value → Prop
def Dfr.no : Dfr := ⟨fun _ => [], [], fun _ => True⟩
def DefR (g : G) (w : World) (df : Dfr) (ds : List Deferred) : Prop :=
  ∃ us : List Value, df.ok us ∧ ds = df.make us ∧ us.length = df.xs.length ∧ ∀ (j : Nat) (x : V) (u : Value), df.xs[j]? = some x → us[j]? = some u → VR g w true x u
theorem DefR.move {g g' : G} {w w' : World} {df : Dfr} {ds : List Deferred} (h : DefR g w df ds) (s : Step g w g' w') (hf : ∀ k, g.D k → g'.D k ∧ g'.B k = g.B k ∧ g'.C k = g.C k) : DefR g' w' df ds := by
  obtain ⟨us, h0, h1, h2, h3⟩ := h
  exact ⟨us, h0, h1, h2, fun j x u hx hu => (h3 j x u hx hu).move s hf⟩
theorem DefR.no {g : G} {w : World} : DefR g w Dfr.no [] := ⟨[], trivial, rfl, rfl, fun j x u h => by simp [Dfr.no] at h⟩

/-- The machine's state and the model's. -/
structure Inv (H : Array Obj) (df : Dfr) (gE : G) (wE : World) (hl : List VO) (nt : Nat) (s : St) (a : Act) (w : World) (g : G) : Prop where
  rel : Rel g (own gE) wE w
  step : Step gE wE g w
  X : g.X = gE.X
  laid : Laid H g w
  dom : ∀ k, g.D k ↔ k < s.heap.length
  h : ∀ k, g.h k = s.heap.getD k .dead
  B : ∀ k, k < hl.length → g.B k = gE.B k ∧ g.C k = gE.C k
  env : ∀ t, VR g w true (s.env.get t) (a.eval (.tmp t))
  size : nt ≤ a.tmps.size
  defers : DefR g w df a.defers
  len : hl.length ≤ s.heap.length
  ws : ∀ k, k < hl.length → k ∉ s.ws → s.heap.getD k .dead = hl.getD k .dead
def InvS (H : Array Obj) (df : Dfr) (gE : G) (wE : World) (hl : List VO) (nt : Nat) (s : St) (a : Act) (w : World) : Prop := ∃ g, Inv H df gE wE hl nt s a w g

def Good (H : Array Obj) (df : Dfr) (gE : G) (wE : World) (hl : List VO) (nt : Nat) (x : Ex) (s : St) (Q : Exit → Act → World → Prop) : Prop :=
  match x with
  | .normal => ∀ a w, InvS H df gE wE hl nt s a w → Q .normal a w
  | .exit id => ∀ a w, InvS H df gE wE hl nt s a w → Q (.exit id) a w
  | .goto l => ∀ a w, InvS H df gE wE hl nt s a w → Q (.goto l) a w
  | .ret => ∀ a w, InvS H df gE wE hl nt s a w → Q .ret a w
  | .pan v => ∀ a w u, PanR v u → InvS H df gE wE hl nt s a w → Q (.panic [{ v := u, recovered := false }]) a w

section
variable {P : Program} {H : Array Obj} {df : Dfr} {gE : G} {wE : World} {hl : List VO} {nt : Nat} {ops : Array Oper} {bef : Array Nat} {pur : Nat → Bool} {n : Nat} {a : Act} {w : World} {call : Callf} {s s' : St} {x : Ex}
  {Q : Exit → Act → World → Prop}

theorem hget (h : List VO) : (fun k => h.getD k VO.dead) = fun k => h.getD k .dead := rfl

theorem Inv.put {g g' : G} {w' : World} {upd : List (Nat × VO)} {d : Option Nat} {v : V} {u : Value} (I : Inv H df gE wE hl nt s a w g) (hE : Eff g upd g') (hR : Rel g' (own gE) wE w') (hS : Step g w g' w') (hV : VR g' w' true v u)
    (hc : chkU s.heap.length upd = true) (hd : ∀ x, d = some x → x < nt) : Inv H df gE wE hl nt ⟨putE s.env d v, applyU s.heap upd, addWs hl.length s.ws upd⟩ (a.put d u) w' g' := by
  obtain ⟨q1, q2⟩ := chk_apply upd s.heap hc
  refine ⟨hR, I.step.trans hS I.rel.size, hE.X.trans I.X, I.laid.step hS, ?_, ?_, ?_, ?_, ?_, ?_, ?_, ?_⟩
  · intro k
    rw [hE.D, I.dom]
    exact (q2 k).symm
  · intro k
    show g'.h k = (applyU s.heap upd).getD k .dead
    rw [hE.h, q1, I.h]
  · intro k hk
    have hD : g.D k := (I.dom k).2 (Nat.lt_of_lt_of_le hk I.len)
    obtain ⟨h1, h2⟩ := hE.B k hD
    obtain ⟨h3, h4⟩ := I.B k hk
    exact ⟨h1.trans h3, h2.trans h4⟩
  · intro t
    rw [eval_put fun x hx => Nat.lt_of_lt_of_le (hd x hx) I.size]
    show VR g' w' true ((putE s.env d v).get t) _
    rw [get_putE]
    split
    · exact hV
    · exact (I.env t).move hS hE.move
  · cases d with
    | none => exact I.size
    | some d => simpa [Act.put] using I.size
  · have := I.defers.move hS hE.move
    cases d with
    | none => exact this
    | some d => exact this
  · have := I.len
    have : ∀ k, k < s.heap.length → k < (applyU s.heap upd).length := fun k hk => (q2 k).2 (.inl hk)
    rcases Nat.lt_or_ge (applyU s.heap upd).length hl.length with h | h
    · have := (this (applyU s.heap upd).length (by omega)); omega
    · exact h
  · intro k hk hkw
    obtain ⟨h1, h2⟩ := addWs_ok upd s.ws hk hkw
    show (applyU s.heap upd).getD k .dead = _
    rw [q1, lookU_notin h2]
    exact I.ws k hk h1
theorem Inv.skip {g : G} {d : Option Nat} (I : Inv H df gE wE hl nt s a w g) (hd : ∀ x, d = some x → x < nt) : Inv H df gE wE hl nt { s with env := putE s.env d (.tup []) } (a.put d undef) w g := by
  have := I.put (d := d) (v := .tup []) (u := undef) (Eff.nil g) I.rel (Step.refl g w) (.tup _ _ _ rfl fun j x u h => by simp at h) rfl hd
  exact this

theorem kill_get (h : List VO) (m : List Nat) (k : Nat) : (kill h m).getD k .dead = if k ∈ m then .dead else h.getD k .dead := by
  unfold kill
  rw [List.getD_eq_getElem?_getD, List.getElem?_map]
  rcases Nat.lt_or_ge k h.length with hk | hk
  · simp [List.getElem?_range hk]
  · simp [List.getElem?_eq_none (l := List.range h.length) (by simpa using hk), List.getElem?_eq_none hk]
theorem Inv.killed {g : G} {m : List Nat} {w' : World} (I : Inv H df gE wE hl nt s a w g) (hR : Rel (g.kill m) (own gE) wE w') (hS : Step g w (g.kill m) w') : Inv H df gE wE hl nt (killS hl.length s m) a w' (g.kill m) := by
  refine ⟨hR, I.step.trans hS I.rel.size, I.X, I.laid.step hS, ?_, ?_, I.B, fun t => (I.env t).move hS fun k h => ⟨h, rfl, rfl⟩, I.size, I.defers.move hS fun k h => ⟨h, rfl, rfl⟩, ?_, ?_⟩
  · intro k
    show g.D k ↔ _
    rw [I.dom]
    simp [killS, kill]
  · intro k
    show (if k ∈ m then VO.dead else g.h k) = (kill s.heap m).getD k .dead
    rw [kill_get, I.h]
  · have := I.len
    simpa [killS, kill] using this
  · intro k hk hkw
    simp only [killS, List.mem_append, List.mem_filter, decide_eq_true_eq, not_or, not_and] at hkw
    show (kill s.heap m).getD k .dead = _
    rw [kill_get, if_neg fun hm => hkw.1 hm hk]
    exact I.ws k hk hkw.2

/-- A region in the order of its text. -/
theorem region_text_rest (HC : CallOk P H call) (rest : List Nat) : ∀ (vl : List VOper) (k : Nat) (log : List (List Nat × List Nat)) (s : St) (a : Act) (w : World), (∀ (j : Nat) (o : Oper) (v : VOper), ops[k + j]? = some o → vl[j]? = some v → Opd P ops bef nt pur n (k + j) o v) →
    k + vl.length ≤ ops.size → runR call hl.length false vl k log s = some (x, s') → InvS H df gE wE hl nt s a w → Good H df gE wE hl nt x s' (fun e a w => match e with | .normal => wpOps P ops Q rest a w | e => Q e a w) → wpOps P ops Q (List.range' k vl.length ++ rest) a w
  | [], k, log, s, a, w, _, _, hr, hI, hG => by
    simp only [runR, Option.some.injEq, Prod.mk.injEq] at hr
    obtain ⟨rfl, rfl⟩ := hr
    exact hG a w hI
  | v :: vl, k, log, s, a, w, hO, hk, hr, hI, hG => by
    obtain ⟨g, I⟩ := hI
    simp only [List.length_cons] at hk ⊢
    rw [List.range'_succ, List.cons_append, wpOps_cons]
    have hlt : k < ops.size := by omega
    have ho : ops[k]? = some ops[k] := Array.getElem?_eq_getElem hlt
    have O := hO 0 ops[k] v ho rfl
    rw [Nat.add_zero] at O
    have hd : ∀ x, v.dst = some x → x < nt := fun x hx => O.lt x (by rw [← O.dst]; exact hx)
    have hO' : ∀ (j : Nat) (o : Oper) (v' : VOper), ops[k + 1 + j]? = some o → vl[j]? = some v' → Opd P ops bef nt pur n (k + 1 + j) o v' := fun j o v' h1 h2 => by
      have := hO (j + 1) o v' (by rw [← h1]; congr 1; omega) (by simpa using h2)
      rwa [show k + (j + 1) = k + 1 + j by omega] at this
    unfold runR at hr
    split at hr
    · cases hr
    · rename_i hw
      refine step_skip O ho I.env hw ?_
      exact region_text_rest HC rest vl (k + 1) _ _ _ w hO' (by omega) hr ⟨g, by rw [← O.dst]; exact I.skip hd⟩ hG
    · rename_i hw
      have hh : (fun k => s.heap.getD k .dead) = g.h := funext fun k => (I.h k).symm
      rw [hh] at hr
      split at hr
      · cases hr
      · rename_i pv hv
        simp only [Bool.not_false, Bool.true_or, if_true, Option.some.injEq, Prod.mk.injEq] at hr
        obtain ⟨rfl, rfl⟩ := hr
        refine step_ok HC O ho I.rel I.laid I.env hw hv (fun rc h => by cases h) (fun rc h => by cases h) ?_
        intro y hy w' u hp hR hS
        cases hy
        exact hG a w' u hp ⟨_, I.killed hR hS⟩
      · rename_i rc hv
        split at hr
        · rename_i hc
          simp only [Bool.not_false, Bool.true_or, Bool.and_true, Bool.and_eq_true, List.all_eq_true, decide_eq_true_eq] at hc
          refine step_ok HC O ho I.rel I.laid I.env hw hv ?_ ?_ (fun y h => by cases h)
          · intro rc' h
            cases h
            exact ⟨hc.2, fun q hq _ hD => by have := (I.dom q).1 hD; omega⟩
          · intro rc' h g' w' u h1 h2 h3 h4
            cases h
            exact region_text_rest HC rest vl (k + 1) _ _ _ w' hO' (by omega) hr ⟨g', by rw [← O.dst]; exact I.put h1 h2 h3 h4 hc.1 hd⟩ hG
        · cases hr
theorem region_text (HC : CallOk P H call) (vl : List VOper) (k : Nat) (log : List (List Nat × List Nat)) (s : St) (a : Act) (w : World) (hO : ∀ (j : Nat) (o : Oper) (v : VOper), ops[k + j]? = some o → vl[j]? = some v → Opd P ops bef nt pur n (k + j) o v)
    (hk : k + vl.length = ops.size) (hr : runR call hl.length false vl k log s = some (x, s')) (hI : InvS H df gE wE hl nt s a w) (hG : Good H df gE wE hl nt x s' Q) : wpOps P ops Q (List.range' k vl.length) a w := by
  have := region_text_rest (ops := ops) (bef := bef) (pur := pur) (n := n) (Q := Q) HC [] vl k log s a w hO (by omega) hr hI (by cases x <;> exact hG)
  simpa using this
end
end Go.Pv
namespace Go.Pv
variable [Sy]

structure En where
  dst : Option Nat
  val : V
  rd : List Nat
  upd : List (Nat × VO)
def En.fp (t : En) : List Nat × List Nat := (t.rd, t.upd.map (·.1))
def mixE (S : Nat → Bool) : Nat → List En → Env → Env
  | _, [], e => e
  | i, t :: r, e => mixE S (i + 1) r (if S i then putE e t.dst t.val else e)
def mixU (S : Nat → Bool) : Nat → List En → List (Nat × VO)
  | _, [] => []
  | i, t :: r => (if S i then t.upd else []) ++ mixU S (i + 1) r
def aft (m0 : Nat) : St → List En → St
  | s, [] => s
  | s, t :: r => aft m0 ⟨putE s.env t.dst t.val, applyU s.heap t.upd, addWs m0 s.ws t.upd⟩ r

theorem mixE_get {S S' : Nat → Bool} {t : Nat} : ∀ (T : List En) (i : Nat) (e e' : Env), (∀ (j : Nat) (x : En), T[j]? = some x → x.dst = some t → S (i + j) = S' (i + j)) → e.get t = e'.get t → (mixE S i T e).get t = (mixE S' i T e').get t
  | [], _, _, _, _, h => h
  | x :: r, i, e, e', hS, h => by
    unfold mixE
    refine mixE_get r (i + 1) _ _ (fun j y hy hd => ?_) ?_
    · have := hS (j + 1) y (by simpa using hy) hd
      rwa [show i + (j + 1) = i + 1 + j by omega] at this
    · by_cases hd : x.dst = some t
      · have := hS 0 x rfl hd
        rw [Nat.add_zero] at this
        rw [this]
        split <;> simp [get_putE, hd, h]
      · have e1 : ∀ (b : Bool) (e : Env), (if b then putE e x.dst x.val else e).get t = e.get t := fun b e => by cases b <;> simp [get_putE, hd]
        rw [e1, e1]
        exact h
theorem mixU_get {S S' : Nat → Bool} {k : Nat} : ∀ (T : List En) (i : Nat) (d : VO), (∀ (j : Nat) (x : En), T[j]? = some x → k ∈ x.upd.map (·.1) → S (i + j) = S' (i + j)) → lookU (mixU S i T) k d = lookU (mixU S' i T) k d
  | [], _, _, _ => rfl
  | x :: r, i, d, hS => by
    unfold mixU
    rw [lookU_append, lookU_append]
    have ih := fun d => mixU_get (S := S) (S' := S') r (i + 1) d fun j y hy hd => by
      have := hS (j + 1) y (by simpa using hy) hd
      rwa [show i + (j + 1) = i + 1 + j by omega] at this
    rw [ih]
    congr 1
    by_cases hk : k ∈ x.upd.map (·.1)
    · have := hS 0 x rfl hk
      rw [Nat.add_zero] at this
      rw [this]
    · have e1 : ∀ b : Bool, lookU (if b then x.upd else []) k d = d := fun b => by
        cases b
        · rfl
        · exact lookU_notin hk
      rw [e1, e1]

theorem mixE_add {S S' : Nat → Bool} {t q : Nat} {x : En} : ∀ (T : List En) (i : Nat) (e : Env), (∀ j, j ≠ i + q → S' j = S j) → S (i + q) = false → S' (i + q) = true → T[q]? = some x →
    (∀ (j : Nat) (y : En), q < j → T[j]? = some y → y.dst = some t → x.dst = some t → S (i + j) = false) → (mixE S' i T e).get t = (putE (mixE S i T e) x.dst x.val).get t
  | [], _, _, _, _, _, hq, _ => by simp at hq
  | y :: r, i, e, hS, h0, h1, hq, hc => by
    unfold mixE
    cases q with
    | zero =>
      simp at hq
      subst hq
      rw [Nat.add_zero] at h0 h1
      rw [h0, h1, get_putE]
      simp only [if_true, Bool.false_eq_true, if_false]
      by_cases hd : y.dst = some t
      · rw [if_pos hd]
        have : (mixE S' (i + 1) r (putE e y.dst y.val)).get t = (mixE (fun _ => false) (i + 1) r (putE e y.dst y.val)).get t := mixE_get r (i + 1) _ _ (fun j z hz hdz => by
          rw [hS _ (by omega)]
          have := hc (j + 1) z (by omega) (by simpa using hz) hdz hd
          rwa [show i + (j + 1) = i + 1 + j by omega] at this) rfl
        rw [this]
        have none : ∀ (r : List En) (i : Nat) (e : Env), mixE (fun _ => false) i r e = e := by
          intro r
          induction r with
          | nil => intro i e; rfl
          | cons z r ih => intro i e; simp [mixE, ih]
        rw [none, get_putE, if_pos hd]
      · rw [if_neg hd]
        refine mixE_get r (i + 1) _ _ (fun j z hz hdz => hS _ (by omega)) ?_
        rw [get_putE, if_neg hd]
    | succ q =>
      have hi : S' i = S i := hS i (by omega)
      rw [hi]
      refine mixE_add r (i + 1) _ (q := q) (fun j hj => hS j (by omega)) ?_ ?_ (by simpa using hq) ?_
      · rwa [show i + 1 + q = i + (q + 1) by omega]
      · rwa [show i + 1 + q = i + (q + 1) by omega]
      · intro j z hj hz hdz hdx
        have := hc (j + 1) z (by omega) (by simpa using hz) hdz hdx
        rwa [show i + (j + 1) = i + 1 + j by omega] at this
theorem mixU_none {k : Nat} {S : Nat → Bool} : ∀ (r : List En) (i : Nat) (d : VO), (∀ (j : Nat) (x : En), r[j]? = some x → k ∈ x.upd.map (·.1) → S (i + j) = false) → lookU (mixU S i r) k d = d
  | [], _, _, _ => rfl
  | x :: r, i, d, hS => by
    unfold mixU
    rw [lookU_append, mixU_none r (i + 1) _ fun j y hy hd => by
      have := hS (j + 1) y (by simpa using hy) hd
      rwa [show i + (j + 1) = i + 1 + j by omega] at this]
    by_cases hk : k ∈ x.upd.map (·.1)
    · have := hS 0 x rfl hk
      rw [Nat.add_zero] at this
      rw [this]
      rfl
    · cases S i
      · rfl
      · exact lookU_notin hk
theorem mixU_add {S S' : Nat → Bool} {k q : Nat} {x : En} : ∀ (T : List En) (i : Nat) (d : VO), (∀ j, j ≠ i + q → S' j = S j) → S (i + q) = false → S' (i + q) = true → T[q]? = some x →
    (∀ (j : Nat) (y : En), q < j → T[j]? = some y → k ∈ y.upd.map (·.1) → k ∈ x.upd.map (·.1) → S (i + j) = false) → lookU (mixU S' i T) k d = lookU x.upd k (lookU (mixU S i T) k d)
  | [], _, _, _, _, _, hq, _ => by simp at hq
  | y :: r, i, d, hS, h0, h1, hq, hc => by
    unfold mixU
    rw [lookU_append, lookU_append]
    cases q with
    | zero =>
      simp at hq
      subst hq
      rw [Nat.add_zero] at h0 h1
      rw [h0, h1]
      simp only [if_true, Bool.false_eq_true, if_false, lookU]
      by_cases hd : k ∈ y.upd.map (·.1)
      · have hS0 : ∀ (j : Nat) (z : En), r[j]? = some z → k ∈ z.upd.map (·.1) → S (i + 1 + j) = false := fun j z hz hdz => by
          have := hc (j + 1) z (by omega) (by simpa using hz) hdz hd
          rwa [show i + (j + 1) = i + 1 + j by omega] at this
        rw [mixU_none r (i + 1) _ (S := S') fun j z hz hdz => by rw [hS _ (by omega)]; exact hS0 j z hz hdz, mixU_none r (i + 1) d hS0]
      · rw [lookU_notin hd, lookU_notin hd]
        exact mixU_get r (i + 1) _ fun j z hz hdz => hS _ (by omega)
    | succ q =>
      have hi : S' i = S i := hS i (by omega)
      rw [hi]
      refine mixU_add r (i + 1) _ (q := q) (fun j hj => hS j (by omega)) ?_ ?_ (by simpa using hq) ?_
      · rwa [show i + 1 + q = i + (q + 1) by omega]
      · rwa [show i + 1 + q = i + (q + 1) by omega]
      · intro j z hj hz hdz hdx
        have := hc (j + 1) z (by omega) (by simpa using hz) hdz hdx
        rwa [show i + (j + 1) = i + 1 + j by omega] at this

theorem aft_env (m0 : Nat) : ∀ (T : List En) (s : St) (i : Nat), (aft m0 s T).env = mixE (fun _ => true) i T s.env
  | [], _, _ => rfl
  | t :: r, s, i => by
    unfold aft mixE
    rw [aft_env m0 r _ (i + 1)]
    rfl
/-- Each one's changes fit. -/
def Fits (m0 : Nat) (s : St) (T : List En) : Prop := ∀ (j : Nat) (t : En), T[j]? = some t → chkU (aft m0 s (T.take j)).heap.length t.upd = true
theorem aft_heap (m0 : Nat) : ∀ (T : List En) (s : St) (i : Nat), Fits m0 s T → (∀ k, (aft m0 s T).heap.getD k .dead = lookU (mixU (fun _ => true) i T) k (s.heap.getD k .dead)) ∧
    (∀ k, k < (aft m0 s T).heap.length ↔ k < s.heap.length ∨ ∃ t ∈ T, k ∈ t.upd.map (·.1))
  | [], s, i, _ => ⟨fun k => rfl, fun k => by simp [aft]⟩
  | t :: r, s, i, hF => by
    obtain ⟨q1, q2⟩ := chk_apply t.upd s.heap (hF 0 t rfl)
    obtain ⟨h1, h2⟩ := aft_heap m0 r ⟨putE s.env t.dst t.val, applyU s.heap t.upd, addWs m0 s.ws t.upd⟩ (i + 1) fun j x hx => hF (j + 1) x (by simpa using hx)
    unfold aft mixU
    refine ⟨fun k => ?_, fun k => ?_⟩
    · rw [h1, lookU_append]
      simp only [if_true]
      rw [q1]
    · rw [h2]
      simp only
      rw [q2]
      simp only [List.mem_cons, exists_eq_or_imp]
      rw [or_assoc]
theorem Fits.take {m0 : Nat} {s : St} {T : List En} (h : Fits m0 s T) (n : Nat) : Fits m0 s (T.take n) := fun j t ht => by
  rw [List.getElem?_take] at ht
  split at ht
  · rename_i hj
    have := h j t ht
    rwa [List.take_take, Nat.min_eq_left (by omega)]
  · cases ht
theorem mixE_take {t : Nat} : ∀ (T : List En) (i n : Nat) (e : Env), (mixE (fun j => decide (j < i + n)) i T e).get t = (mixE (fun _ => true) i (T.take n) e).get t
  | [], i, n, e => by simp [mixE]
  | x :: r, i, 0, e => by
    simp only [List.take_zero]
    have none : ∀ (r : List En) (j : Nat) (e : Env), i ≤ j → mixE (fun j => decide (j < i + 0)) j r e = e := by
      intro r
      induction r with
      | nil => intro i e _; rfl
      | cons z r ih => intro j e hj; simp only [mixE]; rw [if_neg (by simp; omega)]; exact ih _ _ (by omega)
    rw [none _ _ _ (Nat.le_refl _)]
    rfl
  | x :: r, i, n + 1, e => by
    simp only [List.take_succ_cons, mixE]
    rw [if_pos (by simp)]
    have := mixE_take (t := t) r (i + 1) n (putE e x.dst x.val)
    rw [show i + 1 + n = i + (n + 1) by omega] at this
    simpa using this
theorem mixU_take {k : Nat} : ∀ (T : List En) (i n : Nat) (d : VO), lookU (mixU (fun j => decide (j < i + n)) i T) k d = lookU (mixU (fun _ => true) i (T.take n)) k d
  | [], i, n, d => by simp [mixU]
  | x :: r, i, 0, d => by
    simp only [List.take_zero]
    exact mixU_none _ _ _ fun j y _ _ => by simp
  | x :: r, i, n + 1, d => by
    simp only [List.take_succ_cons, mixU]
    rw [if_pos (by simp), lookU_append, lookU_append]
    have := mixU_take (k := k) r (i + 1) n (lookU x.upd k d)
    rw [show i + 1 + n = i + (n + 1) by omega] at this
    simpa using this

/-! The run's trace. -/
def Did (call : Callf) (s : St) (v : VOper) (t : En) : Prop :=
  (wantedV s.env v.guard = some false ∧ t = ⟨v.dst, .tup [], [], []⟩) ∨
  (wantedV s.env v.guard = some true ∧ vop call (fun k => s.heap.getD k .dead) s.heap.length s.env v.op = some (.ok ⟨t.val, t.upd, t.rd⟩) ∧ t.dst = v.dst ∧ chkU s.heap.length t.upd = true ∧ ∀ k ∈ t.rd, k < s.heap.length)

def OutR (call : Callf) (m0 : Nat) (vl : List VOper) (n : Nat) (x : Ex) (sm s' : St) : Prop :=
  (x = .normal ∧ s' = sm ∧ n = vl.length) ∨ ∃ v y, x = .pan y ∧ s' = killS m0 sm (harm (fun k => sm.heap.getD k .dead) sm.env v.op) ∧ vl[n]? = some v ∧ v.lone = true ∧ wantedV sm.env v.guard = some true ∧ vop call (fun k => sm.heap.getD k .dead) sm.heap.length sm.env v.op = some (.pan y)
theorem runR_tr {call : Callf} {m0 : Nat} : ∀ (vl : List VOper) (i : Nat) (log : List (List Nat × List Nat)) (s : St) (x : Ex) (s' : St), runR call m0 true vl i log s = some (x, s') → log.length = i →
    ∃ T : List En, T.length ≤ vl.length ∧ (∀ (j : Nat) (v : VOper) (t : En), vl[j]? = some v → T[j]? = some t → Did call (aft m0 s (T.take j)) v t ∧ ∀ q ∈ v.un, q < i + j → compat ((log.reverse ++ T.map En.fp).getD q ([], [])) t.fp = true) ∧
      OutR call m0 vl T.length x (aft m0 s T) s'
  | [], i, log, s, x, s', h, hi => by
    simp only [runR, Option.some.injEq, Prod.mk.injEq] at h
    obtain ⟨rfl, rfl⟩ := h
    exact ⟨[], Nat.le_refl _, fun j v t hv => by simp at hv, .inl ⟨rfl, rfl, rfl⟩⟩
  | v :: vl, i, log, s, x, s', h, hi => by
    have rest : ∀ (t : En), Did call s v t → (∀ q ∈ v.un, q < i → compat (log.reverse.getD q ([], [])) t.fp = true) →
        runR call m0 true vl (i + 1) (t.fp :: log) ⟨putE s.env t.dst t.val, applyU s.heap t.upd, addWs m0 s.ws t.upd⟩ = some (x, s') →
        ∃ T : List En, T.length ≤ (v :: vl).length ∧ (∀ (j : Nat) (v' : VOper) (t : En), (v :: vl)[j]? = some v' → T[j]? = some t → Did call (aft m0 s (T.take j)) v' t ∧ ∀ q ∈ v'.un, q < i + j → compat ((log.reverse ++ T.map En.fp).getD q ([], [])) t.fp = true) ∧
          OutR call m0 (v :: vl) T.length x (aft m0 s T) s' := by
      intro t hD hc hr
      obtain ⟨T, h1, h2, h4⟩ := runR_tr vl (i + 1) _ _ x s' hr (by simp [hi])
      refine ⟨t :: T, by simp; omega, ?_, ?_⟩
      · intro j v' t' hv' ht'
        cases j with
        | zero =>
          simp at hv' ht'
          subst hv'
          subst ht'
          refine ⟨hD, fun q hq hqi => ?_⟩
          have hqi' : q < log.reverse.length := by simp; omega
          rw [List.getD_eq_getElem?_getD, List.getElem?_append_left hqi', ← List.getD_eq_getElem?_getD]
          exact hc q hq (by omega)
        | succ j =>
          simp at hv' ht'
          obtain ⟨q1, q2⟩ := h2 j v' t' hv' ht'
          refine ⟨q1, fun q hq hqi => ?_⟩
          have := q2 q hq (by omega)
          simpa using this
      · rcases h4 with ⟨h4, h4', h5⟩ | ⟨v', y, h4, h4', h5, h6⟩
        · exact .inl ⟨h4, h4', by simp [h5]⟩
        · exact .inr ⟨v', y, h4, h4', by simpa using h5, h6⟩
    unfold runR at h
    split at h
    · cases h
    · rename_i hw
      refine rest ⟨v.dst, .tup [], [], []⟩ (.inl ⟨hw, rfl⟩) (fun q _ _ => by simp [compat, disj, En.fp]) h
    · rename_i hw
      split at h
      · cases h
      · rename_i y hv
        split at h
        · rename_i hl
          simp only [Option.some.injEq, Prod.mk.injEq] at h
          obtain ⟨rfl, rfl⟩ := h
          exact ⟨[], Nat.zero_le _, fun j v t _ ht => by simp at ht, .inr ⟨v, y, rfl, rfl, rfl, by simpa using hl, hw, hv⟩⟩
        · cases h
      · rename_i rc hv
        split at h
        · rename_i hc
          simp only [Bool.not_true, Bool.false_or, Bool.and_eq_true, List.all_eq_true, decide_eq_true_eq] at hc
          refine rest ⟨v.dst, rc.val, rc.rd, rc.upd⟩ (.inr ⟨hw, hv, rfl, hc.1.1, hc.1.2⟩) (fun q hq hqi => ?_) h
          have := hc.2 q hq
          have e1 : log.getD (i - 1 - q) ([], []) = log.reverse.getD q ([], []) := by
            rw [List.getD_eq_getElem?_getD, List.getD_eq_getElem?_getD, List.getElem?_reverse (by omega)]
            congr 2
            omega
          rw [e1] at this
          exact this
        · cases h
end Go.Pv
