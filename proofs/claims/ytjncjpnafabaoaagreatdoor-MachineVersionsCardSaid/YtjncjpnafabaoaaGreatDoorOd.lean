/- The machine: code, calls; each answer of the machine is the model's. -/
import Derived.Test.YtjncjpnafabaoaaGreatDoorOc
set_option linter.unusedSimpArgs false
set_option linter.unusedVariables false
set_option linter.unusedSectionVars false
namespace Go.Pv
variable [Sy]
section
variable {P : Program} {H : Array Obj} {df : Dfr} {gE : G} {wE : World} {hl : List VO} {nt : Nat} {ops : Array Oper} {a : Act} {w : World} {call : Callf} {s s' : St} {x : Ex}
  {Q : Exit → Act → World → Prop}

/-- A region in the midst of some order: S has been done. -/
structure Mid (H : Array Obj) (df : Dfr) (gE : G) (wE : World) (hl : List VO) (nt : Nat) (s : St) (T : List En) (S : Nat → Bool) (a : Act) (w : World) (g : G) : Prop where
  rel : Rel g (own gE) wE w
  step : Step gE wE g w
  X : g.X = gE.X
  laid : Laid H g w
  dom : ∀ k, g.D k ↔ k < s.heap.length ∨ ∃ j t, S j = true ∧ T[j]? = some t ∧ k ∈ t.upd.map (·.1)
  h : ∀ k, g.h k = lookU (mixU S 0 T) k (s.heap.getD k .dead)
  B : ∀ k, k < hl.length → g.B k = gE.B k ∧ g.C k = gE.C k
  env : ∀ t, VR g w true ((mixE S 0 T s.env).get t) (a.eval (.tmp t))
  size : nt ≤ a.tmps.size
  defers : DefR g w df a.defers

theorem compat_ok {a b : List Nat × List Nat} (h : compat a b = true) : (∀ k ∈ a.2, k ∉ b.1 ∧ k ∉ b.2) ∧ ∀ k ∈ b.2, k ∉ a.1 := by
  simp only [compat, disj, Bool.and_eq_true, List.all_eq_true, Bool.not_eq_true', List.contains_eq_mem, decide_eq_false_iff_not, List.mem_append, not_or] at h
  exact h

structure Facts (P : Program) (ops : Array Oper) (nt : Nat) (vl : List VOper) (call : Callf) (m0 : Nat) (s : St) (T : List En) : Prop where
  len : vl.length = ops.size
  opd : ∀ (j : Nat) (o : Oper) (v : VOper), ops[j]? = some o → vl[j]? = some v → Opd P ops (Region.before ops) nt (fun q => (vl.map (·.op.pure)).getD q true) ops.size j o v
  edge : ∀ (j : Nat) (o : Oper), ops[j]? = some o → ∀ e ∈ o.after, Region.binds .any e = true → e.on < j
  apart : ∀ (i j : Nat) (a b : VOper), j < i → vl[i]? = some a → vl[j]? = some b → ((Region.before ops).getD i 0).testBit j = true ∨ apartT a b = true
  tlen : T.length ≤ vl.length
  did : ∀ (j : Nat) (v : VOper) (t : En), vl[j]? = some v → T[j]? = some t → Did call (aft m0 s (T.take j)) v t
  conf : ∀ (q j : Nat) (x y : En), q < j → T[q]? = some x → T[j]? = some y → ((Region.before ops).getD j 0).testBit q = true ∨ compat x.fp y.fp = true

theorem Did.pure {v : VOper} {t : En} (h : Did call s v t) (hp : v.op.pure = true) : t.fp = ([], []) := by
  rcases h with ⟨_, rfl⟩ | ⟨_, h, _⟩
  · rfl
  · obtain ⟨h1, h2⟩ := vop_pure hp h
    simp only at h1 h2
    simp [En.fp, h1, h2]
theorem Did.dst {v : VOper} {t : En} (h : Did call s v t) : t.dst = v.dst := by
  rcases h with ⟨_, rfl⟩ | ⟨_, _, h, _⟩
  · rfl
  · exact h

theorem facts_of {vl : List VOper} {m0 : Nat} (hs : stripOps P ops (Region.before ops) nt ops.toList 0 [] = some vl) (hc : chkR ops vl = true) (hr : runR call m0 true vl 0 [] s = some (x, s')) :
    ∃ T : List En, Facts P ops nt vl call m0 s T ∧ OutR call m0 vl T.length x (aft m0 s T) s' := by
  obtain ⟨k1, k2⟩ := stripOps_ok hs rfl
  obtain ⟨T, h1, h2, h4⟩ := runR_tr vl 0 [] s x s' hr rfl
  have hopd : ∀ (j : Nat) (o : Oper) (v : VOper), ops[j]? = some o → vl[j]? = some v → Opd P ops (Region.before ops) nt (fun q => (vl.map (·.op.pure)).getD q true) ops.size j o v := fun j o v ho hv => by
    have := k2 j o v (by simpa using ho) hv
    simpa using this
  simp only [chkR, Bool.and_eq_true, List.all_eq_true] at hc
  obtain ⟨hc1, hc2⟩ := hc
  refine ⟨T, ⟨by simpa using k1, hopd, ?_, ?_, h1, fun j v t hv ht => (h2 j v t hv ht).1, ?_⟩, h4⟩
  · intro j o ho e he hb
    have hmem : (o, j) ∈ ops.toList.zipIdx := by
      rw [List.mem_zipIdx_iff_getElem?]
      simpa using ho
    have := hc1 _ hmem
    rw [Array.all_eq_true'] at this
    have := this e he
    simpa [hb] using this
  · intro i j a b hij ha hb
    have m1 : (a, i) ∈ vl.zipIdx := by rw [List.mem_zipIdx_iff_getElem?]; exact ha
    have m2 : (b, j) ∈ vl.zipIdx := by rw [List.mem_zipIdx_iff_getElem?]; exact hb
    have := hc2 _ m1 _ m2
    simpa [hij] using this
  · intro q j x y hqj hx hy
    have hjl : j < vl.length := Nat.lt_of_lt_of_le (List.getElem?_eq_some_iff.1 hy).1 h1
    have hql : q < vl.length := by omega
    have hvj : vl[j]? = some vl[j] := List.getElem?_eq_getElem hjl
    have hvq : vl[q]? = some vl[q] := List.getElem?_eq_getElem hql
    have hos : vl.length = ops.size := by simpa using k1
    have hoj : ops[j]? = some (ops[j]'(by omega)) := Array.getElem?_eq_getElem _
    have O := hopd j _ _ hoj hvj
    obtain ⟨d1, d2⟩ := h2 j _ _ hvj hy
    obtain ⟨d3, _⟩ := h2 q _ _ hvq hx
    rcases O.un q hqj with h | h | h | h
    · right
      have := d2 q h (by omega)
      have e1 : (([] : List (List Nat × List Nat)).reverse ++ T.map En.fp).getD q ([], []) = x.fp := by simp [hx]
      rwa [e1] at this
    · right
      rw [d1.pure h]
      simp [compat, disj]
    · right
      have : vl[q].op.pure = true := by simpa [hql] using h
      rw [d3.pure this]
      simp [compat, disj]
    · exact .inl h

section
variable {vl : List VOper} {T : List En}
theorem Facts.fits (F : Facts P ops nt vl call hl.length s T) : Fits hl.length s T := fun j t ht => by
  have hj : j < vl.length := Nat.lt_of_lt_of_le (List.getElem?_eq_some_iff.1 ht).1 F.tlen
  rcases F.did j _ t (List.getElem?_eq_getElem hj) ht with ⟨_, rfl⟩ | ⟨_, _, _, h, _⟩
  · rfl
  · exact h


structure Rdy (ops : Array Oper) (S : Nat → Bool) (i : Nat) : Prop where
  down : Down ops S
  lt : i < ops.size
  no : S i = false
  pre : ∀ j, ((Region.before ops).getD i 0).testBit j = true → S j = true
theorem Rdy.post {S : Nat → Bool} {i : Nat} (r : Rdy ops S i) {j : Nat} (hj : j < ops.size) (hS : S j = true) (h : ((Region.before ops).getD j 0).testBit i = true) : False := by
  have ho : ops[j]? = some ops[j] := Array.getElem?_eq_getElem hj
  have := before_in r.down j _ ho (r.down j _ ho hS) i h
  rw [r.no] at this
  cases this

theorem tmp_ok (F : Facts P ops nt vl call hl.length s T) {S : Nat → Bool} {i : Nat} (r : Rdy ops S i) {v : VOper} (hv : vl[i]? = some v) {d : Nat} (hd : d ∈ v.reads) (j : Nat) (y : En) (hy : T[j]? = some y) (hyd : y.dst = some d) : S j = decide (j < i) := by
  have hjl : j < vl.length := Nat.lt_of_lt_of_le (List.getElem?_eq_some_iff.1 hy).1 F.tlen
  have hvj : vl[j]? = some vl[j] := List.getElem?_eq_getElem hjl
  have hdj : vl[j].dst = some d := by rw [← (F.did j _ y hvj hy).dst]; exact hyd
  rcases Nat.lt_trichotomy j i with h | rfl | h
  · rcases F.apart i j v _ h hv hvj with hb | hb
    · simp [r.pre j hb, h]
    · exfalso
      simp only [apartT, hdj, Bool.and_eq_true, Bool.not_eq_true', List.contains_eq_mem, decide_eq_false_iff_not] at hb
      exact hb.2 hd
  · simp [r.no]
  · have : ¬ j < i := by omega
    simp only [this, decide_false]
    cases hS : S j with
    | false => rfl
    | true =>
      exfalso
      rcases F.apart j i _ v h hvj hv with hb | hb
      · exact r.post (by have := F.len; omega) hS hb
      · simp only [apartT, hdj, Bool.and_eq_true, Bool.not_eq_true', List.contains_eq_mem, decide_eq_false_iff_not] at hb
        exact hb.1.1 hd
theorem dst_ok (F : Facts P ops nt vl call hl.length s T) {S : Nat → Bool} {i : Nat} (r : Rdy ops S i) {v : VOper} (hv : vl[i]? = some v) {d : Nat} (hd : v.dst = some d) (j : Nat) (y : En) (hij : i < j) (hy : T[j]? = some y) (hyd : y.dst = some d) : S j = false := by
  have hjl : j < vl.length := Nat.lt_of_lt_of_le (List.getElem?_eq_some_iff.1 hy).1 F.tlen
  have hvj : vl[j]? = some vl[j] := List.getElem?_eq_getElem hjl
  have hdj : vl[j].dst = some d := by rw [← (F.did j _ y hvj hy).dst]; exact hyd
  cases hS : S j with
  | false => rfl
  | true =>
    exfalso
    rcases F.apart j i _ v hij hvj hv with hb | hb
    · exact r.post (by have := F.len; omega) hS hb
    · simp [apartT, hdj, hd] at hb
theorem upd_ok (F : Facts P ops nt vl call hl.length s T) {S : Nat → Bool} {i : Nat} (r : Rdy ops S i) {x : En} (hx : T[i]? = some x) {k : Nat} (hk : k ∈ x.rd ∨ k ∈ x.upd.map (·.1)) (j : Nat) (y : En) (hji : j ≠ i) (hy : T[j]? = some y) (hyk : k ∈ y.upd.map (·.1)) : S j = decide (j < i) := by
  have hjl : j < vl.length := Nat.lt_of_lt_of_le (List.getElem?_eq_some_iff.1 hy).1 F.tlen
  rcases Nat.lt_or_gt_of_ne hji with h | h
  · rcases F.conf j i y x h hy hx with hb | hb
    · simp [r.pre j hb, h]
    · exfalso
      obtain ⟨h1, h2⟩ := compat_ok hb
      obtain ⟨h3, h4⟩ := h1 k hyk
      rcases hk with hk | hk
      · exact h3 hk
      · exact h4 hk
  · have : ¬ j < i := by omega
    simp only [this, decide_false]
    cases hS : S j with
    | false => rfl
    | true =>
      exfalso
      rcases F.conf i j x y h hx hy with hb | hb
      · exact r.post (by have := F.len; omega) hS hb
      · obtain ⟨h1, h2⟩ := compat_ok hb
        rcases hk with hk | hk
        · exact h2 k hyk hk
        · exact (h1 k hk).2 hyk

theorem wantedV_env {e e' : Env} {v : VOper} (h : ∀ t ∈ v.reads, e.get t = e'.get t) : wantedV e v.guard = wantedV e' v.guard := by
  unfold wantedV
  cases hg : v.guard with
  | none => rfl
  | some p =>
    obtain ⟨t, b⟩ := p
    simp only
    rw [h t (by simp [VOper.reads, hg])]
theorem vop_reads {e e' : Env} {v : VOper} {hh : Nat → VO} {nk : Nat} (h : ∀ t ∈ v.reads, e.get t = e'.get t) : vop call hh nk e v.op = vop call hh nk e' v.op :=
  vop_env fun t ht => h t (by simp [VOper.reads, ht])

/-- The state behind the first i, in the order of the text. -/
theorem pre_env (i : Nat) (t : Nat) : (aft hl.length s (T.take i)).env.get t = (mixE (fun j => decide (j < i)) 0 T s.env).get t := by
  rw [aft_env _ _ _ 0]
  have := mixE_take (t := t) T 0 i s.env
  rw [Nat.zero_add] at this
  exact this.symm
theorem pre_heap (F : Fits hl.length s T) (i : Nat) (k : Nat) : (aft hl.length s (T.take i)).heap.getD k .dead = lookU (mixU (fun j => decide (j < i)) 0 T) k (s.heap.getD k .dead) := by
  rw [(aft_heap _ _ _ 0 (F.take i)).1]
  have := mixU_take (k := k) T 0 i (s.heap.getD k .dead)
  rw [Nat.zero_add] at this
  exact this.symm
theorem pre_len (F : Fits hl.length s T) (i k : Nat) : k < (aft hl.length s (T.take i)).heap.length ↔ k < s.heap.length ∨ ∃ j t, j < i ∧ T[j]? = some t ∧ k ∈ t.upd.map (·.1) := by
  rw [(aft_heap _ _ _ 0 (F.take i)).2]
  refine or_congr Iff.rfl ⟨?_, ?_⟩
  · rintro ⟨t, ht, hk⟩
    obtain ⟨j, hj⟩ := List.mem_iff_getElem?.1 ht
    rw [List.getElem?_take] at hj
    split at hj
    · exact ⟨j, t, by assumption, hj, hk⟩
    · cases hj
  · rintro ⟨j, t, hj, ht, hk⟩
    exact ⟨t, List.mem_iff_getElem?.2 ⟨j, by rw [List.getElem?_take, if_pos hj]; exact ht⟩, hk⟩

/-- One more. -/
theorem mid_step (F : Facts P ops nt vl call hl.length s T) (HC : CallOk P H call) {S S' : Nat → Bool} {i : Nat} (r : Rdy ops S i) {t : En} (ht : T[i]? = some t) {g : G} (M : Mid H df gE wE hl nt s T S a w g) (hlen : hl.length ≤ s.heap.length)
    (hS : ∀ j, j ≠ i → S' j = S j) (hSi : S' i = true) {K : Act → World → Prop} (hK : ∀ a w g, Mid H df gE wE hl nt s T S' a w g → K a w) : wpOp P ops Q i K a w := by
  have hil : i < vl.length := Nat.lt_of_lt_of_le (List.getElem?_eq_some_iff.1 ht).1 F.tlen
  have hv : vl[i]? = some vl[i] := List.getElem?_eq_getElem hil
  generalize vl[i] = v at hv
  have ho : ops[i]? = some (ops[i]'r.lt) := Array.getElem?_eq_getElem r.lt
  generalize ops[i]'r.lt = o at ho
  have O := F.opd i o v ho hv
  have D := F.did i v t hv ht
  have hdst : t.dst = o.dst := D.dst.trans O.dst
  have henv : ∀ d ∈ v.reads, (mixE S 0 T s.env).get d = (aft hl.length s (T.take i)).env.get d := fun d hd => by
    rw [pre_env]
    exact mixE_get T 0 _ _ (fun j y hy hyd => by rw [Nat.zero_add]; exact tmp_ok F r hv hd j y hy hyd) rfl
  have hdl : ∀ d, o.dst = some d → d < a.tmps.size := fun d hd => Nat.lt_of_lt_of_le (O.lt d hd) M.size
  -- what stands behind it
  have next : ∀ (g' : G) (w' : World) (u : Value), Eff g t.upd g' → Rel g' (own gE) wE w' → Step g w g' w' → VR g' w' true t.val u → Mid H df gE wE hl nt s T S' (a.put o.dst u) w' g' := by
    intro g' w' u hE hR hSt hV
    refine ⟨hR, M.step.trans hSt M.rel.size, hE.X.trans M.X, M.laid.step hSt, ?_, ?_, ?_, ?_, ?_, ?_⟩
    · intro k
      rw [hE.D, M.dom, or_assoc]
      refine or_congr Iff.rfl ⟨?_, ?_⟩
      · rintro (⟨j, y, h1, h2, h3⟩ | h)
        · refine ⟨j, y, ?_, h2, h3⟩
          rw [hS j (fun e => by subst e; rw [r.no] at h1; cases h1)]
          exact h1
        · exact ⟨i, t, hSi, ht, h⟩
      · rintro ⟨j, y, h1, h2, h3⟩
        by_cases hj : j = i
        · subst hj
          rw [ht] at h2
          cases h2
          exact .inr h3
        · exact .inl ⟨j, y, by rw [← hS j hj]; exact h1, h2, h3⟩
    · intro k
      rw [hE.h, M.h]
      refine (mixU_add T 0 _ (q := i) (fun j hj => hS j (by omega)) (by rw [Nat.zero_add]; exact r.no) (by rw [Nat.zero_add]; exact hSi) ht ?_).symm
      intro j y hj hy hyk hk
      rw [Nat.zero_add, upd_ok F r ht (.inr hk) j y (by omega) hy hyk]
      simp
      omega
    · intro k hk
      have hD : g.D k := (M.dom k).2 (.inl (by omega))
      obtain ⟨h1, h2⟩ := hE.B k hD
      obtain ⟨h3, h4⟩ := M.B k hk
      exact ⟨h1.trans h3, h2.trans h4⟩
    · intro d
      rw [mixE_add T 0 s.env (q := i) (fun j hj => hS j (by omega)) (by rw [Nat.zero_add]; exact r.no) (by rw [Nat.zero_add]; exact hSi) ht (fun j y hj hy hyd hd => by
        rw [Nat.zero_add]
        exact dst_ok F r hv (by rw [← D.dst]; exact hd) j y hj hy hyd), get_putE, eval_put hdl, ← hdst]
      split
      · exact hV
      · exact (M.env d).move hSt hE.move
    · cases hd : o.dst with
      | none => exact M.size
      | some d => simpa [Act.put] using M.size
    · have := M.defers.move hSt hE.move
      cases hd : o.dst with
      | none => exact this
      | some d => exact this
  rcases D with ⟨hw, rfl⟩ | ⟨hw, hvop, _, hc, hrd⟩
  · rw [← wantedV_env henv] at hw
    refine step_skip O ho M.env hw (hK _ _ g (next g w undef (Eff.nil g) M.rel (Step.refl g w) (.tup _ _ _ rfl fun j x u h => by simp at h)))
  · rw [← wantedV_env henv] at hw
    rw [← vop_reads henv] at hvop
    have hvop' := vop_hh (hh' := g.h) hvop (fun k hk => by
      rw [pre_heap F.fits, M.h]
      refine mixU_get T 0 _ (fun j y hy hyk => ?_)
      rw [Nat.zero_add]
      by_cases hj : j = i
      · subst hj; simp [r.no]
      · exact (upd_ok F r ht (.inl hk) j y hj hy hyk).symm)
    refine step_ok HC O ho M.rel M.laid M.env hw hvop' ?_ ?_ (fun y h => by cases h)
    · intro rc h
      cases h
      refine ⟨hrd, fun k hk hkt hD => ?_⟩
      have hnot : ¬ k < (aft hl.length s (T.take i)).heap.length := by omega
      rw [pre_len F.fits] at hnot
      rcases (M.dom k).1 hD with h | ⟨j, y, h1, h2, h3⟩
      · exact hnot (.inl h)
      · have hj : j ≠ i := fun e => by subst e; rw [r.no] at h1; cases h1
        have := upd_ok F r ht (.inr hkt) j y hj h2 h3
        rw [h1] at this
        exact hnot (.inr ⟨j, y, by simpa using this.symm, h2, h3⟩)
    · intro rc h g' w' u h1 h2 h3 h4
      cases h
      exact hK _ _ g' (next g' w' u h1 h2 h3 h4)
end
end
end Go.Pv
namespace Go.Pv
variable [Sy]
section
variable {P : Program} {H : Array Obj} {df : Dfr} {gE : G} {wE : World} {hl : List VO} {nt : Nat} {ops : Array Oper} {a : Act} {w : World} {call : Callf} {s s' : St} {x : Ex}
  {Q : Exit → Act → World → Prop} {vl : List VOper} {T : List En}

theorem aft_ws {m0 k : Nat} (hk : k < m0) : ∀ (T : List En) (s : St), k ∉ (aft m0 s T).ws → k ∉ s.ws ∧ ∀ t ∈ T, k ∉ t.upd.map (·.1)
  | [], s, h => ⟨h, fun t ht => by cases ht⟩
  | t :: r, s, h => by
    obtain ⟨h1, h2⟩ := aft_ws hk r _ h
    obtain ⟨h3, h4⟩ := addWs_ok t.upd s.ws hk h1
    refine ⟨h3, fun t' ht' => ?_⟩
    rcases List.mem_cons.1 ht' with rfl | ht'
    · exact h4
    · exact h2 t' ht'

theorem fin_inv (F : Fits hl.length s T) (hlen : hl.length ≤ s.heap.length) (hws : ∀ k, k < hl.length → k ∉ s.ws → s.heap.getD k .dead = hl.getD k .dead) {S : Nat → Bool} {g : G} (M : Mid H df gE wE hl nt s T S a w g) (hall : ∀ j, j < T.length → S j = true) :
    Inv H df gE wE hl nt (aft hl.length s T) a w g := by
  obtain ⟨q1, q2⟩ := aft_heap hl.length T s 0 F
  have hS : ∀ (j : Nat) (y : En), T[j]? = some y → S (0 + j) = (fun _ => true) (0 + j) := fun j y hy => by
    rw [Nat.zero_add]; exact hall j (List.getElem?_eq_some_iff.1 hy).1
  refine ⟨M.rel, M.step, M.X, M.laid, ?_, ?_, M.B, ?_, M.size, M.defers, ?_, ?_⟩
  · intro k
    rw [M.dom, q2]
    refine or_congr Iff.rfl ⟨?_, ?_⟩
    · rintro ⟨j, t, _, h2, h3⟩
      exact ⟨t, List.mem_of_getElem? h2, h3⟩
    · rintro ⟨t, ht, hk⟩
      obtain ⟨j, hj⟩ := List.mem_iff_getElem?.1 ht
      exact ⟨j, t, hall j (List.getElem?_eq_some_iff.1 hj).1, hj, hk⟩
  · intro k
    rw [M.h, q1]
    exact mixU_get T 0 _ fun j y hy _ => hS j y hy
  · intro t
    rw [aft_env _ _ _ 0]
    rw [show (mixE (fun _ => true) 0 T s.env).get t = (mixE S 0 T s.env).get t from (mixE_get T 0 _ _ (fun j y hy _ => (hS j y hy).symm) rfl)]
    exact M.env t
  · rcases Nat.lt_or_ge (aft hl.length s T).heap.length hl.length with h | h
    · have := (q2 (aft hl.length s T).heap.length).2 (.inl (by omega)); omega
    · exact h
  · intro k hk hkw
    obtain ⟨h1, h2⟩ := aft_ws hk T s hkw
    rw [q1, mixU_get (S' := fun _ => false) T 0 _ (fun j y hy hky => absurd hky (h2 y (List.mem_of_getElem? hy))), mixU_none _ _ _ (fun _ _ _ _ => rfl)]
    exact hws k hk h1

theorem getD_ft {l : Array Bool} {j : Nat} (hj : j < l.size) : l.getD j true = l.getD j false := by simp [Array.getD_eq_getD_getElem?, Array.getElem?_eq_getElem hj]

/-- The order does not matter. -/
theorem any_ok (F : Facts P ops nt vl call hl.length s T) (HC : CallOk P H call) (hlen : hl.length ≤ s.heap.length) (hws : ∀ k, k < hl.length → k ∉ s.ws → s.heap.getD k .dead = hl.getD k .dead)
    (out : OutR call hl.length vl T.length x (aft hl.length s T) s')
    (hG : Good H df gE wE hl nt x s' Q) : ∀ (fuel : Nat) (listed : Array Bool) (a : Act) (w : World), listed.size = ops.size → Down ops (fun j => listed.getD j false) → (∀ j, listed.getD j false = true → j < T.length) →
      ((List.range ops.size).filter fun j => !listed.getD j false).length ≤ fuel → (∃ g, Mid H df gE wE hl nt s T (fun j => listed.getD j false) a w g) → wpAny P .any ops Q fuel listed a w := by
  -- all is listed
  have done : ∀ (listed : Array Bool) (a : Act) (w : World), (∀ j, listed.getD j false = true → j < T.length) → (∃ g, Mid H df gE wE hl nt s T (fun j => listed.getD j false) a w g) → (∀ j, j < ops.size → listed.getD j false = true) → Q .normal a w := by
    intro listed a w hT hM hall
    have hlen' := F.len
    have htl := F.tlen
    rcases out with ⟨rfl, rfl, hTl⟩ | ⟨v, y, _, _, hv, _⟩
    · obtain ⟨g, M⟩ := hM
      refine hG a w ⟨g, ?_⟩
      exact fin_inv F.fits hlen hws M fun j hj => hall j (by omega)
    · have := (List.getElem?_eq_some_iff.1 hv).1
      have := hT _ (hall T.length (by omega))
      omega
  -- else something may be listed
  have prog : ∀ (listed : Array Bool), listed.size = ops.size → Region.ready .any ops listed = [] → ∀ j, j < ops.size → listed.getD j false = true := by
    intro listed hsz hr j
    induction j using Nat.strongRecOn with
    | _ j ih =>
      intro hj
      cases hl' : listed.getD j false with
      | true => rfl
      | false =>
        exfalso
        have ho : ops[j]? = some ops[j] := Array.getElem?_eq_getElem hj
        have : j ∈ Region.ready .any ops listed := mem_ready.2 ⟨by rw [getD_ft (by omega)]; exact hl', _, ho, fun e he hb => ih e.on (F.edge j _ ho e he hb) (by have := F.edge j _ ho e he hb; omega)⟩
        rw [hr] at this
        cases this
  intro fuel
  induction fuel with
  | zero =>
    intro listed a w hsz hd hT hc hM
    have hall : ∀ j, j < ops.size → listed.getD j false = true := by
      intro j hj
      have h0 : (List.range ops.size).filter (fun j => !listed.getD j false) = [] := List.length_eq_zero_iff.1 (by omega)
      rw [List.filter_eq_nil_iff] at h0
      simpa using h0 j (by simpa using hj)
    refine ⟨?_, done listed a w hT hM hall⟩
    rw [List.eq_nil_iff_forall_not_mem]
    intro j hj
    obtain ⟨h1, o, ho, _⟩ := mem_ready.1 hj
    have hjl : j < ops.size := (Array.getElem?_eq_some_iff.1 ho).1
    rw [getD_ft (by omega), hall j hjl] at h1
    cases h1
  | succ fuel ih =>
    intro listed a w hsz hd hT hc hM
    refine ⟨fun hr => done listed a w hT hM (prog listed hsz hr), ?_⟩
    intro i hi
    obtain ⟨h1, o, ho, hed⟩ := mem_ready.1 hi
    have hil : i < ops.size := (Array.getElem?_eq_some_iff.1 ho).1
    rw [getD_ft (by omega)] at h1
    have r : Rdy ops (fun j => listed.getD j false) i := ⟨hd, hil, h1, before_in hd i o ho hed⟩
    obtain ⟨g, M⟩ := hM
    rcases Nat.lt_or_ge i T.length with hiT | hiT
    · have ht : T[i]? = some T[i] := List.getElem?_eq_getElem hiT
      have hset : ∀ j, j ≠ i → (listed.setIfInBounds i true).getD j false = listed.getD j false := fun j hj => getD_set_ne false (Ne.symm hj)
      have hseti : (listed.setIfInBounds i true).getD i false = true := by simp [Array.getD_eq_getD_getElem?, hsz, hil]
      refine mid_step (S' := fun j => (listed.setIfInBounds i true).getD j false) F HC r ht M hlen hset hseti ?_
      intro a' w' g' M'
      refine ih _ a' w' (by simpa using hsz) ?_ ?_ ?_ ⟨g', M'⟩
      · intro j o' ho' hj e he hb
        show (listed.setIfInBounds i true).getD e.on false = true
        by_cases hji : j = i
        · subst hji
          rw [ho] at ho'
          cases ho'
          exact getD_set_true (hed e he hb)
        · have hj' : listed.getD j false = true := by rw [← hset j hji]; exact hj
          exact getD_set_true (hd j o' ho' hj' e he hb)
      · intro j hj
        by_cases hji : j = i
        · subst hji; exact hiT
        · exact hT j (by rw [← hset j hji]; exact hj)
      · have e1 : ((List.range ops.size).filter fun j => !(listed.setIfInBounds i true).getD j false) = ((List.range ops.size).filter fun j => !listed.getD j false).filter (fun j => j != i) := by
          rw [List.filter_filter]
          apply List.filter_congr
          intro j _
          by_cases hji : j = i
          · subst hji; simp [hseti]
          · rw [hset j hji]; simp [hji]
        rw [e1]
        have : (((List.range ops.size).filter fun j => !listed.getD j false).filter (fun j => j != i)).length < ((List.range ops.size).filter fun j => !listed.getD j false).length := by
          rw [List.length_filter_lt_length_iff_exists]
          exact ⟨i, by rw [List.mem_filter]; exact ⟨by simpa using hil, by rw [h1]; rfl⟩, by simp⟩
        omega
    · -- it throws
      rcases out with ⟨_, _, hTl⟩ | ⟨v, y, rfl, rfl, hv, hlone, hw, hvop⟩
      · have := F.len; omega
      · have hp : T.length < vl.length := (List.getElem?_eq_some_iff.1 hv).1
        have hpo : ops[T.length]? = some (ops[T.length]'(by have := F.len; omega)) := Array.getElem?_eq_getElem _
        have O := F.opd T.length _ v hpo hv
        rcases Nat.lt_or_eq_of_le hiT with h | h
        · exfalso
          have := O.lone hlone i hil (by omega)
          rw [Nat.max_eq_right (by omega), Nat.min_eq_left (by omega)] at this
          have := hT _ (r.pre _ this)
          omega
        · subst h
          have hall : ∀ j, j < T.length → listed.getD j false = true := fun j hj => by
            have := O.lone hlone j (by have := F.len; omega) (by omega)
            rw [Nat.max_eq_left (by omega), Nat.min_eq_right (by omega)] at this
            exact r.pre j this
          have I := fin_inv F.fits hlen hws M hall
          have hh : (fun k => (aft hl.length s T).heap.getD k .dead) = g.h := funext fun k => (I.h k).symm
          rw [hh] at hvop hG
          rw [hpo] at ho
          cases ho
          refine step_ok HC O hpo I.rel I.laid I.env hw hvop (fun rc h => by cases h) (fun rc h => by cases h) ?_
          intro z hz w' u hp' hR hS
          cases hz
          exact hG a w' u hp' ⟨_, I.killed hR hS⟩

theorem drawn_inv {g : G} (I : Inv H df gE wE hl nt s a w g) : Inv H df gE wE hl nt s a { w with drawn := w.drawn + 1 } g := by
  have S : Step g w g { w with drawn := w.drawn + 1 } := ⟨fun b hb _ => ⟨hb, rfl⟩⟩
  have hR : Rel g (own gE) wE { w with drawn := w.drawn + 1 } := by
    have := (fresh_ok I.rel (w' := { w with drawn := w.drawn + 1 }) (Nat.le_refl _) rfl rfl rfl (fun b _ => rfl)).1
    exact this
  exact ⟨hR, I.step.trans S I.rel.size, I.X, I.laid.step S, I.dom, I.h, I.B, fun t => (I.env t).move S fun k h => ⟨h, rfl, rfl⟩, I.size, I.defers.move S fun k h => ⟨h, rfl, rfl⟩, I.len, I.ws⟩

theorem region_ok (hm : P.follows .mixedOrders = true) (HC : CallOk P H call) {id : Nat} {draw : Bool} (hs : stripOps P ops (Region.before ops) nt ops.toList 0 [] = some vl) (hc : (!draw || chkR ops vl) = true)
    (hr : runR call hl.length draw vl 0 [] s = some (x, s')) (hI : InvS H df gE wE hl nt s a w) (hG : Good H df gE wE hl nt x s' Q) : (Code.region id ops draw).wp P Q a w := by
  cases draw with
  | false =>
    obtain ⟨k1, k2⟩ := stripOps_ok hs rfl
    have hsz : vl.length = ops.size := by simpa using k1
    refine wp_region ?_
    have := region_text (ops := ops) (bef := Region.before ops) (n := ops.size) (pur := fun q => (vl.map (·.op.pure)).getD q true) HC vl 0 [] s a w (fun j o v ho hv => by
      have := k2 j o v (by simpa using ho) hv
      simpa using this) (by omega) hr hI hG
    rw [List.range_eq_range', ← hsz]
    exact this
  | true =>
    obtain ⟨T, F, h2⟩ := facts_of hs (by simpa using hc) hr
    obtain ⟨g, I⟩ := hI
    have I' := drawn_inv I
    refine wp_region_any hm ?_
    refine any_ok F HC I.len I.ws h2 hG ops.size (Array.replicate ops.size false) a _ (by simp) ?_ ?_ ?_ ⟨g, ?_⟩
    · intro i o ho hS
      have : i < ops.size := (Array.getElem?_eq_some_iff.1 ho).1
      simp [Array.getD_eq_getD_getElem?, Array.getElem?_replicate, this] at hS
    · intro j hj
      exfalso
      by_cases h : j < ops.size <;> simp [Array.getD_eq_getD_getElem?, Array.getElem?_replicate, h] at hj
    · exact Nat.le_trans (List.length_filter_le _ _) (by simp)
    · have hno : ∀ j, (Array.replicate ops.size false).getD j false = false := fun j => by
        by_cases h : j < ops.size <;> simp [Array.getD_eq_getD_getElem?, Array.getElem?_replicate, h]
      refine ⟨I'.rel, I'.step, I'.X, I'.laid, ?_, ?_, I'.B, ?_, I'.size, I'.defers⟩
      · intro k
        rw [I'.dom]
        constructor
        · exact .inl
        · rintro (h | ⟨j, t, hj, _⟩)
          · exact h
          · rw [hno] at hj; cases hj
      · intro k
        rw [mixU_none T 0 _ fun j y _ _ => hno _]
        exact I'.h k
      · intro t
        have : ∀ (T : List En) (i : Nat) (e : Env), mixE (fun j => (Array.replicate ops.size false).getD j false) i T e = e := by
          intro T
          induction T with
          | nil => intro i e; rfl
          | cons z r ih =>
            intro i e
            unfold mixE
            rw [if_neg (by rw [hno]; simp)]
            exact ih _ _
        rw [this]
        exact I'.env t
end
end Go.Pv
namespace Go.Pv
variable [Sy]
mutual
theorem V.ren_id (f : Nat → Nat) : ∀ v : V, (∀ k ∈ v.refs, f k = k) → v.ren f = v
  | .ptr k o, h => by simp [V.ren, h k (by simp [V.refs])]
  | .sl k o l c, h => by simp [V.ren, h k (by simp [V.refs])]
  | .mp k, h => by simp [V.ren, h k (by simp [V.refs])]
  | .fn g a c, h => by
    simp only [V.refs, List.mem_append] at h
    simp [V.ren, renL_id f a fun k hk => h k (.inl hk), renL_id f c fun k hk => h k (.inr hk)]
  | .ifc t v, h => by simp [V.ren, V.ren_id f v (by simpa [V.refs] using h)]
  | .agg cs, h => by simp [V.ren, renL_id f cs (by simpa [V.refs] using h)]
  | .tup cs, h => by simp [V.ren, renL_id f cs (by simpa [V.refs] using h)]
  | .un, _ | .bool _, _ | .int _ _, _ | .str _, _ | .nilp, _ | .ip _, _ | .nils, _ | .is _ _, _ | .nilm, _ | .im _, _ | .nilf, _ | .nili, _ | .tm _ _, _ | .ct _, _ | .cb _, _ | .it _ _, _ | .iv _ _ _ _ _, _ => by simp [V.ren]
theorem renL_id (f : Nat → Nat) : ∀ l : List V, (∀ k ∈ V.refs.refsL l, f k = k) → V.ren.renL f l = l
  | [], _ => rfl
  | v :: l, h => by
    simp only [V.refs.refsL, List.mem_append] at h
    simp [V.ren.renL, V.ren_id f v fun k hk => h k (.inl hk), renL_id f l fun k hk => h k (.inr hk)]
end
theorem VO.ren_id (f : Nat → Nat) (o : VO) (h : ∀ k ∈ o.refs, f k = k) : o.ren f = o := by
  cases o with
  | dead => rfl
  | cells cs e => simp [VO.ren, renL_id f cs (by simpa [VO.refs] using h)]
  | map es =>
    simp only [VO.ren, VO.map.injEq]
    conv => rhs; rw [← List.map_id es]
    apply List.map_congr_left
    intro e he
    simp only [VO.refs, List.mem_flatMap, List.mem_append] at h
    simp [V.ren_id f e.1 fun k hk => h k ⟨e, he, .inl hk⟩, V.ren_id f e.2 fun k hk => h k ⟨e, he, .inr hk⟩]
  | iter s p => rfl

theorem reach_pre {hh : Nat → VO} : ∀ (n : Nat) (todo acc : List Nat), acc <+: reach hh n todo acc
  | 0, _, acc => by simp [reach]
  | n + 1, [], acc => by simp [reach]
  | n + 1, k :: todo, acc => by
    unfold reach
    split
    · exact reach_pre n todo acc
    · exact (List.prefix_append acc [k]).trans (reach_pre n _ _)

section
variable {P : Program} {H : Array Obj} {df : Dfr} {gE : G} {wE : World} {hl : List VO} {nt : Nat} {a : Act} {w : World} {call : Callf} {s s' : St} {x : Ex}
  {Q : Exit → Act → World → Prop}

/-- What is not reached is let go. -/
def G.cut (g : G) (m : List Nat) : G where
  D := fun i => i < m.length
  X := g.X
  B := fun i => g.B (m.getD i 0)
  C := fun i => g.C (m.getD i 0)
  h := fun i => (m.map fun k => (g.h k).ren fun k => m.idxOf k).getD i .dead
theorem cut_h {g : G} {m : List Nat} {i : Nat} (h : i < m.length) : (g.cut m).h i = (g.h (m.getD i 0)).ren fun k => m.idxOf k := by
  simp [G.cut, List.getD_eq_getElem?_getD, h]
theorem cut_dead {g : G} {m : List Nat} {i : Nat} (h : m.length ≤ i) : (g.cut m).h i = .dead := by
  simp [G.cut, List.getD_eq_getElem?_getD, h]
theorem cut_h' {g : G} {m : List Nat} {i : Nat} (h : ((g.cut m).h i).alive) : i < m.length ∧ (g.h (m.getD i 0)).alive := by
  rcases Nat.lt_or_ge i m.length with h' | h'
  · rw [cut_h h', VO.alive_ren] at h; exact ⟨h', h⟩
  · rw [cut_dead h'] at h; exact h.elim
theorem cut_step {g : G} {m : List Nat} : Step g w (g.cut m) w := ⟨fun b hb _ => ⟨by
  rintro (h | ⟨i, ha, e⟩)
  · exact hb (.inl h)
  · exact hb (.inr ⟨_, (cut_h' ha).2, e⟩), rfl⟩⟩
theorem cut_ref {g : G} {m : List Nat} {q : Nat} (hq : q ∈ m) : (g.cut m).D (m.idxOf q) ∧ (g.cut m).B (m.idxOf q) = g.B q ∧ (g.cut m).C (m.idxOf q) = g.C q :=
  ⟨idx_lt hq, by show g.B (m.getD (m.idxOf q) 0) = _; rw [idx_get hq], by show g.C (m.getD (m.idxOf q) 0) = _; rw [idx_get hq]⟩
theorem cut_rel {g : G} {O0 : Nat → Prop} {w0 : World} (R : Rel g O0 w0 w) {m : List Nat} (hn : m.Nodup) (hc : ∀ k ∈ m, ∀ q ∈ (g.h k).refs, q ∈ m) : Rel (g.cut m) O0 w0 w := by
  refine ⟨?_, ?_, ?_, ?_, ?_, R.xlt, R.size, R.frame, R.os, R.tape, R.output⟩
  · intro i ha
    exact (cut_h' ha).1
  · intro i j hi hj e
    obtain ⟨h1, h2⟩ := cut_h' hi
    obtain ⟨h3, h4⟩ := cut_h' hj
    have := R.inj _ _ h2 h4 e
    rw [← idx_of hn h1, this, idx_of hn h3]
  · intro i hi hx
    exact R.sep _ (cut_h' hi).2 hx
  · intro i
    rcases Nat.lt_or_ge i m.length with hi | hi
    · rw [cut_h hi]
      exact (R.obj _).ren cut_step (fun q hq _ => cut_ref (hc _ (get_mem hi) q hq)) rfl rfl rfl
    · rw [cut_dead hi]; trivial
  · intro i ha
    exact R.own _ (cut_h' ha).2

/-- The heads of m are what was handed over. -/
theorem pre_idx {m : List Nat} {m0 k : Nat} (hp : List.range m0 <+: m) (hn : m.Nodup) (hk : k < m0) : m.getD k 0 = k ∧ m.idxOf k = k ∧ k < m.length := by
  obtain ⟨r, rfl⟩ := hp
  have h1 : (List.range m0 ++ r).getD k 0 = k := by
    rw [List.getD_eq_getElem?_getD, List.getElem?_append_left (by simpa using hk)]
    simp [hk]
  have h2 : k < (List.range m0 ++ r).length := by simp; omega
  refine ⟨h1, ?_, h2⟩
  have := idx_of hn h2
  rwa [h1] at this

theorem Ent.refs {g : G} (E : Ent H g w hl) {k : Nat} (_hk : k < hl.length) : ∀ q ∈ (hl.getD k .dead).refs, q < hl.length := by
  intro q hq
  have := E.rel.obj k
  rw [E.h] at this
  exact (E.dom q).1 (this.refs_D q hq)

theorem get_map (f : V → V) (e : Env) : ∀ (l : List Nat) (t : Nat), Env.get ((l.map fun t => (t, e.get t)).map fun p => (p.1, f p.2)) t = if t ∈ l then f (e.get t) else .un
  | [], t => rfl
  | q :: l, t => by
    simp only [List.map_cons, Env.get, get_map f e l t, List.mem_cons]
    by_cases h : q = t
    · subst h; simp
    · have : ¬ t = q := fun e => h e.symm
      simp [h, this]

theorem gcA_ok (hdf : df.xs = []) (hE : Ent H gE wE hl) {live : List Nat} (hg : gcA hl.length live s = some s') (hI : InvS H df gE wE hl nt s a w) : InvS H df gE wE hl nt s' a w := by
  obtain ⟨g, I⟩ := hI
  simp only [gcA] at hg
  have hh : (fun k => s.heap.getD k .dead) = g.h := funext fun k => (I.h k).symm
  rw [hh] at hg
  generalize hm : reach g.h 2000 (V.refs.refsL ((live.map fun t => (t, s.env.get t)).map (·.2)) ++ (s.heap.take hl.length).flatMap VO.refs) (List.range hl.length) = m at hg
  split at hg
  · rename_i hc
    simp only [Option.some.injEq] at hg
    subst hg
    have hn : m.Nodup := hm ▸ reach_nodup g.h 2000 _ _ List.nodup_range
    have hp : List.range hl.length <+: m := hm ▸ reach_pre 2000 _ _
    simp only [closed, Bool.and_eq_true, List.all_eq_true, List.contains_iff_mem] at hc
    obtain ⟨hc1, hc2⟩ := hc
    have hs : ∀ k, s.heap.getD k .dead = g.h k := fun k => (I.h k).symm
    refine ⟨g.cut m, cut_rel I.rel hn hc2, I.step.trans cut_step I.rel.size, I.X, I.laid.step cut_step, fun k => by simp [G.cut], fun k => ?_, ?_, ?_, I.size, (by obtain ⟨us, e0, e1, e2, _⟩ := I.defers; exact ⟨us, e0, e1, e2, fun j x u h => by simp [hdf] at h⟩), ?_, ?_⟩
    · simp only [hs]
      rfl
    · intro k hk
      obtain ⟨h1, h2, h3⟩ := pre_idx hp hn hk
      obtain ⟨h4, h5⟩ := I.B k hk
      exact ⟨by show g.B (m.getD k 0) = _; rw [h1]; exact h4, by show g.C (m.getD k 0) = _; rw [h1]; exact h5⟩
    · intro t
      show VR (g.cut m) w true (Env.get _ t) _
      rw [get_map (fun v => v.ren fun k => m.idxOf k)]
      split
      · rename_i ht
        refine (I.env t).ren cut_step fun q hq _ => cut_ref (hc1 q ?_)
        refine List.mem_append.2 (.inl (refsL_map.2 ⟨s.env.get t, ?_, hq⟩))
        simp only [List.map_map, List.mem_map, Function.comp_def]
        exact ⟨t, ht, rfl⟩
      · exact .un _
    · obtain ⟨r, hr⟩ := hp
      simp only [List.length_map]
      rw [← hr]
      simp
    · intro k hk hkw
      obtain ⟨h1, h2, h3⟩ := pre_idx hp hn hk
      have e1 : (m.map fun k => (s.heap.getD k .dead).ren fun k => m.idxOf k).getD k .dead = (s.heap.getD k .dead).ren fun k => m.idxOf k := by
        rw [List.getD_eq_getElem?_getD, List.getElem?_map]
        have : m[k]? = some k := by
          rw [List.getD_eq_getElem?_getD, List.getElem?_eq_getElem h3] at h1
          rw [List.getElem?_eq_getElem h3]
          simpa using h1
        rw [this]
        rfl
      show (m.map fun k => (s.heap.getD k .dead).ren fun k => m.idxOf k).getD k .dead = _
      rw [e1, I.ws k hk hkw]
      exact VO.ren_id _ _ fun q hq => (pre_idx hp hn (hE.refs hk q hq)).2.1
  · cases hg

theorem get_trim (e : Env) : ∀ (l : List Nat) (t : Nat), Env.get (l.map fun t => (t, e.get t)) t = if t ∈ l then e.get t else .un
  | [], t => rfl
  | q :: l, t => by
    simp only [List.map_cons, Env.get, get_trim e l t, List.mem_cons]
    by_cases h : q = t
    · subst h; simp
    · have : ¬ t = q := fun e => h e.symm
      simp [h, this]
theorem gc_ok (hdf : df.xs = []) (hE : Ent H gE wE hl) {live : List Nat} (hg : gcS hl.length live s = some s') (hI : InvS H df gE wE hl nt s a w) : InvS H df gE wE hl nt s' a w := by
  unfold gcS at hg
  split at hg
  · cases hg; exact hI
  split at hg
  · cases hg
    obtain ⟨g, I⟩ := hI
    refine ⟨g, I.rel, I.step, I.X, I.laid, I.dom, I.h, I.B, fun t => ?_, I.size, I.defers, I.len, I.ws⟩
    show VR g w true (Env.get _ t) _
    rw [get_trim]
    split
    · exact I.env t
    · exact .un _
  · exact gcA_ok hdf hE hg hI
end
end Go.Pv
namespace Go.Pv
variable [Sy]

inductive Sim (P : Program) (nt : Nat) : Code → VC → Prop
  | skip : Sim P nt .skip .skip
  | reg {id : Nat} {ops : Array Oper} {draw : Bool} {vl : List VOper} (h : stripOps P ops (Region.before ops) nt ops.toList 0 [] = some vl) (hc : (!draw || chkR ops vl) = true) : Sim P nt (.region id ops draw) (.reg vl draw)
  | seq {a b : Code} {va vb : VC} (ha : Sim P nt a va) (hb : Sim P nt b vb) : Sim P nt (.seq a b) (.seq va vb)
  | cond {c : Operand} {od : Od} {a b : Code} {va vb : VC} (hc : odOf c = some od) (ha : Sim P nt a va) (hb : Sim P nt b vb) : Sim P nt (.cond c a b) (.cond od va vb)
  | block {id : Nat} {c : Code} {v : VC} (h : Sim P nt c v) : Sim P nt (.block id c) (.block id v)
  | loop {c : Code} {v : VC} (l : List Nat) (h : Sim P nt c v) : Sim P nt (.loop c) (.loop l v)
  | exit {id : Nat} : Sim P nt (.exit id) (.exit id)
  | ret : Sim P nt .ret .ret
  | goto {l : Nat} : Sim P nt (.goto l) (.goto l)
  | label {l : Nat} : Sim P nt (.label l) .skip
  | scope0 {c : Code} {v : VC} (h : Sim P nt c v) : Sim P nt (.scope c) (.scope v none .skip)
  | scope1 {c rest : Code} {v vr : VC} {l : Nat} (h : Sim P nt c v) (hf : findLabel c l = some rest) (hr : Sim P nt rest vr) : Sim P nt (.scope c) (.scope v (some l) vr)

section
variable {P : Program} {nt : Nat}
mutual
theorem stripC_sim : ∀ {c : Code} {v : VC}, stripC P nt c = some v → Sim P nt c v
  | .skip, v, h => by simp only [stripC, Option.some.injEq] at h; subst h; exact .skip
  | .region id ops draw, v, h => by
    simp only [stripC] at h
    split at h
    · rename_i l hl
      split at h
      · rename_i hc; cases h; exact .reg hl hc
      · cases h
    · cases h
  | .seq a b, v, h => by
    simp only [stripC] at h
    split at h
    · rename_i x y hx hy; cases h; exact .seq (stripC_sim hx) (stripC_sim hy)
    · cases h
  | .cond c a b, v, h => by
    simp only [stripC] at h
    split at h
    · rename_i z x y hz hx hy; cases h; exact .cond hz (stripC_sim hx) (stripC_sim hy)
    · cases h
  | .block id c, v, h => by
    simp only [stripC, Option.map_eq_some_iff] at h
    obtain ⟨x, hx, rfl⟩ := h
    exact .block (stripC_sim hx)
  | .loop c, v, h => by
    simp only [stripC, Option.map_eq_some_iff] at h
    obtain ⟨x, hx, rfl⟩ := h
    exact .loop [] (stripC_sim hx)
  | .exit id, v, h => by simp only [stripC, Option.some.injEq] at h; subst h; exact .exit
  | .ret, v, h => by simp only [stripC, Option.some.injEq] at h; subst h; exact .ret
  | .goto l, v, h => by simp only [stripC, Option.some.injEq] at h; subst h; exact .goto
  | .label l, v, h => by simp only [stripC, Option.some.injEq] at h; subst h; exact .label
  | .scope c, v, h => by
    simp only [stripC] at h
    split at h
    · simp only [Option.map_eq_some_iff] at h
      obtain ⟨x, hx, rfl⟩ := h
      exact .scope0 (stripC_sim hx)
    · split at h
      · rename_i x y hx hy
        cases h
        obtain ⟨rest, h1, h2⟩ := (stripL_sim hy).2 _ rfl
        exact .scope1 (stripC_sim hx) h1 h2
      · cases h
    · cases h
  | .rangeFunc f ps x y, v, h => by simp [stripC] at h
  | .refuse y, v, h => by simp [stripC] at h
theorem stripL_sim : ∀ {c : Code} {l : Nat} {r : Option VC}, stripC.stripL P nt c l = some r → (r = none → findLabel c l = none) ∧ ∀ v, r = some v → ∃ rest, findLabel c l = some rest ∧ Sim P nt rest v
  | .seq a b, l, r, h => by
    simp only [stripC.stripL] at h
    split at h
    · rename_i x hx
      simp only [Option.map_eq_some_iff] at h
      obtain ⟨y, hy, rfl⟩ := h
      obtain ⟨rest, h1, h2⟩ := (stripL_sim hx).2 _ rfl
      refine ⟨fun h => (by cases h), fun v hv => ?_⟩
      cases hv
      exact ⟨.seq rest b, by simp [findLabel, h1], .seq h2 (stripC_sim hy)⟩
    · rename_i hx
      have h1 := (stripL_sim hx).1 rfl
      obtain ⟨h2, h3⟩ := stripL_sim h
      exact ⟨fun h => by simp [findLabel, h1, h2 h], fun v hv => by simpa [findLabel, h1] using h3 v hv⟩
    · cases h
  | .label l', l, r, h => by
    simp only [stripC.stripL, Option.some.injEq] at h
    subst h
    by_cases hl : (l' == l) = true
    · refine ⟨fun h => ?_, fun v hv => ?_⟩
      · simp [hl] at h
      · simp only [hl, if_true, Option.some.injEq] at hv
        subst hv
        exact ⟨.skip, by simp [findLabel, hl], .skip⟩
    · refine ⟨fun h => ?_, fun v hv => ?_⟩
      · simp [findLabel, hl]
      · simp [hl] at hv
  | .skip, l, r, h => by
    simp only [stripC.stripL, Option.some.injEq] at h
    subst h
    exact ⟨fun _ => rfl, fun v hv => (by cases hv)⟩
  | .region id ops d, l, r, h => by
    simp only [stripC.stripL, Option.some.injEq] at h
    subst h
    exact ⟨fun _ => rfl, fun v hv => (by cases hv)⟩
  | .cond c a b, l, r, h => by
    simp only [stripC.stripL, Option.some.injEq] at h
    subst h
    exact ⟨fun _ => rfl, fun v hv => (by cases hv)⟩
  | .block id c, l, r, h => by
    simp only [stripC.stripL, Option.some.injEq] at h
    subst h
    exact ⟨fun _ => rfl, fun v hv => (by cases hv)⟩
  | .loop c, l, r, h => by
    simp only [stripC.stripL, Option.some.injEq] at h
    subst h
    exact ⟨fun _ => rfl, fun v hv => (by cases hv)⟩
  | .rangeFunc f ps x y, l, r, h => by
    simp only [stripC.stripL, Option.some.injEq] at h
    subst h
    exact ⟨fun _ => rfl, fun v hv => (by cases hv)⟩
  | .exit id, l, r, h => by
    simp only [stripC.stripL, Option.some.injEq] at h
    subst h
    exact ⟨fun _ => rfl, fun v hv => (by cases hv)⟩
  | .scope c, l, r, h => by
    simp only [stripC.stripL, Option.some.injEq] at h
    subst h
    exact ⟨fun _ => rfl, fun v hv => (by cases hv)⟩
  | .goto q, l, r, h => by
    simp only [stripC.stripL, Option.some.injEq] at h
    subst h
    exact ⟨fun _ => rfl, fun v hv => (by cases hv)⟩
  | .refuse y, l, r, h => by
    simp only [stripC.stripL, Option.some.injEq] at h
    subst h
    exact ⟨fun _ => rfl, fun v hv => (by cases hv)⟩
  | .ret, l, r, h => by
    simp only [stripC.stripL, Option.some.injEq] at h
    subst h
    exact ⟨fun _ => rfl, fun v hv => (by cases hv)⟩
end

theorem setLive_sim {rt : List Nat} {c : Code} {v : VC} (h : Sim P nt c v) : ∀ (o : List Nat) (bl : List (Nat × List Nat)) (g : List Nat), Sim P nt c (setLive rt v o bl g) := by
  induction h with
  | skip => intro o bl g; exact .skip
  | reg h hc => intro o bl g; exact .reg h hc
  | seq ha hb iha ihb => intro o bl g; exact .seq (iha _ _ _) (ihb _ _ _)
  | cond hc ha hb iha ihb => intro o bl g; exact .cond hc (iha _ _ _) (ihb _ _ _)
  | block h ih => intro o bl g; exact .block (ih _ _ _)
  | loop l h ih => intro o bl g; exact .loop _ (ih _ _ _)
  | exit => intro o bl g; exact .exit
  | ret => intro o bl g; exact .ret
  | goto => intro o bl g; exact .goto
  | label => intro o bl g; exact .label
  | scope0 h ih => intro o bl g; exact .scope0 (ih _ _ _)
  | scope1 h hf hr ih ihr => intro o bl g; exact .scope1 (ih _ _ _) hf (ihr _ _ _)
theorem markGc_sim {c : Code} {v : VC} (h : Sim P nt c v) : Sim P nt c (markGc v) := by
  induction h with
  | skip => exact .skip
  | reg h hc => exact .reg h hc
  | seq ha hb iha ihb => exact .seq iha ihb
  | cond hc ha hb iha ihb => exact .cond hc iha ihb
  | block h ih => exact .block ih
  | loop l h ih => exact .loop _ ih
  | exit => exact .exit
  | ret => exact .ret
  | goto => exact .goto
  | label => exact .label
  | scope0 h ih => exact .scope0 ih
  | scope1 h hf hr ih ihr => exact .scope1 ih hf ihr
end

/-- A scope out of which one goto leads to a label of its own. -/
def Exit.inScope (P : Program) (l : Nat) (rest : Code) (Q : Exit → Act → World → Prop) : Exit → Act → World → Prop
  | .goto l', a, w => l' = l ∧ rest.wp P (Exit.noGoto Q) a w
  | e, a, w => Q e a w
theorem wp_scope_goto {P : Program} {c rest : Code} {l : Nat} {Q : Exit → Act → World → Prop} {a : Act} {w : World} (hf : findLabel c l = some rest) (h : c.wp P (Exit.inScope P l rest Q) a w) : (Code.scope c).wp P Q a w := by
  intro b k cs
  have tail : ∀ {e : Exit} {a₁ : Act} {w₁ : World} {m : Machine}, Exit.noGoto Q e a₁ w₁ → Steps P (lone (b.at a (.code (.scope c) :: k)) cs w) m → Arrives P m b (.inScope c :: k) cs e a₁ w₁ →
      ∃ e a' w', Q e a' w' ∧ Arrives P (lone (b.at a (.code (.scope c) :: k)) cs w) b k cs e a' w' := by
    intro e a₁ w₁ m hq hs harr
    cases e with
    | normal => exact ⟨.normal, a₁, w₁, hq, Steps.trans (Steps.trans hs harr) (.one step_inScope)⟩
    | exit id => exact ⟨.exit id, a₁, w₁, hq, fun k' hk => hs.trans (harr k' (by simp [exitTo, hk]))⟩
    | goto l => exact hq.elim
    | ret => exact ⟨.ret, a₁, w₁, hq, Arrives.of_steps hs harr⟩
    | panic ch => exact ⟨.panic ch, a₁, w₁, hq, Arrives.of_steps hs harr⟩
    | outgrown => exact ⟨.outgrown, a₁, w₁, hq, Arrives.of_steps (b := b) (k := k) (cs := cs) (e := .outgrown) hs harr⟩
  obtain ⟨e, a₁, w₁, hq, harr⟩ := h b (.inScope c :: k) cs
  have s0 : Steps P (lone (b.at a (.code (.scope c) :: k)) cs w) (lone (b.at a (.code c :: .inScope c :: k)) cs w) := .one step_scope
  cases e with
  | goto l' =>
    obtain ⟨rfl, hr⟩ := hq
    have harr := harr (.code rest :: .inScope c :: k) (by simp [gotoIn, hf])
    obtain ⟨e₂, a₂, w₂, hq₂, harr₂⟩ := hr b (.inScope c :: k) cs
    exact tail hq₂ (s0.trans harr) harr₂
  | normal => exact tail (e := .normal) hq s0 harr
  | exit id => exact tail (e := .exit id) hq s0 harr
  | ret => exact tail (e := .ret) hq s0 harr
  | panic ch => exact tail (e := .panic ch) hq s0 harr
  | outgrown => exact tail (e := .outgrown) hq s0 harr

section
variable {P : Program} {H : Array Obj} {df : Dfr} {gE : G} {wE : World} {hl : List VO} {nt : Nat} {call : Callf} {n : Nat}

theorem run_ok (hm : P.follows .mixedOrders = true) (HC : CallOk P H call) (hE : Ent H gE wE hl) {c : Code} {v : VC} (hs : Sim P nt c v) : ∀ (s s' : St) (x : Ex) (Q : Exit → Act → World → Prop) (a : Act) (w : World), (df.xs = [] ∨ v.noGc = true) →
    run call n hl.length v s = some (x, s') → InvS H df gE wE hl nt s a w → Good H df gE wE hl nt x s' Q → c.wp P Q a w := by
  induction hs with
  | skip =>
    intro s s' x Q a w hng hr hI hG
    simp only [run, Option.some.injEq, Prod.mk.injEq] at hr
    obtain ⟨rfl, rfl⟩ := hr
    exact wp_skip (hG a w hI)
  | label =>
    intro s s' x Q a w hng hr hI hG
    simp only [run, Option.some.injEq, Prod.mk.injEq] at hr
    obtain ⟨rfl, rfl⟩ := hr
    exact wp_label (hG a w hI)
  | exit =>
    intro s s' x Q a w hng hr hI hG
    simp only [run, Option.some.injEq, Prod.mk.injEq] at hr
    obtain ⟨rfl, rfl⟩ := hr
    exact wp_exit (hG a w hI)
  | goto =>
    intro s s' x Q a w hng hr hI hG
    simp only [run, Option.some.injEq, Prod.mk.injEq] at hr
    obtain ⟨rfl, rfl⟩ := hr
    exact wp_goto (hG a w hI)
  | ret =>
    intro s s' x Q a w hng hr hI hG
    simp only [run, Option.some.injEq, Prod.mk.injEq] at hr
    obtain ⟨rfl, rfl⟩ := hr
    exact wp_ret (hG a w hI)
  | reg h hc =>
    intro s s' x Q a w hng hr hI hG
    simp only [run] at hr
    exact region_ok hm HC h hc hr hI hG
  | seq ha hb iha ihb =>
    intro s s' x Q a w hng hr hI hG
    simp only [run] at hr
    refine wp_seq ?_
    split at hr
    · rename_i s1 h1
      exact iha s s1 .normal _ a w (hng.imp_right fun h => by simp only [VC.noGc, Bool.and_eq_true] at h; exact h.1) h1 hI fun a1 w1 hI1 => ihb s1 s' x Q a1 w1 (hng.imp_right fun h => by simp only [VC.noGc, Bool.and_eq_true] at h; exact h.2) hr hI1 hG
    · rename_i hne
      refine iha s s' x _ a w (hng.imp_right fun h => by simp only [VC.noGc, Bool.and_eq_true] at h; exact h.1) hr hI ?_
      cases x with
      | normal => exact absurd hr (hne s')
      | exit id => exact hG
      | goto l => exact hG
      | ret => exact hG
      | pan v => exact hG
  | cond hc ha hb iha ihb =>
    intro s s' x Q a w hng hr hI hG
    obtain ⟨g, I⟩ := hI
    have hcv := od_ok (evs_of I.laid I.env) hc
    simp only [run] at hr
    split at hr
    · rename_i hq
      rw [hq] at hcv
      exact wp_cond_true hcv.inv_bool (iha s s' x Q a w (hng.imp_right fun h => by simp only [VC.noGc, Bool.and_eq_true] at h; exact h.1) hr ⟨g, I⟩ hG)
    · rename_i hq
      rw [hq] at hcv
      exact wp_cond_false hcv.inv_bool (ihb s s' x Q a w (hng.imp_right fun h => by simp only [VC.noGc, Bool.and_eq_true] at h; exact h.2) hr ⟨g, I⟩ hG)
    · cases hr
  | block h ih =>
    rename_i id c v
    intro s s' x Q a w hng hr hI hG
    simp only [run] at hr
    refine wp_block ?_
    split at hr
    · rename_i i s1 h1
      refine ih s s1 (.exit i) _ a w (hng.imp_right fun h => by simpa only [VC.noGc] using h) h1 hI fun a1 w1 hI1 => ?_
      simp only [Exit.inBlock]
      split at hr
      · rename_i hi
        cases hr
        rw [if_pos hi]
        exact hG a1 w1 hI1
      · rename_i hi
        cases hr
        rw [if_neg hi]
        exact hG a1 w1 hI1
    · rename_i hne
      refine ih s s' x _ a w (hng.imp_right fun h => by simpa only [VC.noGc] using h) hr hI ?_
      cases x with
      | normal => exact hG
      | exit i => exact absurd hr (hne i s')
      | goto l => exact hG
      | ret => exact hG
      | pan v => exact hG
  | loop l h ih =>
    rename_i c v
    intro s s' x Q a w hng hr hI hG
    simp only [run] at hr
    have key : ∀ (m : Nat) (s : St) (a : Act) (w : World), iter (run call n hl.length v) (gcS hl.length l) m s = some (x, s') → InvS H df gE wE hl nt s a w → Code.rounds P c Q m a w := by
      intro m
      induction m with
      | zero => intro s a w hr; simp [iter] at hr
      | succ m ihm =>
        intro s a w hr hI
        simp only [iter] at hr
        split at hr
        · cases hr
        · rename_i s1 hg
          have hI1 : InvS H df gE wE hl nt s1 a w := by
            rcases hng with hng | hng
            · exact gc_ok hng hE hg hI
            · simp only [VC.noGc, Bool.and_eq_true] at hng
              simp only [gcS, hng.1, if_true, Option.some.injEq] at hg
              exact hg ▸ hI
          show c.wp P _ a w
          split at hr
          · cases hr
          · rename_i s2 h2
            exact ih s1 s2 .normal _ a w (hng.imp_right fun h => by simp only [VC.noGc, Bool.and_eq_true] at h; exact h.2) h2 hI1 fun a2 w2 hI2 => ihm s2 a2 w2 hr hI2
          · rename_i hne2 hne
            refine ih s1 s' x _ a w (hng.imp_right fun h => by simp only [VC.noGc, Bool.and_eq_true] at h; exact h.2) hr hI1 ?_
            cases x with
            | normal => exact absurd hr (hne s')
            | exit i => exact hG
            | goto l => exact hG
            | ret => exact hG
            | pan v => exact hG
    exact wp_loop_rounds n (key n s a w hr hI)
  | scope0 h ih =>
    intro s s' x Q a w hng hr hI hG
    simp only [run] at hr
    refine wp_scope_straight ?_
    split at hr
    · split at hr
      · rename_i hh; cases hh
      · cases hr
    · rename_i hne
      refine ih s s' x _ a w (hng.imp_right fun h => by simp only [VC.noGc, Bool.and_eq_true] at h; exact h.1) hr hI ?_
      cases x with
      | normal => exact hG
      | exit i => exact hG
      | goto i => exact absurd hr (hne i s')
      | ret => exact hG
      | pan v => exact hG
  | scope1 h hf hr2 ih ihr =>
    intro s s' x Q a w hng hr hI hG
    simp only [run] at hr
    refine wp_scope_goto hf ?_
    split at hr
    · rename_i i s1 h1
      split at hr
      · rename_i hi
        cases hi
        refine ih s s1 (.goto _) _ a w (hng.imp_right fun h => by simp only [VC.noGc, Bool.and_eq_true] at h; exact h.1) h1 hI fun a1 w1 hI1 => ⟨rfl, ?_⟩
        split at hr
        · cases hr
        · rename_i hne
          refine ihr s1 s' x _ a1 w1 (hng.imp_right fun h => by simp only [VC.noGc, Bool.and_eq_true] at h; exact h.2) hr hI1 ?_
          cases x with
          | normal => exact hG
          | exit i => exact hG
          | goto i => exact absurd hr (hne i s')
          | ret => exact hG
          | pan v => exact hG
      · cases hr
    · rename_i hne
      refine ih s s' x _ a w (hng.imp_right fun h => by simp only [VC.noGc, Bool.and_eq_true] at h; exact h.1) hr hI ?_
      cases x with
      | normal => exact hG
      | exit i => exact hG
      | goto i => exact absurd hr (hne i s')
      | ret => exact hG
      | pan v => exact hG
end
end Go.Pv
namespace Go.Pv
variable [Sy]
section
variable {P : Program} {H : Array Obj} {df : Dfr} {gE : G} {wE : World} {hl : List VO} {nt : Nat} {a : Act} {w : World} {call : Callf} {s s' : St} {x : Ex}

/-! ### Results. -/
def resM (a : Act) (r : ResultVar) : Sem Value :=
  match r with
  | .tmp t => pure (a.tmps.getD t undef)
  | .cell q t => do loadVar t (← asAddr (a.tmps.getD q undef))
theorem resV_ok {g : G} (I : Inv H df gE wE hl nt s a w g) : ∀ {l : List ResultVar} {rs : List RV} {vs : List V}, stripR P l = some rs → resV s rs = some vs →
    ∃ us : List Value, (l.mapM (resM a)).run P w = .ok us w ∧ us.length = vs.length ∧ ∀ (j : Nat) (x : V) (u : Value), vs[j]? = some x → us[j]? = some u → VR g w true x u
  | [], rs, vs, h, hv => by
    simp [stripR] at h
    subst h
    simp [resV] at hv
    subst hv
    exact ⟨[], by simp, rfl, fun j x u h => by simp at h⟩
  | .tmp t :: l, rs, vs, h, hv => by
    simp only [stripR, Option.map_eq_some_iff] at h
    obtain ⟨r, hr, rfl⟩ := h
    simp only [resV, Option.map_eq_some_iff] at hv
    obtain ⟨q, hq, rfl⟩ := hv
    obtain ⟨us, h1, h2, h3⟩ := resV_ok I hr hq
    refine ⟨a.tmps.getD t undef :: us, by simp [List.mapM_cons, resM, h1], by simp [h2], fun j x u hx hu => ?_⟩
    cases j with
    | zero => simp only [List.getElem?_cons_zero, Option.some.injEq] at hx hu; subst hx; subst hu; exact I.env t
    | succ j => simp only [List.getElem?_cons_succ] at hx hu; exact h3 j x u hx hu
  | .cell t ty :: l, rs, vs, h, hv => by
    simp only [stripR] at h
    split at h
    · rename_i gg r hgg hr
      cases h
      simp only [resV] at hv
      split at hv
      · rename_i cs rd hl'
        split at hv
        · rename_i v q hs hq
          cases hv
          obtain ⟨us, h1, h2, h3⟩ := resV_ok I hr hq
          have hh : (fun k => s.heap.getD k .dead) = g.h := funext fun k => (I.h k).symm
          rw [hh] at hl'
          obtain ⟨ad, cu, hu, hlen, C, hc⟩ := loadC_ok I.rel (I.env t) hl'
          obtain ⟨u, k1, k2⟩ := loadVar_ok hgg hlen C hc hs
          have hu' : a.tmps.getD t undef = .pointer (some ad) := hu
          refine ⟨u :: us, by simp [List.mapM_cons, resM, h1, hu', asAddr, k1], by simp [h2], fun j x u' hx hu2 => ?_⟩
          cases j with
          | zero => simp only [List.getElem?_cons_zero, Option.some.injEq] at hx hu2; subst hx; subst hu2; exact k2
          | succ j => simp only [List.getElem?_cons_succ] at hx hu2; exact h3 j x u' hx hu2
        · cases hv
      · cases hv
    · cases h

theorem results_ok {g : G} {fn : Func} (I : Inv H df gE wE hl nt s a w g) {rs : List RV} {vs : List V} (h : stripR P fn.results.toList = some rs) (hv : resV s rs = some vs) : ∃ u, (results fn a.tmps).run P w = .ok u w ∧ VR g w true (resOne vs) u := by
  obtain ⟨us, h1, h2, h3⟩ := resV_ok I h hv
  refine ⟨if h : us.toArray.size = 1 then us.toArray[0] else .tuple us.toArray, ?_, ?_⟩
  · change (do let vs ← fn.results.mapM (resM a); pure (if h : vs.size = 1 then vs[0] else Value.tuple vs) : Sem Value).run P w = _
    rw [Array.mapM_eq_mapM_toList]
    simp [h1]
  · match vs, us, h2 with
    | [], [], _ => exact .tup _ _ _ rfl fun j x u h => by simp at h
    | [v], [u], _ => exact h3 0 v u rfl rfl
    | v :: v2 :: vs, u :: u2 :: us, h2 =>
      simp only [resOne]
      have : ¬ (u :: u2 :: us).toArray.size = 1 := by simp
      rw [dif_neg this]
      exact .tup _ _ _ (by simpa using h2) fun j x u hx hu => h3 j x u hx (by simpa using hu)

/-! ### What a function hands back. -/
theorem gcEnd_ok (hE : Ent H gE wE hl) {g : G} (I : Inv H df gE wE hl nt s a w g) {v : V} {u : Value} {r : CRes} (hV : VR g w true v u) (hr : gcEnd hl.length s v = some r) : ∃ v' hl' ws g', r = .ok v' hl' ws ∧ AftOk gE wE hl g' w v' hl' ws u := by
  simp only [gcEnd] at hr
  have hh : (fun k => s.heap.getD k .dead) = g.h := funext fun k => (I.h k).symm
  rw [hh] at hr
  generalize hm : reach g.h 2000 (v.refs ++ (s.heap.take hl.length).flatMap VO.refs) (List.range hl.length) = m at hr
  split at hr
  · rename_i hc
    cases hr
    have hn : m.Nodup := hm ▸ reach_nodup g.h 2000 _ _ List.nodup_range
    have hp : List.range hl.length <+: m := hm ▸ reach_pre 2000 _ _
    simp only [closed, Bool.and_eq_true, List.all_eq_true, List.contains_iff_mem] at hc
    obtain ⟨hc1, hc2⟩ := hc
    have hs : ∀ k, s.heap.getD k .dead = g.h k := fun k => (I.h k).symm
    refine ⟨_, _, _, g.cut m, rfl, ⟨⟨cut_rel I.rel hn hc2, I.step.trans cut_step I.rel.size, I.X⟩, fun k => by simp [G.cut], fun k => ?_, ?_, ?_, ?_, ?_⟩⟩
    · simp only [hs]
      rfl
    · obtain ⟨r, hr⟩ := hp
      simp only [List.length_map]
      rw [← hr]
      simp
    · intro k hk
      obtain ⟨h1, h2, h3⟩ := pre_idx hp hn hk
      obtain ⟨h4, h5⟩ := I.B k hk
      exact ⟨by show g.B (m.getD k 0) = _; rw [h1]; exact h4, by show g.C (m.getD k 0) = _; rw [h1]; exact h5⟩
    · exact hV.ren cut_step fun q hq _ => cut_ref (hc1 q (List.mem_append.2 (.inl hq)))
    · intro k hk hkw
      obtain ⟨h1, h2, h3⟩ := pre_idx hp hn hk
      have e1 : (m.map fun k => (s.heap.getD k .dead).ren fun k => m.idxOf k).getD k .dead = (s.heap.getD k .dead).ren fun k => m.idxOf k := by
        rw [List.getD_eq_getElem?_getD, List.getElem?_map]
        have : m[k]? = some k := by
          rw [List.getD_eq_getElem?_getD, List.getElem?_eq_getElem h3] at h1
          rw [List.getElem?_eq_getElem h3]
          simpa using h1
        rw [this]
        rfl
      rw [e1, I.ws k hk hkw]
      exact VO.ren_id _ _ fun q hq => (pre_idx hp hn (hE.refs hk q hq)).2.1
  · cases hr
end
end Go.Pv
namespace Go.Pv
variable [Sy]

theorem mapM_some {α β : Type} {f : α → Option β} : ∀ {l : List α} {r : List β}, l.mapM f = some r → r.length = l.length ∧ ∀ (j : Nat) (x : α) (y : β), l[j]? = some x → r[j]? = some y → f x = some y
  | [], r, h => by
    simp at h
    subst h
    exact ⟨rfl, fun j x y h => by simp at h⟩
  | x :: l, r, h => by
    simp only [List.mapM_cons, Option.bind_eq_bind, Option.bind_eq_some_iff, Option.pure_def, Option.some.injEq] at h
    obtain ⟨y, hy, ys, hys, rfl⟩ := h
    obtain ⟨h1, h2⟩ := mapM_some hys
    refine ⟨by simp [h1], fun j a b ha hb => ?_⟩
    cases j with
    | zero => simp at ha hb; subst ha; subst hb; exact hy
    | succ j => simp at ha hb; exact h2 j a b ha hb
theorem mapM_flat {α β : Type} {f : α → Option β} : ∀ {L : List (List α)} {xs : List (List β)}, L.mapM (fun c => c.mapM f) = some xs → L.flatten.mapM f = some xs.flatten
  | [], xs, h => by
    simp at h
    subst h
    rfl
  | c :: L, xs, h => by
    simp only [List.mapM_cons, Option.bind_eq_bind, Option.bind_eq_some_iff, Option.pure_def, Option.some.injEq] at h
    obtain ⟨y, hy, ys, hys, rfl⟩ := h
    simp [List.mapM_append, hy, mapM_flat hys]
theorem chunk_ok (esz : Nat) : ∀ (n : Nat) (cs : List V), n * esz ≤ cs.length → (chunk esz n cs).length = n ∧ (∀ x ∈ chunk esz n cs, x.length = esz) ∧ (chunk esz n cs).flatten = cs.take (n * esz)
  | 0, cs, _ => by simp [chunk]
  | n + 1, cs, h => by
    rw [Nat.succ_mul] at h
    obtain ⟨h1, h2, h3⟩ := chunk_ok esz n (cs.drop esz) (by simp; omega)
    refine ⟨by simp [chunk, h1], ?_, ?_⟩
    · intro x hx
      simp only [chunk, List.mem_cons] at hx
      rcases hx with rfl | hx
      · simp; omega
      · exact h2 x hx
    · simp only [chunk, List.flatten_cons, h3]
      rw [Nat.succ_mul, Nat.add_comm, List.take_add]

section
variable {P : Program} {H : Array Obj} {df : Dfr} {gE : G} {wE : World} {hl : List VO} {nt : Nat} {a : Act} {w : World} {s : St} {g : G}

/-- What becomes of a list. -/
theorem frz_list {f : V → Option V} {g' : G} (ih : ∀ (v v' : V) (u : Value), f v = some v' → VR g w true v u → VR g' w false v' u) {cs cs' : List V} {us : List Value} (h : cs.mapM f = some cs') (hl : us.length = cs.length)
    (hr : ∀ (j : Nat) (x : V) (u : Value), cs[j]? = some x → us[j]? = some u → VR g w true x u) : us.length = cs'.length ∧ ∀ (j : Nat) (x : V) (u : Value), cs'[j]? = some x → us[j]? = some u → VR g' w false x u := by
  obtain ⟨h1, h2⟩ := mapM_some h
  refine ⟨by omega, fun j y u hy hu => ?_⟩
  have hj : j < cs.length := by rw [← h1]; exact (List.getElem?_eq_some_iff.1 hy).1
  have hx : cs[j]? = some cs[j] := List.getElem?_eq_getElem hj
  exact ih _ _ _ (h2 j _ y hx hy) (hr j _ u hx hu)

theorem frz_ok (I : Inv H df gE wE hl nt s a w g) : ∀ (n : Nat) (v v' : V) (u : Value), frz s.heap hl.length n v = some v' → VR g w true v u → VR (g.cut (List.range hl.length)) w false v' u
  | 0, v, v', u, h, _ => by simp [frz] at h
  | n + 1, v, v', u, h, hV => by
    have ih := frz_ok I n
    have hs : ∀ k, s.heap.getD k .dead = g.h k := fun k => (I.h k).symm
    have notO : ∀ k, ¬ k < hl.length → (g.h k).alive → ¬ (g.cut (List.range hl.length)).O (g.B k) := by
      rintro k hk ha (hx | ⟨i, hi, e⟩)
      · exact I.rel.sep k ha hx
      · obtain ⟨h1, h2⟩ := cut_h' hi
        have h1' : i < hl.length := by simpa using h1
        have e1 : (List.range hl.length).getD i 0 = i := by simp [List.getD_eq_getElem?_getD, h1']
        have := I.rel.inj _ _ h2 ha e
        rw [e1] at this
        omega
    have imm : ∀ {v : V}, VR g w false v u → VR (g.cut (List.range hl.length)) w false v u := fun h => h.stay cut_step rfl
    cases v with
    | un => simp [frz] at h
    | bool b => simp [frz] at h; subst h; rw [hV.inv_bool]; exact .bool _ _
    | int k i => simp [frz] at h; subst h; rw [hV.inv_int]; exact .int _ _ _
    | str t => simp [frz] at h; subst h; rw [hV.inv_str]; exact .str _ _
    | nilp => simp [frz] at h; subst h; rw [hV.inv_nilp]; exact .nilp _
    | nils => simp [frz] at h; subst h; rw [hV.inv_nils]; exact .nils _
    | nilm => simp [frz] at h; subst h; rw [hV.inv_nilm]; exact .nilm _
    | nilf => simp [frz] at h; subst h; cases hV; exact .nilf _
    | nili => simp [frz] at h; subst h; rw [hV.inv_nili]; exact .nili _
    | ip cs =>
      simp [frz] at h
      subst h
      obtain ⟨ad, us, rfl, h1, h2, h3, h4⟩ := hV.inv_ip
      exact imm (.ip _ cs us ad h1 h2 h3 h4)
    | is xs cl =>
      simp [frz] at h
      subst h
      obtain ⟨us, esz, ad, c, rfl, h1, h2, h3, h4, h5, h6, h7⟩ := hV.inv_is
      exact imm (.is _ xs cl us esz ad c h1 h2 h3 h4 h5 h6 h7)
    | tm k t => simp [frz] at h; subst h; rw [hV.inv_tm]; exact .tm _ _ _
    | ct ch => simp [frz] at h; subst h; rw [hV.inv_ct]; exact .ct _ _
    | cb ch =>
      simp [frz] at h
      subst h
      have h0 := hV.inv_cb
      generalize hxs : bytesL (chev ch) = xs at h0
      obtain ⟨us, esz, ad, c, rfl, h1, h2, h3, h4, h5, h6, h7⟩ := h0.inv_is
      subst hxs
      exact imm (.cb _ _ _ (.is _ _ false us esz ad c h1 h2 h3 h4 h5 h6 h7))
    | it xs kk =>
      simp [frz] at h
      subst h
      obtain ⟨rest, h0, hkk⟩ := hV.inv_it
      generalize hxs : xs ++ rest = ys at h0
      obtain ⟨us, esz, ad, c, rfl, h1, h2, h3, h4, h5, h6, h7⟩ := h0.inv_is
      subst hxs
      exact imm (.it _ _ rest _ _ (.is _ _ false us esz ad c h1 h2 h3 h4 h5 h6 h7) hkk)
    | iv kk id nn ix el =>
      simp [frz] at h
      subst h
      obtain ⟨h0, hn, he⟩ := hV.inv_iv
      generalize hxs : ((Sy.lists id).map fun z => [V.int kk z]) = ys at h0
      obtain ⟨us, esz, ad, c, rfl, h1, h2, h3, h4, h5, h6, h7⟩ := h0.inv_is
      subst hxs
      exact imm (.iv _ _ _ _ _ _ _ (.is _ _ false us esz ad c h1 h2 h3 h4 h5 h6 h7) hn he)
    | im es =>
      simp [frz] at h
      subst h
      obtain ⟨q, arr, ck, rfl, h1, h2, h3, h4, h5⟩ := hV.inv_im
      exact imm (.im _ es q arr ck h1 h2 h3 h4 h5)
    | ptr k off =>
      simp only [frz] at h
      split at h
      · cases h
      · rename_i hk
        rw [hs] at h
        split at h
        · rename_i cs ez hkc
          simp only [Option.map_eq_some_iff] at h
          obtain ⟨cs', hcs, rfl⟩ := h
          obtain ⟨_, rfl⟩ := hV.inv_ptr
          obtain ⟨arr, t, hh, hla, _, C⟩ := or_cells I.rel hkc
          have C' := C.drop off
          obtain ⟨q1, q2⟩ := frz_list ih hcs C'.len C'.rel
          refine .ip _ cs' _ _ q1 C'.one (fun j u hu => ⟨notO k hk (by rw [hkc]; trivial), ?_⟩) q2
          rw [List.getElem?_drop, List.getElem?_take] at hu
          split at hu
          · rw [cells_at hh]; simpa using hu
          · cases hu
        · cases h
    | sl k off len cap =>
      simp only [frz] at h
      split at h
      · cases h
      · rename_i hk
        rw [hs] at h
        split at h
        · rename_i cs ez hkc
          split at h
          · rename_i hlim
            simp only [Option.map_eq_some_iff] at h
            obtain ⟨xs, hxs, rfl⟩ := h
            obtain ⟨_, c, rfl, hcap, _, hle⟩ := hV.inv_sl
            obtain ⟨arr, t, hh, hla, _, C⟩ := or_cells I.rel hkc
            obtain ⟨k1, k2, k3⟩ := chunk_ok ez len (cs.drop off) (by simp; omega)
            have C' := (C.drop off).take (len * ez)
            have hfl := mapM_flat hxs
            rw [k3] at hfl
            obtain ⟨q1, q2⟩ := frz_list ih hfl C'.len C'.rel
            obtain ⟨r1, r2⟩ := mapM_some hxs
            have hxl : xs.length = len := by omega
            rw [← hxl]
            refine .is _ xs _ _ ez _ c ?_ q1 (by omega) ?_ C'.one (fun j u hu => ⟨_, rfl, notO k hk (by rw [hkc]; trivial), ?_⟩) q2
            · intro x hx
              obtain ⟨j, hj⟩ := List.mem_iff_getElem?.1 hx
              have hjl : j < (chunk ez len (cs.drop off)).length := by rw [← r1]; exact (List.getElem?_eq_some_iff.1 hj).1
              have := r2 j _ x (List.getElem?_eq_getElem hjl) hj
              rw [(mapM_some this).1]
              exact k2 _ (List.getElem_mem hjl)
            · intro hcl
              rw [hxl]
              have : cap = some xs.length := by simpa using hcl
              exact hcap len (by rw [this, hxl])
            · rw [List.getElem?_take] at hu
              split at hu
              · rw [List.getElem?_drop, List.getElem?_take] at hu
                split at hu
                · rw [cells_at hh]; simpa using hu
                · cases hu
              · cases hu
          · cases h
        · cases h
    | mp k =>
      simp only [frz] at h
      split at h
      · cases h
      · rename_i hk
        rw [hs] at h
        split at h
        · rename_i es hkc
          simp only [Option.map_eq_some_iff] at h
          obtain ⟨es', hes, rfl⟩ := h
          obtain ⟨_, rfl⟩ := hV.inv_mp
          obtain ⟨arr, ck, hw, hl', hr⟩ := or_map I.rel hkc
          obtain ⟨r1, r2⟩ := mapM_some hes
          have pt : ∀ (j : Nat) (e : V × V) (m : MapEntry), es'[j]? = some e → arr[j]? = some m → VR (g.cut (List.range hl.length)) w false e.1 m.key ∧ VR (g.cut (List.range hl.length)) w false e.2 m.val := by
            intro j e m he hm
            have hj : j < es.length := by rw [← r1]; exact (List.getElem?_eq_some_iff.1 he).1
            have hx : es[j]? = some es[j] := List.getElem?_eq_getElem hj
            have := r2 j _ e hx he
            simp only [Option.bind_eq_bind, Option.bind_eq_some_iff, Option.pure_def, Option.some.injEq] at this
            obtain ⟨y1, hy1, y2, hy2, rfl⟩ := this
            obtain ⟨z1, z2⟩ := hr j _ m hx hm
            exact ⟨ih _ _ _ hy1 z1, ih _ _ _ hy2 z2⟩
          exact .im _ es' _ arr ck (notO k hk (by rw [hkc]; trivial)) hw (by omega) (fun j e m he hm => (pt j e m he hm).1) (fun j e m he hm => (pt j e m he hm).2)
        · cases h
    | fn f a b =>
      simp only [frz, Option.bind_eq_bind, Option.bind_eq_some_iff, Option.pure_def, Option.some.injEq] at h
      obtain ⟨a', ha, b', hb, rfl⟩ := h
      obtain ⟨A, A', rfl, h1, h2, h3, h4⟩ := hV.inv_fn
      obtain ⟨q1, q2⟩ := frz_list ih ha (us := A.toList) (by simpa using h1) (fun j x u hx hu => h3 j x u hx (by simpa using hu))
      obtain ⟨q3, q4⟩ := frz_list ih hb (us := A'.toList) (by simpa using h2) (fun j x u hx hu => h4 j x u hx (by simpa using hu))
      exact .fn _ f a' b' A A' (by simpa using q1) (by simpa using q3) (fun j x u hx hu => q2 j x u hx (by simpa using hu)) (fun j x u hx hu => q4 j x u hx (by simpa using hu))
    | ifc t v =>
      simp only [frz, Option.map_eq_some_iff] at h
      obtain ⟨v', hv, rfl⟩ := h
      obtain ⟨x, rfl, hx⟩ := hV.inv_ifc
      exact .ifc _ t v' x (ih _ _ _ hv hx)
    | agg cs =>
      simp only [frz, Option.map_eq_some_iff] at h
      obtain ⟨cs', hcs, rfl⟩ := h
      obtain ⟨U, rfl, h1, h2, h3⟩ := hV.inv_agg
      obtain ⟨q1, q2⟩ := frz_list ih hcs (us := U.toList) (by simpa using h1) (fun j x u hx hu => h3 j x u hx (by simpa using hu))
      exact .agg _ cs' U (by simpa using q1) h2 (fun j x u hx hu => q2 j x u hx (by simpa using hu))
    | tup cs =>
      simp only [frz, Option.map_eq_some_iff] at h
      obtain ⟨cs', hcs, rfl⟩ := h
      obtain ⟨U, rfl, h1, h3⟩ := hV.inv_tup
      obtain ⟨q1, q2⟩ := frz_list ih hcs (us := U.toList) (by simpa using h1) (fun j x u hx hu => h3 j x u hx (by simpa using hu))
      exact .tup _ cs' U (by simpa using q1) (fun j x u hx hu => q2 j x u hx (by simpa using hu))
end
end Go.Pv
namespace Go.Pv
variable [Sy]
section
variable {P : Program} {H : Array Obj} {df : Dfr} {gE : G} {wE : World} {hl : List VO} {nt : Nat} {a : Act} {w : World} {s : St} {g : G}

theorem Inv.noDefers {g : G} (I : Inv H Dfr.no gE wE hl nt s a w g) : a.defers = [] := by
  obtain ⟨us, _, h, _⟩ := I.defers
  exact h
theorem finish_ok (hE : Ent H gE wE hl) (I : Inv H df gE wE hl nt s a w g) {keep : Nat} {v : V} {u : Value} {r : CRes} (hV : VR g w true v u) (hr : finish keep hl.length s v = some r) : ∃ v' hl' ws g', r = .ok v' hl' ws ∧ AftOk gE wE hl g' w v' hl' ws u := by
  unfold finish at hr
  split at hr
  · cases hr
    exact ⟨_, _, _, g, rfl, ⟨⟨I.rel, I.step, I.X⟩, I.dom, I.h, I.len, I.B, hV, I.ws⟩⟩
  split at hr
  · exact gcEnd_ok hE I hV hr
  · rename_i hk
    split at hr
    · rename_i v' hv
      cases hr
      simp only [Bool.or_eq_true, Bool.not_eq_true', not_or, Bool.not_eq_false, List.all_eq_true, decide_eq_true_eq] at hk
      have hall := hk.2
      have hlen := I.len
      have htk : ∀ k, k < hl.length → (s.heap.take hl.length).getD k .dead = g.h k := fun k hk => by
        rw [I.h, List.getD_eq_getElem?_getD, List.getElem?_take, if_pos hk, ← List.getD_eq_getElem?_getD]
      have hrefs : ∀ k, k < hl.length → ∀ q ∈ (g.h k).refs, q < hl.length := fun k hk q hq => by
        refine hall q (List.mem_flatMap.2 ⟨g.h k, ?_, hq⟩)
        have hkl : k < (s.heap.take hl.length).length := by simp; omega
        have := htk k hk
        rw [List.getD_eq_getElem?_getD, List.getElem?_eq_getElem hkl] at this
        rw [← this]
        exact List.getElem_mem hkl
      have hn : (List.range hl.length).Nodup := List.nodup_range
      have hp : List.range hl.length <+: List.range hl.length := List.prefix_refl _
      refine ⟨_, _, _, g.cut (List.range hl.length), rfl, ⟨⟨cut_rel I.rel hn ?_, I.step.trans cut_step I.rel.size, I.X⟩, fun k => ?_, fun k => ?_, ?_, ?_, ?_, ?_⟩⟩
      · intro k hk q hq
        simp only [List.mem_range] at hk ⊢
        exact hrefs k hk q hq
      · show k < (List.range hl.length).length ↔ _
        simp; omega
      · rcases Nat.lt_or_ge k hl.length with hkl | hkl
        · obtain ⟨h1, h2, h3⟩ := pre_idx hp hn hkl
          rw [htk k hkl, cut_h h3, h1]
          exact VO.ren_id _ _ fun q hq => (pre_idx hp hn (hrefs k hkl q hq)).2.1
        · rw [cut_dead (by simpa using hkl), List.getD_eq_getElem?_getD, List.getElem?_eq_none (by simp; omega)]
          rfl
      · simp; omega
      · intro k hk
        obtain ⟨h1, h2, h3⟩ := pre_idx hp hn hk
        obtain ⟨h4, h5⟩ := I.B k hk
        exact ⟨by show g.B ((List.range hl.length).getD k 0) = _; rw [h1]; exact h4, by show g.C ((List.range hl.length).getD k 0) = _; rw [h1]; exact h5⟩
      · exact (frz_ok I _ _ _ _ hv hV).up
      · intro k hk hkw
        rw [htk k hk, I.h]
        exact I.ws k hk hkw
    · exact gcEnd_ok hE I hV hr
end

/-- What is known of a table of functions. -/
structure CtxOk (P : Program) (H : Array Obj) (C : Ctx) : Prop where
  code : ∀ f vf, C.code f = some vf → ∃ fn c, P.funcs[f]? = some fn ∧ fn.body = some c ∧ (fn.name == "runtime.NumGoroutine") = false ∧ Sim P fn.ntmps c vf.body ∧ stripR P fn.results.toList = some vf.results
  nat : ∀ f nf, C.nat f = some nf → ∀ call, CallOk P H call → ∀ args hl r, nf call args hl = some r → ∀ (g : G) (w : World) (us : Array Value), Ent H g w hl → Args g w args us → Far P f us w (CallR g w hl r)
  memo : ∀ f args hl r, C.memo f args hl = some r → ∀ (g : G) (w : World) (us : Array Value), Ent H g w hl → Args g w args us → Far P f us w (CallR g w hl r)

/-- One answer of the machine, said of the model. -/
def Fact (P : Program) (H : Array Obj) (f : FuncId) (args : List V) (hl : List VO) (r : CRes) : Prop :=
  ∀ (g : G) (w : World) (us : Array Value), Ent H g w hl → Args g w args us → Far P f us w (CallR g w hl r)
theorem stripF_ok {P : Program} {fn : Func} {vf : VF} (h : stripF P fn = some vf) : ∃ c, fn.body = some c ∧ Sim P fn.ntmps c vf.body ∧ stripR P fn.results.toList = some vf.results := by
  unfold stripF at h
  split at h
  · cases h
  · rename_i c hc
    split at h
    · rename_i v r hv hr
      cases h
      exact ⟨c, hc, setLive_sim (stripC_sim hv) _ _ _, hr⟩
    · cases h

theorem stripF0_ok {P : Program} {fn : Func} {vf : VF} (h : stripF0 P fn = some vf) : ∃ c, fn.body = some c ∧ Sim P fn.ntmps c vf.body ∧ stripR P fn.results.toList = some vf.results := by
  unfold stripF0 at h
  split at h
  · cases h
  · rename_i c hc
    split at h
    · rename_i v r hv hr
      cases h
      exact ⟨c, hc, stripC_sim hv, hr⟩
    · cases h

theorem stripF1_ok {P : Program} {fn : Func} {vf : VF} (h : stripF1 P fn = some vf) : ∃ c, fn.body = some c ∧ Sim P fn.ntmps c vf.body ∧ stripR P fn.results.toList = some vf.results := by
  unfold stripF1 at h
  rw [Option.map_eq_some_iff] at h
  obtain ⟨v, h1, rfl⟩ := h
  obtain ⟨c, h2, h3, h4⟩ := stripF_ok h1
  exact ⟨c, h2, markGc_sim h3, h4⟩

theorem env_of : ∀ (args : List V) (i t : Nat), (envOf i args).get t = if i ≤ t then args.getD (t - i) .un else .un
  | [], i, t => by simp [envOf, Env.get]
  | v :: args, i, t => by
    simp only [envOf, Env.get, env_of args (i + 1) t]
    by_cases h : i = t
    · subst h; simp
    · rw [if_neg h]
      by_cases h1 : i ≤ t
      · rw [if_pos h1, if_pos (by omega)]
        obtain ⟨d, rfl⟩ : ∃ d, t = i + 1 + d := ⟨t - (i + 1), by omega⟩
        rw [show i + 1 + d - (i + 1) = d by omega, show i + 1 + d - i = d + 1 by omega]
        rfl
      · rw [if_neg h1, if_neg (by omega)]

theorem entry_inv {H : Array Obj} {fn : Func} {g : G} {w : World} {hl : List VO} {args : List V} {us : Array Value} (hE : Ent H g w hl) (hA : Args g w args us) : InvS H Dfr.no g w hl fn.ntmps ⟨envOf 0 args, hl, []⟩ { tmps := us ++ Array.replicate (fn.ntmps - us.size) undef, defers := [] } w := by
  refine ⟨g, hE.rel, Step.refl g w, rfl, hE.laid, hE.dom, hE.h, fun k _ => ⟨rfl, rfl⟩, fun t => ?_, by simp; omega, DefR.no, Nat.le_refl _, fun k _ _ => rfl⟩
  rw [env_of]
  simp only [Nat.zero_le, if_true, Nat.sub_zero]
  rcases Nat.lt_or_ge t args.length with ht | ht
  · have hx : args[t]? = some args[t] := List.getElem?_eq_getElem ht
    have hu : us[t]? = some (us[t]'(by rw [hA.1]; exact ht)) := Array.getElem?_eq_getElem _
    have := hA.2 t _ _ hx hu
    rw [List.getD_eq_getElem?_getD, hx]
    have e1 : Act.eval { tmps := us ++ Array.replicate (fn.ntmps - us.size) undef, defers := [] } (.tmp t) = us[t]'(by rw [hA.1]; exact ht) := by
      have hus : t < us.size := by rw [hA.1]; exact ht
      simp [Act.eval, Array.getD_eq_getD_getElem?, Array.getElem?_append, hus]
    rw [e1]
    exact this
  · rw [List.getD_eq_getElem?_getD, List.getElem?_eq_none ht]
    exact .un _

theorem callN_ok {P : Program} {H : Array Obj} {C : Ctx} (hm : P.follows .mixedOrders = true) (hC : CtxOk P H C) : ∀ n, CallOk P H (callN C n)
  | 0 => fun f args hl r h => by simp [callN] at h
  | n + 1 => by
    intro f args hl r h g w us hE hA
    unfold callN at h
    split at h
    · rename_i r' hr'
      cases h
      exact hC.memo f args hl _ hr' g w us hE hA
    split at h
    · rename_i nf hnf
      exact hC.nat f nf hnf _ (callN_ok hm hC n) args hl r h g w us hE hA
    · split at h
      · cases h
      · rename_i vf hvf
        obtain ⟨fn, c, h1, h2, h3, h4, h5⟩ := hC.code f vf hvf
        left
        have h3' : ¬ fn.name = "runtime.NumGoroutine" := by simpa using h3
        refine ⟨by simp [callFunc, h1, h2, h3'], calls_of_wp h1 h2 ?_⟩
        have I0 : InvS H Dfr.no g w hl fn.ntmps ⟨envOf 0 args, hl, []⟩ { tmps := us ++ Array.replicate (fn.ntmps - us.size) undef, defers := [] } w := entry_inv hE hA
        split at h
        · -- it throws
          rename_i v s' hrun
          cases h
          refine run_ok hm (callN_ok hm hC n) hE h4 _ s' (.pan v) _ _ w (.inl rfl) hrun I0 ?_
          rintro a' w' u hp ⟨g', I⟩
          exact ⟨I.noDefers, v, g', u, rfl, rfl, hp, ⟨I.rel, I.step, I.X⟩⟩
        · rename_i s' hrun
          split at h
          · rename_i vs hvs
            refine run_ok hm (callN_ok hm hC n) hE h4 _ s' .normal _ _ w (.inl rfl) hrun I0 ?_
            rintro a' w' ⟨g', I⟩
            obtain ⟨u, k1, k2⟩ := results_ok (P := P) I h5 hvs
            exact ⟨I.noDefers, u, k1, finish_ok hE I k2 h⟩
          · cases h
        · rename_i s' hrun
          split at h
          · rename_i vs hvs
            refine run_ok hm (callN_ok hm hC n) hE h4 _ s' .ret _ _ w (.inl rfl) hrun I0 ?_
            rintro a' w' ⟨g', I⟩
            obtain ⟨u, k1, k2⟩ := results_ok (P := P) I h5 hvs
            exact ⟨I.noDefers, u, k1, finish_ok hE I k2 h⟩
          · cases h
        · cases h
end Go.Pv
namespace Go.Pv
variable [Sy]
/-! Whether two are the same, as a plain test. -/
mutual
def V.same : V → V → Bool
  | .un, .un => true
  | .bool a, .bool b => a == b
  | .int k a, .int l b => decide (k = l) && decide (a = b)
  | .str a, .str b => decide (a = b)
  | .nilp, .nilp => true
  | .ptr a b, .ptr c d => Nat.beq a c && Nat.beq b d
  | .ip a, .ip b => sameVs a b
  | .nils, .nils => true
  | .sl a b c d, .sl a' b' c' d' => Nat.beq a a' && Nat.beq b b' && Nat.beq c c' && decide (d = d')
  | .is a b, .is c d => sameVss a c && b == d
  | .nilm, .nilm => true
  | .mp a, .mp b => Nat.beq a b
  | .im a, .im b => sameVp a b
  | .fn f a b, .fn g c d => Nat.beq f g && sameVs a c && sameVs b d
  | .nilf, .nilf => true
  | .ifc t v, .ifc u w => Nat.beq t u && V.same v w
  | .nili, .nili => true
  | .agg a, .agg b => sameVs a b
  | .tup a, .tup b => sameVs a b
  | .tm k a, .tm l b => decide (k = l) && decide (a = b)
  | .ct a, .ct b => decide (a = b)
  | .cb a, .cb b => decide (a = b)
  | .it a k, .it b l => sameVss a b && Nat.beq k l
  | .iv k a b c p, .iv l d e f q => decide (k = l) && Nat.beq a d && Nat.beq b e && Nat.beq c f && Nat.beq p q
  | _, _ => false
def sameVs : List V → List V → Bool
  | [], [] => true
  | a :: r, b :: q => V.same a b && sameVs r q
  | _, _ => false
def sameVss : List (List V) → List (List V) → Bool
  | [], [] => true
  | a :: r, b :: q => sameVs a b && sameVss r q
  | _, _ => false
def sameVp : List (V × V) → List (V × V) → Bool
  | [], [] => true
  | (a, b) :: r, (c, d) :: q => V.same a c && V.same b d && sameVp r q
  | _, _ => false
end
mutual
theorem V.same_eq : ∀ a b : V, V.same a b = true → a = b
  | .un, b, h => by cases b <;> simp_all [V.same]
  | .bool _, b, h => by cases b <;> simp_all [V.same]
  | .int _ _, b, h => by cases b <;> simp_all [V.same]
  | .str _, b, h => by cases b <;> simp_all [V.same]
  | .nilp, b, h => by cases b <;> simp_all [V.same]
  | .ptr _ _, b, h => by cases b <;> simp_all [V.same]
  | .ip x, b, h => by cases b <;> simp_all [V.same]; exact sameVs_eq _ _ h
  | .nils, b, h => by cases b <;> simp_all [V.same]
  | .sl _ _ _ _, b, h => by cases b <;> simp_all [V.same]
  | .is x _, b, h => by
    cases b <;> simp_all [V.same]
    exact sameVss_eq _ _ h.1
  | .iv k x y z p, b, h => by cases b <;> simp_all [V.same]
  | .nilm, b, h => by cases b <;> simp_all [V.same]
  | .mp _, b, h => by cases b <;> simp_all [V.same]
  | .im x, b, h => by cases b <;> simp_all [V.same]; exact sameVp_eq _ _ h
  | .fn _ _ _, b, h => by
    cases b <;> simp_all [V.same]
    exact ⟨sameVs_eq _ _ h.1.2, sameVs_eq _ _ h.2⟩
  | .nilf, b, h => by cases b <;> simp_all [V.same]
  | .ifc _ v, b, h => by
    cases b <;> simp_all [V.same]
    exact V.same_eq _ _ h.2
  | .nili, b, h => by cases b <;> simp_all [V.same]
  | .agg x, b, h => by cases b <;> simp_all [V.same]; exact sameVs_eq _ _ h
  | .tup x, b, h => by cases b <;> simp_all [V.same]; exact sameVs_eq _ _ h
  | .tm k x, b, h => by cases b <;> simp_all [V.same]
  | .ct x, b, h => by cases b <;> simp_all [V.same]
  | .cb x, b, h => by cases b <;> simp_all [V.same]
  | .it x k, b, h => by
    cases b <;> simp_all [V.same]
    exact sameVss_eq _ _ h.1
theorem sameVs_eq : ∀ a b : List V, sameVs a b = true → a = b
  | [], b, h => by cases b <;> simp_all [sameVs]
  | x :: r, b, h => by
    cases b <;> simp_all [sameVs]
    exact ⟨V.same_eq _ _ h.1, sameVs_eq _ _ h.2⟩
theorem sameVss_eq : ∀ a b : List (List V), sameVss a b = true → a = b
  | [], b, h => by cases b <;> simp_all [sameVss]
  | x :: r, b, h => by
    cases b <;> simp_all [sameVss]
    exact ⟨sameVs_eq _ _ h.1, sameVss_eq _ _ h.2⟩
theorem sameVp_eq : ∀ a b : List (V × V), sameVp a b = true → a = b
  | [], b, h => by cases b <;> simp_all [sameVp]
  | (x, y) :: r, b, h => by
    cases b with
    | nil => simp [sameVp] at h
    | cons p q =>
      obtain ⟨c, d⟩ := p
      simp only [sameVp, Bool.and_eq_true] at h
      rw [V.same_eq _ _ h.1.1, V.same_eq _ _ h.1.2, sameVp_eq _ _ h.2]
end
mutual
theorem V.same_refl : ∀ a : V, V.same a a = true
  | .ip x | .agg x | .tup x => by simp [V.same, sameVs_refl x]
  | .is x _ => by simp [V.same, sameVss_refl x]
  | .im x => by simp [V.same, sameVp_refl x]
  | .fn _ x y => by simp [V.same, sameVs_refl x, sameVs_refl y]
  | .ifc _ v => by simp [V.same, V.same_refl v]
  | .un | .bool _ | .int _ _ | .str _ | .nilp | .ptr _ _ | .nils | .sl _ _ _ _ | .nilm | .mp _ | .nilf | .nili | .tm _ _ | .ct _ | .cb _ => by simp [V.same]
  | .it x _ => by simp [V.same, sameVss_refl x]
  | .iv _ _ _ _ _ => by simp [V.same]
theorem sameVs_refl : ∀ a : List V, sameVs a a = true
  | [] => by simp [sameVs, sameVss, sameVp]
  | x :: r => by simp [sameVs, V.same_refl x, sameVs_refl r]
theorem sameVss_refl : ∀ a : List (List V), sameVss a a = true
  | [] => by simp [sameVs, sameVss, sameVp]
  | x :: r => by simp [sameVss, sameVs_refl x, sameVss_refl r]
theorem sameVp_refl : ∀ a : List (V × V), sameVp a a = true
  | [] => by simp [sameVs, sameVss, sameVp]
  | (x, y) :: r => by simp [sameVp, V.same_refl x, V.same_refl y, sameVp_refl r]
end
instance : DecidableEq V := fun a b => if h : V.same a b = true then .isTrue (V.same_eq a b h) else .isFalse fun e => h (e ▸ V.same_refl a)
deriving instance DecidableEq for VO
deriving instance DecidableEq for CRes
deriving instance DecidableEq for Od
deriving instance DecidableEq for Cv
deriving instance DecidableEq for VOp
deriving instance DecidableEq for VOper
deriving instance DecidableEq for VC
deriving instance DecidableEq for RV
deriving instance DecidableEq for VF
end Go.Pv
