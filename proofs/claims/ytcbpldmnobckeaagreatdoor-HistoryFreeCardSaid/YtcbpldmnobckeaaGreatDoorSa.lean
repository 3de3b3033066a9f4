/- The search for an order, at calls that may be left out. -/
import Derived.Test.YtcbpldmnobckeaaGreatDoorVe
import Derived.Test.YtcbpldmnobckeaaGreatDoorCa
set_option linter.unusedSimpArgs false
set_option linter.unusedVariables false
namespace Go.Pv
/-! Runs with unknowns. -/
def outC (keep : Nat) (m0 : Nat) (rs : List RV) : Option (Ex × St) → Option CRes
  | some (.pan v, _) => some (.pan v)
  | some (.normal, s) => outD keep m0 rs s
  | some (.ret, s) => outD keep m0 rs s
  | _ => none
theorem callN_code {C : Ctx} {n : Nat} {f : FuncId} {args : List V} {h : List VO} {vf : VF} (h1 : C.memo f args h = none) (h2 : C.nat f = none) (h3 : C.code f = some vf) :
    callN C (n + 1) f args h = outC (C.keep f) h.length vf.results (run (callN C n) n h.length vf.body ⟨envOf 0 args, h, []⟩) := by
  simp only [callN, h1, h2, h3]
  split <;> simp_all [outC, outD] <;> rfl
end Go.Pv
namespace Go.Pv
set_option maxHeartbeats 4000000
set_option maxRecDepth 100000
def rnd (call : Callf) (n m0 : Nat) (b : VC) (live : List Nat) (s : St) : Option St :=
  match run call n m0 b s with
  | some (.normal, s') => gcS m0 live s'
  | _ => none
theorem refsL_app : ∀ (a b : List V), V.refs.refsL (a ++ b) = V.refs.refsL a ++ V.refs.refsL b
  | [], b => by simp [V.refs.refsL]
  | v :: a, b => by simp [V.refs.refsL, refsL_app a b]
theorem renL_app (f : Nat → Nat) : ∀ (a b : List V), V.ren.renL f (a ++ b) = V.ren.renL f a ++ V.ren.renL f b
  | [], b => by simp [V.ren.renL]
  | v :: a, b => by simp [V.ren.renL, renL_app f a b]
mutual
theorem ren_flat (f : Nat → Nat) : ∀ v : V, v.refs = [] → v.ren f = v
  | .ptr _ _, h | .sl _ _ _ _, h | .mp _, h => by simp [V.refs] at h
  | .fn _ a b, h => by
    simp only [V.refs, List.append_eq_nil_iff] at h
    simp [V.ren, renL_flat f a h.1, renL_flat f b h.2]
  | .ifc _ v, h => by simp [V.ren, ren_flat f v (by simpa [V.refs] using h)]
  | .agg l, h => by simp [V.ren, renL_flat f l (by simpa [V.refs] using h)]
  | .tup l, h => by simp [V.ren, renL_flat f l (by simpa [V.refs] using h)]
  | .un, _ | .bool _, _ | .int _ _, _ | .str _, _ | .nilp, _ | .ip _, _ | .nils, _ | .is _ _, _ | .nilm, _ | .im _, _ | .nilf, _ | .nili, _ => by simp [V.ren]
theorem renL_flat (f : Nat → Nat) : ∀ l : List V, V.refs.refsL l = [] → V.ren.renL f l = l
  | [], _ => by simp [V.ren.renL]
  | v :: l, h => by
    simp only [V.refs.refsL, List.append_eq_nil_iff] at h
    simp [V.ren.renL, ren_flat f v h.1, renL_flat f l h.2]
end
/-- A map of numbers. -/
def nums (l : List (Int × Int)) : List (V × V) := l.map fun p => (.int .i64 p.1, .int .i64 p.2)
theorem nums_refs (l : List (Int × Int)) : ((nums l).flatMap fun e => e.1.refs ++ e.2.refs) = [] := by
  simp [nums, List.flatMap_map, V.refs]
theorem nums_ren (f : Nat → Nat) (l : List (Int × Int)) : ((nums l).map fun e => (e.1.ren f, e.2.ren f)) = nums l := by
  simp [nums, V.ren]
theorem nums_add (l : List (Int × Int)) (a b : Int) : nums l ++ [(.int .i64 a, .int .i64 b)] = nums (l ++ [(a, b)]) := by simp [nums]
theorem nums_set (l : List (Int × Int)) (q : Nat) (a b : Int) : (nums l).set q (.int .i64 a, .int .i64 b) = nums (l.set q (a, b)) := by
  simp [nums, List.map_set]
/-- An event that makes a call: the round lays it. -/
theorem it14_call (call : Callf) (n i j k : Nat) (cs al : List V) (es : List (Int × Int)) (c ki ss sq ve vk vn re rn rk rv : Int) (fd vs rs : List UInt8)
    (hcs : (cs.drop (i * 15)).take 15 = [.int .i64 c, .bool false, .int .i64 ki, .int .i64 ss, .int .i64 sq, .str fd, .int .i64 ve, .int .i64 vk, .int .i64 vn, .str vs, .int .i64 re, .int .i64 rn, .int .i64 rk, .int .i64 rv, .str rs])
    (hl : i * 15 + 15 ≤ cs.length) (hi : i < k) (hk1 : ¬ ki < 2) (hk2 : ¬ 4 < ki) (hr : V.refs.refsL cs = []) (has : V.refs.refsL al = [])
    (hf : findM (.int .i64 c) (nums es) 0 = some none) (hw : IntKind.i64.wrap ((i : Int) + 1) = (i : Int) + 1) (hal : al.length = j * 15) (hj : j < 100) (ws : List Nat) :
    rnd call n 1 l14_0 [999999, 12, 11, 10, 5, 4] ⟨[(999999, .un), (12, .int .i64 i), (11, .int .i64 k), (10, .sl 0 0 k none), (5, .mp 1), (4, .sl 2 0 j none)], [.cells cs 15, .map (nums es), .cells al 15], ws⟩ =
      some ⟨[(999999, .un), (12, .int .i64 ((i : Int) + 1)), (11, .int .i64 k), (10, .sl 0 0 k none), (5, .mp 1), (4, .sl 2 0 (j + 1) none)], [.cells cs 15, .map (nums (es ++ [(c, (j : Int) + 1)])), .cells (al ++ [.int .i64 ((i : Int) + 1), .int .i64 0, .int .i64 ki, .int .i64 ss, .int .i64 sq, .str fd, .int .i64 ve, .int .i64 vk, .int .i64 vn, .str vs, .int .i64 0, .int .i64 0, .int .i64 0, .int .i64 0, .str []]) 15], ws⟩ := by
  have hi0 : ((i : Int) < 0) = False := by
    simp only [eq_iff_iff, iff_false]; omega
  have hb : (j + 1) * 144 ≤ 70368744177664 := by omega
  have hb2 : j ≤ 70368744177663 := by omega
  unfold rnd
  simp (config := { maxSteps := 200000 }) [l14_0, run, runR, wantedV, vop, v_mov, v_bin, v_pick, v_iad, v_load, v_new, v_store, v_fad, v_look, v_una, vbin, vun, sameV, Od.ev, Env.get, ok1, putE, applyU, addWs, chkU, hi, V.cells?, loadC, shapeOf, hcs, hl, hi0, keyOk, hf, setSeg, hk1, hk2, v_build, fillP, v_buildS, v_app, sliceC, maxBytes, v_len, v_mset, hw, hb, hb2, hal, gcS, gcA, reach, closed, V.refs, V.refs.refsL, VO.refs, V.ren, V.ren.renL, VO.ren, hr, has, nums_refs, nums_ren, nums_add, refsL_app, renL_app, renL_flat _ _ hr, renL_flat _ _ has]
  exact ⟨rfl, rfl⟩
end Go.Pv
namespace Go.Pv
set_option maxHeartbeats 4000000
set_option maxRecDepth 100000
theorem setSeg0 (l vs : List V) : setSeg l 0 vs = vs ++ l.drop vs.length := by simp [setSeg]
theorem setSegS (a : V) (l vs : List V) (o : Nat) : setSeg (a :: l) (o + 1) vs = a :: setSeg l o vs := by
  have : o + 1 + vs.length = (o + vs.length) + 1 := by omega
  simp [setSeg, this]
theorem setSeg_app (al r : List V) (o : Nat) (vs : List V) : setSeg (al ++ r) (al.length + o) vs = al ++ setSeg r o vs := by
  induction al with
  | nil => simp
  | cons x al ih =>
    have : (x :: al).length + o = (al.length + o) + 1 := by simp; omega
    rw [this, List.cons_append, setSegS, ih, List.cons_append]
/-- The first one. -/
theorem it14_first (call : Callf) (n i k : Nat) (cs : List V) (es : List (Int × Int)) (c ki ss sq ve vk vn re rn rk rv : Int) (fd vs rs : List UInt8)
    (hcs : (cs.drop (i * 15)).take 15 = [.int .i64 c, .bool false, .int .i64 ki, .int .i64 ss, .int .i64 sq, .str fd, .int .i64 ve, .int .i64 vk, .int .i64 vn, .str vs, .int .i64 re, .int .i64 rn, .int .i64 rk, .int .i64 rv, .str rs])
    (hl : i * 15 + 15 ≤ cs.length) (hi : i < k) (hk1 : ¬ ki < 2) (hk2 : ¬ 4 < ki) (hr : V.refs.refsL cs = [])
    (hf : findM (.int .i64 c) (nums es) 0 = some none) (hw : IntKind.i64.wrap ((i : Int) + 1) = (i : Int) + 1) (ws : List Nat) :
    rnd call n 1 l14_0 [999999, 12, 11, 10, 5, 4] ⟨[(999999, .un), (12, .int .i64 i), (11, .int .i64 k), (10, .sl 0 0 k none), (5, .mp 1), (4, .nils)], [.cells cs 15, .map (nums es)], ws⟩ =
      some ⟨[(999999, .un), (12, .int .i64 ((i : Int) + 1)), (11, .int .i64 k), (10, .sl 0 0 k none), (5, .mp 1), (4, .sl 2 0 1 none)], [.cells cs 15, .map (nums (es ++ [(c, 1)])), .cells ([.int .i64 ((i : Int) + 1), .int .i64 0, .int .i64 ki, .int .i64 ss, .int .i64 sq, .str fd, .int .i64 ve, .int .i64 vk, .int .i64 vn, .str vs, .int .i64 0, .int .i64 0, .int .i64 0, .int .i64 0, .str []]) 15], ws⟩ := by
  have hi0 : ((i : Int) < 0) = False := by
    simp only [eq_iff_iff, iff_false]; omega
  unfold rnd
  simp (config := { maxSteps := 200000 }) [l14_0, run, runR, wantedV, vop, v_mov, v_bin, v_pick, v_iad, v_load, v_new, v_store, v_fad, v_look, v_una, vbin, vun, sameV, Od.ev, Env.get, ok1, putE, applyU, addWs, chkU, hi, V.cells?, loadC, shapeOf, hcs, hl, hi0, keyOk, hf, setSeg, hk1, hk2, v_build, fillP, v_buildS, v_app, sliceC, maxBytes, v_len, v_mset, hw, gcS, gcA, reach, closed, V.refs, V.refs.refsL, VO.refs, V.ren, V.ren.renL, VO.ren, hr, nums_refs, nums_ren, nums_add, refsL_app, renL_app, renL_flat _ _ hr]
  exact ⟨rfl, rfl⟩

/-- An event that answers the last call. -/
theorem it14_ans (call : Callf) (n i j q k : Nat) (cs al : List V) (es : List (Int × Int)) (c ki ss sq ve vk vn re rn rk rv : Int) (fd vs rs : List UInt8) (r0 r1 r2 r3 r4 r6 r7 r8 : Int) (r5 r9 : List UInt8) (a0 a1 a2 a3 : Int) (a4 : List UInt8)
    (hcs : (cs.drop (i * 15)).take 15 = [.int .i64 c, .bool true, .int .i64 ki, .int .i64 ss, .int .i64 sq, .str fd, .int .i64 ve, .int .i64 vk, .int .i64 vn, .str vs, .int .i64 re, .int .i64 rn, .int .i64 rk, .int .i64 rv, .str rs])
    (hl : i * 15 + 15 ≤ cs.length) (hi : i < k) (hr : V.refs.refsL cs = []) (has : V.refs.refsL al = [])
    (hf : findM (.int .i64 c) (nums es) 0 = some (some (q, .int .i64 ((j : Int) + 1)))) (hw : IntKind.i64.wrap ((i : Int) + 1) = (i : Int) + 1) (hwj : IntKind.i64.wrap (j : Int) = (j : Int)) (hal : al.length = j * 15) (hj : j < 100) (ws : List Nat) :
    rnd call n 1 l14_0 [999999, 12, 11, 10, 5, 4] ⟨[(999999, .un), (12, .int .i64 i), (11, .int .i64 k), (10, .sl 0 0 k none), (5, .mp 1), (4, .sl 2 0 (j + 1) none)], [.cells cs 15, .map (nums es), .cells (al ++ [.int .i64 r0, .int .i64 r1, .int .i64 r2, .int .i64 r3, .int .i64 r4, .str r5, .int .i64 r6, .int .i64 r7, .int .i64 r8, .str r9, .int .i64 a0, .int .i64 a1, .int .i64 a2, .int .i64 a3, .str a4]) 15], ws⟩ =
      some ⟨[(999999, .un), (12, .int .i64 ((i : Int) + 1)), (11, .int .i64 k), (10, .sl 0 0 k none), (5, .mp 1), (4, .sl 2 0 (j + 1) none)], [.cells cs 15, .map (nums (es.set q (c, 0))), .cells (al ++ [.int .i64 r0, .int .i64 ((i : Int) + 1), .int .i64 r2, .int .i64 r3, .int .i64 r4, .str r5, .int .i64 r6, .int .i64 r7, .int .i64 r8, .str r9, .int .i64 re, .int .i64 rn, .int .i64 rk, .int .i64 rv, .str rs]) 15], ws⟩ := by
  have hi0 : ((i : Int) < 0) = False := by
    simp only [eq_iff_iff, iff_false]; omega
  have hj0 : ((j : Int) < 0) = False := by
    simp only [eq_iff_iff, iff_false]; omega
  have hset : ∀ (r : List V) (o : Nat) (vs : List V), setSeg (al ++ r) (j * 15 + o) vs = al ++ setSeg r o vs := fun r o vs => by rw [← hal]; exact setSeg_app al r o vs
  have hj1 : (0 : Int) < (j : Int) + 1 := by omega
  unfold rnd
  simp (config := { maxSteps := 200000 }) [l14_0, run, runR, wantedV, vop, v_mov, v_bin, v_pick, v_iad, v_load, v_new, v_store, v_fad, v_look, v_una, vbin, vun, sameV, Od.ev, Env.get, ok1, putE, applyU, addWs, chkU, hi, V.cells?, loadC, shapeOf, hcs, hl, hi0, keyOk, hf, setSeg0, setSegS, hset, v_build, fillP, v_buildS, v_app, sliceC, maxBytes, v_len, v_mset, hw, hwj, hj0, hj1, hal, gcS, gcA, reach, closed, V.refs, V.refs.refsL, VO.refs, V.ren, V.ren.renL, VO.ren, hr, has, nums_refs, nums_ren, nums_set, compat, disj, refsL_app, renL_app, renL_flat _ _ hr, renL_flat _ _ has]
  exact ⟨rfl, rfl⟩
end Go.Pv
namespace Go.Pv
/-! What a history's calls are. -/
structure Cd where
  ki : Int
  ss : Int
  sq : Int
  fd : List UInt8
  ve : Int
  vk : Int
  vn : Int
  vs : List UInt8
structure Rp where
  re : Int
  rn : Int
  rk : Int
  rv : Int
  rs : List UInt8
def Cd.cells (d : Cd) : List V := [.int .i64 d.ki, .int .i64 d.ss, .int .i64 d.sq, .str d.fd, .int .i64 d.ve, .int .i64 d.vk, .int .i64 d.vn, .str d.vs]
def Rp.cells (r : Rp) : List V := [.int .i64 r.re, .int .i64 r.rn, .int .i64 r.rk, .int .i64 r.rv, .str r.rs]
def Rp.zero : Rp := ⟨0, 0, 0, 0, []⟩
def evC (c : Int) (b : Bool) (d : Cd) (r : Rp) : List V := [.int .i64 c, .bool b] ++ d.cells ++ r.cells
/-- A call, and its answer. -/
structure It where
  c : Int
  d : Cd
  r0 : Rp
  a : Option (Cd × Rp)
def It.evs (t : It) : List (List V) := evC t.c false t.d t.r0 :: (match t.a with | some (d, r) => [evC t.c true d r] | none => [])
def It.rc (i : Nat) (t : It) : List V := match t.a with
  | some (_, r) => [.int .i64 ((i : Int) + 1), .int .i64 ((i : Int) + 1 + 1)] ++ t.d.cells ++ r.cells
  | none => [.int .i64 ((i : Int) + 1), .int .i64 0] ++ t.d.cells ++ Rp.zero.cells
def recsOf : Nat → List It → List (List V)
  | _, [] => []
  | i, t :: r => t.rc i :: recsOf (i + t.evs.length) r
def It.left (t : It) (p : Nat) : Int × Int := (t.c, if t.a.isSome then 0 else (p : Int) + 1)
def leftOf : Nat → List It → List (Int × Int)
  | _, [] => []
  | p, t :: r => t.left p :: leftOf (p + 1) r

theorem evC_len (c : Int) (b : Bool) (d : Cd) (r : Rp) : (evC c b d r).length = 15 := rfl
theorem evs_len (t : It) : ∀ y ∈ t.evs, y.length = 15 := by
  intro y hy
  unfold It.evs at hy
  rcases List.mem_cons.1 hy with rfl | hy
  · rfl
  · split at hy
    · simp at hy; subst hy; rfl
    · simp at hy
theorem rec_len (i : Nat) (t : It) : (t.rc i).length = 15 := by
  unfold It.rc
  split <;> rfl

theorem findM_none {c : Int} : ∀ (l : List (Int × Int)) (q : Nat), (∀ p ∈ l, p.1 ≠ c) → findM (.int .i64 c) (nums l) q = some none
  | [], q, _ => rfl
  | (a, b) :: l, q, h => by
    have h1 : ¬ c = a := fun e => h (a, b) (by simp) e.symm
    have := findM_none l (q + 1) fun p hp => h p (by simp [hp])
    simp only [nums, List.map_cons, findM, if_true, if_neg h1] at this ⊢
    exact this
theorem findM_last {c v : Int} : ∀ (l : List (Int × Int)) (q : Nat), (∀ p ∈ l, p.1 ≠ c) → findM (.int .i64 c) (nums (l ++ [(c, v)])) q = some (some (q + l.length, .int .i64 v))
  | [], q, _ => by simp [nums, findM]
  | (a, b) :: l, q, h => by
    have h1 : ¬ c = a := fun e => h (a, b) (by simp) e.symm
    have := findM_last (v := v) l (q + 1) fun p hp => h p (by simp [hp])
    simp only [nums, List.cons_append, List.map_cons, findM, if_true, if_neg h1] at this ⊢
    rw [this]
    simp; omega

def tEnv (i j k : Nat) : Env := [(999999, .un), (12, .int .i64 i), (11, .int .i64 k), (10, .sl 0 0 k none), (5, .mp 1), (4, if j = 0 then .nils else .sl 2 0 j none)]
def tHeap (j : Nat) (cs al : List V) (es : List (Int × Int)) : List VO := [.cells cs 15, .map (nums es)] ++ (if j = 0 then [] else [.cells al 15])
def tSt (i j k : Nat) (cs al : List V) (es : List (Int × Int)) (ws : List Nat) : St := ⟨tEnv i j k, tHeap j cs al es, ws⟩

theorem wrap_nat {i : Nat} (h : i < 2 ^ 62) : IntKind.wrap .i64 (i : Int) = (i : Int) := IntWalk.i64_in _ (by omega)

/-- One call, and its answer. -/
theorem item14 (call : Callf) (n i j k : Nat) (cs al : List V) (es : List (Int × Int)) (t : It) (rest : List V) (ws : List Nat)
    (hcs : cs.drop (i * 15) = t.evs.flatten ++ rest) (hik : i + t.evs.length ≤ k) (hk : k < 2 ^ 62) (hk1 : ¬ t.d.ki < 2) (hk2 : ¬ 4 < t.d.ki) (hr : V.refs.refsL cs = []) (has : V.refs.refsL al = []) (hal : al.length = j * 15) (hj : j < 100) (h0 : j = 0 → al = [] ∧ es = [])
    (hne : ∀ p ∈ es, p.1 ≠ t.c) :
    (t.a = none → rnd call n 1 l14_0 [999999, 12, 11, 10, 5, 4] (tSt i j k cs al es ws) = some (tSt (i + 1) (j + 1) k cs (al ++ t.rc i) (es ++ [t.left j]) ws)) ∧
    (t.a.isSome → ∃ T, rnd call n 1 l14_0 [999999, 12, 11, 10, 5, 4] (tSt i j k cs al es ws) = some T ∧ rnd call n 1 l14_0 [999999, 12, 11, 10, 5, 4] T = some (tSt (i + 2) (j + 1) k cs (al ++ t.rc i) (es ++ [t.left j]) ws)) := by
  have hlen : i * 15 + 15 ≤ cs.length := by
    have := congrArg List.length hcs
    simp only [List.length_drop, It.evs, List.flatten_cons, List.length_append, evC_len] at this
    omega
  have e1 : (cs.drop (i * 15)).take 15 = evC t.c false t.d t.r0 := by
    rw [hcs, It.evs, List.flatten_cons, List.append_assoc, List.take_left' (evC_len _ _ _ _)]
  have first : rnd call n 1 l14_0 [999999, 12, 11, 10, 5, 4] (tSt i j k cs al es ws) = some (tSt (i + 1) (j + 1) k cs (al ++ ([.int .i64 ((i : Int) + 1), .int .i64 0] ++ t.d.cells ++ Rp.zero.cells)) (es ++ [(t.c, (j : Int) + 1)]) ws) := by
    have hi : i < k := by simp [It.evs] at hik; omega
    have hw : IntKind.i64.wrap ((i : Int) + 1) = (i : Int) + 1 := wrap_nat (i := i + 1) (by omega)
    rcases Nat.eq_zero_or_pos j with hj0 | hj0
    · subst hj0
      obtain ⟨rfl, rfl⟩ := h0 rfl
      have := it14_first call n i k cs [] t.c t.d.ki t.d.ss t.d.sq t.d.ve t.d.vk t.d.vn t.r0.re t.r0.rn t.r0.rk t.r0.rv t.d.fd t.d.vs t.r0.rs e1 hlen hi hk1 hk2 hr rfl hw ws
      simpa [tSt, tEnv, tHeap, Cd.cells, Rp.cells, Rp.zero] using this
    · have hj0' : j ≠ 0 := by omega
      have := it14_call call n i j k cs al es t.c t.d.ki t.d.ss t.d.sq t.d.ve t.d.vk t.d.vn t.r0.re t.r0.rn t.r0.rk t.r0.rv t.d.fd t.d.vs t.r0.rs e1 hlen hi hk1 hk2 hr has (findM_none es 0 hne) hw hal hj ws
      simpa [tSt, tEnv, tHeap, Cd.cells, Rp.cells, Rp.zero, hj0'] using this
  constructor
  · intro ha
    rw [first]
    simp [It.rc, It.left, ha]
  · intro ha
    obtain ⟨⟨d, r⟩, har⟩ := Option.isSome_iff_exists.1 ha
    refine ⟨_, first, ?_⟩
    have hi : i + 1 < k := by simp [It.evs, har] at hik; omega
    have hw : IntKind.i64.wrap (((i + 1 : Nat) : Int) + 1) = ((i + 1 : Nat) : Int) + 1 := wrap_nat (i := i + 2) (by omega)
    have hcs2 : cs.drop ((i + 1) * 15) = evC t.c true d r ++ rest := by
      have : (i + 1) * 15 = i * 15 + 15 := by omega
      rw [this, ← List.drop_drop, hcs, It.evs, har, List.flatten_cons, List.append_assoc, List.drop_left' (evC_len _ _ _ _)]
      simp
    have hlen2 : (i + 1) * 15 + 15 ≤ cs.length := by
      have := congrArg List.length hcs2
      simp only [List.length_drop, List.length_append, evC_len] at this
      omega
    have e2 : (cs.drop ((i + 1) * 15)).take 15 = evC t.c true d r := by rw [hcs2, List.take_left' (evC_len _ _ _ _)]
    have hf : findM (.int .i64 t.c) (nums (es ++ [(t.c, (j : Int) + 1)])) 0 = some (some (es.length, .int .i64 ((j : Int) + 1))) := by
      simpa using findM_last (v := (j : Int) + 1) es 0 hne
    have := it14_ans call n (i + 1) j es.length k cs al (es ++ [(t.c, (j : Int) + 1)]) t.c d.ki d.ss d.sq d.ve d.vk d.vn r.re r.rn r.rk r.rv d.fd d.vs r.rs ((i : Int) + 1) 0 t.d.ki t.d.ss t.d.sq t.d.ve t.d.vk t.d.vn t.d.fd t.d.vs 0 0 0 0 [] e2 hlen2 hi hr has hf hw (wrap_nat (by omega)) hal hj ws
    have hs : (es ++ [(t.c, (j : Int) + 1)]).set es.length (t.c, 0) = es ++ [(t.c, 0)] := by simp
    rw [hs] at this
    have h2 : ((i + 2 : Nat) : Int) = (i : Int) + 1 + 1 := by omega
    have h1' : ((i + 1 : Nat) : Int) = (i : Int) + 1 := by omega
    simp only [tSt, tEnv, tHeap, Cd.cells, Rp.cells, Rp.zero, It.rc, har, It.left, Nat.add_one_ne_zero, if_false, List.cons_append, List.nil_append, h2, h1', Option.isSome_some, if_true] at this ⊢
    exact this
end Go.Pv
namespace Go.Pv
set_option maxHeartbeats 4000000
set_option maxRecDepth 100000
/-! The loop, from one clean state to the next. -/
def iterG (body : St → Option (Ex × St)) (gc : St → Option St) (n : Nat) (T : St) : Option (Ex × St) :=
  match body T with
  | none => none
  | some (.normal, s') => iter body gc n s'
  | r => r
theorem iter_gc {body : St → Option (Ex × St)} {gc : St → Option St} {n : Nat} {s T : St} (h : gc s = some T) : iter body gc (n + 1) s = iterG body gc n T := by
  simp only [iter, h, iterG]
  split <;> simp_all
theorem iterG_rnd {call : Callf} {n m0 N : Nat} {b : VC} {live : List Nat} {T T' : St} (h : rnd call n m0 b live T = some T') : iterG (run call n m0 b) (gcS m0 live) (N + 1) T = iterG (run call n m0 b) (gcS m0 live) N T' := by
  unfold rnd at h
  split at h
  · rename_i s' hs
    rw [show iterG (run call n m0 b) (gcS m0 live) (N + 1) T = iter (run call n m0 b) (gcS m0 live) (N + 1) s' by simp only [iterG, hs], iter_gc h]
  · cases h

theorem evs_pos (t : It) : 1 ≤ t.evs.length := by simp [It.evs]
theorem evs_two (t : It) : t.evs.length = if t.a.isSome then 2 else 1 := by
  unfold It.evs
  cases t.a <;> simp

theorem flat_refs {d : Cd} {r : Rp} : V.refs.refsL (d.cells) = [] ∧ V.refs.refsL (r.cells) = [] := ⟨rfl, rfl⟩
theorem rc_refs (i : Nat) (t : It) : V.refs.refsL (t.rc i) = [] := by
  unfold It.rc
  split <;> rfl

theorem loop14 (call : Callf) (n k : Nat) (cs ex : List V) (ws : List Nat) (hk : k < 2 ^ 62) (hr : V.refs.refsL cs = []) : ∀ (its : List It) (i j N : Nat) (al : List V) (es : List (Int × Int)),
    cs.drop (i * 15) = (its.flatMap It.evs).flatten ++ ex → i + (its.flatMap It.evs).length = k → (∀ t ∈ its, ¬ t.d.ki < 2 ∧ ¬ 4 < t.d.ki) → V.refs.refsL al = [] → al.length = j * 15 → j + its.length < 100 → (j = 0 → al = [] ∧ es = []) →
    (∀ t ∈ its, ∀ p ∈ es, p.1 ≠ t.c) → its.Pairwise (fun a b => a.c ≠ b.c) → (its.flatMap It.evs).length ≤ N →
    iterG (run call n 1 l14_0) (gcS 1 [999999, 12, 11, 10, 5, 4]) N (tSt i j k cs al es ws) = some (.exit 0, ⟨(13, .bool false) :: tEnv k (j + its.length) k, tHeap (j + its.length) cs (al ++ (recsOf i its).flatten) (es ++ leftOf j its), ws⟩)
  | [], i, j, N, al, es, hcs, hik, _, _, _, _, _, _, _, _ => by
    simp at hik
    subst hik
    have : run call n 1 l14_0 (tSt i j i cs al es ws) = some (.exit 0, ⟨(13, .bool false) :: tEnv i j i, tHeap j cs al es, ws⟩) := by
      simp [l14_0, run, runR, wantedV, vop, v_bin, vbin, Od.ev, Env.get, ok1, putE, applyU, addWs, chkU, tSt, tEnv]
    simp [iterG, this, recsOf, leftOf]
  | t :: its, i, j, N, al, es, hcs, hik, hkk, has, hal, hj, h0, hne, hp, hN => by
    simp only [List.flatMap_cons, List.flatten_append, List.length_append, List.length_cons, List.pairwise_cons, List.append_assoc] at hcs hik hj hN hp
    have hi := item14 call n i j k cs al es t _ ws hcs (by omega) hk (hkk t (by simp)).1 (hkk t (by simp)).2 hr has hal (by omega) h0 (hne t (by simp))
    have hev : ∀ (l : List (List V)), (∀ y ∈ l, y.length = 15) → l.flatten.length = l.length * 15 := by
      intro l
      induction l with
      | nil => intro _; rfl
      | cons y l ih =>
        intro h
        simp only [List.flatten_cons, List.length_append, List.length_cons, ih fun y hy => h y (by simp [hy]), h y (by simp)]
        omega
    have hcs' : cs.drop ((i + t.evs.length) * 15) = (its.flatMap It.evs).flatten ++ ex := by
      have e : (i + t.evs.length) * 15 = i * 15 + t.evs.flatten.length := by rw [hev _ (evs_len t)]; omega
      rw [e, ← List.drop_drop, hcs, List.drop_left]
    have ih := fun N hN => loop14 call n k cs ex ws hk hr its (i + t.evs.length) (j + 1) N (al ++ t.rc i) (es ++ [t.left j]) hcs' (by omega) (fun t' ht' => hkk t' (by simp [ht'])) (by rw [refsL_app, has, rc_refs]; rfl)
      (by simp [hal, rec_len]; omega) (by omega) (fun h => by omega) (fun t' ht' p hp' => by
        rcases List.mem_append.1 hp' with hp' | hp'
        · exact hne t' (by simp [ht']) p hp'
        · simp at hp'
          subst hp'
          exact hp.1 t' ht') hp.2 hN
    have e3 : j + 1 + its.length = j + (its.length + 1) := by omega
    cases ha : t.a with
    | none =>
      have h1 := hi.1 ha
      have hl : t.evs.length = 1 := by rw [evs_two, ha]; rfl
      obtain ⟨N', rfl⟩ : ∃ N', N = N' + 1 := ⟨N - 1, by omega⟩
      rw [hl] at ih
      rw [iterG_rnd h1, ih N' (by omega), e3]
      simp [recsOf, leftOf, hl]
    | some p =>
      obtain ⟨T, h1, h2⟩ := hi.2 (by rw [ha]; rfl)
      have hl : t.evs.length = 2 := by rw [evs_two, ha]; rfl
      obtain ⟨N', rfl⟩ : ∃ N', N = N' + 1 + 1 := ⟨N - 2, by omega⟩
      rw [hl] at ih
      rw [iterG_rnd h1, iterG_rnd h2, ih N' (by omega), e3]
      simp [recsOf, leftOf, hl]

/-! What is handed back, frozen. -/
def leaf : V → Bool
  | .bool _ | .int _ _ | .str _ => true
  | _ => false
theorem frz_leaf (h : List VO) (m0 n : Nat) {v : V} (hv : leaf v = true) : frz h m0 (n + 1) v = some v := by
  cases v <;> simp_all [leaf, frz]
theorem mapM_id {α : Type} {f : α → Option α} : ∀ {l : List α}, (∀ x ∈ l, f x = some x) → l.mapM f = some l
  | [], _ => rfl
  | x :: l, h => by
    rw [List.mapM_cons, h x (by simp), mapM_id fun y hy => h y (by simp [hy])]
    rfl
theorem chunk_flat {e : Nat} : ∀ {l : List (List V)}, (∀ y ∈ l, y.length = e) → chunk e l.length l.flatten = l
  | [], _ => rfl
  | y :: l, h => by
    have hy := h y (by simp)
    simp only [List.length_cons, chunk, List.flatten_cons]
    rw [List.take_left' hy, List.drop_left' hy, chunk_flat fun z hz => h z (by simp [hz])]
theorem frz_recs {h : List VO} {m0 n k : Nat} {recs : List (List V)} (hk : ¬ k < m0) (hh : h.getD k .dead = .cells recs.flatten 15) (h15 : ∀ y ∈ recs, y.length = 15) (hl : ∀ y ∈ recs, ∀ v ∈ y, leaf v = true) :
    frz h m0 (n + 2) (.sl k 0 recs.length none) = some (.is recs false) := by
  have hlen : recs.flatten.length = recs.length * 15 := by
    clear hh hl
    induction recs with
    | nil => rfl
    | cons y l ih =>
      simp only [List.flatten_cons, List.length_append, List.length_cons, ih fun y hy => h15 y (by simp [hy]), h15 y (by simp)]
      omega
  have e : frz h m0 (n + 2) (.sl k 0 recs.length none) = ((chunk 15 recs.length recs.flatten).mapM fun (c : List V) => c.mapM (frz h m0 (n + 1))).map fun xs => .is xs ((none : Option Nat) == some recs.length) := by
    rw [frz]
    simp only [if_neg hk, hh, Nat.zero_add, hlen, Nat.le_refl, if_true, List.drop_zero]
  rw [e, chunk_flat h15]
  rw [mapM_id fun y hy => mapM_id fun v hv => frz_leaf h m0 n (hl y hy v hv)]
  rfl
theorem rc_leaf (i : Nat) (t : It) : ∀ v ∈ t.rc i, leaf v = true := by
  intro v hv
  unfold It.rc at hv
  split at hv <;> simp [Cd.cells, Rp.cells, Rp.zero] at hv <;> (rcases hv with rfl | rfl | rfl | rfl | rfl | rfl | rfl | rfl | rfl | rfl | rfl | rfl | rfl | rfl | rfl <;> rfl)
theorem recs_ok : ∀ (its : List It) (i : Nat), (recsOf i its).length = its.length ∧ (∀ y ∈ recsOf i its, y.length = 15) ∧ ∀ y ∈ recsOf i its, ∀ v ∈ y, leaf v = true
  | [], i => ⟨rfl, fun y h => by simp [recsOf] at h, fun y h => by simp [recsOf] at h⟩
  | t :: its, i => by
    obtain ⟨h1, h2, h3⟩ := recs_ok its (i + t.evs.length)
    refine ⟨by simp [recsOf, h1], ?_, ?_⟩
    · intro y hy
      rcases List.mem_cons.1 hy with rfl | hy
      · exact rec_len _ _
      · exact h2 y hy
    · intro y hy
      rcases List.mem_cons.1 hy with rfl | hy
      · exact rc_leaf _ _
      · exact h3 y hy
end Go.Pv
namespace Go.Pv
set_option maxHeartbeats 4000000
set_option maxRecDepth 100000
def r14a : VC := match c14.body with
  | .seq a (.seq b (.seq c (.seq (.seq d _) _))) => .seq a (.seq b (.seq c d))
  | _ => .skip
def r14b : VC := match c14.body with
  | .seq _ (.seq _ (.seq _ (.seq (.seq _ _) e))) => e
  | _ => .skip
def r14x : List VC := match c14.body with
  | .seq a (.seq b (.seq c (.seq (.seq d _) _))) => [a, b, c, d]
  | _ => []
theorem run_seq {call : Callf} {n m0 : Nat} {a b : VC} {s s1 : St} (h : run call n m0 a s = some (.normal, s1)) : run call n m0 (.seq a b) s = run call n m0 b s1 := by
  simp only [run, h]
theorem run_seq_inv {call : Callf} {n m0 : Nat} {a b : VC} {s s1 : St} (h : run call n m0 (.seq a b) s = some (.normal, s1)) : ∃ s2, run call n m0 a s = some (.normal, s2) ∧ run call n m0 b s2 = some (.normal, s1) := by
  simp only [run] at h
  split at h
  · rename_i s2 h2; exact ⟨s2, h2, h⟩
  · rename_i hne; exact absurd h (hne s1)
theorem run_block {call : Callf} {n m0 id : Nat} {c : VC} {s s1 : St} (h : run call n m0 c s = some (.exit id, s1)) : run call n m0 (.block id c) s = some (.normal, s1) := by
  simp only [run, h, if_true]
/-- The calls of a history, as they are handed back. -/
def allV (its : List It) : V := if its = [] then .nils else .is (recsOf 0 its) false
/-- The function 'calls', at calls of clients that are all others. -/
theorem calls_ok {C : Ctx} (hmem : ∀ a h, C.memo 14 a h = none) (hnat : C.nat 14 = none) (hcode : C.code 14 = some c14) (hkeep : C.keep 14 = 0) (its : List It) (N : Nat) (ex : List V)
    (h10 : its.length ≤ 10) (hN : 30 ≤ N) (hki : ∀ t ∈ its, ¬ t.d.ki < 2 ∧ ¬ 4 < t.d.ki) (hp : its.Pairwise (fun a b => a.c ≠ b.c)) (hr : V.refs.refsL ((its.flatMap It.evs).flatten ++ ex) = []) :
    callN C (N + 1) 14 [.sl 0 0 (its.flatMap It.evs).length none] [.cells ((its.flatMap It.evs).flatten ++ ex) 15] = some (.ok (.tup [allV its, .int .i64 0]) [.cells ((its.flatMap It.evs).flatten ++ ex) 15] []) := by
  have hk : (its.flatMap It.evs).length ≤ 20 := by
    have : ∀ l : List It, (l.flatMap It.evs).length ≤ 2 * l.length := by
      intro l
      induction l with
      | nil => simp
      | cons t l ih =>
        simp only [List.flatMap_cons, List.length_append, List.length_cons]
        have := evs_two t
        split at this <;> omega
    have := this its
    omega
  generalize hcs : (its.flatMap It.evs).flatten ++ ex = cs at hr
  generalize hkk : (its.flatMap It.evs).length = k at hk
  rw [callN_code (hmem _ _) hnat hcode, hkeep]
  obtain ⟨N', rfl⟩ : ∃ N', N = N' + 1 := ⟨N - 1, by omega⟩
  have hl := loop14 (callN C (N' + 1)) (N' + 1) k cs ex [] (by omega) hr its 0 0 N' [] [] (by simpa using hcs.symm) (by omega) hki rfl rfl (by omega) (fun _ => ⟨rfl, rfl⟩) (fun t _ p hp => by simp at hp) hp (by omega)
  have hg : gcS 1 [999999, 12, 11, 10, 5, 4] ⟨[(12, .int .i64 0), (11, .int .i64 k), (10, .sl 0 0 k none), (5, .mp 1), (9, .mp 1), (4, .nils), (3, .int .i64 0), (2, .nils), (0, .sl 0 0 k none)], [.cells cs 15, .map []], []⟩ = some (tSt 0 0 k cs [] [] []) := by
    simp [gcS, gcA, reach, closed, V.refs, V.refs.refsL, VO.refs, V.ren, V.ren.renL, VO.ren, hr, Env.get, tSt, tEnv, tHeap, nums, renL_flat _ _ hr]
    rfl
  have hs0 : run (callN C (N' + 1)) (N' + 1) 1 r14a ⟨[(0, .sl 0 0 k none)], [.cells cs 15], []⟩ = some (.normal, ⟨[(12, .int .i64 0), (11, .int .i64 k), (10, .sl 0 0 k none), (5, .mp 1), (9, .mp 1), (4, .nils), (3, .int .i64 0), (2, .nils), (0, .sl 0 0 k none)], [.cells cs 15, .map []], []⟩) := by
    simp [r14a, c14, run, runR, wantedV, vop, v_mov, v_mkM, v_len, Od.ev, Env.get, ok1, putE, applyU, addWs, chkU]
  have hb : c14.body = .seq (r14x.getD 0 .skip) (.seq (r14x.getD 1 .skip) (.seq (r14x.getD 2 .skip) (.seq (.seq (r14x.getD 3 .skip) (.block 0 (.loop [999999, 12, 11, 10, 5, 4] l14_0))) r14b))) := rfl
  have ha : r14a = .seq (r14x.getD 0 .skip) (.seq (r14x.getD 1 .skip) (.seq (r14x.getD 2 .skip) (r14x.getD 3 .skip))) := rfl
  rw [ha] at hs0
  obtain ⟨s1, e1, hs0⟩ := run_seq_inv hs0
  obtain ⟨s2, e2, hs0⟩ := run_seq_inv hs0
  obtain ⟨s3, e3, e4⟩ := run_seq_inv hs0
  have hloop : run (callN C (N' + 1)) (N' + 1) 1 (.loop [999999, 12, 11, 10, 5, 4] l14_0) ⟨[(12, .int .i64 0), (11, .int .i64 k), (10, .sl 0 0 k none), (5, .mp 1), (9, .mp 1), (4, .nils), (3, .int .i64 0), (2, .nils), (0, .sl 0 0 k none)], [.cells cs 15, .map []], []⟩ = _ := (iter_gc hg).trans hl
  show outC 0 1 c14.results (run _ _ 1 c14.body ⟨[(0, .sl 0 0 k none)], [.cells cs 15], []⟩) = _
  rw [hb, run_seq e1, run_seq e2, run_seq e3, run_seq ((run_seq e4).trans (run_block hloop))]
  obtain ⟨q1, q2, q3⟩ := recs_ok its 0
  have hlen : ¬ (10 : Int) < (its.length : Int) := by omega
  rcases Nat.eq_zero_or_pos its.length with h0 | h0
  · have : its = [] := List.eq_nil_of_length_eq_zero h0
    subst this
    have e5 : run (callN C (N' + 1)) (N' + 1) 1 r14b ⟨(13, .bool false) :: tEnv k (0 + 0) k, tHeap (0 + 0) cs ([] ++ (recsOf 0 []).flatten) ([] ++ leftOf 0 []), []⟩ = some (.ret, ⟨[(3, .int .i64 0), (2, .nils), (79, .nils), (78, .bool false), (77, .int .i64 0), (76, .nils), (13, .bool false), (999999, .un), (12, .int .i64 k), (11, .int .i64 k), (10, .sl 0 0 k none), (5, .mp 1), (4, .nils)], [.cells cs 15, .map []], []⟩) := by
      simp [r14b, c14, run, runR, wantedV, vop, v_mov, v_bin, vbin, v_len, Od.ev, Env.get, ok1, putE, applyU, addWs, chkU, tEnv, tHeap, leftOf, nums]
    show outC 0 1 c14.results (run _ _ 1 r14b ⟨(13, .bool false) :: tEnv k (0 + 0) k, tHeap (0 + 0) cs ([] ++ (recsOf 0 []).flatten) ([] ++ leftOf 0 []), []⟩) = _
    rw [e5]
    have f1 : frz [.cells cs 15, .map []] 1 200 (.tup [.nils, .int .i64 0]) = some (.tup [.nils, .int .i64 0]) := rfl
    have c1 : c14.results = [.tmp 2, .tmp 3] := rfl
    simp [outC, outD, c1, resV, resOne, Env.get, finish, hr, VO.refs, f1, allV]
  · have hne : its ≠ [] := fun e => by rw [e] at h0; simp at h0
    obtain ⟨m, hm⟩ : ∃ m, its.length = m + 1 := ⟨its.length - 1, by omega⟩
    have hf := frz_recs (h := [.cells cs 15, .map (nums (leftOf 0 its)), .cells (recsOf 0 its).flatten 15]) (m0 := 1) (n := 197) (k := 2) (recs := recsOf 0 its) (by omega) rfl q2 q3
    rw [q1] at hf
    have f1 : frz [.cells cs 15, .map (nums (leftOf 0 its)), .cells (recsOf 0 its).flatten 15] 1 200 (.tup [.sl 2 0 its.length none, .int .i64 0]) = some (.tup [.is (recsOf 0 its) false, .int .i64 0]) := by
      rw [frz]
      simp only [List.mapM_cons, List.mapM_nil, hf]
      rfl
    have e5 : run (callN C (N' + 1)) (N' + 1) 1 r14b ⟨(13, .bool false) :: tEnv k (0 + its.length) k, tHeap (0 + its.length) cs ([] ++ (recsOf 0 its).flatten) ([] ++ leftOf 0 its), []⟩ = some (.ret, ⟨[(3, .int .i64 0), (2, .sl 2 0 its.length none), (79, .sl 2 0 its.length none), (78, .bool false), (77, .int .i64 its.length), (76, .sl 2 0 its.length none), (13, .bool false), (999999, .un), (12, .int .i64 k), (11, .int .i64 k), (10, .sl 0 0 k none), (5, .mp 1), (4, .sl 2 0 its.length none)], [.cells cs 15, .map (nums (leftOf 0 its)), .cells (recsOf 0 its).flatten 15], []⟩) := by
      have h0' : ¬ its.length = 0 := by omega
      simp [r14b, c14, run, runR, wantedV, vop, v_mov, v_bin, vbin, v_len, Od.ev, Env.get, ok1, putE, applyU, addWs, chkU, tEnv, tHeap, hne, h0', hlen]
    rw [e5]
    have c1 : c14.results = [.tmp 2, .tmp 3] := rfl
    simp [outC, outD, c1, resV, resOne, Env.get, finish, hr, VO.refs, f1, allV, hne]
end Go.Pv
namespace Go.Pv
set_option maxHeartbeats 4000000
set_option maxRecDepth 100000
def fEnv (i j : Nat) (av : V) (key : List UInt8) : Env := [(999999, .un), (23, .int .i64 i), (22, .int .i64 j), (21, av), (7, .bool true), (1, .sl 2 0 j (some j)), (6, .str key), (0, .ptr 0 0), (5, .ptr 5 0)]
def fHeap (sv av : V) (done vals vers st : List V) : List VO := [.cells [sv, av, .mp 1] 3, .map [], .cells done 1, .cells vals 3, .cells vers 1, .cells st 3]
/-- A call that need not be: the key grows by one sign. -/
theorem it16 (call : Callf) (n i j : Nat) (sv : V) (recs : List (List V)) (done vals vers : List V) (va vb : V) (r0 r1 r2 r3 r4 r6 r7 r8 a0 a1 a2 a3 : Int) (r5 r9 a4 key : List UInt8) (ws : List Nat)
    (hx : recs[i]? = some [.int .i64 r0, .int .i64 r1, .int .i64 r2, .int .i64 r3, .int .i64 r4, .str r5, .int .i64 r6, .int .i64 r7, .int .i64 r8, .str r9, .int .i64 a0, .int .i64 a1, .int .i64 a2, .int .i64 a3, .str a4])
    (hsure : call 26 [.agg [.int .i64 r0, .int .i64 r1, .int .i64 r2, .int .i64 r3, .int .i64 r4, .str r5, .int .i64 r6, .int .i64 r7, .int .i64 r8, .str r9, .int .i64 a0, .int .i64 a1, .int .i64 a2, .int .i64 a3, .str a4]] [] = some (.ok (.bool false) [] []))
    (hi : i < j) (hw : IntKind.i64.wrap ((i : Int) + 1) = (i : Int) + 1) (hd : (done.drop i).take 1 = [.bool false]) (hdl : i + 1 ≤ done.length) (hdr : V.refs.refsL done = []) (hvr : V.refs.refsL vals = []) (hwr : V.refs.refsL vers = []) (hsv : sv.refs = []) (hva : va.refs = [3]) (hvb : vb.refs = [4]) (hva' : ∀ f : Nat → Nat, f 3 = 3 → va.ren f = va) (hvb' : ∀ f : Nat → Nat, f 4 = 4 → vb.ren f = vb) (hkey : key.length < 1000) :
    rnd call n 5 l16_1 [999999, 23, 22, 21, 7, 1, 6, 0, 5] ⟨fEnv i j (.is recs false) key, fHeap sv (.is recs false) done vals vers [va, vb, .bool false], ws⟩ =
      some ⟨fEnv (i + 1) j (.is recs false) (key ++ [45]), fHeap sv (.is recs false) done vals vers [va, vb, .bool false], ws⟩ := by
  have hi0 : ((i : Int) < 0) = False := by
    simp only [eq_iff_iff, iff_false]; omega
  have hb : key.length ≤ 4611686018427387903 := by omega
  have hr5 : List.range 5 = [0, 1, 2, 3, 4] := rfl
  have e1 := hva' (fun k => List.idxOf k [0, 1, 2, 3, 4, 5]) rfl
  have e2 := hvb' (fun k => List.idxOf k [0, 1, 2, 3, 4, 5]) rfl
  unfold rnd
  simp (config := { maxSteps := 200000 }) [l16_1, fEnv, fHeap, run, runR, wantedV, vop, v_mov, v_bin, v_pick, v_iad, v_load, v_new, v_store, v_fad, v_look, v_una, v_call, doCall, vbin, vun, sameV, Od.ev, Env.get, ok1, putE, applyU, addWs, chkU, hi, V.cells?, loadC, shapeOf, hx, hsure, hi0, hd, hdl, setSeg0, hw, gcS, gcA, reach, closed, V.refs, V.refs.refsL, VO.refs, V.ren, V.ren.renL, VO.ren, compat, disj, hdr, hvr, hwr, hsv, hva, hvb, ren_flat _ sv hsv, renL_flat _ _ hdr, renL_flat _ _ hvr, renL_flat _ _ hwr, hb, hr5, e1, e2]
  exact ⟨⟨rfl, rfl⟩, rfl⟩
end Go.Pv
namespace Go.Pv
set_option maxHeartbeats 4000000
set_option maxRecDepth 100000
/-- Which calls need not be. -/
theorem sure26 {C : Ctx} (hmem : ∀ a h, C.memo 26 a h = none) (hnat : C.nat 26 = none) (hcode : C.code 26 = some c26) (hkeep : C.keep 26 = 0) (N : Nat) (r0 r1 r2 r3 r4 r6 r7 r8 a0 a1 a2 a3 : Int) (r5 r9 a4 : List UInt8) (h : ¬ 0 < r1 ∨ a0 = 16) :
    callN C (N + 1) 26 [.agg [.int .i64 r0, .int .i64 r1, .int .i64 r2, .int .i64 r3, .int .i64 r4, .str r5, .int .i64 r6, .int .i64 r7, .int .i64 r8, .str r9, .int .i64 a0, .int .i64 a1, .int .i64 a2, .int .i64 a3, .str a4]] [] = some (.ok (.bool false) [] []) := by
  rw [callN_code (hmem _ _) hnat hcode, hkeep]
  by_cases h1 : 0 < r1
  · have h2 : a0 = 16 := h.resolve_left (fun e => e h1)
    subst h2
    simp [c26, envOf, run, runR, wantedV, vop, v_mov, v_bin, v_pick, v_box, v_load, v_fad, vbin, sameV, Od.ev, Env.get, ok1, putE, applyU, addWs, chkU, V.cells?, loadC, shapeOf, h1, outC, outD, resV, resOne, finish, frz]
  · simp [c26, envOf, run, runR, wantedV, vop, v_mov, v_bin, v_pick, v_box, v_load, v_fad, vbin, sameV, Od.ev, Env.get, ok1, putE, applyU, addWs, chkU, V.cells?, loadC, shapeOf, h1, outC, outD, resV, resOne, finish, frz]
/-- A call that need not be. -/
def Idle (y : List V) : Prop := ∃ (r0 r1 r2 r3 r4 r6 r7 r8 a0 a1 a2 a3 : Int) (r5 r9 a4 : List UInt8), y = [.int .i64 r0, .int .i64 r1, .int .i64 r2, .int .i64 r3, .int .i64 r4, .str r5, .int .i64 r6, .int .i64 r7, .int .i64 r8, .str r9, .int .i64 a0, .int .i64 a1, .int .i64 a2, .int .i64 a3, .str a4] ∧ (¬ 0 < r1 ∨ a0 = 16)
theorem rc_idle (i : Nat) (t : It) (h : ∀ p, t.a = some p → p.2.re = 16) : Idle (t.rc i) := by
  unfold It.rc
  split
  · rename_i d r ha
    exact ⟨_, _, _, _, _, _, _, _, _, _, _, _, _, _, _, rfl, .inr (h _ ha)⟩
  · exact ⟨_, _, _, _, _, _, _, _, _, _, _, _, _, _, _, rfl, .inl (by decide)⟩
theorem recs_idle : ∀ (its : List It) (i : Nat), (∀ t ∈ its, ∀ p, t.a = some p → p.2.re = 16) → ∀ y ∈ recsOf i its, Idle y
  | [], i, _, y, h => by simp [recsOf] at h
  | t :: its, i, h, y, hy => by
    rcases List.mem_cons.1 hy with rfl | hy
    · exact rc_idle i t (h t (by simp))
    · exact recs_idle its _ (fun t' ht' => h t' (by simp [ht'])) y hy

theorem loop16 (call : Callf) (n j p q : Nat) (sv : V) (recs : List (List V)) (vals vers : List V) (ws : List Nat) (hsv : sv.refs = []) (hvr : V.refs.refsL vals = []) (hwr : V.refs.refsL vers = []) (hj : j ≤ 20) (hrl : recs.length = j)
    (hid : ∀ y ∈ recs, Idle y ∧ call 26 [.agg y] [] = some (.ok (.bool false) [] [])) : ∀ (m i N : Nat) (key : List UInt8), i + m = j → m ≤ N → key.length + m < 1000 →
    iterG (run call n 5 l16_1) (gcS 5 [999999, 23, 22, 21, 7, 1, 6, 0, 5]) N ⟨fEnv i j (.is recs false) key, fHeap sv (.is recs false) (List.replicate j (.bool false)) vals vers [.sl 3 0 p (some p), .sl 4 0 q (some q), .bool false], ws⟩ =
      some (.exit 0, ⟨(24, .bool false) :: fEnv j j (.is recs false) (key ++ List.replicate m 45), fHeap sv (.is recs false) (List.replicate j (.bool false)) vals vers [.sl 3 0 p (some p), .sl 4 0 q (some q), .bool false], ws⟩)
  | 0, i, N, key, hi, _, _ => by
    have hij : i = j := by omega
    subst hij
    have : run call n 5 l16_1 ⟨fEnv i i (.is recs false) key, fHeap sv (.is recs false) (List.replicate i (.bool false)) vals vers [.sl 3 0 p (some p), .sl 4 0 q (some q), .bool false], ws⟩ = some (.exit 0, ⟨(24, .bool false) :: fEnv i i (.is recs false) key, fHeap sv (.is recs false) (List.replicate i (.bool false)) vals vers [.sl 3 0 p (some p), .sl 4 0 q (some q), .bool false], ws⟩) := by
      simp [l16_1, run, runR, wantedV, vop, v_bin, vbin, Od.ev, Env.get, ok1, putE, applyU, addWs, chkU, fEnv]
    simp [iterG, this]
  | m + 1, i, N, key, hi, hN, hk => by
    obtain ⟨N', rfl⟩ : ∃ N', N = N' + 1 := ⟨N - 1, by omega⟩
    have hlt : i < recs.length := by omega
    have hx : recs[i]? = some recs[i] := List.getElem?_eq_getElem hlt
    obtain ⟨⟨r0, r1, r2, r3, r4, r6, r7, r8, a0, a1, a2, a3, r5, r9, a4, he, _⟩, hs⟩ := hid _ (List.getElem_mem hlt)
    rw [he] at hx hs
    have hflat : ∀ k, V.refs.refsL (List.replicate k (V.bool false)) = [] := by
      intro k
      induction k with
      | zero => rfl
      | succ k ih => simp [List.replicate_succ, V.refs.refsL, V.refs, ih]
    have h1 := it16 call n i j sv recs (List.replicate j (.bool false)) vals vers (.sl 3 0 p (some p)) (.sl 4 0 q (some q)) r0 r1 r2 r3 r4 r6 r7 r8 a0 a1 a2 a3 r5 r9 a4 key ws hx hs (by omega) (wrap_nat (i := i + 1) (by omega))
      (by rw [List.drop_replicate, List.take_replicate, show min 1 (j - i) = 1 by omega]; rfl) (by simp; omega) (hflat j) hvr hwr hsv rfl rfl (fun f hf => by simp [V.ren, hf]) (fun f hf => by simp [V.ren, hf]) (by omega)
    rw [iterG_rnd h1, loop16 call n j p q sv recs vals vers ws hsv hvr hwr hj hrl hid m (i + 1) N' (key ++ [45]) (by omega) (by omega) (by simp; omega)]
    simp [List.replicate_succ]
end Go.Pv
namespace Go.Pv
set_option maxHeartbeats 4000000
set_option maxRecDepth 100000
def bytesL (key : List UInt8) : List (List V) := key.map fun b => [V.int .u8 b.toNat]
theorem bytesL_flat : ∀ key : List UInt8, (bytesL key).flatten = key.map fun b => V.int .u8 b.toNat
  | [] => rfl
  | b :: key => by
    have := bytesL_flat key
    simp only [bytesL, List.map_cons, List.flatten_cons] at this ⊢
    rw [this]
    rfl
theorem unbyte_map : ∀ key : List UInt8, unbyte (key.map fun b => V.int .u8 b.toNat) = some key
  | [] => rfl
  | b :: key => by simp [unbyte, unbyte_map key]
theorem slice_bytes (hh : Nat → VO) (key : List UInt8) : sliceC hh 1 (.is (bytesL key) false) = some (key.map fun b => V.int .u8 b.toNat, key.length, []) := by
  have h1 : (bytesL key).all (·.length == 1) = true := by simp [bytesL]
  simp only [sliceC, h1, if_true, bytesL_flat]
  simp [bytesL]

def r16x : List VC := match c16.body with
  | .seq a (.seq b (.seq c (.seq (.seq d (.block _ _)) (.seq e f)))) => [a, b, c, d, e, f]
  | _ => []
theorem b16 : c16.body = .seq (r16x.getD 0 .skip) (.seq (r16x.getD 1 .skip) (.seq (r16x.getD 2 .skip) (.seq (.seq (r16x.getD 3 .skip) (.block 0 (.loop [999999, 23, 22, 21, 7, 1, 6, 0, 5] l16_1))) (.seq (r16x.getD 4 .skip) (r16x.getD 5 .skip))))) := rfl
theorem run_seq_pan {call : Callf} {n m0 : Nat} {a b : VC} {s s1 : St} {v : V} (h : run call n m0 a s = some (.pan v, s1)) : run call n m0 (.seq a b) s = some (.pan v, s1) := by
  simp only [run, h]

/-- The search finds an order at once, where no call must be. -/
theorem from_ok {C : Ctx} (hmem : ∀ a h, C.memo 16 a h = none) (hnat : C.nat 16 = none) (hcode : C.code 16 = some c16) (hm26 : ∀ a h, C.memo 26 a h = none) (hn26 : C.nat 26 = none) (hc26 : C.code 26 = some c26) (hk26 : C.keep 26 = 0)
    (its : List It) (N p q : Nat) (sv : V) (vals vers : List V) (key : List UInt8) (hsv : sv.refs = []) (hvr : V.refs.refsL vals = []) (hwr : V.refs.refsL vers = []) (h10 : its.length ≤ 10) (hN : 40 ≤ N) (hkey : key.length < 900)
    (hid : ∀ t ∈ its, ∀ p, t.a = some p → p.2.re = 16)
    (hput : ∀ N, callN C (N + 1) 25 [.nils, .agg [.sl 0 0 p (some p), .sl 1 0 q (some q), .bool false]] [.cells vals 3, .cells vers 1] = some (.ok (.is (bytesL key) false) [.cells vals 3, .cells vers 1] [])) :
    callN C (N + 1) 16 [.ptr 0 0, .sl 2 0 its.length (some its.length), .agg [.sl 3 0 p (some p), .sl 4 0 q (some q), .bool false]] [.cells [sv, allV its, .mp 1] 3, .map [], .cells (List.replicate its.length (.bool false)) 1, .cells vals 3, .cells vers 1] = some (.pan (.ifc 69 (.agg []))) := by
  rw [callN_code (hmem _ _) hnat hcode]
  obtain ⟨N', rfl⟩ : ∃ N', N = N' + 1 := ⟨N - 1, by omega⟩
  generalize hj : its.length = j at *
  have hflat : ∀ k, V.refs.refsL (List.replicate k (V.bool false)) = [] := by
    intro k
    induction k with
    | zero => rfl
    | succ k ih => simp [List.replicate_succ, V.refs.refsL, V.refs, ih]
  have hput' := hput N'
  have pre : ∀ (av : V), av.refs = [] → (∀ (e : Env) (hh : Nat → VO), e.get 21 = av → v_len hh e 1 (.t 21) = some (.ok ⟨.int .i64 j, [], []⟩)) →
      run (callN C (N' + 1)) (N' + 1) 5 (.seq (r16x.getD 0 .skip) (.seq (r16x.getD 1 .skip) (.seq (r16x.getD 2 .skip) (r16x.getD 3 .skip)))) ⟨[(0, .ptr 0 0), (1, .sl 2 0 j (some j)), (2, .agg [.sl 3 0 p (some p), .sl 4 0 q (some q), .bool false])], [.cells [sv, av, .mp 1] 3, .map [], .cells (List.replicate j (.bool false)) 1, .cells vals 3, .cells vers 1], []⟩ =
        some (.normal, ⟨[(23, .int .i64 0), (22, .int .i64 j), (21, av), (20, .ptr 0 1), (19, .ptr 0 0), (18, .ptr 0 0), (7, .bool true), (6, .str key), (17, .str key), (16, .is (bytesL key) false), (15, .agg [.sl 3 0 p (some p), .sl 4 0 q (some q), .bool false]), (5, .ptr 5 0), (0, .ptr 0 0), (1, .sl 2 0 j (some j)), (2, .agg [.sl 3 0 p (some p), .sl 4 0 q (some q), .bool false])], fHeap sv av (List.replicate j (.bool false)) vals vers [.sl 3 0 p (some p), .sl 4 0 q (some q), .bool false], []⟩) := by
    intro av _ hl
    have hix : List.idxOf 4 [3, 4] = 1 := rfl
    have hr0 : List.range 0 = [] := rfl
    simp [r16x, c16, run, runR, wantedV, vop, v_box, v_load, v_call, doCall, v_conv, v_mov, v_nilc, v_fad, Od.ev, Env.get, ok1, putE, applyU, addWs, chkU, V.cells?, loadC, shapeOf, V.refs, V.refs.refsL, VO.refs, V.ren, V.ren.renL, VO.ren, reach, closed, hvr, hwr, renL_flat _ _ hvr, renL_flat _ _ hwr, hput', slice_bytes, unbyte_map, hix, hl, fHeap]
  have hgc : ∀ (av : V), av.refs = [] → gcS 5 [999999, 23, 22, 21, 7, 1, 6, 0, 5] ⟨[(23, .int .i64 0), (22, .int .i64 j), (21, av), (20, .ptr 0 1), (19, .ptr 0 0), (18, .ptr 0 0), (7, .bool true), (6, .str key), (17, .str key), (16, .is (bytesL key) false), (15, .agg [.sl 3 0 p (some p), .sl 4 0 q (some q), .bool false]), (5, .ptr 5 0), (0, .ptr 0 0), (1, .sl 2 0 j (some j)), (2, .agg [.sl 3 0 p (some p), .sl 4 0 q (some q), .bool false])], fHeap sv av (List.replicate j (.bool false)) vals vers [.sl 3 0 p (some p), .sl 4 0 q (some q), .bool false], []⟩ = some ⟨fEnv 0 j av key, fHeap sv av (List.replicate j (.bool false)) vals vers [.sl 3 0 p (some p), .sl 4 0 q (some q), .bool false], []⟩ := by
    intro av hav
    have hr5 : List.range 5 = [0, 1, 2, 3, 4] := rfl
    simp [fEnv, fHeap, Env.get, gcS, gcA, reach, closed, V.refs, V.refs.refsL, VO.refs, V.ren, V.ren.renL, VO.ren, hvr, hwr, hsv, hav, hflat, ren_flat _ sv hsv, ren_flat _ av hav, renL_flat _ _ (hflat j), renL_flat _ _ hvr, renL_flat _ _ hwr, hr5]
    exact ⟨⟨rfl, rfl⟩, rfl, rfl, rfl⟩
  have post : ∀ (av : V) (key' : List UInt8) (hp : List VO), run (callN C (N' + 1)) (N' + 1) 5 (r16x.getD 4 .skip) ⟨(24, .bool false) :: fEnv j j av key', hp, []⟩ = some (.pan (.ifc 69 (.agg [])), ⟨(51, .ifc 69 (.agg [])) :: (50, .agg []) :: (49, .bool true) :: (24, .bool false) :: fEnv j j av key', kill hp [], []⟩) := by
    intro av key' hp
    simp [r16x, c16, run, runR, wantedV, vop, v_mov, v_build, fillP, v_mkI, v_pan, Od.ev, Env.get, ok1, putE, applyU, addWs, chkU, fEnv, killS, harm]
  have fin : ∀ (av : V), av.refs = [] → (∀ (e : Env) (hh : Nat → VO), e.get 21 = av → v_len hh e 1 (.t 21) = some (.ok ⟨.int .i64 j, [], []⟩)) →
      iterG (run (callN C (N' + 1)) (N' + 1) 5 l16_1) (gcS 5 [999999, 23, 22, 21, 7, 1, 6, 0, 5]) N' ⟨fEnv 0 j av key, fHeap sv av (List.replicate j (.bool false)) vals vers [.sl 3 0 p (some p), .sl 4 0 q (some q), .bool false], []⟩ =
        some (.exit 0, ⟨(24, .bool false) :: fEnv j j av (key ++ List.replicate j 45), fHeap sv av (List.replicate j (.bool false)) vals vers [.sl 3 0 p (some p), .sl 4 0 q (some q), .bool false], []⟩) →
      outC (C.keep 16) 5 c16.results (run (callN C (N' + 1)) (N' + 1) 5 c16.body ⟨[(0, .ptr 0 0), (1, .sl 2 0 j (some j)), (2, .agg [.sl 3 0 p (some p), .sl 4 0 q (some q), .bool false])], [.cells [sv, av, .mp 1] 3, .map [], .cells (List.replicate j (.bool false)) 1, .cells vals 3, .cells vers 1], []⟩) = some (.pan (.ifc 69 (.agg []))) := by
    intro av hav hl hit
    obtain ⟨s1, e1, e2⟩ := run_seq_inv (pre av hav hl)
    obtain ⟨s2, e2, e3⟩ := run_seq_inv e2
    obtain ⟨s3, e3, e4⟩ := run_seq_inv e3
    have hloop : run (callN C (N' + 1)) (N' + 1) 5 (.loop [999999, 23, 22, 21, 7, 1, 6, 0, 5] l16_1) _ = _ := (iter_gc (hgc av hav)).trans hit
    rw [b16, run_seq e1, run_seq e2, run_seq e3, run_seq ((run_seq e4).trans (run_block hloop)), run_seq_pan (post _ _ _)]
    rfl
  rcases Nat.eq_zero_or_pos j with h0 | h0
  · have hits : its = [] := List.eq_nil_of_length_eq_zero (by omega)
    subst hits
    subst h0
    refine fin .nils rfl (fun e hh he => by simp [v_len, Od.ev, he, ok1]) ?_
    have : run (callN C (N' + 1)) (N' + 1) 5 l16_1 ⟨fEnv 0 0 .nils key, fHeap sv .nils (List.replicate 0 (.bool false)) vals vers [.sl 3 0 p (some p), .sl 4 0 q (some q), .bool false], []⟩ = some (.exit 0, ⟨(24, .bool false) :: fEnv 0 0 .nils key, fHeap sv .nils (List.replicate 0 (.bool false)) vals vers [.sl 3 0 p (some p), .sl 4 0 q (some q), .bool false], []⟩) := by
      simp [l16_1, run, runR, wantedV, vop, v_bin, vbin, Od.ev, Env.get, ok1, putE, applyU, addWs, chkU, fEnv]
    rw [show key ++ List.replicate 0 45 = key by simp]
    unfold iterG
    rw [this]
  · have hits : its ≠ [] := fun e => by rw [e] at hj; simp at hj; omega
    obtain ⟨q1, q2, q3⟩ := recs_ok its 0
    rw [hj] at q1
    have hall : allV its = .is (recsOf 0 its) false := by simp [allV, hits]
    rw [hall]
    refine fin _ rfl (fun e hh he => by simp [v_len, Od.ev, he, ok1, q1]) ?_
    have hids := recs_idle its 0 hid
    have := loop16 (callN C (N' + 1)) (N' + 1) j p q sv (recsOf 0 its) vals vers [] hsv hvr hwr (by omega) q1 (fun y hy => by
      obtain ⟨r0, r1, r2, r3, r4, r6, r7, r8, a0, a1, a2, a3, r5, r9, a4, he, hc⟩ := hids y hy
      refine ⟨hids y hy, ?_⟩
      rw [he]
      exact sure26 hm26 hn26 hc26 hk26 N' r0 r1 r2 r3 r4 r6 r7 r8 a0 a1 a2 a3 r5 r9 a4 hc) j 0 N' key (by omega) (by omega) (by omega)
    exact this
end Go.Pv
