/- The law's loop. -/
import Derived.Test.YtjncjpnafabaoaaGreatDoorQg
import Derived.Below
set_option linter.unusedSimpArgs false
set_option linter.unusedVariables false
set_option linter.unusedSectionVars false
namespace Go.Pv
open Go.Proofs Go.RowKit
set_option maxRecDepth 100000
set_option maxHeartbeats 4000000
/-! ### Place. -/
theorem tmod_lit (x m : Int) (_hm : 0 < m) : x.tmod m = if 0 ≤ x then x % m else -((-x) % m) := by
  by_cases h : 0 ≤ x
  · rw [if_pos h, Int.tmod_eq_emod_of_nonneg h]
  · rw [if_neg h]
    have : x.tmod m = -((-x).tmod m) := by rw [Int.neg_tmod, Int.neg_neg]
    rw [this, Int.tmod_eq_emod_of_nonneg (by omega)]
theorem neg_mod (x m : Int) (hm : 0 < m) : ((-x) % m = 0 ∧ x % m = 0) ∨ ((-x) % m ≠ 0 ∧ x % m = m - (-x) % m) := by
  have h1 := Int.emod_add_mul_ediv x m
  have h2 := Int.emod_add_mul_ediv (-x) m
  have a1 := Int.emod_nonneg x (by omega : m ≠ 0)
  have a2 := Int.emod_lt_of_pos x hm
  have b1 := Int.emod_nonneg (-x) (by omega : m ≠ 0)
  have b2 := Int.emod_lt_of_pos (-x) hm
  generalize hq : x / m + (-x) / m = q
  have hs : m * q + (x % m + (-x) % m) = 0 := by rw [← hq, Int.mul_add]; omega
  have c1 : q ≤ 0 := by
    rcases Int.lt_or_le 0 q with h | h
    · have := Int.mul_le_mul_of_nonneg_left (show (1 : Int) ≤ q by omega) (show (0 : Int) ≤ m by omega)
      omega
    · exact h
  have c2 : -1 ≤ q := by
    rcases Int.lt_or_le q (-1) with h | h
    · have := Int.mul_le_mul_of_nonneg_left (show q ≤ -2 by omega) (show (0 : Int) ≤ m by omega)
      omega
    · exact h
  obtain rfl | rfl : q = 0 ∨ q = -1 := by omega
  · left; omega
  · right; omega
section
variable [Sy]
theorem place_m {C : Ctx} (hmem : ∀ a h, C.memo 11 a h = none) (hnat : C.nat 11 = none) (hcode : C.code 11 = some c11) (hkeep : C.keep 11 = 0) (N : Nat) (x m k : Int) (hm : 0 < m) (hm2 : m ≤ 1000) (hk : x % m = k) (hx : x.tmod m < 0 → x.tmod m + m = k) (hx' : ¬ x.tmod m < 0 → x.tmod m = k) :
    callN C (N + 1) 11 [.int .i64 x, .int .i64 m] [] = some (.ok (.int .i64 k) [] []) := by
  rw [callN_code (hmem _ _) hnat hcode, hkeep]
  have f1 : ∀ y : Int, frz [] 0 200 (.int .i64 y) = some (.int .i64 y) := fun y => rfl
  have hm0 : ¬ m = 0 := by omega
  have hk2 : 0 ≤ k ∧ k < m := by subst hk; exact ⟨Int.emod_nonneg _ hm0, Int.emod_lt_of_pos _ hm⟩
  by_cases hn : x.tmod m < 0
  · have e : IntKind.wrap .i64 (x.tmod m + m) = k := by
      rw [hx hn]
      exact IntWalk.i64_in _ (by omega)
    simp [c11, envOf, run, runR, wantedV, vop, v_mov, v_bin, xbin, vbin, Od.ev, Env.get, ok1, putE, applyU, addWs, chkU, hn, hm0, e, outC, outD, resV, resOne, finish, f1]
  · have e := hx' hn
    have hn' : ¬ k < 0 := by omega
    clear hx hx' hn
    simp [c11, envOf, run, runR, wantedV, vop, v_mov, v_bin, xbin, vbin, Od.ev, Env.get, ok1, putE, applyU, addWs, chkU, hn', hm0, e, outC, outD, resV, resOne, finish, f1]
theorem place_any (x m : Int) (hm : 0 < m) (hm2 : m ≤ 1000) : callN (mkC m0) 11 11 [.int .i64 x, .int .i64 m] [] = some (.ok (.int .i64 (x % m)) [] []) := by
  have a1 := Int.emod_nonneg x (by omega : m ≠ 0)
  have b1 := Int.emod_nonneg (-x) (by omega : m ≠ 0)
  refine place_m (fun _ _ => rfl) rfl (by kernel_rfl) rfl 10 x m _ hm hm2 rfl ?_ ?_ <;> intro h <;> rw [tmod_lit x m hm] at h ⊢ <;> split at h <;> rename_i h0 <;> simp only [h0, if_true, if_false] <;> rcases neg_mod x m hm with h3 | h3 <;> omega
/-- Place, as the loop calls it. -/
theorem place_fact {H : Array Obj} (h5 : Sy.val 5 = Sy.val 10 % (Sy.val 1 + 2)) (h1 : 0 ≤ Sy.val 1 ∧ Sy.val 1 ≤ 30) : Fact Tryz.prog H 11 [.tm .i64 (.sym 10), .tm .i64 (.bin .add .i64 (.sym 1) (.lit 2))] [] (.ok (.tm .i64 (.sym 5)) [] []) := by
  intro g w us hE hA
  have e : (Tm.bin .add .i64 (.sym 1) (.lit 2)).ev = Sy.val 1 + 2 := by show IntKind.wrap .i64 (Sy.val 1 + 2) = _; exact IntWalk.i64_in _ (by omega)
  have F := callN_ok mixed (mkC_ok m0_ok) 11 _ _ _ _ (place_any (Sy.val 10) (Sy.val 1 + 2) (by omega) (by omega)) g w us hE (args2 hA (fun u hu => hu.conc0) (fun u hu => by rw [hu.inv_tm, e]; exact .int _ _ _))
  refine F.mono fun r w' hc => ?_
  cases r with
  | returned u =>
    obtain ⟨v, hl', ws, g', e1, A⟩ := hc
    cases e1
    refine ⟨_, _, _, g', rfl, ⟨A.aft, A.dom, A.h, A.len, A.B, ?_, A.ws⟩⟩
    rw [A.val.inv_int, ← h5]
    exact .tm _ _ (.sym 5)
  | panicked c => obtain ⟨v, g', u, e1, _⟩ := hc; cases e1
  | outgrown => exact hc.elim
theorem mG_ok {H : Array Obj} (h5 : Sy.val 5 = Sy.val 10 % (Sy.val 1 + 2)) (h1 : 0 ≤ Sy.val 1 ∧ Sy.val 1 ≤ 30) : ∀ f args hl r, mG f args hl = some r → Fact Tryz.prog H f args hl r := by
  intro f args hl r h
  unfold mG at h
  split at h
  · split at h
    · cases h; exact place_fact h5 h1
    · cases h
  · exact memoL_ok (Q := fun f a h r => Fact Tryz.prog H f a h r) es5_ok h
  · split at h
    · cases h; exact fact_of mm5_ok awake_run
    · cases h
  · cases h
/-! ### A call from a bare world. -/
def gE : G := ⟨fun _ => False, fun _ => False, fun _ => 0, fun _ => 0, fun _ => .dead⟩
omit [Sy] in
theorem gE_O (b : Nat) : ¬ gE.O b := by
  rintro (h | ⟨k, h, _⟩)
  · exact h
  · exact h
theorem ent_bare (w : World) : Ent #[] gE w [] where
  rel := ⟨fun _ h => h.elim, fun _ _ h => h.elim, fun _ h => h.elim, fun _ => trivial, fun _ h => h.elim, fun _ h => h.elim, Nat.le_refl _, fun _ _ _ => rfl, rfl, rfl, rfl⟩
  dom := fun _ => ⟨fun h => h.elim, fun h => absurd h (Nat.not_lt_zero _)⟩
  h := fun _ => rfl
  laid := ⟨fun b hb => absurd hb (Nat.not_lt_zero _), fun _ _ _ _ => .un _⟩
theorem below_bare {g' : G} {w w' : World} (h : Aft gE w g' w') : Below w.heap.size w w' :=
  ⟨h.rel.os, h.rel.tape, h.rel.output, h.rel.size, fun k hk => (h.step.stay k (gE_O k) hk).2⟩
end
/-! ### A round, in the model. -/
theorem round_ok {A : Sy} (hM : ∀ f args hl r, @mG A f args hl = some r → @Fact A Tryz.prog #[] f args hl r) {c : Code} {nt : Nat} (hs : Sim Tryz.prog nt c P5.body) {S S' : St} {σ : List (Nat × Tm)} (hr : @chkRd A S σ S' = true) {W : World} {a : Act} {w : World}
    {Q : Exit → Act → World → Prop} (hI : @InvS A #[] Dfr.no gE W [] nt S a w) (hn : ∀ a w, (∀ B : Sy, Turn A B σ ivs5 → @InvS B #[] Dfr.no gE W [] nt S' a w) → Q .normal a w) : c.wp Tryz.prog Q a w := by
  unfold chkRd at hr
  split at hr
  · rename_i T hT
    split at hr
    · rename_i T' hT'
      refine @run_ok A Tryz.prog #[] Dfr.no gE W [] nt kG 400 mixed (@callN_ok A Tryz.prog #[] (@mkC A (@mG A)) mixed (@mkC_ok A #[] (@mG A) hM) 400) (@ent_bare A W) c P5.body hs S T .normal Q a w (.inl rfl) hT hI fun a1 w1 hI1 => hn a1 w1 fun B K => ?_
      exact @invS_turn A B σ ivs5 K w1 #[] gE W nt T' S' a1 (fun _ => rfl) hr (@gc_ok A #[] Dfr.no gE W [] nt a1 w1 T T' rfl (@ent_bare A W) P5.l hT' hI1)
    · cases hr
  · cases hr
theorem exit_ok {A : Sy} (hM : ∀ f args hl r, @mG A f args hl = some r → @Fact A Tryz.prog #[] f args hl r) {c : Code} {nt : Nat} (hs : Sim Tryz.prog nt c P5.body) {S : St} (hr : @chkX A S = true) {W : World} {a : Act} {w : World}
    {Q : Exit → Act → World → Prop} (hI : @InvS A #[] Dfr.no gE W [] nt S a w) (hn : ∀ T a w, @chkT A T = true → @InvS A #[] Dfr.no gE W [] nt T a w → Q (.exit 0) a w) : c.wp Tryz.prog Q a w := by
  unfold chkX at hr
  split at hr
  · rename_i T hT
    exact @run_ok A Tryz.prog #[] Dfr.no gE W [] nt kG 400 mixed (@callN_ok A Tryz.prog #[] (@mkC A (@mG A)) mixed (@mkC_ok A #[] (@mG A) hM) 400) (@ent_bare A W) c P5.body hs S T (.exit 0) Q a w (.inl rfl) hT hI fun a1 w1 hI1 => hn T a1 w1 hr hI1
  · cases hr
end Go.Pv
namespace Go.Pv
open Go.Proofs Go.RowKit
set_option maxRecDepth 100000
set_option maxHeartbeats 4000000
def atM (l : List Int) (i : Int) : Int := l.getD i.toNat 0
def plM (vs : List Int) (i v : Int) : Int := atM vs i % (v + 2)
/-- What the symbols are: i, v, i+1, the version asked, the last value, the inputs' elements at i, their lengths, n. -/
def valM (vs ns : List Int) (n i v x : Int) : Nat → Int := fun j => match j with
  | 0 => i
  | 1 => v
  | 2 => i + 1
  | 5 => plM vs i v
  | 7 => x
  | 10 => atM vs i
  | 11 => atM ns i
  | 20 => vs.length
  | 21 => ns.length
  | 30 => n
  | _ => 0
def lsM (vs ns : List Int) : Nat → List Int := fun j => match j with
  | 0 => vs
  | 1 => ns
  | _ => []
structure Hd (vs : List Int) (i v : Int) : Prop where
  i0 : 0 ≤ i
  i1 : i ≤ 30
  v0 : 0 ≤ v
  v1 : v ≤ i
theorem pl_in {vs : List Int} {i v : Int} (h : Hd vs i v) : 0 ≤ plM vs i v ∧ plM vs i v < v + 2 := by
  have := h.v0
  exact ⟨Int.emod_nonneg _ (by omega), Int.emod_lt_of_pos _ (by omega)⟩
section
variable {vs ns : List Int} {n i v x : Int}
theorem qC_ok (h : Hd vs i v) (h30 : i < 30) (hl : i < vs.length) : Okq (valM vs ns n i v x) qC := by
  obtain ⟨g0, g1⟩ := pl_in h
  obtain ⟨a1, a2, a3, a4⟩ := h
  have w1 : IntKind.wrap .i64 (2 + i) = 2 + i := IntWalk.i64_in _ (by omega)
  have w2 : IntKind.wrap .i64 (1 + i) = 1 + i := IntWalk.i64_in _ (by omega)
  have w3 : IntKind.wrap .i64 (plM vs i v + 1) = plM vs i v + 1 := IntWalk.i64_in _ (by omega)
  generalize hg : plM vs i v = g at g0 g1 w3
  simp only [Okq, qC, List.forall_mem_cons]
  refine ⟨?_, ?_, ?_, ?_, ?_, ?_, ?_, ?_, ?_, ?_, ?_, ?_, ?_, ?_, ?_, ?_, ?_, ?_, ?_, ?_, ?_, ?_, fun _ h => nomatch h⟩ <;> simp only [cmpI, tmEv, tmOp, valM, hg, w1, w2, w3, Option.some.injEq, decide_eq_true_eq, decide_eq_false_iff_not, beq_iff_eq, beq_eq_false_iff_ne, ne_eq] <;> omega
theorem qN_ok (b : Bool) (hb : decide (i < ns.length) = b) : Okq (valM vs ns n i v x) (qN b) := by
  simp only [Okq, qN, List.forall_mem_cons]
  exact ⟨by simp only [cmpI, tmEv, valM, Option.some.injEq]; exact hb, fun _ h => nomatch h⟩
theorem qF_ok (b : Bool) (hb : (plM vs i v == v) = b) : Okq (valM vs ns n i v x) (qF b) := by
  simp only [Okq, qF, List.forall_mem_cons]
  refine ⟨by simp only [cmpI, tmEv, valM, Option.some.injEq]; exact hb, ?_, fun _ h => nomatch h⟩
  simp only [cmpI, tmEv, valM, Option.some.injEq]
  rw [← hb]
  exact Bool.eq_iff_iff.2 (by simp only [beq_iff_eq]; exact eq_comm)
theorem qG_ok (hb : plM vs i v = v) : Okq (valM vs ns n i v x) qG := by
  simp only [Okq, qG, List.forall_mem_cons]
  refine ⟨?_, fun _ h => nomatch h⟩
  simp only [cmpI, tmEv, tmOp, valM, Option.some.injEq, hb, beq_self_eq_true]
def newM (ns : List Int) (i : Int) (b : Bool) : Int := if b then atM ns i else i
theorem qS_ok (m b : Bool) (hb : (x == newM ns i m) = b) : Okq (valM vs ns n i v x) (qS m b) := by
  simp only [Okq, qS, List.forall_mem_cons]
  refine ⟨?_, fun _ h => nomatch h⟩
  cases m <;> simp only [new, cond, cmpI, tmEv, valM, Option.some.injEq] <;> exact hb
theorem Okq.app {val : Nat → Int} {a b : List Qy} (ha : Okq val a) (hb : Okq val b) : Okq val (a ++ b) := fun q hq => by
  rcases List.mem_append.1 hq with h | h
  · exact ha q h
  · exact hb q h
theorem tX_ok (b : Bool) (h1 : b = true → i < vs.length ∧ ¬ i < 30) (h2 : b = false → ¬ i < vs.length) : Okq (valM vs ns n i v x) (tExit b) := by
  cases b
  · have := h2 rfl
    simp only [Okq, tExit, cond, List.forall_mem_cons]
    refine ⟨?_, ?_, fun _ h => nomatch h⟩ <;> simp only [cmpI, tmEv, valM, Option.some.injEq, decide_eq_true_eq, decide_eq_false_iff_not, beq_self_eq_true] <;> omega
  · have := h1 rfl
    simp only [Okq, tExit, cond, List.forall_mem_cons]
    refine ⟨?_, ?_, ?_, fun _ h => nomatch h⟩ <;> simp only [cmpI, tmEv, valM, Option.some.injEq, decide_eq_true_eq, decide_eq_false_iff_not, beq_self_eq_true] <;> omega
theorem ivs_ok (hi : 0 ≤ i) : ∀ q ∈ ivs5, valM vs ns n i v x q.2.1 = ((lsM vs ns q.1).length : Int) ∧ ∀ j : Nat, valM vs ns n i v x q.2.2.1 = j → j < (lsM vs ns q.1).length → (lsM vs ns q.1)[j]? = some (valM vs ns n i v x q.2.2.2) := by
  have key : ∀ (l : List Int) (j : Nat), i = j → j < l.length → l[j]? = some (atM l i) := by
    intro l j e hj
    subst e
    simp [atM, hj]
  simp only [ivs5, List.forall_mem_cons]
  exact ⟨⟨rfl, fun j e hj => key vs j e hj⟩, ⟨rfl, fun j e hj => key ns j e hj⟩, fun _ h => nomatch h⟩
theorem turn_conf {T T' : List Qy} {h : Okq (valM vs ns n i v x) T} {h' : Okq (valM vs ns n (i + 1) v x) T'} (hH : Hd vs i v) (h30 : i < 30) : Turn (sySy (valM vs ns n i v x) (lsM vs ns) T h) (sySy (valM vs ns n (i + 1) v x) (lsM vs ns) T' h') gConf ivs5 := by
  obtain ⟨a1, a2, a3, a4⟩ := hH
  have w1 : IntKind.wrap .i64 (2 + i) = i + 1 + 1 := by rw [IntWalk.i64_in _ (by omega)]; omega
  have w2 : IntKind.wrap .i64 (1 + i) = i + 1 := by rw [IntWalk.i64_in _ (by omega)]; omega
  have w3 : IntKind.wrap .i64 (i + 1) = i + 1 := IntWalk.i64_in _ (by omega)
  have hv : ∀ p ∈ gConf, tmEv (valM vs ns n i v x) p.2 = valM vs ns n (i + 1) v x p.1 := by
    simp only [gConf, List.forall_mem_cons]
    refine ⟨?_, ?_, ?_, ?_, ?_, fun _ h => nomatch h⟩ <;> simp only [tmEv, tmOp, valM, w1, w2, w3]
  exact ⟨hv, rfl, ivs_ok (by omega)⟩
theorem turn_set {T T' : List Qy} (m : Bool) {h : Okq (valM vs ns n i v x) T} {h' : Okq (valM vs ns n (i + 1) (v + 1) (newM ns i m)) T'} (hH : Hd vs i v) (h30 : i < 30) : Turn (sySy (valM vs ns n i v x) (lsM vs ns) T h) (sySy (valM vs ns n (i + 1) (v + 1) (newM ns i m)) (lsM vs ns) T' h') (gSet m) ivs5 := by
  obtain ⟨a1, a2, a3, a4⟩ := hH
  have w1 : IntKind.wrap .i64 (2 + i) = i + 1 + 1 := by rw [IntWalk.i64_in _ (by omega)]; omega
  have w2 : IntKind.wrap .i64 (1 + i) = i + 1 := by rw [IntWalk.i64_in _ (by omega)]; omega
  have w3 : IntKind.wrap .i64 (i + 1) = i + 1 := IntWalk.i64_in _ (by omega)
  have w4 : IntKind.wrap .i64 (v + 1) = v + 1 := IntWalk.i64_in _ (by omega)
  have hv : ∀ p ∈ gSet m, tmEv (valM vs ns n i v x) p.2 = valM vs ns n (i + 1) (v + 1) (newM ns i m) p.1 := by
    simp only [gSet, List.forall_mem_cons]
    refine ⟨?_, ?_, ?_, ?_, ?_, fun _ h => nomatch h⟩ <;> first | (cases m <;> rfl) | (simp only [tmEv, tmOp, valM, w1, w2, w3, w4])
  exact ⟨hv, rfl, ivs_ok (by omega)⟩
theorem mM_ok {H : Array Obj} (hH : Hd vs i v) {T : List Qy} (h : Okq (valM vs ns n i v x) T) : ∀ f args hl r, @mG (sySy (valM vs ns n i v x) (lsM vs ns) T h) f args hl = some r → @Fact (sySy (valM vs ns n i v x) (lsM vs ns) T h) Tryz.prog H f args hl r :=
  @mG_ok (sySy (valM vs ns n i v x) (lsM vs ns) T h) H rfl ⟨hH.v0, by have := hH.v1; have := hH.i1; show v ≤ 30; omega⟩
/-- At the head of the loop. -/
def J (vs ns : List Int) (n i v x : Int) (W : World) (nt : Nat) (S : St) (a : Act) (w : World) : Prop := ∀ (T : List Qy) (h : Okq (valM vs ns n i v x) T), @InvS (sySy (valM vs ns n i v x) (lsM vs ns) T h) #[] Dfr.no gE W [] nt S a w
theorem law_rounds (vs ns : List Int) (n : Int) {c : Code} {nt : Nat} (hs : Sim Tryz.prog nt c P5.body) {W : World} {Q : Exit → Act → World → Prop}
    (HQ : ∀ (A : Sy), (∀ f args hl r, @mG A f args hl = some r → @Fact A Tryz.prog #[] f args hl r) → ∀ T a w, @chkT A T = true → @InvS A #[] Dfr.no gE W [] nt T a w → Q (.exit 0) a w) :
    ∀ (m : Nat) (i v x : Int) (S : St) (a : Act) (w : World), 30 - i < m → Hd vs i v → (S = sh0 ∨ S = sh1a ∨ S = sh1b) → J vs ns n i v x W nt S a w → Code.rounds Tryz.prog c Q m a w
  | 0, i, v, x, S, a, w, hm, hH, _, _ => absurd hm (by have := hH.i1; omega)
  | m + 1, i, v, x, S, a, w, hm, hH, hS, hJ => by
    show c.wp Tryz.prog _ a w
    have ih := law_rounds vs ns n hs HQ m
    by_cases hl : i < vs.length
    · by_cases h30 : i < 30
      · have hH' : Hd vs (i + 1) v := ⟨by have := hH.i0; omega, by omega, hH.v0, by have := hH.v1; omega⟩
        have hH2 : Hd vs (i + 1) (v + 1) := ⟨by have := hH.i0; omega, by omega, by have := hH.v0; omega, by have := hH.v1; omega⟩
        have C := qC_ok (ns := ns) (n := n) (x := x) hH h30 hl
        cases hf : (plM vs i v == v)
        · -- another version
          cases hn : decide (i < (ns.length : Int))
          · have O : Okq (valM vs ns n i v x) (tConf false) := (qN_ok _ hn).app ((qF_ok _ hf).app C)
            have nxt : ∀ S, (S = sh0 ∨ S = sh1a ∨ S = sh1b) → ∀ a w, (∀ B : Sy, Turn (sySy (valM vs ns n i v x) (lsM vs ns) _ O) B gConf ivs5 → @InvS B #[] Dfr.no gE W [] nt S a w) → Code.rounds Tryz.prog c Q m a w :=
              fun S hS a w hB => ih (i + 1) v x S a w (by omega) hH' hS fun T h => hB _ (turn_conf hH h30)
            rcases hS with rfl | rfl | rfl
            · exact round_ok (mM_ok hH O) hs (rc_0f _ _ O) (hJ _ O) fun a w hB => nxt _ (.inl rfl) a w hB
            · exact round_ok (mM_ok hH O) hs (rc_1af _ _ O) (hJ _ O) fun a w hB => nxt _ (.inr (.inl rfl)) a w hB
            · exact round_ok (mM_ok hH O) hs (rc_1bf _ _ O) (hJ _ O) fun a w hB => nxt _ (.inr (.inr rfl)) a w hB
          · have O : Okq (valM vs ns n i v x) (tConf true) := (qN_ok _ hn).app ((qF_ok _ hf).app C)
            have nxt : ∀ S, (S = sh0 ∨ S = sh1a ∨ S = sh1b) → ∀ a w, (∀ B : Sy, Turn (sySy (valM vs ns n i v x) (lsM vs ns) _ O) B gConf ivs5 → @InvS B #[] Dfr.no gE W [] nt S a w) → Code.rounds Tryz.prog c Q m a w :=
              fun S hS a w hB => ih (i + 1) v x S a w (by omega) hH' hS fun T h => hB _ (turn_conf hH h30)
            rcases hS with rfl | rfl | rfl
            · exact round_ok (mM_ok hH O) hs (rc_0t _ _ O) (hJ _ O) fun a w hB => nxt _ (.inl rfl) a w hB
            · exact round_ok (mM_ok hH O) hs (rc_1at _ _ O) (hJ _ O) fun a w hB => nxt _ (.inr (.inl rfl)) a w hB
            · exact round_ok (mM_ok hH O) hs (rc_1bt _ _ O) (hJ _ O) fun a w hB => nxt _ (.inr (.inr rfl)) a w hB
        · -- this one
          have G : Okq (valM vs ns n i v x) qG := qG_ok (by simpa using hf)
          have F := (qF_ok (ns := ns) (n := n) (x := x) _ hf).app (G.app C)
          have nxt : ∀ (b : Bool) (T : List Qy) (O : Okq (valM vs ns n i v x) T) S, (S = sh0 ∨ S = sh1a ∨ S = sh1b) → ∀ a w, (∀ B : Sy, Turn (sySy (valM vs ns n i v x) (lsM vs ns) T O) B (gSet b) ivs5 → @InvS B #[] Dfr.no gE W [] nt S a w) → Code.rounds Tryz.prog c Q m a w :=
            fun b T O S hS a w hB => ih (i + 1) (v + 1) (newM ns i b) S a w (by omega) hH2 hS fun T h => hB _ (turn_set b hH h30)
          cases hn : decide (i < (ns.length : Int))
          · have N := qN_ok (vs := vs) (n := n) (v := v) (x := x) _ hn
            rcases hS with rfl | rfl | rfl
            · have O : Okq (valM vs ns n i v x) (tBlank false) := N.app F
              exact round_ok (mM_ok hH O) hs (rb_f _ _ O) (hJ _ O) fun a w hB => nxt false _ O _ (.inr (.inl rfl)) a w hB
            · cases he : (x == newM ns i false)
              · have O : Okq (valM vs ns n i v x) (tSet false false) := (qS_ok _ _ he).app (N.app F)
                exact round_ok (mM_ok hH O) hs (rs_aff _ _ O) (hJ _ O) fun a w hB => nxt false _ O _ (.inr (.inl rfl)) a w hB
              · have O : Okq (valM vs ns n i v x) (tSet false true) := (qS_ok _ _ he).app (N.app F)
                exact round_ok (mM_ok hH O) hs (rs_aft _ _ O) (hJ _ O) fun a w hB => nxt false _ O _ (.inr (.inr rfl)) a w hB
            · cases he : (x == newM ns i false)
              · have O : Okq (valM vs ns n i v x) (tSet false false) := (qS_ok _ _ he).app (N.app F)
                exact round_ok (mM_ok hH O) hs (rs_bff _ _ O) (hJ _ O) fun a w hB => nxt false _ O _ (.inr (.inl rfl)) a w hB
              · have O : Okq (valM vs ns n i v x) (tSet false true) := (qS_ok _ _ he).app (N.app F)
                exact round_ok (mM_ok hH O) hs (rs_bft _ _ O) (hJ _ O) fun a w hB => nxt false _ O _ (.inr (.inr rfl)) a w hB
          · have N := qN_ok (vs := vs) (n := n) (v := v) (x := x) _ hn
            rcases hS with rfl | rfl | rfl
            · have O : Okq (valM vs ns n i v x) (tBlank true) := N.app F
              exact round_ok (mM_ok hH O) hs (rb_t _ _ O) (hJ _ O) fun a w hB => nxt true _ O _ (.inr (.inl rfl)) a w hB
            · cases he : (x == newM ns i true)
              · have O : Okq (valM vs ns n i v x) (tSet true false) := (qS_ok _ _ he).app (N.app F)
                exact round_ok (mM_ok hH O) hs (rs_atf _ _ O) (hJ _ O) fun a w hB => nxt true _ O _ (.inr (.inl rfl)) a w hB
              · have O : Okq (valM vs ns n i v x) (tSet true true) := (qS_ok _ _ he).app (N.app F)
                exact round_ok (mM_ok hH O) hs (rs_att _ _ O) (hJ _ O) fun a w hB => nxt true _ O _ (.inr (.inr rfl)) a w hB
            · cases he : (x == newM ns i true)
              · have O : Okq (valM vs ns n i v x) (tSet true false) := (qS_ok _ _ he).app (N.app F)
                exact round_ok (mM_ok hH O) hs (rs_btf _ _ O) (hJ _ O) fun a w hB => nxt true _ O _ (.inr (.inl rfl)) a w hB
              · have O : Okq (valM vs ns n i v x) (tSet true true) := (qS_ok _ _ he).app (N.app F)
                exact round_ok (mM_ok hH O) hs (rs_btt _ _ O) (hJ _ O) fun a w hB => nxt true _ O _ (.inr (.inr rfl)) a w hB
      · have O : Okq (valM vs ns n i v x) (tExit true) := tX_ok true (fun _ => ⟨hl, h30⟩) (fun h => by cases h)
        rcases hS with rfl | rfl | rfl
        · exact exit_ok (mM_ok hH O) hs (ry_0 _ _ O) (hJ _ O) fun T a w hx hI => HQ _ (mM_ok hH O) T a w hx hI
        · exact exit_ok (mM_ok hH O) hs (ry_1a _ _ O) (hJ _ O) fun T a w hx hI => HQ _ (mM_ok hH O) T a w hx hI
        · exact exit_ok (mM_ok hH O) hs (ry_1b _ _ O) (hJ _ O) fun T a w hx hI => HQ _ (mM_ok hH O) T a w hx hI
    · have O : Okq (valM vs ns n i v x) (tExit false) := tX_ok false (fun h => by cases h) (fun _ => hl)
      rcases hS with rfl | rfl | rfl
      · exact exit_ok (mM_ok hH O) hs (rx_0 _ _ O) (hJ _ O) fun T a w hx hI => HQ _ (mM_ok hH O) T a w hx hI
      · exact exit_ok (mM_ok hH O) hs (rx_1a _ _ O) (hJ _ O) fun T a w hx hI => HQ _ (mM_ok hH O) T a w hx hI
      · exact exit_ok (mM_ok hH O) hs (rx_1b _ _ O) (hJ _ O) fun T a w hx hI => HQ _ (mM_ok hH O) T a w hx hI
end
end Go.Pv
