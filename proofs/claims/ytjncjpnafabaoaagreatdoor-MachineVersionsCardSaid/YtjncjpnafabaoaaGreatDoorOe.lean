/- The machine: deferred calls; what comes in. -/
import Derived.Test.YtjncjpnafabaoaaGreatDoorOd
import Derived.Recover
import Derived.ChangeArms
import Derived.ChangeShapes
import Derived.DataReads
import Derived.RowKit
set_option linter.unusedSimpArgs false
set_option linter.unusedVariables false
set_option linter.unusedSectionVars false
namespace Go.Pv
variable [Sy]
/-! ### Functions that lay one deferred call. -/

structure VD where
  pre : VC
  cal : Od
  dargs : List Od
  post : VC
  results : List RV
  fid : FuncId
  rcv : Option (Nat × Nat)
  clo : VC
  deriving Inhabited
def RV.t : RV → Nat
  | .tmp t => t
  | .cell t _ => t
def outD (keep : Nat) (m0 : Nat) (rs : List RV) (s : St) : Option CRes :=
  match resV s rs with
  | some vs => finish keep m0 s (resOne vs)
  | none => none
def rcvV : Option V → V
  | none => .nili
  | some (.ifc t _) => .ifc t .un
  | some _ => .un
def cloEnv (rcv : Option (Nat × Nat)) (pv : Option V) (xs : List V) : Env :=
  match rcv with
  | some (t, t') => (t', rcvV pv) :: (t, rcvV pv) :: envOf 0 xs
  | none => envOf 0 xs
def closD (D : VD) (keep : Nat) (call : Callf) (m0 : Nat) (s2 : St) (xs : List V) (pv : Option V) : Option CRes :=
  match run call 1000 m0 D.clo ⟨cloEnv D.rcv pv xs, s2.heap, s2.ws⟩ with
  | some (.normal, s3) => outD keep m0 D.results ⟨(D.results.map RV.t).map fun t => (t, s2.env.get t), s3.heap, s3.ws⟩
  | some (.ret, s3) => outD keep m0 D.results ⟨(D.results.map RV.t).map fun t => (t, s2.env.get t), s3.heap, s3.ws⟩
  | _ => none
def natD (D : VD) (keep : Nat) (call : Callf) (args : List V) (h : List VO) : Option CRes :=
  match run call 1000 h.length D.pre ⟨envOf 0 args, h, []⟩ with
  | some (.ret, s) => outD keep h.length D.results s
  | some (.normal, s1) => match D.cal.ev s1.env with
    | .fn f aa bb => if f = D.fid then
        (match run call 1000 h.length D.post s1 with
        | some (.normal, s2) => closD D keep call h.length s2 (aa ++ D.dargs.map (·.ev s1.env) ++ bb) none
        | some (.ret, s2) => closD D keep call h.length s2 (aa ++ D.dargs.map (·.ev s1.env) ++ bb) none
        | some (.pan v, s2) => if D.rcv.isSome then closD D keep call h.length s2 (aa ++ D.dargs.map (·.ev s1.env) ++ bb) (some v) else none
        | _ => none)
      else none
    | _ => none
  | _ => none

/-- A function that lays one deferred call, early: what comes ahead; what is called then; what comes behind. -/
inductive SimD (P : Program) (nt : Nat) : Code → VC → Od → List Od → VC → Prop
  | here {id : Nat} {ops : Array Oper} {vl : List VOper} {b : Code} {vb : VC} {o : Oper} {c : Call} {x : Operand} {od : Od} {da : List Od} (hs : stripOps P ops (Region.before ops) nt (ops.toList.take (ops.size - 1)) 0 [] = some vl)
      (hn : ops.size = vl.length + 1) (ho : ops[vl.length]? = some o) (hd : o.op = .defer c) (hg : o.guard = none) (hdst : o.dst = none) (hc : c.callee = .value x) (hx : odOf x = some od) (ha : odsOf c.args.toList = some da) (hb : Sim P nt b vb) :
      SimD P nt (.seq (.region id ops false) b) (.reg vl false) od da vb
  | seq {a b : Code} {va vp vb : VC} {od : Od} {da : List Od} (ha : Sim P nt a va) (hb : SimD P nt b vp od da vb) : SimD P nt (.seq a b) (.seq va vp) od da vb

section
variable {P : Program} {H : Array Obj} {gE : G} {wE : World} {hl : List VO} {nt : Nat} {call : Callf} {n : Nat}

theorem invoke_fn (f : FuncId) (cap args : Array Value) : invoke (.fn (.func f) cap) args = callFunc f (args ++ cap) := rfl

def mkD (f : FuncId) (k : Nat) (us : List Value) : List Deferred := [{ target := .fn (.func f) (us.drop k).toArray, args := (us.take k).toArray }]

theorem simD_ok (hm : P.follows .mixedOrders = true) (HC : CallOk P H call) (hE : Ent H gE wE hl) {c : Code} {v vb : VC} {od : Od} {da : List Od} (hs : SimD P nt c v od da vb) : ∀ (s s' : St) (x : Ex) (Q : Exit → Act → World → Prop) (a : Act) (w : World),
    run call n hl.length v s = some (x, s') → InvS H Dfr.no gE wE hl nt s a w → (x ≠ .normal → Good H Dfr.no gE wE hl nt x s' Q) →
    (x = .normal → vb.noGc = true ∧ ∃ f aa bb y s2, od.ev s'.env = .fn f aa bb ∧ run call n hl.length vb s' = some (y, s2) ∧ Good H ⟨mkD f (aa.length + da.length), aa ++ da.map (·.ev s'.env) ++ bb, fun _ => True⟩ gE wE hl nt y s2 Q) → c.wp P Q a w := by
  induction hs with
  | @here id ops vl b vb o c x od da hs hn ho hd hg hdst hc hx ha hb =>
    intro s s' ex Q a w hr hI h1 h2
    simp only [run] at hr
    have hsz : ops.size - 1 = vl.length := by omega
    rw [hsz] at hs
    obtain ⟨k1, k2⟩ := stripOps_ok hs rfl
    refine wp_seq (wp_region ?_)
    rw [List.range_eq_range', hn, List.range'_concat]
    refine region_text_rest (ops := ops) (bef := Region.before ops) (n := ops.size) (pur := fun q => (vl.map (·.op.pure)).getD q true) HC _ vl 0 [] s a w (fun j o v ho hv => by
      have hj : j < vl.length := (List.getElem?_eq_some_iff.1 hv).1
      have := k2 j o v (by rw [List.getElem?_take, if_pos hj]; simpa using ho) hv
      simpa using this) (by omega) hr hI ?_
    cases ex with
    | normal =>
      obtain ⟨hng, f, aa, bb, y, s2, e1, e2, e3⟩ := h2 rfl
      intro a1 w1 hI1
      obtain ⟨g1, I1⟩ := hI1
      have E := evs_of I1.laid I1.env
      have hv := od_ok E hx
      rw [e1] at hv
      obtain ⟨A, A', hu, hA, hA', ra, rb⟩ := hv.inv_fn
      obtain ⟨q1, q2⟩ := ods_ok E ha
      show wpOps P ops _ [0 + 1 * vl.length] a1 w1
      rw [wpOps_cons]
      unfold wpOp
      simp only [Nat.zero_add, Nat.one_mul, ho]
      rw [if_pos (by simp [Region.wanted, hg])]
      left
      unfold Oper.wp
      have hrun : (execOp a1.eval o).run P w1 = .ok (.defer { target := .fn (.func f) A', args := A ++ c.args.map a1.eval }) w1 := by
        simp [execOp, hd, resolve, hc, hu, Deferred.ofValue]
      rw [hrun, Oper.upon_defer]
      show b.wp P Q _ w1
      refine run_ok hm HC hE hb s' s2 y Q _ w1 (.inr hng) e2 ⟨g1, I1.rel, I1.step, I1.X, I1.laid, I1.dom, I1.h, I1.B, ?_, ?_, ?_, I1.len, I1.ws⟩ e3
      · intro t
        rw [hdst]
        exact I1.env t
      · rw [hdst]; exact I1.size
      · rw [hdst]
        refine ⟨A.toList ++ (c.args.map a1.eval).toList ++ A'.toList, trivial, ?_, ?_, ?_⟩
        · have hd0 : a1.defers = [] := by obtain ⟨us, _, h, _⟩ := I1.defers; exact h
          have hk : (A.toList ++ (c.args.map a1.eval).toList).length = aa.length + da.length := by simp [hA, q1]
          show _ :: a1.defers = mkD _ _ _
          rw [hd0, mkD, ← hk, List.take_left, List.drop_left]
          simp
        · simp [hA, hA', q1]
        · intro j x u hx' hu'
          rw [List.append_assoc] at hx' hu'
          rw [List.getElem?_append] at hx' hu'
          have l1 : A.toList.length = aa.length := by simpa using hA
          rw [l1] at hu'
          split at hx'
          · rename_i hj
            rw [if_pos hj] at hu'
            exact ra j x u hx' (by simpa using hu')
          · rename_i hj
            rw [if_neg hj] at hu'
            rw [List.getElem?_append] at hx' hu'
            have l2 : (c.args.map a1.eval).toList.length = (da.map (·.ev s'.env)).length := by simp [q1]
            rw [l2] at hu'
            split at hx'
            · rename_i hj2
              rw [if_pos hj2] at hu'
              exact q2 _ x u hx' (by simpa using hu')
            · rename_i hj2
              rw [if_neg hj2] at hu'
              exact rb _ x u hx' (by simpa using hu')
    | exit i => exact h1 (by simp)
    | goto l => exact h1 (by simp)
    | ret => exact h1 (by simp)
    | pan v => exact h1 (by simp)
  | seq ha hb ih =>
    intro s s' x Q a w hr hI h1 h2
    simp only [run] at hr
    refine wp_seq ?_
    split at hr
    · rename_i s1 hs1
      exact run_ok hm HC hE ha s s1 .normal _ a w (.inl rfl) hs1 hI fun a1 w1 hI1 => ih s1 s' x Q a1 w1 hr hI1 h1 h2
    · rename_i hne
      refine run_ok hm HC hE ha s s' x _ a w (.inl rfl) hr hI ?_
      cases x with
      | normal => exact absurd hr (hne s')
      | exit id => exact h1 (by simp)
      | goto l => exact h1 (by simp)
      | ret => exact h1 (by simp)
      | pan v => exact h1 (by simp)

/-- What is called then: it may recover, first of all. -/
inductive SimC (P : Program) (nt : Nat) : Code → Option (Nat × Nat) → VC → Prop
  | bare {c : Code} {v : VC} (h : Sim P nt c v) : SimC P nt c none v
  | rcv {id : Nat} {ops : Array Oper} {b : Code} {vb : VC} {o o' : Oper} {t t' : Nat} {l : Call} (hn : ops.size = 2) (h0 : ops[0]? = some o) (h1 : ops[1]? = some o') (ho : o.op = .call l) (hl : l.callee = .builtin .recover) (hla : l.args = #[]) (hlt : l.argTypes = #[])
      (hg : o.guard = none) (hdst : o.dst = some t) (ho' : o'.op = .assign (.tmp t)) (hg' : o'.guard = none) (hdst' : o'.dst = some t') (ht : t < nt) (ht' : t' < nt) (hb : Sim P nt b vb) : SimC P nt (.seq (.region id ops false) b) (some (t, t')) vb


def dfOf (xs : List V) (us0 : List Value) : Dfr := ⟨fun _ => [], xs, fun us => us = us0⟩
theorem dfOf_defR {g : G} {w : World} {xs : List V} {us0 : List Value} (hl : us0.length = xs.length) (h : ∀ (j : Nat) (x : V) (u : Value), xs[j]? = some x → us0[j]? = some u → VR g w true x u) : DefR g w (dfOf xs us0) [] :=
  ⟨us0, rfl, rfl, hl, h⟩
theorem dfOf_inv {g : G} {w : World} {xs : List V} {us0 : List Value} {ds : List Deferred} (h : DefR g w (dfOf xs us0) ds) : ds = [] ∧ ∀ (j : Nat) (x : V) (u : Value), xs[j]? = some x → us0[j]? = some u → VR g w true x u := by
  obtain ⟨us, rfl, h1, _, h3⟩ := h
  exact ⟨h1, h3⟩

/-- What is handed back, behind all. -/
theorem outD_ok (hE : Ent H gE wE hl) {fn : Func} {rs : List RV} (hr : stripR P fn.results.toList = some rs) {tmps : Array Value} {env : Env} {s3 : St} {g3 : G} {w3 : World} {ntc : Nat} {a3 : Act} {keep : Nat} {r : CRes}
    (I3 : Inv H (dfOf ((rs.map RV.t).map env.get) ((rs.map RV.t).map fun t => Act.eval { tmps := tmps, defers := [] } (.tmp t))) gE wE hl ntc s3 a3 w3 g3)
    (ho : outD keep hl.length rs ⟨(rs.map RV.t).map fun t => (t, env.get t), s3.heap, s3.ws⟩ = some r) : Leaves P fn tmps (CallR gE wE hl r) [] .returning w3 := by
  have hv := (dfOf_inv I3.defers).2
  have I' : Inv H Dfr.no gE wE hl 0 ⟨(rs.map RV.t).map fun t => (t, env.get t), s3.heap, s3.ws⟩ { tmps := tmps, defers := [] } w3 g3 := by
    refine ⟨I3.rel, I3.step, I3.X, I3.laid, I3.dom, I3.h, I3.B, fun t => ?_, Nat.zero_le _, DefR.no, I3.len, I3.ws⟩
    show VR g3 w3 true (Env.get _ t) _
    rw [get_trim]
    split
    · rename_i ht
      obtain ⟨j, hj⟩ := List.mem_iff_getElem?.1 ht
      exact hv j _ _ (by rw [List.getElem?_map, hj]; rfl) (by rw [List.getElem?_map, hj]; rfl)
    · exact .un _
  unfold outD at ho
  split at ho
  · rename_i vs hvs
    obtain ⟨u, k1, k2⟩ := results_ok (P := P) I' hr hvs
    exact ⟨u, k1, finish_ok hE I' k2 ho⟩
  · cases ho

/-- What stands behind it. -/
def cloR (P : Program) (fn : Func) (tmps : Array Value) (R : Ending → World → Prop) : Ending → FrameMode → World → Prop
  | .returned _, u', w' => Leaves P fn tmps R [] (settle u') w'
  | .panicked chain, u', w' => Leaves P fn tmps R [] (raised u' chain) w'
  | .outgrown, _, w' => R .outgrown w'

/-- The call that waited. -/
theorem clo_ok (hm : P.follows .mixedOrders = true) (HC : CallOk P H call) (hE : Ent H gE wE hl) {fn fc : Func} {f : FuncId} {cc : Code} {D : VD} {k keep : Nat} {s2 s3 : St} {y : Ex} {r : CRes} {a2 : Act} {w2 : World} {xs : List V}
    (hr : stripR P fn.results.toList = some D.results) (hfc : P.funcs[f]? = some fc) (hbc : fc.body = some cc) (hnm : (fc.name == "runtime.NumGoroutine") = false) (hrc : fc.results = #[]) (hS : SimC P fc.ntmps cc D.rcv D.clo) (hng : D.clo.noGc = true)
    (hI : InvS H ⟨mkD f k, xs, fun _ => True⟩ gE wE hl nt s2 a2 w2) {pv : Option V} {u : FrameMode} (hu : (u = .returning ∧ pv = none) ∨ ∃ v uv, u = .panicking [{ v := uv, recovered := false }] ∧ pv = some v ∧ PanR v uv ∧ D.rcv.isSome = true)
    (hrun : run call 1000 hl.length D.clo ⟨cloEnv D.rcv pv xs, s2.heap, s2.ws⟩ = some (y, s3)) (hy : y = .normal ∨ y = .ret)
    (ho : outD keep hl.length D.results ⟨(D.results.map RV.t).map fun t => (t, s2.env.get t), s3.heap, s3.ws⟩ = some r) : Leaves P fn a2.tmps (CallR gE wE hl r) a2.defers u w2 := by
  obtain ⟨g2, I2⟩ := hI
  obtain ⟨us, _, hds, hlen, hvr⟩ := I2.defers
  simp only at hds hlen hvr
  rw [hds, mkD]
  have hrn : u ≠ .run := by rcases hu with ⟨rfl, _⟩ | ⟨v, uv, rfl, _⟩ <;> simp
  have hus : (us.take k).toArray ++ (us.drop k).toArray = us.toArray := by simp
  have hnm' : ¬ fc.name = "runtime.NumGoroutine" := by simpa using hnm
  refine leaves_cons hrn (f := f) (args := us.toArray) (by rw [invoke_fn, hus]; simp [callFunc, hfc, hbc, hnm']) (CallsD.mono (R := cloR P fn a2.tmps (CallR gE wE hl r)) ?_ (by intro e u' w' h; cases e <;> exact h))
  -- what is known as it begins
  let rs0 := (D.results.map RV.t).map fun t => Act.eval { tmps := a2.tmps, defers := [] } (.tmp t)
  let df' := dfOf ((D.results.map RV.t).map s2.env.get) rs0
  have hdef : DefR g2 w2 df' [] := dfOf_defR (by simp [rs0]) fun j x v hx hv => by
    rw [List.getElem?_map, Option.map_eq_some_iff] at hx hv
    obtain ⟨t, ht, rfl⟩ := hx
    obtain ⟨t', ht', rfl⟩ := hv
    rw [ht] at ht'
    cases ht'
    exact I2.env t
  let a0 : Act := { tmps := us.toArray ++ Array.replicate (fc.ntmps - us.toArray.size) undef, defers := [] }
  have I0 : Inv H df' gE wE hl fc.ntmps ⟨envOf 0 xs, s2.heap, s2.ws⟩ a0 w2 g2 := by
    refine ⟨I2.rel, I2.step, I2.X, I2.laid, I2.dom, I2.h, I2.B, fun t => ?_, by simp [a0]; omega, hdef, I2.len, I2.ws⟩
    show VR g2 w2 true ((envOf 0 xs).get t) _
    rw [env_of]
    simp only [Nat.zero_le, if_true, Nat.sub_zero]
    rcases Nat.lt_or_ge t xs.length with ht | ht
    · have hx : xs[t]? = some xs[t] := List.getElem?_eq_getElem ht
      have hut : us[t]? = some (us[t]'(by rw [hlen]; exact ht)) := List.getElem?_eq_getElem _
      rw [List.getD_eq_getElem?_getD, hx]
      have hus' : t < us.length := by rw [hlen]; exact ht
      have e1 : a0.eval (.tmp t) = us[t] := by
        simp [a0, Act.eval, Array.getD_eq_getD_getElem?, Array.getElem?_append, hus']
      rw [e1]
      exact hvr t _ _ hx hut
    · rw [List.getD_eq_getElem?_getD, List.getElem?_eq_none ht]
      exact .un _
  -- its end
  have fin : ∀ (u' : FrameMode), settle u' = .returning → ∀ (c₀ : Frame) (cs cs' : List Frame), cs' = { c₀ with mode := u' } :: cs →
      Good H df' gE wE hl fc.ntmps y s3 (fun e a w => bodyPostS P fc c₀ cs (cloR P fn a2.tmps (CallR gE wE hl r)) e a cs' w) := by
    intro u' hu' c₀ cs cs' hcs
    have key : ∀ a w, InvS H df' gE wE hl fc.ntmps s3 a w → a.defers = [] ∧ ∃ u', cs' = { c₀ with mode := u' } :: cs ∧ ∃ v, (Go.results fc a.tmps).run P w = .ok v w ∧ Leaves P fn a2.tmps (CallR gE wE hl r) [] (settle u') w := by
      rintro a w ⟨g3, I3⟩
      have hd : a.defers = [] := (dfOf_inv I3.defers).1
      obtain ⟨v, k1, _⟩ := results_ok (P := P) (fn := fc) I3 (rs := []) (vs := []) (by rw [hrc]; rfl) rfl
      refine ⟨hd, u', hcs, v, k1, ?_⟩
      rw [hu']
      exact outD_ok hE hr I3 ho
    rcases hy with rfl | rfl
    · exact fun a w hI => key a w hI
    · exact fun a w hI => key a w hI
  refine callsD_of_wpS hfc hbc ?_
  intro c₀ cs hmode
  have hc0 : c₀ = { c₀ with mode := u } := by subst hmode; rfl
  cases hS' : D.rcv with
  | none =>
    rw [hS'] at hS hrun
    cases hS with
    | bare h =>
      rcases hu with ⟨rfl, rfl⟩ | ⟨v, uv, _, _, _, h'⟩
      · exact wpS_of_wp (run_ok hm HC hE h _ s3 y _ a0 w2 (.inr hng) hrun ⟨g2, I0⟩ (fin .returning rfl c₀ cs _ (by rw [← hc0])))
      · rw [hS'] at h'; cases h'
  | some p =>
    obtain ⟨t, t'⟩ := p
    rw [hS'] at hS hrun
    cases hS with
    | @rcv id ops b vb o o' _ _ l hn h0 h1 ho1 hlc hla hlt hg hdst ho' hg' hdst' ht ht' hb =>
      refine wpS_seq (wpS_region ?_)
      have hra : List.range ops.size = [0, 1] := by rw [hn]; rfl
      rw [hra]
      have hrc1 : ∀ w, (execOp a0.eval o).run P w = .ok .recover w := by
        intro w
        simp [execOp, ho1, resolve, hlc, hla, hlt, invoke, builtin]
      have hwant : ∀ (q : Oper) (a : Act), q.guard = none → Region.wanted q (yielded ops a.tmps) = true := by
        intro q a hq
        simp [Region.wanted, hq]
      -- with what it goes on
      have goOn : ∀ (u' : FrameMode) (x : Value), settle u' = .returning → VR g2 w2 true (rcvV pv) x → Code.wpS P b (bodyPostS P fc c₀ cs (cloR P fn a2.tmps (CallR gE wE hl r))) ((a0.put (some t) x).put (some t') x) ({ c₀ with mode := u' } :: cs) w2 := by
        intro u' x hset hx
        refine wpS_of_wp (run_ok hm HC hE hb _ s3 y _ _ w2 (.inr hng) hrun ⟨g2, ?_⟩ (fin u' hset c₀ cs _ rfl))
        have p1 := I0.put (d := some t) (v := rcvV pv) (u := x) (Eff.nil g2) I0.rel (Step.refl g2 w2) hx rfl (fun z hz => by cases hz; exact ht)
        have p2 := p1.put (d := some t') (v := rcvV pv) (u := x) (Eff.nil g2) p1.rel (Step.refl g2 w2) hx rfl (fun z hz => by cases hz; exact ht')
        exact p2
      unfold wpOpsS
      simp only [h0]
      rw [if_pos (hwant o a0 hg), hrc1]
      rcases hu with ⟨rfl, rfl⟩ | ⟨v, uv, rfl, rfl, hp, _⟩
      · have hrd : recoverD (c₀ :: cs) = none := by simp [recoverD, hmode]
        simp only [hrd, hdst]
        unfold wpOpsS
        simp only [h1]
        rw [if_pos (hwant o' _ hg')]
        have e2 : (execOp (a0.put (some t) .nilIface).eval o').run P w2 = .ok (.value .nilIface) w2 := by
          have : t < a0.tmps.size := Nat.lt_of_lt_of_le ht I0.size
          simp [execOp, ho', Act.put, Act.eval, this]
        rw [e2]
        simp only [Oper.upon_value, hdst', wpOpsS]
        have := goOn .returning .nilIface rfl (.nili _)
        rwa [← hc0] at this
      · obtain ⟨ty, x0, y0, rfl, rfl⟩ := hp
        have hrd : recoverD (c₀ :: cs) = some (.iface ty y0, { c₀ with mode := .panicking [{ v := .iface ty y0, recovered := true }] } :: cs) := by simp [recoverD, hmode]
        simp only [hrd, hdst]
        unfold wpOpsS
        simp only [h1]
        rw [if_pos (hwant o' _ hg')]
        have e2 : (execOp (a0.put (some t) (.iface ty y0)).eval o').run P w2 = .ok (.value (.iface ty y0)) w2 := by
          have : t < a0.tmps.size := Nat.lt_of_lt_of_le ht I0.size
          simp [execOp, ho', Act.put, Act.eval, this]
        rw [e2]
        simp only [Oper.upon_value, hdst', wpOpsS]
        exact goOn (.panicking [{ v := .iface ty y0, recovered := true }]) (.iface ty y0) rfl (.ifc _ _ _ _ (.un _))

/-- A function that lays one deferred call is the model's. -/
theorem natD_ok (hm : P.follows .mixedOrders = true) {f : FuncId} {fn fc : Func} {c cc : Code} {D : VD} (hfn : P.funcs[f]? = some fn) (hb : fn.body = some c) (hname : (fn.name == "runtime.NumGoroutine") = false) (hr : stripR P fn.results.toList = some D.results)
    (hs : SimD P fn.ntmps c D.pre D.cal D.dargs D.post) (hng : D.post.noGc = true)
    (hfc : P.funcs[D.fid]? = some fc) (hbc : fc.body = some cc) (hnm : (fc.name == "runtime.NumGoroutine") = false) (hrc : fc.results = #[]) (hS : SimC P fc.ntmps cc D.rcv D.clo) (hngc : D.clo.noGc = true) {keep : Nat} :
    ∀ call, CallOk P H call → ∀ args hl r, natD D keep call args hl = some r → ∀ (g : G) (w : World) (us : Array Value), Ent H g w hl → Args g w args us → Far P f us w (CallR g w hl r) := by
  intro call HC args hl r h g w us hE hA
  have h3' : ¬ fn.name = "runtime.NumGoroutine" := by simpa using hname
  left
  refine ⟨by simp [callFunc, hfn, hb, h3'], calls_of_wp_defers hfn hb ?_⟩
  have I0 : InvS H Dfr.no g w hl fn.ntmps ⟨envOf 0 args, hl, []⟩ { tmps := us ++ Array.replicate (fn.ntmps - us.size) undef, defers := [] } w := entry_inv hE hA
  unfold natD at h
  split at h
  · -- handed back ahead of it
    rename_i s hrun
    refine simD_ok hm HC hE hs _ s .ret _ _ w hrun I0 (fun _ => ?_) (fun e => by cases e)
    rintro a' w' ⟨g', I⟩
    show Leaves P fn a'.tmps _ a'.defers .returning w'
    rw [I.noDefers]
    unfold outD at h
    split at h
    · rename_i vs hvs
      obtain ⟨u, k1, k2⟩ := results_ok (P := P) I hr hvs
      exact ⟨u, k1, finish_ok hE I k2 h⟩
    · cases h
  · rename_i s1 hrun
    split at h
    · rename_i f' aa bb hcal
      split at h
      · rename_i hf
        subst hf
        split at h
        · rename_i s2 hr2
          unfold closD at h
          refine simD_ok hm HC hE hs _ s1 .normal _ _ w hrun I0 (fun e => absurd rfl e) (fun _ => ⟨hng, _, aa, bb, _, s2, hcal, hr2, fun a2 w2 hI2 => ?_⟩)
          split at h
          · rename_i s3 hr3
            exact clo_ok hm HC hE hr hfc hbc hnm hrc hS hngc hI2 (.inl ⟨rfl, rfl⟩) hr3 (.inl rfl) h
          · rename_i s3 hr3
            exact clo_ok hm HC hE hr hfc hbc hnm hrc hS hngc hI2 (.inl ⟨rfl, rfl⟩) hr3 (.inr rfl) h
          · cases h
        · rename_i s2 hr2
          unfold closD at h
          refine simD_ok hm HC hE hs _ s1 .normal _ _ w hrun I0 (fun e => absurd rfl e) (fun _ => ⟨hng, _, aa, bb, _, s2, hcal, hr2, fun a2 w2 hI2 => ?_⟩)
          split at h
          · rename_i s3 hr3
            exact clo_ok hm HC hE hr hfc hbc hnm hrc hS hngc hI2 (.inl ⟨rfl, rfl⟩) hr3 (.inl rfl) h
          · rename_i s3 hr3
            exact clo_ok hm HC hE hr hfc hbc hnm hrc hS hngc hI2 (.inl ⟨rfl, rfl⟩) hr3 (.inr rfl) h
          · cases h
        · rename_i v s2 hr2
          split at h
          · rename_i hrs
            unfold closD at h
            refine simD_ok hm HC hE hs _ s1 .normal _ _ w hrun I0 (fun e => absurd rfl e) (fun _ => ⟨hng, _, aa, bb, _, s2, hcal, hr2, fun a2 w2 u hp hI2 => ?_⟩)
            split at h
            · rename_i s3 hr3
              exact clo_ok hm HC hE hr hfc hbc hnm hrc hS hngc hI2 (.inr ⟨v, u, rfl, rfl, hp, hrs⟩) hr3 (.inl rfl) h
            · rename_i s3 hr3
              exact clo_ok hm HC hE hr hfc hbc hnm hrc hS hngc hI2 (.inr ⟨v, u, rfl, rfl, hp, hrs⟩) hr3 (.inr rfl) h
            · cases h
          · cases h
        · cases h
      · cases h
    · cases h
  · cases h
end
end Go.Pv
namespace Go.Pv
variable [Sy]
/-! ### Stripping functions with a deferred call. -/
def lastDefer (ops : Array Oper) : Option (Operand × List Operand) :=
  match ops[ops.size - 1]? with
  | some ⟨d, .defer c, _, _, _, g⟩ => if d.isNone && g.isNone then (match c.callee with | .value x => some (x, c.args.toList) | _ => none) else none
  | _ => none
variable (P : Program)
def stripDC (nt : Nat) : Code → Option (VC × Od × List Od × VC)
  | .seq (.region id ops false) b => match lastDefer ops with
    | some (x, l) => (match stripOps P ops (Region.before ops) nt (ops.toList.take (ops.size - 1)) 0 [], odOf x, odsOf l, stripC P nt b with
      | some vl, some od, some da, some vb => if ops.size = vl.length + 1 then some (.reg vl false, od, da, vb) else none
      | _, _, _, _ => none)
    | none => match stripC P nt (.region id ops false), stripDC nt b with
      | some va, some (vp, od, da, vb) => some (.seq va vp, od, da, vb)
      | _, _ => none
  | .seq a b => match stripC P nt a, stripDC nt b with
    | some va, some (vp, od, da, vb) => some (.seq va vp, od, da, vb)
    | _, _ => none
  | _ => none
def isRcv : Callee → Bool
  | .builtin .recover => true
  | _ => false
theorem isRcv_ok {c : Callee} (h : isRcv c = true) : c = .builtin .recover := by
  unfold isRcv at h
  split at h
  · rfl
  · cases h
def rcvOf (ops : Array Oper) (nt : Nat) : Option (Nat × Nat) :=
  match ops.size == 2, ops[0]?, ops[1]? with
  | true, some o, some o' => match o.op, o'.op, o.dst, o'.dst with
    | .call l, .assign (.tmp t1), some t, some t' => if o.guard.isNone && o'.guard.isNone && isRcv l.callee && l.args.size == 0 && l.argTypes.size == 0 && t1 == t && decide (t < nt) && decide (t' < nt) then some (t, t') else none
    | _, _, _, _ => none
  | _, _, _ => none
def stripCl (nt : Nat) : Code → Option (Option (Nat × Nat) × VC)
  | .seq (.region id ops false) b => match rcvOf ops nt with
    | some p => (stripC P nt b).map fun v => (some p, v)
    | none => (stripC P nt (.seq (.region id ops false) b)).map fun v => (none, v)
  | c => (stripC P nt c).map fun v => (none, v)
def stripVD (fn fc : Func) (fid : FuncId) : Option VD :=
  match fn.body, fc.body with
  | some c, some cc => match stripDC P fn.ntmps c, stripR P fn.results.toList, stripCl P fc.ntmps cc with
    | some (vp, od, da, vb), some rs, some (rcv, v) => if vb.noGc && v.noGc && fc.results.size == 0 then some ⟨vp, od, da, vb, rs, fid, rcv, v⟩ else none
    | _, _, _ => none
  | _, _ => none

section
variable {P : Program} {nt : Nat}
theorem lastDefer_ok {ops : Array Oper} {x : Operand} {l : List Operand} (h : lastDefer ops = some (x, l)) : ∃ o c, ops[ops.size - 1]? = some o ∧ o.op = .defer c ∧ o.guard = none ∧ o.dst = none ∧ c.callee = .value x ∧ c.args.toList = l := by
  unfold lastDefer at h
  split at h
  · rename_i d c _ _ _ g ho
    split at h
    · rename_i hd
      simp only [Bool.and_eq_true, Option.isNone_iff_eq_none] at hd
      split at h
      · rename_i y hy
        simp only [Option.some.injEq, Prod.mk.injEq] at h
        obtain ⟨rfl, rfl⟩ := h
        exact ⟨_, c, ho, rfl, hd.2, hd.1, hy, rfl⟩
      · cases h
    · cases h
  · cases h
theorem stripDC_ok : ∀ (c : Code) {vp vb : VC} {od : Od} {da : List Od}, stripDC P nt c = some (vp, od, da, vb) → SimD P nt c vp od da vb := by
  intro c
  induction c with
  | seq a b iha ihb =>
    intro vp vb od da h
    have seqc : ∀ {x y z}, stripC P nt a = some x → stripDC P nt b = some y → some (VC.seq x y.1, y.2.1, y.2.2.1, y.2.2.2) = some z → SimD P nt (.seq a b) z.1 z.2.1 z.2.2.1 z.2.2.2 := by
      rintro x ⟨y1, y2, y3, y4⟩ z h1 h2 h3
      cases h3
      exact .seq (stripC_sim h1) (ihb h2)
    unfold stripDC at h
    split at h
    · rename_i id ops b' heq
      cases heq
      split at h
      · rename_i x l hl
        obtain ⟨o, c, h1, h2, h3, h4, h5, h6⟩ := lastDefer_ok hl
        split at h
        · rename_i vl od' da' vb' e1 e2 e3 e4
          split at h
          · rename_i hn
            cases h
            exact .here e1 hn (by rw [← h1, hn]; rfl) h2 h3 h4 h5 e2 (by rw [h6]; exact e3) (stripC_sim e4)
          · cases h
        · cases h
      · split at h
        · rename_i va vp' od' da' vb' e1 e2
          exact seqc e1 e2 h
        · cases h
    · rename_i a' b' _ heq
      cases heq
      split at h
      · rename_i va vp' od' da' vb' e1 e2
        exact seqc e1 e2 h
      · cases h
    · cases h
  | _ => intro vp vb od da h; simp [stripDC] at h
theorem rcvOf_ok {ops : Array Oper} {p : Nat × Nat} (h : rcvOf ops nt = some p) {id : Nat} {b : Code} {vb : VC} (hb : Sim P nt b vb) : SimC P nt (.seq (.region id ops false) b) (some p) vb := by
  unfold rcvOf at h
  split at h
  · rename_i o o' hn h0 h1
    split at h
    · rename_i l t1 t t' e1 e2 e3 e4
      split at h
      · rename_i hc
        cases h
        simp only [Bool.and_eq_true, Option.isNone_iff_eq_none, beq_iff_eq, decide_eq_true_eq] at hc
        obtain ⟨⟨⟨⟨⟨⟨⟨c1, c2⟩, c3⟩, c4⟩, c5⟩, c6⟩, c7⟩, c8⟩ := hc
        subst c6
        have hcal := isRcv_ok c3
        exact .rcv (by simpa using hn) h0 h1 e1 hcal (Array.size_eq_zero_iff.1 c4) (Array.size_eq_zero_iff.1 c5) c1 e3 e2 c2 e4 c7 c8 hb
      · cases h
    · cases h
  · cases h
theorem stripCl_ok {c : Code} {r : Option (Nat × Nat)} {v : VC} (h : stripCl P nt c = some (r, v)) : SimC P nt c r v := by
  unfold stripCl at h
  split at h
  · split at h
    · rename_i p hp
      simp only [Option.map_eq_some_iff, Prod.mk.injEq] at h
      obtain ⟨x, h1, rfl, rfl⟩ := h
      exact rcvOf_ok hp (stripC_sim h1)
    · simp only [Option.map_eq_some_iff, Prod.mk.injEq] at h
      obtain ⟨x, h1, rfl, rfl⟩ := h
      exact .bare (stripC_sim h1)
  · simp only [Option.map_eq_some_iff, Prod.mk.injEq] at h
    obtain ⟨x, h1, rfl, rfl⟩ := h
    exact .bare (stripC_sim h1)

/-- What the function's and the deferred function's own texts make of it. -/
theorem stripVD_ok (hm : P.follows .mixedOrders = true) {H : Array Obj} {f fid : FuncId} {fn fc : Func} {D : VD} (h : stripVD P fn fc fid = some D) (hfn : P.funcs[f]? = some fn) (hname : (fn.name == "runtime.NumGoroutine") = false)
    (hfc : P.funcs[fid]? = some fc) (hnm : (fc.name == "runtime.NumGoroutine") = false) {keep : Nat} :
    ∀ call, CallOk P H call → ∀ args hl r, natD D keep call args hl = some r → ∀ (g : G) (w : World) (us : Array Value), Ent H g w hl → Args g w args us → Far P f us w (CallR g w hl r) := by
  unfold stripVD at h
  split at h
  · rename_i c cc hb hbc
    split at h
    · rename_i vp od da vb rs rcv v e1 e2 e3
      split at h
      · rename_i hc
        cases h
        simp only [Bool.and_eq_true, beq_iff_eq] at hc
        exact natD_ok hm hfn hb hname e2 (stripDC_ok c e1) hc.1.1 hfc hbc hnm (Array.size_eq_zero_iff.1 hc.2) (stripCl_ok e3) hc.1.2
      · cases h
    · cases h
  · cases h
end
end Go.Pv
namespace Go.Pv
variable [Sy]
open Go.ChangeShapes
/-! ### What comes in, as values of the machine. -/
inductive FK where
  | bool
  | int (k : IntKind)
  | str
  deriving DecidableEq

section
variable (P : Program)
def flatFs (p : TypeId → Option (List FK)) (tot : Nat) : Nat → List Field → Option (List FK)
  | n, [] => if n = tot then some [] else none
  | n, f :: r => match p f.type with
    | some ks => if f.offset = n ∧ ks.length = P.cellsOf f.type then (flatFs p tot (n + ks.length) r).map (ks ++ ·) else none
    | none => none
def flatT : Nat → TypeId → Option (List FK)
  | 0, _ => none
  | d + 1, t => match P.underlying t with
    | some .bool => some [.bool]
    | some (.int k) => some [.int k]
    | some .string => some [.str]
    | some (.struct fs) => flatFs P (flatT d) (P.cellsOf t) 0 fs.toList
    | _ => none
end

inductive FL : List FK → List V → List Value → Prop
  | nil : FL [] [] []
  | bool (b : Bool) {ks : List FK} {vs : List V} {cs : List Value} (h : FL ks vs cs) : FL (.bool :: ks) (.bool b :: vs) (.bool b :: cs)
  | int (k : IntKind) (n : Int) (hw : (Lit.int k n).wf = true) {ks : List FK} {vs : List V} {cs : List Value} (h : FL ks vs cs) : FL (.int k :: ks) (.int k n :: vs) (.int k n :: cs)
  | str (s : ByteArray) (hs : s.size ≤ maxLen) {ks : List FK} {vs : List V} {cs : List Value} (h : FL ks vs cs) : FL (.str :: ks) (.str s.data.toList :: vs) (.string s :: cs)

theorem FL.app {ks ks' : List FK} {vs vs' : List V} {cs cs' : List Value} (h : FL ks vs cs) (h' : FL ks' vs' cs') : FL (ks ++ ks') (vs ++ vs') (cs ++ cs') := by
  induction h with
  | nil => exact h'
  | bool b _ ih => exact .bool b ih
  | int k n hw _ ih => exact .int k n hw ih
  | str s hs _ ih => exact .str s hs ih
theorem FL.len {ks : List FK} {vs : List V} {cs : List Value} (h : FL ks vs cs) : vs.length = ks.length ∧ cs.length = ks.length := by
  induction h with
  | nil => exact ⟨rfl, rfl⟩
  | bool b _ ih => simp [ih]
  | int k n hw _ ih => simp [ih]
  | str s hs _ ih => simp [ih]
theorem FL.vr {ks : List FK} {vs : List V} {cs : List Value} (h : FL ks vs cs) {g : G} {w : World} {r : Bool} : ∀ (j : Nat) (v : V) (u : Value), vs[j]? = some v → cs[j]? = some u → u.oneCell' = true ∧ VR g w r v u := by
  induction h with
  | nil => intro j v u h; simp at h
  | bool b _ ih =>
    intro j v u hv hu
    cases j with
    | zero => simp at hv hu; subst hv; subst hu; exact ⟨rfl, .bool _ _⟩
    | succ j => exact ih j v u (by simpa using hv) (by simpa using hu)
  | int k n hw _ ih =>
    intro j v u hv hu
    cases j with
    | zero => simp at hv hu; subst hv; subst hu; exact ⟨rfl, .int _ _ _⟩
    | succ j => exact ih j v u (by simpa using hv) (by simpa using hu)
  | str s hs _ ih =>
    intro j v u hv hu
    cases j with
    | zero =>
      simp at hv hu
      subst hv
      subst hu
      have := VR.str (g := g) (w := w) r s.data.toList
      rw [bytes_eta] at this
      exact ⟨rfl, this⟩
    | succ j => exact ih j v u (by simpa using hv) (by simpa using hu)

section
variable {H : Type} {enc : TypeId × Value → H} {P : Program} {w : World} {base : Nat} {sp : Nat → Bool} {held : Bool}

theorem trod_bool' {t : TypeId} {fuel : Nat} {cs : List Value} {x : DataW H × List MemPlace} (ht : P.underlying t = some .bool) (h : DataW.trod enc P w base sp held fuel t cs = some x) : ∃ b, cs = [.bool b] := by
  cases fuel with
  | zero => simp [DataW.trod] at h
  | succ n =>
    unfold DataW.trod at h
    rw [ht] at h
    split at h <;> simp_all

theorem flatFs_ok {p : TypeId → Option (List FK)} {n : Nat} (hp : ∀ t ks cs x, p t = some ks → DataW.trod enc P w base sp held n t cs = some x → ∃ vs, FL ks vs cs) {cs : List Value} : ∀ (fs : List Field) (k : Nat) (ks : List FK),
    flatFs P p cs.length k fs = some ks → (∀ f ∈ fs, ∃ y, DataW.trod enc P w base sp held n f.type ((cs.drop f.offset).take (P.cellsOf f.type)) = some y) → ∃ vs, FL ks vs (cs.drop k)
  | [], k, ks, h, _ => by
    simp only [flatFs] at h
    split at h
    · rename_i hk
      cases h
      exact ⟨[], by rw [hk, List.drop_length]; exact .nil⟩
    · cases h
  | f :: fs, k, ks, h, hy => by
    simp only [flatFs] at h
    split at h
    · rename_i ks1 hk1
      split at h
      · rename_i hc
        simp only [Option.map_eq_some_iff] at h
        obtain ⟨ks2, h2, rfl⟩ := h
        obtain ⟨y, hy1⟩ := hy f (by simp)
        obtain ⟨vs1, F1⟩ := hp _ _ _ _ hk1 hy1
        obtain ⟨vs2, F2⟩ := flatFs_ok hp fs _ ks2 h2 fun f' hf' => hy f' (by simp [hf'])
        refine ⟨vs1 ++ vs2, ?_⟩
        have := F1.app F2
        rw [hc.1, ← hc.2, ← List.drop_drop, List.take_append_drop] at this
        exact this
      · cases h
    · cases h

theorem flatT_ok : ∀ (d : Nat) (n : Nat) (t : TypeId) (ks : List FK) (cs : List Value) (x : DataW H × List MemPlace), flatT P d t = some ks → DataW.trod enc P w base sp held n t cs = some x → ∃ vs, FL ks vs cs
  | 0, n, t, ks, cs, x, h, _ => by simp [flatT] at h
  | d + 1, n, t, ks, cs, x, h, hx => by
    simp only [flatT] at h
    split at h
    · rename_i ht
      cases h
      obtain ⟨b, rfl⟩ := trod_bool' ht hx
      exact ⟨_, .bool b .nil⟩
    · rename_i k ht
      cases h
      obtain ⟨m, rfl, _, hw⟩ := DataW.trod_int ht hx
      exact ⟨_, .int k m hw .nil⟩
    · rename_i ht
      cases h
      obtain ⟨s, rfl, _, hs⟩ := DataW.trod_string ht hx
      exact ⟨_, .str s hs .nil⟩
    · rename_i fs ht
      obtain ⟨xs, m, rfl, _, hlen, hxl, hf⟩ := DataW.trod_struct ht hx
      rw [← hlen] at h
      obtain ⟨vs, F⟩ := flatFs_ok (fun t ks cs x => flatT_ok d m t ks cs x) fs.toList 0 ks h fun f hfm => by
        obtain ⟨i, hi⟩ := List.mem_iff_getElem?.1 hfm
        have hi' : fs[i]? = some f := by simpa using hi
        have := hf i f hi'
        have hlt : i < xs.length := by rw [hxl]; exact (Array.getElem?_eq_some_iff.1 hi').1
        rw [List.getElem?_eq_getElem hlt] at this
        exact ⟨_, this⟩
      exact ⟨vs, by simpa using F⟩
    · cases h

/-- A slice of what is flat. -/
theorem flat_slice {d : Nat} {t e : TypeId} {ks : List FK} {n : Nat} {v : Value} {x : DataW H × List MemPlace} (ht : P.underlying t = some (.slice e)) (hk : flatT P d e = some ks) (hc : P.cellsOf e = ks.length) (h : DataW.trod enc P w base sp held n t v.cells.toList = some x) (hv1 : v.cells.toList = [v])
    (g : G) (hg : ∀ b, ¬ g.O b) (r : Bool) :
    (v = .slice none 0 0 ∧ VR g w r .nils v) ∨ ∃ xs : List (List V), xs.length ≤ maxLen ∧ (∀ y ∈ xs, ∃ cs, FL ks y cs) ∧ VR g w r (.is xs false) v := by
  rw [hv1] at h
  rcases DataW.trod_slice ht h with ⟨h1, _⟩ | ⟨a, len, cap, elems, rest, m, _, h1, _, hb, hlc, hcm, hel, he, _⟩
  · simp only [List.cons.injEq, and_true] at h1
    subst h1
    exact .inl ⟨rfl, .nils _⟩
  · simp only [List.cons.injEq, and_true] at h1
    subst h1
    right
    have each : ∀ i, i < len → ∃ cs vs, w.cells? base (a.add (i * ks.length)) ks.length = some cs ∧ FL ks vs cs := fun i hi => by
      have hi2 := he i hi
      rw [List.getElem?_eq_getElem (by omega), hc, Option.bind_eq_some_iff] at hi2
      obtain ⟨cs, q1, q2⟩ := hi2
      obtain ⟨vs, F⟩ := flatT_ok d m e ks cs _ hk q2
      exact ⟨cs, vs, q1, F⟩
    -- the first so many
    have build : ∀ k, k ≤ len → ∃ (xs : List (List V)) (us : List Value), xs.length = k ∧ us.length = xs.flatten.length ∧ us.length = k * ks.length ∧ (∀ y ∈ xs, y.length = ks.length) ∧ (∀ y ∈ xs, ∃ cs, FL ks y cs) ∧
        (∀ u ∈ us, u.oneCell' = true) ∧ (∀ (j : Nat) (u : Value), us[j]? = some u → w.cell? (a.add j) = some u) ∧ ∀ (j : Nat) (c : V) (u : Value), xs.flatten[j]? = some c → us[j]? = some u → VR g w false c u := by
      intro k
      induction k with
      | zero => exact fun _ => ⟨[], [], rfl, rfl, by simp, fun _ h => by simp at h, fun _ h => by simp at h, fun _ h => by simp at h, fun _ _ h => by simp at h, fun _ _ _ h => by simp at h⟩
      | succ k ih =>
        intro hk'
        obtain ⟨xs, us, e1, e2, e3, e4, e4', e5, e6, e7⟩ := ih (by omega)
        obtain ⟨cs, vs, q1, F⟩ := each k (by omega)
        obtain ⟨l1, l2⟩ := F.len
        refine ⟨xs ++ [vs], us ++ cs, by simp [e1], by simp [e2, l1, l2], by simp [e3, l2, Nat.succ_mul], ?_, ?_, ?_, ?_, ?_⟩
        · intro y hy
          rcases List.mem_append.1 hy with hy | hy
          · exact e4 y hy
          · simp at hy; rw [hy]; exact l1
        · intro y hy
          rcases List.mem_append.1 hy with hy | hy
          · exact e4' y hy
          · simp at hy; rw [hy]; exact ⟨cs, F⟩
        · intro u hu
          rcases List.mem_append.1 hu with hu | hu
          · exact e5 u hu
          · obtain ⟨j, hj⟩ := List.mem_iff_getElem?.1 hu
            have hjl : j < vs.length := by rw [l1, ← l2]; exact (List.getElem?_eq_some_iff.1 hj).1
            exact (F.vr (g := g) (w := w) (r := false) j _ u (List.getElem?_eq_getElem hjl) hj).1
        · intro j u hu
          rw [List.getElem?_append] at hu
          split at hu
          · exact e6 j u hu
          · rename_i hj
            obtain ⟨_, hcl, hall⟩ := World.cells?_some q1
            have hi : j - us.length < ks.length := by rw [← l2]; exact (List.getElem?_eq_some_iff.1 hu).1
            have h1 := hall _ hi
            rw [hu, Addr.add_add] at h1
            rw [← h1]
            congr 2
            omega
        · intro j c u hc' hu
          rw [List.flatten_append, List.getElem?_append] at hc'
          rw [List.getElem?_append] at hu
          rw [← e2] at hc'
          split at hu
          · rename_i hj
            rw [if_pos hj] at hc'
            exact e7 j c u hc' hu
          · rename_i hj
            rw [if_neg hj] at hc'
            exact (F.vr _ c u (by simpa using hc') hu).2
    obtain ⟨xs, us, e1, e2, e3, e4, e4', e5, e6, e7⟩ := build len (Nat.le_refl _)
    refine ⟨xs, by omega, e4', ?_⟩
    have := VR.is (g := g) (w := w) r xs false us ks.length (some a) cap e4 e2 (by omega) (by simp) e5 (fun j u hu => ⟨a, rfl, hg _, e6 j u hu⟩) e7
    rw [e1] at this
    exact this
end
end Go.Pv
