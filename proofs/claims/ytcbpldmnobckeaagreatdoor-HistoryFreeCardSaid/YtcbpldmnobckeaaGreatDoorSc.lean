/- The law, on the machine. -/
import Derived.Test.YtcbpldmnobckeaaGreatDoorSb
set_option linter.unusedSimpArgs false
set_option linter.unusedVariables false
namespace Go.Pv
open Go.Proofs
set_option maxHeartbeats 4000000
set_option maxRecDepth 100000
def r3x : List VC := match c3.body with
  | .seq a (.seq b (.seq (.seq c (.cond _ (.seq d _) _)) (.seq e (.seq (.seq f _) (.seq (.seq g (.cond _ h _)) (.seq i (.seq j _))))))) => [a, b, c, d, e, f, g, h, i, j]
  | _ => []
theorem b3 : c3.body = .seq (r3x.getD 0 .skip) (.seq (r3x.getD 1 .skip) (.seq (.seq (r3x.getD 2 .skip) (.cond (.t 26) (.seq (r3x.getD 3 .skip) .ret) .skip)) (.seq (r3x.getD 4 .skip) (.seq (.seq (r3x.getD 5 .skip) (.block 0 (.loop [999999, 9, 1, 8, 5] l3_0))) (.seq (.seq (r3x.getD 6 .skip) (.cond (.t 101) (r3x.getD 7 .skip) .skip)) (.seq (r3x.getD 8 .skip) (.seq (r3x.getD 9 .skip) .ret))))))) := rfl
/-- The context of the law. -/
def CF : Ctx := mkC m4
theorem cf_memo (f : FuncId) (h : f ≠ 4 ∧ f ≠ 6 ∧ f ≠ 17 ∧ f ≠ 25) (a : List V) (hl : List VO) : CF.memo f a hl = none := by
  obtain ⟨h1, h2, h3, h4⟩ := h
  show m4 f a hl = none
  unfold m4
  split <;> simp_all
theorem cf14 : CF.code 14 = some c14 := by kernel_rfl
theorem cf16 : CF.code 16 = some c16 := by kernel_rfl
theorem cf26 : CF.code 26 = some c26 := by kernel_rfl
theorem cf13 : CF.code 13 = some c13 := by kernel_rfl
theorem cf5 : CF.code 5 = some c5 := by kernel_rfl
theorem cf3 : CF.code 3 = some c3 := by kernel_rfl
theorem call_memo {C : Ctx} {n : Nat} {f : FuncId} {args : List V} {h : List VO} {r : CRes} (hm : C.memo f args h = some r) : callN C (n + 1) f args h = some r := by
  simp only [callN, hm]
theorem call_nat {C : Ctx} {n : Nat} {f : FuncId} {args : List V} {h : List VO} {nf : Callf → List V → List VO → Option CRes} (hm : C.memo f args h = none) (hn : C.nat f = some nf) : callN C (n + 1) f args h = nf (callN C n) args h := by
  simp only [callN, hm, hn]
/-- history.Check, on what the law gathers. -/
theorem check_at (k : Nat) (hk : k < 5) (its : List It) (ex : List V) (hG : GoodI its 1000) (h10 : its.length ≤ 10) (hr : V.refs.refsL ((evsOf its).flatten ++ ex) = []) (N : Nat) (hN : 60 ≤ N) :
    callN CF (N + 2) 7 [sV k, .sl 0 0 (evsOf its).length none] [.cells ((evsOf its).flatten ++ ex) 15] = some (.ok (.tup [.bool true, .int .i64 0]) [.cells ((evsOf its).flatten ++ ex) 15] []) := by
  obtain ⟨n1, n2, n3, n4, n5⟩ := new_at k hk
  rw [call_nat (cf_memo 7 (by decide) _ _) (show CF.nat 7 = some (natD d7 0) from rfl)]
  have hp : pOf k = 4 ∨ pOf k = 5 := by
    rcases k with _ | _ | _ | _ | _ | k <;> simp [pOf] <;> omega
  have hflat : ∀ p, V.refs.refsL (vals p) = [] ∧ V.refs.refsL (vers p) = [] := by
    intro p
    constructor
    · unfold vals
      refine refsL_flatten _ fun y hy => ?_
      rw [List.eq_of_mem_replicate hy]
      rfl
    · unfold vers
      induction p with
      | zero => rfl
      | succ p ih => simp [List.replicate_succ, V.refs.refsL, V.refs, ih]
  have hav : (allV its).refs = [] := by unfold allV; split <;> rfl
  have hac : (allV its).cells? = some [allV its] := by unfold allV; split <;> rfl
  refine check_ok (callN CF (N + 1)) its.length (pOf k) (pOf k) (sV k) (allV its) _ (vals (pOf k)) (vers (pOf k)) (evsOf its).length n4 hav hr (hflat _).1 (hflat _).2 h10 n5 hac ?_ ?_ (call_memo n2) ?_
  · intro e hh he
    unfold allV at he
    split at he
    · rename_i h; subst h; simp [v_len, Od.ev, he, ok1]
    · simp [v_len, Od.ev, he, ok1, (recs_ok its 0).1]
  · exact calls_ok (cf_memo 14 (by decide)) rfl cf14 rfl its N ex h10 (by omega) hG.ki hG.ne hr
  · exact from_ok (cf_memo 16 (by decide)) rfl cf16 (cf_memo 26 (by decide)) rfl cf26 rfl its N (pOf k) (pOf k) (sV k) (vals (pOf k)) (vers (pOf k)) (key (pOf k)) n4 (hflat _).1 (hflat _).2 h10 (by omega) (by rcases hp with h | h <;> rw [h] <;> simp [key]) hG.re (fun N => call_memo (put_at _ hp))
end Go.Pv
namespace Go.Pv
open Go.Proofs
set_option maxHeartbeats 4000000
set_option maxRecDepth 100000
/-- The law's beginning: its form. -/
theorem hf_pre (x : Int) (lv : V) (N : Nat) (hlv : lv.refs = []) :
    ∃ e, run (callN CF (N + 3)) (N + 3) 0 (.seq (r3x.getD 0 .skip) (r3x.getD 1 .skip)) ⟨[(0, .int .i64 x), (1, lv)], [], []⟩ = some (.normal, ⟨e, [], []⟩) ∧ e.get 1 = lv ∧ e.get 5 = sV (x % 5).toNat ∧ e.get 7 = .int .i64 0 ∧ e.get 999999 = .un := by
  have hk : (x % 5).toNat < 5 := by omega
  obtain ⟨n1, n2, n3, n4, n5⟩ := new_at _ hk
  have hf := form_ok (cf_memo 13 (by decide)) rfl cf13 rfl (cf_memo 5 (by decide)) rfl cf5 rfl (N + 1) x
  have hn : callN CF (N + 3) 4 [formV (x % 5).toNat] [] = some (newR (x % 5).toNat) := call_memo n1
  rw [n3] at hn
  have hfr : (formV (x % 5).toNat).refs = [] := by
    generalize (x % 5).toNat = k at hk
    rcases k with _ | _ | _ | _ | _ | k <;> rfl
  simp [r3x, c3, run, runR, wantedV, vop, v_mov, v_call, v_ext, doCall, Od.ev, Env.get, ok1, putE, applyU, addWs, chkU, V.refs, V.refs.refsL, V.ren, V.ren.renL, reach, closed, hf, hn, hfr, n4, ren_flat _ _ hfr, ren_flat _ _ n4]
end Go.Pv
namespace Go.Pv
open Go.Proofs
set_option maxHeartbeats 4000000
set_option maxRecDepth 100000
/-- Of more than sixty events nothing is asked. -/
theorem hf_long (N : Nat) (e : Env) (xs : List (List V)) (clip : Bool) (h7 : e.get 7 = .int .i64 0) (h1 : e.get 1 = .is xs clip) (hl : (60 : Int) < (xs.length : Int)) :
    ∃ e', run (callN CF (N + 3)) (N + 3) 0 (.seq (r3x.getD 2 .skip) (.cond (.t 26) (.seq (r3x.getD 3 .skip) .ret) .skip)) ⟨e, [], []⟩ = some (.ret, ⟨e', [], []⟩) ∧ e'.get 4 = .bool true := by
  have ha : callN CF (N + 3) 6 [] [] = some (.ok (.bool true) [] []) := call_memo awake_at
  simp [r3x, c3, run, runR, wantedV, vop, v_mov, v_len, v_bin, v_pick, v_call, vbin, sameV, doCall, Od.ev, Env.get, ok1, putE, applyU, addWs, chkU, V.refs, V.refs.refsL, V.ren, V.ren.renL, reach, closed, ha, h7, h1, hl]
theorem hf_short (N : Nat) (e : Env) (xs : List (List V)) (clip : Bool) (h7 : e.get 7 = .int .i64 0) (h1 : e.get 1 = .is xs clip) (hl : ¬ (60 : Int) < (xs.length : Int)) :
    ∃ e', run (callN CF (N + 3)) (N + 3) 0 (.seq (r3x.getD 2 .skip) (.cond (.t 26) (.seq (r3x.getD 3 .skip) .ret) .skip)) ⟨e, [], []⟩ = some (.normal, ⟨e', [], []⟩) ∧ e'.get 1 = .is xs clip ∧ e'.get 5 = e.get 5 ∧ e'.get 999999 = e.get 999999 := by
  simp [r3x, c3, run, runR, wantedV, vop, v_mov, v_len, v_bin, v_pick, vbin, sameV, Od.ev, Env.get, ok1, putE, applyU, addWs, chkU, h7, h1, hl]
end Go.Pv
namespace Go.Pv
open Go.Proofs
set_option maxHeartbeats 4000000
set_option maxRecDepth 100000
/-- The loop, from its beginning. -/
theorem hf_loop (N : Nat) (e : Env) (xs : List (List V)) (clip : Bool) (sv : V) (hsv : sv.refs = []) (h1 : e.get 1 = .is xs clip) (h5 : e.get 5 = sv) (h9 : e.get 999999 = .un) (h60 : xs.length ≤ 60) (hN : 80 ≤ N)
    (hev : ∀ y ∈ xs, ∃ (c : Int) (b : Bool) (ki ss sq ve vk vn re rn rk rv : Int) (fd vs rs : List UInt8), y = ev15 c b ki ss sq ve vk vn re rn rk rv fd vs rs) :
    ∃ its e', iter (run (callN CF (N + 1)) (N + 1) 0 l3_0) (gcS 0 [999999, 9, 1, 8, 5]) (N + 1) ⟨(9, .int .i64 0) :: (8, .nils) :: e, [], []⟩ = some (.exit 0, ⟨e', hHeap (evsOf its).length (evsOf its).flatten, []⟩) ∧
      e'.get 8 = (if (evsOf its).length = 0 then .nils else .sl 0 0 (evsOf its).length none) ∧ e'.get 5 = sv ∧ GoodI its 1000 ∧ (evsOf its).length ≤ 12 := by
  have hg : gcS 0 [999999, 9, 1, 8, 5] ⟨(9, .int .i64 0) :: (8, .nils) :: e, [], []⟩ = some (hSt 0 [] xs clip sv) := by
    simp [gcS, gcA, reach, closed, V.refs, V.refs.refsL, VO.refs, V.ren, V.ren.renL, VO.ren, Env.get, hSt, hEnv, hHeap, evsOf, h1, h5, h9, hsv, ren_flat _ sv hsv]
  rw [iter_gc hg]
  exact loop3 _ _ xs clip sv hsv h60 hev xs.length 0 N [] (by omega) (by omega) (GoodI.nil _) (by simp [evsOf])
end Go.Pv
namespace Go.Pv
open Go.Proofs
set_option maxHeartbeats 4000000
set_option maxRecDepth 100000
/-- At most ten events are handed on. -/
theorem hf_cut (call : Callf) (n j : Nat) (e : Env) (H : List VO) (h8 : e.get 8 = .sl 0 0 j none) (hj : (10 : Int) < (j : Int)) :
    ∃ e', run call n 0 (.seq (r3x.getD 6 .skip) (.cond (.t 101) (r3x.getD 7 .skip) .skip)) ⟨e, H, []⟩ = some (.normal, ⟨e', H, []⟩) ∧ e'.get 8 = .sl 0 0 10 none ∧ e'.get 5 = e.get 5 := by
  have h10 : 10 ≤ j := by omega
  simp [r3x, c3, run, runR, wantedV, vop, v_mov, v_len, v_bin, v_slc, natOr, natOf, vbin, Od.ev, Env.get, ok1, putE, applyU, addWs, chkU, h8, hj, h10]
theorem hf_whole (call : Callf) (n j : Nat) (e : Env) (H : List VO) (h8 : e.get 8 = .sl 0 0 j none) (hj : ¬ (10 : Int) < (j : Int)) :
    ∃ e', run call n 0 (.seq (r3x.getD 6 .skip) (.cond (.t 101) (r3x.getD 7 .skip) .skip)) ⟨e, H, []⟩ = some (.normal, ⟨e', H, []⟩) ∧ e'.get 8 = .sl 0 0 j none ∧ e'.get 5 = e.get 5 := by
  simp [r3x, c3, run, runR, wantedV, vop, v_mov, v_len, v_bin, vbin, Od.ev, Env.get, ok1, putE, applyU, addWs, chkU, h8, hj]
theorem hf_none (call : Callf) (n : Nat) (e : Env) (H : List VO) (h8 : e.get 8 = .nils) :
    ∃ e', run call n 0 (.seq (r3x.getD 6 .skip) (.cond (.t 101) (r3x.getD 7 .skip) .skip)) ⟨e, H, []⟩ = some (.normal, ⟨e', H, []⟩) ∧ e'.get 8 = .nils ∧ e'.get 5 = e.get 5 := by
  simp [r3x, c3, run, runR, wantedV, vop, v_mov, v_len, v_bin, vbin, Od.ev, Env.get, ok1, putE, applyU, addWs, chkU, h8]
end Go.Pv
namespace Go.Pv
open Go.Proofs
set_option maxHeartbeats 4000000
set_option maxRecDepth 100000
/-- Its end: what history.Check said, and awake. -/
theorem hf_end (N : Nat) (e : Env) (cs : List V) (k : Nat) (sv : V) (hsv : sv.refs = []) (hcs : V.refs.refsL cs = []) (h8 : e.get 8 = .sl 0 0 k none) (h5 : e.get 5 = sv)
    (h7 : callN CF (N + 2) 7 [sv, .sl 0 0 k none] [.cells cs 15] = some (.ok (.tup [.bool true, .int .i64 0]) [.cells cs 15] [])) :
    ∃ e', run (callN CF (N + 2)) (N + 2) 0 (.seq (r3x.getD 8 .skip) (.seq (r3x.getD 9 .skip) .ret)) ⟨e, [.cells cs 15], []⟩ = some (.ret, ⟨e', [.cells cs 15], []⟩) ∧ e'.get 4 = .bool true := by
  have ha : callN CF (N + 2) 6 [] [] = some (.ok (.bool true) [] []) := call_memo awake_at
  have hr0 : List.range 0 = [] := rfl
  simp [r3x, c3, run, runR, wantedV, vop, v_mov, v_call, v_ext, v_bin, v_pick, vbin, sameV, doCall, Od.ev, Env.get, ok1, putE, applyU, addWs, chkU, V.refs, V.refs.refsL, VO.refs, V.ren, V.ren.renL, VO.ren, reach, closed, h8, h5, h7, ha, hsv, hcs, ren_flat _ sv hsv, renL_flat _ _ hcs]
theorem hf_end0 (N : Nat) (e : Env) (sv : V) (hsv : sv.refs = []) (h8 : e.get 8 = .nils) (h5 : e.get 5 = sv)
    (h7 : callN CF (N + 2) 7 [sv, .nils] [] = some (.ok (.tup [.bool true, .int .i64 0]) [] [])) :
    ∃ e', run (callN CF (N + 2)) (N + 2) 0 (.seq (r3x.getD 8 .skip) (.seq (r3x.getD 9 .skip) .ret)) ⟨e, [], []⟩ = some (.ret, ⟨e', [], []⟩) ∧ e'.get 4 = .bool true := by
  have ha : callN CF (N + 2) 6 [] [] = some (.ok (.bool true) [] []) := call_memo awake_at
  simp [r3x, c3, run, runR, wantedV, vop, v_mov, v_call, v_ext, v_bin, v_pick, vbin, sameV, doCall, Od.ev, Env.get, ok1, putE, applyU, addWs, chkU, V.refs, V.refs.refsL, VO.refs, V.ren, V.ren.renL, VO.ren, reach, closed, h8, h5, h7, ha, hsv, ren_flat _ sv hsv]
end Go.Pv
namespace Go.Pv
open Go.Proofs
set_option maxHeartbeats 4000000
set_option maxRecDepth 100000
theorem run_seq_ret {call : Callf} {n m0 : Nat} {a b : VC} {s s1 : St} (h : run call n m0 a s = some (.ret, s1)) : run call n m0 (.seq a b) s = some (.ret, s1) := by
  simp only [run, h]
theorem hf_out (e : Env) (H : List VO) (h4 : e.get 4 = .bool true) : outC (CF.keep 3) 0 c3.results (some (.ret, ⟨e, H, []⟩)) = some (.ok (.bool true) [] []) := by
  have c1 : c3.results = [.tmp 4] := rfl
  have k1 : CF.keep 3 = 0 := rfl
  have f1 : frz H 0 200 (.bool true) = some (.bool true) := rfl
  simp [outC, outD, c1, k1, resV, h4, resOne, finish, f1]
theorem check_none (k : Nat) (hk : k < 5) (N : Nat) (hN : 60 ≤ N) : callN CF (N + 2) 7 [sV k, .nils] [] = some (.ok (.tup [.bool true, .int .i64 0]) [] []) := by
  obtain ⟨n1, n2, n3, n4, n5⟩ := new_at k hk
  rw [call_nat (cf_memo 7 (by decide) _ _) (show CF.nat 7 = some (natD d7 0) from rfl)]
  have hp : pOf k = 4 ∨ pOf k = 5 := by
    rcases k with _ | _ | _ | _ | _ | k <;> simp [pOf] <;> omega
  have hf1 : V.refs.refsL (vals (pOf k)) = [] := by rcases hp with h | h <;> rw [h] <;> rfl
  have hf2 : V.refs.refsL (vers (pOf k)) = [] := by rcases hp with h | h <;> rw [h] <;> rfl
  obtain ⟨M, rfl⟩ : ∃ M, N = M + 1 := ⟨N - 1, by omega⟩
  refine check_nil (callN CF (M + 1 + 1)) (pOf k) (pOf k) (sV k) (vals (pOf k)) (vers (pOf k)) n4 hf1 hf2 n5 (calls_nil (cf_memo 14 (by decide)) rfl cf14 rfl M) (call_memo n2) ?_
  exact from_ok (cf_memo 16 (by decide)) rfl cf16 (cf_memo 26 (by decide)) rfl cf26 rfl [] (M + 1) (pOf k) (pOf k) (sV k) (vals (pOf k)) (vers (pOf k)) (key (pOf k)) n4 hf1 hf2 (by simp) (by omega) (by rcases hp with h | h <;> rw [h] <;> simp [key]) (fun _ h => by simp at h) (fun N => call_memo (put_at _ hp))
/-- THE LAW, ON THE MACHINE: it answers true. -/
theorem hf_ok (N : Nat) (hN : 100 ≤ N) (x : Int) (xs : List (List V)) (clip : Bool)
    (hev : ∀ y ∈ xs, ∃ (c : Int) (b : Bool) (ki ss sq ve vk vn re rn rk rv : Int) (fd vs rs : List UInt8), y = ev15 c b ki ss sq ve vk vn re rn rk rv fd vs rs) :
    callN CF (N + 4) 3 [.int .i64 x, .is xs clip] [] = some (.ok (.bool true) [] []) := by
  rw [callN_code (cf_memo 3 (by decide) _ _) rfl cf3]
  show outC (CF.keep 3) 0 c3.results (run (callN CF (N + 3)) (N + 3) 0 c3.body ⟨[(0, .int .i64 x), (1, .is xs clip)], [], []⟩) = _
  obtain ⟨e1, p1, a1, a5, a7, a9⟩ := hf_pre x (.is xs clip) N rfl
  obtain ⟨s1, q1, q2⟩ := run_seq_inv p1
  have hk : (x % 5).toNat < 5 := by omega
  obtain ⟨_, _, _, n4, _⟩ := new_at _ hk
  by_cases hl : (60 : Int) < (xs.length : Int)
  · obtain ⟨e2, p2, b4⟩ := hf_long N e1 xs clip a7 a1 hl
    rw [b3, run_seq q1, run_seq q2, run_seq_ret p2]
    exact hf_out _ _ b4
  · obtain ⟨e2, p2, b1, b5, b9⟩ := hf_short N e1 xs clip a7 a1 hl
    have r4 : ∀ call n, run call n 0 (r3x.getD 4 .skip) ⟨e2, [], []⟩ = some (.normal, ⟨(8, .nils) :: e2, [], []⟩) := by
      intro call n
      simp [r3x, c3, run, runR, wantedV, vop, v_mov, Od.ev, ok1, putE, applyU, addWs, chkU]
    have r5 : ∀ call n, run call n 0 (r3x.getD 5 .skip) ⟨(8, .nils) :: e2, [], []⟩ = some (.normal, ⟨(9, .int .i64 0) :: (8, .nils) :: e2, [], []⟩) := by
      intro call n
      simp [r3x, c3, run, runR, wantedV, vop, v_mov, Od.ev, ok1, putE, applyU, addWs, chkU]
    obtain ⟨its, e3, p3, c8, c5, hG, h12⟩ := hf_loop (N + 2) e2 xs clip _ n4 b1 (b5.trans a5) (b9.trans a9) (by omega) (by omega) hev
    have hloop : run (callN CF (N + 3)) (N + 3) 0 (.loop [999999, 9, 1, 8, 5] l3_0) _ = _ := p3
    rw [b3, run_seq q1, run_seq q2, run_seq p2, run_seq (r4 _ _), run_seq ((run_seq (r5 _ _)).trans (run_block hloop))]
    rcases Nat.eq_zero_or_pos (evsOf its).length with h0 | h0
    · have hH : hHeap (evsOf its).length (evsOf its).flatten = [] := by simp [hHeap, h0]
      rw [if_pos h0] at c8
      rw [hH]
      obtain ⟨e4, p4, d8, d5⟩ := hf_none (callN CF (N + 3)) (N + 3) e3 [] c8
      have hc := check_none _ hk (N + 1) (by omega)
      obtain ⟨e5, p5, f4⟩ := hf_end0 (N + 1) e4 _ n4 d8 (d5.trans c5) hc
      rw [run_seq p4, p5]
      exact hf_out _ _ f4
    · have h0' : (evsOf its).length ≠ 0 := by omega
      rw [if_neg h0'] at c8
      have hH : hHeap (evsOf its).length (evsOf its).flatten = [.cells (evsOf its).flatten 15] := by simp [hHeap, h0']
      rw [hH]
      by_cases h10 : (10 : Int) < ((evsOf its).length : Int)
      · obtain ⟨e4, p4, d8, d5⟩ := hf_cut (callN CF (N + 3)) (N + 3) _ e3 [.cells (evsOf its).flatten 15] c8 h10
        obtain ⟨its', g1, g2⟩ := hG.cut 10
        have hsplit : (evsOf its).flatten = (evsOf its').flatten ++ ((evsOf its).drop 10).flatten := by
          rw [g1, ← List.flatten_append, List.take_append_drop]
        have hl10 : (evsOf its').length = 10 := by rw [g1, List.length_take]; omega
        have hc := check_at _ hk its' ((evsOf its).drop 10).flatten g2 (by have := its_len its'; omega) (by rw [← hsplit]; exact evsOf_refs its) (N + 1) (by omega)
        rw [← hsplit, hl10] at hc
        obtain ⟨e5, p5, f4⟩ := hf_end (N + 1) e4 _ 10 _ n4 (evsOf_refs its) d8 (d5.trans c5) hc
        rw [run_seq p4, p5]
        exact hf_out _ _ f4
      · obtain ⟨e4, p4, d8, d5⟩ := hf_whole (callN CF (N + 3)) (N + 3) _ e3 [.cells (evsOf its).flatten 15] c8 h10
        have hc := check_at _ hk its [] hG (by have := its_len its; omega) (by rw [List.append_nil]; exact evsOf_refs its) (N + 1) (by omega)
        rw [List.append_nil] at hc
        obtain ⟨e5, p5, f4⟩ := hf_end (N + 1) e4 _ _ _ n4 (evsOf_refs its) d8 (d5.trans c5) hc
        rw [run_seq p4, p5]
        exact hf_out _ _ f4
end Go.Pv
namespace Go.Pv
open Go.Proofs
set_option maxHeartbeats 4000000
set_option maxRecDepth 100000
/-- Of no events at all. -/
theorem hf_nil (N : Nat) (hN : 100 ≤ N) (x : Int) : callN CF (N + 4) 3 [.int .i64 x, .nils] [] = some (.ok (.bool true) [] []) := by
  rw [callN_code (cf_memo 3 (by decide) _ _) rfl cf3]
  show outC (CF.keep 3) 0 c3.results (run (callN CF (N + 3)) (N + 3) 0 c3.body ⟨[(0, .int .i64 x), (1, .nils)], [], []⟩) = _
  obtain ⟨e1, p1, a1, a5, a7, a9⟩ := hf_pre x .nils N rfl
  obtain ⟨s1, q1, q2⟩ := run_seq_inv p1
  have hk : (x % 5).toNat < 5 := by omega
  obtain ⟨_, _, _, n4, _⟩ := new_at _ hk
  generalize (x % 5).toNat = k at *
  have hs : ∃ e', run (callN CF (N + 3)) (N + 3) 0 (.seq (r3x.getD 2 .skip) (.cond (.t 26) (.seq (r3x.getD 3 .skip) .ret) .skip)) ⟨e1, [], []⟩ = some (.normal, ⟨e', [], []⟩) ∧ e'.get 1 = .nils ∧ e'.get 5 = e1.get 5 ∧ e'.get 999999 = e1.get 999999 := by
    simp [r3x, c3, run, runR, wantedV, vop, v_mov, v_len, v_bin, v_pick, vbin, sameV, Od.ev, Env.get, ok1, putE, applyU, addWs, chkU, a7, a1]
  obtain ⟨e2, p2, b1, b5, b9⟩ := hs
  have r4 : ∀ call n, run call n 0 (r3x.getD 4 .skip) ⟨e2, [], []⟩ = some (.normal, ⟨(8, .nils) :: e2, [], []⟩) := by
    intro call n
    simp [r3x, c3, run, runR, wantedV, vop, v_mov, Od.ev, ok1, putE, applyU, addWs, chkU]
  have r5 : ∀ call n, run call n 0 (r3x.getD 5 .skip) ⟨(8, .nils) :: e2, [], []⟩ = some (.normal, ⟨(9, .int .i64 0) :: (8, .nils) :: e2, [], []⟩) := by
    intro call n
    simp [r3x, c3, run, runR, wantedV, vop, v_mov, Od.ev, ok1, putE, applyU, addWs, chkU]
  have h5 : e2.get 5 = sV k := b5.trans a5
  have h9 : e2.get 999999 = .un := b9.trans a9
  have hg : gcS 0 [999999, 9, 1, 8, 5] ⟨(9, .int .i64 0) :: (8, .nils) :: e2, [], []⟩ = some ⟨[(999999, .un), (9, .int .i64 0), (1, .nils), (8, .nils), (5, sV k)], [], []⟩ := by
    simp [gcS, gcA, reach, closed, V.refs, V.refs.refsL, VO.refs, V.ren, V.ren.renL, VO.ren, Env.get, b1, h5, h9, n4, ren_flat _ _ n4]
  have hb : ∃ e, run (callN CF (N + 3)) (N + 3) 0 l3_0 ⟨[(999999, .un), (9, .int .i64 0), (1, .nils), (8, .nils), (5, sV k)], [], []⟩ = some (.exit 0, ⟨e, [], []⟩) ∧ e.get 8 = .nils ∧ e.get 5 = sV k := by
    simp [l3_0, run, runR, wantedV, vop, v_mov, v_len, v_bin, v_pick, vbin, Od.ev, Env.get, ok1, putE, applyU, addWs, chkU]
  obtain ⟨e3, p3, c8, c5⟩ := hb
  have hit : iter (run (callN CF (N + 3)) (N + 3) 0 l3_0) (gcS 0 [999999, 9, 1, 8, 5]) (N + 3) ⟨(9, .int .i64 0) :: (8, .nils) :: e2, [], []⟩ = some (.exit 0, ⟨e3, [], []⟩) := by
    rw [iter_gc hg]
    unfold iterG
    rw [p3]
  have hloop : run (callN CF (N + 3)) (N + 3) 0 (.loop [999999, 9, 1, 8, 5] l3_0) _ = _ := hit
  rw [b3, run_seq q1, run_seq q2, run_seq p2, run_seq (r4 _ _), run_seq ((run_seq (r5 _ _)).trans (run_block hloop))]
  obtain ⟨e4, p4, d8, d5⟩ := hf_none (callN CF (N + 3)) (N + 3) e3 [] c8
  obtain ⟨e5, p5, f4⟩ := hf_end0 (N + 1) e4 _ n4 d8 (d5.trans c5) (check_none _ hk (N + 1) (by omega))
  rw [run_seq p4, p5]
  exact hf_out _ _ f4
end Go.Pv
