/- The check; the law's rounds. -/
import Derived.Test.YtcbpldmnobckeaaGreatDoorSa
import Derived.Test.YtcbpldmnobckeaaGreatDoorCd
import Derived.Test.YtcbpldmnobckeaaGreatDoorMc
import Derived.Test.YtcbpldmnobckeaaGreatDoorMd
set_option linter.unusedSimpArgs false
set_option linter.unusedVariables false
namespace Go.Pv
set_option maxHeartbeats 4000000
set_option maxRecDepth 100000
theorem cells_agg (l : List V) : (V.agg l).cells? = some l := rfl
theorem cells_mp (k : Nat) : (V.mp k).cells? = some [.mp k] := rfl
theorem cells_bool (b : Bool) : (V.bool b).cells? = some [.bool b] := rfl
/-- The answer on a history of calls that need not be. -/
theorem check_ok (call : Callf) (j p q : Nat) (sv av : V) (cs vals vers : List V) (k : Nat) (hsv : sv.refs = []) (hav : av.refs = []) (hcs : V.refs.refsL cs = []) (hvr : V.refs.refsL vals = []) (hwr : V.refs.refsL vers = []) (hj : j ≤ 10) (hsc : sv.cells? = some [sv]) (hac : av.cells? = some [av])
    (hal : ∀ (e : Env) (hh : Nat → VO), e.get 23 = av → v_len hh e 1 (.t 23) = some (.ok ⟨.int .i64 j, [], []⟩))
    (h14 : call 14 [.sl 0 0 k none] [.cells cs 15] = some (.ok (.tup [av, .int .i64 0]) [.cells cs 15] []))
    (h17 : call 17 [sv] [] = some (.ok (.agg [.sl 0 0 p (some p), .sl 1 0 q (some q), .bool false]) [.cells vals 3, .cells vers 1] []))
    (h16 : call 16 [.ptr 0 0, .sl 2 0 j (some j), .agg [.sl 3 0 p (some p), .sl 4 0 q (some q), .bool false]] [.cells [sv, av, .mp 1] 3, .map [], .cells (List.replicate j (.bool false)) 1, .cells vals 3, .cells vers 1] = some (.pan (.ifc 69 (.agg [])))) :
    natD d7 0 call [sv, .sl 0 0 k none] [.cells cs 15] = some (.ok (.tup [.bool true, .int .i64 0]) [.cells cs 15] []) := by
  have hflat : ∀ k, V.refs.refsL (List.replicate k (V.bool false)) = [] := by
    intro k
    induction k with
    | zero => rfl
    | succ k ih => simp [List.replicate_succ, V.refs.refsL, V.refs, ih]
  have hpre : run call 1000 1 d7.pre ⟨[(0, sv), (1, .sl 0 0 k none)], [.cells cs 15], []⟩ = some (.normal, ⟨[(16, .fn 15 [] [.ptr 1 0]), (14, .bool false), (13, .int .i64 0), (5, .int .i64 0), (6, av), (12, .int .i64 0), (11, av), (8, .tup [av, .int .i64 0]), (10, .tup [av, .int .i64 0]), (9, .sl 0 0 k none), (5, .int .i64 0), (4, .ptr 1 0), (0, sv), (1, .sl 0 0 k none)], [.cells cs 15, .cells [.bool false] 1], []⟩) := by
    have hr0 : List.range 0 = [] := rfl
    simp [d7, run, runR, wantedV, vop, v_new, v_mov, v_call, v_ext, v_bin, v_mkF, vbin, sameV, doCall, Od.ev, Env.get, ok1, putE, applyU, addWs, chkU, V.refs, V.refs.refsL, VO.refs, V.ren, V.ren.renL, VO.ren, reach, closed, hcs, renL_flat _ _ hcs, h14, ren_flat _ av hav]
  have hix : List.idxOf 2 [3, 2, 4, 5, 6] = 1 ∧ List.idxOf 3 [3, 2, 4, 5, 6] = 0 ∧ List.idxOf 4 [3, 2, 4, 5, 6] = 2 ∧ List.idxOf 5 [3, 2, 4, 5, 6] = 3 ∧ List.idxOf 6 [3, 2, 4, 5, 6] = 4 := ⟨rfl, rfl, rfl, rfl, rfl⟩
  have hr2 : List.range 2 = [0, 1] := rfl
  have hr7 : List.range 7 = [0, 1, 2, 3, 4, 5, 6] := rfl
  have hj0 : (j : Int).toNat = j := by simp
  have hjm : j ≤ 70368744177664 := by omega
  have hpost : run call 1000 1 d7.post ⟨[(16, .fn 15 [] [.ptr 1 0]), (14, .bool false), (13, .int .i64 0), (5, .int .i64 0), (6, av), (12, .int .i64 0), (11, av), (8, .tup [av, .int .i64 0]), (10, .tup [av, .int .i64 0]), (9, .sl 0 0 k none), (5, .int .i64 0), (4, .ptr 1 0), (0, sv), (1, .sl 0 0 k none)], [.cells cs 15, .cells [.bool false] 1], []⟩ = some (.pan (.ifc 69 (.agg [])), ⟨[(27, .agg [.sl 5 0 p (some p), .sl 6 0 q (some q), .bool false]), (26, sv), (25, .sl 4 0 j (some j)), (24, .int .i64 j), (23, av), (22, .ptr 3 0), (7, .ptr 3 0), (21, .ptr 3 0), (20, .agg [sv, av, .mp 2]), (19, .mp 2), (18, av), (17, sv), (16, .fn 15 [] [.ptr 1 0]), (14, .bool false), (13, .int .i64 0), (5, .int .i64 0), (6, av), (12, .int .i64 0), (11, av), (8, .tup [av, .int .i64 0]), (10, .tup [av, .int .i64 0]), (9, .sl 0 0 k none), (5, .int .i64 0), (4, .ptr 1 0), (0, sv), (1, .sl 0 0 k none)], [.cells cs 15, .cells [.bool false] 1, .dead, .dead, .dead, .dead, .dead], []⟩) := by
    simp [d7, run, runR, wantedV, vop, v_new, v_mov, v_mkM, v_build, fillP, v_box, v_mkS, natOf, maxBytes, v_call, v_ext, v_bin, v_mkF, vbin, sameV, doCall, Od.ev, Env.get, ok1, putE, applyU, addWs, chkU, setSeg0, setSegS, cells_agg, cells_mp, hsc, hac, V.refs, V.refs.refsL, VO.refs, V.ren, V.ren.renL, VO.ren, reach, closed, hcs, hvr, hwr, hsv, hav, hflat, renL_flat _ _ hcs, renL_flat _ _ hvr, renL_flat _ _ hwr, ren_flat _ av hav, ren_flat _ sv hsv, renL_flat _ _ (hflat j), h17, h16, hal, compat, disj, hix, hr2, hjm, harm, killS, kill, hr7]
  have hclo : run call 1000 1 d7.clo ⟨[(1, .ifc 69 .un), (2, .ifc 69 .un), (0, .ptr 1 0)], [.cells cs 15, .cells [.bool false] 1, .dead, .dead, .dead, .dead, .dead], []⟩ = some (.normal, ⟨[(11, .bool false), (10, .bool true), (9, .bool true), (8, .un), (5, .tup [.un, .bool true]), (7, .tup [.un, .bool true]), (6, .ifc 69 .un), (4, .bool true), (3, .ifc 69 .un), (1, .ifc 69 .un), (2, .ifc 69 .un), (0, .ptr 1 0)], [.cells cs 15, .cells [.bool true] 1, .dead, .dead, .dead, .dead, .dead], []⟩) := by
    simp [d7, run, runR, wantedV, vop, v_mov, v_bin, vbin, sameV, v_tas, v_ext, v_store, v_load, v_una, vun, loadC, shapeOf, Od.ev, Env.get, ok1, putE, applyU, addWs, chkU, setSeg0, cells_bool]
  unfold natD
  have hlen : [VO.cells cs 15].length = 1 := rfl
  have hd : d7.dargs = [] := rfl
  have hf : d7.fid = 15 := rfl
  have hcal : d7.cal = .t 16 := rfl
  have hrc : d7.rcv = some (2, 1) := rfl
  have hres : d7.results = [.cell 4 none, .tmp 5] := rfl
  simp only [hlen, envOf, hpre, hpost, hd, hf, hcal, hrc, Od.ev, Env.get, if_true, List.map_nil, List.nil_append, Option.isSome_some, closD, cloEnv, rcvV, hclo, hres]
  have f1 : frz [.cells cs 15, .cells [.bool true] 1, .dead, .dead, .dead, .dead, .dead] 1 200 (.tup [.bool true, .int .i64 0]) = some (.tup [.bool true, .int .i64 0]) := rfl
  simp [outD, resV, loadC, shapeOf, RV.t, Env.get, resOne, finish, VO.refs, hcs, f1]
end Go.Pv
namespace Go.Pv
set_option maxHeartbeats 4000000
set_option maxRecDepth 100000
/-- The same of no history at all. -/
theorem check_nil (call : Callf) (p q : Nat) (sv : V) (vals vers : List V) (hsv : sv.refs = []) (hvr : V.refs.refsL vals = []) (hwr : V.refs.refsL vers = []) (hsc : sv.cells? = some [sv])
    (h14 : call 14 [.nils] [] = some (.ok (.tup [.nils, .int .i64 0]) [] []))
    (h17 : call 17 [sv] [] = some (.ok (.agg [.sl 0 0 p (some p), .sl 1 0 q (some q), .bool false]) [.cells vals 3, .cells vers 1] []))
    (h16 : call 16 [.ptr 0 0, .sl 2 0 0 (some 0), .agg [.sl 3 0 p (some p), .sl 4 0 q (some q), .bool false]] [.cells [sv, .nils, .mp 1] 3, .map [], .cells [] 1, .cells vals 3, .cells vers 1] = some (.pan (.ifc 69 (.agg [])))) :
    natD d7 0 call [sv, .nils] [] = some (.ok (.tup [.bool true, .int .i64 0]) [] []) := by
  have hpre : run call 1000 0 d7.pre ⟨[(0, sv), (1, .nils)], [], []⟩ = some (.normal, ⟨[(16, .fn 15 [] [.ptr 0 0]), (14, .bool false), (13, .int .i64 0), (5, .int .i64 0), (6, .nils), (12, .int .i64 0), (11, .nils), (8, .tup [.nils, .int .i64 0]), (10, .tup [.nils, .int .i64 0]), (9, .nils), (5, .int .i64 0), (4, .ptr 0 0), (0, sv), (1, .nils)], [.cells [.bool false] 1], []⟩) := by
    simp [d7, run, runR, wantedV, vop, v_new, v_mov, v_call, v_ext, v_bin, v_mkF, vbin, sameV, doCall, Od.ev, Env.get, ok1, putE, applyU, addWs, chkU, V.refs, V.refs.refsL, VO.refs, V.ren, V.ren.renL, VO.ren, reach, closed, h14]
  have hix : List.idxOf 1 [2, 1, 3, 4, 5] = 1 ∧ List.idxOf 2 [2, 1, 3, 4, 5] = 0 ∧ List.idxOf 3 [2, 1, 3, 4, 5] = 2 ∧ List.idxOf 4 [2, 1, 3, 4, 5] = 3 ∧ List.idxOf 5 [2, 1, 3, 4, 5] = 4 := ⟨rfl, rfl, rfl, rfl, rfl⟩
  have hr2 : List.range 2 = [0, 1] := rfl
  have hr6 : List.range 6 = [0, 1, 2, 3, 4, 5] := rfl
  have hpost : run call 1000 0 d7.post ⟨[(16, .fn 15 [] [.ptr 0 0]), (14, .bool false), (13, .int .i64 0), (5, .int .i64 0), (6, .nils), (12, .int .i64 0), (11, .nils), (8, .tup [.nils, .int .i64 0]), (10, .tup [.nils, .int .i64 0]), (9, .nils), (5, .int .i64 0), (4, .ptr 0 0), (0, sv), (1, .nils)], [.cells [.bool false] 1], []⟩ = some (.pan (.ifc 69 (.agg [])), ⟨[(27, .agg [.sl 4 0 p (some p), .sl 5 0 q (some q), .bool false]), (26, sv), (25, .sl 3 0 0 (some 0)), (24, .int .i64 0), (23, .nils), (22, .ptr 2 0), (7, .ptr 2 0), (21, .ptr 2 0), (20, .agg [sv, .nils, .mp 1]), (19, .mp 1), (18, .nils), (17, sv), (16, .fn 15 [] [.ptr 0 0]), (14, .bool false), (13, .int .i64 0), (5, .int .i64 0), (6, .nils), (12, .int .i64 0), (11, .nils), (8, .tup [.nils, .int .i64 0]), (10, .tup [.nils, .int .i64 0]), (9, .nils), (5, .int .i64 0), (4, .ptr 0 0), (0, sv), (1, .nils)], [.cells [.bool false] 1, .dead, .dead, .dead, .dead, .dead], []⟩) := by
    have hnc : V.cells? .nils = some [.nils] := rfl
    simp [d7, run, runR, wantedV, vop, v_new, v_mov, v_mkM, v_len, v_build, fillP, v_box, v_mkS, natOf, maxBytes, v_call, v_ext, v_bin, v_mkF, vbin, sameV, doCall, Od.ev, Env.get, ok1, putE, applyU, addWs, chkU, setSeg0, setSegS, cells_agg, cells_mp, hsc, hnc, V.refs, V.refs.refsL, VO.refs, V.ren, V.ren.renL, VO.ren, reach, closed, hvr, hwr, hsv, renL_flat _ _ hvr, renL_flat _ _ hwr, ren_flat _ sv hsv, h17, h16, compat, disj, hix, hr2, harm, killS, kill, hr6]
  have hclo : run call 1000 0 d7.clo ⟨[(1, .ifc 69 .un), (2, .ifc 69 .un), (0, .ptr 0 0)], [.cells [.bool false] 1, .dead, .dead, .dead, .dead, .dead], []⟩ = some (.normal, ⟨[(11, .bool false), (10, .bool true), (9, .bool true), (8, .un), (5, .tup [.un, .bool true]), (7, .tup [.un, .bool true]), (6, .ifc 69 .un), (4, .bool true), (3, .ifc 69 .un), (1, .ifc 69 .un), (2, .ifc 69 .un), (0, .ptr 0 0)], [.cells [.bool true] 1, .dead, .dead, .dead, .dead, .dead], []⟩) := by
    simp [d7, run, runR, wantedV, vop, v_mov, v_bin, vbin, sameV, v_tas, v_ext, v_store, v_load, v_una, vun, loadC, shapeOf, Od.ev, Env.get, ok1, putE, applyU, addWs, chkU, setSeg0, cells_bool]
  unfold natD
  have hlen : ([] : List VO).length = 0 := rfl
  have hd : d7.dargs = [] := rfl
  have hf : d7.fid = 15 := rfl
  have hcal : d7.cal = .t 16 := rfl
  have hrc : d7.rcv = some (2, 1) := rfl
  have hres : d7.results = [.cell 4 none, .tmp 5] := rfl
  simp only [hlen, envOf, hpre, hpost, hd, hf, hcal, hrc, Od.ev, Env.get, if_true, List.map_nil, List.nil_append, Option.isSome_some, closD, cloEnv, rcvV, hclo, hres]
  have f1 : frz [.cells [.bool true] 1, .dead, .dead, .dead, .dead, .dead] 0 200 (.tup [.bool true, .int .i64 0]) = some (.tup [.bool true, .int .i64 0]) := rfl
  simp [outD, resV, loadC, shapeOf, RV.t, Env.get, resOne, finish, VO.refs, f1]
/-- And of its calls. -/
theorem calls_nil {C : Ctx} (hmem : ∀ a h, C.memo 14 a h = none) (hnat : C.nat 14 = none) (hcode : C.code 14 = some c14) (hkeep : C.keep 14 = 0) (N : Nat) : callN C (N + 2) 14 [.nils] [] = some (.ok (.tup [.nils, .int .i64 0]) [] []) := by
  rw [callN_code (hmem _ _) hnat hcode, hkeep]
  have hg : gcS 0 [999999, 12, 11, 10, 5, 4] ⟨[(12, .int .i64 0), (11, .int .i64 0), (10, .nils), (5, .mp 0), (9, .mp 0), (4, .nils), (3, .int .i64 0), (2, .nils), (0, .nils)], [.map []], []⟩ = some ⟨[(999999, .un), (12, .int .i64 0), (11, .int .i64 0), (10, .nils), (5, .mp 0), (4, .nils)], [.map []], []⟩ := by
    simp [gcS, gcA, reach, closed, V.refs, V.refs.refsL, VO.refs, V.ren, V.ren.renL, VO.ren, Env.get]
  have hb : run (callN C (N + 1)) (N + 1) 0 l14_0 ⟨[(999999, .un), (12, .int .i64 0), (11, .int .i64 0), (10, .nils), (5, .mp 0), (4, .nils)], [.map []], []⟩ = some (.exit 0, ⟨[(13, .bool false), (999999, .un), (12, .int .i64 0), (11, .int .i64 0), (10, .nils), (5, .mp 0), (4, .nils)], [.map []], []⟩) := by
    simp [l14_0, run, runR, wantedV, vop, v_bin, vbin, Od.ev, Env.get, ok1, putE, applyU, addWs, chkU]
  have hit : iter (run (callN C (N + 1)) (N + 1) 0 l14_0) (gcS 0 [999999, 12, 11, 10, 5, 4]) (N + 1) ⟨[(12, .int .i64 0), (11, .int .i64 0), (10, .nils), (5, .mp 0), (9, .mp 0), (4, .nils), (3, .int .i64 0), (2, .nils), (0, .nils)], [.map []], []⟩ = some (.exit 0, ⟨[(13, .bool false), (999999, .un), (12, .int .i64 0), (11, .int .i64 0), (10, .nils), (5, .mp 0), (4, .nils)], [.map []], []⟩) := by
    rw [iter_gc hg]
    unfold iterG
    rw [hb]
  have hs0 : run (callN C (N + 1)) (N + 1) 0 r14a ⟨[(0, .nils)], [], []⟩ = some (.normal, ⟨[(12, .int .i64 0), (11, .int .i64 0), (10, .nils), (5, .mp 0), (9, .mp 0), (4, .nils), (3, .int .i64 0), (2, .nils), (0, .nils)], [.map []], []⟩) := by
    simp [r14a, c14, run, runR, wantedV, vop, v_mov, v_mkM, v_len, Od.ev, Env.get, ok1, putE, applyU, addWs, chkU]
  have hbb : c14.body = .seq (r14x.getD 0 .skip) (.seq (r14x.getD 1 .skip) (.seq (r14x.getD 2 .skip) (.seq (.seq (r14x.getD 3 .skip) (.block 0 (.loop [999999, 12, 11, 10, 5, 4] l14_0))) r14b))) := rfl
  have ha : r14a = .seq (r14x.getD 0 .skip) (.seq (r14x.getD 1 .skip) (.seq (r14x.getD 2 .skip) (r14x.getD 3 .skip))) := rfl
  rw [ha] at hs0
  obtain ⟨s1, e1, hs0⟩ := run_seq_inv hs0
  obtain ⟨s2, e2, hs0⟩ := run_seq_inv hs0
  obtain ⟨s3, e3, e4⟩ := run_seq_inv hs0
  have hloop : run (callN C (N + 1)) (N + 1) 0 (.loop [999999, 12, 11, 10, 5, 4] l14_0) _ = _ := hit
  show outC 0 0 c14.results (run _ _ 0 c14.body ⟨[(0, .nils)], [], []⟩) = _
  rw [hbb, run_seq e1, run_seq e2, run_seq e3, run_seq ((run_seq e4).trans (run_block hloop))]
  have e5 : run (callN C (N + 1)) (N + 1) 0 r14b ⟨[(13, .bool false), (999999, .un), (12, .int .i64 0), (11, .int .i64 0), (10, .nils), (5, .mp 0), (4, .nils)], [.map []], []⟩ = some (.ret, ⟨[(3, .int .i64 0), (2, .nils), (79, .nils), (78, .bool false), (77, .int .i64 0), (76, .nils), (13, .bool false), (999999, .un), (12, .int .i64 0), (11, .int .i64 0), (10, .nils), (5, .mp 0), (4, .nils)], [.map []], []⟩) := by
    simp [r14b, c14, run, runR, wantedV, vop, v_mov, v_bin, vbin, v_len, Od.ev, Env.get, ok1, putE, applyU, addWs, chkU]
  rw [e5]
  have f1 : frz [.map []] 0 200 (.tup [.nils, .int .i64 0]) = some (.tup [.nils, .int .i64 0]) := rfl
  have c1 : c14.results = [.tmp 2, .tmp 3] := rfl
  simp [outC, outD, c1, resV, resOne, Env.get, finish, VO.refs, f1]
end Go.Pv
namespace Go.Pv
set_option maxHeartbeats 4000000
set_option maxRecDepth 100000
def hEnv (i j : Nat) (lv sv : V) : Env := [(999999, .un), (9, .int .i64 i), (1, lv), (8, if j = 0 then .nils else .sl 0 0 j none), (5, sv)]
def hHeap (j : Nat) (al : List V) : List VO := if j = 0 then [] else [.cells al 15]
def ev15 (c : Int) (b : Bool) (ki ss sq ve vk vn re rn rk rv : Int) (fd vs rs : List UInt8) : List V := [.int .i64 c, .bool b, .int .i64 ki, .int .i64 ss, .int .i64 sq, .str fd, .int .i64 ve, .int .i64 vk, .int .i64 vn, .str vs, .int .i64 re, .int .i64 rn, .int .i64 rk, .int .i64 rv, .str rs]
/-- What the law passes over. -/
theorem it3_skip (call : Callf) (n i j : Nat) (xs : List (List V)) (clip : Bool) (sv : V) (al : List V) (c : Int) (b : Bool) (ki ss sq ve vk vn re rn rk rv : Int) (fd vs rs : List UInt8)
    (hx : xs[i]? = some (ev15 c b ki ss sq ve vk vn re rn rk rv fd vs rs)) (hi : i < xs.length) (hj : j < 12) (hw : IntKind.i64.wrap ((i : Int) + 1) = (i : Int) + 1) (hal : V.refs.refsL al = []) (hsv : sv.refs = [])
    (hbad : (200 : Int) < (fd.length : Int) ∨ (600 : Int) < (vs.length : Int) ∨ (ki ≠ 2 ∧ ki ≠ 3 ∧ ki ≠ 4)) :
    rnd call n 0 l3_0 [999999, 9, 1, 8, 5] ⟨hEnv i j (.is xs clip) sv, hHeap j al, []⟩ = some ⟨hEnv (i + 1) j (.is xs clip) sv, hHeap j al, []⟩ := by
  have hi0 : ((i : Int) < 0) = False := by
    simp only [eq_iff_iff, iff_false]; omega
  have hj1 : (j : Int) < 12 := by omega
  have hx' : xs[i] = [.int .i64 c, .bool b, .int .i64 ki, .int .i64 ss, .int .i64 sq, .str fd, .int .i64 ve, .int .i64 vk, .int .i64 vn, .str vs, .int .i64 re, .int .i64 rn, .int .i64 rk, .int .i64 rv, .str rs] := by
    rw [List.getElem?_eq_getElem hi] at hx
    exact Option.some.inj hx
  unfold rnd
  rcases Nat.eq_zero_or_pos j with h0 | h0
  · subst h0
    by_cases h1 : (200 : Int) < (fd.length : Int)
    · simp (config := { maxSteps := 20000 }) [l3_0, hEnv, hHeap, run, runR, wantedV, vop, v_mov, v_len, v_bin, v_pick, v_iad, v_load, v_new, v_store, v_fad, vbin, sameV, Od.ev, Env.get, ok1, putE, applyU, addWs, chkU, hi, cells_agg, loadC, shapeOf, hx', hi0, setSeg0, hw, gcS, gcA, reach, closed, V.refs, V.refs.refsL, VO.refs, V.ren, V.ren.renL, VO.ren, hsv, ren_flat _ sv hsv, hal, renL_flat _ _ hal, h1]
    · by_cases h2 : (600 : Int) < (vs.length : Int)
      · simp (config := { maxSteps := 20000 }) [l3_0, hEnv, hHeap, run, runR, wantedV, vop, v_mov, v_len, v_bin, v_pick, v_iad, v_load, v_new, v_store, v_fad, vbin, sameV, Od.ev, Env.get, ok1, putE, applyU, addWs, chkU, hi, cells_agg, loadC, shapeOf, hx', hi0, setSeg0, hw, gcS, gcA, reach, closed, V.refs, V.refs.refsL, VO.refs, V.ren, V.ren.renL, VO.ren, hsv, ren_flat _ sv hsv, hal, renL_flat _ _ hal, h1, h2]
      · obtain ⟨k2, k3, k4⟩ := (hbad.resolve_left h1).resolve_left h2
        have b2 : (ki == 2) = false := by simp [k2]
        have b3 : (ki == 3) = false := by simp [k3]
        have b4 : (ki == 4) = false := by simp [k4]
        simp (config := { maxSteps := 20000 }) [l3_0, hEnv, hHeap, run, runR, wantedV, vop, v_mov, v_len, v_bin, v_pick, v_iad, v_load, v_new, v_store, v_fad, vbin, sameV, Od.ev, Env.get, ok1, putE, applyU, addWs, chkU, hi, cells_agg, loadC, shapeOf, hx', hi0, setSeg0, hw, gcS, gcA, reach, closed, V.refs, V.refs.refsL, VO.refs, V.ren, V.ren.renL, VO.ren, hsv, ren_flat _ sv hsv, hal, renL_flat _ _ hal, h1, h2, b2, b3, b4]
  · have h0' : ¬ j = 0 := by omega
    by_cases h1 : (200 : Int) < (fd.length : Int)
    · simp (config := { maxSteps := 20000 }) [l3_0, hEnv, hHeap, run, runR, wantedV, vop, v_mov, v_len, v_bin, v_pick, v_iad, v_load, v_new, v_store, v_fad, vbin, sameV, Od.ev, Env.get, ok1, putE, applyU, addWs, chkU, hi, cells_agg, loadC, shapeOf, hx', hi0, setSeg0, hw, gcS, gcA, reach, closed, V.refs, V.refs.refsL, VO.refs, V.ren, V.ren.renL, VO.ren, hsv, ren_flat _ sv hsv, hal, renL_flat _ _ hal, h1, h0', hj1]
    · by_cases h2 : (600 : Int) < (vs.length : Int)
      · simp (config := { maxSteps := 20000 }) [l3_0, hEnv, hHeap, run, runR, wantedV, vop, v_mov, v_len, v_bin, v_pick, v_iad, v_load, v_new, v_store, v_fad, vbin, sameV, Od.ev, Env.get, ok1, putE, applyU, addWs, chkU, hi, cells_agg, loadC, shapeOf, hx', hi0, setSeg0, hw, gcS, gcA, reach, closed, V.refs, V.refs.refsL, VO.refs, V.ren, V.ren.renL, VO.ren, hsv, ren_flat _ sv hsv, hal, renL_flat _ _ hal, h1, h2, h0', hj1]
      · obtain ⟨k2, k3, k4⟩ := (hbad.resolve_left h1).resolve_left h2
        have b2 : (ki == 2) = false := by simp [k2]
        have b3 : (ki == 3) = false := by simp [k3]
        have b4 : (ki == 4) = false := by simp [k4]
        simp (config := { maxSteps := 20000 }) [l3_0, hEnv, hHeap, run, runR, wantedV, vop, v_mov, v_len, v_bin, v_pick, v_iad, v_load, v_new, v_store, v_fad, vbin, sameV, Od.ev, Env.get, ok1, putE, applyU, addWs, chkU, hi, cells_agg, loadC, shapeOf, hx', hi0, setSeg0, hw, gcS, gcA, reach, closed, V.refs, V.refs.refsL, VO.refs, V.ren, V.ren.renL, VO.ren, hsv, ren_flat _ sv hsv, hal, renL_flat _ _ hal, h1, h2, b2, b3, b4, h0', hj1]
end Go.Pv
namespace Go.Pv
set_option maxHeartbeats 4000000
set_option maxRecDepth 100000
theorem cells_int (k : IntKind) (n : Int) : (V.int k n).cells? = some [.int k n] := rfl
theorem small144 {j : Nat} (hj : j < 12) : (j + 1) * 144 ≤ 70368744177664 ∧ (j + 1 + 1) * 144 ≤ 70368744177664 ∧ j ≤ 70368744177663 ∧ j + 1 ≤ 70368744177663 := by omega
theorem neg_nat (i : Nat) : ((i : Int) < 0) = False := by
  simp only [eq_iff_iff, iff_false]; omega
/-- What the law takes, without an answer. -/
theorem it3_call (call : Callf) (n i j : Nat) (xs : List (List V)) (clip : Bool) (sv : V) (al : List V) (c : Int) (b : Bool) (ki ss sq ve vk vn re rn rk rv : Int) (fd vs rs : List UInt8)
    (hx : xs[i]? = some (ev15 c b ki ss sq ve vk vn re rn rk rv fd vs rs)) (hi : i < xs.length) (hj : j < 12) (hw : IntKind.i64.wrap ((i : Int) + 1) = (i : Int) + 1) (hw2 : IntKind.i64.wrap (100 + (i : Int)) = 100 + (i : Int)) (hal : V.refs.refsL al = []) (hsv : sv.refs = []) (hlen : al.length = j * 15) (h0al : j = 0 → al = [])
    (h1 : ¬ (200 : Int) < (fd.length : Int)) (h2 : ¬ (600 : Int) < (vs.length : Int)) (hk : ki = 2 ∨ ki = 3 ∨ ki = 4) (hb : b = false ∨ ¬ (j : Int) + 1 < 12) :
    rnd call n 0 l3_0 [999999, 9, 1, 8, 5] ⟨hEnv i j (.is xs clip) sv, hHeap j al, []⟩ = some ⟨hEnv (i + 1) (j + 1) (.is xs clip) sv, hHeap (j + 1) (al ++ [.int .i64 (100 + (i : Int)), .bool false, .int .i64 ki, .int .i64 ss, .int .i64 sq, .str fd, .int .i64 ve, .int .i64 vk, .int .i64 vn, .str vs, .int .i64 0, .int .i64 0, .int .i64 0, .int .i64 0, .str []]), []⟩ := by
  have hi0 : ((i : Int) < 0) = False := neg_nat i
  have hj1 : (j : Int) < 12 := by exact_mod_cast hj
  obtain ⟨hb1, hb2, hb3, hb4⟩ := small144 hj
  have hx' : xs[i] = [.int .i64 c, .bool b, .int .i64 ki, .int .i64 ss, .int .i64 sq, .str fd, .int .i64 ve, .int .i64 vk, .int .i64 vn, .str vs, .int .i64 re, .int .i64 rn, .int .i64 rk, .int .i64 rv, .str rs] := by
    rw [List.getElem?_eq_getElem hi] at hx
    exact Option.some.inj hx
  unfold rnd
  rcases Nat.eq_zero_or_pos j with h0 | h0
  · subst h0
    obtain rfl := h0al rfl
    have hbf : b = false := hb.resolve_right (by simp)
    subst hbf
    rcases hk with rfl | rfl | rfl <;> simp (config := { maxSteps := 40000 }) [l3_0, hEnv, hHeap, run, runR, wantedV, vop, v_mov, v_len, v_bin, v_pick, v_iad, v_load, v_new, v_store, v_fad, v_build, fillP, v_buildS, v_app, sliceC, maxBytes, vbin, sameV, Od.ev, Env.get, ok1, putE, applyU, addWs, chkU, hi, cells_agg, cells_int, cells_bool, loadC, shapeOf, hx', hi0, setSeg0, setSegS, hw, hw2, gcS, gcA, reach, closed, V.refs, V.refs.refsL, VO.refs, V.ren, V.ren.renL, VO.ren, hsv, ren_flat _ sv hsv, hal, renL_flat _ _ hal, refsL_app, renL_app, h1, h2]
  · have h0' : ¬ j = 0 := by omega
    rcases hb with rfl | hb
    · rcases hk with rfl | rfl | rfl <;> simp (config := { maxSteps := 40000 }) [l3_0, hEnv, hHeap, run, runR, wantedV, vop, v_mov, v_len, v_bin, v_pick, v_iad, v_load, v_new, v_store, v_fad, v_build, fillP, v_buildS, v_app, sliceC, maxBytes, vbin, sameV, Od.ev, Env.get, ok1, putE, applyU, addWs, chkU, hi, cells_agg, cells_int, cells_bool, loadC, shapeOf, hx', hi0, setSeg0, setSegS, hw, hw2, gcS, gcA, reach, closed, V.refs, V.refs.refsL, VO.refs, V.ren, V.ren.renL, VO.ren, hsv, ren_flat _ sv hsv, hal, renL_flat _ _ hal, refsL_app, renL_app, h1, h2, h0', hj1, hb1, hb2, hb3, hb4, hlen]
    · have hb5 : ((j : Int) + 1 < 12) = False := by simp only [eq_iff_iff, iff_false]; exact hb
      rcases hk with rfl | rfl | rfl <;> cases b <;> simp (config := { maxSteps := 40000 }) [l3_0, hEnv, hHeap, run, runR, wantedV, vop, v_mov, v_len, v_bin, v_pick, v_iad, v_load, v_new, v_store, v_fad, v_build, fillP, v_buildS, v_app, sliceC, maxBytes, vbin, sameV, Od.ev, Env.get, ok1, putE, applyU, addWs, chkU, hi, cells_agg, cells_int, cells_bool, loadC, shapeOf, hx', hi0, setSeg0, setSegS, hw, hw2, gcS, gcA, reach, closed, V.refs, V.refs.refsL, VO.refs, V.ren, V.ren.renL, VO.ren, hsv, ren_flat _ sv hsv, hal, renL_flat _ _ hal, refsL_app, renL_app, h1, h2, h0', hj1, hb1, hb2, hb3, hb4, hb5, hlen]
end Go.Pv
namespace Go.Pv
set_option maxHeartbeats 4000000
set_option maxRecDepth 100000
/-- What the law takes, with an answer behind it. -/
theorem it3_both (call : Callf) (n i j : Nat) (xs : List (List V)) (clip : Bool) (sv : V) (al : List V) (c : Int) (ki ss sq ve vk vn re rn rk rv : Int) (fd vs rs : List UInt8)
    (hx : xs[i]? = some (ev15 c true ki ss sq ve vk vn re rn rk rv fd vs rs)) (hi : i < xs.length) (hj : j < 12) (hw : IntKind.i64.wrap ((i : Int) + 1) = (i : Int) + 1) (hw2 : IntKind.i64.wrap (100 + (i : Int)) = 100 + (i : Int)) (hal : V.refs.refsL al = []) (hsv : sv.refs = []) (hlen : al.length = j * 15) (h0al : j = 0 → al = [])
    (h1 : ¬ (200 : Int) < (fd.length : Int)) (h2 : ¬ (600 : Int) < (vs.length : Int)) (hk : ki = 2 ∨ ki = 3 ∨ ki = 4) (hb : (j : Int) + 1 < 12) :
    rnd call n 0 l3_0 [999999, 9, 1, 8, 5] ⟨hEnv i j (.is xs clip) sv, hHeap j al, []⟩ = some ⟨hEnv (i + 1) (j + 2) (.is xs clip) sv, hHeap (j + 2) (al ++ [.int .i64 (100 + (i : Int)), .bool false, .int .i64 ki, .int .i64 ss, .int .i64 sq, .str fd, .int .i64 ve, .int .i64 vk, .int .i64 vn, .str vs, .int .i64 0, .int .i64 0, .int .i64 0, .int .i64 0, .str [], .int .i64 (100 + (i : Int)), .bool true, .int .i64 ki, .int .i64 ss, .int .i64 sq, .str fd, .int .i64 ve, .int .i64 vk, .int .i64 vn, .str vs, .int .i64 16, .int .i64 0, .int .i64 0, .int .i64 0, .str []]), []⟩ := by
  have hi0 : ((i : Int) < 0) = False := neg_nat i
  have hj1 : (j : Int) < 12 := by exact_mod_cast hj
  obtain ⟨hb1, hb2, hb3, hb4⟩ := small144 hj
  have hx' : xs[i] = [.int .i64 c, .bool true, .int .i64 ki, .int .i64 ss, .int .i64 sq, .str fd, .int .i64 ve, .int .i64 vk, .int .i64 vn, .str vs, .int .i64 re, .int .i64 rn, .int .i64 rk, .int .i64 rv, .str rs] := by
    rw [List.getElem?_eq_getElem hi] at hx
    exact Option.some.inj hx
  unfold rnd
  rcases Nat.eq_zero_or_pos j with h0 | h0
  · subst h0
    obtain rfl := h0al rfl
    rcases hk with rfl | rfl | rfl <;> simp (config := { maxSteps := 60000 }) [l3_0, hEnv, hHeap, run, runR, wantedV, vop, v_mov, v_len, v_bin, v_pick, v_iad, v_load, v_new, v_store, v_fad, v_build, fillP, v_buildS, v_app, sliceC, maxBytes, vbin, sameV, Od.ev, Env.get, ok1, putE, applyU, addWs, chkU, hi, cells_agg, cells_int, cells_bool, loadC, shapeOf, hx', hi0, setSeg0, setSegS, hw, hw2, gcS, gcA, reach, closed, V.refs, V.refs.refsL, VO.refs, V.ren, V.ren.renL, VO.ren, hsv, ren_flat _ sv hsv, hal, renL_flat _ _ hal, refsL_app, renL_app, h1, h2]
  · have h0' : ¬ j = 0 := by omega
    have hl2 : j * 15 + 15 = (j + 1) * 15 := by omega
    have hb6 : j ≤ 70368744177662 := Nat.le_trans (Nat.le_of_lt hj) (by decide)
    rcases hk with rfl | rfl | rfl <;> simp (config := { maxSteps := 60000 }) [l3_0, hEnv, hHeap, run, runR, wantedV, vop, v_mov, v_len, v_bin, v_pick, v_iad, v_load, v_new, v_store, v_fad, v_build, fillP, v_buildS, v_app, sliceC, maxBytes, vbin, sameV, Od.ev, Env.get, ok1, putE, applyU, addWs, chkU, hi, cells_agg, cells_int, cells_bool, loadC, shapeOf, hx', hi0, setSeg0, setSegS, hw, hw2, gcS, gcA, reach, closed, V.refs, V.refs.refsL, VO.refs, V.ren, V.ren.renL, VO.ren, hsv, ren_flat _ sv hsv, hal, renL_flat _ _ hal, refsL_app, renL_app, h1, h2, h0', hj1, hb, hb1, hb2, hb3, hb4, hb6, hlen, hl2]
end Go.Pv
namespace Go.Pv
set_option maxHeartbeats 4000000
set_option maxRecDepth 100000
/-- What the law gathers: calls that need not be, of clients that are all others. -/
structure GoodI (its : List It) (b : Int) : Prop where
  ki : ∀ t ∈ its, ¬ t.d.ki < 2 ∧ ¬ 4 < t.d.ki
  re : ∀ t ∈ its, ∀ p, t.a = some p → p.2.re = 16
  lt : ∀ t ∈ its, t.c < b
  ne : its.Pairwise (fun a b => a.c ≠ b.c)
theorem GoodI.nil (b : Int) : GoodI [] b := ⟨by simp, by simp, by simp, .nil⟩
theorem GoodI.up {its : List It} {b b' : Int} (h : GoodI its b) (hb : b ≤ b') : GoodI its b' := ⟨h.ki, h.re, fun t ht => Int.lt_of_lt_of_le (h.lt t ht) hb, h.ne⟩
theorem GoodI.add {its : List It} {b : Int} (h : GoodI its b) {t : It} (h1 : ¬ t.d.ki < 2 ∧ ¬ 4 < t.d.ki) (h2 : ∀ p, t.a = some p → p.2.re = 16) (h3 : t.c = b) : GoodI (its ++ [t]) (b + 1) := by
  refine ⟨?_, ?_, ?_, ?_⟩
  · intro x hx
    rcases List.mem_append.1 hx with hx | hx
    · exact h.ki x hx
    · simp at hx; subst hx; exact h1
  · intro x hx
    rcases List.mem_append.1 hx with hx | hx
    · exact h.re x hx
    · simp at hx; subst hx; exact h2
  · intro x hx
    rcases List.mem_append.1 hx with hx | hx
    · have := h.lt x hx; omega
    · simp at hx; subst hx; omega
  · rw [List.pairwise_append]
    refine ⟨h.ne, by simp, ?_⟩
    intro x hx y hy
    simp at hy
    subst hy
    have := h.lt x hx
    omega
def evsOf (its : List It) : List (List V) := its.flatMap It.evs
theorem evsOf_len15 (its : List It) : ∀ y ∈ evsOf its, y.length = 15 := by
  intro y hy
  obtain ⟨t, _, h⟩ := List.mem_flatMap.1 hy
  exact evs_len t y h
theorem flat15 : ∀ (l : List (List V)), (∀ y ∈ l, y.length = 15) → l.flatten.length = l.length * 15
  | [], _ => rfl
  | y :: l, h => by
    simp only [List.flatten_cons, List.length_append, List.length_cons, flat15 l fun y hy => h y (by simp [hy]), h y (by simp)]
    omega
theorem evC_refs (c : Int) (b : Bool) (d : Cd) (r : Rp) : V.refs.refsL (evC c b d r) = [] := rfl
theorem refsL_flatten : ∀ (l : List (List V)), (∀ y ∈ l, V.refs.refsL y = []) → V.refs.refsL l.flatten = []
  | [], _ => rfl
  | y :: l, h => by rw [List.flatten_cons, refsL_app, h y (by simp), refsL_flatten l fun z hz => h z (by simp [hz])]; rfl
theorem evsOf_refs (its : List It) : V.refs.refsL (evsOf its).flatten = [] := by
  refine refsL_flatten _ fun y hy => ?_
  obtain ⟨t, _, h⟩ := List.mem_flatMap.1 hy
  unfold It.evs at h
  rcases List.mem_cons.1 h with rfl | h
  · exact evC_refs _ _ _ _
  · split at h
    · simp at h; subst h; exact evC_refs _ _ _ _
    · simp at h
def hSt (i : Nat) (its : List It) (xs : List (List V)) (clip : Bool) (sv : V) : St := ⟨hEnv i (evsOf its).length (.is xs clip) sv, hHeap (evsOf its).length (evsOf its).flatten, []⟩

theorem loop3 (call : Callf) (n : Nat) (xs : List (List V)) (clip : Bool) (sv : V) (hsv : sv.refs = []) (h60 : xs.length ≤ 60)
    (hev : ∀ y ∈ xs, ∃ (c : Int) (b : Bool) (ki ss sq ve vk vn re rn rk rv : Int) (fd vs rs : List UInt8), y = ev15 c b ki ss sq ve vk vn re rn rk rv fd vs rs) : ∀ (m i N : Nat) (its : List It),
    i + m = xs.length → m ≤ N → GoodI its (100 + (i : Int)) → (evsOf its).length ≤ 12 →
    ∃ its' e, iterG (run call n 0 l3_0) (gcS 0 [999999, 9, 1, 8, 5]) N (hSt i its xs clip sv) = some (.exit 0, ⟨e, hHeap (evsOf its').length (evsOf its').flatten, []⟩) ∧
      e.get 8 = (if (evsOf its').length = 0 then .nils else .sl 0 0 (evsOf its').length none) ∧ e.get 5 = sv ∧ GoodI its' 1000 ∧ (evsOf its').length ≤ 12 := by
  intro m
  induction m with
  | zero =>
    intro i N its hi hN hG h12
    have hii : ((i : Int) < (xs.length : Int)) = False := by simp only [eq_iff_iff, iff_false]; omega
    have hb : ∃ e, run call n 0 l3_0 (hSt i its xs clip sv) = some (.exit 0, ⟨e, hHeap (evsOf its).length (evsOf its).flatten, []⟩) ∧ e.get 8 = (if (evsOf its).length = 0 then .nils else .sl 0 0 (evsOf its).length none) ∧ e.get 5 = sv := by
      have hl : ¬ i < xs.length := by omega
      simp [l3_0, hSt, hEnv, run, runR, wantedV, vop, v_mov, v_len, v_bin, v_pick, vbin, Od.ev, Env.get, ok1, putE, applyU, addWs, chkU, hl]
    obtain ⟨e, h1, h2, h3⟩ := hb
    refine ⟨its, e, ?_, h2, h3, hG.up (by omega), h12⟩
    unfold iterG
    rw [h1]
  | succ m ih =>
    intro i N its hi hN hG h12
    obtain ⟨N', rfl⟩ : ∃ N', N = N' + 1 := ⟨N - 1, by omega⟩
    have hlt : i < xs.length := by omega
    by_cases hj : (evsOf its).length < 12
    · obtain ⟨c, b, ki, ss, sq, ve, vk, vn, re, rn, rk, rv, fd, vs, rs, hy⟩ := hev _ (List.getElem_mem hlt)
      have hx : xs[i]? = some (ev15 c b ki ss sq ve vk vn re rn rk rv fd vs rs) := by rw [List.getElem?_eq_getElem hlt, hy]
      have hw : IntKind.i64.wrap ((i : Int) + 1) = (i : Int) + 1 := wrap_nat (i := i + 1) (by omega)
      have hw2 : IntKind.i64.wrap (100 + (i : Int)) = 100 + (i : Int) := IntWalk.i64_in _ (by omega)
      have e1 : ((i + 1 : Nat) : Int) = (i : Int) + 1 := by omega
      by_cases hbad : (200 : Int) < (fd.length : Int) ∨ (600 : Int) < (vs.length : Int) ∨ (ki ≠ 2 ∧ ki ≠ 3 ∧ ki ≠ 4)
      · have h1 := it3_skip call n i (evsOf its).length xs clip sv (evsOf its).flatten c b ki ss sq ve vk vn re rn rk rv fd vs rs hx hlt hj hw (evsOf_refs its) hsv hbad
        have := ih (i + 1) N' its (by omega) (by omega) (hG.up (by omega)) h12
        unfold hSt at this ⊢
        rw [iterG_rnd h1]
        exact this
      · simp only [not_or] at hbad
        obtain ⟨g1, g2, g3⟩ := hbad
        have hk : ki = 2 ∨ ki = 3 ∨ ki = 4 := by omega
        have hl15 := flat15 _ (evsOf_len15 its)
        by_cases hb : b = true ∧ ((evsOf its).length : Int) + 1 < 12
        · obtain ⟨rfl, hb⟩ := hb
          have h1 := it3_both call n i (evsOf its).length xs clip sv (evsOf its).flatten c ki ss sq ve vk vn re rn rk rv fd vs rs hx hlt hj hw hw2 (evsOf_refs its) hsv hl15 (fun h => by rw [List.eq_nil_of_length_eq_zero h]; rfl) g1 g2 hk hb
          let t : It := ⟨100 + (i : Int), ⟨ki, ss, sq, fd, ve, vk, vn, vs⟩, Rp.zero, some (⟨ki, ss, sq, fd, ve, vk, vn, vs⟩, ⟨16, 0, 0, 0, []⟩)⟩
          have := ih (i + 1) N' (its ++ [t]) (by omega) (by omega) (by rw [e1, ← Int.add_assoc]; exact hG.add (by simp [t]; omega) (fun p hp => by simp [t] at hp; rw [← hp]) rfl) (by simp [evsOf, t, It.evs] at hb ⊢; omega)
          unfold hSt at this ⊢
          rw [iterG_rnd h1]
          simpa [evsOf, t, It.evs, evC, Cd.cells, Rp.cells, Rp.zero] using this
        · have hb' : b = false ∨ ¬ ((evsOf its).length : Int) + 1 < 12 := by
            cases b with
            | false => exact .inl rfl
            | true => exact .inr fun h => hb ⟨rfl, h⟩
          have h1 := it3_call call n i (evsOf its).length xs clip sv (evsOf its).flatten c b ki ss sq ve vk vn re rn rk rv fd vs rs hx hlt hj hw hw2 (evsOf_refs its) hsv hl15 (fun h => by rw [List.eq_nil_of_length_eq_zero h]; rfl) g1 g2 hk hb'
          let t : It := ⟨100 + (i : Int), ⟨ki, ss, sq, fd, ve, vk, vn, vs⟩, Rp.zero, none⟩
          have := ih (i + 1) N' (its ++ [t]) (by omega) (by omega) (by rw [e1, ← Int.add_assoc]; exact hG.add (by simp [t]; omega) (fun p hp => by simp [t] at hp) rfl) (by simp [evsOf, t, It.evs] at hj ⊢; omega)
          unfold hSt at this ⊢
          rw [iterG_rnd h1]
          simpa [evsOf, t, It.evs, evC, Cd.cells, Rp.cells, Rp.zero] using this
    · have hj12 : (evsOf its).length = 12 := by omega
      have hb : ∃ e, run call n 0 l3_0 (hSt i its xs clip sv) = some (.exit 0, ⟨e, hHeap (evsOf its).length (evsOf its).flatten, []⟩) ∧ e.get 8 = (if (evsOf its).length = 0 then .nils else .sl 0 0 (evsOf its).length none) ∧ e.get 5 = sv := by
        simp [l3_0, hSt, hEnv, run, runR, wantedV, vop, v_mov, v_len, v_bin, v_pick, vbin, Od.ev, Env.get, ok1, putE, applyU, addWs, chkU, hlt, hj12]
      obtain ⟨e, h1, h2, h3⟩ := hb
      refine ⟨its, e, ?_, h2, h3, hG.up (by omega), h12⟩
      unfold iterG
      rw [h1]
end Go.Pv
namespace Go.Pv
set_option maxHeartbeats 1000000
set_option maxRecDepth 100000
/-- Cut anywhere, the events are again those of such calls. -/
theorem cut_evs : ∀ (its : List It) (k : Nat), ∃ its', evsOf its' = (evsOf its).take k ∧ its'.map It.c <+: its.map It.c ∧ ∀ t' ∈ its', ∃ t ∈ its, t'.c = t.c ∧ t'.d = t.d ∧ (t'.a = t.a ∨ t'.a = none)
  | [], k => ⟨[], by simp [evsOf], by simp, by simp⟩
  | t :: its, k => by
    by_cases hk : t.evs.length ≤ k
    · obtain ⟨its', h1, h2, h3⟩ := cut_evs its (k - t.evs.length)
      refine ⟨t :: its', ?_, ?_, ?_⟩
      · simp only [evsOf, List.flatMap_cons] at h1 ⊢
        rw [h1, List.take_append, List.take_of_length_le hk]
      · simpa using h2
      · intro t' ht'
        rcases List.mem_cons.1 ht' with rfl | ht'
        · exact ⟨t', by simp, rfl, rfl, .inl rfl⟩
        · obtain ⟨t0, h4, h5⟩ := h3 t' ht'
          exact ⟨t0, by simp [h4], h5⟩
    · rcases Nat.eq_zero_or_pos k with h0 | h0
      · subst h0
        exact ⟨[], by simp [evsOf], by simp, by simp⟩
      · have h2 := evs_two t
        have hk1 : k = 1 := by split at h2 <;> omega
        subst hk1
        refine ⟨[{ t with a := none }], ?_, by simp, ?_⟩
        · simp [evsOf, It.evs]
        · intro t' ht'
          simp at ht'
          subst ht'
          exact ⟨t, by simp, rfl, rfl, .inr rfl⟩
theorem GoodI.cut {its : List It} {b : Int} (h : GoodI its b) (k : Nat) : ∃ its', evsOf its' = (evsOf its).take k ∧ GoodI its' b := by
  obtain ⟨its', h1, h2, h3⟩ := cut_evs its k
  refine ⟨its', h1, ?_, ?_, ?_, ?_⟩
  · intro t' ht'
    obtain ⟨t, ht, _, e2, _⟩ := h3 t' ht'
    rw [e2]
    exact h.ki t ht
  · intro t' ht' p hp
    obtain ⟨t, ht, _, _, e3⟩ := h3 t' ht'
    rcases e3 with e3 | e3
    · exact h.re t ht p (by rw [← e3]; exact hp)
    · rw [e3] at hp; cases hp
  · intro t' ht'
    obtain ⟨t, ht, e1, _, _⟩ := h3 t' ht'
    rw [e1]
    exact h.lt t ht
  · have : (its.map It.c).Pairwise (· ≠ ·) := List.pairwise_map.2 h.ne
    exact List.pairwise_map.1 (this.sublist h2.sublist)
theorem its_len (its : List It) : its.length ≤ (evsOf its).length := by
  induction its with
  | nil => simp
  | cons t l ih =>
    simp only [evsOf, List.flatMap_cons, List.length_append, List.length_cons] at ih ⊢
    have := evs_pos t
    omega

theorem tmod5 (x : Int) : x.tmod 5 = if 0 ≤ x then x % 5 else -((-x) % 5) := by
  split
  · rename_i h
    exact Int.tmod_eq_emod_of_nonneg h
  · rename_i h
    have h1 : (-x).tmod 5 = (-x) % 5 := Int.tmod_eq_emod_of_nonneg (by omega)
    rw [← h1, Int.neg_tmod, Int.neg_neg]
/-- Place, with five places. -/
theorem place_ok {C : Ctx} (hmem : ∀ a h, C.memo 13 a h = none) (hnat : C.nat 13 = none) (hcode : C.code 13 = some c13) (hkeep : C.keep 13 = 0) (N : Nat) (x : Int) : callN C (N + 1) 13 [.int .i64 x, .int .i64 5] [] = some (.ok (.int .i64 (x % 5)) [] []) := by
  rw [callN_code (hmem _ _) hnat hcode, hkeep]
  have f1 : ∀ y : Int, frz [] 0 200 (.int .i64 y) = some (.int .i64 y) := fun y => rfl
  by_cases hx : x.tmod 5 < 0
  · have e : IntKind.wrap .i64 (x.tmod 5 + 5) = x % 5 := by
      have h1 : x.tmod 5 + 5 = x % 5 := by
        rw [tmod5] at hx ⊢
        split at hx <;> omega
      rw [h1]
      exact IntWalk.i64_in _ (by omega)
    simp [c13, envOf, run, runR, wantedV, vop, v_mov, v_bin, vbin, Od.ev, Env.get, ok1, putE, applyU, addWs, chkU, hx, e, outC, outD, resV, resOne, finish, f1]
  · have e : x.tmod 5 = x % 5 := by
      rw [tmod5] at hx ⊢
      split at hx <;> omega
    simp [c13, envOf, run, runR, wantedV, vop, v_mov, v_bin, vbin, Od.ev, Env.get, ok1, putE, applyU, addWs, chkU, hx, outC, outD, resV, resOne, finish, f1]
    exact e
end Go.Pv
namespace Go.Pv
set_option maxHeartbeats 1000000
set_option maxRecDepth 100000
def formV : Nat → V
  | 0 => formV0 | 1 => formV1 | 2 => formV2 | 3 => formV3 | _ => formV4
def r5x : List VC := match c5.body with
  | .seq a (.seq (.seq b d) e) => [a, b, d, e]
  | _ => []
theorem b5 : c5.body = .seq (r5x.getD 0 .skip) (.seq (.seq (r5x.getD 1 .skip) (r5x.getD 2 .skip)) (r5x.getD 3 .skip)) := by kernel_rfl
theorem form5_0 (call : Callf) (n : Nat) (x : Int) : outC 0 0 c5.results (run call n 0 (.seq (r5x.getD 2 .skip) (r5x.getD 3 .skip)) ⟨[(4, .int .i64 0), (3, .int .i64 x), (2, .nils), (0, .int .i64 x)], [], []⟩) = some (.ok formV0 [] []) := by kernel_rfl
theorem form5_1 (call : Callf) (n : Nat) (x : Int) : outC 0 0 c5.results (run call n 0 (.seq (r5x.getD 2 .skip) (r5x.getD 3 .skip)) ⟨[(4, .int .i64 1), (3, .int .i64 x), (2, .nils), (0, .int .i64 x)], [], []⟩) = some (.ok formV1 [] []) := by kernel_rfl
theorem form5_2 (call : Callf) (n : Nat) (x : Int) : outC 0 0 c5.results (run call n 0 (.seq (r5x.getD 2 .skip) (r5x.getD 3 .skip)) ⟨[(4, .int .i64 2), (3, .int .i64 x), (2, .nils), (0, .int .i64 x)], [], []⟩) = some (.ok formV2 [] []) := by kernel_rfl
theorem form5_3 (call : Callf) (n : Nat) (x : Int) : outC 0 0 c5.results (run call n 0 (.seq (r5x.getD 2 .skip) (r5x.getD 3 .skip)) ⟨[(4, .int .i64 3), (3, .int .i64 x), (2, .nils), (0, .int .i64 x)], [], []⟩) = some (.ok formV3 [] []) := by kernel_rfl
theorem form5_4 (call : Callf) (n : Nat) (x : Int) : outC 0 0 c5.results (run call n 0 (.seq (r5x.getD 2 .skip) (r5x.getD 3 .skip)) ⟨[(4, .int .i64 4), (3, .int .i64 x), (2, .nils), (0, .int .i64 x)], [], []⟩) = some (.ok formV4 [] []) := by kernel_rfl
theorem form_ok {C : Ctx} (hmem : ∀ a h, C.memo 13 a h = none) (hnat : C.nat 13 = none) (hcode : C.code 13 = some c13) (hkeep : C.keep 13 = 0) (hmem5 : ∀ a h, C.memo 5 a h = none) (hnat5 : C.nat 5 = none) (hcode5 : C.code 5 = some c5) (hkeep5 : C.keep 5 = 0) (N : Nat) (x : Int) :
    callN C (N + 2) 5 [.int .i64 x] [] = some (.ok (formV (x % 5).toNat) [] []) := by
  rw [callN_code (hmem5 _ _) hnat5 hcode5, hkeep5]
  have hp := place_ok hmem hnat hcode hkeep N x
  have e1 : run (callN C (N + 1)) (N + 1) 0 (r5x.getD 0 .skip) ⟨[(0, .int .i64 x)], [], []⟩ = some (.normal, ⟨[(2, .nils), (0, .int .i64 x)], [], []⟩) := by
    simp [r5x, c5, run, runR, wantedV, vop, v_mov, Od.ev, ok1, putE, applyU, addWs, chkU]
  have e2 : run (callN C (N + 1)) (N + 1) 0 (r5x.getD 1 .skip) ⟨[(2, .nils), (0, .int .i64 x)], [], []⟩ = some (.normal, ⟨[(4, .int .i64 (x % 5)), (3, .int .i64 x), (2, .nils), (0, .int .i64 x)], [], []⟩) := by
    simp [r5x, c5, run, runR, wantedV, vop, v_mov, v_call, doCall, Od.ev, Env.get, ok1, putE, applyU, addWs, chkU, V.refs, V.refs.refsL, V.ren, V.ren.renL, reach, closed, hp]
  have e3 : ∀ s, run (callN C (N + 1)) (N + 1) 0 (.seq (.seq (r5x.getD 1 .skip) (r5x.getD 2 .skip)) (r5x.getD 3 .skip)) ⟨[(2, .nils), (0, .int .i64 x)], [], []⟩ = s ↔ run (callN C (N + 1)) (N + 1) 0 (.seq (r5x.getD 2 .skip) (r5x.getD 3 .skip)) ⟨[(4, .int .i64 (x % 5)), (3, .int .i64 x), (2, .nils), (0, .int .i64 x)], [], []⟩ = s := by
    intro s
    rw [show run (callN C (N + 1)) (N + 1) 0 (.seq (.seq (r5x.getD 1 .skip) (r5x.getD 2 .skip)) (r5x.getD 3 .skip)) ⟨[(2, .nils), (0, .int .i64 x)], [], []⟩ = run (callN C (N + 1)) (N + 1) 0 (.seq (r5x.getD 2 .skip) (r5x.getD 3 .skip)) ⟨[(4, .int .i64 (x % 5)), (3, .int .i64 x), (2, .nils), (0, .int .i64 x)], [], []⟩ by
      rw [run, run_seq e2]
      rw [run]]
  show outC 0 0 c5.results (run (callN C (N + 1)) (N + 1) 0 c5.body ⟨[(0, .int .i64 x)], [], []⟩) = _
  rw [b5, run_seq e1, (e3 _).2 rfl]
  have hx : x % 5 = 0 ∨ x % 5 = 1 ∨ x % 5 = 2 ∨ x % 5 = 3 ∨ x % 5 = 4 := by omega
  rcases hx with h | h | h | h | h <;> rw [h]
  · exact form5_0 _ _ _
  · exact form5_1 _ _ _
  · exact form5_2 _ _ _
  · exact form5_3 _ _ _
  · exact form5_4 _ _ _
end Go.Pv
namespace Go.Pv
open Go.Proofs
set_option maxRecDepth 100000
def sOf : CRes → V
  | .ok (.tup (s :: _)) _ _ => s
  | _ => .un
def newR : Nat → CRes
  | 0 => newR0 | 1 => newR1 | 2 => newR2 | 3 => newR3 | _ => newR4
def sV (k : Nat) : V := sOf (newR k)
def pOf : Nat → Nat
  | 0 => 5 | 2 => 5 | _ => 4
def vals (p : Nat) : List V := (List.replicate p [V.int .i64 0, .int .i64 0, .str []]).flatten
def vers (p : Nat) : List V := List.replicate p (.int .i64 0)
def key (p : Nat) : List UInt8 := (2 * p).toUInt8 :: List.replicate (4 * p + 1) 0
def stV (p : Nat) : V := .agg [.sl 0 0 p (some p), .sl 1 0 p (some p), .bool false]
def stH (p : Nat) : List VO := [.cells (vals p) 3, .cells (vers p) 1]
theorem pp0 : callN (mkC m3) 400 17 [sV 0] [] = some (.ok (stV 5) (stH 5) []) := by kernel_rfl
theorem pp1 : callN (mkC m3) 400 17 [sV 1] [] = some (.ok (stV 4) (stH 4) []) := by kernel_rfl
theorem pp2 : callN (mkC m3) 400 17 [sV 2] [] = some (.ok (stV 5) (stH 5) []) := by kernel_rfl
theorem pp3 : callN (mkC m3) 400 17 [sV 3] [] = some (.ok (stV 4) (stH 4) []) := by kernel_rfl
theorem pp4 : callN (mkC m3) 400 17 [sV 4] [] = some (.ok (stV 4) (stH 4) []) := by kernel_rfl
theorem put4 : callN (mkC m3) 400 25 [.nils, stV 4] (stH 4) = some (.ok (.is (bytesL (key 4)) false) (stH 4) []) := by kernel_rfl
theorem put5 : callN (mkC m3) 400 25 [.nils, stV 5] (stH 5) = some (.ok (.is (bytesL (key 5)) false) (stH 5) []) := by kernel_rfl
def papers : List Me := [⟨17, [sV 0], [], .ok (stV 5) (stH 5) []⟩, ⟨17, [sV 1], [], .ok (stV 4) (stH 4) []⟩, ⟨17, [sV 2], [], .ok (stV 5) (stH 5) []⟩, ⟨17, [sV 3], [], .ok (stV 4) (stH 4) []⟩, ⟨17, [sV 4], [], .ok (stV 4) (stH 4) []⟩,
  ⟨25, [.nils, stV 4], stH 4, .ok (.is (bytesL (key 4)) false) (stH 4) []⟩, ⟨25, [.nils, stV 5], stH 5, .ok (.is (bytesL (key 5)) false) (stH 5) []⟩, ⟨6, [], [], .ok (.bool true) [] []⟩]
theorem papers_ok {H : Array Obj} : ∀ e ∈ papers, Fact Tryz.prog H e.f e.a e.h e.r := by
  simp only [papers, List.forall_mem_cons]
  exact ⟨fact_of m3_ok pp0, fact_of m3_ok pp1, fact_of m3_ok pp2, fact_of m3_ok pp3, fact_of m3_ok pp4, fact_of m3_ok put4, fact_of m3_ok put5, fact_of m3_ok awake_run, fun _ h => nomatch h⟩
def m4 (f : FuncId) (args : List V) (h : List VO) : Option CRes :=
  match f with
  | 4 => memoL news f args h
  | 6 | 17 | 25 => memoL papers f args h
  | _ => none
theorem m4_ok {H : Array Obj} : ∀ f args hl r, m4 f args hl = some r → Fact Tryz.prog H f args hl r := by
  intro f args hl r h
  unfold m4 at h
  split at h
  · exact memoL_ok (Q := fun f a h r => Fact Tryz.prog H f a h r) news_ok h
  · exact memoL_ok (Q := fun f a h r => Fact Tryz.prog H f a h r) papers_ok h
  · exact memoL_ok (Q := fun f a h r => Fact Tryz.prog H f a h r) papers_ok h
  · exact memoL_ok (Q := fun f a h r => Fact Tryz.prog H f a h r) papers_ok h
  · cases h
theorem new_at (k : Nat) (hk : k < 5) : m4 4 [formV k] [] = some (newR k) ∧ m4 17 [sV k] [] = some (.ok (stV (pOf k)) (stH (pOf k)) []) ∧ newR k = .ok (.tup [sV k, .int .i64 0, .int .i64 0]) [] [] ∧ (sV k).refs = [] ∧ (sV k).cells? = some [sV k] := by
  rcases k with _ | _ | _ | _ | _ | k
  · exact ⟨by kernel_rfl, by kernel_rfl, by kernel_rfl, by kernel_rfl, by kernel_rfl⟩
  · exact ⟨by kernel_rfl, by kernel_rfl, by kernel_rfl, by kernel_rfl, by kernel_rfl⟩
  · exact ⟨by kernel_rfl, by kernel_rfl, by kernel_rfl, by kernel_rfl, by kernel_rfl⟩
  · exact ⟨by kernel_rfl, by kernel_rfl, by kernel_rfl, by kernel_rfl, by kernel_rfl⟩
  · exact ⟨by kernel_rfl, by kernel_rfl, by kernel_rfl, by kernel_rfl, by kernel_rfl⟩
  · omega
theorem put_at (p : Nat) (hp : p = 4 ∨ p = 5) : m4 25 [.nils, stV p] (stH p) = some (.ok (.is (bytesL (key p)) false) (stH p) []) := by
  rcases hp with rfl | rfl <;> kernel_rfl
theorem awake_at : m4 6 [] [] = some (.ok (.bool true) [] []) := by kernel_rfl
end Go.Pv
