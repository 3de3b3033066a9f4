/- The formulas of the five forms, parsed. -/
import Derived.Test.YtcbpldmnobckeaaGreatDoorMa
import Derived.KernelRfl
set_option linter.unusedSimpArgs false
set_option linter.unusedVariables false
namespace Go.Pv
open Go.Proofs
set_option maxRecDepth 100000
def r0 : CRes := (.ok (.tup [(.agg [(.int .i64 15),(.int .i64 0),(.str []),(.is [[(.int .i64 1),(.int .i64 0),(.str []),.nils],[(.int .i64 4),(.int .i64 0),(.str [97]),.nils]] true)]),(.int .i64 0),(.int .i64 0)]) [] [])
theorem p0 : callN (mkC m1) 400 20 [(.str [97,32,62,61,32,48])] [] = some r0 := by kernel_rfl
def r1 : CRes := (.ok (.tup [(.agg [(.int .i64 7),(.int .i64 0),(.str []),(.is [[(.int .i64 4),(.int .i64 0),(.str [97]),.nils],[(.int .i64 4),(.int .i64 0),(.str [98]),.nils]] true)]),(.int .i64 0),(.int .i64 0)]) [] [])
theorem p1 : callN (mkC m1) 400 20 [(.str [97,43,98])] [] = some r1 := by kernel_rfl
def r2 : CRes := (.ok (.tup [(.agg [(.int .i64 14),(.int .i64 0),(.str []),(.is [[(.int .i64 4),(.int .i64 0),(.str [115,117,109]),.nils],[(.int .i64 1),(.int .i64 100),(.str []),.nils]] true)]),(.int .i64 0),(.int .i64 0)]) [] [])
theorem p2 : callN (mkC m1) 400 20 [(.str [115,117,109,32,60,32,49,48,48])] [] = some r2 := by kernel_rfl
def r3 : CRes := (.ok (.tup [(.agg [(.int .i64 14),(.int .i64 0),(.str []),(.is [[(.int .i64 1),(.int .i64 10),(.str []),.nils],[(.int .i64 4),(.int .i64 0),(.str [115,117,109]),.nils]] true)]),(.int .i64 0),(.int .i64 0)]) [] [])
theorem p3 : callN (mkC m1) 400 20 [(.str [115,117,109,32,62,32,49,48])] [] = some r3 := by kernel_rfl
def r4 : CRes := (.ok (.tup [(.agg [(.int .i64 14),(.int .i64 0),(.str []),(.is [[(.int .i64 19),(.int .i64 0),(.str []),(.is [[(.int .i64 4),(.int .i64 0),(.str [110,111,116,101]),.nils]] false)],[(.int .i64 1),(.int .i64 20),(.str []),.nils]] true)]),(.int .i64 0),(.int .i64 0)]) [] [])
theorem p4 : callN (mkC m1) 400 20 [(.str [108,101,110,40,110,111,116,101,41,32,60,32,50,48])] [] = some r4 := by kernel_rfl
def r5 : CRes := (.ok (.tup [(.agg [(.int .i64 4),(.int .i64 0),(.str [98,105,103]),.nils]),(.int .i64 0),(.int .i64 0)]) [] [])
theorem p5 : callN (mkC m1) 400 20 [(.str [98,105,103])] [] = some r5 := by kernel_rfl
def r6 : CRes := (.ok (.tup [(.agg [(.int .i64 9),(.int .i64 0),(.str []),(.is [[(.int .i64 4),(.int .i64 0),(.str [112,114,105,99,101]),.nils],[(.int .i64 4),(.int .i64 0),(.str [97,109,111,117,110,116]),.nils]] true)]),(.int .i64 0),(.int .i64 0)]) [] [])
theorem p6 : callN (mkC m1) 400 20 [(.str [112,114,105,99,101,32,42,32,97,109,111,117,110,116])] [] = some r6 := by kernel_rfl
def r7 : CRes := (.ok (.tup [(.agg [(.int .i64 15),(.int .i64 0),(.str []),(.is [[(.int .i64 4),(.int .i64 0),(.str [116,111,116,97,108]),.nils],[(.int .i64 1),(.int .i64 1000),(.str []),.nils]] true)]),(.int .i64 0),(.int .i64 0)]) [] [])
theorem p7 : callN (mkC m1) 400 20 [(.str [116,111,116,97,108,32,60,61,32,49,48,48,48])] [] = some r7 := by kernel_rfl
def r8 : CRes := (.ok (.tup [(.agg [(.int .i64 14),(.int .i64 0),(.str []),(.is [[(.int .i64 1),(.int .i64 0),(.str []),.nils],[(.int .i64 4),(.int .i64 0),(.str [97,109,111,117,110,116]),.nils]] true)]),(.int .i64 0),(.int .i64 0)]) [] [])
theorem p8 : callN (mkC m1) 400 20 [(.str [97,109,111,117,110,116,32,62,32,48])] [] = some r8 := by kernel_rfl
def r9 : CRes := (.ok (.tup [(.agg [(.int .i64 12),(.int .i64 0),(.str []),(.is [[(.int .i64 19),(.int .i64 0),(.str []),(.is [[(.int .i64 4),(.int .i64 0),(.str [99,111,117,112,111,110]),.nils]] false)],[(.int .i64 1),(.int .i64 4),(.str []),.nils]] true)]),(.int .i64 0),(.int .i64 0)]) [] [])
theorem p9 : callN (mkC m1) 400 20 [(.str [108,101,110,40,99,111,117,112,111,110,41,32,61,32,52])] [] = some r9 := by kernel_rfl
def r10 : CRes := (.ok (.tup [(.agg [(.int .i64 14),(.int .i64 0),(.str []),(.is [[(.int .i64 1),(.int .i64 5),(.str []),.nils],[(.int .i64 4),(.int .i64 0),(.str [97,109,111,117,110,116]),.nils]] true)]),(.int .i64 0),(.int .i64 0)]) [] [])
theorem p10 : callN (mkC m1) 400 20 [(.str [97,109,111,117,110,116,32,62,32,53])] [] = some r10 := by kernel_rfl
def r11 : CRes := (.ok (.tup [(.agg [(.int .i64 20),(.int .i64 0),(.str []),(.is [[(.int .i64 4),(.int .i64 0),(.str [102,105,114,115,116]),.nils],[(.int .i64 20),(.int .i64 0),(.str []),(.is [[(.int .i64 2),(.int .i64 0),(.str [32]),.nils],[(.int .i64 4),(.int .i64 0),(.str [108,97,115,116]),.nils]] false)]] false)]),(.int .i64 0),(.int .i64 0)]) [] [])
theorem p11 : callN (mkC m1) 400 20 [(.str [99,97,116,40,102,105,114,115,116,44,32,99,97,116,40,34,32,34,44,32,108,97,115,116,41,41])] [] = some r11 := by kernel_rfl
def r12 : CRes := (.ok (.tup [(.agg [(.int .i64 14),(.int .i64 0),(.str []),(.is [[(.int .i64 1),(.int .i64 3),(.str []),.nils],[(.int .i64 19),(.int .i64 0),(.str []),(.is [[(.int .i64 4),(.int .i64 0),(.str [102,117,108,108]),.nils]] false)]] true)]),(.int .i64 0),(.int .i64 0)]) [] [])
theorem p12 : callN (mkC m1) 400 20 [(.str [108,101,110,40,102,117,108,108,41,32,62,32,51])] [] = some r12 := by kernel_rfl
def r13 : CRes := (.ok (.tup [(.agg [(.int .i64 23),(.int .i64 0),(.str []),(.is [[(.int .i64 4),(.int .i64 0),(.str [102,117,108,108]),.nils]] false)]),(.int .i64 0),(.int .i64 0)]) [] [])
theorem p13 : callN (mkC m1) 400 20 [(.str [117,112,40,102,117,108,108,41])] [] = some r13 := by kernel_rfl
def r14 : CRes := (.ok (.tup [(.agg [(.int .i64 4),(.int .i64 0),(.str [108,111,117,100]),.nils]),(.int .i64 0),(.int .i64 0)]) [] [])
theorem p14 : callN (mkC m1) 400 20 [(.str [108,111,117,100])] [] = some r14 := by kernel_rfl
def r15 : CRes := (.ok (.tup [(.agg [(.int .i64 17),(.int .i64 0),(.str []),(.is [[(.int .i64 14),(.int .i64 0),(.str []),(.is [[(.int .i64 1),(.int .i64 3),(.str []),.nils],[(.int .i64 4),(.int .i64 0),(.str [122]),.nils]] true)],[(.int .i64 12),(.int .i64 0),(.str []),(.is [[(.int .i64 4),(.int .i64 0),(.str [120]),.nils],[(.int .i64 1),(.int .i64 0),(.str []),.nils]] true)]] true)]),(.int .i64 0),(.int .i64 0)]) [] [])
theorem p15 : callN (mkC m1) 400 20 [(.str [122,32,62,32,51,32,124,32,120,32,61,32,48])] [] = some r15 := by kernel_rfl
def r16 : CRes := (.ok (.tup [(.agg [(.int .i64 18),(.int .i64 0),(.str []),(.is [[(.int .i64 22),(.int .i64 0),(.str []),(.is [[(.int .i64 4),(.int .i64 0),(.str [120]),.nils]] false)],[(.int .i64 11),(.int .i64 0),(.str []),(.is [[(.int .i64 4),(.int .i64 0),(.str [120]),.nils],[(.int .i64 1),(.int .i64 7),(.str []),.nils]] true)],[(.int .i64 1),(.int .i64 0),(.str []),.nils]] false)]),(.int .i64 0),(.int .i64 0)]) [] [])
theorem p16 : callN (mkC m1) 400 20 [(.str [105,102,40,104,97,115,40,120,41,44,32,120,32,37,32,55,44,32,48,41])] [] = some r16 := by kernel_rfl
def r17 : CRes := (.ok (.tup [(.agg [(.int .i64 10),(.int .i64 0),(.str []),(.is [[(.int .i64 1),(.int .i64 100),(.str []),.nils],[(.int .i64 4),(.int .i64 0),(.str [121]),.nils]] true)]),(.int .i64 0),(.int .i64 0)]) [] [])
theorem p17 : callN (mkC m1) 400 20 [(.str [49,48,48,32,47,32,121])] [] = some r17 := by kernel_rfl
def r18 : CRes := (.ok (.tup [(.agg [(.int .i64 14),(.int .i64 0),(.str []),(.is [[(.int .i64 5),(.int .i64 0),(.str []),(.is [[(.int .i64 1),(.int .i64 50),(.str []),.nils]] true)],[(.int .i64 4),(.int .i64 0),(.str [122]),.nils]] true)]),(.int .i64 0),(.int .i64 0)]) [] [])
theorem p18 : callN (mkC m1) 400 20 [(.str [122,32,62,32,45,53,48])] [] = some r18 := by kernel_rfl
def r19 : CRes := (.ok (.tup [(.agg [(.int .i64 14),(.int .i64 0),(.str []),(.is [[(.int .i64 4),(.int .i64 0),(.str [110]),.nils],[(.int .i64 1),(.int .i64 50),(.str []),.nils]] true)]),(.int .i64 0),(.int .i64 0)]) [] [])
theorem p19 : callN (mkC m1) 400 20 [(.str [110,32,60,32,53,48])] [] = some r19 := by kernel_rfl
def r20 : CRes := (.ok (.tup [(.agg [(.int .i64 21),(.int .i64 0),(.str []),(.is [[(.int .i64 4),(.int .i64 0),(.str [115]),.nils],[(.int .i64 4),(.int .i64 0),(.str [110]),.nils]] false)]),(.int .i64 0),(.int .i64 0)]) [] [])
theorem p20 : callN (mkC m1) 400 20 [(.str [99,117,116,40,115,44,32,110,41])] [] = some r20 := by kernel_rfl
def r21 : CRes := (.ok (.tup [(.agg [(.int .i64 12),(.int .i64 0),(.str []),(.is [[(.int .i64 4),(.int .i64 0),(.str [116]),.nils],[(.int .i64 4),(.int .i64 0),(.str [115]),.nils]] true)]),(.int .i64 0),(.int .i64 0)]) [] [])
theorem p21 : callN (mkC m1) 400 20 [(.str [116,32,61,32,115])] [] = some r21 := by kernel_rfl
def r22 : CRes := (.ok (.tup [(.agg [(.int .i64 4),(.int .i64 0),(.str [102]),.nils]),(.int .i64 0),(.int .i64 0)]) [] [])
theorem p22 : callN (mkC m1) 400 20 [(.str [102])] [] = some r22 := by kernel_rfl
def parses : List Me := [⟨20, [(.str [97,32,62,61,32,48])], [], r0⟩,
  ⟨20, [(.str [97,43,98])], [], r1⟩,
  ⟨20, [(.str [115,117,109,32,60,32,49,48,48])], [], r2⟩,
  ⟨20, [(.str [115,117,109,32,62,32,49,48])], [], r3⟩,
  ⟨20, [(.str [108,101,110,40,110,111,116,101,41,32,60,32,50,48])], [], r4⟩,
  ⟨20, [(.str [98,105,103])], [], r5⟩,
  ⟨20, [(.str [112,114,105,99,101,32,42,32,97,109,111,117,110,116])], [], r6⟩,
  ⟨20, [(.str [116,111,116,97,108,32,60,61,32,49,48,48,48])], [], r7⟩,
  ⟨20, [(.str [97,109,111,117,110,116,32,62,32,48])], [], r8⟩,
  ⟨20, [(.str [108,101,110,40,99,111,117,112,111,110,41,32,61,32,52])], [], r9⟩,
  ⟨20, [(.str [97,109,111,117,110,116,32,62,32,53])], [], r10⟩,
  ⟨20, [(.str [99,97,116,40,102,105,114,115,116,44,32,99,97,116,40,34,32,34,44,32,108,97,115,116,41,41])], [], r11⟩,
  ⟨20, [(.str [108,101,110,40,102,117,108,108,41,32,62,32,51])], [], r12⟩,
  ⟨20, [(.str [117,112,40,102,117,108,108,41])], [], r13⟩,
  ⟨20, [(.str [108,111,117,100])], [], r14⟩,
  ⟨20, [(.str [122,32,62,32,51,32,124,32,120,32,61,32,48])], [], r15⟩,
  ⟨20, [(.str [105,102,40,104,97,115,40,120,41,44,32,120,32,37,32,55,44,32,48,41])], [], r16⟩,
  ⟨20, [(.str [49,48,48,32,47,32,121])], [], r17⟩,
  ⟨20, [(.str [122,32,62,32,45,53,48])], [], r18⟩,
  ⟨20, [(.str [110,32,60,32,53,48])], [], r19⟩,
  ⟨20, [(.str [99,117,116,40,115,44,32,110,41])], [], r20⟩,
  ⟨20, [(.str [116,32,61,32,115])], [], r21⟩,
  ⟨20, [(.str [102])], [], r22⟩]
theorem parses_ok {H : Array Obj} : ∀ e ∈ parses, Fact Tryz.prog H e.f e.a e.h e.r := by
  simp only [parses, List.forall_mem_cons]
  exact ⟨fact_of m1_ok p0, fact_of m1_ok p1, fact_of m1_ok p2, fact_of m1_ok p3, fact_of m1_ok p4, fact_of m1_ok p5, fact_of m1_ok p6, fact_of m1_ok p7, fact_of m1_ok p8, fact_of m1_ok p9, fact_of m1_ok p10, fact_of m1_ok p11, fact_of m1_ok p12, fact_of m1_ok p13, fact_of m1_ok p14, fact_of m1_ok p15, fact_of m1_ok p16, fact_of m1_ok p17, fact_of m1_ok p18, fact_of m1_ok p19, fact_of m1_ok p20, fact_of m1_ok p21, fact_of m1_ok p22, fun _ h => nomatch h⟩
def m2 (f : FuncId) (args : List V) (h : List VO) : Option CRes :=
  match f with
  | 20 => memoL parses f args h
  | _ => m1 f args h
theorem m2_ok {H : Array Obj} : ∀ f args hl r, m2 f args hl = some r → Fact Tryz.prog H f args hl r := by
  intro f args hl r h
  unfold m2 at h
  split at h
  · exact memoL_ok (Q := fun f a h r => Fact Tryz.prog H f a h r) parses_ok h
  · exact m1_ok _ _ _ _ h
end Go.Pv
