/- The document's form, read. -/
import Derived.Test.YtjncjpnafabaoaaGreatDoorQd
import Derived.KernelRfl
set_option linter.unusedSimpArgs false
set_option linter.unusedVariables false
set_option linter.unusedSectionVars false
namespace Go.Pv
variable [Sy]
open Go.Proofs
set_option maxRecDepth 100000
def q1_0 : CRes := (.ok (.int .i64 1) [] [])
theorem t1_0 : callN (mkC m3) 400 238 [(.int .i32 97)] [] = some q1_0 := by kernel_rfl
def q1_1 : CRes := (.ok (.int .i64 1) [] [])
theorem t1_1 : callN (mkC m3) 400 238 [(.int .i32 98)] [] = some q1_1 := by kernel_rfl
def q1_2 : CRes := (.ok (.int .i64 1) [] [])
theorem t1_2 : callN (mkC m3) 400 238 [(.int .i32 115)] [] = some q1_2 := by kernel_rfl
def q1_3 : CRes := (.ok (.int .i64 1) [] [])
theorem t1_3 : callN (mkC m3) 400 238 [(.int .i32 117)] [] = some q1_3 := by kernel_rfl
def q1_4 : CRes := (.ok (.int .i64 1) [] [])
theorem t1_4 : callN (mkC m3) 400 238 [(.int .i32 109)] [] = some q1_4 := by kernel_rfl
def q1_5 : CRes := (.ok (.int .i64 1) [] [])
theorem t1_5 : callN (mkC m3) 400 238 [(.int .i32 105)] [] = some q1_5 := by kernel_rfl
def q1_6 : CRes := (.ok (.int .i64 1) [] [])
theorem t1_6 : callN (mkC m3) 400 238 [(.int .i32 103)] [] = some q1_6 := by kernel_rfl
def q1_7 : CRes := (.ok (.int .i64 1) [] [])
theorem t1_7 : callN (mkC m3) 400 238 [(.int .i32 110)] [] = some q1_7 := by kernel_rfl
def q1_8 : CRes := (.ok (.int .i64 1) [] [])
theorem t1_8 : callN (mkC m3) 400 238 [(.int .i32 111)] [] = some q1_8 := by kernel_rfl
def q1_9 : CRes := (.ok (.int .i64 1) [] [])
theorem t1_9 : callN (mkC m3) 400 238 [(.int .i32 116)] [] = some q1_9 := by kernel_rfl
def q1_10 : CRes := (.ok (.int .i64 1) [] [])
theorem t1_10 : callN (mkC m3) 400 238 [(.int .i32 101)] [] = some q1_10 := by kernel_rfl
def q1_11 : CRes := (.ok (.int .i64 3) [] [])
theorem t1_11 : callN (mkC m3) 400 238 [(.int .i32 32)] [] = some q1_11 := by kernel_rfl
def q1_12 : CRes := (.ok (.int .i64 0) [] [])
theorem t1_12 : callN (mkC m3) 400 238 [(.int .i32 62)] [] = some q1_12 := by kernel_rfl
def q1_13 : CRes := (.ok (.int .i64 2) [] [])
theorem t1_13 : callN (mkC m3) 400 238 [(.int .i32 48)] [] = some q1_13 := by kernel_rfl
def q1_14 : CRes := (.ok (.int .i64 0) [] [])
theorem t1_14 : callN (mkC m3) 400 238 [(.int .i32 43)] [] = some q1_14 := by kernel_rfl
def q1_15 : CRes := (.ok (.int .i64 0) [] [])
theorem t1_15 : callN (mkC m3) 400 238 [(.int .i32 60)] [] = some q1_15 := by kernel_rfl
def q1_16 : CRes := (.ok (.int .i64 2) [] [])
theorem t1_16 : callN (mkC m3) 400 238 [(.int .i32 49)] [] = some q1_16 := by kernel_rfl
def q1_17 : CRes := (.ok (.int .i64 1) [] [])
theorem t1_17 : callN (mkC m3) 400 238 [(.int .i32 108)] [] = some q1_17 := by kernel_rfl
def q1_18 : CRes := (.ok (.int .i64 0) [] [])
theorem t1_18 : callN (mkC m3) 400 238 [(.int .i32 40)] [] = some q1_18 := by kernel_rfl
def q1_19 : CRes := (.ok (.int .i64 0) [] [])
theorem t1_19 : callN (mkC m3) 400 238 [(.int .i32 41)] [] = some q1_19 := by kernel_rfl
def q1_20 : CRes := (.ok (.int .i64 2) [] [])
theorem t1_20 : callN (mkC m3) 400 238 [(.int .i32 50)] [] = some q1_20 := by kernel_rfl
def es1 : List Me := [⟨238, [(.int .i32 97)], [], q1_0⟩,
  ⟨238, [(.int .i32 98)], [], q1_1⟩,
  ⟨238, [(.int .i32 115)], [], q1_2⟩,
  ⟨238, [(.int .i32 117)], [], q1_3⟩,
  ⟨238, [(.int .i32 109)], [], q1_4⟩,
  ⟨238, [(.int .i32 105)], [], q1_5⟩,
  ⟨238, [(.int .i32 103)], [], q1_6⟩,
  ⟨238, [(.int .i32 110)], [], q1_7⟩,
  ⟨238, [(.int .i32 111)], [], q1_8⟩,
  ⟨238, [(.int .i32 116)], [], q1_9⟩,
  ⟨238, [(.int .i32 101)], [], q1_10⟩,
  ⟨238, [(.int .i32 32)], [], q1_11⟩,
  ⟨238, [(.int .i32 62)], [], q1_12⟩,
  ⟨238, [(.int .i32 48)], [], q1_13⟩,
  ⟨238, [(.int .i32 43)], [], q1_14⟩,
  ⟨238, [(.int .i32 60)], [], q1_15⟩,
  ⟨238, [(.int .i32 49)], [], q1_16⟩,
  ⟨238, [(.int .i32 108)], [], q1_17⟩,
  ⟨238, [(.int .i32 40)], [], q1_18⟩,
  ⟨238, [(.int .i32 41)], [], q1_19⟩,
  ⟨238, [(.int .i32 50)], [], q1_20⟩]
theorem es1_ok {H : Array Obj} : ∀ e ∈ es1, Fact Tryz.prog H e.f e.a e.h e.r := by
  simp only [es1, List.forall_mem_cons]
  exact ⟨fact_of m3_ok t1_0, fact_of m3_ok t1_1, fact_of m3_ok t1_2, fact_of m3_ok t1_3, fact_of m3_ok t1_4, fact_of m3_ok t1_5, fact_of m3_ok t1_6, fact_of m3_ok t1_7, fact_of m3_ok t1_8, fact_of m3_ok t1_9, fact_of m3_ok t1_10, fact_of m3_ok t1_11, fact_of m3_ok t1_12, fact_of m3_ok t1_13, fact_of m3_ok t1_14, fact_of m3_ok t1_15, fact_of m3_ok t1_16, fact_of m3_ok t1_17, fact_of m3_ok t1_18, fact_of m3_ok t1_19, fact_of m3_ok t1_20, fun _ h => nomatch h⟩
def mm1 (f : FuncId) (args : List V) (h : List VO) : Option CRes :=
  match f with
  | 238 => memoL es1 f args h
  | _ => m3 f args h
theorem mm1_ok {H : Array Obj} : ∀ f args hl r, mm1 f args hl = some r → Fact Tryz.prog H f args hl r := by
  intro f args hl r h
  unfold mm1 at h
  split at h
  · exact memoL_ok (Q := fun f a h r => Fact Tryz.prog H f a h r) es1_ok h
  · exact m3_ok _ _ _ _ h
end Go.Pv
namespace Go.Pv
variable [Sy]
open Go.Proofs
set_option maxRecDepth 100000
def q2_0 : CRes := (.ok (.tup [(.is [[(.int .i64 3),(.str [97]),(.int .i64 0),(.int .i64 0)],[(.int .i64 0),(.str []),(.int .i64 0),(.int .i64 1)]] false),(.int .i64 0),(.int .i64 0)]) [] [])
theorem t2_0 : callN (mkC mm1) 400 172 [(.str [97])] [] = some q2_0 := by kernel_rfl
def q2_1 : CRes := (.ok (.tup [(.is [[(.int .i64 3),(.str [98]),(.int .i64 0),(.int .i64 0)],[(.int .i64 0),(.str []),(.int .i64 0),(.int .i64 1)]] false),(.int .i64 0),(.int .i64 0)]) [] [])
theorem t2_1 : callN (mkC mm1) 400 172 [(.str [98])] [] = some q2_1 := by kernel_rfl
def q2_2 : CRes := (.ok (.tup [(.is [[(.int .i64 3),(.str [115,117,109]),(.int .i64 0),(.int .i64 0)],[(.int .i64 0),(.str []),(.int .i64 0),(.int .i64 3)]] false),(.int .i64 0),(.int .i64 0)]) [] [])
theorem t2_2 : callN (mkC mm1) 400 172 [(.str [115,117,109])] [] = some q2_2 := by kernel_rfl
def q2_3 : CRes := (.ok (.tup [(.is [[(.int .i64 3),(.str [98,105,103]),(.int .i64 0),(.int .i64 0)],[(.int .i64 0),(.str []),(.int .i64 0),(.int .i64 3)]] false),(.int .i64 0),(.int .i64 0)]) [] [])
theorem t2_3 : callN (mkC mm1) 400 172 [(.str [98,105,103])] [] = some q2_3 := by kernel_rfl
def q2_4 : CRes := (.ok (.tup [(.is [[(.int .i64 3),(.str [110,111,116,101]),(.int .i64 0),(.int .i64 0)],[(.int .i64 0),(.str []),(.int .i64 0),(.int .i64 4)]] false),(.int .i64 0),(.int .i64 0)]) [] [])
theorem t2_4 : callN (mkC mm1) 400 172 [(.str [110,111,116,101])] [] = some q2_4 := by kernel_rfl
def q2_5 : CRes := (.ok (.tup [(.is [[(.int .i64 3),(.str [97]),(.int .i64 0),(.int .i64 0)],[(.int .i64 4),(.str [62,61]),(.int .i64 0),(.int .i64 2)],[(.int .i64 1),(.str []),(.int .i64 0),(.int .i64 5)],[(.int .i64 0),(.str []),(.int .i64 0),(.int .i64 6)]] false),(.int .i64 0),(.int .i64 0)]) [] [])
theorem t2_5 : callN (mkC mm1) 400 172 [(.str [97,32,62,61,32,48])] [] = some q2_5 := by kernel_rfl
def q2_6 : CRes := (.ok (.tup [(.is [[(.int .i64 3),(.str [97]),(.int .i64 0),(.int .i64 0)],[(.int .i64 4),(.str [43]),(.int .i64 0),(.int .i64 1)],[(.int .i64 3),(.str [98]),(.int .i64 0),(.int .i64 2)],[(.int .i64 0),(.str []),(.int .i64 0),(.int .i64 3)]] false),(.int .i64 0),(.int .i64 0)]) [] [])
theorem t2_6 : callN (mkC mm1) 400 172 [(.str [97,43,98])] [] = some q2_6 := by kernel_rfl
def q2_7 : CRes := (.ok (.tup [(.is [[(.int .i64 3),(.str [115,117,109]),(.int .i64 0),(.int .i64 0)],[(.int .i64 4),(.str [60]),(.int .i64 0),(.int .i64 4)],[(.int .i64 1),(.str []),(.int .i64 100),(.int .i64 6)],[(.int .i64 0),(.str []),(.int .i64 0),(.int .i64 9)]] false),(.int .i64 0),(.int .i64 0)]) [] [])
theorem t2_7 : callN (mkC mm1) 400 172 [(.str [115,117,109,32,60,32,49,48,48])] [] = some q2_7 := by kernel_rfl
def q2_8 : CRes := (.ok (.tup [(.is [[(.int .i64 3),(.str [115,117,109]),(.int .i64 0),(.int .i64 0)],[(.int .i64 4),(.str [62]),(.int .i64 0),(.int .i64 4)],[(.int .i64 1),(.str []),(.int .i64 10),(.int .i64 6)],[(.int .i64 0),(.str []),(.int .i64 0),(.int .i64 8)]] false),(.int .i64 0),(.int .i64 0)]) [] [])
theorem t2_8 : callN (mkC mm1) 400 172 [(.str [115,117,109,32,62,32,49,48])] [] = some q2_8 := by kernel_rfl
def q2_9 : CRes := (.ok (.tup [(.is [[(.int .i64 3),(.str [108,101,110]),(.int .i64 0),(.int .i64 0)],[(.int .i64 4),(.str [40]),(.int .i64 0),(.int .i64 3)],[(.int .i64 3),(.str [110,111,116,101]),(.int .i64 0),(.int .i64 4)],[(.int .i64 4),(.str [41]),(.int .i64 0),(.int .i64 8)],[(.int .i64 4),(.str [60]),(.int .i64 0),(.int .i64 10)],[(.int .i64 1),(.str []),(.int .i64 20),(.int .i64 12)],[(.int .i64 0),(.str []),(.int .i64 0),(.int .i64 14)]] false),(.int .i64 0),(.int .i64 0)]) [] [])
theorem t2_9 : callN (mkC mm1) 400 172 [(.str [108,101,110,40,110,111,116,101,41,32,60,32,50,48])] [] = some q2_9 := by kernel_rfl
def es2 : List Me := [⟨172, [(.str [97])], [], q2_0⟩,
  ⟨172, [(.str [98])], [], q2_1⟩,
  ⟨172, [(.str [115,117,109])], [], q2_2⟩,
  ⟨172, [(.str [98,105,103])], [], q2_3⟩,
  ⟨172, [(.str [110,111,116,101])], [], q2_4⟩,
  ⟨172, [(.str [97,32,62,61,32,48])], [], q2_5⟩,
  ⟨172, [(.str [97,43,98])], [], q2_6⟩,
  ⟨172, [(.str [115,117,109,32,60,32,49,48,48])], [], q2_7⟩,
  ⟨172, [(.str [115,117,109,32,62,32,49,48])], [], q2_8⟩,
  ⟨172, [(.str [108,101,110,40,110,111,116,101,41,32,60,32,50,48])], [], q2_9⟩]
theorem es2_ok {H : Array Obj} : ∀ e ∈ es2, Fact Tryz.prog H e.f e.a e.h e.r := by
  simp only [es2, List.forall_mem_cons]
  exact ⟨fact_of mm1_ok t2_0, fact_of mm1_ok t2_1, fact_of mm1_ok t2_2, fact_of mm1_ok t2_3, fact_of mm1_ok t2_4, fact_of mm1_ok t2_5, fact_of mm1_ok t2_6, fact_of mm1_ok t2_7, fact_of mm1_ok t2_8, fact_of mm1_ok t2_9, fun _ h => nomatch h⟩
def mm2 (f : FuncId) (args : List V) (h : List VO) : Option CRes :=
  match f with
  | 172 => memoL es2 f args h
  | _ => mm1 f args h
theorem mm2_ok {H : Array Obj} : ∀ f args hl r, mm2 f args hl = some r → Fact Tryz.prog H f args hl r := by
  intro f args hl r h
  unfold mm2 at h
  split at h
  · exact memoL_ok (Q := fun f a h r => Fact Tryz.prog H f a h r) es2_ok h
  · exact mm1_ok _ _ _ _ h
end Go.Pv
namespace Go.Pv
variable [Sy]
open Go.Proofs
set_option maxRecDepth 100000
def q3_0 : CRes := (.ok (.bool false) [] [])
theorem t3_0 : callN (mkC mm2) 400 173 [(.str [97])] [] = some q3_0 := by kernel_rfl
def q3_1 : CRes := (.ok (.bool true) [] [])
theorem t3_1 : callN (mkC mm2) 400 127 [(.str [97])] [] = some q3_1 := by kernel_rfl
def q3_2 : CRes := (.ok (.bool false) [] [])
theorem t3_2 : callN (mkC mm2) 400 173 [(.str [98])] [] = some q3_2 := by kernel_rfl
def q3_3 : CRes := (.ok (.bool true) [] [])
theorem t3_3 : callN (mkC mm2) 400 127 [(.str [98])] [] = some q3_3 := by kernel_rfl
def q3_4 : CRes := (.ok (.bool false) [] [])
theorem t3_4 : callN (mkC mm2) 400 173 [(.str [115,117,109])] [] = some q3_4 := by kernel_rfl
def q3_5 : CRes := (.ok (.bool true) [] [])
theorem t3_5 : callN (mkC mm2) 400 127 [(.str [115,117,109])] [] = some q3_5 := by kernel_rfl
def q3_6 : CRes := (.ok (.bool false) [] [])
theorem t3_6 : callN (mkC mm2) 400 173 [(.str [98,105,103])] [] = some q3_6 := by kernel_rfl
def q3_7 : CRes := (.ok (.bool true) [] [])
theorem t3_7 : callN (mkC mm2) 400 127 [(.str [98,105,103])] [] = some q3_7 := by kernel_rfl
def q3_8 : CRes := (.ok (.bool false) [] [])
theorem t3_8 : callN (mkC mm2) 400 173 [(.str [110,111,116,101])] [] = some q3_8 := by kernel_rfl
def q3_9 : CRes := (.ok (.bool true) [] [])
theorem t3_9 : callN (mkC mm2) 400 127 [(.str [110,111,116,101])] [] = some q3_9 := by kernel_rfl
def q3_10 : CRes := (.ok (.tup [(.agg [(.int .i64 15),(.int .i64 0),(.str []),(.is [[(.int .i64 1),(.int .i64 0),(.str []),.nils],[(.int .i64 4),(.int .i64 0),(.str [97]),.nils]] true)]),(.int .i64 0),(.int .i64 0)]) [] [])
theorem t3_10 : callN (mkC mm2) 400 129 [(.str [97,32,62,61,32,48])] [] = some q3_10 := by kernel_rfl
def q3_11 : CRes := (.ok (.tup [(.agg [(.int .i64 7),(.int .i64 0),(.str []),(.is [[(.int .i64 4),(.int .i64 0),(.str [97]),.nils],[(.int .i64 4),(.int .i64 0),(.str [98]),.nils]] true)]),(.int .i64 0),(.int .i64 0)]) [] [])
theorem t3_11 : callN (mkC mm2) 400 129 [(.str [97,43,98])] [] = some q3_11 := by kernel_rfl
def q3_12 : CRes := (.ok (.tup [(.agg [(.int .i64 14),(.int .i64 0),(.str []),(.is [[(.int .i64 4),(.int .i64 0),(.str [115,117,109]),.nils],[(.int .i64 1),(.int .i64 100),(.str []),.nils]] true)]),(.int .i64 0),(.int .i64 0)]) [] [])
theorem t3_12 : callN (mkC mm2) 400 129 [(.str [115,117,109,32,60,32,49,48,48])] [] = some q3_12 := by kernel_rfl
def q3_13 : CRes := (.ok (.tup [(.agg [(.int .i64 14),(.int .i64 0),(.str []),(.is [[(.int .i64 1),(.int .i64 10),(.str []),.nils],[(.int .i64 4),(.int .i64 0),(.str [115,117,109]),.nils]] true)]),(.int .i64 0),(.int .i64 0)]) [] [])
theorem t3_13 : callN (mkC mm2) 400 129 [(.str [115,117,109,32,62,32,49,48])] [] = some q3_13 := by kernel_rfl
def q3_14 : CRes := (.ok (.tup [(.agg [(.int .i64 14),(.int .i64 0),(.str []),(.is [[(.int .i64 19),(.int .i64 0),(.str []),(.is [[(.int .i64 4),(.int .i64 0),(.str [110,111,116,101]),.nils]] false)],[(.int .i64 1),(.int .i64 20),(.str []),.nils]] true)]),(.int .i64 0),(.int .i64 0)]) [] [])
theorem t3_14 : callN (mkC mm2) 400 129 [(.str [108,101,110,40,110,111,116,101,41,32,60,32,50,48])] [] = some q3_14 := by kernel_rfl
def q3_15 : CRes := (.ok (.tup [(.agg [(.int .i64 4),(.int .i64 0),(.str [98,105,103]),.nils]),(.int .i64 0),(.int .i64 0)]) [] [])
theorem t3_15 : callN (mkC mm2) 400 129 [(.str [98,105,103])] [] = some q3_15 := by kernel_rfl
def es3 : List Me := [⟨173, [(.str [97])], [], q3_0⟩,
  ⟨127, [(.str [97])], [], q3_1⟩,
  ⟨173, [(.str [98])], [], q3_2⟩,
  ⟨127, [(.str [98])], [], q3_3⟩,
  ⟨173, [(.str [115,117,109])], [], q3_4⟩,
  ⟨127, [(.str [115,117,109])], [], q3_5⟩,
  ⟨173, [(.str [98,105,103])], [], q3_6⟩,
  ⟨127, [(.str [98,105,103])], [], q3_7⟩,
  ⟨173, [(.str [110,111,116,101])], [], q3_8⟩,
  ⟨127, [(.str [110,111,116,101])], [], q3_9⟩,
  ⟨129, [(.str [97,32,62,61,32,48])], [], q3_10⟩,
  ⟨129, [(.str [97,43,98])], [], q3_11⟩,
  ⟨129, [(.str [115,117,109,32,60,32,49,48,48])], [], q3_12⟩,
  ⟨129, [(.str [115,117,109,32,62,32,49,48])], [], q3_13⟩,
  ⟨129, [(.str [108,101,110,40,110,111,116,101,41,32,60,32,50,48])], [], q3_14⟩,
  ⟨129, [(.str [98,105,103])], [], q3_15⟩]
theorem es3_ok {H : Array Obj} : ∀ e ∈ es3, Fact Tryz.prog H e.f e.a e.h e.r := by
  simp only [es3, List.forall_mem_cons]
  exact ⟨fact_of mm2_ok t3_0, fact_of mm2_ok t3_1, fact_of mm2_ok t3_2, fact_of mm2_ok t3_3, fact_of mm2_ok t3_4, fact_of mm2_ok t3_5, fact_of mm2_ok t3_6, fact_of mm2_ok t3_7, fact_of mm2_ok t3_8, fact_of mm2_ok t3_9, fact_of mm2_ok t3_10, fact_of mm2_ok t3_11, fact_of mm2_ok t3_12, fact_of mm2_ok t3_13, fact_of mm2_ok t3_14, fact_of mm2_ok t3_15, fun _ h => nomatch h⟩
def mm3 (f : FuncId) (args : List V) (h : List VO) : Option CRes :=
  match f with
  | 173 | 127 | 129 => memoL es3 f args h
  | _ => mm2 f args h
theorem mm3_ok {H : Array Obj} : ∀ f args hl r, mm3 f args hl = some r → Fact Tryz.prog H f args hl r := by
  intro f args hl r h
  unfold mm3 at h
  split at h
  · exact memoL_ok (Q := fun f a h r => Fact Tryz.prog H f a h r) es3_ok h
  · exact memoL_ok (Q := fun f a h r => Fact Tryz.prog H f a h r) es3_ok h
  · exact memoL_ok (Q := fun f a h r => Fact Tryz.prog H f a h r) es3_ok h
  · exact mm2_ok _ _ _ _ h
end Go.Pv
namespace Go.Pv
variable [Sy]
open Go.Proofs
set_option maxRecDepth 100000
def q4_0 : CRes := (.ok (.tup [.nilp,(.int .i64 0),(.int .i64 11)]) [] [])
theorem t4_0 : callN (mkC mm3) 400 56 [.nils] [] = some q4_0 := by kernel_rfl
def q4_1 : CRes := (.ok (.tup [(.ip [(.is [[(.str [97]),(.int .i64 1),(.str []),(.str [97,32,62,61,32,48]),(.str [])],[(.str [98]),(.int .i64 1),(.str []),(.str []),(.str [])],[(.str [115,117,109]),(.int .i64 1),(.str [97,43,98]),(.str [115,117,109,32,60,32,49,48,48]),(.str [])],[(.str [98,105,103]),(.int .i64 2),(.str [115,117,109,32,62,32,49,48]),(.str []),(.str [])],[(.str [110,111,116,101]),(.int .i64 3),(.str []),(.str [108,101,110,40,110,111,116,101,41,32,60,32,50,48]),(.str [98,105,103])]] false),(.is [[(.int .i64 0),(.int .i64 0),(.str []),.nils],[(.int .i64 0),(.int .i64 0),(.str []),.nils],[(.int .i64 7),(.int .i64 0),(.str []),(.is [[(.int .i64 4),(.int .i64 0),(.str [97]),.nils],[(.int .i64 4),(.int .i64 0),(.str [98]),.nils]] true)],[(.int .i64 14),(.int .i64 0),(.str []),(.is [[(.int .i64 1),(.int .i64 10),(.str []),.nils],[(.int .i64 4),(.int .i64 0),(.str [115,117,109]),.nils]] true)],[(.int .i64 0),(.int .i64 0),(.str []),.nils]] false),(.is [[(.int .i64 15),(.int .i64 0),(.str []),(.is [[(.int .i64 1),(.int .i64 0),(.str []),.nils],[(.int .i64 4),(.int .i64 0),(.str [97]),.nils]] true)],[(.int .i64 0),(.int .i64 0),(.str []),.nils],[(.int .i64 14),(.int .i64 0),(.str []),(.is [[(.int .i64 4),(.int .i64 0),(.str [115,117,109]),.nils],[(.int .i64 1),(.int .i64 100),(.str []),.nils]] true)],[(.int .i64 0),(.int .i64 0),(.str []),.nils],[(.int .i64 14),(.int .i64 0),(.str []),(.is [[(.int .i64 19),(.int .i64 0),(.str []),(.is [[(.int .i64 4),(.int .i64 0),(.str [110,111,116,101]),.nils]] false)],[(.int .i64 1),(.int .i64 20),(.str []),.nils]] true)]] false),(.is [[(.int .i64 0),(.int .i64 0),(.str []),.nils],[(.int .i64 0),(.int .i64 0),(.str []),.nils],[(.int .i64 0),(.int .i64 0),(.str []),.nils],[(.int .i64 0),(.int .i64 0),(.str []),.nils],[(.int .i64 4),(.int .i64 0),(.str [98,105,103]),.nils]] false),(.is [[(.bool false)],[(.bool false)],[(.bool true)],[(.bool true)],[(.bool false)]] false),(.is [[(.bool true)],[(.bool false)],[(.bool true)],[(.bool false)],[(.bool true)]] false),(.is [[(.bool false)],[(.bool false)],[(.bool false)],[(.bool false)],[(.bool true)]] false),(.is [[.nils],[.nils],[(.is [[(.int .i64 0)],[(.int .i64 1)]] false)],[(.is [[(.int .i64 2)]] false)],[.nils]] false),(.is [[(.int .i64 2)],[(.int .i64 3)]] false)]),(.int .i64 0),(.int .i64 0)]) [] [])
theorem t4_1 : callN (mkC mm3) 400 56 [(.is [[(.str [97]),(.int .i64 1),(.str []),(.str [97,32,62,61,32,48]),(.str [])],[(.str [98]),(.int .i64 1),(.str []),(.str []),(.str [])],[(.str [115,117,109]),(.int .i64 1),(.str [97,43,98]),(.str [115,117,109,32,60,32,49,48,48]),(.str [])],[(.str [98,105,103]),(.int .i64 2),(.str [115,117,109,32,62,32,49,48]),(.str []),(.str [])],[(.str [110,111,116,101]),(.int .i64 3),(.str []),(.str [108,101,110,40,110,111,116,101,41,32,60,32,50,48]),(.str [98,105,103])]] true)] [] = some q4_1 := by kernel_rfl
def es4 : List Me := [⟨56, [.nils], [], q4_0⟩,
  ⟨56, [(.is [[(.str [97]),(.int .i64 1),(.str []),(.str [97,32,62,61,32,48]),(.str [])],[(.str [98]),(.int .i64 1),(.str []),(.str []),(.str [])],[(.str [115,117,109]),(.int .i64 1),(.str [97,43,98]),(.str [115,117,109,32,60,32,49,48,48]),(.str [])],[(.str [98,105,103]),(.int .i64 2),(.str [115,117,109,32,62,32,49,48]),(.str []),(.str [])],[(.str [110,111,116,101]),(.int .i64 3),(.str []),(.str [108,101,110,40,110,111,116,101,41,32,60,32,50,48]),(.str [98,105,103])]] true)], [], q4_1⟩]
theorem es4_ok {H : Array Obj} : ∀ e ∈ es4, Fact Tryz.prog H e.f e.a e.h e.r := by
  simp only [es4, List.forall_mem_cons]
  exact ⟨fact_of mm3_ok t4_0, fact_of mm3_ok t4_1, fun _ h => nomatch h⟩
def mm4 (f : FuncId) (args : List V) (h : List VO) : Option CRes :=
  match f with
  | 56 => memoL es4 f args h
  | _ => mm3 f args h
theorem mm4_ok {H : Array Obj} : ∀ f args hl r, mm4 f args hl = some r → Fact Tryz.prog H f args hl r := by
  intro f args hl r h
  unfold mm4 at h
  split at h
  · exact memoL_ok (Q := fun f a h r => Fact Tryz.prog H f a h r) es4_ok h
  · exact mm3_ok _ _ _ _ h
end Go.Pv
