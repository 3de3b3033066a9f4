/- The form, made. -/
import Derived.Test.YtjncjpnafabaoaaGreatDoorQc
import Derived.KernelRfl
set_option linter.unusedSimpArgs false
set_option linter.unusedVariables false
set_option linter.unusedSectionVars false
namespace Go.Pv
variable [Sy]
open Go.Proofs
set_option maxRecDepth 100000
def formV0 : V := (.is [[(.str [97]),(.int .i64 1),(.str []),(.str [97,32,62,61,32,48]),(.str [])],[(.str [98]),(.int .i64 1),(.str []),(.str []),(.str [])],[(.str [115,117,109]),(.int .i64 1),(.str [97,43,98]),(.str [115,117,109,32,60,32,49,48,48]),(.str [])],[(.str [98,105,103]),(.int .i64 2),(.str [115,117,109,32,62,32,49,48]),(.str []),(.str [])],[(.str [110,111,116,101]),(.int .i64 3),(.str []),(.str [108,101,110,40,110,111,116,101,41,32,60,32,50,48]),(.str [98,105,103])]] true)
theorem pf0 : callN (mkC m2) 400 8 [.int .i64 0] [] = some (.ok formV0 [] []) := by kernel_rfl
def newR0 : CRes := (.ok (.tup [(.ip [(.is [[(.str [97]),(.int .i64 1),(.str []),(.str [97,32,62,61,32,48]),(.str []),(.int .i64 0),(.int .i64 0),(.str []),.nils,(.int .i64 15),(.int .i64 0),(.str []),(.is [[(.int .i64 1),(.int .i64 0),(.str []),.nils],[(.int .i64 4),(.int .i64 0),(.str [97]),.nils]] true),(.int .i64 0),(.int .i64 0),(.str []),.nils,(.bool false),(.bool true),(.bool false),.nils],[(.str [98]),(.int .i64 1),(.str []),(.str []),(.str []),(.int .i64 0),(.int .i64 0),(.str []),.nils,(.int .i64 0),(.int .i64 0),(.str []),.nils,(.int .i64 0),(.int .i64 0),(.str []),.nils,(.bool false),(.bool false),(.bool false),.nils],[(.str [115,117,109]),(.int .i64 1),(.str [97,43,98]),(.str [115,117,109,32,60,32,49,48,48]),(.str []),(.int .i64 7),(.int .i64 0),(.str []),(.is [[(.int .i64 4),(.int .i64 0),(.str [97]),.nils],[(.int .i64 4),(.int .i64 0),(.str [98]),.nils]] true),(.int .i64 14),(.int .i64 0),(.str []),(.is [[(.int .i64 4),(.int .i64 0),(.str [115,117,109]),.nils],[(.int .i64 1),(.int .i64 100),(.str []),.nils]] true),(.int .i64 0),(.int .i64 0),(.str []),.nils,(.bool true),(.bool true),(.bool false),(.is [[(.int .i64 0)],[(.int .i64 1)]] false)],[(.str [98,105,103]),(.int .i64 2),(.str [115,117,109,32,62,32,49,48]),(.str []),(.str []),(.int .i64 14),(.int .i64 0),(.str []),(.is [[(.int .i64 1),(.int .i64 10),(.str []),.nils],[(.int .i64 4),(.int .i64 0),(.str [115,117,109]),.nils]] true),(.int .i64 0),(.int .i64 0),(.str []),.nils,(.int .i64 0),(.int .i64 0),(.str []),.nils,(.bool true),(.bool false),(.bool false),(.is [[(.int .i64 2)]] false)],[(.str [110,111,116,101]),(.int .i64 3),(.str []),(.str [108,101,110,40,110,111,116,101,41,32,60,32,50,48]),(.str [98,105,103]),(.int .i64 0),(.int .i64 0),(.str []),.nils,(.int .i64 14),(.int .i64 0),(.str []),(.is [[(.int .i64 19),(.int .i64 0),(.str []),(.is [[(.int .i64 4),(.int .i64 0),(.str [110,111,116,101]),.nils]] false)],[(.int .i64 1),(.int .i64 20),(.str []),.nils]] true),(.int .i64 4),(.int .i64 0),(.str [98,105,103]),.nils,(.bool false),(.bool true),(.bool true),.nils]] false),(.im [((.str [97]),(.int .i64 0)),((.str [98]),(.int .i64 1)),((.str [115,117,109]),(.int .i64 2)),((.str [98,105,103]),(.int .i64 3)),((.str [110,111,116,101]),(.int .i64 4))]),(.is [[(.int .i64 2)],[(.int .i64 3)]] false)]),(.int .i64 0),(.int .i64 0)]) [] [])
theorem pn0 : callN (mkC m2) 400 7 [formV0] [] = some newR0 := by kernel_rfl
def news : List Me := [⟨7, [formV0], [], newR0⟩]
theorem news_ok {H : Array Obj} : ∀ e ∈ news, Fact Tryz.prog H e.f e.a e.h e.r := by
  simp only [news, List.forall_mem_cons]
  exact ⟨fact_of m2_ok pn0, fun _ h => nomatch h⟩
def m3 (f : FuncId) (args : List V) (h : List VO) : Option CRes :=
  match f with
  | 7 => memoL news f args h
  | _ => m1 f args h
theorem m3_ok {H : Array Obj} : ∀ f args hl r, m3 f args hl = some r → Fact Tryz.prog H f args hl r := by
  intro f args hl r h
  unfold m3 at h
  split at h
  · exact memoL_ok (Q := fun f a h r => Fact Tryz.prog H f a h r) news_ok h
  · exact m1_ok _ _ _ _ h
end Go.Pv
