/- The table of functions. -/
import Derived.Test.YtjncjpnafabaoaaGreatDoorJa
import Derived.Test.YtjncjpnafabaoaaGreatDoorJb
import Derived.Test.YtjncjpnafabaoaaGreatDoorJc
import Derived.Test.YtjncjpnafabaoaaGreatDoorJd
import Derived.Lib.Bytealg
import Derived.Test.YtjncjpnafabaoaaGreatDoorKa
import Derived.Below
set_option linter.unusedSimpArgs false
set_option linter.unusedVariables false
set_option linter.unusedSectionVars false
namespace Go.Pv
open Go.Proofs
set_option maxRecDepth 100000
variable [Sy]
def tbl : List (List (Nat × VF)) := [[(3, c3), (7, c7), (8, c8), (10, c10), (11, c11), (20, c20), (21, c21), (22, c22), (23, c23), (25, c25), (27, c27), (28, c28)],
  [(38, c38), (40, c40), (42, c42), (43, c43), (45, c45), (46, c46), (47, c47), (48, c48), (49, c49), (50, c50), (51, c51), (52, c52), (53, c53), (54, c54), (55, c55), (60, c60), (62, c62), (63, c63)],
  [(66, c66), (67, c67), (69, c69), (70, c70), (72, c72), (73, c73), (74, c74), (75, c75), (77, c77), (78, c78), (79, c79), (80, c80), (81, c81), (82, c82), (83, c83), (84, c84), (85, c85), (86, c86), (93, c93), (94, c94), (95, c95)],
  [(96, c96), (98, c98), (99, c99), (100, c100), (101, c101), (102, c102), (105, c105), (106, c106), (108, c108), (109, c109), (110, c110), (111, c111), (112, c112), (113, c113), (119, c119), (123, c123), (124, c124), (125, c125), (126, c126)],
  [(137, c137), (140, c140), (147, c147), (148, c148), (149, c149), (150, c150), (151, c151), (152, c152), (153, c153), (154, c154)],
  [(160, c160), (168, c168), (169, c169), (170, c170), (171, c171), (182, c182), (183, c183), (184, c184), (188, c188)],
  [(197, c197), (198, c198), (199, c199), (203, c203), (205, c205), (206, c206), (207, c207), (221, c221)],
  [(230, c230), (232, c232), (233, c233), (234, c234), (236, c236), (247, c247), (248, c248), (253, c253)],
  [(258, c258)]]
def look (bs : List (List (Nat × VF))) (f : Nat) : Option VF :=
  match (bs.getD (f / 32) []).find? (fun e => Nat.beq e.1 f) with
  | some e => some e.2
  | none => none
theorem look_ok {Q : Nat → VF → Prop} {bs : List (List (Nat × VF))} (h : ∀ b ∈ bs, ∀ e ∈ b, Q e.1 e.2) {f : Nat} {vf : VF} (hl : look bs f = some vf) : Q f vf := by
  unfold look at hl
  split at hl
  · rename_i e he
    cases hl
    have h1 := List.find?_some he
    have h2 := List.mem_of_find?_eq_some he
    have e1 : e.1 = f := Nat.eq_of_beq_eq_true h1
    rw [← e1]
    rw [List.getD_eq_getElem?_getD] at h2
    cases hb : bs[f / 32]? with
    | none => rw [hb] at h2; simp at h2
    | some b =>
      rw [hb] at h2
      exact h b (List.mem_of_getElem? hb) e h2
  · cases hl
/-- A function's code is the program's. -/
def CodeOk (f : Nat) (vf : VF) : Prop := ∃ fn c, Tryz.prog.funcs[f]? = some fn ∧ fn.body = some c ∧ (fn.name == "runtime.NumGoroutine") = false ∧ Sim Tryz.prog fn.ntmps c vf.body ∧ stripR Tryz.prog fn.results.toList = some vf.results
theorem codeOk {f : Nat} {fn : Func} {vf : VF} (h : stripF Tryz.prog fn = some vf) (hf : Tryz.prog.funcs[f]? = some fn) (hn : (fn.name == "runtime.NumGoroutine") = false) : CodeOk f vf := by
  obtain ⟨c, h1, h2, h3⟩ := stripF_ok h
  exact ⟨fn, c, hf, h1, hn, h2, h3⟩
theorem codeOk0 {f : Nat} {fn : Func} {vf : VF} (h : stripF0 Tryz.prog fn = some vf) (hf : Tryz.prog.funcs[f]? = some fn) (hn : (fn.name == "runtime.NumGoroutine") = false) : CodeOk f vf := by
  obtain ⟨c, h1, h2, h3⟩ := stripF0_ok h
  exact ⟨fn, c, hf, h1, hn, h2, h3⟩
theorem codeOk1 {f : Nat} {fn : Func} {vf : VF} (h : stripF1 Tryz.prog fn = some vf) (hf : Tryz.prog.funcs[f]? = some fn) (hn : (fn.name == "runtime.NumGoroutine") = false) : CodeOk f vf := by
  obtain ⟨c, h1, h2, h3⟩ := stripF1_ok h
  exact ⟨fn, c, hf, h1, hn, h2, h3⟩
theorem o3 : CodeOk 3 c3 := codeOk k3 Tryz.func3 (by kernel_rfl)
theorem o7 : CodeOk 7 c7 := codeOk k7 Tryz.func7 (by kernel_rfl)
theorem o8 : CodeOk 8 c8 := codeOk k8 Tryz.func8 (by kernel_rfl)
theorem o10 : CodeOk 10 c10 := codeOk k10 Tryz.func10 (by kernel_rfl)
theorem o11 : CodeOk 11 c11 := codeOk k11 Tryz.func11 (by kernel_rfl)
theorem o20 : CodeOk 20 c20 := codeOk k20 Tryz.func20 (by kernel_rfl)
theorem o21 : CodeOk 21 c21 := codeOk k21 Tryz.func21 (by kernel_rfl)
theorem o22 : CodeOk 22 c22 := codeOk k22 Tryz.func22 (by kernel_rfl)
theorem o23 : CodeOk 23 c23 := codeOk k23 Tryz.func23 (by kernel_rfl)
theorem o25 : CodeOk 25 c25 := codeOk k25 Tryz.func25 (by kernel_rfl)
theorem o27 : CodeOk 27 c27 := codeOk k27 Tryz.func27 (by kernel_rfl)
theorem o28 : CodeOk 28 c28 := codeOk k28 Tryz.func28 (by kernel_rfl)
theorem o38 : CodeOk 38 c38 := codeOk k38 Tryz.func38 (by kernel_rfl)
theorem o40 : CodeOk 40 c40 := codeOk k40 Tryz.func40 (by kernel_rfl)
theorem o42 : CodeOk 42 c42 := codeOk k42 Tryz.func42 (by kernel_rfl)
theorem o43 : CodeOk 43 c43 := codeOk k43 Tryz.func43 (by kernel_rfl)
theorem o45 : CodeOk 45 c45 := codeOk k45 Tryz.func45 (by kernel_rfl)
theorem o46 : CodeOk 46 c46 := codeOk k46 Tryz.func46 (by kernel_rfl)
theorem o47 : CodeOk 47 c47 := codeOk k47 Tryz.func47 (by kernel_rfl)
theorem o48 : CodeOk 48 c48 := codeOk k48 Tryz.func48 (by kernel_rfl)
theorem o49 : CodeOk 49 c49 := codeOk k49 Tryz.func49 (by kernel_rfl)
theorem o50 : CodeOk 50 c50 := codeOk k50 Tryz.func50 (by kernel_rfl)
theorem o51 : CodeOk 51 c51 := codeOk k51 Tryz.func51 (by kernel_rfl)
theorem o52 : CodeOk 52 c52 := codeOk k52 Tryz.func52 (by kernel_rfl)
theorem o53 : CodeOk 53 c53 := codeOk k53 Tryz.func53 (by kernel_rfl)
theorem o54 : CodeOk 54 c54 := codeOk k54 Tryz.func54 (by kernel_rfl)
theorem o55 : CodeOk 55 c55 := codeOk k55 Tryz.func55 (by kernel_rfl)
theorem o60 : CodeOk 60 c60 := codeOk k60 Tryz.func60 (by kernel_rfl)
theorem o62 : CodeOk 62 c62 := codeOk k62 Tryz.func62 (by kernel_rfl)
theorem o63 : CodeOk 63 c63 := codeOk k63 Tryz.func63 (by kernel_rfl)
theorem o66 : CodeOk 66 c66 := codeOk k66 Tryz.func66 (by kernel_rfl)
theorem o67 : CodeOk 67 c67 := codeOk k67 Tryz.func67 (by kernel_rfl)
theorem o69 : CodeOk 69 c69 := codeOk k69 Tryz.func69 (by kernel_rfl)
theorem o70 : CodeOk 70 c70 := codeOk k70 Tryz.func70 (by kernel_rfl)
theorem o72 : CodeOk 72 c72 := codeOk k72 Tryz.func72 (by kernel_rfl)
theorem o73 : CodeOk 73 c73 := codeOk k73 Tryz.func73 (by kernel_rfl)
theorem o74 : CodeOk 74 c74 := codeOk k74 Tryz.func74 (by kernel_rfl)
theorem o75 : CodeOk 75 c75 := codeOk k75 Tryz.func75 (by kernel_rfl)
theorem o77 : CodeOk 77 c77 := codeOk k77 Tryz.func77 (by kernel_rfl)
theorem o78 : CodeOk 78 c78 := codeOk k78 Tryz.func78 (by kernel_rfl)
theorem o79 : CodeOk 79 c79 := codeOk k79 Tryz.func79 (by kernel_rfl)
theorem o80 : CodeOk 80 c80 := codeOk k80 Tryz.func80 (by kernel_rfl)
theorem o81 : CodeOk 81 c81 := codeOk k81 Tryz.func81 (by kernel_rfl)
theorem o82 : CodeOk 82 c82 := codeOk k82 Tryz.func82 (by kernel_rfl)
theorem o83 : CodeOk 83 c83 := codeOk k83 Tryz.func83 (by kernel_rfl)
theorem o84 : CodeOk 84 c84 := codeOk k84 Tryz.func84 (by kernel_rfl)
theorem o85 : CodeOk 85 c85 := codeOk k85 Tryz.func85 (by kernel_rfl)
theorem o86 : CodeOk 86 c86 := codeOk k86 Tryz.func86 (by kernel_rfl)
theorem o93 : CodeOk 93 c93 := codeOk k93 Tryz.func93 (by kernel_rfl)
theorem o94 : CodeOk 94 c94 := codeOk k94 Tryz.func94 (by kernel_rfl)
theorem o95 : CodeOk 95 c95 := codeOk k95 Tryz.func95 (by kernel_rfl)
theorem o96 : CodeOk 96 c96 := codeOk k96 Tryz.func96 (by kernel_rfl)
theorem o98 : CodeOk 98 c98 := codeOk k98 Tryz.func98 (by kernel_rfl)
theorem o99 : CodeOk 99 c99 := codeOk k99 Tryz.func99 (by kernel_rfl)
theorem o100 : CodeOk 100 c100 := codeOk k100 Tryz.func100 (by kernel_rfl)
theorem o101 : CodeOk 101 c101 := codeOk k101 Tryz.func101 (by kernel_rfl)
theorem o102 : CodeOk 102 c102 := codeOk k102 Tryz.func102 (by kernel_rfl)
theorem o105 : CodeOk 105 c105 := codeOk k105 Tryz.func105 (by kernel_rfl)
theorem o106 : CodeOk 106 c106 := codeOk k106 Tryz.func106 (by kernel_rfl)
theorem o108 : CodeOk 108 c108 := codeOk k108 Tryz.func108 (by kernel_rfl)
theorem o109 : CodeOk 109 c109 := codeOk k109 Tryz.func109 (by kernel_rfl)
theorem o110 : CodeOk 110 c110 := codeOk k110 Tryz.func110 (by kernel_rfl)
theorem o111 : CodeOk 111 c111 := codeOk k111 Tryz.func111 (by kernel_rfl)
theorem o112 : CodeOk 112 c112 := codeOk k112 Tryz.func112 (by kernel_rfl)
theorem o113 : CodeOk 113 c113 := codeOk k113 Tryz.func113 (by kernel_rfl)
theorem o119 : CodeOk 119 c119 := codeOk k119 Tryz.func119 (by kernel_rfl)
theorem o123 : CodeOk 123 c123 := codeOk k123 Tryz.func123 (by kernel_rfl)
theorem o124 : CodeOk 124 c124 := codeOk k124 Tryz.func124 (by kernel_rfl)
theorem o125 : CodeOk 125 c125 := codeOk k125 Tryz.func125 (by kernel_rfl)
theorem o126 : CodeOk 126 c126 := codeOk k126 Tryz.func126 (by kernel_rfl)
theorem o137 : CodeOk 137 c137 := codeOk k137 Tryz.func137 (by kernel_rfl)
theorem o140 : CodeOk 140 c140 := codeOk k140 Tryz.func140 (by kernel_rfl)
theorem o147 : CodeOk 147 c147 := codeOk k147 Tryz.func147 (by kernel_rfl)
theorem o148 : CodeOk 148 c148 := codeOk k148 Tryz.func148 (by kernel_rfl)
theorem o149 : CodeOk 149 c149 := codeOk k149 Tryz.func149 (by kernel_rfl)
theorem o150 : CodeOk 150 c150 := codeOk k150 Tryz.func150 (by kernel_rfl)
theorem o151 : CodeOk 151 c151 := codeOk k151 Tryz.func151 (by kernel_rfl)
theorem o152 : CodeOk 152 c152 := codeOk k152 Tryz.func152 (by kernel_rfl)
theorem o153 : CodeOk 153 c153 := codeOk k153 Tryz.func153 (by kernel_rfl)
theorem o154 : CodeOk 154 c154 := codeOk k154 Tryz.func154 (by kernel_rfl)
theorem o160 : CodeOk 160 c160 := codeOk k160 Tryz.func160 (by kernel_rfl)
theorem o168 : CodeOk 168 c168 := codeOk k168 Tryz.func168 (by kernel_rfl)
theorem o169 : CodeOk 169 c169 := codeOk k169 Tryz.func169 (by kernel_rfl)
theorem o170 : CodeOk 170 c170 := codeOk k170 Tryz.func170 (by kernel_rfl)
theorem o171 : CodeOk 171 c171 := codeOk k171 Tryz.func171 (by kernel_rfl)
theorem o182 : CodeOk 182 c182 := codeOk k182 Tryz.func182 (by kernel_rfl)
theorem o183 : CodeOk 183 c183 := codeOk k183 Tryz.func183 (by kernel_rfl)
theorem o184 : CodeOk 184 c184 := codeOk k184 Tryz.func184 (by kernel_rfl)
theorem o188 : CodeOk 188 c188 := codeOk k188 Tryz.func188 (by kernel_rfl)
theorem o197 : CodeOk 197 c197 := codeOk k197 Tryz.func197 (by kernel_rfl)
theorem o198 : CodeOk 198 c198 := codeOk k198 Tryz.func198 (by kernel_rfl)
theorem o199 : CodeOk 199 c199 := codeOk k199 Tryz.func199 (by kernel_rfl)
theorem o203 : CodeOk 203 c203 := codeOk k203 Tryz.func203 (by kernel_rfl)
theorem o205 : CodeOk 205 c205 := codeOk k205 Tryz.func205 (by kernel_rfl)
theorem o206 : CodeOk 206 c206 := codeOk k206 Tryz.func206 (by kernel_rfl)
theorem o207 : CodeOk 207 c207 := codeOk k207 Tryz.func207 (by kernel_rfl)
theorem o221 : CodeOk 221 c221 := codeOk k221 Tryz.func221 (by kernel_rfl)
theorem o230 : CodeOk 230 c230 := codeOk k230 Tryz.func230 (by kernel_rfl)
theorem o232 : CodeOk 232 c232 := codeOk k232 Tryz.func232 (by kernel_rfl)
theorem o233 : CodeOk 233 c233 := codeOk k233 Tryz.func233 (by kernel_rfl)
theorem o234 : CodeOk 234 c234 := codeOk k234 Tryz.func234 (by kernel_rfl)
theorem o236 : CodeOk 236 c236 := codeOk k236 Tryz.func236 (by kernel_rfl)
theorem o247 : CodeOk 247 c247 := codeOk k247 Tryz.func247 (by kernel_rfl)
theorem o248 : CodeOk 248 c248 := codeOk k248 Tryz.func248 (by kernel_rfl)
theorem o253 : CodeOk 253 c253 := codeOk k253 Tryz.func253 (by kernel_rfl)
theorem o258 : CodeOk 258 c258 := codeOk k258 Tryz.func258 (by kernel_rfl)
theorem tbl_ok : ∀ b ∈ tbl, ∀ e ∈ b, CodeOk e.1 e.2 := by
  simp only [tbl, List.forall_mem_cons]
  exact ⟨⟨o3, o7, o8, o10, o11, o20, o21, o22, o23, o25, o27, o28, fun _ h => nomatch h⟩,
    ⟨o38, o40, o42, o43, o45, o46, o47, o48, o49, o50, o51, o52, o53, o54, o55, o60, o62, o63, fun _ h => nomatch h⟩,
    ⟨o66, o67, o69, o70, o72, o73, o74, o75, o77, o78, o79, o80, o81, o82, o83, o84, o85, o86, o93, o94, o95, fun _ h => nomatch h⟩,
    ⟨o96, o98, o99, o100, o101, o102, o105, o106, o108, o109, o110, o111, o112, o113, o119, o123, o124, o125, o126, fun _ h => nomatch h⟩,
    ⟨o137, o140, o147, o148, o149, o150, o151, o152, o153, o154, fun _ h => nomatch h⟩,
    ⟨o160, o168, o169, o170, o171, o182, o183, o184, o188, fun _ h => nomatch h⟩,
    ⟨o197, o198, o199, o203, o205, o206, o207, o221, fun _ h => nomatch h⟩,
    ⟨o230, o232, o233, o234, o236, o247, o248, o253, fun _ h => nomatch h⟩,
    ⟨o258, fun _ h => nomatch h⟩,
    fun _ h => nomatch h⟩
theorem mixed : Tryz.prog.follows .mixedOrders = true := by kernel_rfl
end Go.Pv
namespace Go.Pv
variable [Sy]
open Go.Proofs
set_option maxRecDepth 100000
/-- What turns nothing. -/
theorem aft_same {H : Array Obj} {g : G} {w : World} {hl : List VO} {v : V} {u : Value} (hE : Ent H g w hl) (hv : VR g w true v u) : AftOk g w hl g w v hl [] u :=
  ⟨⟨hE.rel, Step.refl g w, rfl⟩, hE.dom, hE.h, Nat.le_refl _, fun k _ => ⟨rfl, rfl⟩, hv, fun k _ _ => rfl⟩
/-- internal/bytealg.IndexByteString is the model's own. -/
def nIdx (_ : Callf) (args : List V) (hl : List VO) : Option CRes :=
  match args with
  | [.str s, .int .u8 c] => some (.ok (.int .i64 (Lib.indexByte s c.toNat.toUInt8)) hl [])
  | _ => none
theorem nm196 : (Tryz.f196.name == "runtime.NumGoroutine") = false := by kernel_rfl
theorem nb196 : Tryz.f196.body.isNone = true := by kernel_rfl
theorem nx196 : (Extern.findNext Tryz.f196).isNone = true := by kernel_rfl
theorem nf196 : Extern.find Tryz.f196 = some Extern.BytealgIndexByte.indexByte := by kernel_rfl
theorem nIdx_ok {H : Array Obj} : ∀ call, CallOk Tryz.prog H call → ∀ args hl r, nIdx call args hl = some r → ∀ (g : G) (w : World) (us : Array Value), Ent H g w hl → Args g w args us → Far Tryz.prog 196 us w (CallR g w hl r) := by
  intro call _ args hl r h g w us hE hA
  unfold nIdx at h
  split at h
  · rename_i s c
    cases h
    obtain ⟨h1, h2⟩ := hA
    have hus : us = #[.string ⟨s.toArray⟩, .int .u8 c] := by
      have e0 : us[0]? = some (us[0]'(by rw [h1]; simp)) := Array.getElem?_eq_getElem _
      have e1 : us[1]? = some (us[1]'(by rw [h1]; simp)) := Array.getElem?_eq_getElem _
      have v0 := (h2 0 _ _ rfl e0).inv_str
      have v1 := (h2 1 _ _ rfl e1).inv_int
      apply Array.ext
      · simpa using h1
      · intro i hi hi'
        have : i < 2 := by simpa using hi'
        rcases i with _ | _ | i
        · simpa using v0
        · simpa using v1
        · omega
    right
    refine ⟨.int .i64 (Lib.indexByte s c.toNat.toUInt8), w, ?_, _, _, _, g, rfl, aft_same hE (.int _ _ _)⟩
    have hx : Extern.findNext Tryz.f196 = none := by simpa using nx196
    have hn : ¬ Tryz.f196.name = "runtime.NumGoroutine" := by simpa using nm196
    have hrun := Lib.run_indexByteString (P := Tryz.prog) ⟨s.toArray⟩ c w
    have hb : Tryz.f196.body = none := by simpa using nb196
    have hm : ∀ (m : Mark) (w : World), Sem.run Tryz.prog (Sem.mark m (Sem.pure ())) w = .ok () w := fun m w => rfl
    subst hus
    simp [callFunc, Tryz.func196, hn, hb, hx, nf196, hrun, mark, hm]
  · cases h
end Go.Pv
namespace Go.Pv
variable [Sy]
open Go.Proofs
set_option maxRecDepth 100000
def natT : FuncId → Option (Callf → List V → List VO → Option CRes)
  | 9 => some (natD d9 0)
  | 76 => some (natD d76 0)
  | 196 => some nIdx
  | 249 => some (natD d249 0)
  | 254 => some (natD d254 0)
  | 259 => some (natD d259 0)
  | _ => none
def keepT : FuncId → Nat
  | 22 | 28 | 54 | 79 | 81 | 69 | 86 | 98 | 99 | 124 => 1
  | _ => 0
def mkC (memo : FuncId → List V → List VO → Option CRes) : Ctx := { code := look tbl, nat := natT, keep := keepT, memo := memo }
section
variable {H : Array Obj}
theorem natT_ok : ∀ f nf, natT f = some nf → ∀ call, CallOk Tryz.prog H call → ∀ args hl r, nf call args hl = some r → ∀ (g : G) (w : World) (us : Array Value), Ent H g w hl → Args g w args us → Far Tryz.prog f us w (CallR g w hl r) := by
  intro f nf h
  unfold natT at h
  split at h
  · cases h; exact stripVD_ok mixed kd9 Tryz.func9 (by kernel_rfl) Tryz.func26 (by kernel_rfl)
  · cases h; exact stripVD_ok mixed kd76 Tryz.func76 (by kernel_rfl) Tryz.func107 (by kernel_rfl)
  · cases h; exact nIdx_ok
  · cases h; exact stripVD_ok mixed kd249 Tryz.func249 (by kernel_rfl) Tryz.func264 (by kernel_rfl)
  · cases h; exact stripVD_ok mixed kd254 Tryz.func254 (by kernel_rfl) Tryz.func264 (by kernel_rfl)
  · cases h; exact stripVD_ok mixed kd259 Tryz.func259 (by kernel_rfl) Tryz.func264 (by kernel_rfl)
  · cases h
theorem mkC_ok {memo : FuncId → List V → List VO → Option CRes} (hm : ∀ f args hl r, memo f args hl = some r → Fact Tryz.prog H f args hl r) : CtxOk Tryz.prog H (mkC memo) :=
  ⟨fun f vf h => by
    obtain ⟨fn, c, h1, h2, h3, h4, h5⟩ := look_ok (Q := CodeOk) tbl_ok h
    exact ⟨fn, c, h1, h2, h3, h4, h5⟩, natT_ok, hm⟩
theorem fact_of {memo : FuncId → List V → List VO → Option CRes} (hm : ∀ f args hl r, memo f args hl = some r → Fact Tryz.prog H f args hl r) {n : Nat} {f : FuncId} {args : List V} {hl : List VO} {r : CRes} (h : callN (mkC memo) n f args hl = some r) : Fact Tryz.prog H f args hl r :=
  fun g w us hE hA => callN_ok mixed (mkC_ok hm) n f args hl r h g w us hE hA
end
structure Me where
  f : Nat
  a : List V
  h : List VO
  r : CRes
def memoL (es : List Me) (f : FuncId) (args : List V) (h : List VO) : Option CRes :=
  match es.find? (fun e => Nat.beq e.f f && (sameVs e.a args && decide (e.h = h))) with
  | some e => some e.r
  | none => none
theorem memoL_ok {Q : FuncId → List V → List VO → CRes → Prop} {es : List Me} (h : ∀ e ∈ es, Q e.f e.a e.h e.r) {f : FuncId} {args : List V} {hl : List VO} {r : CRes} (hm : memoL es f args hl = some r) : Q f args hl r := by
  unfold memoL at hm
  split at hm
  · rename_i e he
    cases hm
    have h1 := List.find?_some he
    simp only [Bool.and_eq_true, decide_eq_true_eq] at h1
    have e1 : e.f = f := Nat.eq_of_beq_eq_true h1.1
    have e2 := sameVs_eq _ _ h1.2.1
    have := h e (List.mem_of_find?_eq_some he)
    rw [e1, e2, h1.2.2] at this
    exact this
  · cases hm
/-! Nothing is known ahead. -/
def m0 : FuncId → List V → List VO → Option CRes := fun _ _ _ => none
theorem m0_ok {H : Array Obj} : ∀ f args hl r, m0 f args hl = some r → Fact Tryz.prog H f args hl r := fun _ _ _ _ h => by cases h
end Go.Pv
namespace Go.Pv
open Go.Proofs
variable [Sy]
set_option maxRecDepth 100000
theorem putK : PutCtx (mkC m0) 43 70 73 := ⟨fun _ _ _ => rfl, rfl, rfl, rfl, by kernel_rfl, by kernel_rfl, by kernel_rfl, rfl, rfl, rfl⟩
theorem memP_ok {H : Array Obj} (hf : ∀ i, inI64 (Sy.val i) = true) {f : FuncId} {args : List V} {h : List VO} {r : CRes} (h0 : memPut 43 70 73 f args h = some r) : Fact Tryz.prog H f args h r :=
  memPut_ok mixed (mkC_ok m0_ok) putK hf h0
end Go.Pv
namespace Go.Pv
open Go.Proofs
set_option maxRecDepth 100000
set_option maxHeartbeats 4000000
section
variable [Sy]
theorem tmod_lit (x m : Int) (_hm : 0 < m) : x.tmod m = if 0 ≤ x then x % m else -((-x) % m) := by
  by_cases h : 0 ≤ x
  · rw [if_pos h, Int.tmod_eq_emod_of_nonneg h]
  · rw [if_neg h]
    have : x.tmod m = -((-x).tmod m) := by rw [Int.neg_tmod, Int.neg_neg]
    rw [this, Int.tmod_eq_emod_of_nonneg (by omega)]
/-- Place, with so many places. -/
theorem place_m {C : Ctx} (hmem : ∀ a h, C.memo 11 a h = none) (hnat : C.nat 11 = none) (hcode : C.code 11 = some c11) (hkeep : C.keep 11 = 0) (N : Nat) (x m k : Int) (hm : 0 < m) (hm2 : m ≤ 1000) (hk : x % m = k) (hx : x.tmod m < 0 → x.tmod m + m = k) (hx' : ¬ x.tmod m < 0 → x.tmod m = k) :
    callN C (N + 1) 11 [.int .i64 x, .int .i64 m] [] = some (.ok (.int .i64 k) [] []) := by
  rw [callN_code (hmem _ _) hnat hcode, hkeep]
  have f1 : ∀ y : Int, frz [] 0 200 (.int .i64 y) = some (.int .i64 y) := fun y => rfl
  have hm0 : ¬ m = 0 := by omega
  have hk2 : 0 ≤ k ∧ k < m := by subst hk; exact ⟨Int.emod_nonneg _ hm0, Int.emod_lt_of_pos _ hm⟩
  by_cases hn : x.tmod m < 0
  · have e : IntKind.wrap .i64 (x.tmod m + m) = k := by
      rw [hx hn]
      exact IntWalk.i64_in _ (by omega)
    simp [c11, envOf, run, runR, wantedV, vop, v_mov, v_bin, xbin, vbin, Od.ev, Env.get, ok1, putE, applyU, addWs, chkU, hn, hm0, e, outC, outD, resV, resOne, finish, f1]
  · have e := hx' hn
    have hn' : ¬ k < 0 := by omega
    clear hx hx' hn
    simp [c11, envOf, run, runR, wantedV, vop, v_mov, v_bin, xbin, vbin, Od.ev, Env.get, ok1, putE, applyU, addWs, chkU, hn', hm0, e, outC, outD, resV, resOne, finish, f1]
theorem place_1 {C : Ctx} (hmem : ∀ a h, C.memo 11 a h = none) (hnat : C.nat 11 = none) (hcode : C.code 11 = some c11) (hkeep : C.keep 11 = 0) (N : Nat) (x m k : Int) (hm : m = 1 ∨ m = 2 ∨ m = 3 ∨ m = 4 ∨ m = 5) (hk : x % m = k) :
    callN C (N + 1) 11 [.int .i64 x, .int .i64 m] [] = some (.ok (.int .i64 k) [] []) := by
  refine place_m hmem hnat hcode hkeep N x m k (by omega) (by omega) hk ?_ ?_
  · intro h
    rw [tmod_lit x m (by omega)] at h ⊢
    rcases hm with rfl | rfl | rfl | rfl | rfl <;> split at h <;> rename_i h0 <;> simp only [h0, if_true, if_false] <;> omega
  · intro h
    rw [tmod_lit x m (by omega)] at h ⊢
    rcases hm with rfl | rfl | rfl | rfl | rfl <;> split at h <;> rename_i h0 <;> simp only [h0, if_true, if_false] <;> omega
end
end Go.Pv
