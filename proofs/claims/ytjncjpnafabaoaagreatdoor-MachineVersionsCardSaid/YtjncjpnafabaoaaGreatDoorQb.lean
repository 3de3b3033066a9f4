/- The table of functions. -/
import Derived.Test.YtjncjpnafabaoaaGreatDoorPa
import Derived.Test.YtjncjpnafabaoaaGreatDoorPb
import Derived.Test.YtjncjpnafabaoaaGreatDoorPc
import Derived.Test.YtjncjpnafabaoaaGreatDoorPd
import Derived.Lib.Bytealg
import Derived.Test.YtjncjpnafabaoaaGreatDoorQa
set_option linter.unusedSimpArgs false
set_option linter.unusedVariables false
set_option linter.unusedSectionVars false
namespace Go.Pv
open Go.Proofs
set_option maxRecDepth 100000
variable [Sy]
def tbl : List (List (Nat × VF)) := [[(5, c5), (7, c7), (8, c8), (11, c11), (12, c12), (13, c13), (14, c14), (15, c15), (16, c16), (18, c18), (19, c19), (20, c20), (21, c21), (22, c22), (23, c23), (28, c28), (29, c29), (30, c30), (31, c31)],
  [(32, c32), (33, c33), (34, c34), (35, c35), (36, c36), (37, c37), (38, c38), (39, c39), (40, c40), (44, c44), (45, c45), (46, c46), (47, c47), (48, c48), (49, c49), (50, c50), (51, c51), (54, c54), (55, c55), (56, c56), (57, c57), (58, c58), (59, c59), (60, c60), (62, c62), (63, c63)],
  [(68, c68), (69, c69), (74, c74), (75, c75), (77, c77), (78, c78), (79, c79), (80, c80), (81, c81), (82, c82), (83, c83), (84, c84), (85, c85), (86, c86), (87, c87), (88, c88), (89, c89), (90, c90), (93, c93), (94, c94), (95, c95)],
  [(96, c96), (98, c98), (99, c99), (100, c100), (101, c101), (102, c102), (105, c105), (106, c106), (108, c108), (109, c109), (110, c110), (111, c111), (112, c112), (113, c113), (119, c119), (123, c123), (124, c124), (125, c125), (126, c126), (127, c127)],
  [(128, c128), (129, c129), (130, c130), (131, c131), (132, c132), (133, c133), (134, c134), (135, c135), (137, c137), (140, c140), (147, c147), (148, c148), (149, c149), (150, c150), (151, c151), (152, c152), (153, c153), (154, c154)],
  [(160, c160), (168, c168), (169, c169), (170, c170), (171, c171), (172, c172), (173, c173), (174, c174), (175, c175), (177, c177), (178, c178), (179, c179), (180, c180), (182, c182), (183, c183), (184, c184), (188, c188)],
  [(197, c197), (198, c198), (199, c199), (203, c203), (205, c205), (206, c206), (207, c207), (208, c208), (209, c209), (210, c210), (211, c211), (213, c213), (214, c214), (215, c215), (216, c216), (217, c217), (218, c218), (219, c219), (221, c221)],
  [(230, c230), (232, c232), (233, c233), (234, c234), (236, c236), (237, c237), (238, c238), (239, c239), (242, c242), (243, c243), (244, c244), (245, c245), (247, c247), (248, c248), (253, c253)],
  [(258, c258), (261, c261), (269, c269), (276, c276), (281, c281), (284, c284), (285, c285), (286, c286)]]
def look (bs : List (List (Nat × VF))) (f : Nat) : Option VF :=
  match (bs.getD (f / 32) []).find? (fun e => Nat.beq e.1 f) with
  | some e => some e.2
  | none => none
theorem look_ok {Q : Nat → VF → Prop} {bs : List (List (Nat × VF))} (h : ∀ b ∈ bs, ∀ e ∈ b, Q e.1 e.2) {f : Nat} {vf : VF} (hl : look bs f = some vf) : Q f vf := by
  unfold look at hl
  split at hl
  · rename_i e he
    cases hl
    have h1 := List.find?_some he
    have h2 := List.mem_of_find?_eq_some he
    have e1 : e.1 = f := Nat.eq_of_beq_eq_true h1
    rw [← e1]
    rw [List.getD_eq_getElem?_getD] at h2
    cases hb : bs[f / 32]? with
    | none => rw [hb] at h2; simp at h2
    | some b =>
      rw [hb] at h2
      exact h b (List.mem_of_getElem? hb) e h2
  · cases hl
/-- A function's code is the program's. -/
def CodeOk (f : Nat) (vf : VF) : Prop := ∃ fn c, Tryz.prog.funcs[f]? = some fn ∧ fn.body = some c ∧ (fn.name == "runtime.NumGoroutine") = false ∧ Sim Tryz.prog fn.ntmps c vf.body ∧ stripR Tryz.prog fn.results.toList = some vf.results
theorem codeOk {f : Nat} {fn : Func} {vf : VF} (h : stripF Tryz.prog fn = some vf) (hf : Tryz.prog.funcs[f]? = some fn) (hn : (fn.name == "runtime.NumGoroutine") = false) : CodeOk f vf := by
  obtain ⟨c, h1, h2, h3⟩ := stripF_ok h
  exact ⟨fn, c, hf, h1, hn, h2, h3⟩
theorem codeOk0 {f : Nat} {fn : Func} {vf : VF} (h : stripF0 Tryz.prog fn = some vf) (hf : Tryz.prog.funcs[f]? = some fn) (hn : (fn.name == "runtime.NumGoroutine") = false) : CodeOk f vf := by
  obtain ⟨c, h1, h2, h3⟩ := stripF0_ok h
  exact ⟨fn, c, hf, h1, hn, h2, h3⟩
theorem codeOk1 {f : Nat} {fn : Func} {vf : VF} (h : stripF1 Tryz.prog fn = some vf) (hf : Tryz.prog.funcs[f]? = some fn) (hn : (fn.name == "runtime.NumGoroutine") = false) : CodeOk f vf := by
  obtain ⟨c, h1, h2, h3⟩ := stripF1_ok h
  exact ⟨fn, c, hf, h1, hn, h2, h3⟩
theorem o5 : CodeOk 5 c5 := codeOk1 k5 Tryz.func5 (by kernel_rfl)
theorem o7 : CodeOk 7 c7 := codeOk k7 Tryz.func7 (by kernel_rfl)
theorem o8 : CodeOk 8 c8 := codeOk k8 Tryz.func8 (by kernel_rfl)
theorem o11 : CodeOk 11 c11 := codeOk k11 Tryz.func11 (by kernel_rfl)
theorem o12 : CodeOk 12 c12 := codeOk k12 Tryz.func12 (by kernel_rfl)
theorem o13 : CodeOk 13 c13 := codeOk k13 Tryz.func13 (by kernel_rfl)
theorem o14 : CodeOk 14 c14 := codeOk k14 Tryz.func14 (by kernel_rfl)
theorem o15 : CodeOk 15 c15 := codeOk k15 Tryz.func15 (by kernel_rfl)
theorem o16 : CodeOk 16 c16 := codeOk k16 Tryz.func16 (by kernel_rfl)
theorem o18 : CodeOk 18 c18 := codeOk k18 Tryz.func18 (by kernel_rfl)
theorem o19 : CodeOk 19 c19 := codeOk k19 Tryz.func19 (by kernel_rfl)
theorem o20 : CodeOk 20 c20 := codeOk k20 Tryz.func20 (by kernel_rfl)
theorem o21 : CodeOk 21 c21 := codeOk k21 Tryz.func21 (by kernel_rfl)
theorem o22 : CodeOk 22 c22 := codeOk k22 Tryz.func22 (by kernel_rfl)
theorem o23 : CodeOk 23 c23 := codeOk k23 Tryz.func23 (by kernel_rfl)
theorem o28 : CodeOk 28 c28 := codeOk k28 Tryz.func28 (by kernel_rfl)
theorem o29 : CodeOk 29 c29 := codeOk k29 Tryz.func29 (by kernel_rfl)
theorem o30 : CodeOk 30 c30 := codeOk k30 Tryz.func30 (by kernel_rfl)
theorem o31 : CodeOk 31 c31 := codeOk k31 Tryz.func31 (by kernel_rfl)
theorem o32 : CodeOk 32 c32 := codeOk k32 Tryz.func32 (by kernel_rfl)
theorem o33 : CodeOk 33 c33 := codeOk k33 Tryz.func33 (by kernel_rfl)
theorem o34 : CodeOk 34 c34 := codeOk k34 Tryz.func34 (by kernel_rfl)
theorem o35 : CodeOk 35 c35 := codeOk k35 Tryz.func35 (by kernel_rfl)
theorem o36 : CodeOk 36 c36 := codeOk k36 Tryz.func36 (by kernel_rfl)
theorem o37 : CodeOk 37 c37 := codeOk k37 Tryz.func37 (by kernel_rfl)
theorem o38 : CodeOk 38 c38 := codeOk k38 Tryz.func38 (by kernel_rfl)
theorem o39 : CodeOk 39 c39 := codeOk k39 Tryz.func39 (by kernel_rfl)
theorem o40 : CodeOk 40 c40 := codeOk k40 Tryz.func40 (by kernel_rfl)
theorem o44 : CodeOk 44 c44 := codeOk k44 Tryz.func44 (by kernel_rfl)
theorem o45 : CodeOk 45 c45 := codeOk k45 Tryz.func45 (by kernel_rfl)
theorem o46 : CodeOk 46 c46 := codeOk k46 Tryz.func46 (by kernel_rfl)
theorem o47 : CodeOk 47 c47 := codeOk k47 Tryz.func47 (by kernel_rfl)
theorem o48 : CodeOk 48 c48 := codeOk k48 Tryz.func48 (by kernel_rfl)
theorem o49 : CodeOk 49 c49 := codeOk k49 Tryz.func49 (by kernel_rfl)
theorem o50 : CodeOk 50 c50 := codeOk k50 Tryz.func50 (by kernel_rfl)
theorem o51 : CodeOk 51 c51 := codeOk k51 Tryz.func51 (by kernel_rfl)
theorem o54 : CodeOk 54 c54 := codeOk k54 Tryz.func54 (by kernel_rfl)
theorem o55 : CodeOk 55 c55 := codeOk k55 Tryz.func55 (by kernel_rfl)
theorem o56 : CodeOk 56 c56 := codeOk k56 Tryz.func56 (by kernel_rfl)
theorem o57 : CodeOk 57 c57 := codeOk k57 Tryz.func57 (by kernel_rfl)
theorem o58 : CodeOk 58 c58 := codeOk k58 Tryz.func58 (by kernel_rfl)
theorem o59 : CodeOk 59 c59 := codeOk k59 Tryz.func59 (by kernel_rfl)
theorem o60 : CodeOk 60 c60 := codeOk k60 Tryz.func60 (by kernel_rfl)
theorem o62 : CodeOk 62 c62 := codeOk k62 Tryz.func62 (by kernel_rfl)
theorem o63 : CodeOk 63 c63 := codeOk k63 Tryz.func63 (by kernel_rfl)
theorem o68 : CodeOk 68 c68 := codeOk k68 Tryz.func68 (by kernel_rfl)
theorem o69 : CodeOk 69 c69 := codeOk k69 Tryz.func69 (by kernel_rfl)
theorem o74 : CodeOk 74 c74 := codeOk k74 Tryz.func74 (by kernel_rfl)
theorem o75 : CodeOk 75 c75 := codeOk k75 Tryz.func75 (by kernel_rfl)
theorem o77 : CodeOk 77 c77 := codeOk k77 Tryz.func77 (by kernel_rfl)
theorem o78 : CodeOk 78 c78 := codeOk k78 Tryz.func78 (by kernel_rfl)
theorem o79 : CodeOk 79 c79 := codeOk k79 Tryz.func79 (by kernel_rfl)
theorem o80 : CodeOk 80 c80 := codeOk k80 Tryz.func80 (by kernel_rfl)
theorem o81 : CodeOk 81 c81 := codeOk k81 Tryz.func81 (by kernel_rfl)
theorem o82 : CodeOk 82 c82 := codeOk k82 Tryz.func82 (by kernel_rfl)
theorem o83 : CodeOk 83 c83 := codeOk k83 Tryz.func83 (by kernel_rfl)
theorem o84 : CodeOk 84 c84 := codeOk k84 Tryz.func84 (by kernel_rfl)
theorem o85 : CodeOk 85 c85 := codeOk k85 Tryz.func85 (by kernel_rfl)
theorem o86 : CodeOk 86 c86 := codeOk k86 Tryz.func86 (by kernel_rfl)
theorem o87 : CodeOk 87 c87 := codeOk k87 Tryz.func87 (by kernel_rfl)
theorem o88 : CodeOk 88 c88 := codeOk k88 Tryz.func88 (by kernel_rfl)
theorem o89 : CodeOk 89 c89 := codeOk k89 Tryz.func89 (by kernel_rfl)
theorem o90 : CodeOk 90 c90 := codeOk k90 Tryz.func90 (by kernel_rfl)
theorem o93 : CodeOk 93 c93 := codeOk k93 Tryz.func93 (by kernel_rfl)
theorem o94 : CodeOk 94 c94 := codeOk k94 Tryz.func94 (by kernel_rfl)
theorem o95 : CodeOk 95 c95 := codeOk k95 Tryz.func95 (by kernel_rfl)
theorem o96 : CodeOk 96 c96 := codeOk k96 Tryz.func96 (by kernel_rfl)
theorem o98 : CodeOk 98 c98 := codeOk k98 Tryz.func98 (by kernel_rfl)
theorem o99 : CodeOk 99 c99 := codeOk k99 Tryz.func99 (by kernel_rfl)
theorem o100 : CodeOk 100 c100 := codeOk k100 Tryz.func100 (by kernel_rfl)
theorem o101 : CodeOk 101 c101 := codeOk k101 Tryz.func101 (by kernel_rfl)
theorem o102 : CodeOk 102 c102 := codeOk k102 Tryz.func102 (by kernel_rfl)
theorem o105 : CodeOk 105 c105 := codeOk k105 Tryz.func105 (by kernel_rfl)
theorem o106 : CodeOk 106 c106 := codeOk k106 Tryz.func106 (by kernel_rfl)
theorem o108 : CodeOk 108 c108 := codeOk k108 Tryz.func108 (by kernel_rfl)
theorem o109 : CodeOk 109 c109 := codeOk k109 Tryz.func109 (by kernel_rfl)
theorem o110 : CodeOk 110 c110 := codeOk k110 Tryz.func110 (by kernel_rfl)
theorem o111 : CodeOk 111 c111 := codeOk k111 Tryz.func111 (by kernel_rfl)
theorem o112 : CodeOk 112 c112 := codeOk k112 Tryz.func112 (by kernel_rfl)
theorem o113 : CodeOk 113 c113 := codeOk k113 Tryz.func113 (by kernel_rfl)
theorem o119 : CodeOk 119 c119 := codeOk k119 Tryz.func119 (by kernel_rfl)
theorem o123 : CodeOk 123 c123 := codeOk k123 Tryz.func123 (by kernel_rfl)
theorem o124 : CodeOk 124 c124 := codeOk k124 Tryz.func124 (by kernel_rfl)
theorem o125 : CodeOk 125 c125 := codeOk k125 Tryz.func125 (by kernel_rfl)
theorem o126 : CodeOk 126 c126 := codeOk k126 Tryz.func126 (by kernel_rfl)
theorem o127 : CodeOk 127 c127 := codeOk k127 Tryz.func127 (by kernel_rfl)
theorem o128 : CodeOk 128 c128 := codeOk k128 Tryz.func128 (by kernel_rfl)
theorem o129 : CodeOk 129 c129 := codeOk k129 Tryz.func129 (by kernel_rfl)
theorem o130 : CodeOk 130 c130 := codeOk k130 Tryz.func130 (by kernel_rfl)
theorem o131 : CodeOk 131 c131 := codeOk k131 Tryz.func131 (by kernel_rfl)
theorem o132 : CodeOk 132 c132 := codeOk k132 Tryz.func132 (by kernel_rfl)
theorem o133 : CodeOk 133 c133 := codeOk k133 Tryz.func133 (by kernel_rfl)
theorem o134 : CodeOk 134 c134 := codeOk k134 Tryz.func134 (by kernel_rfl)
theorem o135 : CodeOk 135 c135 := codeOk k135 Tryz.func135 (by kernel_rfl)
theorem o137 : CodeOk 137 c137 := codeOk k137 Tryz.func137 (by kernel_rfl)
theorem o140 : CodeOk 140 c140 := codeOk k140 Tryz.func140 (by kernel_rfl)
theorem o147 : CodeOk 147 c147 := codeOk k147 Tryz.func147 (by kernel_rfl)
theorem o148 : CodeOk 148 c148 := codeOk k148 Tryz.func148 (by kernel_rfl)
theorem o149 : CodeOk 149 c149 := codeOk k149 Tryz.func149 (by kernel_rfl)
theorem o150 : CodeOk 150 c150 := codeOk k150 Tryz.func150 (by kernel_rfl)
theorem o151 : CodeOk 151 c151 := codeOk k151 Tryz.func151 (by kernel_rfl)
theorem o152 : CodeOk 152 c152 := codeOk k152 Tryz.func152 (by kernel_rfl)
theorem o153 : CodeOk 153 c153 := codeOk k153 Tryz.func153 (by kernel_rfl)
theorem o154 : CodeOk 154 c154 := codeOk k154 Tryz.func154 (by kernel_rfl)
theorem o160 : CodeOk 160 c160 := codeOk k160 Tryz.func160 (by kernel_rfl)
theorem o168 : CodeOk 168 c168 := codeOk k168 Tryz.func168 (by kernel_rfl)
theorem o169 : CodeOk 169 c169 := codeOk k169 Tryz.func169 (by kernel_rfl)
theorem o170 : CodeOk 170 c170 := codeOk k170 Tryz.func170 (by kernel_rfl)
theorem o171 : CodeOk 171 c171 := codeOk k171 Tryz.func171 (by kernel_rfl)
theorem o172 : CodeOk 172 c172 := codeOk k172 Tryz.func172 (by kernel_rfl)
theorem o173 : CodeOk 173 c173 := codeOk k173 Tryz.func173 (by kernel_rfl)
theorem o174 : CodeOk 174 c174 := codeOk k174 Tryz.func174 (by kernel_rfl)
theorem o175 : CodeOk 175 c175 := codeOk k175 Tryz.func175 (by kernel_rfl)
theorem o177 : CodeOk 177 c177 := codeOk k177 Tryz.func177 (by kernel_rfl)
theorem o178 : CodeOk 178 c178 := codeOk k178 Tryz.func178 (by kernel_rfl)
theorem o179 : CodeOk 179 c179 := codeOk k179 Tryz.func179 (by kernel_rfl)
theorem o180 : CodeOk 180 c180 := codeOk k180 Tryz.func180 (by kernel_rfl)
theorem o182 : CodeOk 182 c182 := codeOk k182 Tryz.func182 (by kernel_rfl)
theorem o183 : CodeOk 183 c183 := codeOk k183 Tryz.func183 (by kernel_rfl)
theorem o184 : CodeOk 184 c184 := codeOk k184 Tryz.func184 (by kernel_rfl)
theorem o188 : CodeOk 188 c188 := codeOk k188 Tryz.func188 (by kernel_rfl)
theorem o197 : CodeOk 197 c197 := codeOk k197 Tryz.func197 (by kernel_rfl)
theorem o198 : CodeOk 198 c198 := codeOk k198 Tryz.func198 (by kernel_rfl)
theorem o199 : CodeOk 199 c199 := codeOk k199 Tryz.func199 (by kernel_rfl)
theorem o203 : CodeOk 203 c203 := codeOk k203 Tryz.func203 (by kernel_rfl)
theorem o205 : CodeOk 205 c205 := codeOk k205 Tryz.func205 (by kernel_rfl)
theorem o206 : CodeOk 206 c206 := codeOk k206 Tryz.func206 (by kernel_rfl)
theorem o207 : CodeOk 207 c207 := codeOk k207 Tryz.func207 (by kernel_rfl)
theorem o208 : CodeOk 208 c208 := codeOk k208 Tryz.func208 (by kernel_rfl)
theorem o209 : CodeOk 209 c209 := codeOk k209 Tryz.func209 (by kernel_rfl)
theorem o210 : CodeOk 210 c210 := codeOk k210 Tryz.func210 (by kernel_rfl)
theorem o211 : CodeOk 211 c211 := codeOk k211 Tryz.func211 (by kernel_rfl)
theorem o213 : CodeOk 213 c213 := codeOk k213 Tryz.func213 (by kernel_rfl)
theorem o214 : CodeOk 214 c214 := codeOk k214 Tryz.func214 (by kernel_rfl)
theorem o215 : CodeOk 215 c215 := codeOk k215 Tryz.func215 (by kernel_rfl)
theorem o216 : CodeOk 216 c216 := codeOk k216 Tryz.func216 (by kernel_rfl)
theorem o217 : CodeOk 217 c217 := codeOk k217 Tryz.func217 (by kernel_rfl)
theorem o218 : CodeOk 218 c218 := codeOk k218 Tryz.func218 (by kernel_rfl)
theorem o219 : CodeOk 219 c219 := codeOk k219 Tryz.func219 (by kernel_rfl)
theorem o221 : CodeOk 221 c221 := codeOk k221 Tryz.func221 (by kernel_rfl)
theorem o230 : CodeOk 230 c230 := codeOk k230 Tryz.func230 (by kernel_rfl)
theorem o232 : CodeOk 232 c232 := codeOk k232 Tryz.func232 (by kernel_rfl)
theorem o233 : CodeOk 233 c233 := codeOk k233 Tryz.func233 (by kernel_rfl)
theorem o234 : CodeOk 234 c234 := codeOk k234 Tryz.func234 (by kernel_rfl)
theorem o236 : CodeOk 236 c236 := codeOk k236 Tryz.func236 (by kernel_rfl)
theorem o237 : CodeOk 237 c237 := codeOk k237 Tryz.func237 (by kernel_rfl)
theorem o238 : CodeOk 238 c238 := codeOk k238 Tryz.func238 (by kernel_rfl)
theorem o239 : CodeOk 239 c239 := codeOk k239 Tryz.func239 (by kernel_rfl)
theorem o242 : CodeOk 242 c242 := codeOk k242 Tryz.func242 (by kernel_rfl)
theorem o243 : CodeOk 243 c243 := codeOk k243 Tryz.func243 (by kernel_rfl)
theorem o244 : CodeOk 244 c244 := codeOk k244 Tryz.func244 (by kernel_rfl)
theorem o245 : CodeOk 245 c245 := codeOk k245 Tryz.func245 (by kernel_rfl)
theorem o247 : CodeOk 247 c247 := codeOk k247 Tryz.func247 (by kernel_rfl)
theorem o248 : CodeOk 248 c248 := codeOk k248 Tryz.func248 (by kernel_rfl)
theorem o253 : CodeOk 253 c253 := codeOk k253 Tryz.func253 (by kernel_rfl)
theorem o258 : CodeOk 258 c258 := codeOk k258 Tryz.func258 (by kernel_rfl)
theorem o261 : CodeOk 261 c261 := codeOk k261 Tryz.func261 (by kernel_rfl)
theorem o269 : CodeOk 269 c269 := codeOk k269 Tryz.func269 (by kernel_rfl)
theorem o276 : CodeOk 276 c276 := codeOk k276 Tryz.func276 (by kernel_rfl)
theorem o281 : CodeOk 281 c281 := codeOk k281 Tryz.func281 (by kernel_rfl)
theorem o284 : CodeOk 284 c284 := codeOk k284 Tryz.func284 (by kernel_rfl)
theorem o285 : CodeOk 285 c285 := codeOk k285 Tryz.func285 (by kernel_rfl)
theorem o286 : CodeOk 286 c286 := codeOk k286 Tryz.func286 (by kernel_rfl)
theorem tbl_ok : ∀ b ∈ tbl, ∀ e ∈ b, CodeOk e.1 e.2 := by
  simp only [tbl, List.forall_mem_cons]
  exact ⟨⟨o5, o7, o8, o11, o12, o13, o14, o15, o16, o18, o19, o20, o21, o22, o23, o28, o29, o30, o31, fun _ h => nomatch h⟩,
    ⟨o32, o33, o34, o35, o36, o37, o38, o39, o40, o44, o45, o46, o47, o48, o49, o50, o51, o54, o55, o56, o57, o58, o59, o60, o62, o63, fun _ h => nomatch h⟩,
    ⟨o68, o69, o74, o75, o77, o78, o79, o80, o81, o82, o83, o84, o85, o86, o87, o88, o89, o90, o93, o94, o95, fun _ h => nomatch h⟩,
    ⟨o96, o98, o99, o100, o101, o102, o105, o106, o108, o109, o110, o111, o112, o113, o119, o123, o124, o125, o126, o127, fun _ h => nomatch h⟩,
    ⟨o128, o129, o130, o131, o132, o133, o134, o135, o137, o140, o147, o148, o149, o150, o151, o152, o153, o154, fun _ h => nomatch h⟩,
    ⟨o160, o168, o169, o170, o171, o172, o173, o174, o175, o177, o178, o179, o180, o182, o183, o184, o188, fun _ h => nomatch h⟩,
    ⟨o197, o198, o199, o203, o205, o206, o207, o208, o209, o210, o211, o213, o214, o215, o216, o217, o218, o219, o221, fun _ h => nomatch h⟩,
    ⟨o230, o232, o233, o234, o236, o237, o238, o239, o242, o243, o244, o245, o247, o248, o253, fun _ h => nomatch h⟩,
    ⟨o258, o261, o269, o276, o281, o284, o285, o286, fun _ h => nomatch h⟩,
    fun _ h => nomatch h⟩
theorem mixed : Tryz.prog.follows .mixedOrders = true := by kernel_rfl
end Go.Pv
namespace Go.Pv
variable [Sy]
open Go.Proofs
set_option maxRecDepth 100000
/-- What turns nothing. -/
theorem aft_same {H : Array Obj} {g : G} {w : World} {hl : List VO} {v : V} {u : Value} (hE : Ent H g w hl) (hv : VR g w true v u) : AftOk g w hl g w v hl [] u :=
  ⟨⟨hE.rel, Step.refl g w, rfl⟩, hE.dom, hE.h, Nat.le_refl _, fun k _ => ⟨rfl, rfl⟩, hv, fun k _ _ => rfl⟩
/-- internal/bytealg.IndexByteString is the model's own. -/
def nIdx (_ : Callf) (args : List V) (hl : List VO) : Option CRes :=
  match args with
  | [.str s, .int .u8 c] => some (.ok (.int .i64 (Lib.indexByte s c.toNat.toUInt8)) hl [])
  | _ => none
theorem nm196 : (Tryz.f196.name == "runtime.NumGoroutine") = false := by kernel_rfl
theorem nb196 : Tryz.f196.body.isNone = true := by kernel_rfl
theorem nx196 : (Extern.findNext Tryz.f196).isNone = true := by kernel_rfl
theorem nf196 : Extern.find Tryz.f196 = some Extern.BytealgIndexByte.indexByte := by kernel_rfl
theorem nIdx_ok {H : Array Obj} : ∀ call, CallOk Tryz.prog H call → ∀ args hl r, nIdx call args hl = some r → ∀ (g : G) (w : World) (us : Array Value), Ent H g w hl → Args g w args us → Far Tryz.prog 196 us w (CallR g w hl r) := by
  intro call _ args hl r h g w us hE hA
  unfold nIdx at h
  split at h
  · rename_i s c
    cases h
    obtain ⟨h1, h2⟩ := hA
    have hus : us = #[.string ⟨s.toArray⟩, .int .u8 c] := by
      have e0 : us[0]? = some (us[0]'(by rw [h1]; simp)) := Array.getElem?_eq_getElem _
      have e1 : us[1]? = some (us[1]'(by rw [h1]; simp)) := Array.getElem?_eq_getElem _
      have v0 := (h2 0 _ _ rfl e0).inv_str
      have v1 := (h2 1 _ _ rfl e1).inv_int
      apply Array.ext
      · simpa using h1
      · intro i hi hi'
        have : i < 2 := by simpa using hi'
        rcases i with _ | _ | i
        · simpa using v0
        · simpa using v1
        · omega
    right
    refine ⟨.int .i64 (Lib.indexByte s c.toNat.toUInt8), w, ?_, _, _, _, g, rfl, aft_same hE (.int _ _ _)⟩
    have hx : Extern.findNext Tryz.f196 = none := by simpa using nx196
    have hn : ¬ Tryz.f196.name = "runtime.NumGoroutine" := by simpa using nm196
    have hrun := Lib.run_indexByteString (P := Tryz.prog) ⟨s.toArray⟩ c w
    have hb : Tryz.f196.body = none := by simpa using nb196
    have hm : ∀ (m : Mark) (w : World), Sem.run Tryz.prog (Sem.mark m (Sem.pure ())) w = .ok () w := fun m w => rfl
    subst hus
    simp [callFunc, Tryz.func196, hn, hb, hx, nf196, hrun, mark, hm]
  · cases h
end Go.Pv
namespace Go.Pv
variable [Sy]
open Go.Proofs
set_option maxRecDepth 100000
def natT : FuncId → Option (Callf → List V → List VO → Option CRes)
  | 76 => some (natD d76 0)
  | 196 => some nIdx
  | 249 => some (natD d249 0)
  | _ => none
def keepT : FuncId → Nat
  | 12 | 22 | 28 | 32 | 54 | 57 | 79 | 81 | 69 | 86 | 98 | 99 | 124 => 1
  | _ => 0
def mkC (memo : FuncId → List V → List VO → Option CRes) : Ctx := { code := look tbl, nat := natT, keep := keepT, memo := memo }
section
variable {H : Array Obj}
theorem natT_ok : ∀ f nf, natT f = some nf → ∀ call, CallOk Tryz.prog H call → ∀ args hl r, nf call args hl = some r → ∀ (g : G) (w : World) (us : Array Value), Ent H g w hl → Args g w args us → Far Tryz.prog f us w (CallR g w hl r) := by
  intro f nf h
  unfold natT at h
  split at h
  · cases h; exact stripVD_ok mixed kd76 Tryz.func76 (by kernel_rfl) Tryz.func107 (by kernel_rfl)
  · cases h; exact nIdx_ok
  · cases h; exact stripVD_ok mixed kd249 Tryz.func249 (by kernel_rfl) Tryz.func264 (by kernel_rfl)
  · cases h
theorem mkC_ok {memo : FuncId → List V → List VO → Option CRes} (hm : ∀ f args hl r, memo f args hl = some r → Fact Tryz.prog H f args hl r) : CtxOk Tryz.prog H (mkC memo) :=
  ⟨fun f vf h => by
    obtain ⟨fn, c, h1, h2, h3, h4, h5⟩ := look_ok (Q := CodeOk) tbl_ok h
    exact ⟨fn, c, h1, h2, h3, h4, h5⟩, natT_ok, hm⟩
theorem fact_of {memo : FuncId → List V → List VO → Option CRes} (hm : ∀ f args hl r, memo f args hl = some r → Fact Tryz.prog H f args hl r) {n : Nat} {f : FuncId} {args : List V} {hl : List VO} {r : CRes} (h : callN (mkC memo) n f args hl = some r) : Fact Tryz.prog H f args hl r :=
  fun g w us hE hA => callN_ok mixed (mkC_ok hm) n f args hl r h g w us hE hA
end
structure Me where
  f : Nat
  a : List V
  h : List VO
  r : CRes
def memoL (es : List Me) (f : FuncId) (args : List V) (h : List VO) : Option CRes :=
  match es.find? (fun e => Nat.beq e.f f && (sameVs e.a args && decide (e.h = h))) with
  | some e => some e.r
  | none => none
theorem memoL_ok {Q : FuncId → List V → List VO → CRes → Prop} {es : List Me} (h : ∀ e ∈ es, Q e.f e.a e.h e.r) {f : FuncId} {args : List V} {hl : List VO} {r : CRes} (hm : memoL es f args hl = some r) : Q f args hl r := by
  unfold memoL at hm
  split at hm
  · rename_i e he
    cases hm
    have h1 := List.find?_some he
    simp only [Bool.and_eq_true, decide_eq_true_eq] at h1
    have e1 : e.f = f := Nat.eq_of_beq_eq_true h1.1
    have e2 := sameVs_eq _ _ h1.2.1
    have := h e (List.mem_of_find?_eq_some he)
    rw [e1, e2, h1.2.2] at this
    exact this
  · cases hm
/-! Nothing is known ahead. -/
def m0 : FuncId → List V → List VO → Option CRes := fun _ _ _ => none
theorem m0_ok {H : Array Obj} : ∀ f args hl r, m0 f args hl = some r → Fact Tryz.prog H f args hl r := fun _ _ _ _ h => by cases h
end Go.Pv
namespace Go.Pv
end Go.Pv
