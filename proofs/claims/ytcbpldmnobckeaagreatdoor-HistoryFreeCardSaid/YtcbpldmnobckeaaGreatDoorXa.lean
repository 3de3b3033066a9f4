/- The table of functions. -/
import Derived.Test.YtcbpldmnobckeaaGreatDoorCa
import Derived.Test.YtcbpldmnobckeaaGreatDoorCb
import Derived.Test.YtcbpldmnobckeaaGreatDoorCc
import Derived.Test.YtcbpldmnobckeaaGreatDoorCd
import Derived.Lib.Bytealg
import Derived.Shelf.Abstract
import Derived.Below
set_option linter.unusedSimpArgs false
set_option linter.unusedVariables false
namespace Go.Pv
open Go.Proofs
set_option maxRecDepth 100000
def tbl : List (List (Nat × VF)) := [[(3, c3), (4, c4), (5, c5), (6, c6), (8, c8), (9, c9), (10, c10), (11, c11), (12, c12), (13, c13), (14, c14), (16, c16), (17, c17), (18, c18), (19, c19), (20, c20), (21, c21), (22, c22), (23, c23), (24, c24), (25, c25), (26, c26), (27, c27), (28, c28), (29, c29), (30, c30), (31, c31)],
  [(32, c32), (33, c33), (35, c35), (36, c36), (37, c37), (38, c38), (39, c39), (40, c40), (41, c41), (42, c42), (43, c43), (44, c44), (45, c45), (46, c46), (47, c47), (48, c48), (49, c49), (50, c50), (51, c51), (52, c52), (53, c53), (54, c54), (55, c55), (56, c56), (57, c57), (59, c59), (60, c60), (61, c61), (63, c63)],
  [(64, c64), (65, c65), (66, c66), (67, c67), (68, c68), (69, c69), (70, c70), (71, c71), (72, c72), (73, c73), (74, c74), (75, c75), (76, c76), (77, c77), (78, c78), (79, c79), (80, c80), (81, c81), (82, c82), (83, c83), (84, c84), (85, c85), (86, c86), (87, c87), (88, c88), (89, c89), (90, c90), (91, c91), (95, c95)],
  [(96, c96), (97, c97), (98, c98), (99, c99), (100, c100), (101, c101), (102, c102), (103, c103), (104, c104), (105, c105), (106, c106), (107, c107), (108, c108), (109, c109), (110, c110), (111, c111), (112, c112), (113, c113), (114, c114), (115, c115), (116, c116), (117, c117), (118, c118), (119, c119), (120, c120), (121, c121), (122, c122), (123, c123), (124, c124), (125, c125), (126, c126), (127, c127)],
  [(128, c128), (129, c129), (130, c130), (131, c131), (133, c133), (135, c135), (136, c136), (137, c137), (138, c138), (139, c139), (140, c140), (141, c141), (142, c142), (143, c143), (144, c144), (145, c145), (146, c146), (147, c147), (148, c148), (149, c149), (150, c150), (151, c151), (152, c152), (153, c153), (154, c154), (156, c156), (157, c157), (158, c158)],
  [(160, c160), (161, c161), (162, c162), (163, c163), (164, c164), (165, c165), (166, c166), (167, c167), (168, c168), (169, c169), (170, c170), (171, c171), (172, c172), (173, c173), (175, c175), (176, c176), (177, c177), (178, c178), (180, c180), (181, c181), (182, c182), (183, c183), (186, c186), (188, c188), (189, c189), (190, c190), (191, c191)]]
def look (bs : List (List (Nat × VF))) (f : Nat) : Option VF :=
  match (bs.getD (f / 32) []).find? (fun e => Nat.beq e.1 f) with
  | some e => some e.2
  | none => none
theorem look_ok {Q : Nat → VF → Prop} {bs : List (List (Nat × VF))} (h : ∀ b ∈ bs, ∀ e ∈ b, Q e.1 e.2) {f : Nat} {vf : VF} (hl : look bs f = some vf) : Q f vf := by
  unfold look at hl
  split at hl
  · rename_i e he
    cases hl
    have h1 := List.find?_some he
    have h2 := List.mem_of_find?_eq_some he
    have e1 : e.1 = f := Nat.eq_of_beq_eq_true h1
    rw [← e1]
    rw [List.getD_eq_getElem?_getD] at h2
    cases hb : bs[f / 32]? with
    | none => rw [hb] at h2; simp at h2
    | some b =>
      rw [hb] at h2
      exact h b (List.mem_of_getElem? hb) e h2
  · cases hl
/-- A function's code is the program's. -/
def CodeOk (f : Nat) (vf : VF) : Prop := ∃ fn c, Tryz.prog.funcs[f]? = some fn ∧ fn.body = some c ∧ (fn.name == "runtime.NumGoroutine") = false ∧ Sim Tryz.prog fn.ntmps c vf.body ∧ stripR Tryz.prog fn.results.toList = some vf.results
theorem codeOk {f : Nat} {fn : Func} {vf : VF} (h : stripF Tryz.prog fn = some vf) (hf : Tryz.prog.funcs[f]? = some fn) (hn : (fn.name == "runtime.NumGoroutine") = false) : CodeOk f vf := by
  obtain ⟨c, h1, h2, h3⟩ := stripF_ok h
  exact ⟨fn, c, hf, h1, hn, h2, h3⟩
theorem codeOk0 {f : Nat} {fn : Func} {vf : VF} (h : stripF0 Tryz.prog fn = some vf) (hf : Tryz.prog.funcs[f]? = some fn) (hn : (fn.name == "runtime.NumGoroutine") = false) : CodeOk f vf := by
  obtain ⟨c, h1, h2, h3⟩ := stripF0_ok h
  exact ⟨fn, c, hf, h1, hn, h2, h3⟩
theorem codeOk1 {f : Nat} {fn : Func} {vf : VF} (h : stripF1 Tryz.prog fn = some vf) (hf : Tryz.prog.funcs[f]? = some fn) (hn : (fn.name == "runtime.NumGoroutine") = false) : CodeOk f vf := by
  obtain ⟨c, h1, h2, h3⟩ := stripF1_ok h
  exact ⟨fn, c, hf, h1, hn, h2, h3⟩
theorem o3 : CodeOk 3 c3 := codeOk1 k3 Tryz.func3 (by kernel_rfl)
theorem o4 : CodeOk 4 c4 := codeOk k4 Tryz.func4 (by kernel_rfl)
theorem o5 : CodeOk 5 c5 := codeOk k5 Tryz.func5 (by kernel_rfl)
theorem o6 : CodeOk 6 c6 := codeOk k6 Tryz.func6 (by kernel_rfl)
theorem o8 : CodeOk 8 c8 := codeOk k8 Tryz.func8 (by kernel_rfl)
theorem o9 : CodeOk 9 c9 := codeOk k9 Tryz.func9 (by kernel_rfl)
theorem o10 : CodeOk 10 c10 := codeOk k10 Tryz.func10 (by kernel_rfl)
theorem o11 : CodeOk 11 c11 := codeOk k11 Tryz.func11 (by kernel_rfl)
theorem o12 : CodeOk 12 c12 := codeOk k12 Tryz.func12 (by kernel_rfl)
theorem o13 : CodeOk 13 c13 := codeOk0 k13 Tryz.func13 (by kernel_rfl)
theorem o14 : CodeOk 14 c14 := codeOk1 k14 Tryz.func14 (by kernel_rfl)
theorem o16 : CodeOk 16 c16 := codeOk1 k16 Tryz.func16 (by kernel_rfl)
theorem o17 : CodeOk 17 c17 := codeOk k17 Tryz.func17 (by kernel_rfl)
theorem o18 : CodeOk 18 c18 := codeOk k18 Tryz.func18 (by kernel_rfl)
theorem o19 : CodeOk 19 c19 := codeOk k19 Tryz.func19 (by kernel_rfl)
theorem o20 : CodeOk 20 c20 := codeOk k20 Tryz.func20 (by kernel_rfl)
theorem o21 : CodeOk 21 c21 := codeOk k21 Tryz.func21 (by kernel_rfl)
theorem o22 : CodeOk 22 c22 := codeOk k22 Tryz.func22 (by kernel_rfl)
theorem o23 : CodeOk 23 c23 := codeOk k23 Tryz.func23 (by kernel_rfl)
theorem o24 : CodeOk 24 c24 := codeOk k24 Tryz.func24 (by kernel_rfl)
theorem o25 : CodeOk 25 c25 := codeOk k25 Tryz.func25 (by kernel_rfl)
theorem o26 : CodeOk 26 c26 := codeOk0 k26 Tryz.func26 (by kernel_rfl)
theorem o27 : CodeOk 27 c27 := codeOk k27 Tryz.func27 (by kernel_rfl)
theorem o28 : CodeOk 28 c28 := codeOk k28 Tryz.func28 (by kernel_rfl)
theorem o29 : CodeOk 29 c29 := codeOk k29 Tryz.func29 (by kernel_rfl)
theorem o30 : CodeOk 30 c30 := codeOk k30 Tryz.func30 (by kernel_rfl)
theorem o31 : CodeOk 31 c31 := codeOk k31 Tryz.func31 (by kernel_rfl)
theorem o32 : CodeOk 32 c32 := codeOk k32 Tryz.func32 (by kernel_rfl)
theorem o33 : CodeOk 33 c33 := codeOk k33 Tryz.func33 (by kernel_rfl)
theorem o35 : CodeOk 35 c35 := codeOk k35 Tryz.func35 (by kernel_rfl)
theorem o36 : CodeOk 36 c36 := codeOk k36 Tryz.func36 (by kernel_rfl)
theorem o37 : CodeOk 37 c37 := codeOk k37 Tryz.func37 (by kernel_rfl)
theorem o38 : CodeOk 38 c38 := codeOk k38 Tryz.func38 (by kernel_rfl)
theorem o39 : CodeOk 39 c39 := codeOk k39 Tryz.func39 (by kernel_rfl)
theorem o40 : CodeOk 40 c40 := codeOk k40 Tryz.func40 (by kernel_rfl)
theorem o41 : CodeOk 41 c41 := codeOk k41 Tryz.func41 (by kernel_rfl)
theorem o42 : CodeOk 42 c42 := codeOk k42 Tryz.func42 (by kernel_rfl)
theorem o43 : CodeOk 43 c43 := codeOk k43 Tryz.func43 (by kernel_rfl)
theorem o44 : CodeOk 44 c44 := codeOk k44 Tryz.func44 (by kernel_rfl)
theorem o45 : CodeOk 45 c45 := codeOk k45 Tryz.func45 (by kernel_rfl)
theorem o46 : CodeOk 46 c46 := codeOk k46 Tryz.func46 (by kernel_rfl)
theorem o47 : CodeOk 47 c47 := codeOk k47 Tryz.func47 (by kernel_rfl)
theorem o48 : CodeOk 48 c48 := codeOk k48 Tryz.func48 (by kernel_rfl)
theorem o49 : CodeOk 49 c49 := codeOk k49 Tryz.func49 (by kernel_rfl)
theorem o50 : CodeOk 50 c50 := codeOk k50 Tryz.func50 (by kernel_rfl)
theorem o51 : CodeOk 51 c51 := codeOk k51 Tryz.func51 (by kernel_rfl)
theorem o52 : CodeOk 52 c52 := codeOk k52 Tryz.func52 (by kernel_rfl)
theorem o53 : CodeOk 53 c53 := codeOk k53 Tryz.func53 (by kernel_rfl)
theorem o54 : CodeOk 54 c54 := codeOk k54 Tryz.func54 (by kernel_rfl)
theorem o55 : CodeOk 55 c55 := codeOk k55 Tryz.func55 (by kernel_rfl)
theorem o56 : CodeOk 56 c56 := codeOk k56 Tryz.func56 (by kernel_rfl)
theorem o57 : CodeOk 57 c57 := codeOk k57 Tryz.func57 (by kernel_rfl)
theorem o59 : CodeOk 59 c59 := codeOk k59 Tryz.func59 (by kernel_rfl)
theorem o60 : CodeOk 60 c60 := codeOk k60 Tryz.func60 (by kernel_rfl)
theorem o61 : CodeOk 61 c61 := codeOk k61 Tryz.func61 (by kernel_rfl)
theorem o63 : CodeOk 63 c63 := codeOk k63 Tryz.func63 (by kernel_rfl)
theorem o64 : CodeOk 64 c64 := codeOk k64 Tryz.func64 (by kernel_rfl)
theorem o65 : CodeOk 65 c65 := codeOk k65 Tryz.func65 (by kernel_rfl)
theorem o66 : CodeOk 66 c66 := codeOk k66 Tryz.func66 (by kernel_rfl)
theorem o67 : CodeOk 67 c67 := codeOk k67 Tryz.func67 (by kernel_rfl)
theorem o68 : CodeOk 68 c68 := codeOk k68 Tryz.func68 (by kernel_rfl)
theorem o69 : CodeOk 69 c69 := codeOk k69 Tryz.func69 (by kernel_rfl)
theorem o70 : CodeOk 70 c70 := codeOk k70 Tryz.func70 (by kernel_rfl)
theorem o71 : CodeOk 71 c71 := codeOk k71 Tryz.func71 (by kernel_rfl)
theorem o72 : CodeOk 72 c72 := codeOk k72 Tryz.func72 (by kernel_rfl)
theorem o73 : CodeOk 73 c73 := codeOk k73 Tryz.func73 (by kernel_rfl)
theorem o74 : CodeOk 74 c74 := codeOk k74 Tryz.func74 (by kernel_rfl)
theorem o75 : CodeOk 75 c75 := codeOk k75 Tryz.func75 (by kernel_rfl)
theorem o76 : CodeOk 76 c76 := codeOk k76 Tryz.func76 (by kernel_rfl)
theorem o77 : CodeOk 77 c77 := codeOk k77 Tryz.func77 (by kernel_rfl)
theorem o78 : CodeOk 78 c78 := codeOk k78 Tryz.func78 (by kernel_rfl)
theorem o79 : CodeOk 79 c79 := codeOk k79 Tryz.func79 (by kernel_rfl)
theorem o80 : CodeOk 80 c80 := codeOk k80 Tryz.func80 (by kernel_rfl)
theorem o81 : CodeOk 81 c81 := codeOk k81 Tryz.func81 (by kernel_rfl)
theorem o82 : CodeOk 82 c82 := codeOk k82 Tryz.func82 (by kernel_rfl)
theorem o83 : CodeOk 83 c83 := codeOk k83 Tryz.func83 (by kernel_rfl)
theorem o84 : CodeOk 84 c84 := codeOk k84 Tryz.func84 (by kernel_rfl)
theorem o85 : CodeOk 85 c85 := codeOk k85 Tryz.func85 (by kernel_rfl)
theorem o86 : CodeOk 86 c86 := codeOk k86 Tryz.func86 (by kernel_rfl)
theorem o87 : CodeOk 87 c87 := codeOk k87 Tryz.func87 (by kernel_rfl)
theorem o88 : CodeOk 88 c88 := codeOk k88 Tryz.func88 (by kernel_rfl)
theorem o89 : CodeOk 89 c89 := codeOk k89 Tryz.func89 (by kernel_rfl)
theorem o90 : CodeOk 90 c90 := codeOk k90 Tryz.func90 (by kernel_rfl)
theorem o91 : CodeOk 91 c91 := codeOk k91 Tryz.func91 (by kernel_rfl)
theorem o95 : CodeOk 95 c95 := codeOk k95 Tryz.func95 (by kernel_rfl)
theorem o96 : CodeOk 96 c96 := codeOk k96 Tryz.func96 (by kernel_rfl)
theorem o97 : CodeOk 97 c97 := codeOk k97 Tryz.func97 (by kernel_rfl)
theorem o98 : CodeOk 98 c98 := codeOk k98 Tryz.func98 (by kernel_rfl)
theorem o99 : CodeOk 99 c99 := codeOk k99 Tryz.func99 (by kernel_rfl)
theorem o100 : CodeOk 100 c100 := codeOk k100 Tryz.func100 (by kernel_rfl)
theorem o101 : CodeOk 101 c101 := codeOk k101 Tryz.func101 (by kernel_rfl)
theorem o102 : CodeOk 102 c102 := codeOk k102 Tryz.func102 (by kernel_rfl)
theorem o103 : CodeOk 103 c103 := codeOk k103 Tryz.func103 (by kernel_rfl)
theorem o104 : CodeOk 104 c104 := codeOk k104 Tryz.func104 (by kernel_rfl)
theorem o105 : CodeOk 105 c105 := codeOk k105 Tryz.func105 (by kernel_rfl)
theorem o106 : CodeOk 106 c106 := codeOk k106 Tryz.func106 (by kernel_rfl)
theorem o107 : CodeOk 107 c107 := codeOk k107 Tryz.func107 (by kernel_rfl)
theorem o108 : CodeOk 108 c108 := codeOk k108 Tryz.func108 (by kernel_rfl)
theorem o109 : CodeOk 109 c109 := codeOk k109 Tryz.func109 (by kernel_rfl)
theorem o110 : CodeOk 110 c110 := codeOk k110 Tryz.func110 (by kernel_rfl)
theorem o111 : CodeOk 111 c111 := codeOk k111 Tryz.func111 (by kernel_rfl)
theorem o112 : CodeOk 112 c112 := codeOk k112 Tryz.func112 (by kernel_rfl)
theorem o113 : CodeOk 113 c113 := codeOk k113 Tryz.func113 (by kernel_rfl)
theorem o114 : CodeOk 114 c114 := codeOk k114 Tryz.func114 (by kernel_rfl)
theorem o115 : CodeOk 115 c115 := codeOk k115 Tryz.func115 (by kernel_rfl)
theorem o116 : CodeOk 116 c116 := codeOk k116 Tryz.func116 (by kernel_rfl)
theorem o117 : CodeOk 117 c117 := codeOk k117 Tryz.func117 (by kernel_rfl)
theorem o118 : CodeOk 118 c118 := codeOk k118 Tryz.func118 (by kernel_rfl)
theorem o119 : CodeOk 119 c119 := codeOk k119 Tryz.func119 (by kernel_rfl)
theorem o120 : CodeOk 120 c120 := codeOk k120 Tryz.func120 (by kernel_rfl)
theorem o121 : CodeOk 121 c121 := codeOk k121 Tryz.func121 (by kernel_rfl)
theorem o122 : CodeOk 122 c122 := codeOk k122 Tryz.func122 (by kernel_rfl)
theorem o123 : CodeOk 123 c123 := codeOk k123 Tryz.func123 (by kernel_rfl)
theorem o124 : CodeOk 124 c124 := codeOk k124 Tryz.func124 (by kernel_rfl)
theorem o125 : CodeOk 125 c125 := codeOk k125 Tryz.func125 (by kernel_rfl)
theorem o126 : CodeOk 126 c126 := codeOk k126 Tryz.func126 (by kernel_rfl)
theorem o127 : CodeOk 127 c127 := codeOk k127 Tryz.func127 (by kernel_rfl)
theorem o128 : CodeOk 128 c128 := codeOk k128 Tryz.func128 (by kernel_rfl)
theorem o129 : CodeOk 129 c129 := codeOk k129 Tryz.func129 (by kernel_rfl)
theorem o130 : CodeOk 130 c130 := codeOk k130 Tryz.func130 (by kernel_rfl)
theorem o131 : CodeOk 131 c131 := codeOk k131 Tryz.func131 (by kernel_rfl)
theorem o133 : CodeOk 133 c133 := codeOk k133 Tryz.func133 (by kernel_rfl)
theorem o135 : CodeOk 135 c135 := codeOk k135 Tryz.func135 (by kernel_rfl)
theorem o136 : CodeOk 136 c136 := codeOk k136 Tryz.func136 (by kernel_rfl)
theorem o137 : CodeOk 137 c137 := codeOk k137 Tryz.func137 (by kernel_rfl)
theorem o138 : CodeOk 138 c138 := codeOk k138 Tryz.func138 (by kernel_rfl)
theorem o139 : CodeOk 139 c139 := codeOk k139 Tryz.func139 (by kernel_rfl)
theorem o140 : CodeOk 140 c140 := codeOk k140 Tryz.func140 (by kernel_rfl)
theorem o141 : CodeOk 141 c141 := codeOk k141 Tryz.func141 (by kernel_rfl)
theorem o142 : CodeOk 142 c142 := codeOk k142 Tryz.func142 (by kernel_rfl)
theorem o143 : CodeOk 143 c143 := codeOk k143 Tryz.func143 (by kernel_rfl)
theorem o144 : CodeOk 144 c144 := codeOk k144 Tryz.func144 (by kernel_rfl)
theorem o145 : CodeOk 145 c145 := codeOk k145 Tryz.func145 (by kernel_rfl)
theorem o146 : CodeOk 146 c146 := codeOk k146 Tryz.func146 (by kernel_rfl)
theorem o147 : CodeOk 147 c147 := codeOk k147 Tryz.func147 (by kernel_rfl)
theorem o148 : CodeOk 148 c148 := codeOk k148 Tryz.func148 (by kernel_rfl)
theorem o149 : CodeOk 149 c149 := codeOk k149 Tryz.func149 (by kernel_rfl)
theorem o150 : CodeOk 150 c150 := codeOk k150 Tryz.func150 (by kernel_rfl)
theorem o151 : CodeOk 151 c151 := codeOk k151 Tryz.func151 (by kernel_rfl)
theorem o152 : CodeOk 152 c152 := codeOk k152 Tryz.func152 (by kernel_rfl)
theorem o153 : CodeOk 153 c153 := codeOk k153 Tryz.func153 (by kernel_rfl)
theorem o154 : CodeOk 154 c154 := codeOk k154 Tryz.func154 (by kernel_rfl)
theorem o156 : CodeOk 156 c156 := codeOk k156 Tryz.func156 (by kernel_rfl)
theorem o157 : CodeOk 157 c157 := codeOk k157 Tryz.func157 (by kernel_rfl)
theorem o158 : CodeOk 158 c158 := codeOk k158 Tryz.func158 (by kernel_rfl)
theorem o160 : CodeOk 160 c160 := codeOk k160 Tryz.func160 (by kernel_rfl)
theorem o161 : CodeOk 161 c161 := codeOk k161 Tryz.func161 (by kernel_rfl)
theorem o162 : CodeOk 162 c162 := codeOk k162 Tryz.func162 (by kernel_rfl)
theorem o163 : CodeOk 163 c163 := codeOk k163 Tryz.func163 (by kernel_rfl)
theorem o164 : CodeOk 164 c164 := codeOk k164 Tryz.func164 (by kernel_rfl)
theorem o165 : CodeOk 165 c165 := codeOk k165 Tryz.func165 (by kernel_rfl)
theorem o166 : CodeOk 166 c166 := codeOk k166 Tryz.func166 (by kernel_rfl)
theorem o167 : CodeOk 167 c167 := codeOk k167 Tryz.func167 (by kernel_rfl)
theorem o168 : CodeOk 168 c168 := codeOk k168 Tryz.func168 (by kernel_rfl)
theorem o169 : CodeOk 169 c169 := codeOk k169 Tryz.func169 (by kernel_rfl)
theorem o170 : CodeOk 170 c170 := codeOk k170 Tryz.func170 (by kernel_rfl)
theorem o171 : CodeOk 171 c171 := codeOk k171 Tryz.func171 (by kernel_rfl)
theorem o172 : CodeOk 172 c172 := codeOk k172 Tryz.func172 (by kernel_rfl)
theorem o173 : CodeOk 173 c173 := codeOk k173 Tryz.func173 (by kernel_rfl)
theorem o175 : CodeOk 175 c175 := codeOk k175 Tryz.func175 (by kernel_rfl)
theorem o176 : CodeOk 176 c176 := codeOk k176 Tryz.func176 (by kernel_rfl)
theorem o177 : CodeOk 177 c177 := codeOk k177 Tryz.func177 (by kernel_rfl)
theorem o178 : CodeOk 178 c178 := codeOk k178 Tryz.func178 (by kernel_rfl)
theorem o180 : CodeOk 180 c180 := codeOk k180 Tryz.func180 (by kernel_rfl)
theorem o181 : CodeOk 181 c181 := codeOk k181 Tryz.func181 (by kernel_rfl)
theorem o182 : CodeOk 182 c182 := codeOk k182 Tryz.func182 (by kernel_rfl)
theorem o183 : CodeOk 183 c183 := codeOk k183 Tryz.func183 (by kernel_rfl)
theorem o186 : CodeOk 186 c186 := codeOk k186 Tryz.func186 (by kernel_rfl)
theorem o188 : CodeOk 188 c188 := codeOk k188 Tryz.func188 (by kernel_rfl)
theorem o189 : CodeOk 189 c189 := codeOk k189 Tryz.func189 (by kernel_rfl)
theorem o190 : CodeOk 190 c190 := codeOk k190 Tryz.func190 (by kernel_rfl)
theorem o191 : CodeOk 191 c191 := codeOk k191 Tryz.func191 (by kernel_rfl)
theorem tbl_ok : ∀ b ∈ tbl, ∀ e ∈ b, CodeOk e.1 e.2 := by
  simp only [tbl, List.forall_mem_cons]
  exact ⟨⟨o3, o4, o5, o6, o8, o9, o10, o11, o12, o13, o14, o16, o17, o18, o19, o20, o21, o22, o23, o24, o25, o26, o27, o28, o29, o30, o31, fun _ h => nomatch h⟩,
    ⟨o32, o33, o35, o36, o37, o38, o39, o40, o41, o42, o43, o44, o45, o46, o47, o48, o49, o50, o51, o52, o53, o54, o55, o56, o57, o59, o60, o61, o63, fun _ h => nomatch h⟩,
    ⟨o64, o65, o66, o67, o68, o69, o70, o71, o72, o73, o74, o75, o76, o77, o78, o79, o80, o81, o82, o83, o84, o85, o86, o87, o88, o89, o90, o91, o95, fun _ h => nomatch h⟩,
    ⟨o96, o97, o98, o99, o100, o101, o102, o103, o104, o105, o106, o107, o108, o109, o110, o111, o112, o113, o114, o115, o116, o117, o118, o119, o120, o121, o122, o123, o124, o125, o126, o127, fun _ h => nomatch h⟩,
    ⟨o128, o129, o130, o131, o133, o135, o136, o137, o138, o139, o140, o141, o142, o143, o144, o145, o146, o147, o148, o149, o150, o151, o152, o153, o154, o156, o157, o158, fun _ h => nomatch h⟩,
    ⟨o160, o161, o162, o163, o164, o165, o166, o167, o168, o169, o170, o171, o172, o173, o175, o176, o177, o178, o180, o181, o182, o183, o186, o188, o189, o190, o191, fun _ h => nomatch h⟩,
    fun _ h => nomatch h⟩
theorem mixed : Tryz.prog.follows .mixedOrders = true := by kernel_rfl
end Go.Pv
namespace Go.Pv
open Go.Proofs
set_option maxRecDepth 100000
/-- What turns nothing. -/
theorem aft_same {H : Array Obj} {g : G} {w : World} {hl : List VO} {v : V} {u : Value} (hE : Ent H g w hl) (hv : VR g w true v u) : AftOk g w hl g w v hl [] u :=
  ⟨⟨hE.rel, Step.refl g w, rfl⟩, hE.dom, hE.h, Nat.le_refl _, fun k _ => ⟨rfl, rfl⟩, hv, fun k _ _ => rfl⟩
/-- internal/bytealg.IndexByteString is the model's own. -/
def nIdx (_ : Callf) (args : List V) (hl : List VO) : Option CRes :=
  match args with
  | [.str s, .int .u8 c] => some (.ok (.int .i64 (Lib.indexByte s c.toNat.toUInt8)) hl [])
  | _ => none
theorem nm134 : (Tryz.f134.name == "runtime.NumGoroutine") = false := by kernel_rfl
theorem nb134 : Tryz.f134.body.isNone = true := by kernel_rfl
theorem nx134 : (Extern.findNext Tryz.f134).isNone = true := by kernel_rfl
theorem nf134 : Extern.find Tryz.f134 = some Extern.BytealgIndexByte.indexByte := by kernel_rfl
theorem nIdx_ok {H : Array Obj} : ∀ call, CallOk Tryz.prog H call → ∀ args hl r, nIdx call args hl = some r → ∀ (g : G) (w : World) (us : Array Value), Ent H g w hl → Args g w args us → Far Tryz.prog 134 us w (CallR g w hl r) := by
  intro call _ args hl r h g w us hE hA
  unfold nIdx at h
  split at h
  · rename_i s c
    cases h
    obtain ⟨h1, h2⟩ := hA
    have hus : us = #[.string ⟨s.toArray⟩, .int .u8 c] := by
      have e0 : us[0]? = some (us[0]'(by rw [h1]; simp)) := Array.getElem?_eq_getElem _
      have e1 : us[1]? = some (us[1]'(by rw [h1]; simp)) := Array.getElem?_eq_getElem _
      have v0 := (h2 0 _ _ rfl e0).inv_str
      have v1 := (h2 1 _ _ rfl e1).inv_int
      apply Array.ext
      · simpa using h1
      · intro i hi hi'
        have : i < 2 := by simpa using hi'
        rcases i with _ | _ | i
        · simpa using v0
        · simpa using v1
        · omega
    right
    refine ⟨.int .i64 (Lib.indexByte s c.toNat.toUInt8), w, ?_, _, _, _, g, rfl, aft_same hE (.int _ _ _)⟩
    have hx : Extern.findNext Tryz.f134 = none := by simpa using nx134
    have hn : ¬ Tryz.f134.name = "runtime.NumGoroutine" := by simpa using nm134
    have hrun := Lib.run_indexByteString (P := Tryz.prog) ⟨s.toArray⟩ c w
    have hb : Tryz.f134.body = none := by simpa using nb134
    have hm : ∀ (m : Mark) (w : World), Sem.run Tryz.prog (Sem.mark m (Sem.pure ())) w = .ok () w := fun m w => rfl
    subst hus
    simp [callFunc, Tryz.func134, hn, hb, hx, nf134, hrun, mark, hm]
  · cases h
end Go.Pv
namespace Go.Pv
open Go.Proofs
set_option maxRecDepth 100000
def natT : FuncId → Option (Callf → List V → List VO → Option CRes)
  | 7 => some (natD d7 0)
  | 34 => some (natD d34 0)
  | 134 => some nIdx
  | 174 => some (natD d174 0)
  | 179 => some (natD d179 0)
  | 184 => some (natD d184 0)
  | _ => none
def keepT : FuncId → Nat
  | 10 | 17 | 28 | 37 | 39 | 47 | 48 | 83 | 84 | 85 => 1
  | _ => 0
def mkC (memo : FuncId → List V → List VO → Option CRes) : Ctx := { code := look tbl, nat := natT, keep := keepT, memo := memo }
section
variable {H : Array Obj}
theorem natT_ok : ∀ f nf, natT f = some nf → ∀ call, CallOk Tryz.prog H call → ∀ args hl r, nf call args hl = some r → ∀ (g : G) (w : World) (us : Array Value), Ent H g w hl → Args g w args us → Far Tryz.prog f us w (CallR g w hl r) := by
  intro f nf h
  unfold natT at h
  split at h
  · cases h; exact stripVD_ok mixed kd7 Tryz.func7 (by kernel_rfl) Tryz.func15 (by kernel_rfl)
  · cases h; exact stripVD_ok mixed kd34 Tryz.func34 (by kernel_rfl) Tryz.func62 (by kernel_rfl)
  · cases h; exact nIdx_ok
  · cases h; exact stripVD_ok mixed kd174 Tryz.func174 (by kernel_rfl) Tryz.func187 (by kernel_rfl)
  · cases h; exact stripVD_ok mixed kd179 Tryz.func179 (by kernel_rfl) Tryz.func187 (by kernel_rfl)
  · cases h; exact stripVD_ok mixed kd184 Tryz.func184 (by kernel_rfl) Tryz.func187 (by kernel_rfl)
  · cases h
theorem mkC_ok {memo : FuncId → List V → List VO → Option CRes} (hm : ∀ f args hl r, memo f args hl = some r → Fact Tryz.prog H f args hl r) : CtxOk Tryz.prog H (mkC memo) :=
  ⟨fun f vf h => by
    obtain ⟨fn, c, h1, h2, h3, h4, h5⟩ := look_ok (Q := CodeOk) tbl_ok h
    exact ⟨fn, c, h1, h2, h3, h4, h5⟩, natT_ok, hm⟩
theorem fact_of {memo : FuncId → List V → List VO → Option CRes} (hm : ∀ f args hl r, memo f args hl = some r → Fact Tryz.prog H f args hl r) {n : Nat} {f : FuncId} {args : List V} {hl : List VO} {r : CRes} (h : callN (mkC memo) n f args hl = some r) : Fact Tryz.prog H f args hl r :=
  fun g w us hE hA => callN_ok mixed (mkC_ok hm) n f args hl r h g w us hE hA
end
structure Me where
  f : Nat
  a : List V
  h : List VO
  r : CRes
def memoL (es : List Me) (f : FuncId) (args : List V) (h : List VO) : Option CRes :=
  match es.find? (fun e => Nat.beq e.f f && (sameVs e.a args && decide (e.h = h))) with
  | some e => some e.r
  | none => none
theorem memoL_ok {Q : FuncId → List V → List VO → CRes → Prop} {es : List Me} (h : ∀ e ∈ es, Q e.f e.a e.h e.r) {f : FuncId} {args : List V} {hl : List VO} {r : CRes} (hm : memoL es f args hl = some r) : Q f args hl r := by
  unfold memoL at hm
  split at hm
  · rename_i e he
    cases hm
    have h1 := List.find?_some he
    simp only [Bool.and_eq_true, decide_eq_true_eq] at h1
    have e1 : e.f = f := Nat.eq_of_beq_eq_true h1.1
    have e2 := sameVs_eq _ _ h1.2.1
    have := h e (List.mem_of_find?_eq_some he)
    rw [e1, e2, h1.2.2] at this
    exact this
  · cases hm
/-! Nothing is known ahead. -/
def m0 : FuncId → List V → List VO → Option CRes := fun _ _ _ => none
theorem m0_ok {H : Array Obj} : ∀ f args hl r, m0 f args hl = some r → Fact Tryz.prog H f args hl r := fun _ _ _ _ h => by cases h
end Go.Pv
namespace Go.Pv
open Go.Proofs Go.RowKit
set_option maxRecDepth 100000
def c92 : VF := ⟨(.seq (.reg [⟨(some 4),.mov (.c (.int .i32 0)),none,[],true⟩,⟨(some 5),.mov (.c (.int .i64 0)),none,[],true⟩,⟨(some 6),.mov (.c (.bool false)),none,[],true⟩] false) (.seq (.seq (.reg [⟨(some 11),.mov (.t 0),none,[],true⟩,⟨(some 12),.rng (.t 11),none,[],true⟩] false) (.block 0 (.loop [12,1,0] (.seq (.reg [⟨(some 13),.nxt (.t 12),none,[],true⟩,⟨(some 14),.ext (.t 13) 0,none,[],true⟩] false) (.seq (.cond (.t 14) .skip (.exit 0)) (.block 1 (.seq (.reg [⟨(some 15),.ext (.t 13) 1,none,[],false⟩,⟨(some 16),.ext (.t 13) 2,none,[],false⟩,⟨(some 7),.mov (.t 15),none,[],false⟩,⟨(some 8),.mov (.t 16),none,[],true⟩] false) (.seq (.seq (.reg [⟨(some 17),.mov (.t 7),none,[],false⟩,⟨(some 18),.mov (.t 1),none,[],false⟩,⟨(some 19),.bin .eql .num (.t 17) (.t 18),none,[],true⟩] false) (.cond (.t 19) (.seq (.reg [⟨(some 21),.mov (.t 0),none,[],false⟩,⟨(some 22),.mov (.t 7),none,[],false⟩,⟨(some 23),.slc true 1 (.t 21) (some (.t 22)) none none,none,[],true⟩,⟨(some 24),.call 131 [(.t 23)],none,[],true⟩,⟨(some 20),.mov (.t 24),none,[],true⟩,⟨(some 25),.ext (.t 20) 0,none,[],false⟩,⟨(some 26),.ext (.t 20) 1,none,[],false⟩,⟨(some 9),.mov (.t 25),none,[],false⟩,⟨(some 10),.mov (.t 26),none,[],true⟩] false) (.seq (.reg [⟨(some 27),.mov (.t 8),none,[],false⟩,⟨(some 28),.mov (.t 10),none,[],false⟩,⟨(some 4),.mov (.t 27),none,[],false⟩,⟨(some 5),.mov (.t 28),none,[],true⟩,⟨(some 6),.mov (.c (.bool true)),none,[],true⟩] false) .ret)) .skip)) (.seq (.reg [⟨(some 29),.mov (.t 7),none,[],false⟩,⟨(some 30),.mov (.t 1),none,[],false⟩,⟨(some 31),.bin .gtr .num (.t 29) (.t 30),none,[],true⟩] false) (.cond (.t 31) (.exit 0) .skip)))))))))) (.seq (.reg [⟨(some 4),.mov (.c (.int .i32 0)),none,[],true⟩,⟨(some 5),.mov (.c (.int .i64 0)),none,[],true⟩,⟨(some 6),.mov (.c (.bool false)),none,[],true⟩] false) .ret))),[.tmp 4,.tmp 5,.tmp 6]⟩
theorem k92 : stripF Tryz.prog Tryz.f92 = some c92 := by kernel_rfl
theorem o92 : CodeOk 92 c92 := codeOk k92 Tryz.func92 (by kernel_rfl)
def mkU : Ctx := { code := fun f => if f = 92 then some c92 else look tbl f, nat := natT, keep := keepT, memo := m0 }
theorem mkU_ok {H : Array Obj} : CtxOk Tryz.prog H mkU :=
  ⟨fun f vf h => by
    have : CodeOk f vf := by
      unfold mkU at h
      simp only at h
      split at h
      · rename_i e; subst e; cases h; exact o92
      · exact look_ok (Q := CodeOk) tbl_ok h
    obtain ⟨fn, c, h1, h2, h3, h4, h5⟩ := this
    exact ⟨fn, c, h1, h2, h3, h4, h5⟩, natT_ok, m0_ok⟩

/-! ### A call from a bare world. -/
def gE : G := ⟨fun _ => False, fun _ => False, fun _ => 0, fun _ => 0, fun _ => .dead⟩
theorem gE_O (b : Nat) : ¬ gE.O b := by
  rintro (h | ⟨k, h, _⟩)
  · exact h
  · exact h
theorem ent_bare {H : Array Obj} (hG : GlobH H) {w : World} (hL : ∀ b, b < H.size → w.heap[b]? = H[b]?) : Ent H gE w [] where
  rel := ⟨fun _ h => h.elim, fun _ _ h => h.elim, fun _ h => h.elim, fun _ => trivial, fun _ h => h.elim, fun _ h => h.elim, Nat.le_refl _, fun _ _ _ => rfl, rfl, rfl, rfl⟩
  dom := fun _ => ⟨fun h => h.elim, fun h => absurd h (Nat.not_lt_zero _)⟩
  h := fun _ => rfl
  laid := ⟨fun b hb => ⟨gE_O b, hL b hb⟩, hG⟩
theorem below_bare {g' : G} {w w' : World} (h : Aft gE w g' w') : Below w.heap.size w w' :=
  ⟨h.rel.os, h.rel.tape, h.rel.output, h.rel.size, fun k hk => (h.step.stay k (gE_O k) hk).2⟩
theorem calls_bare {P : Program} {H : Array Obj} {f : FuncId} {args : List V} {r : CRes} (hF : Fact P H f args [] r) (hG : GlobH H) {w : World} (hL : ∀ b, b < H.size → w.heap[b]? = H[b]?)
    {us : Array Value} (hA : Args gE w args us) (hE : ∀ us w, (callFunc f us).run P w = .ok (.enter f us) w) :
    Calls P f us w fun e w' => CallR gE w [] r e w' := by
  rcases hF gE w us (ent_bare hG hL) hA with ⟨_, h⟩ | ⟨u, w', h, _⟩
  · exact h
  · rw [hE] at h; cases h

theorem at_run : (fun s => callN mkU 12 92 [.str s, .int .i64 0] []) [32, 34, 44, 32, 108, 97, 115, 116, 41, 41] = some (.ok (.tup [.int .i32 32, .int .i64 1, .bool true]) [] []) := by kernel_rfl
theorem at_run2 : (fun s => callN mkU 12 92 [.str s, .int .i64 0] []) [34, 44, 32, 108, 97, 115, 116, 41, 41] = some (.ok (.tup [.int .i32 34, .int .i64 1, .bool true]) [] []) := by kernel_rfl
theorem enter92 : ∀ args w, (callFunc 92 args).run Tryz.prog w = .ok (.enter 92 args) w := fun args w => enters_of (c := Tryz.f92.body.getD default) Tryz.func92 (by kernel_rfl) (by kernel_rfl) args w
theorem at_calls {H : Array Obj} {s : List UInt8} {r : Int} (hr : callN mkU 12 92 [.str s, .int .i64 0] [] = some (.ok (.tup [.int .i32 r, .int .i64 1, .bool true]) [] [])) (hG : GlobH H) {w : World} (hL : ∀ b, b < H.size → w.heap[b]? = H[b]?) :
    Calls Tryz.prog 92 #[.string ⟨s.toArray⟩, .int .i64 0] w fun e w' => e = .returned (.tuple #[.int .i32 r, .int .i64 1, .bool true]) ∧ Below w.heap.size w w' := by
  have hF : Fact Tryz.prog H 92 [.str s, .int .i64 0] [] _ := fun g w us hE hA => callN_ok mixed (mkU_ok (H := H)) 12 92 _ _ _ hr g w us hE hA
  refine (calls_bare hF hG hL ⟨rfl, ?_⟩ enter92).mono ?_
  · intro j x u hx hu
    match j, hx, hu with
    | 0, hx, hu => simp at hx hu; subst hx; subst hu; exact .str _ _
    | 1, hx, hu => simp at hx hu; subst hx; subst hu; exact .int _ _ _
  · rintro e w' h
    cases e with
    | returned u =>
      obtain ⟨v, hl', ws, g', e1, A⟩ := h
      cases e1
      refine ⟨?_, below_bare A.aft⟩
      have hv := A.val
      cases hv with
      | tup _ _ U hl ha =>
        simp at hl
        have h0 := ha 0 _ (U[0]'(by omega)) rfl (Array.getElem?_eq_getElem _)
        have h1 := ha 1 _ (U[1]'(by omega)) rfl (Array.getElem?_eq_getElem _)
        have h2 := ha 2 _ (U[2]'(by omega)) rfl (Array.getElem?_eq_getElem _)
        congr 2
        apply Array.ext
        · simpa using hl
        · intro i hi hi'
          have : i < 3 := by simpa using hi'
          rcases i with _ | _ | _ | i
          · simpa using h0.inv_int
          · simpa using h1.inv_int
          · simpa using h2.inv_bool
          · omega
    | panicked c => obtain ⟨v, g', u, e1, _⟩ := h; cases e1
    | outgrown => exact h.elim
end Go.Pv
