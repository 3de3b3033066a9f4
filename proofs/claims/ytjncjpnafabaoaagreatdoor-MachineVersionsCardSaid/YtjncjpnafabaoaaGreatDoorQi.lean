/- The law, at whatever comes in. -/
import Derived.Test.YtjncjpnafabaoaaGreatDoorQh
set_option linter.unusedSimpArgs false
set_option linter.unusedVariables false
set_option linter.unusedSectionVars false
namespace Go.Pv
open Go.Proofs Go.RowKit
set_option maxRecDepth 100000
set_option maxHeartbeats 4000000
theorem nx_ok {A : Sy} {v : VC} {s : St} {k : St → Bool} (h : @nx A v s k = true) : ∃ s', @run A (@kG A) 400 0 v s = some (.normal, s') ∧ k s' = true := by
  unfold nx at h
  split at h
  · rename_i s' hs; exact ⟨s', hs, h⟩
  · cases h
section
variable {A : Sy} (hM : ∀ f args hl r, @mG A f args hl = some r → @Fact A Tryz.prog #[] f args hl r) {W : World} {nt : Nat}
include hM
theorem stepN_ok {c : Code} {v : VC} (hs : Sim Tryz.prog nt c v) {s s' : St} (hr : @run A (@kG A) 400 0 v s = some (.normal, s')) {a : Act} {w : World} (hI : @InvS A #[] Dfr.no gE W [] nt s a w) {Q : Exit → Act → World → Prop}
    (hn : ∀ a w, @InvS A #[] Dfr.no gE W [] nt s' a w → Q .normal a w) : c.wp Tryz.prog Q a w :=
  @run_ok A Tryz.prog #[] Dfr.no gE W [] nt (@kG A) 400 mixed (@callN_ok A Tryz.prog #[] (@mkC A (@mG A)) mixed (@mkC_ok A #[] (@mG A) hM) 400) (@ent_bare A W) c v hs s s' .normal Q a w (.inl rfl) hr hI fun a1 w1 hI1 => hn a1 w1 hI1
theorem post_ok {fn : Func} {c : Code} (hs : Sim Tryz.prog fn.ntmps c P5.post) (hres : stripR Tryz.prog fn.results.toList = some c5.results) {T : St} (hr : @chkT A T = true) {a : Act} {w : World} (hI : @InvS A #[] Dfr.no gE W [] fn.ntmps T a w) :
    c.wp Tryz.prog (bodyPost Tryz.prog fn fun e w' => e = .returned (.bool true) ∧ Below W.heap.size W w') a w := by
  unfold chkT at hr
  split at hr
  · rename_i U hU
    split at hr
    · rename_i vs hvs
      split at hr
      · rename_i hf
        refine @run_ok A Tryz.prog #[] Dfr.no gE W [] fn.ntmps (@kG A) 400 mixed (@callN_ok A Tryz.prog #[] (@mkC A (@mG A)) mixed (@mkC_ok A #[] (@mG A) hM) 400) (@ent_bare A W) c P5.post hs T U .ret _ a w (.inl rfl) hU hI ?_
        rintro a' w' ⟨g', I⟩
        obtain ⟨u, k1, k2⟩ := @results_ok A Tryz.prog #[] Dfr.no gE W [] fn.ntmps a' w' U g' fn I c5.results vs hres hvs
        refine ⟨@Inv.noDefers A #[] gE W [] fn.ntmps a' w' U g' I, u, k1, ?_⟩
        obtain ⟨v', hl', ws, g2, e1, AF⟩ := @finish_ok A #[] Dfr.no gE W [] fn.ntmps a' w' U g' (@ent_bare A W) I 0 (resOne vs) u _ k2 hf
        cases e1
        exact ⟨by rw [@VR.inv_bool A g2 w' true true u AF.val], @below_bare A g2 W w' AF.aft⟩
      · cases hr
    · cases hr
  · cases hr
end
/-- The call, at whatever comes in. -/
theorem ver_calls {vs ns : List Int} {n : Int} {W : World} {u1 u2 : Value} (h1 : ∀ A : Sy, @VR A gE W true (.is (vs.map fun z => [V.int .i64 z]) false) u1) (h2 : ∀ A : Sy, @VR A gE W true (.is (ns.map fun z => [V.int .i64 z]) false) u2) :
    Calls Tryz.prog 5 #[.int .i64 n, u1, u2] W fun e w' => e = .returned (.bool true) ∧ Below W.heap.size W w' := by
  obtain ⟨fn, c, f1, f2, f3, f4, f5⟩ := @o5 (sySy (fun _ => 0) (fun _ => []) [] fun _ h => nomatch h)
  rw [body5] at f4
  refine calls_of_wp f1 f2 ?_
  have hH : Hd vs 0 0 := ⟨Int.le_refl _, by decide, Int.le_refl _, Int.le_refl _⟩
  have O : Okq (valM vs ns n 0 0 0) [] := fun _ h => nomatch h
  have hM := mM_ok (H := #[]) hH O
  have hA : @Args (sySy (valM vs ns n 0 0 0) (lsM vs ns) [] O) gE W args5 #[.int .i64 n, u1, u2] := by
    refine ⟨rfl, ?_⟩
    intro j x u hx hu
    match j, hx, hu with
    | 0, hx, hu => simp [args5] at hx hu; subst hx; subst hu; exact @VR.tm (sySy (valM vs ns n 0 0 0) (lsM vs ns) [] O) gE W true .i64 (.sym 30)
    | 1, hx, hu =>
      simp [args5] at hx hu; subst hx; subst hu
      obtain ⟨k1, k2⟩ := ivs_ok (vs := vs) (ns := ns) (n := n) (v := 0) (x := 0) (Int.le_refl 0) (0, 20, 0, 10) (by simp [ivs5])
      exact @VR.iv (sySy (valM vs ns n 0 0 0) (lsM vs ns) [] O) gE W true .i64 0 20 0 10 _ (h1 _) k1 k2
    | 2, hx, hu =>
      simp [args5] at hx hu; subst hx; subst hu
      obtain ⟨k1, k2⟩ := ivs_ok (vs := vs) (ns := ns) (n := n) (v := 0) (x := 0) (Int.le_refl 0) (1, 21, 0, 11) (by simp [ivs5])
      exact @VR.iv (sySy (valM vs ns n 0 0 0) (lsM vs ns) [] O) gE W true .i64 1 21 0 11 _ (h2 _) k1 k2
    | j + 3, hx, hu => simp [args5] at hx
  have I0 := @entry_inv (sySy (valM vs ns n 0 0 0) (lsM vs ns) [] O) #[] fn gE W [] args5 _ (@ent_bare (sySy (valM vs ns n 0 0 0) (lsM vs ns) [] O) W) hA
  have hp := pre_run (valM vs ns n 0 0 0) (lsM vs ns) O
  unfold chkP at hp
  obtain ⟨s1, r1, hp⟩ := nx_ok hp
  obtain ⟨s2, r2, hp⟩ := nx_ok hp
  obtain ⟨s3, r3, hp⟩ := nx_ok hp
  obtain ⟨s4, r4, hp⟩ := nx_ok hp
  obtain ⟨s5, r5, hp⟩ := nx_ok hp
  split at hp
  · rename_i s6 hg
    cases f4 with
    | seq q1 f4 => cases f4 with
      | seq q2 f4 => cases f4 with
        | seq q3 f4 => cases f4 with
          | seq q4 f4 => cases f4 with
            | seq q5 q6 => cases q5 with
              | seq q5 q7 => cases q7 with
                | block q7 => cases q7 with
                  | loop _ q7 =>
                    refine wp_seq (stepN_ok hM q1 r1 I0 fun a w I1 => wp_seq (stepN_ok hM q2 r2 I1 fun a w I2 => wp_seq (stepN_ok hM q3 r3 I2 fun a w I3 => wp_seq (stepN_ok hM q4 r4 I3 fun a w I4 => wp_seq (wp_seq (stepN_ok hM q5 r5 I4 fun a w I5 => wp_block (wp_loop_rounds 40 ?_)))))))
                    refine law_rounds vs ns n q7 (W := W) ?_ 40 0 0 0 sh0 a w (by decide) hH (.inl rfl) fun T h => ?_
                    · intro A hMA T a w hx hI
                      simp only [Exit.inBlock, if_true]
                      exact post_ok hMA q6 f5 hx hI
                    · refine @invS_turn (sySy (valM vs ns n 0 0 0) (lsM vs ns) [] O) (sySy (valM vs ns n 0 0 0) (lsM vs ns) T h) gPre ivs5 ⟨?_, rfl, ivs_ok (Int.le_refl 0)⟩ w #[] gE W fn.ntmps s6 sh0 a (fun _ => rfl) hp (@gc_ok (sySy (valM vs ns n 0 0 0) (lsM vs ns) [] O) #[] Dfr.no gE W [] fn.ntmps a w s5 s6 rfl (@ent_bare (sySy (valM vs ns n 0 0 0) (lsM vs ns) [] O) W) P5.l hg I5)
                      show ∀ p ∈ gPre, tmEv (valM vs ns n 0 0 0) p.2 = valM vs ns n 0 0 0 p.1
                      simp only [gPre, List.forall_mem_cons]
                      exact ⟨rfl, rfl, rfl, fun _ h => nomatch h⟩
  · cases hp
end Go.Pv
