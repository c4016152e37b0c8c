/- The law FnExactSharedGradients answers true at every input, and its arguments read behind the call as before. No condition. -/
import Derived.Test.YtlimabbeaimdgaaGreatSharedGradientsLawShar
set_option linter.unusedSimpArgs false
set_option linter.unusedVariables false
set_option maxRecDepth 100000
set_option maxHeartbeats 16000000
namespace Go.Proofs.YtlimabbeaimdgaaGreat.lSharedGradients
open Go.RowKit Go.ChangeShapes Go.WideShapes Go.ChangeAt
theorem lifted (os : Os) (started : os.Started) (H : Type) (enc : TypeId × Value → H) :
 ReturnsInHanded {} Tryz.checked os 4 .any (Rows.fnExactSharedGradientsSpec.pre6 enc Tryz.prog Tryz.f4 Rows.fnExactSharedGradientsRow.domain false) (Rows.fnExactSharedGradientsSpec.post enc Tryz.prog Tryz.f4 false true false false) := by
 refine returnsInHanded_of_change (C := Tryz.checked) own_knob started (by kernel_rfl) Tryz.func4
  (ChangeSpec.witness6 (enc := enc) (C := Tryz.checked) false ⟨#[],#[.agg #[.slice none 0 0],.agg #[.int .i64 0,.int .i64 0,.slice none 0 0],.agg #[.int .i64 0,.int .i64 0,.slice none 0 0],.int .i64 0,.int .i64 0],[]⟩ 8 (by kernel_rfl) (by kernel_rfl) (by kernel_rfl) (by kernel_rfl)) ?_
 intro W base args ds gs before hval0 hW hcnd _;have hval : ∀ (j : Nat) t v,Tryz.f4.params[j]? = some t → args[j]? = some v → Value.okWide Tryz.prog W .any base t v := hval0;have hW2 := hW;obtain ⟨p,q,hA0,hV,hpq,hfz,hnd⟩ := hW;have hA : DataW.TrodAll enc Tryz.prog W 0 (fun _ => true) true Tryz.f4.params.toList args.toList ds p := hA0;obtain ⟨rfl,rfl⟩ := trodVars_none hV;rw [Tryz.params4] at hA hval;obtain ⟨v0,vs0,d0,ds0,p0,q0,hargs,rfl,rfl,h0,r0⟩ := trodAll_cons hA;obtain ⟨v1,vs1,d1,ds1,p1,q1,rfl,rfl,rfl,h1,r1⟩ := trodAll_cons r0;obtain ⟨v2,vs2,d2,ds2,p2,q2,rfl,rfl,rfl,h2,r2⟩ := trodAll_cons r1;obtain ⟨v3,vs3,d3,ds3,p3,q3,rfl,rfl,rfl,h3,r3⟩ := trodAll_cons r2;obtain ⟨v4,vs4,d4,ds4,p4,q4,rfl,rfl,rfl,h4,r4⟩ := trodAll_cons r3;obtain ⟨rfl,rfl,rfl⟩ := trodAll_nil r4;obtain rfl : args = #[v0,v1,v2,v3,v4] := by cases args;simp_all
 obtain ⟨c0,D0,rfl,rep0,fit0⟩ := open_arg jap 9 (by kernel_rfl) (hval 0 24 v0 rfl rfl) h0;obtain ⟨c1,D1,rfl,rep1,fit1⟩ := open_arg jaa 9 (by kernel_rfl) (hval 1 27 v1 rfl rfl) h1;obtain ⟨c2,D2,rfl,rep2,fit2⟩ := open_arg jaa 9 (by kernel_rfl) (hval 2 27 v2 rfl rfl) h2;obtain ⟨a3,rfl,rfl,rfl,w3⟩ := open_int Tryz.underlying2 (hval 3 2 v3 rfl rfl) h3;obtain ⟨a4,rfl,rfl,rfl,w4⟩ := open_int Tryz.underlying2 (hval 4 2 v4 rfl rfl) h4;clear hA0 hval0;refine (law_any c0 D0 c1 D1 c2 D2 a3 a4 W rep0 rep1 rep2 fit0 fit1 fit2 (fit_int w3) (fit_int w4)).mono fun e W2 ⟨he,hg⟩ => ?_
 subst he;exact ⟨_,rfl,post_true laid_out rfl (by kernel_rfl) (tb := 4) (by kernel_rfl) (by rw [Tryz.params4];intro t ht;simp only [List.mem_cons,List.not_mem_nil,or_false] at ht;rcases ht with rfl | rfl | rfl | rfl | rfl <;> exact ⟨by kernel_rfl,of_decide_eq_true (by kernel_rfl)⟩) rfl hW2 hg⟩
theorem proved : Rows.FnExactSharedGradientsSaid :=
 OpenClaim.holds_of_wide 4 Tryz.f4 rfl rfl rfl rfl rfl rfl rfl ⟨rfl,rfl,rfl,rfl,rfl⟩ rfl rfl rfl rfl rfl (by kernel_rfl) Tryz.func4 (by kernel_rfl)
  (of_decide_eq_true (by kernel_rfl)) (by unfold Func.isWrapper;first | (rw [if_pos (by decide +kernel)];kernel_rfl) | (rw [if_neg (by decide +kernel)];exact ⟨rfl,rfl⟩))
  (fun os started H enc _ => lifted os started H enc)
#print axioms proved
end Go.Proofs.YtlimabbeaimdgaaGreat.lSharedGradients
