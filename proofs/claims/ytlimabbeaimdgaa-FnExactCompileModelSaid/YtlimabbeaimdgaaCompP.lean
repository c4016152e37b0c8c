/- CompileModel of the reference: one step more (its region, walked once). -/
import Derived.Test.YtlimabbeaimdgaaCompD
import Derived.Test.YtlimabbeaimdgaaKf
import Derived.Test.YtlimabbeaimdgaaHPlan
import Derived.Test.YtlimabbeaimdgaaKe
namespace Go.Proofs.Ytlimabbeaimdgaa
set_option linter.unusedSimpArgs false
set_option linter.unusedVariables false
open Go.RowKit

def regOf (n : Nat) : Code → Option Code
  | .region id ops b => if id == n then some (.region id ops b) else none
  | .loop c => regOf n c
  | .seq a b => match regOf n a with
    | some c => some c
    | none => regOf n b
  | .block _ c => regOf n c
  | .scope c => regOf n c
  | .cond _ a b => match regOf n a with
    | some c => some c
    | none => regOf n b
  | _ => none
noncomputable def reg14 : Code := (Try.f69.body.bind (regOf 14)).getD .skip
set_option maxRecDepth 1000000 in
set_option maxHeartbeats 4000000 in
theorem push14 (K : Exit → Act → World → Prop) (w1 wr W : World) (bo lb0 m c8 : Nat) (q : Option Addr) (P : List shPlanStep.T) (cs : List (List Value)) (bss : List (List Nat)) (hc : Cst0 w1 wr bo m c8 q P cs bss) (hm12 : m ≤ 12) (E : Ext wr W) (d1 d2 d3 : Int) (pw pb : Option Addr) (lw cw lb cb : Nat) (ws bs : List Nat)
    (b5 : HB W lb0 #[.int .i64 d1, .int .i64 d2, .int .i64 d3, .slice pw lw cw, .slice pb lb cb] 65) (C1 : Hid (∀ W', Ext wr W' → Calls Try.prog 129 #[.slice pw lw cw] W' (RetFl W' ws))) (C2 : Hid (∀ W', Ext wr W' → Calls Try.prog 129 #[.slice pb lb cb] W' (RetFl W' bs))) (Hlw : Hid (ws.length = lw)) (Hlb : Hid (bs.length = lb))
    (u0 u1 u2 u4 u6 u7 u8 u9 u10 u11 u12 u13 u14 u15 u16 u17 u18 u19 u20 u21 u22 u23 u24 u25 u26 u27 u28 u29 u30 u31 u32 u33 u34 u35 u36 u37 u38 u39 u40 u41 u42 u43 u44 u45 u46 u47 u48 u49 u50 u51 u52 u53 u54 u55 u56 u57 u58 u59 u60 u61 u62 u63 u64 u65 u66 u67 u68 u69 u70 u71 u72 u73 u74 u75 u76 u77 u78 u79 u80 u81 u82 u83 u84 u85 u86 u87 u88 u89 u90 u91 u92 u93 u94 u95 u96 u97 u98 u99 u100 u101 u102 u103 u104 u105 u106 u107 u108 u109 u110 u111 u112 u113 u114 u115 u116 u117 u118 u119 u120 u121 u122 u123 u124 u125 u126 u127 u128 u129 u130 u131 u132 u133 u134 u135 u136 u137 u138 u139 u140 u141 u142 u143 u144 u145 u146 u147 u148 u149 u150 u151 u152 u153 u154 u155 u156 : Value) (hFin : ∀ (v137 v138 v139 v140 v141 v142 v143 v144 v145 v146 v147 v148 v149 v150 v151 v152 v153 v154 v155 : Value) (w7 : World) (c6 g6 : Nat) (cs' : List (List Value)) (bss' : List (List Nat)), Cst0 w1 w7 bo (m + 1) c6 (some ⟨g6, 0, none⟩) (P ++ [stpOf (d1, d2, d3, ws, bs, ())]) cs' bss' → K .normal ⟨#[u0, u1, u2, .pointer (some ⟨bo, 0, none⟩), u4, .pointer (some ⟨lb0, 0, none⟩), u6, u7, u8, u9, u10, u11, u12, u13, u14, u15, u16, u17, u18, u19, u20, u21, u22, u23, u24, u25, u26, u27, u28, u29, u30, u31, u32, u33, u34, u35, u36, u37, u38, u39, u40, u41, u42, u43, u44, u45, u46, u47, u48, u49, u50, u51, u52, u53, u54, u55, u56, u57, u58, u59, u60, u61, u62, u63, u64, u65, u66, u67, u68, u69, u70, u71, u72, u73, u74, u75, u76, u77, u78, u79, u80, u81, u82, u83, u84, u85, u86, u87, u88, u89, u90, u91, u92, u93, u94, u95, u96, u97, u98, u99, u100, u101, u102, u103, u104, u105, u106, u107, u108, u109, u110, u111, u112, u113, u114, u115, u116, u117, u118, u119, u120, u121, u122, u123, u124, u125, u126, u127, u128, u129, u130, u131, u132, u133, u134, u135, u136, v137, v138, v139, v140, v141, v142, v143, v144, v145, v146, v147, v148, v149, v150, v151, v152, v153, v154, v155, u156], []⟩ w7) :
    Code.wp Try.prog reg14 K ⟨#[u0, u1, u2, .pointer (some ⟨bo, 0, none⟩), u4, .pointer (some ⟨lb0, 0, none⟩), u6, u7, u8, u9, u10, u11, u12, u13, u14, u15, u16, u17, u18, u19, u20, u21, u22, u23, u24, u25, u26, u27, u28, u29, u30, u31, u32, u33, u34, u35, u36, u37, u38, u39, u40, u41, u42, u43, u44, u45, u46, u47, u48, u49, u50, u51, u52, u53, u54, u55, u56, u57, u58, u59, u60, u61, u62, u63, u64, u65, u66, u67, u68, u69, u70, u71, u72, u73, u74, u75, u76, u77, u78, u79, u80, u81, u82, u83, u84, u85, u86, u87, u88, u89, u90, u91, u92, u93, u94, u95, u96, u97, u98, u99, u100, u101, u102, u103, u104, u105, u106, u107, u108, u109, u110, u111, u112, u113, u114, u115, u116, u117, u118, u119, u120, u121, u122, u123, u124, u125, u126, u127, u128, u129, u130, u131, u132, u133, u134, u135, u136, u137, u138, u139, u140, u141, u142, u143, u144, u145, u146, u147, u148, u149, u150, u151, u152, u153, u154, u155, u156], []⟩ W := by
  conv => arg 2; whnf
  have eD := E.trans (Ext.drew _)
  have t5 := HB.ext b5 (Ext.drew _)
  have y0 := HB.cell (hc.out.ext eD) 0 rfl; have y1 := t5.cell 0 rfl; have y2 := t5.cell 1 rfl; have y3 := t5.cell 2 rfl; have y4 := t5.cell 3 rfl; have y5 := t5.cell 4 rfl
  obtain ⟨F, hF⟩ : ∃ F : Option Tmp → World → World → Value → Prop, F = fun d w0 W u => match d with | some 147 => ∃ q k, u = .slice q lw k ∧ IsOwnY [49] w0.heap.size (.sl .flt) W [.slice q lw k] ws | _ => ∃ q k, u = .slice q lb k ∧ IsOwnY [49] w0.heap.size (.sl .flt) W [.slice q lb k] bs := ⟨_, rfl⟩
  have HF := hid hF
  clear hF
  refine wp_region_yt 17 (F := F) (by kernel_rfl) (by kernel_rfl) (by kernel_rfl) (by kernel_rfl) (by kernel_rfl) ?_
  intro wf hwf
  simp only [List.take_succ_cons, List.take_zero, List.drop_succ_cons, List.drop_zero]
  repeat (first
    | (refine x_skip rfl ?_; simp only [Act.put, ev_tmp, List.setIfInBounds_toArray, List.set_cons_succ, List.set_cons_zero, List.getD_cons_succ, List.getD_cons_zero])
    | (refine x_mv rfl rfl rfl ?_; simp only [Act.put, ev_tmp, List.setIfInBounds_toArray, List.set_cons_succ, List.set_cons_zero, List.getD_cons_succ, List.getD_cons_zero])
    | (refine x_as rfl rfl rfl ?_; simp only [Act.put, ev_tmp, List.setIfInBounds_toArray, List.set_cons_succ, List.set_cons_zero, List.getD_cons_succ, List.getD_cons_zero])
    | ((with_reducible show wpX _ _ _ _ _ _ (Oper.mk _ (Op.call _) _ _ _ _ :: _) _); refine y_callK (f := 129) (args := #[.slice pb lb cb]) rfl rfl Try.func129 rfl (by kernel_rfl) ?_ ?_ ?_; (focus (simp [Act.eval]; done)); (focus (intro w1 hw1 hK; exact (by rw [HF.out]; exact (C2.out w1 (eD.trans hw1)).mono fun e w3 h => by obtain ⟨q, k, bs', g1, g2, g3, g4, g5, g6⟩ := retFl_thing3 Hlb.out h; exact ⟨_, g1, g5, q, k, rfl, bs', g2, g3, g4, g6⟩))); rintro u wa wb e0 hK e3 e4 hu; simp only [HF.out] at hu; obtain ⟨qb, kb, rfl, o2⟩ := hu; obtain ⟨v0', v3', f0', f1', f2', f3'⟩ := knownC_call hK (j := 10) (d := 147) (by kernel_rfl) rfl rfl rfl rfl Try.func129 rfl (by kernel_rfl) (by simp); rw [HF.out] at f3'; obtain ⟨qc, kc, hqc, o1⟩ := f3'; have hqd : Value.slice qw lw kw = .slice qc lw kc := hqc; simp only [Value.slice.injEq, true_and] at hqd; obtain ⟨rfl, rfl⟩ := hqd; simp only [Act.put, ev_tmp, List.setIfInBounds_toArray, List.set_cons_succ, List.set_cons_zero, List.getD_cons_succ, List.getD_cons_zero])
    | ((with_reducible show wpX _ _ _ _ _ _ (Oper.mk _ (Op.call _) _ _ _ _ :: _) _); refine y_callK (f := 129) (args := #[.slice pw lw cw]) rfl rfl Try.func129 rfl (by kernel_rfl) ?_ ?_ ?_; (focus (simp [Act.eval]; done)); (focus (intro w1 hw1 hK; exact (by rw [HF.out]; exact (C1.out w1 (eD.trans hw1)).mono fun e w3 h => by obtain ⟨q, k, bs', g1, g2, g3, g4, g5, g6⟩ := retFl_thing3 Hlw.out h; exact ⟨_, g1, g5, q, k, rfl, bs', g2, g3, g4, g6⟩))); rintro u wa wb e0 hK e3 e4 hu; simp only [HF.out] at hu; obtain ⟨qw, kw, rfl, _⟩ := hu; simp only [Act.put, ev_tmp, List.setIfInBounds_toArray, List.set_cons_succ, List.set_cons_zero, List.getD_cons_succ, List.getD_cons_zero])
    | (refine x_build0 rfl rfl ?_; intro gz hz1 hz2 hz3; simp only [Act.put, ev_tmp, List.setIfInBounds_toArray, List.set_cons_succ, List.set_cons_zero, List.getD_cons_succ, List.getD_cons_zero])
    | (refine x_build1 (u := .agg #[.int .i64 d1, .int .i64 d2, .int .i64 d3, .slice qw lw kw, .slice qb lb kb, .slice (some ⟨gz, 0, none⟩) 0 0, .bool false]) rfl rfl rfl rfl ?_; intro g5 hg5 hg6 hg7; simp only [Act.put, ev_tmp, List.setIfInBounds_toArray, List.set_cons_succ, List.set_cons_zero, List.getD_cons_succ, List.getD_cons_zero])
    | (refine x_run rfl fun K hK w1 hw1 => ?_; have k0 := hw1.cell (y0); have k1 := hw1.cell (y1); have k2 := hw1.cell (y2); have k3 := hw1.cell (y3); have k4 := hw1.cell (y4); have k5 := hw1.cell (y5); go_simp; refine hK _ ?_; clear hK K k0 k1 k2 k3 k4 k5 hw1 w1))
  refine x_nil ?_
  have eW := eD.trans hwf
  obtain ⟨bw, p1, p2, p3, p4⟩ := o1
  obtain ⟨bb, s1, s2, s3, s4⟩ := o2
  have q1 := eD.size
  have q2 := f0'.size
  have q3 := f2'.size
  have q4 := e0.size
  have lo1 : ∀ b ∈ bw, wr.heap.size ≤ b := fun b hb => by have := p3 b hb; omega
  have lo2 : ∀ b ∈ bb, wr.heap.size ≤ b := fun b hb => by have := s3 b hb; omega
  have o1 := p1.ext ((f2'.trans e3).trans e4)
  have o2 := s1.ext e4
  have ty : Tys wf [49] (bw ++ (bb ++ [gz])) := (p4.ext ((f2'.trans e3).trans e4)).app ((s4.ext e4).app (Tys.one hz3))
  have hlo : ∀ b ∈ bw ++ (bb ++ [gz]), wr.heap.size ≤ b := fun b hb => by
    rcases List.mem_append.1 hb with h | h
    · exact lo1 b h
    · rcases List.mem_append.1 h with h | h
      · exact lo2 b h
      · have : b = gz := by simpa using h
        omega
  have rowf := own_ext hc.row eW
  have hsz := hc.ext.size
  have hszw := eW.size
  have hof := hc.out.ext eW
  have neo := hc.ne.1
  clear p1 p2 p3 p4 s1 s2 s3 s4 lo1 lo2 y0 y1 y2 y3 y4 y5
  go_wp2_with ((with_reducible show wpList _ _ _ (Oper.mk _ (Op.call _) _ _ _ _ :: _) _ _); refine wl_app1s rfl rfl rfl rfl rowf hg7 rfl (by simp [Value.cells, Value.oneCell']) (by unfold maxLen; omega) (by omega) (by omega) ?_; intro g6 c6 w6 own6 gr6 hg6'; have l0 : HB w6 bo #[.slice q m c8] 28 := hof.chg (.of_grown gr6) (fun hh => neo _ hh.symm rfl); have l5 := l0.cell 0 rfl; have l6 := l0.froz 0)
  obtain ⟨cs', bss', hc'⟩ := hc.push eW (d := (d1, d2, d3, ws, bs, ())) o1 o2 (own_new0 hz3) hlo ty own6 gr6 hg6'
  exact hFin _ _ _ _ _ _ _ _ _ _ _ _ _ _ _ _ _ _ _ _ _ _ _ _ hc'
end Go.Proofs.Ytlimabbeaimdgaa
