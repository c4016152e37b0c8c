/- The forward pass: shares. -/
import Derived.Test.YtnlhahlegedlaaaFwd4
namespace Go.Proofs.Ytnlhahlegedlaaa
set_option linter.unusedSimpArgs false
set_option linter.unusedVariables false
open Go.RowKit

/-- A table of the first values of a function. -/
def tab (n : Nat) (f : Nat → Nat) : List Nat := (List.range n).map f
theorem tab_len (n : Nat) (f : Nat → Nat) : (tab n f).length = n := by simp [tab]
theorem tab_get {n : Nat} (f : Nat → Nat) {i : Nat} (h : i < n) : (tab n f).getD i 0 = f i := by simp [tab, h]
theorem tab_succ (n : Nat) (f : Nat → Nat) : tab (n + 1) f = tab n f ++ [f n] := by simp [tab, List.range_succ]
def mix (o e : Nat → Nat) (i j : Nat) : Nat := if j < i then o j else e j
theorem tab_mix {n i : Nat} (o e : Nat → Nat) (h : i < n) : (tab n (mix o e i)).set i (o i) = tab n (mix o e (i + 1)) := by
  apply List.ext_getElem?
  intro j
  unfold tab mix
  rw [List.getElem?_set]
  by_cases hj : j < n
  · by_cases hij : i = j
    · subst hij; simp [hj]
    · rw [if_neg hij]
      simp only [List.getElem?_map, List.getElem?_range hj, Option.map_some]
      congr 1
      by_cases h1 : j < i
      · rw [if_pos h1, if_pos (by omega)]
      · rw [if_neg h1, if_neg (by omega)]
  · rw [if_neg (by omega)]; simp [hj]
theorem tab_mix0 (n : Nat) (o e : Nat → Nat) : tab n (mix o e 0) = tab n e := by
  unfold tab; apply List.map_congr_left; intro j _; unfold mix; rw [if_neg (by omega)]
theorem tab_mixn (n : Nat) (o e : Nat → Nat) : tab n (mix o e n) = tab n o := by
  unfold tab; apply List.map_congr_left; intro j hj; unfold mix; rw [if_pos (by simpa using hj)]
theorem sumG_congr {f g : Nat → Nat} : ∀ {n : Nat}, (∀ i, i < n → f i = g i) → sumG f n = sumG g n
  | 0, _ => rfl
  | n + 1, h => by unfold sumG; rw [sumG_congr (fun i hi => h i (by omega)), h n (by omega)]
theorem F32s.push {us : List Value} {i : Nat} {f : Nat → Nat} {b : Nat} (h : F32s us (tab i f)) (hb : cn .f32 b = f i) : F32s (us ++ [.float .f32 b]) (tab (i + 1) f) := by
  rw [tab_succ]
  refine h.app ⟨rfl, fun j hj => ?_⟩
  have : j = 0 := by simpa using hj
  subst this
  exact ⟨b, rfl, by rw [hb]; rfl⟩
theorem F32s.put {us : List Value} {n i : Nat} {o e : Nat → Nat} {b : Nat} (h : F32s us (tab n (mix o e i))) (hi : i < n) (hb : cn .f32 b = o i) : F32s (us.set i (.float .f32 b)) (tab n (mix o e (i + 1))) := by
  rw [← tab_mix o e hi]
  refine ⟨by rw [List.length_set, List.length_set]; exact h.1, fun j hj => ?_⟩
  rw [List.length_set] at hj
  by_cases hij : i = j
  · subst hij
    refine ⟨b, by rw [List.getElem?_set, if_pos rfl, if_pos (by rw [h.1]; exact hj)], ?_⟩
    rw [hb]; rw [tab_len] at hj; simp [tab_len, List.getD_eq_getElem?_getD, List.getElem?_set, hj]
  · obtain ⟨c, h1, h2⟩ := h.2 j hj
    refine ⟨c, by rw [List.getElem?_set, if_neg hij]; exact h1, ?_⟩
    rw [h2, List.getD_eq_getElem?_getD, List.getD_eq_getElem?_getD, List.getElem?_set, if_neg hij]

def sM (xs : List Nat) : Nat := xs.getD (gi xs xs.length) 0
def sE (xs : List Nat) (i : Nat) : Nat := expF (fop .sub .f32 (xs.getD i 0) (sM xs))
def sO (xs : List Nat) (i : Nat) : Nat := fop .quo .f32 (sE xs i) (sumG (sE xs) xs.length)
def softF (xs : List Nat) : List Nat := tab xs.length (sO xs)
theorem sE_pos {xs : List Nat} {i : Nat} (h : i < xs.length) : NonPos (fop .sub .f32 (xs.getD i 0) (sM xs)) := sub_neg (gi_max xs xs.length i h)
theorem retFl_own {w w' : World} {xs : List Nat} {n : Nat} {q : Option Addr} {c : Nat} {e : Ending} {vs : List Value} (hl : xs.length = n) (h : w'.ownsRow w.heap.size 26 1 (.slice q n c) n vs) (hf : F32s vs xs) (he : e = .returned (.slice q n c)) (hx : Ext w w') : RetFl w xs e w' := by
  subst hl; exact ⟨q, c, vs, he, h, hf, hx⟩

set_option maxRecDepth 100000 in
set_option maxHeartbeats 4000000 in
theorem l03Softmax_any (p : Option Addr) (n c : Nat) (us : List Value) (xs : List Nat) (w : World) (hx : xs.length = n) (h1 : 1 ≤ n) (hn : n ≤ 1073741824) (hp : Cs w p us) (hf : F32s us xs) :
    Calls Try.prog 169 #[.slice p n c] w (RetFl w (softF xs)) := by
  have X := hid hx
  have hM : sM xs = xs.getD (gi xs n) 0 := by unfold sM; rw [hx]
  have HM := hid hM
  have hP : ∀ i, i < n → NonPos (fop .sub .f32 (xs.getD i 0) (sM xs)) := fun i hi => sE_pos (by rw [hx]; exact hi)
  clear hx hM
  go_enter Try.func169, Try.ntmps169
  go_wp2_with ((with_reducible show wpList _ _ _ (Oper.mk _ (Op.indexAddr _ _ _) _ _ _ _ :: Oper.mk _ (Op.load _ _) _ _ _ _ :: _) _ _); refine wl_ldF rfl rfl rfl rfl (fun _ => rfl) rfl rfl hp hf X.out (by omega) (by omega) ?_; intro r0 g0; have G0 := hid g0; clear g0)
  go_loopw [3, 4] (fun mv iv wr => ∃ (i b : Nat), 1 ≤ i ∧ i ≤ n ∧ iv = .int .i64 i ∧ mv = .float .f32 b ∧ Hid (cn .f32 b = xs.getD (gi xs i) 0) ∧ Ext w wr) (fun _ iv _ => n - (intOf iv).toNat)
  case atStart => exact ⟨1, r0, by omega, by omega, rfl, rfl, by rw [Hid, gi_one]; exact G0.out, Ext.refl _⟩
  case round =>
    clear G0
    obtain ⟨i, b, hi1, hi, rfl, rfl, HB, he⟩ := hrel
    by_cases hlt : i < n
    · have k1 := hp.ext he
      have hs : gi xs (i + 1) = if fgt .f32 (xs.getD i 0) (xs.getD (gi xs i) 0) then i else gi xs i := rfl
      have HS := hid hs
      clear hs
      go_wp2_with ((with_reducible show wpList _ _ _ (Oper.mk _ (Op.indexAddr _ _ _) _ _ _ _ :: Oper.mk _ (Op.load _ _) _ _ _ _ :: _) _ _); refine wl_ldF rfl rfl rfl rfl (fun _ => rfl) rfl rfl k1 hf X.out (by omega) (by omega) ?_; first | (have zz := G1; intro r2 g2; have G2 := hid g2; clear g2 zz) | (intro r1 g1; have G1 := hid g1; clear g1))
      all_goals go_roundw
      all_goals first
        | (case rel =>
            rename_i hc
            have q1 := G1.out
            simp only [Int.toNat_natCast] at q1
            have hh := gt_eq r1 b
            rw [q1, HB.out] at hh
            rw [hc] at hh
            refine ⟨i + 1, _, by omega, by omega, by go_num, rfl, ?_, he⟩
            rw [Hid, HS.out, ← hh]
            first
              | exact HB.out
              | (have q2 := G2.out; simp only [Int.toNat_natCast] at q2; exact q2))
        | (case measure => simp [intOf]; omega)
    · obtain rfl : n = i := by omega
      replace HB := HB.out
      rw [← HM.out] at HB
      have HB2 := hid HB
      clear HB
      go_wp2
      have hstart : (wr.alloc (.cells #[] 26)).ownsRow w.heap.size 26 1 (.slice (some ⟨wr.heap.size, 0, none⟩) 0 0) 0 [] := World.ownsRow_made wr #[] 0 he.size (by decide) rfl
      have e0 := he.trans (Ext.alloc wr (.cells #[] 26))
      go_loopw [5, 6] (fun ov iv wr => ∃ (i : Nat) (vs : List Value) (q : Option Addr) (cq : Nat), i ≤ n ∧ iv = .int .i64 i ∧ ov = .slice q i cq ∧ wr.ownsRow w.heap.size 26 1 (.slice q i cq) i vs ∧ Hid (F32s vs (tab i (sE xs))) ∧ Ext w wr) (fun _ iv _ => n - (intOf iv).toNat)
      case atStart => exact ⟨0, [], _, _, by omega, rfl, rfl, hstart, F32s.nil, e0⟩
      case round =>
        clear hstart e0 he
        obtain ⟨i, vs, q, cq, hi, rfl, rfl, own0, HF, he⟩ := hrel
        have hB := he.size
        by_cases hlt : i < n
        · have k1 := hp.ext he
          have Hi := hid (hP i hlt)
          go_wp2_with (first | ((with_reducible show wpList _ _ _ (Oper.mk _ (Op.indexAddr _ _ _) _ _ _ _ :: Oper.mk _ (Op.load _ _) _ _ _ _ :: _) _ _); refine wl_ldF rfl rfl rfl rfl (fun _ => rfl) rfl rfl k1 hf X.out (by omega) (by omega) ?_; intro r1 g1; have G1 := hid g1; clear g1) | ((with_reducible show wpList _ _ _ (Oper.mk _ (Op.binOp _ _ _ _ _) _ _ _ _ :: _) _ _); refine wl_fop rfl rfl rfl rfl rfl ?_; intro r2 w2 e2 g2; have G2 := hid g2; clear g2))
          have hv : cn .f32 r2 = fop .sub .f32 (xs.getD i 0) (sM xs) := by rw [G2.out, G1.out, HB2.out, Int.toNat_natCast]
          have HV := hid hv
          clear hv
          refine (l01Exp_any r2 _ (by rw [HV.out]; exact Hi.out)).mono ?_
          rintro e w3 ⟨r3, rfl, g3, e3⟩
          have hv : cn .f32 r3 = sE xs i := by rw [g3, HV.out]; rfl
          have HV3 := hid hv
          clear hv g3
          replace own0 := own_ext (own_ext own0 e2) e3
          replace he := (he.trans e2).trans e3
          have hB := he.size
          go_wp2_with ((with_reducible show wpList _ _ _ (Oper.mk _ (Op.buildSlice _ _ _) _ _ _ _ :: Oper.mk _ (Op.call _) _ _ _ _ :: _) _ _); refine wl_app1b (u := .float .f32 r3) rfl rfl rfl rfl rfl rfl rfl (fun _ => rfl) (fun _ => rfl) own0 (by unfold maxLen; omega) (by omega) (by omega) ?_; intro g c w4 own4 g4 hg4)
          go_roundw
          case rel =>
            have own5 : w4.ownsRow w.heap.size 26 1 (.slice (some ⟨g, 0, none⟩) (i + 1) c) (i + 1) (vs ++ [.float .f32 r3]) := own4
            exact ⟨i + 1, vs ++ [.float .f32 r3], _, _, by omega, by go_num, rfl, own5, by rw [Hid]; exact HF.out.push HV3.out, he.grown g4 (fun k hk => own_le own0 k hk)⟩
          case measure => simp [intOf]; omega
        · obtain rfl : n = i := by omega
          go_wp2_with fail
          refine (l01Sum_any q n cq vs (tab n (sE xs)) _ (tab_len _ _) (by unfold maxLen; omega) (own_Cs own0) HF.out).mono ?_
          rintro e w1 ⟨r1, rfl, g1, e1⟩
          have hv : cn .f32 r1 = sumG (sE xs) n := by rw [g1]; exact sumG_congr fun i hi => tab_get _ hi
          have HV := hid hv
          clear hv g1
          replace own0 := own_ext own0 e1
          replace he := he.trans e1
          have hO : ∀ i, sO xs i = fop .quo .f32 (sE xs i) (sumG (sE xs) n) := fun i => by unfold sO; rw [X.out]
          have HO := hid hO
          clear hO
          go_wp2_with fail
          go_loopw [49] (fun iv wr => ∃ (i : Nat) (vs : List Value), i ≤ n ∧ iv = .int .i64 i ∧ wr.ownsRow w.heap.size 26 1 (.slice q n cq) n vs ∧ Hid (F32s vs (tab n (mix (sO xs) (sE xs) i))) ∧ Ext w wr) (fun iv _ => n - (intOf iv).toNat)
          case atStart => exact ⟨0, vs, by omega, rfl, own0, by rw [tab_mix0]; exact HF.out, he⟩
          case round =>
            clear own0 he HF hB
            obtain ⟨i, vs, hi, rfl, own0, HF, he⟩ := hrel
            have hB := he.size
            by_cases hlt : i < n
            · have k1 := own_Cs own0
              have HL := hid (tab_len n (mix (sO xs) (sE xs) i))
              have hg : (tab n (mix (sO xs) (sE xs) i)).getD i 0 = sE xs i := by rw [tab_get _ hlt]; unfold mix; rw [if_neg (by omega)]
              have HG := hid hg
              clear hg
              go_wp2_with (first | ((with_reducible show wpList _ _ _ (Oper.mk _ (Op.indexAddr _ _ _) _ _ _ _ :: Oper.mk _ (Op.load _ _) _ _ _ _ :: _) _ _); refine wl_ldF rfl rfl rfl rfl (fun _ => rfl) rfl rfl k1 HF.out HL.out (by omega) (by omega) ?_; intro r2 g2; have G2 := hid g2; clear g2) | ((with_reducible show wpList _ _ _ (Oper.mk _ (Op.binOp _ _ _ _ _) _ _ _ _ :: _) _ _); refine wl_fop rfl rfl rfl rfl rfl ?_; intro r3 w3 e3 g3; have G3 := hid g3; clear g3; replace own0 := own_ext own0 e3; replace he := he.trans e3) | ((with_reducible show wpList _ _ _ (Oper.mk _ (Op.indexAddr _ _ _) _ _ _ _ :: Oper.mk _ (Op.store _ _ _) _ _ _ _ :: _) _ _); refine wl_idxstore (u := .float .f32 r3) rfl rfl rfl rfl (fun _ => rfl) rfl rfl (fun _ => rfl) rfl own0 (by omega) (by omega) ?_; intro w4 own4 g4))
              go_roundw
              case rel =>
                refine ⟨i + 1, _, by omega, by go_num, own4, ?_, he.grown g4 (fun k hk => own_le own0 k hk)⟩
                rw [Int.toNat_natCast]
                have q2 := G2.out
                rw [Int.toNat_natCast, HG.out] at q2
                exact HF.out.put hlt (by rw [G3.out, q2, HV.out, HO.out])
              case measure => simp [intOf]; omega
            · obtain rfl : n = i := by omega
              rw [tab_mixn] at HF
              go_wp2
              go_ret
              have hS : softF xs = tab n (sO xs) := by unfold softF; rw [X.out]
              rw [hS]
              exact retFl_own (tab_len _ _) own0 HF.out rfl he
end Go.Proofs.Ytnlhahlegedlaaa
