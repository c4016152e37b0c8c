/- Texts of numbers: marked and held. -/
import Derived.Test.YtmcafdcabbighaaSrc2
import Derived.Test.YtmcafdcabbighaaHStringS
import Derived.Test.YtmcafdcabbighaaArch
namespace Go.Proofs.Ytmcafdcabbighaa
set_option linter.unusedSimpArgs false
set_option linter.unusedVariables false
open Go.RowKit

theorem digs_zero : digs 0 = [] := by unfold digs; rfl
theorem digs_pos {n : Nat} (h : 0 < n) : digs n = digs (n / 10) ++ [UInt8.ofNat (48 + n % 10)] := by
  rw [digs]; rw [if_neg (by omega)]
theorem digs_len : ∀ (m n : Nat), n < 10 ^ m → (digs n).length ≤ m
  | 0, n, h => by
    have : n = 0 := by simpa using h
    subst this; rw [digs_zero]; simp
  | m + 1, n, h => by
    by_cases h0 : n = 0
    · subst h0; rw [digs_zero]; simp
    · rw [digs_pos (by omega), List.length_append]
      have := digs_len m (n / 10) (by rw [Nat.pow_succ] at h; omega)
      simp; omega
theorem cs_alloc (w : World) (cs : List Value) (t : TypeId) : Cs (w.alloc (.cells cs.toArray t)) (some ⟨w.heap.size, 0, none⟩) cs := by
  refine ⟨fun i u hu => ?_, fun _ => rfl⟩
  rw [adr_row]
  have hnew : (w.alloc (.cells cs.toArray t)).heap[w.heap.size]? = some (.cells cs.toArray t) := heap_alloc_new w _
  unfold World.cell?
  rw [hnew]
  simpa using hu
set_option maxRecDepth 100000 in
set_option maxHeartbeats 4000000 in
theorem markText_any (k : Int) (w : World) (h0 : 0 ≤ k) (h1 : k ≤ 68719476736) : Calls Try.prog 89 #[.int .i64 k] w fun e w' => e = .returned (.string (markStr k)) ∧ Ext w w' := by
  by_cases hz : k ≤ 0
  · have : markStr k = ⟨#[109, 48]⟩ := by unfold markStr; rw [if_pos hz]
    rw [this]
    go_enter Try.func89, Try.ntmps89
    go_wp2
    go_ret
    exact ⟨rfl, Ext.refl _⟩
  obtain ⟨n, rfl⟩ : ∃ n : Nat, k = n := ⟨k.toNat, by omega⟩
  have hR : markStr (n : Int) = ⟨(109 :: digs n).toArray⟩ := by unfold markStr; rw [if_neg hz]; rfl
  rw [hR]
  have h10 : (10 : Nat) ^ 11 = 100000000000 := by decide
  have hdl := digs_len 11 n (by rw [h10]; omega)
  clear h10
  generalize hD : digs n = D at *
  have HD := hid hD
  clear hD hR
  go_enter Try.func89, Try.ntmps89
  go_wp2
  go_loopw [0, 3] (fun kv ov wr => ∃ (x : Nat) (o : List UInt8), kv = .int .i64 x ∧ ov = .string ⟨o.toArray⟩ ∧ x ≤ 68719476736 ∧ Hid (digs x ++ o = D) ∧ Ext w wr) (fun kv _ _ => (intOf kv).toNat)
  case atStart => exact ⟨n, [], rfl, rfl, by omega, by simpa [Hid] using HD.out, Ext.refl _⟩
  case round =>
    obtain ⟨x, o, rfl, rfl, hx, HX, he⟩ := hrel
    have hlen : (digs x).length + o.length ≤ 11 := by rw [← List.length_append, HX.out]; exact hdl
    by_cases hp : 0 < x
    · have hd := digs_pos hp
      have hX2 : digs (x / 10) ++ ([UInt8.ofNat (48 + x % 10)] ++ o) = D := by rw [← List.append_assoc, ← hd]; exact HX.out
      have HX2 := hid hX2
      have hm : Int.tmod (x : Int) 10 = ((x % 10 : Nat) : Int) := by rw [Int.tmod_eq_emod_of_nonneg (by omega)]; omega
      have hq : Int.tdiv (x : Int) 10 = ((x / 10 : Nat) : Int) := by rw [Int.tdiv_eq_ediv_of_nonneg (by omega)]; omega
      clear hd hX2 HX
      have hb : ((UInt8.ofNat (48 + x % 10)).toNat : Int) = 48 + (x : Int) % 10 := by
        rw [UInt8.toNat_ofNat']
        have : (48 + x % 10) % 2 ^ 8 = 48 + x % 10 := Nat.mod_eq_of_lt (by omega)
        rw [this]; omega
      have hcs : Cs (wr.alloc (.cells #[.int .u8 (48 + (x : Int) % 10)] 5)) (some ⟨wr.heap.size, 0, none⟩) (byC [UInt8.ofNat (48 + x % 10)]) := by
        have h := cs_alloc wr [.int .u8 (48 + (x : Int) % 10)] 5
        have e : byC [UInt8.ofNat (48 + x % 10)] = [.int .u8 (48 + (x : Int) % 10)] := by simp only [byC, List.map_cons, List.map_nil, hb]
        rw [e]; exact h
      have hob : o.length ≤ 11 := by omega
      generalize UInt8.ofNat (48 + x % 10) = b at *
      have Ha := hid (lArchiveOf.ba_app [b] o)
      have hs1 := ba_size [b]
      have hs2 := ba_size o
      have hl1 : [b].length = 1 := rfl
      go_wp2_with ((with_reducible show wpList _ _ _ (Oper.mk _ (Op.convert _ _ _) _ _ _ _ :: _) _ _); refine wl_bytesStr (l := [b]) rfl rfl rfl hcs rfl ?_)
      go_roundw
      case rel => exact ⟨x / 10, [b] ++ o, by go_num, by rw [← Ha.out], by omega, HX2.out, he.trans (Ext.alloc _ _)⟩
      case measure => simp [intOf]; omega
    · obtain rfl : x = 0 := by omega
      have hX := HX.out
      rw [digs_zero, List.nil_append] at hX
      subst hX
      have Ha := hid (lArchiveOf.ba_app [109] o)
      have hs2 := ba_size o
      go_wp2
      go_ret
      exact ⟨by first | rfl | (congr 2; exact Ha.out), he⟩

/-- The texts of k, k + 1, .. -/
def marksS (k : Int) (n : Nat) : List ByteArray := (List.range n).map fun (i : Nat) => markStr (k + i)
theorem length_marksS (k : Int) (n : Nat) : (marksS k n).length = n := by simp [marksS]
theorem carry_str (l : List ByteArray) : ∀ k, carry (mkE .str) l k = (marksS k l.length, k + l.length) := by
  induction l with
  | nil => intro k; simp [carry, marksS]
  | cons x l ih =>
    intro k
    rw [carry_cons]
    show (markStr k :: (carry (mkE .str) l (k + 1)).1, (carry (mkE .str) l (k + 1)).2) = _
    rw [ih, List.length_cons]
    refine Prod.ext ?_ (by simp; omega)
    simp only [marksS, List.range_succ_eq_map, List.map_cons, List.map_map]
    congr 1
    · simp
    · apply List.map_congr_left; intro i _; simp; congr 1; omega
theorem tot_strs (xs : List ByteArray) : xs.length ≤ tot (.sl .str) xs := tot_len (e := .str) xs
def markSs (k : Int) (n : Nat) : List Value := (marksS k n).map Value.string
theorem markSs_at (k : Int) {n i : Nat} (h : i < n) : (markSs k n)[i]? = some (.string (markStr (k + i))) := by simp [markSs, marksS, h]
theorem length_markSs (k : Int) (n : Nat) : (markSs k n).length = n := by simp [markSs, marksS]
set_option maxRecDepth 100000 in
set_option maxHeartbeats 4000000 in
theorem markStringS_own (p : Option Addr) (n c : Nat) (k : Int) (vs : List Value) (w : World) (hv : vs.length = n) (hn : n ≤ 1073741824) (hk0 : 0 ≤ k) (hk : k + n ≤ 68719476736) (hown : OwnRow w p n c vs) :
    Calls Try.prog 44 #[.slice p n c, .int .i64 k] w fun e w' => e = .returned (.int .i64 (k + n)) ∧ OwnRow w' p n c (markSs k n) ∧ Chg (fun b => b ∈ blocksOf p) w w' := by
  have Hv := hid hv
  clear hv
  go_enter Try.func44, Try.ntmps44
  go_wp2
  go_loopw [1, 5] (fun kv iv wr => ∃ (i : Nat) (us : List Value), i ≤ n ∧ iv = .int .i64 i ∧ kv = .int .i64 (k + i) ∧ Hid (us.length = n) ∧ Hid (∀ j, j < i → us[j]? = (markSs k n)[j]?) ∧ OwnRow wr p n c us ∧ Chg (fun b => b ∈ blocksOf p) w wr) (fun _ iv _ => n - (intOf iv).toNat)
  case atStart => exact ⟨0, vs, by omega, rfl, by go_num, Hv.out, fun j hj => by omega, hown, Chg.refl _ _⟩
  case round =>
    clear hown
    obtain ⟨i, us, hi, rfl, rfl, Hu, Hall, hown, hch⟩ := hrel
    by_cases hlt : i < n
    · go_wp2_with fail
      refine (markText_any (k + i) _ (by omega) (by omega)).mono ?_
      rintro e w1 ⟨rfl, e1⟩
      have own2 := hown.chg (.of_ext e1) (S := fun _ => False) (fun _ _ h => h)
      go_wp2_with ((with_reducible show wpList _ _ _ (Oper.mk _ (Op.indexAddr _ _ _) _ _ _ _ :: Oper.mk _ (Op.store _ _ _) _ _ _ _ :: _) _ _); refine wl_stRow (u := .string (markStr (k + i))) rfl rfl rfl rfl (fun _ => rfl) rfl rfl (fun _ => rfl) rfl own2 Hu.out (by omega) (by omega) ?_; intro w2 own3 g1)
      go_roundw
      case rel =>
        refine ⟨i + 1, _, by omega, by go_num, by go_num, by rw [Hid, List.length_set]; exact Hu.out, fun j hj => ?_, own3, (hch.trans (.of_ext e1)).trans g1⟩
        rw [Int.toNat_natCast, List.getElem?_set]
        by_cases hji : i = j
        · subst hji; rw [if_pos rfl, if_pos (by rw [Hu.out]; exact hlt)]; exact (markSs_at k hlt).symm
        · rw [if_neg hji]; exact Hall j (by omega)
      case measure => simp [intOf]; omega
    · obtain rfl : i = n := by omega
      go_wp2
      go_ret
      have : us = markSs k i := by
        apply List.ext_getElem?
        intro j
        by_cases hj : j < i
        · exact Hall j hj
        · rw [List.getElem?_eq_none (by rw [Hu.out]; omega), List.getElem?_eq_none (by rw [length_markSs]; omega)]
      subst this
      exact ⟨rfl, hown, hch⟩
theorem markStringS_ok : MarkOk 44 (.sl .str) := by
  intro cs xs bs k w h _ hk0 hk
  have htl := tot_strs xs
  obtain ⟨p, c, rfl, h2, h4, h5, rfl⟩ := own_strs.1 h
  refine (markStringS_own p _ c k _ w (by rw [List.length_map]) (by omega) hk0 (by omega) h2).mono ?_
  rintro e w' ⟨rfl, own, hch⟩
  have hm : mkV (.sl .str) xs k = (marksS k xs.length, k + xs.length) := carry_str xs k
  refine ⟨by rw [hm], ?_, hch⟩
  rw [hm]
  exact own_strs.2 ⟨p, c, by rw [length_marksS], by rw [length_marksS]; exact own, by rw [length_marksS]; exact h4, h5, rfl⟩
set_option maxRecDepth 100000 in
set_option maxHeartbeats 4000000 in
theorem heldStringS_any (p : Option Addr) (n c : Nat) (k : Int) (w : World) (hn : n ≤ 1073741824) (hk0 : 0 ≤ k) (hk : k + n ≤ 68719476736) (hp : Cs w p (markSs k n)) :
    Calls Try.prog 45 #[.slice p n c, .int .i64 k] w fun e w' => e = .returned (.int .i64 (k + n)) ∧ Ext w w' := by
  have Hl := hid (length_markSs k n)
  go_enter Try.func45, Try.ntmps45
  go_wp2
  go_loopw [1, 5] (fun kv iv wr => ∃ i : Nat, i ≤ n ∧ iv = .int .i64 i ∧ kv = .int .i64 (k + i) ∧ Ext w wr) (fun _ iv _ => n - (intOf iv).toNat)
  case atStart => exact ⟨0, by omega, rfl, by go_num, Ext.refl w⟩
  case round =>
    obtain ⟨i, hi, rfl, rfl, he⟩ := hrel
    by_cases hlt : i < n
    · have hp' := (hp.ext he).ext (Ext.drew wr)
      have Hb := hid (markSs_at k hlt)
      have C := hid (fun W => markText_any (k + i) W (by omega) (by omega))
      generalize markStr (k + i) = b at *
      go_wp2_with fail
      refine wp_region_xall (F := fun _ _ u => u = .string b) (by kernel_rfl) (by kernel_rfl) (by kernel_rfl) ?_
      intro wf hwf
      repeat (first
        | (refine x_skip rfl ?_; simp only [Act.put, ev_tmp, List.setIfInBounds_toArray, List.set_cons_succ, List.set_cons_zero, List.getD_cons_succ, List.getD_cons_zero])
        | (refine x_mv rfl rfl rfl ?_; simp only [Act.put, ev_tmp, List.setIfInBounds_toArray, List.set_cons_succ, List.set_cons_zero, List.getD_cons_succ, List.getD_cons_zero])
        | (refine x_as rfl rfl rfl ?_; simp only [Act.put, ev_tmp, List.setIfInBounds_toArray, List.set_cons_succ, List.set_cons_zero, List.getD_cons_succ, List.getD_cons_zero])
        | ((with_reducible show wpX _ _ _ _ _ _ (Oper.mk _ (Op.indexAddr _ _ _) _ _ _ _ :: Oper.mk _ (Op.load _ _) _ _ _ _ :: _) _); refine x_idxload rfl rfl (fun _ => rfl) rfl (fun _ => rfl) rfl rfl hp' Hl.out (by omega) (by omega) ?_; intro u hu; rw [Int.toNat_natCast, Hb.out] at hu; cases hu; simp only [Act.put, ev_tmp, List.setIfInBounds_toArray, List.set_cons_succ, List.set_cons_zero, List.getD_cons_succ, List.getD_cons_zero])
        | ((with_reducible show wpX _ _ _ _ _ _ (Oper.mk _ (Op.call _) _ _ _ _ :: _) _); refine x_callf (f := 89) (args := #[.int .i64 (k + i)]) rfl rfl Try.func89 rfl (by kernel_rfl) ?_ ?_ ?_; (focus (simp [Act.eval]; done)); (focus (intro w1 hw1; exact ((C.out w1).mono fun e w3 h => ⟨_, h.1, h.2, rfl⟩))); rintro u w3 e3 e4 rfl; simp only [Act.put, ev_tmp, List.setIfInBounds_toArray, List.set_cons_succ, List.set_cons_zero, List.getD_cons_succ, List.getD_cons_zero])
        | (refine x_run rfl fun K hK w1 hw1 => ?_; go_simp; refine hK _ ?_; clear hK K  hw1 w1))
      refine x_nil ?_
      have he' := (he.trans (Ext.drew wr)).trans hwf
      clear hwf
      go_wp2
      go_roundw
      case rel => exact ⟨i + 1, by omega, by go_num, by go_num, he'⟩
      case measure => simp [intOf]; omega
    · obtain rfl : i = n := by omega
      go_wp2
      go_ret
      exact ⟨rfl, he⟩
theorem heldStringS_ok : HeldOk 45 (.sl .str) := by
  intro cs xs k w h hk0 hk
  have htl := tot_strs xs
  have hm : mkV (.sl .str) xs k = (marksS k xs.length, k + xs.length) := carry_str xs k
  rw [hm] at h
  obtain ⟨p, c, rfl, h2, h4, h5⟩ := rep_strs.1 h
  rw [length_marksS]
  unfold Held
  rw [hm]
  exact heldStringS_any p _ c k w (by omega) hk0 (by omega) h2
end Go.Proofs.Ytmcafdcabbighaa
