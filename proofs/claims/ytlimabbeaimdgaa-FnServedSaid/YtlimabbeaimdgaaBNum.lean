/- BytesNumbers of the program and of the reference. -/
import Derived.Test.YtlimabbeaimdgaaSrc3
namespace Go.Proofs.Ytlimabbeaimdgaa.lBytesNumbers
set_option linter.unusedSimpArgs false
set_option linter.unusedVariables false
open Go.RowKit

set_option maxRecDepth 100000 in
set_option maxHeartbeats 1000000 in
theorem l01From_any (r : Nat) (w : World) (hr : r < 4294967296) : Calls Try.prog 181 #[.int .i64 r] w fun e w' => e = .returned (.float .f32 r) ∧ w = w' := by
  have hxf := run_f32from (r : Int)
  rw [Int.toNat_natCast] at hxf
  go_enter Try.func181, Try.ntmps181
  go_wp2
  go_ret
  exact ⟨rfl, rfl⟩
def lst (s : ByteArray) : List UInt8 := s.data.toList
theorem lst_eq (s : ByteArray) : (⟨(lst s).toArray⟩ : ByteArray) = s := by unfold lst; simp
def res (s : ByteArray) : List Nat × Bool :=
  if (lst s).length ≤ 16384 ∧ bytesOf (numsF (lst s) ((lst s).length / 4)) = lst s then (numsF (lst s) ((lst s).length / 4), true) else ([], false)
theorem res_bd (s : ByteArray) (_ : Fit .str s) : tot (.sl .flt) (res s).1 ≤ 1048576 := by
  rw [tot_flts]
  unfold res
  split
  · rename_i h
    show (numsF (lst s) ((lst s).length / 4)).length ≤ 1048576
    rw [numsF_len]
    have := h.1
    omega
  · simp
theorem own_outN {w0 w w' : World} {q : Option Addr} {c : Nat} {xs : List Nat} {vs : List Value} {e : Ending} (h : w'.ownsRow w0.heap.size 49 1 (.slice q xs.length c) xs.length vs) (hf : F32s vs xs) (he : e = .returned (.tuple #[.slice q xs.length c, .bool true])) (hx : Ext w w') (hs : w.heap.size ≤ w0.heap.size) : OutOk w (.sl .flt) (xs, true) e w' := by
  have h1 := own_flts.2 ⟨q, c, vs, rfl, ownRow_of h, hf, (own_cap h).1, (own_cap h).2, rfl⟩
  refine ⟨[.slice q xs.length c], _, he, h1, ?_, ?_, hx⟩
  · cases q <;> simp [blocksOf]
  · intro b hb
    cases q with
    | none => simp [blocksOf] at hb
    | some a => simp [blocksOf] at hb; subst hb; exact Nat.le_trans hs (own_le h _ rfl)

theorem own_formN {w : World} {B e s n : Nat} {v : Value} {vs : List Value} (h : w.ownsRow B e s v n vs) : ∃ q c, v = .slice q n c := by
  rcases h.2 with ⟨h1, h2⟩ | ⟨g, cap, cur, h1, _⟩
  · exact ⟨none, 0, by rw [h1, h2]⟩
  · exact ⟨_, _, h1⟩
def resL (l : List UInt8) : List Nat × Bool :=
  if l.length ≤ 16384 ∧ bytesOf (numsF l (l.length / 4)) = l then (numsF l (l.length / 4), true) else ([], false)
set_option maxRecDepth 100000 in
set_option maxHeartbeats 4000000 in
theorem impl_l (l : List UInt8) (w : World) (hl : l.length ≤ 9223372036854775807) : Calls Try.prog 30 #[.string ⟨l.toArray⟩] w (OutOk w (.sl .flt) (resL l)) := by
  have hz := ba_size l
  unfold resL
  have hmod : Int.tmod (l.length : Int) 4 = ((l.length % 4 : Nat) : Int) := by rw [Int.tmod_eq_emod_of_nonneg (by omega)]; omega
  have hdiv : Int.tdiv (l.length : Int) 4 = ((l.length / 4 : Nat) : Int) := by rw [Int.tdiv_eq_ediv_of_nonneg (by omega)]; omega
  by_cases h0 : l.length % 4 = 0
  rotate_left 1
  · have hbl := bytesOf_length (numsF l (l.length / 4))
    rw [numsF_len] at hbl
    rw [if_neg (fun h => by have := h.2; rw [this] at hbl; omega)]
    clear hbl
    go_enter Try.func30, Try.ntmps30
    go_wp2
    go_ret2
    exact outOk_no rfl (Ext.refl _)
  by_cases h1 : l.length ≤ 16384
  rotate_left 1
  · rw [if_neg (fun h => h1 h.1)]
    go_enter Try.func30, Try.ntmps30
    go_wp2
    go_ret2
    exact outOk_no rfl (Ext.refl _)
  have hle : l.length / 4 ≤ 4096 := by omega
  have C := hid (fun W (h : SrcAt W w.heap.size l false) => list_any w.heap.size l (l.length / 4) W h (by omega) hle)
  have hlen := numsF_len l (l.length / 4)
  generalize numsF l (l.length / 4) = X at *
  generalize hm : l.length / 4 = m at *
  have hle2 : X.length ≤ 4096 := by omega
  clear hlen
  have hsrc : SrcAt (w.alloc (.cells #[.string ⟨l.toArray⟩, .bool false] 134)) w.heap.size l false := heap_alloc_new _ _
  have E0 := Ext.alloc w (.cells #[.string ⟨l.toArray⟩, .bool false] 134)
  by_cases h2 : bytesOf X = l
  · rw [if_pos ⟨h1, h2⟩]
    have hq : (bytesOf X == l) = true := beq_iff_eq.2 h2
    clear h2
    go_enter Try.func30, Try.ntmps30
    go_wp2_with fail
    refine (C.out _ hsrc).mono ?_
    rintro e w1 ⟨⟨q, c, vs, rfl, own1, hf⟩, c1⟩
    have e1 : Ext w w1 := E0.chg c1 (fun k hk => by omega)
    go_wp2_with fail
    refine (numbers_any (.slice none 0 0) 0 w1.heap.size [] q X.length c vs X w1 (Nat.le_refl _) (World.ownsRow_nil _ _ _ _) rfl (by omega) (own_Cs own1) hf (fun hne => (own_Cs own1).blk hne)).mono ?_
    rintro e w2 ⟨v1, rfl, o1, c2, b1⟩
    rw [Nat.zero_add, List.nil_append] at o1
    have e2 : Ext w1 w2 := (Ext.refl w1).chg c2 (fun b hb => by cases hb)
    obtain ⟨q2, cq2, rfl⟩ := own_formN o1
    have own2 := own_ext own1 e2
    go_wp2_with (refine wl_bytesStr rfl rfl rfl (own_Cs o1) rfl ?_)
    go_ret2
    exact own_outN own2 hf rfl (e1.trans e2) E0.size
  · rw [if_neg (fun h => h2 h.2)]
    have hq : (bytesOf X == l) = false := beq_eq_false_iff_ne.2 h2
    go_enter Try.func30, Try.ntmps30
    go_wp2_with fail
    refine (C.out _ hsrc).mono ?_
    rintro e w1 ⟨⟨q, c, vs, rfl, own1, hf⟩, c1⟩
    have e1 : Ext w w1 := E0.chg c1 (fun k hk => by omega)
    go_wp2_with fail
    refine (numbers_any (.slice none 0 0) 0 w1.heap.size [] q X.length c vs X w1 (Nat.le_refl _) (World.ownsRow_nil _ _ _ _) rfl (by omega) (own_Cs own1) hf (fun hne => (own_Cs own1).blk hne)).mono ?_
    rintro e w2 ⟨v1, rfl, o1, c2, b1⟩
    rw [Nat.zero_add, List.nil_append] at o1
    have e2 : Ext w1 w2 := (Ext.refl w1).chg c2 (fun b hb => by cases hb)
    obtain ⟨q2, cq2, rfl⟩ := own_formN o1
    have own2 := own_ext own1 e2
    go_wp2_with (refine wl_bytesStr rfl rfl rfl (own_Cs o1) rfl ?_)
    go_ret2
    exact outOk_no rfl (e1.trans e2)
theorem res_l (s : ByteArray) : res s = resL (lst s) := rfl
theorem impl_ok (D0 : ByteArray) (w : World) (f0 : Fit .str D0) : Calls Try.prog 30 #[.string D0] w (OutOk w (.sl .flt) (res D0)) := by
  have f1 : D0.size ≤ maxLen := f0
  unfold maxLen at f1
  have h := impl_l (lst D0) w (by rw [← ba_size, lst_eq]; omega)
  rw [lst_eq] at h
  exact h
end Go.Proofs.Ytlimabbeaimdgaa.lBytesNumbers
