/- BatchOf of the program and of the reference. -/
import Derived.Test.YtmcafdcabbighaaShufLaw
import Derived.Test.YtmcafdcabbighaaMem2
import Derived.Test.YtmcafdcabbighaaSh
namespace Go.Proofs.Ytmcafdcabbighaa
set_option linter.unusedSimpArgs false
set_option linter.unusedVariables false
open Go.RowKit

theorem int_cells (xs : List Int) : ∀ u ∈ xs.map (Value.int .i64), u.oneCell' = true := by
  intro u hu; obtain ⟨y, _, rfl⟩ := List.mem_map.1 hu; rfl

set_option maxRecDepth 100000 in
set_option maxHeartbeats 1000000 in
theorem clone_any (p : Option Addr) (n c : Nat) (xs : List Int) (w : World) (hx : xs.length = n) (hn : n ≤ 1048576) (hc : Cs w p (xs.map (Value.int .i64))) (hnc : n ≤ c) (hp : p.isSome = true) :
    Calls Try.prog 77 #[.slice p n c] w fun e w' => ∃ q d, e = .returned (.slice q n d) ∧ w'.ownsRow w.heap.size 2 1 (.slice q n d) n (xs.map (Value.int .i64)) ∧ Ext w w' := by
  obtain ⟨ad, rfl⟩ := Option.isSome_iff_exists.1 hp
  have hstart : (w.alloc (.cells #[] 2)).ownsRow w.heap.size 2 1 (.slice (some ⟨w.heap.size, 0, none⟩) 0 0) 0 [] := World.ownsRow_made w #[] 0 (Nat.le_refl _) (by decide) rfl
  have hc' := hc.ext (Ext.alloc w (.cells #[] 2))
  have e0 := Ext.alloc w (.cells #[] 2)
  go_enter Try.func77, Try.ntmps77
  go_wp2_with (refine wl_appn (B := w.heap.size) rfl rfl rfl rfl hstart hc' (by simp [hx]) hnc (int_cells xs) (by simp) (by unfold maxLen; omega) (by omega) (by simp) ?_; intro v' w1 own1 g1)


  rw [List.nil_append, Nat.zero_add] at own1
  have e1 := e0.grown g1 (fun j hj => by cases hj; exact Nat.le_refl _)
  go_ret
  obtain ⟨hl, h⟩ := own1
  rcases h with ⟨rfl, rfl⟩ | ⟨g, cap, cur, rfl, r⟩
  · exact ⟨none, 0, rfl, ⟨hl, .inl ⟨rfl, rfl⟩⟩, e1⟩
  · exact ⟨some ⟨g, 0, none⟩, cap, rfl, ⟨hl, .inr ⟨g, cap, cur, rfl, r⟩⟩, e1⟩

theorem own_isSome {w : World} {B e s n c : Nat} {p : Option Addr} {vs : List Value} (h : w.ownsRow B e s (.slice p n c) n vs) (hn : 0 < n) : p.isSome = true := by
  obtain ⟨g, rfl⟩ := own_some h hn; rfl
set_option maxRecDepth 100000 in
set_option maxHeartbeats 1000000 in
theorem l00Own_any (p : Option Addr) (n c : Nat) (xs : List Int) (w : World) (hx : xs.length = n) (hn : n ≤ 1048576) (hc : Cs w p (xs.map (Value.int .i64))) (hnc : n ≤ c) (hp : p.isSome = true) :
    Calls Try.prog 101 #[.slice p n c] w fun e w' => ∃ q d, e = .returned (.slice q n d) ∧ w'.ownsRow w.heap.size 2 1 (.slice q n d) n (xs.map (Value.int .i64)) ∧ Ext w w' := by
  obtain ⟨ad, rfl⟩ := Option.isSome_iff_exists.1 hp
  have hstart : (w.alloc (.cells #[] 2)).ownsRow w.heap.size 2 1 (.slice (some ⟨w.heap.size, 0, none⟩) 0 0) 0 [] := World.ownsRow_made w #[] 0 (Nat.le_refl _) (by decide) rfl
  have hc' := hc.ext (Ext.alloc w (.cells #[] 2))
  have e0 := Ext.alloc w (.cells #[] 2)
  go_enter Try.func101, Try.ntmps101
  go_wp2_with (refine wl_appn (B := w.heap.size) rfl rfl rfl rfl hstart hc' (by simp [hx]) hnc (int_cells xs) (by simp) (by unfold maxLen; omega) (by omega) (by simp) ?_; intro v' w1 own1 g1)
  rw [List.nil_append, Nat.zero_add] at own1
  have e1 := e0.grown g1 (fun j hj => by cases hj; exact Nat.le_refl _)
  go_ret
  obtain ⟨hl, h⟩ := own1
  rcases h with ⟨rfl, rfl⟩ | ⟨g, cap, cur, rfl, r⟩
  · exact ⟨none, 0, rfl, ⟨hl, .inl ⟨rfl, rfl⟩⟩, e1⟩
  · exact ⟨some ⟨g, 0, none⟩, cap, rfl, ⟨hl, .inr ⟨g, cap, cur, rfl, r⟩⟩, e1⟩

set_option maxRecDepth 100000 in
set_option maxHeartbeats 1000000 in
theorem l00Min_any (n b : Int) (w : World) : Calls Try.prog 102 #[.int .i64 n, .int .i64 b] w fun e w' => e = .returned (.int .i64 (min n b)) ∧ w = w' := by
  by_cases h : n < b
  · go_enter Try.func102, Try.ntmps102
    go_wp2
    go_ret
    exact ⟨ret_int (by omega), rfl⟩
  · go_enter Try.func102, Try.ntmps102
    go_wp2
    go_ret
    exact ⟨ret_int (by omega), rfl⟩

/-- How many batches; where one begins; its rows. -/
def batK (n b : Nat) : Nat := (n + b - 1) / b
def batF (n b st : Nat) : Nat := st % batK n b * b
def batS (n b : Nat) (s : Int) (st : Nat) : Int := nxt ((s + 7919 * ((st / batK n b : Nat) : Int)) % 2147483648)
def batXs (n b : Nat) (s : Int) (st : Nat) : List Int := ((shuf n (batS n b s st)).1.take (min (batF n b st + b) n)).drop (batF n b st)
theorem bat_facts {n b st : Nat} (hn : 1 ≤ n) (hn' : n ≤ 16) (hb : 1 ≤ b) (hb' : b ≤ 16) (hs : st ≤ 1000) : 1 ≤ batK n b ∧ batK n b ≤ 31 ∧ batF n b st < n ∧ st / batK n b ≤ 1000 ∧ st % batK n b ≤ 1000 := by
  have h1 : 1 ≤ batK n b := by unfold batK; exact (Nat.le_div_iff_mul_le (by omega)).2 (by omega)
  have h2 : batK n b * b ≤ n + b - 1 := Nat.div_mul_le_self _ _
  have h3 : batK n b ≤ 31 := Nat.le_trans (Nat.div_le_self _ _) (by omega)
  have h4 : st % batK n b < batK n b := Nat.mod_lt _ h1
  refine ⟨h1, h3, ?_, Nat.le_trans (Nat.div_le_self _ _) hs, by omega⟩
  unfold batF
  have h5 : (st % batK n b + 1) * b ≤ batK n b * b := Nat.mul_le_mul_right b h4
  rw [Nat.add_mul, Nat.one_mul] at h5
  omega

end Go.Proofs.Ytmcafdcabbighaa
