/- Numbers that are drawn: what a source gives. -/
import Derived.Test.YtlimabbeaimdgaaDr
import Derived.Test.YtlimabbeaimdgaaKb
import Derived.Test.YtlimabbeaimdgaaSrc3
namespace Go.Proofs.Ytlimabbeaimdgaa
set_option linter.unusedSimpArgs false
set_option linter.unusedVariables false
open Go.RowKit

theorem word_lt (s : Bool) {r : Nat} (hr : r ≤ (Ieee.single).infRung) : (Ieee.single).word s r < 4294967296 := by
  have h1 : (Ieee.single).infRung = 2139095040 := by decide
  have h2 : (Ieee.single).signWeight = 2147483648 := by decide
  unfold Ieee.Format.word
  split <;> omega
theorem write_lt {d : Ieee.Datum} (h : d.isNaN = false) : (Ieee.single).write d < 4294967296 := by
  cases d with
  | nan s t => simp [Ieee.Datum.isNaN] at h
  | infinity s => exact word_lt s (Nat.le_refl _)
  | number s m e =>
    show (Ieee.single).nearest s m e < 4294967296
    unfold Ieee.Format.nearest
    dsimp only
    split
    · exact word_lt s (Nat.zero_le _)
    · exact word_lt s (Nat.min_le_right _ _)
theorem map_lt {d : Option Ieee.Datum} (hd : ∀ x, d = some x → x.isNaN = false) {r : Nat} (h : d.map (Ieee.single).write = some r) : r < 4294967296 := by
  cases d with
  | none => cases h
  | some x => cases h; exact write_lt (hd x rfl)
theorem fop_lt (op : BinOp) (x y : Nat) : fop op .f32 x y < 4294967296 := by
  unfold fop
  cases h : floatBits op .f32 x y with
  | none => decide
  | some r =>
    show r < 4294967296
    unfold floatBits at h
    split at h
    · exact map_lt (fun z hz => sum_not hz) h
    · exact map_lt (fun z hz => sum_not hz) h
    · exact map_lt (fun z hz => product_not hz) h
    · exact map_lt (fun z hz => quotient_not hz) h
    · cases h
theorem nearest_lt (n : Int) : FloatKind.f32.nearest n < 4294967296 := write_lt (d := .number (n < 0) n.natAbs 0) rfl
theorem cn_lt {b : Nat} (h : b < 4294967296) : cn .f32 b < 4294967296 := by
  unfold cn; split
  · decide
  · exact h
theorem wrap_u32_bd (x : Int) : 0 ≤ IntKind.u32.wrap x ∧ IntKind.u32.wrap x < 4294967296 := by
  rw [IntKind.wrap_u32]; omega
/-- A list of bytes. -/
def u8s (bs : List Nat) : List Value := bs.map fun (b : Nat) => Value.int .u8 (b : Int)
set_option maxRecDepth 100000 in
set_option maxHeartbeats 1000000 in
theorem l00From_any (p : Option Addr) (n c : Nat) (bs : List Nat) (w : World) (hc : Cs w p (u8s bs)) (hl : bs.length = n) (hn : n ≤ 1048576) (hb : ∀ b ∈ bs, b < 256) :
    Calls Try.prog 78 #[.slice p n c] w fun e w' => e = .returned (.pointer (some ⟨w.heap.size, 0, none⟩)) ∧ DrAt w' w.heap.size 0 ∧ Ext w w' := by
  have hlt : u8s bs ≠ [] → ∀ a, p = some a → a.block < w.heap.size := by
    intro hne a ha
    subst ha
    have := hc.blk hne
    have ha : (adr (some a) 0).block = a.block := by rw [adr_some]; unfold Addr.add; split <;> rfl
    rw [ha] at this; exact this
  go_enter Try.func78, Try.ntmps78
  go_wp2
  go_ret
  have e0 := Ext.alloc w (.cells #[.slice p n c, .int .i64 0, .int .u64 0] 182)
  exact ⟨rfl, ⟨p, n, c, 0, 0, bs, HB.new w _ _, hc.ext e0, hl, hn, hb, Nat.le_refl _, by decide, by decide, hlt⟩, e0⟩
set_option maxRecDepth 100000 in
set_option maxHeartbeats 1000000 in
theorem drOne_any (sb K : Nat) (m : Int) (w : World) (h : DrAt w sb K) (hK : K ≤ 900000000) (hm : m ≤ 1000000) : Calls Try.prog 137 #[.pointer (some ⟨sb, 0, none⟩), .int .i64 m] w fun e w' => ∃ b : Bool, e = .returned (.bool b) ∧ DrAt w' sb (K + 2) ∧ Chg (fun k => k = sb) w w' := by
  go_enter Try.func137, Try.ntmps137
  go_wp2_with fail
  refine (drPick_any sb K m w h hK hm).mono ?_
  rintro e w1 ⟨x, rfl, hx, hx2, s1, c1⟩
  have S1 := hid s1
  clear s1
  go_wp2
  go_ret
  exact ⟨_, rfl, S1.out, c1⟩
set_option maxRecDepth 100000 in
set_option maxHeartbeats 1000000 in
theorem drAmong_any (sb K : Nat) (p : Option Addr) (n c : Nat) (zs : List Int) (w : World) (h : DrAt w sb K) (hK : K ≤ 900000000) (hc : Cs w p (zs.map (Value.int .i64))) (hl : zs.length = n) (h1 : 1 ≤ n) (hn : n ≤ 1000) (hp : ∀ a, p = some a → sb < a.block) :
    Calls Try.prog 151 #[.pointer (some ⟨sb, 0, none⟩), .slice p n c] w fun e w' => ∃ z : Int, z ∈ zs ∧ e = .returned (.int .i64 z) ∧ DrAt w' sb (K + 2) ∧ Chg (fun k => k = sb) w w' := by
  have hlen : (zs.map (Value.int .i64)).length = n := by simp [hl]
  go_enter Try.func151, Try.ntmps151
  go_wp2_with fail
  refine (drPick_any sb K n w h hK (by omega)).mono ?_
  rintro e w1 ⟨x, rfl, hx, hx2, s1, c1⟩
  have S1 := hid s1
  have hxn : x < n := by have := hx (by omega); omega
  have hcs : Cs w1 p (zs.map (Value.int .i64)) := hc.keep fun hne => by
    have hp1 := hc.isS hne
    obtain ⟨q, rfl⟩ := Option.isSome_iff_exists.1 hp1
    have hb := hp q rfl
    have hbl := hc.blk hne
    have ha : (adr (some q) 0).block = q.block := by rw [adr_some]; unfold Addr.add; split <;> rfl
    rw [ha] at hbl ⊢
    exact c1.block _ hbl (by omega)
  have hxz : x < zs.length := by omega
  have hv : (zs.map (Value.int .i64))[x]? = some (.int .i64 zs[x]) := by simp [hxz]
  have hmem : zs[x] ∈ zs := by simp
  generalize zs[x] = z at *
  have Hv := hid hv
  have Hl := hid hlen
  clear s1 hx hv hlen hl
  go_wp2_with ((with_reducible show wpList _ _ _ (Oper.mk _ (Op.indexAddr _ _ _) _ _ _ _ :: Oper.mk _ (Op.load _ _) _ _ _ _ :: _) _ _); refine wl_idxload rfl rfl rfl rfl (fun _ => rfl) rfl rfl hcs Hl.out (by omega) (by omega) ?_; intro u hu; rw [Int.toNat_natCast, Hv.out] at hu; cases hu)
  go_ret
  exact ⟨z, hmem, rfl, S1.out, c1⟩
/-- A number that was drawn. -/
def GotF (sb K : Nat) (w : World) (e : Ending) (w' : World) : Prop := ∃ b : Nat, e = .returned (.float .f32 b) ∧ cn .f32 b < 4294967296 ∧ DrAt w' sb K ∧ Chg (fun k => k = sb) w w'
set_option maxRecDepth 100000 in
set_option maxHeartbeats 1000000 in
theorem drPlain_any (sb K : Nat) (w : World) (h : DrAt w sb K) (hK : K ≤ 800000000) : Calls Try.prog 139 #[.pointer (some ⟨sb, 0, none⟩)] w (GotF sb (K + 4) w) := by
  go_enter Try.func139, Try.ntmps139
  go_wp2_with fail
  refine (drPick_any sb K 129 w h (by omega) (by omega)).mono ?_
  rintro e w1 ⟨x, rfl, hx, hx2, s1, c1⟩
  have S1 := hid s1
  clear s1
  go_wp2_with fail
  refine (drOne_any sb (K + 2) 4 w1 S1.out (by omega) (by omega)).mono ?_
  rintro e w2 ⟨b, rfl, s2, c2⟩
  have S2 := hid s2
  clear s2
  cases b
  · go_wp2_with ((with_reducible show wpList _ _ _ (Oper.mk _ (Op.binOp _ _ _ _ _) _ _ _ _ :: _) _ _); refine wl_fop rfl rfl rfl rfl rfl ?_; intro r0 w0 e0 g0; have G0 := hid g0; clear g0)
    go_ret
    exact ⟨_, rfl, by rw [G0.out]; exact fop_lt _ _ _, S2.out.ext e0, (c1.trans c2).trans (.of_ext e0)⟩
  · go_wp2_with ((with_reducible show wpList _ _ _ (Oper.mk _ (Op.binOp _ _ _ _ _) _ _ _ _ :: _) _ _); refine wl_fop rfl rfl rfl rfl rfl ?_; intro r0 w0 e0 g0; have G0 := hid g0; clear g0)
    go_ret
    exact ⟨_, rfl, by rw [G0.out]; exact fop_lt _ _ _, S2.out.ext e0, (c1.trans c2).trans (.of_ext e0)⟩
theorem l01From_any (n : Int) (w : World) : Calls Try.prog 181 #[.int .i64 n] w fun e w' => (∃ b : Nat, e = .returned (.float .f32 b) ∧ cn .f32 b < 4294967296) ∧ Ext w w' := by
  have hxf := fun k => run_f32from k
  have hbd := wrap_u32_bd n
  go_enter Try.func181, Try.ntmps181
  go_wp2
  go_ret
  exact ⟨⟨_, rfl, cn_lt (by omega)⟩, Ext.refl _⟩
end Go.Proofs.Ytlimabbeaimdgaa
