/- The harness's contracts, by shapes: copied, equal, measured, marked, held. -/
import Derived.Test.YtnlhahlegedlaaaF32
namespace Go.Proofs.Ytnlhahlegedlaaa
set_option linter.unusedSimpArgs false
set_option linter.unusedVariables false
open Go.RowKit

/-- How much a value holds. -/
def tot : (s : Sh) → s.T → Nat
  | .sl e, l => l.length + (l.map (tot e)).sum
  | .str, s => s.size
  | .pr a b, x => tot a x.1 + tot b x.2
  | _, _ => 0

/-- One after another, the number carried on. -/
def carry {A : Type} (f : A → Int → A × Int) : List A → Int → List A × Int
  | [], k => ([], k)
  | x :: xs, k => ((f x k).1 :: (carry f xs (f x k).2).1, (carry f xs (f x k).2).2)
/-- The decimal digits of a number, none of 0. -/
def digs (n : Nat) : List UInt8 := if n = 0 then [] else digs (n / 10) ++ [UInt8.ofNat (48 + n % 10)]
termination_by n
decreasing_by omega
/-- The text m and a number. -/
def markStr (k : Int) : ByteArray := if k ≤ 0 then ⟨#[109, 48]⟩ else ⟨(109 :: digs k.toNat).toArray⟩
/-- An element of a slice, marked from k on: what it becomes, and the next number. -/
def mkE : (s : Sh) → s.T → Int → s.T × Int
  | .int, _, k => (k, k + 1)
  | .flt, _, k => (FloatKind.f32.nearest k, k + 1)
  | .bool, _, k => (decide (k % 3 = 0), k + 1)
  | .str, _, k => (markStr k, k + 1)
  | .un, d, k => (d, k)
  | .sl e, l, k => carry (mkE e) l k
  | .pr a b, x, k => (((mkE a x.1 k).1, (mkE b x.2 (mkE a x.1 k).2).1), (mkE b x.2 (mkE a x.1 k).2).2)
/-- A value, marked: only what lies in slices. -/
def mkV : (s : Sh) → s.T → Int → s.T × Int
  | .sl e, l, k => carry (mkE e) l k
  | .pr a b, x, k => (((mkV a x.1 k).1, (mkV b x.2 (mkV a x.1 k).2).1), (mkV b x.2 (mkV a x.1 k).2).2)
  | _, d, k => (d, k)

/-- A struct's value is its cells; another one is one cell. -/
def Sh.agg : Sh → Bool
  | .pr _ _ => true
  | .un => true
  | _ => false
def ofCs (s : Sh) (cs : List Value) : Value := if s.agg then .agg cs.toArray else cs.headD undef
/-- No more than the harness lets through. -/
def most : Nat := 1048576

/-- A copy of its own is handed back. -/
def RetOwn (w : World) (s : Sh) (d : s.T) (e : Ending) (w' : World) : Prop :=
  ∃ cs bs, e = .returned (ofCs s cs) ∧ Own w' s cs d bs ∧ bs.Nodup ∧ (∀ b ∈ bs, w.heap.size ≤ b) ∧ Ext w w'
def RetTrue (w : World) (e : Ending) (w' : World) : Prop := e = .returned (.bool true) ∧ Ext w w'
/-- The value has been marked. -/
def Marked (w : World) (s : Sh) (cs : List Value) (d : s.T) (bs : List Nat) (k : Int) (e : Ending) (w' : World) : Prop :=
  e = .returned (.int .i64 (mkV s d k).2) ∧ Own w' s cs (mkV s d k).1 bs ∧ Chg (fun b => b ∈ bs) w w'
def Held (w : World) (s : Sh) (d : s.T) (k : Int) (e : Ending) (w' : World) : Prop := e = .returned (.int .i64 (mkV s d k).2) ∧ Ext w w'

def ToOk (f : Nat) (s : Sh) : Prop := ∀ (cs : List Value) (d : s.T) (w : World), Rep w s cs d → tot s d ≤ 1048576 → Calls Try.prog f #[ofCs s cs] w (RetOwn w s d)
def EqOk (f : Nat) (s : Sh) : Prop := ∀ (cs cs' : List Value) (d : s.T) (w : World), Rep w s cs d → Rep w s cs' d → tot s d ≤ 1048576 → Calls Try.prog f #[ofCs s cs, ofCs s cs'] w (RetTrue w)
def SzOk (f : Nat) (s : Sh) : Prop := ∀ (cs : List Value) (d : s.T) (left : Int) (w : World), Rep w s cs d → 0 ≤ left → left ≤ 1048576 → Calls Try.prog f #[ofCs s cs, .int .i64 left] w fun e w' => Left left (tot s d) e ∧ Ext w w'
def MarkOk (f : Nat) (s : Sh) : Prop := ∀ (cs : List Value) (d : s.T) (bs : List Nat) (k : Int) (w : World), Own w s cs d bs → bs.Nodup → 0 ≤ k → k + 64 * (tot s d : Int) ≤ 68719476736 → Calls Try.prog f #[ofCs s cs, .int .i64 k] w (Marked w s cs d bs k)
def HeldOk (f : Nat) (s : Sh) : Prop := ∀ (cs : List Value) (d : s.T) (k : Int) (w : World), Rep w s cs (mkV s d k).1 → 0 ≤ k → k + 64 * (tot s d : Int) ≤ 68719476736 → Calls Try.prog f #[ofCs s cs, .int .i64 k] w (Held w s d k)

theorem Own.keep {w : World} {s : Sh} {cs : List Value} {d : s.T} {bs : List Nat} (h : Own w s cs d bs) {B : Nat} (hb : ∀ b ∈ bs, B ≤ b) {a : Addr} (ha : a.block < B) (v : Value) : Own (w.setCell a v) s cs d bs :=
  h.chg (S := fun b => b = a.block) (show Chg _ w (w.setCell a v) from ⟨rfl, rfl, rfl, by simp [World.setCell], fun k hk hn => Below.heap_setCell _ _ _ _ hn⟩) (fun b hb' he => by have := hb b hb'; omega)
theorem Own.alloc {w : World} {s : Sh} {cs : List Value} {d : s.T} {bs : List Nat} (h : Own w s cs d bs) (o : Obj) : Own (w.alloc o) s cs d bs := h.ext (Ext.alloc w o)

theorem carry_flt (l : List Nat) : ∀ k, carry (mkE .flt) l k = (marksF k l.length, k + l.length) := by
  induction l with
  | nil => intro k; simp [carry, marksF]
  | cons x l ih =>
    intro k
    show (FloatKind.f32.nearest k :: (carry (mkE .flt) l (k + 1)).1, (carry (mkE .flt) l (k + 1)).2) = _
    rw [ih, List.length_cons]
    refine Prod.ext ?_ (by simp; omega)
    simp only [marksF, List.range_succ_eq_map, List.map_cons, List.map_map]
    congr 1
    · simp
    · apply List.map_congr_left; intro i _; simp; congr 1; omega
theorem rep_val {w : World} {e : Sh} {cs : List Value} {l : List e.T} (h : Rep w (.sl e) cs l) : ∃ p c, cs = [.slice p l.length c] ∧ l.length ≤ maxLen := by
  obtain ⟨p, c, _, h1, _, h3, h4, _⟩ := h; exact ⟨p, c, h1, Nat.le_trans h3 h4⟩

theorem tot_flts (xs : List Nat) : tot (.sl .flt) xs = xs.length := by
  have : ∀ l : List Nat, (l.map (tot .flt)).sum = 0 := fun l => by induction l with | nil => rfl | cons x l ih => simpa [tot] using ih
  show xs.length + (xs.map (tot .flt)).sum = _
  rw [this]; rfl

theorem toFloat32S_ok : ToOk 35 (.sl .flt) := by
  intro cs xs w h hn
  rw [tot_flts] at hn
  obtain ⟨p, c, vs, rfl, h2, h3, h4, h5⟩ := rep_flts.1 h
  refine (toFloat32S_any p _ c vs xs w rfl (by omega) h2 h3).mono ?_
  rintro e w' ⟨g, rfl, own, he⟩
  exact ⟨_, [g], rfl, own_flts.2 ⟨_, _, vs, rfl, ownRow_of own, h3, (own_cap own).1, (own_cap own).2, rfl⟩, by simp, by simpa using own_le own g rfl, he⟩
theorem eqFloat32S_ok : EqOk 37 (.sl .flt) := by
  intro cs cs' xs w hu hv hn
  rw [tot_flts] at hn
  obtain ⟨p, c, us, rfl, h2, h3, h4, h5⟩ := rep_flts.1 hu
  obtain ⟨q, d, vs, rfl, g2, g3, g4, g5⟩ := rep_flts.1 hv
  exact eqFloat32S_true p q _ c d us vs xs w rfl (by omega) h2 g2 h3 g3
theorem szFloat32S_ok : SzOk 105 (.sl .flt) := by
  intro cs xs left w h h0 h1
  obtain ⟨p, c, rfl, hl⟩ := rep_val h
  rw [tot_flts]
  exact szFloat32S_any p _ c left w hl h0 h1
theorem markFloat32S_ok : MarkOk 40 (.sl .flt) := by
  intro cs xs bs k w h _ hk0 hk
  rw [tot_flts] at hk
  obtain ⟨p, c, vs, rfl, h2, h3, h4, h5, rfl⟩ := own_flts.1 h
  refine (markFloat32S_own p _ c k vs w h3.1 (by omega) hk0 (by omega) h2).mono ?_
  rintro e w' ⟨rfl, own, hch⟩
  have hm : mkV (.sl .flt) xs k = (marksF k xs.length, k + xs.length) := carry_flt xs k
  refine ⟨by rw [hm], ?_, hch⟩
  rw [hm]
  exact own_flts.2 ⟨p, c, _, by rw [length_marksF], by rw [length_marksF]; exact own, markVs_flts k _, by rw [length_marksF]; exact h4, h5, rfl⟩
theorem heldFloat32S_ok : HeldOk 41 (.sl .flt) := by
  intro cs xs k w h hk0 hk
  rw [tot_flts] at hk
  have hm : mkV (.sl .flt) xs k = (marksF k xs.length, k + xs.length) := carry_flt xs k
  rw [hm] at h
  obtain ⟨p, c, vs, rfl, h2, h3, h4, h5⟩ := rep_flts.1 h
  rw [length_marksF]
  unfold Held
  rw [hm]
  exact heldFloat32S_any p _ c k vs w (by omega) hk0 (by omega) h2 h3

theorem Ext.cellOf {W w1 : World} (h : Ext W w1) {b : Nat} (hb : b < W.heap.size) : (∀ o, w1.cell? ⟨b, o, none⟩ = W.cell? ⟨b, o, none⟩) ∧ (∀ o, w1.frozen? ⟨b, o, none⟩ = W.frozen? ⟨b, o, none⟩) :=
  ⟨fun o => World.cell?_of_block (h.block b hb), fun o => World.frozen?_of_block (h.block b hb)⟩
theorem Chg.cellOf {S : Nat → Prop} {W w1 : World} (h : Chg S W w1) {b : Nat} (hb : b < W.heap.size) (hn : ¬ S b) : (∀ o, w1.cell? ⟨b, o, none⟩ = W.cell? ⟨b, o, none⟩) ∧ (∀ o, w1.frozen? ⟨b, o, none⟩ = W.frozen? ⟨b, o, none⟩) :=
  ⟨fun o => World.cell?_of_block (h.block b hb hn), fun o => World.frozen?_of_block (h.block b hb hn)⟩
theorem Chg.setCell {S : Nat → Prop} {w0 w : World} (h : Chg S w0 w) {p : Addr} (hp : S p.block) (u : Value) : Chg S w0 (w.setCell p u) :=
  h.trans ⟨rfl, rfl, rfl, by simp [World.setCell], fun k hk hn => Below.heap_setCell _ _ _ _ (fun he => hn (he ▸ hp))⟩
theorem Chg.alloc {S : Nat → Prop} {w0 w : World} (h : Chg S w0 w) (o : Obj) : Chg S w0 (w.alloc o) := h.trans (.of_ext (Ext.alloc w o))
theorem Chg.drew {S : Nat → Prop} {w0 w : World} (h : Chg S w0 w) : Chg S w0 w.drew := h.trans (.of_ext (Ext.drew w))
theorem nodup_app2 {a b : List Nat} (B : Nat) (h1 : a.Nodup) (h2 : b.Nodup) (l1 : ∀ x ∈ a, x < B) (l2 : ∀ x ∈ b, B ≤ x) : (a ++ b).Nodup := by
  rw [List.nodup_append]
  exact ⟨h1, h2, fun x hx y hy h => by have := l1 x hx; have := l2 y hy; omega⟩
end Go.Proofs.Ytnlhahlegedlaaa
