/- Data in memory by their shapes: what is read, what is owned, what a change may touch. -/
import Derived.Test.YtnlhahlegedlaaaStep
namespace Go.Proofs.Ytnlhahlegedlaaa
set_option linter.unusedSimpArgs false
set_option linter.unusedVariables false
open Go.RowKit

/-- Shapes of data: a struct is a chain of pairs. -/
inductive Sh where
  | int | flt | bool | str | un
  | sl (e : Sh)
  | pr (a b : Sh)
abbrev Sh.T : Sh → Type
  | .int => Int
  | .flt => Nat
  | .bool => Bool
  | .str => ByteArray
  | .un => Unit
  | .sl e => List e.T
  | .pr a b => a.T × b.T
def Sh.sz : Sh → Nat
  | .un => 0
  | .pr a b => a.sz + b.sz
  | _ => 1

/-- Element by element. -/
inductive All2 {A B : Type} (R : A → B → Prop) : List A → List B → Prop
  | nil : All2 R [] []
  | cons {a b us bs} : R a b → All2 R us bs → All2 R (a :: us) (b :: bs)
theorem All2.length {A B : Type} {R : A → B → Prop} {us : List A} {bs : List B} (h : All2 R us bs) : us.length = bs.length := by
  induction h with
  | nil => rfl
  | cons _ _ ih => simp [ih]
theorem All2.imp {A B : Type} {R S : A → B → Prop} {us : List A} {bs : List B} (h : All2 R us bs) (hi : ∀ a b, R a b → S a b) : All2 S us bs := by
  induction h with
  | nil => exact .nil
  | cons h _ ih => exact .cons (hi _ _ h) ih
theorem All2.get {A B : Type} {R : A → B → Prop} {us : List A} {bs : List B} (h : All2 R us bs) : ∀ (i : Nat) (b : B), bs[i]? = some b → ∃ a, us[i]? = some a ∧ R a b := by
  induction h with
  | nil => intro i b hb; simp at hb
  | cons h _ ih =>
    intro i b hb
    cases i with
    | zero => simp at hb; subst hb; exact ⟨_, rfl, h⟩
    | succ i => simpa using ih i b (by simpa using hb)
theorem All2.get' {A B : Type} {R : A → B → Prop} {us : List A} {bs : List B} (h : All2 R us bs) (i : Nat) (hi : i < bs.length) : ∃ (h1 : i < us.length), R us[i] bs[i] := by
  obtain ⟨a, h1, h2⟩ := h.get i bs[i] (by simp [hi])
  obtain ⟨h3, h4⟩ := List.getElem?_eq_some_iff.1 h1
  exact ⟨h3, by rw [h4]; exact h2⟩
theorem All2.append {A B : Type} {R : A → B → Prop} {us us' : List A} {bs bs' : List B} (h : All2 R us bs) (h' : All2 R us' bs') : All2 R (us ++ us') (bs ++ bs') := by
  induction h with
  | nil => exact h'
  | cons h _ ih => exact .cons h ih
theorem All2.of_get {A B : Type} {R : A → B → Prop} : ∀ {us : List A} {bs : List B}, us.length = bs.length → (∀ (i : Nat) (a : A) (b : B), us[i]? = some a → bs[i]? = some b → R a b) → All2 R us bs
  | [], [], _, _ => .nil
  | [], _ :: _, h, _ => by simp at h
  | _ :: _, [], h, _ => by simp at h
  | a :: us, b :: bs, h, hr => .cons (hr 0 a b rfl rfl) (All2.of_get (by simpa using h) fun i a' b' h1 h2 => hr (i + 1) a' b' (by simpa using h1) (by simpa using h2))

/-- What cells read us. -/
def Rep (w : World) : (s : Sh) → List Value → s.T → Prop
  | .int, cs, n => cs = [.int .i64 n]
  | .flt, cs, x => ∃ b, cs = [.float .f32 b] ∧ cn .f32 b = x
  | .bool, cs, b => cs = [.bool b]
  | .str, cs, s => cs = [.string s]
  | .un, cs, _ => cs = []
  | .sl e, cs, l => ∃ p c css, cs = [.slice p l.length c] ∧ Cs w p (List.flatten css) ∧ l.length ≤ c ∧ c ≤ maxLen ∧ All2 (Rep w e) css l
  | .pr a b, cs, x => ∃ ca cb, cs = ca ++ cb ∧ Rep w a ca x.1 ∧ Rep w b cb x.2

theorem Rep.ext {w w' : World} (h : Ext w w') : ∀ {s : Sh} {cs : List Value} {d : s.T}, Rep w s cs d → Rep w' s cs d
  | .int, _, _, r => r
  | .flt, _, _, r => r
  | .bool, _, _, r => r
  | .str, _, _, r => r
  | .un, _, _, r => r
  | .sl e, _, _, ⟨p, c, css, h1, h2, h3, h4, h5⟩ => ⟨p, c, css, h1, h2.ext h, h3, h4, h5.imp fun _ _ => Rep.ext h (s := e)⟩
  | .pr _ _, _, _, ⟨ca, cb, h1, h2, h3⟩ => ⟨ca, cb, h1, Rep.ext h h2, Rep.ext h h3⟩

theorem Rep.size {w : World} : ∀ {s : Sh} {cs : List Value} {d : s.T}, Rep w s cs d → cs.length = s.sz
  | .int, _, _, r => by cases r; rfl
  | .flt, _, _, ⟨_, r, _⟩ => by cases r; rfl
  | .bool, _, _, r => by cases r; rfl
  | .str, _, _, r => by cases r; rfl
  | .un, _, _, r => by cases r; rfl
  | .sl e, _, _, ⟨p, c, css, h1, _⟩ => by cases h1; rfl
  | .pr a b, _, _, ⟨ca, cb, h1, h2, h3⟩ => by rw [h1, List.length_append, h2.size, h3.size]; rfl

/-- A row of the call's own, whoever made it: its block, and its cells. -/
def OwnRow (w : World) (p : Option Addr) (n c : Nat) (vs : List Value) : Prop :=
  (p = none ∧ n = 0 ∧ c = 0 ∧ vs = []) ∨ ∃ g cur e, p = some ⟨g, 0, none⟩ ∧ w.heap[g]? = some (.cells cur e (0, 0)) ∧ cur.toList.take vs.length = vs
def blocksOf : Option Addr → List Nat
  | none => []
  | some a => [a.block]

/-- What cells read us, and the blocks behind them, which are the reader's own. -/
def Own (w : World) : (s : Sh) → List Value → s.T → List Nat → Prop
  | .int, cs, n, bs => cs = [.int .i64 n] ∧ bs = []
  | .flt, cs, x, bs => (∃ b, cs = [.float .f32 b] ∧ cn .f32 b = x) ∧ bs = []
  | .bool, cs, b, bs => cs = [.bool b] ∧ bs = []
  | .str, cs, s, bs => cs = [.string s] ∧ bs = []
  | .un, cs, _, bs => cs = [] ∧ bs = []
  | .sl e, cs, l, bs => ∃ p c css bss, cs = [.slice p l.length c] ∧ OwnRow w p l.length c (List.flatten css) ∧ l.length ≤ c ∧ c ≤ maxLen ∧ All2 (fun (x : List Value × List Nat) d => Own w e x.1 d x.2) (css.zip bss) l ∧ css.length = l.length ∧ bss.length = l.length ∧ bs = blocksOf p ++ bss.flatten
  | .pr a b, cs, x, bs => ∃ ca cb ba bb, cs = ca ++ cb ∧ Own w a ca x.1 ba ∧ Own w b cb x.2 bb ∧ bs = ba ++ bb

theorem OwnRow.cs {w : World} {p : Option Addr} {n c : Nat} {vs : List Value} (h : OwnRow w p n c vs) : Cs w p vs := by
  rcases h with ⟨_, _, _, rfl⟩ | ⟨g, cur, e, rfl, hg, ht⟩
  · exact Cs.nil w p
  · refine ⟨fun i u hu => ?_, fun _ => rfl⟩
    have hi : i < vs.length := (List.getElem?_eq_some_iff.1 hu).1
    rw [adr_row]
    unfold World.cell?
    rw [hg]
    simp only [Option.isSome_none, Bool.false_eq_true, if_false]
    rw [← ht, List.getElem?_take, if_pos hi] at hu
    simpa using hu
theorem zip_fst {A B : Type} {R : A → Prop} : ∀ {us : List A} {bs : List B}, us.length = bs.length → ∀ {C : Type} {ds : List C} {S : A × B → C → Prop} {T : A → C → Prop}, (∀ x d, S x d → T x.1 d) → All2 S (us.zip bs) ds → All2 T us ds
  | [], [], _, _, _, _, _, _, h => by cases h; exact .nil
  | [], _ :: _, h, _, _, _, _, _, _ => by simp at h
  | _ :: _, [], h, _, _, _, _, _, _ => by simp at h
  | a :: us, b :: bs, h, _, _, _, _, hi, hz => by
    cases hz with
    | cons h1 h2 => exact .cons (hi _ _ h1) (zip_fst (R := R) (by simpa using h) hi h2)
theorem Own.rep {w : World} : ∀ {s : Sh} {cs : List Value} {d : s.T} {bs : List Nat}, Own w s cs d bs → Rep w s cs d
  | .int, _, _, _, r => r.1
  | .flt, _, _, _, r => r.1
  | .bool, _, _, _, r => r.1
  | .str, _, _, _, r => r.1
  | .un, _, _, _, r => r.1
  | .sl e, _, _, _, ⟨p, c, css, bss, h1, h2, h3, h4, h5, h6, h7, _⟩ => ⟨p, c, css, h1, h2.cs, h3, h4, zip_fst (R := fun _ => True) (by rw [h6, h7]) (fun _ _ h => Own.rep (s := e) h) h5⟩
  | .pr a b, _, _, _, ⟨ca, cb, _, _, h1, h2, h3, _⟩ => ⟨ca, cb, h1, h2.rep, h3.rep⟩

/-- Only blocks in S have turned. -/
structure Chg (S : Nat → Prop) (w w' : World) : Prop where
  os : w'.os = w.os
  tape : w'.tape = w.tape
  output : w'.output = w.output
  size : w.heap.size ≤ w'.heap.size
  block : ∀ k, k < w.heap.size → ¬ S k → w'.heap[k]? = w.heap[k]?
theorem Chg.refl (S : Nat → Prop) (w : World) : Chg S w w := ⟨rfl, rfl, rfl, Nat.le_refl _, fun _ _ _ => rfl⟩
theorem Chg.of_ext {S : Nat → Prop} {w w' : World} (h : Ext w w') : Chg S w w' := ⟨h.os, h.tape, h.output, h.size, fun k hk _ => h.block k hk⟩
theorem Chg.mono {S S' : Nat → Prop} {w w' : World} (h : Chg S w w') (hs : ∀ k, S k → S' k) : Chg S' w w' := ⟨h.os, h.tape, h.output, h.size, fun k hk hn => h.block k hk fun h' => hn (hs k h')⟩
theorem Chg.trans {S : Nat → Prop} {a b c : World} (h : Chg S a b) (k : Chg S b c) : Chg S a c :=
  ⟨k.os.trans h.os, k.tape.trans h.tape, k.output.trans h.output, Nat.le_trans h.size k.size, fun i hi hn => (k.block i (Nat.lt_of_lt_of_le hi h.size) hn).trans (h.block i hi hn)⟩
theorem Chg.of_grown {w w' : World} {row : Option Nat} (h : w.grownBy w' row) : Chg (fun k => some k = row) w w' := ⟨h.os, h.tape, h.output, h.size, fun k hk hn => h.block k hk hn⟩
/-- A change of blocks that were not there. -/
theorem Ext.chg {S : Nat → Prop} {w0 w w' : World} (h : Ext w0 w) (k : Chg S w w') (hs : ∀ b, S b → w0.heap.size ≤ b) : Ext w0 w' :=
  ⟨k.os.trans h.os, k.tape.trans h.tape, k.output.trans h.output, Nat.le_trans h.size k.size, fun i hi => (k.block i (Nat.lt_of_lt_of_le hi h.size) (fun hb => by have := hs i hb; omega)).trans (h.block i hi)⟩

theorem OwnRow.lt {w : World} {p : Option Addr} {n c : Nat} {vs : List Value} (h : OwnRow w p n c vs) : ∀ b ∈ blocksOf p, b < w.heap.size := by
  rcases h with ⟨rfl, _⟩ | ⟨g, cur, e, rfl, hg, _⟩
  · intro b hb; simp [blocksOf] at hb
  · intro b hb
    simp [blocksOf] at hb; subst hb
    rcases Nat.lt_or_ge b w.heap.size with h' | h'
    · exact h'
    · simp [Array.getElem?_eq_none h'] at hg
theorem OwnRow.chg {S : Nat → Prop} {w w' : World} {p : Option Addr} {n c : Nat} {vs : List Value} (h : OwnRow w p n c vs) (k : Chg S w w') (hs : ∀ b ∈ blocksOf p, ¬ S b) : OwnRow w' p n c vs := by
  have hl := h.lt
  rcases h with h | ⟨g, cur, e, rfl, hg, ht⟩
  · exact .inl h
  · exact .inr ⟨g, cur, e, rfl, by rw [k.block g (hl g (by simp [blocksOf])) (hs g (by simp [blocksOf]))]; exact hg, ht⟩
theorem All2.mem_imp {A B : Type} {R S : A → B → Prop} {us : List A} {bs : List B} (h : All2 R us bs) (hi : ∀ a b, a ∈ us → R a b → S a b) : All2 S us bs := by
  induction h with
  | nil => exact .nil
  | cons h _ ih => exact .cons (hi _ _ (by simp) h) (ih fun a b ha => hi a b (by simp [ha]))
theorem Own.chg {S : Nat → Prop} {w w' : World} (k : Chg S w w') : ∀ {s : Sh} {cs : List Value} {d : s.T} {bs : List Nat}, Own w s cs d bs → (∀ b ∈ bs, ¬ S b) → Own w' s cs d bs
  | .int, _, _, _, r, _ => r
  | .flt, _, _, _, r, _ => r
  | .bool, _, _, _, r, _ => r
  | .str, _, _, _, r, _ => r
  | .un, _, _, _, r, _ => r
  | .sl e, _, _, _, ⟨p, c, css, bss, h1, h2, h3, h4, h5, h6, h7, h8⟩, hs => by
    subst h8
    exact ⟨p, c, css, bss, h1, h2.chg k (fun b hb => hs b (by simp [hb])), h3, h4,
      h5.mem_imp (fun x d hx h => Own.chg k (s := e) h fun b hb => hs b (by
        have := (List.of_mem_zip (show (x.1, x.2) ∈ css.zip bss from hx)).2
        simp only [List.mem_append, List.mem_flatten]
        exact .inr ⟨x.2, this, hb⟩)), h6, h7, rfl⟩
  | .pr a b, _, _, _, ⟨ca, cb, ba, bb, h1, h2, h3, h4⟩, hs => by
    subst h4
    exact ⟨ca, cb, ba, bb, h1, Own.chg k h2 (fun b hb => hs b (by simp [hb])), Own.chg k h3 (fun b hb => hs b (by simp [hb])), rfl⟩
theorem Own.ext {w w' : World} {s : Sh} {cs : List Value} {d : s.T} {bs : List Nat} (h : Own w s cs d bs) (e : Ext w w') : Own w' s cs d bs := h.chg (S := fun _ => False) (.of_ext e) (fun _ _ h => h)
theorem Own.lt {w : World} : ∀ {s : Sh} {cs : List Value} {d : s.T} {bs : List Nat}, Own w s cs d bs → ∀ b ∈ bs, b < w.heap.size
  | .int, _, _, _, r, b, hb => by rw [r.2] at hb; cases hb
  | .flt, _, _, _, r, b, hb => by rw [r.2] at hb; cases hb
  | .bool, _, _, _, r, b, hb => by rw [r.2] at hb; cases hb
  | .str, _, _, _, r, b, hb => by rw [r.2] at hb; cases hb
  | .un, _, _, _, r, b, hb => by rw [r.2] at hb; cases hb
  | .sl e, _, l, _, ⟨p, c, css, bss, h1, h2, h3, h4, h5, h6, h7, h8⟩, b, hb => by
    subst h8
    rcases List.mem_append.1 hb with hb | hb
    · exact h2.lt b hb
    · obtain ⟨bs', h9, h10⟩ := List.mem_flatten.1 hb
      obtain ⟨i, hi, rfl⟩ := List.mem_iff_getElem.1 h9
      have hil : i < l.length := by omega
      obtain ⟨h11, h12⟩ := h5.get' i hil
      simp only [List.getElem_zip] at h12
      exact Own.lt (s := e) h12 b h10
  | .pr a b, _, _, _, ⟨ca, cb, ba, bb, h1, h2, h3, h4⟩, x, hx => by
    subst h4
    rcases List.mem_append.1 hx with hx | hx
    · exact h2.lt x hx
    · exact h3.lt x hx

/-! ### Rows, read and written -/
theorem ownRow_of {w : World} {B e s n c : Nat} {p : Option Addr} {vs : List Value} (h : w.ownsRow B e s (.slice p n c) n vs) : OwnRow w p n c vs := by
  obtain ⟨h1, h2⟩ := h
  rcases h2 with ⟨hv, h0⟩ | ⟨g, cap, cur, hv, hg, hh, hn, hm, hs, ht⟩
  · cases hv; exact .inl ⟨rfl, rfl, rfl, List.eq_nil_of_length_eq_zero (by simpa using h1)⟩
  · cases hv; exact .inr ⟨g, cur, e, rfl, hh, by rw [h1]; exact ht⟩
theorem own_cap {w : World} {B e s n c : Nat} {p : Option Addr} {vs : List Value} (h : w.ownsRow B e s (.slice p n c) n vs) : n ≤ c ∧ c ≤ maxLen := by
  rcases h.2 with ⟨hv, h0⟩ | ⟨g, cap, cur, hv, hg, hh, hn, hm, hs, ht⟩
  · cases hv; exact ⟨Nat.le_refl _, Nat.zero_le _⟩
  · cases hv; exact ⟨hn, hm⟩
theorem OwnRow.set {w : World} {p : Option Addr} {n c : Nat} {vs : List Value} (h : OwnRow w p n c vs) (i : Nat) (hi : i < vs.length) (u : Value) :
    OwnRow (w.setCell (adr p i) u) p n c (vs.set i u) ∧ Chg (fun b => b ∈ blocksOf p) w (w.setCell (adr p i) u) ∧ w.frozen? (adr p i) = false ∧ ∃ v, w.cell? (adr p i) = some v := by
  rcases h with ⟨_, _, _, rfl⟩ | ⟨g, cur, e, rfl, hg, ht⟩
  · simp at hi
  · rw [adr_row]
    have hcs : i < cur.size := by
      have : (cur.toList.take vs.length).length = vs.length := by rw [ht]
      rw [List.length_take] at this; simp at this; omega
    refine ⟨.inr ⟨g, cur.setIfInBounds i u, e, rfl, ?_, ?_⟩, ⟨rfl, rfl, rfl, by simp [World.setCell], fun k hk hn => Below.heap_setCell _ _ _ _ (fun h => hn (by simp [blocksOf, h]))⟩, ?_, ?_⟩
    · simp [World.setCell, Array.getElem?_modify, hg]
    · rw [Array.toList_setIfInBounds, List.length_set, List.take_set, ht]
    · simp [World.frozen?, hg]
    · exact ⟨cur[i], by simp [World.cell?, hg, hcs]⟩
theorem F32s.cons {v : Value} {vs : List Value} {x : Nat} {xs : List Nat} {b : Nat} (hv : v = .float .f32 b) (hb : cn .f32 b = x) (h : F32s vs xs) : F32s (v :: vs) (x :: xs) :=
  ⟨by simp [h.1], fun i hi => by
    cases i with
    | zero => exact ⟨b, by simp [hv], by simpa using hb⟩
    | succ i => obtain ⟨b', h1, h2⟩ := h.2 i (by simpa using hi); exact ⟨b', by simpa using h1, by simpa using h2⟩⟩
theorem F32s.tail {v : Value} {vs : List Value} {x : Nat} {xs : List Nat} (h : F32s (v :: vs) (x :: xs)) : F32s vs xs :=
  ⟨by simpa using h.1, fun i hi => by obtain ⟨b, h1, h2⟩ := h.2 (i + 1) (by simpa using hi); exact ⟨b, by simpa using h1, by simpa using h2⟩⟩
theorem F32s.head {v : Value} {vs : List Value} {x : Nat} {xs : List Nat} (h : F32s (v :: vs) (x :: xs)) : ∃ b, v = .float .f32 b ∧ cn .f32 b = x := by
  obtain ⟨b, h1, h2⟩ := h.2 0 (by simp); exact ⟨b, by simpa using h1, by simpa using h2⟩
theorem flatten_map_one : ∀ (vs : List Value), (vs.map fun v => [v]).flatten = vs
  | [] => rfl
  | v :: vs => by simp [flatten_map_one vs]
theorem rep_flts_all {w : World} : ∀ {vs : List Value} {xs : List Nat}, F32s vs xs → All2 (Rep w .flt) (vs.map fun v => [v]) xs
  | [], [], _ => .nil
  | [], _ :: _, h => by have := h.1; simp at this
  | _ :: _, [], h => by have := h.1; simp at this
  | v :: vs, x :: xs, h => .cons (by obtain ⟨b, rfl, hb⟩ := h.head; exact ⟨b, rfl, hb⟩) (rep_flts_all h.tail)
theorem flts_of_all {w : World} {css : List (List Value)} {xs : List Nat} (h : All2 (Rep w .flt) css xs) : F32s css.flatten xs := by
  induction h with
  | nil => exact ⟨rfl, fun i hi => by simp at hi⟩
  | cons h _ ih => obtain ⟨b, rfl, hb⟩ := h; exact F32s.cons rfl hb ih
theorem rep_flts {w : World} {cs : List Value} {xs : List Nat} : Rep w (.sl .flt) cs xs ↔ ∃ p c vs, cs = [.slice p xs.length c] ∧ Cs w p vs ∧ F32s vs xs ∧ xs.length ≤ c ∧ c ≤ maxLen := by
  constructor
  · rintro ⟨p, c, css, h1, h2, h3, h4, h5⟩; exact ⟨p, c, _, h1, h2, flts_of_all h5, h3, h4⟩
  · rintro ⟨p, c, vs, h1, h2, h3, h4, h5⟩; exact ⟨p, c, _, h1, by rw [flatten_map_one]; exact h2, h4, h5, rep_flts_all h3⟩
theorem zip_nils : ∀ (vs : List Value), ((vs.map fun v => [v]).zip (vs.map fun _ => ([] : List Nat))) = vs.map fun v => ([v], [])
  | [] => rfl
  | v :: vs => by simp [zip_nils vs]
theorem own_flts_all {w : World} : ∀ {vs : List Value} {xs : List Nat}, F32s vs xs → All2 (fun (x : List Value × List Nat) (d : Nat) => Own w .flt x.1 d x.2) (vs.map fun v => ([v], [])) xs
  | [], [], _ => .nil
  | [], _ :: _, h => by have := h.1; simp at this
  | _ :: _, [], h => by have := h.1; simp at this
  | v :: vs, x :: xs, h => .cons (by obtain ⟨b, rfl, hb⟩ := h.head; exact ⟨⟨b, rfl, hb⟩, rfl⟩) (own_flts_all h.tail)
theorem nils_flatten : ∀ (vs : List Value), (vs.map fun _ => ([] : List Nat)).flatten = []
  | [] => rfl
  | v :: vs => by simp [nils_flatten vs]
theorem own_nils {w : World} : ∀ {css : List (List Value)} {bss : List (List Nat)} {xs : List Nat}, All2 (fun (x : List Value × List Nat) (d : Nat) => Own w .flt x.1 d x.2) (css.zip bss) xs → css.length = xs.length → bss.length = xs.length → bss.flatten = []
  | [], [], [], _, _, _ => rfl
  | [], _ :: _, [], _, _, h => by simp at h
  | _ :: _, _, [], _, h, _ => by simp at h
  | [], _, _ :: _, _, h, _ => by simp at h
  | _ :: _, [], _ :: _, _, _, h => by simp at h
  | cs :: css, bs :: bss, x :: xs, h, h1, h2 => by
    cases h with
    | cons h3 h4 =>
      have h5 : bs = [] := h3.2
      rw [List.flatten_cons, h5, own_nils h4 (by simpa using h1) (by simpa using h2)]; rfl
theorem own_flts {w : World} {cs : List Value} {xs : List Nat} {bs : List Nat} : Own w (.sl .flt) cs xs bs ↔ ∃ p c vs, cs = [.slice p xs.length c] ∧ OwnRow w p xs.length c vs ∧ F32s vs xs ∧ xs.length ≤ c ∧ c ≤ maxLen ∧ bs = blocksOf p := by
  constructor
  · rintro ⟨p, c, css, bss, h1, h2, h3, h4, h5, h6, h7, h8⟩
    refine ⟨p, c, css.flatten, h1, h2, flts_of_all (zip_fst (R := fun _ => True) (T := Rep w .flt) (by rw [h6, h7]) (fun _ _ h => Own.rep (s := .flt) h) h5), h3, h4, ?_⟩
    rw [h8, own_nils h5 h6 h7, List.append_nil]
  · rintro ⟨p, c, vs, h1, h2, h3, h4, h5, h6⟩
    refine ⟨p, c, vs.map fun v => [v], vs.map fun _ => [], h1, by rw [flatten_map_one]; exact h2, h4, h5, by rw [zip_nils]; exact own_flts_all h3, by rw [List.length_map]; exact h3.1, by rw [List.length_map]; exact h3.1, ?_⟩
    rw [h6, nils_flatten, List.append_nil]

section
variable {P : Program} {w : World} {ops : Array Oper} {rest : List Oper} {o o1 o2 : Oper} {a : Act} {Q : Exit → Act → World → Prop}
/-- 'xs[i] = u' of one-cell elements. -/
theorem wl_stRow {t e b : Nat} {z : Value} [SlTy P t e 1 z b] [Cell1 P e] {x ix y : Operand} {d : Tmp} (hg1 : o1.guard = none) (ho1 : o1.op = .indexAddr t x ix) (hg2 : o2.guard = none) (ho2 : o2.op = .store e (.tmp d) y)
    {p : Option Addr} {n c : Nat} {k : IntKind} {i : Int} {u : Value} (hd : ∀ y, (a.put o1.dst y).eval (.tmp d) = y)
    (hx : a.eval x = .slice p n c) (hi : a.eval ix = .int k i) (hy : ∀ q, (a.put o1.dst q).eval y = u) (hu1 : u.oneCell' = true) {vs : List Value} (hc : OwnRow w p n c vs) (hlen : vs.length = n) (h0 : 0 ≤ i) (hn : i < n)
    (h : ∀ w', OwnRow w' p n c (vs.set i.toNat u) → Chg (fun b => b ∈ blocksOf p) w w' → wpList P ops Q rest ((a.put o1.dst (.pointer (some (adr p i.toNat)))).put o2.dst undef) w') : wpList P ops Q (o1 :: o2 :: rest) a w := by
  have hlt : i.toNat < vs.length := by omega
  obtain ⟨s1, s2, s3, v, s4⟩ := hc.set i.toNat hlt u
  refine wl_idx hg1 ho1 hx hi (hc.cs.isS (by intro h; rw [h] at hlt; simp at hlt)) h0 hn ?_
  rw [Nat.mul_one]
  refine wl_skip hg2 (w' := w.setCell (adr p i.toNat) u) ?_ (h _ s1 s2)
  simp [execOp, ho2, hd, hy, run_store1 s4 s3 hu1]
end
end Go.Proofs.Ytnlhahlegedlaaa
