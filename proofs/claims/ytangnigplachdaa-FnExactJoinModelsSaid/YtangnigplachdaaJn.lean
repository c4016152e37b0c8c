/- JoinModels. -/
import Derived.Test.YtangnigplachdaaCat
import Derived.Test.YtangnigplachdaaSpl
import Derived.Test.YtangnigplachdaaRgL
import Derived.Test.YtangnigplachdaaKf
namespace Go.Proofs.Ytangnigplachdaa
set_option linter.unusedSimpArgs false
set_option linter.unusedVariables false
open Go.RowKit

theorem All2.app {A B : Type} {R : A → B → Prop} : ∀ {a : List A} {b : List B} {c : List A} {d : List B}, All2 R a b → All2 R c d → All2 R (a ++ c) (b ++ d) := by
  intro a b c d h k
  refine All2.of_get (by rw [List.length_append, List.length_append, h.length, k.length]) fun i x y hx hy => ?_
  have hl := h.length
  rcases Nat.lt_or_ge i a.length with hi | hi
  · rw [List.getElem?_append_left hi] at hx
    rw [List.getElem?_append_left (by omega)] at hy
    exact h.toGet _ _ _ hx hy
  · rw [List.getElem?_append_right hi] at hx
    rw [List.getElem?_append_right (by omega)] at hy
    rw [← hl] at hy
    exact k.toGet _ _ _ hx hy
theorem lays_app {w : World} {p0 p1 q : Option Addr} {n0 n1 : Nat} {css0 css1 : List (List Value)} {L0 L1 : List shLayer.T} (h0 : Lays w p0 n0 css0 L0) (h1 : Lays w p1 n1 css1 L1) (hc : Cs w q (css0.flatten ++ css1.flatten)) (hn : n0 + n1 ≤ maxLen) : Lays w q (n0 + n1) (css0 ++ css1) (L0 ++ L1) :=
  ⟨by rw [List.flatten_append]; exact hc, h0.all.app h1.all, fun c hc => by
    rcases List.mem_append.1 hc with h | h
    · exact h0.size c h
    · exact h1.size c h, fun c hc => by
    rcases List.mem_append.1 hc with h | h
    · exact h0.one c h
    · exact h1.one c h, by rw [List.length_append, h0.len, h1.len], by rw [List.length_append, h0.cnt, h1.cnt], fun c hc => by
    rcases List.mem_append.1 hc with h | h
    · exact h0.fit c h
    · exact h1.fit c h, hn⟩
theorem own_ne {w : World} {B te t s n g : Nat} {v : Value} {xs : List Value} {Z : Array Value} (h : w.ownsRow B te s v n xs) (hb : HB w g Z t) (ht : te ≠ t) : v.ownBlock ≠ some g := by
  rcases h.2 with ⟨rfl, _⟩ | ⟨g', cap, cur, rfl, _, hh, _⟩
  · simp [Value.ownBlock]
  · intro he
    have : g' = g := by simpa [Value.ownBlock] using he
    subst this
    unfold HB at hb
    rw [hb] at hh
    injection hh with hh
    injection hh with _ hh
    exact ht hh.symm
section
variable {P : Program} {w wf : World} {ops : Array Oper} {rest : List Oper} {o : Oper} {a : Act} {F : Option Tmp → World → World → Value → Prop}
/-- 'append(xs, ys...)' onto an empty list without room, in a region whose order is drawn. -/
theorem x_appNew {Q : Act → Prop} {t e s b : Nat} {z : Value} [T : SlTy P t e s z b] {x1 x2 : Operand} {g : Nat} {q : Addr} {n c : Nat} {us : List Value} (hw : Region.wanted o (yielded ops a.tmps) = true) (ho : o.op = .call { callee := .builtin .append, args := #[x1, x2], argTypes := #[t, t] })
    (hx1 : a.eval x1 = .slice (some ⟨g, 0, none⟩) 0 0) (hx2 : a.eval x2 = .slice (some q) n c) (hc : Cs w (some q) us) (hl : us.length = n * s) (h0 : 0 < n) (hm : n ≤ maxLen) (hb : n * b ≤ 140737488355328)
    (h : ∀ g' k', wf.ownsRow w.heap.size e s (.slice (some ⟨g', 0, none⟩) n k') n us → wpX P ops F w wf Q rest (a.put o.dst (.slice (some ⟨g', 0, none⟩) n k'))) : wpX P ops F w wf Q (o :: rest) a := by
  obtain ⟨ti, hi, hzz⟩ := Option.map_eq_some_iff.1 T.inf
  simp only [Prod.mk.injEq] at hzz
  have hz := T.zs
  have hm' := hm
  unfold maxLen at hm'
  refine x_made (V := fun W u => ∃ g' k', u = .slice (some ⟨g', 0, none⟩) n k' ∧ W.ownsRow w.heap.size e s (.slice (some ⟨g', 0, none⟩) n k') n us) hw (fun w1 e1 => ?_) (fun u ⟨g', k', h1, h2⟩ => by subst h1; exact h g' k' h2)
  have hr := run_append_grow (P := P) (w := w1) t o.type e ti z T.und hi hzz.1 ⟨g, 0, none⟩ 0 0 [] (by simp) (by simp) q n c us (by rw [hzz.2.1]; exact hl) (fun j v hv => (hc.ext e1).cell j v hv) (by omega) (by omega) (by rw [hzz.2.2, Nat.zero_add, nextslicecap_zero h0]; omega)
  have hge := grownCap_ge w1 n 0 e
  have hle := grownCap_le_maxLen w1 n 0 e hm
  have hr2 : (Builtin.append_ #[t, t] o.type #[.slice (some ⟨g, 0, none⟩) 0 0, .slice (some q) n c]).run P w1 = .ok (.slice (some ⟨w1.heap.size, 0, none⟩) n (grownCap w1 n 0 e)) (w1.drew.alloc (.cells (us.toArray ++ Builtin.zeroCells z.cells (grownCap w1 n 0 e - n)) e)) := by simpa using hr
  clear hr
  refine ⟨.slice (some ⟨w1.heap.size, 0, none⟩) n (grownCap w1 n 0 e), w1.drew.alloc (.cells (us.toArray ++ Builtin.zeroCells z.cells (grownCap w1 n 0 e - n)) e), by simp [execOp, ho, resolve, invoke, builtin, hx1, hx2, hr2], (Ext.drew w1).trans (Ext.alloc _ _), fun wf hf => ⟨_, _, rfl, own_ext (w := w1.drew.alloc _) ⟨hl, .inr ⟨w1.heap.size, _, _, rfl, e1.size, heap_alloc_new w1.drew _, hge, hle, ?_, ?_⟩⟩ hf⟩⟩
  · rw [Array.size_append, size_zeroCells, hz]
    simp only [List.size_toArray, hl]
    rw [← Nat.add_mul]; congr 1; omega
  · have : (us.toArray ++ Builtin.zeroCells z.cells (grownCap w1 n 0 e - n)).toList = us ++ (Builtin.zeroCells z.cells (grownCap w1 n 0 e - n)).toList := by simp
    rw [this, ← hl, List.take_left]
theorem wpOp_app {Q : Exit → Act → World → Prop} {K : Act → World → Prop} {i : Nat} {t e s b : Nat} {z : Value} [T : SlTy P t e s z b] {x1 x2 : Operand} {v : Value} {B n m c : Nat} {vs us : List Value} {q : Addr} (hoi : ops[i]? = some o) (hg : o.guard = none)
    (ho : o.op = .call { callee := .builtin .append, args := #[x1, x2], argTypes := #[t, t] }) (hx1 : a.eval x1 = v) (hx2 : a.eval x2 = .slice (some q) m c) (how : w.ownsRow B e s v n vs) (hc : Cs w (some q) us) (hm : us.length = m * s) (h1 : ∀ u ∈ us, u.oneCell' = true)
    (hn : n + m ≤ maxLen) (hb : (n + m) * b ≤ 140737488355328) (hB : B ≤ w.heap.size)
    (h : ∀ v' w', w'.ownsRow B e s v' (n + m) (vs ++ us) → w.grownBy w' v.ownBlock → K (a.put o.dst v') w') : wpOp P ops Q i K a w := by
  obtain ⟨ti, hi, hzz⟩ := Option.map_eq_some_iff.1 T.inf
  simp only [Prod.mk.injEq] at hzz
  obtain ⟨v', w', hr, h2, h3, _⟩ := run_append_own (P := P) (w := w) B t o.type e ti z s b T.und hi hzz.1 hzz.2.1 hzz.2.2 T.zs T.pos v n vs how q m c us hm (fun j u hj => hc.cell j u hj) h1 hn hb hB
  exact wpOp_run hoi hg (by simp [execOp, ho, resolve, invoke, builtin, hx1, hx2, hr]) (h v' w' h2 h3)
end
end Go.Proofs.Ytangnigplachdaa
namespace Go.Proofs.Ytangnigplachdaa.lJoinModels
open Go.RowKit
set_option linter.unusedSimpArgs false
set_option linter.unusedVariables false
open Go.Proofs.Ytangnigplachdaa.lSplitModel (own_mod)
def ok (a b : shModel.T) : Bool := modB a.1 && (modB b.1 && modB (a.1 ++ b.1))
def res (a b : shModel.T) : shModel.T × Bool := if ok a b then ((a.1 ++ b.1, ()), true) else (([], ()), false)
theorem res_no {a b : shModel.T} (h : ok a b = false) : res a b = (([], ()), false) := by unfold res; rw [h]; rfl
theorem res_yes {a b : shModel.T} (h : ok a b = true) : res a b = ((a.1 ++ b.1, ()), true) := by unfold res; rw [h]; rfl
theorem tot_flts : ∀ (l : List Nat), tot (.sl .flt) l = l.length := fun l => by
  have : ∀ (z : List Nat), (z.map (tot .flt)).sum = 0 := by intro z; induction z with | nil => rfl | cons a z ih => rw [List.map_cons, List.sum_cons, ih]; rfl
  rw [tot, this]; rfl
theorem tot_lay (d : shLayer.T) : tot shLayer d = (d.2.2.2.1 : List Nat).length + (d.2.2.2.2.1 : List Nat).length := by
  have h1 : tot shLayer d = 0 + (0 + (0 + (tot (.sl .flt) d.2.2.2.1 + (tot (.sl .flt) d.2.2.2.2.1 + 0)))) := rfl
  rw [h1, tot_flts, tot_flts]; omega
theorem tot_small {L : List shLayer.T} (h : Small L) : tot (.sl shLayer) L ≤ 12 + 12 * 128 := by
  have h1 : ∀ (l : List shLayer.T), (∀ d ∈ l, (d.2.2.2.1 : List Nat).length ≤ 64 ∧ (d.2.2.2.2.1 : List Nat).length ≤ 64) → (l.map (tot shLayer)).sum ≤ l.length * 128 := by
    intro l
    induction l with
    | nil => intro _; simp
    | cons d l ih =>
      intro hl
      have h2 := ih fun x hx => hl x (by simp [hx])
      have h3 := hl d (by simp)
      rw [List.map_cons, List.sum_cons, List.length_cons, tot_lay]
      omega
  have h4 := h1 L h.2
  have h5 := h.1
  have h6 : tot (.sl shLayer) L = L.length + (L.map (tot shLayer)).sum := rfl
  omega
theorem res_bd (a b : shModel.T) (_ : tot shModel a ≤ 1048576) (_ : tot shModel b ≤ 1048576) (_ : Fit shModel a) (_ : Fit shModel b) : tot shModel (res a b).1 ≤ 1048576 := by
  cases h : ok a b
  · rw [res_no h]; simp [tot]
  · rw [res_yes h]
    have h2 : tot shModel (a.1 ++ b.1, ()) = tot (.sl shLayer) (a.1 ++ b.1) + 0 := rfl
    unfold ok at h
    simp only [Bool.and_eq_true] at h
    have h3 := tot_small (small_of (modOk h.2.2))
    show tot shModel (a.1 ++ b.1, ()) ≤ _
    omega
theorem len_le {d : shModel.T} (h : tot shModel d ≤ 1048576) : d.1.length ≤ 1048576 := by
  have h2 : tot shModel d = d.1.length + (d.1.map (tot shLayer)).sum + 0 := rfl
  omega
theorem outT_no {w w' : World} {t : TypeId} {e : Ending} (h : e = .returned (.tuple #[.agg #[.slice none 0 0], .bool false])) (hx : Ext w w') : OutT w t shModel (([], ()), false) e w' :=
  ⟨[.slice none 0 0], [], h, own_mod own_nil, by simp, by simp, by simp, hx⟩
set_option maxRecDepth 100000 in
set_option maxHeartbeats 4000000 in
theorem impl_ok (cs0 : List Value) (D0 : shModel.T) (cs1 : List Value) (D1 : shModel.T) (w : World) (h0 : Rep w shModel cs0 D0) (h1 : Rep w shModel cs1 D1) (f0 : Fit shModel D0) (f1 : Fit shModel D1) (t0 : tot shModel D0 ≤ 1048576) (t1 : tot shModel D1 ≤ 1048576) : Calls Try.prog 70 #[ofCs shModel cs0, ofCs shModel cs1] w (OutT w 32 shModel (res D0 D1)) := by
  have hn0 := len_le t0
  have hn1 := len_le t1
  clear t0 t1
  obtain ⟨L0, u0⟩ := D0
  obtain ⟨L1, u1⟩ := D1
  dsimp only at hn0 hn1
  obtain ⟨x0, x0', rfl, k0, rfl⟩ := h0
  obtain ⟨p0, c0, rfl, _⟩ := rep_val k0
  obtain ⟨p0', c0', css0, he0, M0⟩ := lays_of k0 f0.1
  cases he0
  have hc0 : L0.length ≤ c0 := by
    obtain ⟨_, _, _, h1, _, h3, _⟩ := k0
    cases h1; exact h3
  obtain ⟨x1, x1', rfl, k1, rfl⟩ := h1
  obtain ⟨p1, c1, rfl, _⟩ := rep_val k1
  obtain ⟨p1', c1', css1, he1, M1⟩ := lays_of k1 f1.1
  cases he1
  have hc1 : L1.length ≤ c1 := by
    obtain ⟨_, _, _, h1, _, h3, _⟩ := k1
    cases h1; exact h3
  have M0 : Lays w p0 L0.length css0 L0 := M0
  have M1 : Lays w p1 L1.length css1 L1 := M1
  simp only [ofCs, Sh.agg, if_true, List.append_nil]
  obtain ⟨W0, hW0⟩ : ∃ W0, W0 = ((w.alloc (.cells #[.slice p0 L0.length c0] 32)).alloc (.cells #[.slice p1 L1.length c1] 32)).alloc (.cells #[.slice none 0 0] 32) := ⟨_, rfl⟩
  obtain ⟨E0, s0, b0, b1, b2⟩ := box3 hW0
  have a0 : W0.cell? ⟨w.heap.size, 0, none⟩ = some (.slice p0 L0.length c0) := cell_of_heap b0 rfl
  have a1 : W0.cell? ⟨w.heap.size + 1, 0, none⟩ = some (.slice p1 L1.length c1) := cell_of_heap b1 rfl
  have b2 : HB W0 (w.heap.size + 1 + 1) #[.slice none 0 0] 32 := b2
  have A1 := hid (fun W (h : Ext W0 W) => ValidModel_any p0 L0.length c0 L0 css0 W M0.len M0.le (M0.cs.ext (E0.trans h)) (M0.all.imp fun _ _ => Rep.ext (E0.trans h)) M0.size M0.cnt)
  have A2 := hid (fun W (h : Ext W0 W) => ValidModel_any p1 L1.length c1 L1 css1 W M1.len M1.le (M1.cs.ext (E0.trans h)) (M1.all.imp fun _ _ => Rep.ext (E0.trans h)) M1.size M1.cnt)
  have LA := hid (fun W q (h : Ext W0 W) hc => lays_app (q := q) (M0.ext (E0.trans h)) (M1.ext (E0.trans h)) hc (by unfold maxLen; omega))
  have A3 := hid (fun W q k (h : Ext W0 W) hc => ValidModel_any q (L0.length + L1.length) k (L0 ++ L1) (css0 ++ css1) W (LA.out W q h hc).len (LA.out W q h hc).le (LA.out W q h hc).cs (LA.out W q h hc).all (LA.out W q h hc).size (LA.out W q h hc).cnt)
  have G := hid (fun b W (h : Ext W0 W) hb => concatLay_any b p0 p1 _ c0 _ c1 css0 css1 L0 L1 W (M0.ext (E0.trans h)) (M1.ext (E0.trans h)) hc0 hc1 (by omega) hb)
  have CP := hid (fun W q k (h : Ext W0 W) hc hS => copyModel_any q (L0.length + L1.length) k (css0 ++ css1) (L0 ++ L1) W (LA.out W q h hc) hS)
  have b5 := HB.new W0 #[.slice p0 L0.length c0, .slice p1 L1.length c1] 30
  obtain ⟨W1, hW1⟩ : ∃ W1, W1 = W0.alloc (.cells #[.slice p0 L0.length c0, .slice p1 L1.length c1] 30) := ⟨_, rfl⟩
  rw [← hW1] at b5
  have E1 : Ext W0 W1 := by subst hW1; exact Ext.alloc _ _
  rw [s0] at b5
  have G2 := hid (G.out _ W1 E1 b5)
  have NO := hid (fun (h : ok (L0, u0) (L1, u1) = false) => res_no h)
  have YES := hid (fun (h : ok (L0, u0) (L1, u1) = true) => res_yes h)
  have hok : ok (L0, u0) (L1, u1) = (modB L0 && (modB L1 && modB (L0 ++ L1))) := rfl
  have SM := hid (fun (h : modB (L0 ++ L1) = true) => small_of (modOk h))
  rw [hok] at NO YES
  clear G k0 k1 f0 f1 b0 b1 M0 M1 hok LA
  generalize L0.length = n0 at *
  generalize L1.length = n1 at *
  cases hv0 : modB L0
  · rw [NO.out (by simp [hv0])]
    rw [hv0] at A1
    clear CP SM NO YES hv0
    clear A2 A3
    go_enter Try.func70, Try.ntmps70
    go_wp2_with fail
    rw [← hW0, ← hW1]
    refine G2.out.mono ?_
    rintro e w2 ⟨q, k, rfl, own2, e2⟩
    have E2 := E1.trans e2
    have E3 := E2.trans (Ext.alloc w2 (.cells #[.slice q (n0 + n1) k] 32))
    have X0 := E3.cell a0
    have X1 := E3.cell a1
    have X6 : (w2.alloc (.cells #[.slice q (n0 + n1) k] 32)).cell? ⟨w2.heap.size, 0, none⟩ = some (.slice q (n0 + n1) k) := (HB.new _ _ _).cell 0 rfl
    have hcs := (own_Cs own2).ext (Ext.alloc w2 (.cells #[.slice q (n0 + n1) k] 32))
    clear own2
    go_wp2_with fail
    refine (A1.out _ E3).mono ?_
    rintro e w3 ⟨rfl, e3⟩
    have E4 := E3.trans e3
    have Y1 := e3.cell X1
    have Y6 := e3.cell X6
    have hb2 := b2.ext E4
    have g1 : w3.cell? ⟨w.heap.size + 1 + 1, 0, none⟩ = some (.slice none 0 0) := hb2.cell 0 rfl
    have g3 := hb2.froz 0
    go_wp2
    refine bodyPost_ret (v := .tuple #[.agg #[.slice none 0 0], .bool false]) (by simp [results, Try.results70, go_sem, g1, g3]) rfl ?_
    exact outT_no rfl (by have := E0.trans E4; (repeat (first | with_reducible exact Ext.refl _ | with_reducible assumption | ((with_reducible refine Ext.setCell ?_ ?_ _); rotate_left; focus (first | (simp; done) | (simp; omega))) | (with_reducible refine Ext.trans ?_ (Ext.alloc _ _)) | (with_reducible refine Ext.trans ?_ (Ext.drew _)) | (with_reducible refine Ext.trans ?_ (by with_reducible assumption)))))
  cases hv1 : modB L1
  · rw [NO.out (by simp [hv0, hv1])]
    rw [hv0] at A1
    rw [hv1] at A2
    clear CP SM NO YES hv0 hv1
    clear A3
    go_enter Try.func70, Try.ntmps70
    go_wp2_with fail
    rw [← hW0, ← hW1]
    refine G2.out.mono ?_
    rintro e w2 ⟨q, k, rfl, own2, e2⟩
    have E2 := E1.trans e2
    have E3 := E2.trans (Ext.alloc w2 (.cells #[.slice q (n0 + n1) k] 32))
    have X0 := E3.cell a0
    have X1 := E3.cell a1
    have X6 : (w2.alloc (.cells #[.slice q (n0 + n1) k] 32)).cell? ⟨w2.heap.size, 0, none⟩ = some (.slice q (n0 + n1) k) := (HB.new _ _ _).cell 0 rfl
    have hcs := (own_Cs own2).ext (Ext.alloc w2 (.cells #[.slice q (n0 + n1) k] 32))
    clear own2
    go_wp2_with fail
    refine (A1.out _ E3).mono ?_
    rintro e w3 ⟨rfl, e3⟩
    have E4 := E3.trans e3
    have Y1 := e3.cell X1
    have Y6 := e3.cell X6
    go_wp2_with fail
    refine (A2.out _ E4).mono ?_
    rintro e w4 ⟨rfl, e4⟩
    have E5 := E4.trans e4
    have Z6 := e4.cell Y6
    have hb2 := b2.ext E5
    have g1 : w4.cell? ⟨w.heap.size + 1 + 1, 0, none⟩ = some (.slice none 0 0) := hb2.cell 0 rfl
    have g3 := hb2.froz 0
    go_wp2
    refine bodyPost_ret (v := .tuple #[.agg #[.slice none 0 0], .bool false]) (by simp [results, Try.results70, go_sem, g1, g3]) rfl ?_
    exact outT_no rfl (by have := E0.trans E5; (repeat (first | with_reducible exact Ext.refl _ | with_reducible assumption | ((with_reducible refine Ext.setCell ?_ ?_ _); rotate_left; focus (first | (simp; done) | (simp; omega))) | (with_reducible refine Ext.trans ?_ (Ext.alloc _ _)) | (with_reducible refine Ext.trans ?_ (Ext.drew _)) | (with_reducible refine Ext.trans ?_ (by with_reducible assumption)))))
  cases hv2 : modB (L0 ++ L1)
  · rw [NO.out (by simp [hv0, hv1, hv2])]
    rw [hv0] at A1
    rw [hv1] at A2
    rw [hv2] at A3
    clear CP SM NO YES hv0 hv1 hv2
    go_enter Try.func70, Try.ntmps70
    go_wp2_with fail
    rw [← hW0, ← hW1]
    refine G2.out.mono ?_
    rintro e w2 ⟨q, k, rfl, own2, e2⟩
    have E2 := E1.trans e2
    have E3 := E2.trans (Ext.alloc w2 (.cells #[.slice q (n0 + n1) k] 32))
    have X0 := E3.cell a0
    have X1 := E3.cell a1
    have X6 : (w2.alloc (.cells #[.slice q (n0 + n1) k] 32)).cell? ⟨w2.heap.size, 0, none⟩ = some (.slice q (n0 + n1) k) := (HB.new _ _ _).cell 0 rfl
    have hcs := (own_Cs own2).ext (Ext.alloc w2 (.cells #[.slice q (n0 + n1) k] 32))
    clear own2
    go_wp2_with fail
    refine (A1.out _ E3).mono ?_
    rintro e w3 ⟨rfl, e3⟩
    have E4 := E3.trans e3
    have Y1 := e3.cell X1
    have Y6 := e3.cell X6
    go_wp2_with fail
    refine (A2.out _ E4).mono ?_
    rintro e w4 ⟨rfl, e4⟩
    have E5 := E4.trans e4
    have Z6 := e4.cell Y6
    go_wp2_with fail
    refine (A3.out _ q k E5 ((hcs.ext e3).ext e4)).mono ?_
    rintro e w5 ⟨rfl, e5⟩
    have E6 := E5.trans e5
    have hb2 := b2.ext E6
    have g1 : w5.cell? ⟨w.heap.size + 1 + 1, 0, none⟩ = some (.slice none 0 0) := hb2.cell 0 rfl
    have g3 := hb2.froz 0
    go_wp2
    refine bodyPost_ret (v := .tuple #[.agg #[.slice none 0 0], .bool false]) (by simp [results, Try.results70, go_sem, g1, g3]) rfl ?_
    exact outT_no rfl (by have := E0.trans E6; (repeat (first | with_reducible exact Ext.refl _ | with_reducible assumption | ((with_reducible refine Ext.setCell ?_ ?_ _); rotate_left; focus (first | (simp; done) | (simp; omega))) | (with_reducible refine Ext.trans ?_ (Ext.alloc _ _)) | (with_reducible refine Ext.trans ?_ (Ext.drew _)) | (with_reducible refine Ext.trans ?_ (by with_reducible assumption)))))
  · rw [YES.out (by simp [hv0, hv1, hv2])]
    have CQ := hid (fun W q k h hc => CP.out W q k h hc (SM.out hv2))
    rw [hv0] at A1
    rw [hv1] at A2
    rw [hv2] at A3
    clear CP SM NO YES hv0 hv1 hv2
    go_enter Try.func70, Try.ntmps70
    go_wp2_with fail
    rw [← hW0, ← hW1]
    refine G2.out.mono ?_
    rintro e w2 ⟨q, k, rfl, own2, e2⟩
    have E2 := E1.trans e2
    have E3 := E2.trans (Ext.alloc w2 (.cells #[.slice q (n0 + n1) k] 32))
    have X0 := E3.cell a0
    have X1 := E3.cell a1
    have X6 : (w2.alloc (.cells #[.slice q (n0 + n1) k] 32)).cell? ⟨w2.heap.size, 0, none⟩ = some (.slice q (n0 + n1) k) := (HB.new _ _ _).cell 0 rfl
    have hcs := (own_Cs own2).ext (Ext.alloc w2 (.cells #[.slice q (n0 + n1) k] 32))
    clear own2
    go_wp2_with fail
    refine (A1.out _ E3).mono ?_
    rintro e w3 ⟨rfl, e3⟩
    have E4 := E3.trans e3
    have Y1 := e3.cell X1
    have Y6 := e3.cell X6
    go_wp2_with fail
    refine (A2.out _ E4).mono ?_
    rintro e w4 ⟨rfl, e4⟩
    have E5 := E4.trans e4
    have Z6 := e4.cell Y6
    go_wp2_with fail
    refine (A3.out _ q k E5 ((hcs.ext e3).ext e4)).mono ?_
    rintro e w5 ⟨rfl, e5⟩
    have E6 := E5.trans e5
    have V6 := e5.cell Z6
    go_wp2_with fail
    refine (CQ.out _ q k E6 (((hcs.ext e3).ext e4).ext e5)).mono ?_
    rintro e w6 ⟨q9, k9, rfl, o9, e6⟩
    have E7 := E6.trans e6
    have hb2 := b2.ext E7
    have g1 : w6.cell? ⟨w.heap.size + 1 + 1, 0, none⟩ = some (.slice none 0 0) := hb2.cell 0 rfl
    have g3 := hb2.froz 0
    have s6 := E6.size
    go_wp2
    refine bodyPost_ret (v := .tuple #[.agg #[.slice q9 (n0 + n1) k9], .bool true]) (by simp [results, Try.results70, go_sem, g1, g3]) rfl ?_
    have ch := chg_cell w6 (w.heap.size + 1 + 1) 0 (.slice q9 (n0 + n1) k9)
    obtain ⟨bs, o1, o2, o3, o4⟩ := IsOwnY.chg o9 ch (fun b hb => by omega)
    exact ⟨_, bs, rfl, own_mod o1, o2, fun b hb => by have := o3 b hb; omega, o4.no (by decide), (E0.trans E7).chg ch (fun b hb => by omega)⟩
set_option maxRecDepth 100000 in
set_option maxHeartbeats 4000000 in
theorem spec_ok (cs0 : List Value) (D0 : shModel.T) (cs1 : List Value) (D1 : shModel.T) (w : World) (h0 : Rep w shModel cs0 D0) (h1 : Rep w shModel cs1 D1) (f0 : Fit shModel D0) (f1 : Fit shModel D1) (t0 : tot shModel D0 ≤ 1048576) (t1 : tot shModel D1 ≤ 1048576) : Calls Try.prog 69 #[ofCs shModel cs0, ofCs shModel cs1] w (OutT w 32 shModel (res D0 D1)) := by
  have hn0 := len_le t0
  have hn1 := len_le t1
  clear t0 t1
  obtain ⟨L0, u0⟩ := D0
  obtain ⟨L1, u1⟩ := D1
  dsimp only at hn0 hn1
  obtain ⟨x0, x0', rfl, k0, rfl⟩ := h0
  obtain ⟨p0, c0, rfl, _⟩ := rep_val k0
  obtain ⟨p0', c0', css0, he0, M0⟩ := lays_of k0 f0.1
  cases he0
  have hc0 : L0.length ≤ c0 := by
    obtain ⟨_, _, _, h1, _, h3, _⟩ := k0
    cases h1; exact h3
  obtain ⟨x1, x1', rfl, k1, rfl⟩ := h1
  obtain ⟨p1, c1, rfl, _⟩ := rep_val k1
  obtain ⟨p1', c1', css1, he1, M1⟩ := lays_of k1 f1.1
  cases he1
  have hc1 : L1.length ≤ c1 := by
    obtain ⟨_, _, _, h1, _, h3, _⟩ := k1
    cases h1; exact h3
  have M0 : Lays w p0 L0.length css0 L0 := M0
  have M1 : Lays w p1 L1.length css1 L1 := M1
  simp only [ofCs, Sh.agg, if_true, List.append_nil]
  obtain ⟨W0, hW0⟩ : ∃ W0, W0 = ((w.alloc (.cells #[.slice p0 L0.length c0] 32)).alloc (.cells #[.slice p1 L1.length c1] 32)).alloc (.cells #[.slice none 0 0] 32) := ⟨_, rfl⟩
  obtain ⟨E0, s0, b0, b1, b2⟩ := box3 hW0
  have a0 : W0.cell? ⟨w.heap.size, 0, none⟩ = some (.slice p0 L0.length c0) := cell_of_heap b0 rfl
  have a1 : W0.cell? ⟨w.heap.size + 1, 0, none⟩ = some (.slice p1 L1.length c1) := cell_of_heap b1 rfl
  have b2 : HB W0 (w.heap.size + 1 + 1) #[.slice none 0 0] 32 := b2
  have A1 := hid (fun W (h : Ext W0 W) => l03Is_any (sp := none) w.heap.size 0 p0 L0.length c0 L0 css0 W (h.cell a0) M0.len M0.le (M0.cs.ext (E0.trans h)) (M0.all.imp fun _ _ => Rep.ext (E0.trans h)) M0.size M0.cnt)
  have A2 := hid (fun W (h : Ext W0 W) => l03Is_any (sp := none) (w.heap.size + 1) 0 p1 L1.length c1 L1 css1 W (h.cell a1) M1.len M1.le (M1.cs.ext (E0.trans h)) (M1.all.imp fun _ _ => Rep.ext (E0.trans h)) M1.size M1.cnt)
  have LA := hid (fun W q (h : Ext W0 W) hc => lays_app (q := q) (M0.ext (E0.trans h)) (M1.ext (E0.trans h)) hc (by unfold maxLen; omega))
  have A3 := hid (fun W g q k (h : Ext W0 W) hc hx => l03Is_any (sp := none) g 0 q (L0.length + L1.length) k (L0 ++ L1) (css0 ++ css1) W hx (LA.out W q h hc).len (LA.out W q h hc).le (LA.out W q h hc).cs (LA.out W q h hc).all (LA.out W q h hc).size (LA.out W q h hc).cnt)
  have CP := hid (fun W g q k (h : Ext W0 W) hc hx hS => l07Own_any (sp := none) g 0 q (L0.length + L1.length) k (css0 ++ css1) (L0 ++ L1) W (LA.out W q h hc) hS hx)
  have K0 := hid (fun W (h : Ext W0 W) => M0.cs.ext (E0.trans h))
  have K1 := hid (fun W (h : Ext W0 W) => M1.cs.ext (E0.trans h))
  have y0 : css0.flatten.length = L0.length * shLayer.sz := by rw [flat_len' M0.size, M0.cnt]
  have y1 : css1.flatten.length = L1.length * shLayer.sz := by rw [flat_len' M1.size, M1.cnt]
  have o1 := hid (fun u (hu : u ∈ css1.flatten) => by obtain ⟨c, hc, h⟩ := List.mem_flatten.1 hu; exact M1.one c hc u h)
  have S0 := hid (fun (h : modB L0 = true) => (modOk h).pos)
  have S1 := hid (fun (h : modB L1 = true) => (modOk h).pos)
  have I0 := hid (fun (h : 1 ≤ L0.length) => M0.cs.isS (fun h0 => by rw [h0] at y0; have : shLayer.sz = 5 := rfl; rw [this, List.length_nil] at y0; omega))
  have I1 := hid (fun (h : 1 ≤ L1.length) => M1.cs.isS (fun h0 => by rw [h0] at y1; have : shLayer.sz = 5 := rfl; rw [this, List.length_nil] at y1; omega))
  have Y0 := hid y0
  have Y1 := hid y1
  have NO := hid (fun (h : ok (L0, u0) (L1, u1) = false) => res_no h)
  have YES := hid (fun (h : ok (L0, u0) (L1, u1) = true) => res_yes h)
  have hok : ok (L0, u0) (L1, u1) = (modB L0 && (modB L1 && modB (L0 ++ L1))) := rfl
  have SM := hid (fun (h : modB (L0 ++ L1) = true) => small_of (modOk h))
  rw [hok] at NO YES
  clear k0 k1 f0 f1 b0 b1 M0 M1 hok LA y0 y1
  generalize L0.length = n0 at *
  generalize L1.length = n1 at *
  generalize css0.flatten = us0 at *
  generalize css1.flatten = us1 at *
  cases hv0 : modB L0
  · rw [NO.out (by simp [hv0])]
    rw [hv0] at A1
    clear CP SM NO YES S0 S1 I0 I1 hv0
    clear A2 A3 K0 K1 Y0 Y1
    go_enter Try.func69, Try.ntmps69
    go_wp2_with fail
    rw [← hW0]
    clear hW0
    refine (A1.out _ (Ext.refl _)).mono ?_
    rintro e w1 ⟨rfl, e1⟩
    have hb2 := b2.ext e1
    have g1 : w1.cell? ⟨w.heap.size + 1 + 1, 0, none⟩ = some (.slice none 0 0) := hb2.cell 0 rfl
    have g3 := hb2.froz 0
    go_wp2
    refine bodyPost_ret (v := .tuple #[.agg #[.slice none 0 0], .bool false]) (by simp [results, Try.results69, go_sem, g1, g3]) rfl ?_
    exact outT_no rfl (by have := E0.trans e1; (repeat (first | with_reducible exact Ext.refl _ | with_reducible assumption | ((with_reducible refine Ext.setCell ?_ ?_ _); rotate_left; focus (first | (simp; done) | (simp; omega))) | (with_reducible refine Ext.trans ?_ (Ext.alloc _ _)) | (with_reducible refine Ext.trans ?_ (Ext.drew _)) | (with_reducible refine Ext.trans ?_ (by with_reducible assumption)))))
  cases hv1 : modB L1
  · rw [NO.out (by simp [hv0, hv1])]
    rw [hv0] at A1
    rw [hv1] at A2
    clear CP SM NO YES S0 S1 I0 I1 hv0 hv1
    clear A3 K0 K1 Y0 Y1
    go_enter Try.func69, Try.ntmps69
    go_wp2_with fail
    rw [← hW0]
    clear hW0
    refine (A1.out _ (Ext.refl _)).mono ?_
    rintro e w1 ⟨rfl, e1⟩
    go_wp2_with fail
    refine (A2.out _ e1).mono ?_
    rintro e w2 ⟨rfl, e2⟩
    have E2 := e1.trans e2
    have hb2 := b2.ext E2
    have g1 : w2.cell? ⟨w.heap.size + 1 + 1, 0, none⟩ = some (.slice none 0 0) := hb2.cell 0 rfl
    have g3 := hb2.froz 0
    go_wp2
    refine bodyPost_ret (v := .tuple #[.agg #[.slice none 0 0], .bool false]) (by simp [results, Try.results69, go_sem, g1, g3]) rfl ?_
    exact outT_no rfl (by have := E0.trans E2; (repeat (first | with_reducible exact Ext.refl _ | with_reducible assumption | ((with_reducible refine Ext.setCell ?_ ?_ _); rotate_left; focus (first | (simp; done) | (simp; omega))) | (with_reducible refine Ext.trans ?_ (Ext.alloc _ _)) | (with_reducible refine Ext.trans ?_ (Ext.drew _)) | (with_reducible refine Ext.trans ?_ (by with_reducible assumption)))))
  cases hv2 : modB (L0 ++ L1)
  · rw [NO.out (by simp [hv0, hv1, hv2])]
    rw [hv0] at A1
    rw [hv1] at A2
    rw [hv2] at A3
    have P0 := S0.out hv0
    have P1 := S1.out hv1
    obtain ⟨ad0, rfl⟩ := Option.isSome_iff_exists.1 (I0.out P0)
    obtain ⟨ad1, rfl⟩ := Option.isSome_iff_exists.1 (I1.out P1)
    clear CP SM NO YES S0 S1 I0 I1 hv0 hv1 hv2
    go_enter Try.func69, Try.ntmps69
    go_wp2_with fail
    rw [← hW0]
    clear hW0
    refine (A1.out _ (Ext.refl _)).mono ?_
    rintro e w1 ⟨rfl, e1⟩
    go_wp2_with fail
    refine (A2.out _ e1).mono ?_
    rintro e w2 ⟨rfl, e2⟩
    have E2 := e1.trans e2
    have x0 := E2.cell a0
    have x1 := E2.cell a1
    have hD := Ext.drew w2
    have y0 := hD.cell x0
    have y1 := hD.cell x1
    have ED := E2.trans hD
    go_wp2_with fail
    refine wp_region_lt 6 8 (fun _ _ _ _ => False) (obj := .cells #[.slice none 0 0] 32) (by kernel_rfl) (by kernel_rfl) (by kernel_rfl) (by kernel_rfl) rfl rfl (fun a w1 => by go_simp) ?_ ?_
    · intro wf hwf
      simp only [List.take_succ_cons, List.take_zero]
      repeat (first
        | (refine x_skip rfl ?_; simp only [Act.put, ev_tmp, List.setIfInBounds_toArray, List.set_cons_succ, List.set_cons_zero, List.getD_cons_succ, List.getD_cons_zero])
        | (refine x_mv rfl rfl rfl ?_; simp only [Act.put, ev_tmp, List.setIfInBounds_toArray, List.set_cons_succ, List.set_cons_zero, List.getD_cons_succ, List.getD_cons_zero])
        | (refine x_as rfl rfl rfl ?_; simp only [Act.put, ev_tmp, List.setIfInBounds_toArray, List.set_cons_succ, List.set_cons_zero, List.getD_cons_succ, List.getD_cons_zero])
        | ((with_reducible show wpX _ _ _ _ _ _ (Oper.mk _ (Op.buildSlice _ _ _) _ _ _ _ :: _) _); refine x_empty (te := 125) (s := 5) rfl (fun w1 => by go_simp) (by decide) ?_; intro g0 hg0; simp only [Act.put, ev_tmp, List.setIfInBounds_toArray, List.set_cons_succ, List.set_cons_zero, List.getD_cons_succ, List.getD_cons_zero])
        | ((with_reducible show wpX _ _ _ _ _ _ (Oper.mk _ (Op.call _) _ _ _ _ :: _) _); refine x_appNew rfl rfl rfl rfl (K0.out _ ED) Y0.out (by omega) (by unfold maxLen; omega) (by omega) ?_; intro g17 k17 own17; simp only [Act.put, ev_tmp, List.setIfInBounds_toArray, List.set_cons_succ, List.set_cons_zero, List.getD_cons_succ, List.getD_cons_zero])
        | (refine x_run rfl fun K hK w1 hw1 => ?_; have k0 := hw1.cell (y0); have k1 := hw1.cell (y1); go_simp; refine hK _ ?_; clear hK K k0 k1 hw1 w1))
      refine x_nil ?_
      have EwF := ED.trans hwf
      have hBw := hwf.size
      refine wpAny_ready (n := 3) [6, 8] (by kernel_rfl) rfl ?_
      intro i hi
      simp only [List.mem_cons, List.not_mem_nil, or_false] at hi
      rcases hi with rfl | rfl
      · refine wpOp_app (B := w2.drew.heap.size) rfl rfl rfl rfl rfl own17 (K1.out _ EwF) Y1.out o1.out (by unfold maxLen; omega) (by omega) hBw ?_
        intro v20 w20 own20 gr20
        obtain ⟨q, k, rfl⟩ := own_val own20
        simp only [Act.put, ev_tmp, List.setIfInBounds_toArray, List.set_cons_succ, List.set_cons_zero, List.getD_cons_succ, List.getD_cons_zero]
        have E20 := EwF.grown gr20 (fun kk hk => by have := own_le own17 kk hk; have := ED.size; omega)
        refine wpAny_ready (n := 2) [7, 8] (by kernel_rfl) rfl ?_
        intro i hi
        simp only [List.mem_cons, List.not_mem_nil, or_false] at hi
        rcases hi with rfl | rfl
        · refine wpOp_run (v := .agg #[.slice q (n0 + n1) k]) (w' := w20) rfl rfl (by go_simp) ?_
          simp only [Act.put, ev_tmp, List.setIfInBounds_toArray, List.set_cons_succ, List.set_cons_zero, List.getD_cons_succ, List.getD_cons_zero]
          refine wpAny_seq [8, 9] [_, _] _ _ _ rfl (by kernel_rfl) ?_
          go_wp2_with fail
          have E21 := Ext.alloc w20 (.cells #[.slice q (n0 + n1) k] 32)
          have EF := E20.trans E21
          have X6 : (w20.alloc (.cells #[.slice q (n0 + n1) k] 32)).cell? ⟨w20.heap.size, 0, none⟩ = some (.slice q (n0 + n1) k) := (HB.new _ _ _).cell 0 rfl
          have hcs := (own_Cs own20).ext E21
          refine (A3.out _ _ q k EF hcs X6).mono ?_
          rintro e w5 ⟨rfl, e5⟩
          have E6 := EF.trans e5
          have hb2 := b2.ext E6
          have g1 : w5.cell? ⟨w.heap.size + 1 + 1, 0, none⟩ = some (.slice none 0 0) := hb2.cell 0 rfl
          have g3 := hb2.froz 0
          go_wp2
          refine bodyPost_ret (v := .tuple #[.agg #[.slice none 0 0], .bool false]) (by simp [results, Try.results69, go_sem, g1, g3]) rfl ?_
          exact outT_no rfl (by have := E0.trans E6; (repeat (first | with_reducible exact Ext.refl _ | with_reducible assumption | ((with_reducible refine Ext.setCell ?_ ?_ _); rotate_left; focus (first | (simp; done) | (simp; omega))) | (with_reducible refine Ext.trans ?_ (Ext.alloc _ _)) | (with_reducible refine Ext.trans ?_ (Ext.drew _)) | (with_reducible refine Ext.trans ?_ (by with_reducible assumption)))))
        · refine wpOp_run (v := .pointer (some ⟨w20.heap.size, 0, none⟩)) (w' := w20.alloc (.cells #[.slice none 0 0] 32)) rfl rfl (by go_simp) ?_
          simp only [Act.put, ev_tmp, List.setIfInBounds_toArray, List.set_cons_succ, List.set_cons_zero, List.getD_cons_succ, List.getD_cons_zero]
          refine wpAny_seq [7, 9] [_, _] _ _ _ rfl (by kernel_rfl) ?_
          go_wp2_with fail
          have E21 := Ext.alloc w20 (.cells #[.slice q (n0 + n1) k] 32)
          have EF := E20.trans E21
          have X6 : (w20.alloc (.cells #[.slice q (n0 + n1) k] 32)).cell? ⟨w20.heap.size, 0, none⟩ = some (.slice q (n0 + n1) k) := (HB.new _ _ _).cell 0 rfl
          have hcs := (own_Cs own20).ext E21
          refine (A3.out _ _ q k EF hcs X6).mono ?_
          rintro e w5 ⟨rfl, e5⟩
          have E6 := EF.trans e5
          have hb2 := b2.ext E6
          have g1 : w5.cell? ⟨w.heap.size + 1 + 1, 0, none⟩ = some (.slice none 0 0) := hb2.cell 0 rfl
          have g3 := hb2.froz 0
          go_wp2
          refine bodyPost_ret (v := .tuple #[.agg #[.slice none 0 0], .bool false]) (by simp [results, Try.results69, go_sem, g1, g3]) rfl ?_
          exact outT_no rfl (by have := E0.trans E6; (repeat (first | with_reducible exact Ext.refl _ | with_reducible assumption | ((with_reducible refine Ext.setCell ?_ ?_ _); rotate_left; focus (first | (simp; done) | (simp; omega))) | (with_reducible refine Ext.trans ?_ (Ext.alloc _ _)) | (with_reducible refine Ext.trans ?_ (Ext.drew _)) | (with_reducible refine Ext.trans ?_ (by with_reducible assumption)))))
      · refine wpOp_run (v := .pointer (some ⟨wf.heap.size, 0, none⟩)) (w' := wf.alloc (.cells #[.slice none 0 0] 32)) rfl rfl (by go_simp) ?_
        simp only [Act.put, ev_tmp, List.setIfInBounds_toArray, List.set_cons_succ, List.set_cons_zero, List.getD_cons_succ, List.getD_cons_zero]
        have eA := Ext.alloc wf (.cells #[.slice none 0 0] 32)
        have hb9 := HB.new wf #[.slice none 0 0] 32
        obtain ⟨WA, hWA⟩ : ∃ WA, WA = wf.alloc (.cells #[.slice none 0 0] 32) := ⟨_, rfl⟩
        obtain ⟨g, hg⟩ : ∃ g, g = wf.heap.size := ⟨_, rfl⟩
        rw [← hWA] at eA hb9 ⊢
        rw [← hg] at hb9 ⊢
        have own17 := own_ext own17 eA
        have EA := EwF.trans eA
        have gW : W0.heap.size ≤ g := by rw [hg]; exact EwF.size
        have hBA : w2.drew.heap.size ≤ WA.heap.size := Nat.le_trans hBw eA.size
        clear hWA hg
        refine wpAny_seq [6, 7, 9] [_, _, _] _ _ _ rfl (by kernel_rfl) ?_
        have hne := own_ne own17 hb9 (by decide)
        simp only [List.getElem_toArray, List.getElem_cons_succ, List.getElem_cons_zero]
        go_wp2_with ((with_reducible show wpList _ _ _ (Oper.mk _ (Op.call _) _ _ _ _ :: _) _ _); refine wl_appz rfl rfl rfl rfl own17 (K1.out _ EA) Y1.out hc1 o1.out (by unfold maxLen; omega) (by omega) hBA ?_; intro v20 w20 own20 gr20; obtain ⟨q, k, rfl⟩ := own_val own20; have hb10 : HB w20 g #[.slice none 0 0] 32 := hb9.chg (.of_grown gr20) (fun h => hne h.symm); have z1 : w20.cell? ⟨g, 0, none⟩ = some (.slice none 0 0) := hb10.cell 0 rfl; have z2 := hb10.froz 0)
        have E20 := EA.grown gr20 (fun kk hk => by have := own_le own17 kk hk; have := ED.size; omega)
        have ch := chg_cell w20 g 0 (.slice q (n0 + n1) k)
        have hne2 := own_ne own20 hb10 (by decide)
        have X6 : (w20.setCell ⟨g, 0, none⟩ (.slice q (n0 + n1) k)).cell? ⟨g, 0, none⟩ = some (.slice q (n0 + n1) k) := (hb10.set 0 _).cell 0 rfl
        have hcs := own_Cs (own_chgK own20 ch (fun b hb h => hne2 (by rw [hb, h])))
        have EF := E20.chg ch (fun b hb => by omega)
        refine (A3.out _ _ q k EF hcs X6).mono ?_
        rintro e w5 ⟨rfl, e5⟩
        have E6 := EF.trans e5
        have hb2 := b2.ext E6
        have g1 : w5.cell? ⟨w.heap.size + 1 + 1, 0, none⟩ = some (.slice none 0 0) := hb2.cell 0 rfl
        have g3 := hb2.froz 0
        go_wp2
        refine bodyPost_ret (v := .tuple #[.agg #[.slice none 0 0], .bool false]) (by simp [results, Try.results69, go_sem, g1, g3]) rfl ?_
        exact outT_no rfl (by have := E0.trans E6; (repeat (first | with_reducible exact Ext.refl _ | with_reducible assumption | ((with_reducible refine Ext.setCell ?_ ?_ _); rotate_left; focus (first | (simp; done) | (simp; omega))) | (with_reducible refine Ext.trans ?_ (Ext.alloc _ _)) | (with_reducible refine Ext.trans ?_ (Ext.drew _)) | (with_reducible refine Ext.trans ?_ (by with_reducible assumption)))))
    · intro g wf hwf hg hobj
      simp only [List.take_succ_cons, List.take_zero]
      simp only [Act.put, ev_tmp, List.setIfInBounds_toArray, List.set_cons_succ, List.set_cons_zero, List.getD_cons_succ, List.getD_cons_zero]
      repeat (first
        | (refine x_skip rfl ?_; simp only [Act.put, ev_tmp, List.setIfInBounds_toArray, List.set_cons_succ, List.set_cons_zero, List.getD_cons_succ, List.getD_cons_zero])
        | (refine x_mv rfl rfl rfl ?_; simp only [Act.put, ev_tmp, List.setIfInBounds_toArray, List.set_cons_succ, List.set_cons_zero, List.getD_cons_succ, List.getD_cons_zero])
        | (refine x_as rfl rfl rfl ?_; simp only [Act.put, ev_tmp, List.setIfInBounds_toArray, List.set_cons_succ, List.set_cons_zero, List.getD_cons_succ, List.getD_cons_zero])
        | ((with_reducible show wpX _ _ _ _ _ _ (Oper.mk _ (Op.buildSlice _ _ _) _ _ _ _ :: _) _); refine x_empty (te := 125) (s := 5) rfl (fun w1 => by go_simp) (by decide) ?_; intro g0 hg0; simp only [Act.put, ev_tmp, List.setIfInBounds_toArray, List.set_cons_succ, List.set_cons_zero, List.getD_cons_succ, List.getD_cons_zero])
        | ((with_reducible show wpX _ _ _ _ _ _ (Oper.mk _ (Op.call _) _ _ _ _ :: _) _); refine x_appNew rfl rfl rfl rfl (K0.out _ ED) Y0.out (by omega) (by unfold maxLen; omega) (by omega) ?_; intro g17 k17 own17; simp only [Act.put, ev_tmp, List.setIfInBounds_toArray, List.set_cons_succ, List.set_cons_zero, List.getD_cons_succ, List.getD_cons_zero])
        | (refine x_run rfl fun K hK w1 hw1 => ?_; have k0 := hw1.cell (y0); have k1 := hw1.cell (y1); go_simp; refine hK _ ?_; clear hK K k0 k1 hw1 w1))
      refine x_nil ?_
      have EA := ED.trans hwf
      have hBA := hwf.size
      have hb9 : HB wf g #[.slice none 0 0] 32 := hobj
      have gW : W0.heap.size ≤ g := Nat.le_trans E2.size hg
      clear hobj
      refine wpAny_seq [6, 7, 9] [_, _, _] _ _ _ rfl (by kernel_rfl) ?_
      have hne := own_ne own17 hb9 (by decide)
      simp only [List.getElem_toArray, List.getElem_cons_succ, List.getElem_cons_zero]
      go_wp2_with ((with_reducible show wpList _ _ _ (Oper.mk _ (Op.call _) _ _ _ _ :: _) _ _); refine wl_appz rfl rfl rfl rfl own17 (K1.out _ EA) Y1.out hc1 o1.out (by unfold maxLen; omega) (by omega) hBA ?_; intro v20 w20 own20 gr20; obtain ⟨q, k, rfl⟩ := own_val own20; have hb10 : HB w20 g #[.slice none 0 0] 32 := hb9.chg (.of_grown gr20) (fun h => hne h.symm); have z1 : w20.cell? ⟨g, 0, none⟩ = some (.slice none 0 0) := hb10.cell 0 rfl; have z2 := hb10.froz 0)
      have E20 := EA.grown gr20 (fun kk hk => by have := own_le own17 kk hk; have := ED.size; omega)
      have ch := chg_cell w20 g 0 (.slice q (n0 + n1) k)
      have hne2 := own_ne own20 hb10 (by decide)
      have X6 : (w20.setCell ⟨g, 0, none⟩ (.slice q (n0 + n1) k)).cell? ⟨g, 0, none⟩ = some (.slice q (n0 + n1) k) := (hb10.set 0 _).cell 0 rfl
      have hcs := own_Cs (own_chgK own20 ch (fun b hb h => hne2 (by rw [hb, h])))
      have EF := E20.chg ch (fun b hb => by omega)
      refine (A3.out _ _ q k EF hcs X6).mono ?_
      rintro e w5 ⟨rfl, e5⟩
      have E6 := EF.trans e5
      have hb2 := b2.ext E6
      have g1 : w5.cell? ⟨w.heap.size + 1 + 1, 0, none⟩ = some (.slice none 0 0) := hb2.cell 0 rfl
      have g3 := hb2.froz 0
      go_wp2
      refine bodyPost_ret (v := .tuple #[.agg #[.slice none 0 0], .bool false]) (by simp [results, Try.results69, go_sem, g1, g3]) rfl ?_
      exact outT_no rfl (by have := E0.trans E6; (repeat (first | with_reducible exact Ext.refl _ | with_reducible assumption | ((with_reducible refine Ext.setCell ?_ ?_ _); rotate_left; focus (first | (simp; done) | (simp; omega))) | (with_reducible refine Ext.trans ?_ (Ext.alloc _ _)) | (with_reducible refine Ext.trans ?_ (Ext.drew _)) | (with_reducible refine Ext.trans ?_ (by with_reducible assumption)))))
  · rw [YES.out (by simp [hv0, hv1, hv2])]
    have CQ := hid (fun W g q k h hc hx => CP.out W g q k h hc hx (SM.out hv2))
    rw [hv0] at A1
    rw [hv1] at A2
    rw [hv2] at A3
    have P0 := S0.out hv0
    have P1 := S1.out hv1
    obtain ⟨ad0, rfl⟩ := Option.isSome_iff_exists.1 (I0.out P0)
    obtain ⟨ad1, rfl⟩ := Option.isSome_iff_exists.1 (I1.out P1)
    clear CP SM NO YES S0 S1 I0 I1 hv0 hv1 hv2
    go_enter Try.func69, Try.ntmps69
    go_wp2_with fail
    rw [← hW0]
    clear hW0
    refine (A1.out _ (Ext.refl _)).mono ?_
    rintro e w1 ⟨rfl, e1⟩
    go_wp2_with fail
    refine (A2.out _ e1).mono ?_
    rintro e w2 ⟨rfl, e2⟩
    have E2 := e1.trans e2
    have x0 := E2.cell a0
    have x1 := E2.cell a1
    have hD := Ext.drew w2
    have y0 := hD.cell x0
    have y1 := hD.cell x1
    have ED := E2.trans hD
    go_wp2_with fail
    refine wp_region_lt 6 8 (fun _ _ _ _ => False) (obj := .cells #[.slice none 0 0] 32) (by kernel_rfl) (by kernel_rfl) (by kernel_rfl) (by kernel_rfl) rfl rfl (fun a w1 => by go_simp) ?_ ?_
    · intro wf hwf
      simp only [List.take_succ_cons, List.take_zero]
      repeat (first
        | (refine x_skip rfl ?_; simp only [Act.put, ev_tmp, List.setIfInBounds_toArray, List.set_cons_succ, List.set_cons_zero, List.getD_cons_succ, List.getD_cons_zero])
        | (refine x_mv rfl rfl rfl ?_; simp only [Act.put, ev_tmp, List.setIfInBounds_toArray, List.set_cons_succ, List.set_cons_zero, List.getD_cons_succ, List.getD_cons_zero])
        | (refine x_as rfl rfl rfl ?_; simp only [Act.put, ev_tmp, List.setIfInBounds_toArray, List.set_cons_succ, List.set_cons_zero, List.getD_cons_succ, List.getD_cons_zero])
        | ((with_reducible show wpX _ _ _ _ _ _ (Oper.mk _ (Op.buildSlice _ _ _) _ _ _ _ :: _) _); refine x_empty (te := 125) (s := 5) rfl (fun w1 => by go_simp) (by decide) ?_; intro g0 hg0; simp only [Act.put, ev_tmp, List.setIfInBounds_toArray, List.set_cons_succ, List.set_cons_zero, List.getD_cons_succ, List.getD_cons_zero])
        | ((with_reducible show wpX _ _ _ _ _ _ (Oper.mk _ (Op.call _) _ _ _ _ :: _) _); refine x_appNew rfl rfl rfl rfl (K0.out _ ED) Y0.out (by omega) (by unfold maxLen; omega) (by omega) ?_; intro g17 k17 own17; simp only [Act.put, ev_tmp, List.setIfInBounds_toArray, List.set_cons_succ, List.set_cons_zero, List.getD_cons_succ, List.getD_cons_zero])
        | (refine x_run rfl fun K hK w1 hw1 => ?_; have k0 := hw1.cell (y0); have k1 := hw1.cell (y1); go_simp; refine hK _ ?_; clear hK K k0 k1 hw1 w1))
      refine x_nil ?_
      have EwF := ED.trans hwf
      have hBw := hwf.size
      refine wpAny_ready (n := 3) [6, 8] (by kernel_rfl) rfl ?_
      intro i hi
      simp only [List.mem_cons, List.not_mem_nil, or_false] at hi
      rcases hi with rfl | rfl
      · refine wpOp_app (B := w2.drew.heap.size) rfl rfl rfl rfl rfl own17 (K1.out _ EwF) Y1.out o1.out (by unfold maxLen; omega) (by omega) hBw ?_
        intro v20 w20 own20 gr20
        obtain ⟨q, k, rfl⟩ := own_val own20
        simp only [Act.put, ev_tmp, List.setIfInBounds_toArray, List.set_cons_succ, List.set_cons_zero, List.getD_cons_succ, List.getD_cons_zero]
        have E20 := EwF.grown gr20 (fun kk hk => by have := own_le own17 kk hk; have := ED.size; omega)
        refine wpAny_ready (n := 2) [7, 8] (by kernel_rfl) rfl ?_
        intro i hi
        simp only [List.mem_cons, List.not_mem_nil, or_false] at hi
        rcases hi with rfl | rfl
        · refine wpOp_run (v := .agg #[.slice q (n0 + n1) k]) (w' := w20) rfl rfl (by go_simp) ?_
          simp only [Act.put, ev_tmp, List.setIfInBounds_toArray, List.set_cons_succ, List.set_cons_zero, List.getD_cons_succ, List.getD_cons_zero]
          refine wpAny_seq [8, 9] [_, _] _ _ _ rfl (by kernel_rfl) ?_
          go_wp2_with fail
          have E21 := Ext.alloc w20 (.cells #[.slice q (n0 + n1) k] 32)
          have EF := E20.trans E21
          have X6 : (w20.alloc (.cells #[.slice q (n0 + n1) k] 32)).cell? ⟨w20.heap.size, 0, none⟩ = some (.slice q (n0 + n1) k) := (HB.new _ _ _).cell 0 rfl
          have hcs := (own_Cs own20).ext E21
          refine (A3.out _ _ q k EF hcs X6).mono ?_
          rintro e w5 ⟨rfl, e5⟩
          have E6 := EF.trans e5
          have V6 := e5.cell X6
          go_wp2_with fail
          refine (CQ.out _ _ q k E6 (hcs.ext e5) V6).mono ?_
          rintro e w6 ⟨q9, k9, rfl, o9, e6⟩
          have E7 := E6.trans e6
          have hb2 := b2.ext E7
          have g1 : w6.cell? ⟨w.heap.size + 1 + 1, 0, none⟩ = some (.slice none 0 0) := hb2.cell 0 rfl
          have g3 := hb2.froz 0
          have s6 := E6.size
          go_wp2
          refine bodyPost_ret (v := .tuple #[.agg #[.slice q9 (n0 + n1) k9], .bool true]) (by simp [results, Try.results69, go_sem, g1, g3]) rfl ?_
          have ch := chg_cell w6 (w.heap.size + 1 + 1) 0 (.slice q9 (n0 + n1) k9)
          obtain ⟨bs, z1, z2, z3, z4⟩ := IsOwnY.chg o9 ch (fun b hb => by omega)
          exact ⟨_, bs, rfl, own_mod z1, z2, fun b hb => by have := z3 b hb; omega, z4.no (by decide), (E0.trans E7).chg ch (fun b hb => by omega)⟩
        · refine wpOp_run (v := .pointer (some ⟨w20.heap.size, 0, none⟩)) (w' := w20.alloc (.cells #[.slice none 0 0] 32)) rfl rfl (by go_simp) ?_
          simp only [Act.put, ev_tmp, List.setIfInBounds_toArray, List.set_cons_succ, List.set_cons_zero, List.getD_cons_succ, List.getD_cons_zero]
          refine wpAny_seq [7, 9] [_, _] _ _ _ rfl (by kernel_rfl) ?_
          go_wp2_with fail
          have E21 := Ext.alloc w20 (.cells #[.slice q (n0 + n1) k] 32)
          have EF := E20.trans E21
          have X6 : (w20.alloc (.cells #[.slice q (n0 + n1) k] 32)).cell? ⟨w20.heap.size, 0, none⟩ = some (.slice q (n0 + n1) k) := (HB.new _ _ _).cell 0 rfl
          have hcs := (own_Cs own20).ext E21
          refine (A3.out _ _ q k EF hcs X6).mono ?_
          rintro e w5 ⟨rfl, e5⟩
          have E6 := EF.trans e5
          have V6 := e5.cell X6
          go_wp2_with fail
          refine (CQ.out _ _ q k E6 (hcs.ext e5) V6).mono ?_
          rintro e w6 ⟨q9, k9, rfl, o9, e6⟩
          have E7 := E6.trans e6
          have hb2 := b2.ext E7
          have g1 : w6.cell? ⟨w.heap.size + 1 + 1, 0, none⟩ = some (.slice none 0 0) := hb2.cell 0 rfl
          have g3 := hb2.froz 0
          have s6 := E6.size
          go_wp2
          refine bodyPost_ret (v := .tuple #[.agg #[.slice q9 (n0 + n1) k9], .bool true]) (by simp [results, Try.results69, go_sem, g1, g3]) rfl ?_
          have ch := chg_cell w6 (w.heap.size + 1 + 1) 0 (.slice q9 (n0 + n1) k9)
          obtain ⟨bs, z1, z2, z3, z4⟩ := IsOwnY.chg o9 ch (fun b hb => by omega)
          exact ⟨_, bs, rfl, own_mod z1, z2, fun b hb => by have := z3 b hb; omega, z4.no (by decide), (E0.trans E7).chg ch (fun b hb => by omega)⟩
      · refine wpOp_run (v := .pointer (some ⟨wf.heap.size, 0, none⟩)) (w' := wf.alloc (.cells #[.slice none 0 0] 32)) rfl rfl (by go_simp) ?_
        simp only [Act.put, ev_tmp, List.setIfInBounds_toArray, List.set_cons_succ, List.set_cons_zero, List.getD_cons_succ, List.getD_cons_zero]
        have eA := Ext.alloc wf (.cells #[.slice none 0 0] 32)
        have hb9 := HB.new wf #[.slice none 0 0] 32
        obtain ⟨WA, hWA⟩ : ∃ WA, WA = wf.alloc (.cells #[.slice none 0 0] 32) := ⟨_, rfl⟩
        obtain ⟨g, hg⟩ : ∃ g, g = wf.heap.size := ⟨_, rfl⟩
        rw [← hWA] at eA hb9 ⊢
        rw [← hg] at hb9 ⊢
        have own17 := own_ext own17 eA
        have EA := EwF.trans eA
        have gW : W0.heap.size ≤ g := by rw [hg]; exact EwF.size
        have hBA : w2.drew.heap.size ≤ WA.heap.size := Nat.le_trans hBw eA.size
        clear hWA hg
        refine wpAny_seq [6, 7, 9] [_, _, _] _ _ _ rfl (by kernel_rfl) ?_
        have hne := own_ne own17 hb9 (by decide)
        simp only [List.getElem_toArray, List.getElem_cons_succ, List.getElem_cons_zero]
        go_wp2_with ((with_reducible show wpList _ _ _ (Oper.mk _ (Op.call _) _ _ _ _ :: _) _ _); refine wl_appz rfl rfl rfl rfl own17 (K1.out _ EA) Y1.out hc1 o1.out (by unfold maxLen; omega) (by omega) hBA ?_; intro v20 w20 own20 gr20; obtain ⟨q, k, rfl⟩ := own_val own20; have hb10 : HB w20 g #[.slice none 0 0] 32 := hb9.chg (.of_grown gr20) (fun h => hne h.symm); have z1 : w20.cell? ⟨g, 0, none⟩ = some (.slice none 0 0) := hb10.cell 0 rfl; have z2 := hb10.froz 0)
        have E20 := EA.grown gr20 (fun kk hk => by have := own_le own17 kk hk; have := ED.size; omega)
        have ch := chg_cell w20 g 0 (.slice q (n0 + n1) k)
        have hne2 := own_ne own20 hb10 (by decide)
        have X6 : (w20.setCell ⟨g, 0, none⟩ (.slice q (n0 + n1) k)).cell? ⟨g, 0, none⟩ = some (.slice q (n0 + n1) k) := (hb10.set 0 _).cell 0 rfl
        have hcs := own_Cs (own_chgK own20 ch (fun b hb h => hne2 (by rw [hb, h])))
        have EF := E20.chg ch (fun b hb => by omega)
        refine (A3.out _ _ q k EF hcs X6).mono ?_
        rintro e w5 ⟨rfl, e5⟩
        have E6 := EF.trans e5
        have V6 := e5.cell X6
        go_wp2_with fail
        refine (CQ.out _ _ q k E6 (hcs.ext e5) V6).mono ?_
        rintro e w6 ⟨q9, k9, rfl, o9, e6⟩
        have E7 := E6.trans e6
        have hb2 := b2.ext E7
        have g1 : w6.cell? ⟨w.heap.size + 1 + 1, 0, none⟩ = some (.slice none 0 0) := hb2.cell 0 rfl
        have g3 := hb2.froz 0
        have s6 := E6.size
        go_wp2
        refine bodyPost_ret (v := .tuple #[.agg #[.slice q9 (n0 + n1) k9], .bool true]) (by simp [results, Try.results69, go_sem, g1, g3]) rfl ?_
        have ch := chg_cell w6 (w.heap.size + 1 + 1) 0 (.slice q9 (n0 + n1) k9)
        obtain ⟨bs, z1, z2, z3, z4⟩ := IsOwnY.chg o9 ch (fun b hb => by omega)
        exact ⟨_, bs, rfl, own_mod z1, z2, fun b hb => by have := z3 b hb; omega, z4.no (by decide), (E0.trans E7).chg ch (fun b hb => by omega)⟩
    · intro g wf hwf hg hobj
      simp only [List.take_succ_cons, List.take_zero]
      simp only [Act.put, ev_tmp, List.setIfInBounds_toArray, List.set_cons_succ, List.set_cons_zero, List.getD_cons_succ, List.getD_cons_zero]
      repeat (first
        | (refine x_skip rfl ?_; simp only [Act.put, ev_tmp, List.setIfInBounds_toArray, List.set_cons_succ, List.set_cons_zero, List.getD_cons_succ, List.getD_cons_zero])
        | (refine x_mv rfl rfl rfl ?_; simp only [Act.put, ev_tmp, List.setIfInBounds_toArray, List.set_cons_succ, List.set_cons_zero, List.getD_cons_succ, List.getD_cons_zero])
        | (refine x_as rfl rfl rfl ?_; simp only [Act.put, ev_tmp, List.setIfInBounds_toArray, List.set_cons_succ, List.set_cons_zero, List.getD_cons_succ, List.getD_cons_zero])
        | ((with_reducible show wpX _ _ _ _ _ _ (Oper.mk _ (Op.buildSlice _ _ _) _ _ _ _ :: _) _); refine x_empty (te := 125) (s := 5) rfl (fun w1 => by go_simp) (by decide) ?_; intro g0 hg0; simp only [Act.put, ev_tmp, List.setIfInBounds_toArray, List.set_cons_succ, List.set_cons_zero, List.getD_cons_succ, List.getD_cons_zero])
        | ((with_reducible show wpX _ _ _ _ _ _ (Oper.mk _ (Op.call _) _ _ _ _ :: _) _); refine x_appNew rfl rfl rfl rfl (K0.out _ ED) Y0.out (by omega) (by unfold maxLen; omega) (by omega) ?_; intro g17 k17 own17; simp only [Act.put, ev_tmp, List.setIfInBounds_toArray, List.set_cons_succ, List.set_cons_zero, List.getD_cons_succ, List.getD_cons_zero])
        | (refine x_run rfl fun K hK w1 hw1 => ?_; have k0 := hw1.cell (y0); have k1 := hw1.cell (y1); go_simp; refine hK _ ?_; clear hK K k0 k1 hw1 w1))
      refine x_nil ?_
      have EA := ED.trans hwf
      have hBA := hwf.size
      have hb9 : HB wf g #[.slice none 0 0] 32 := hobj
      have gW : W0.heap.size ≤ g := Nat.le_trans E2.size hg
      clear hobj
      refine wpAny_seq [6, 7, 9] [_, _, _] _ _ _ rfl (by kernel_rfl) ?_
      have hne := own_ne own17 hb9 (by decide)
      simp only [List.getElem_toArray, List.getElem_cons_succ, List.getElem_cons_zero]
      go_wp2_with ((with_reducible show wpList _ _ _ (Oper.mk _ (Op.call _) _ _ _ _ :: _) _ _); refine wl_appz rfl rfl rfl rfl own17 (K1.out _ EA) Y1.out hc1 o1.out (by unfold maxLen; omega) (by omega) hBA ?_; intro v20 w20 own20 gr20; obtain ⟨q, k, rfl⟩ := own_val own20; have hb10 : HB w20 g #[.slice none 0 0] 32 := hb9.chg (.of_grown gr20) (fun h => hne h.symm); have z1 : w20.cell? ⟨g, 0, none⟩ = some (.slice none 0 0) := hb10.cell 0 rfl; have z2 := hb10.froz 0)
      have E20 := EA.grown gr20 (fun kk hk => by have := own_le own17 kk hk; have := ED.size; omega)
      have ch := chg_cell w20 g 0 (.slice q (n0 + n1) k)
      have hne2 := own_ne own20 hb10 (by decide)
      have X6 : (w20.setCell ⟨g, 0, none⟩ (.slice q (n0 + n1) k)).cell? ⟨g, 0, none⟩ = some (.slice q (n0 + n1) k) := (hb10.set 0 _).cell 0 rfl
      have hcs := own_Cs (own_chgK own20 ch (fun b hb h => hne2 (by rw [hb, h])))
      have EF := E20.chg ch (fun b hb => by omega)
      refine (A3.out _ _ q k EF hcs X6).mono ?_
      rintro e w5 ⟨rfl, e5⟩
      have E6 := EF.trans e5
      have V6 := e5.cell X6
      go_wp2_with fail
      refine (CQ.out _ _ q k E6 (hcs.ext e5) V6).mono ?_
      rintro e w6 ⟨q9, k9, rfl, o9, e6⟩
      have E7 := E6.trans e6
      have hb2 := b2.ext E7
      have g1 : w6.cell? ⟨w.heap.size + 1 + 1, 0, none⟩ = some (.slice none 0 0) := hb2.cell 0 rfl
      have g3 := hb2.froz 0
      have s6 := E6.size
      go_wp2
      refine bodyPost_ret (v := .tuple #[.agg #[.slice q9 (n0 + n1) k9], .bool true]) (by simp [results, Try.results69, go_sem, g1, g3]) rfl ?_
      have ch := chg_cell w6 (w.heap.size + 1 + 1) 0 (.slice q9 (n0 + n1) k9)
      obtain ⟨bs, z1, z2, z3, z4⟩ := IsOwnY.chg o9 ch (fun b hb => by omega)
      exact ⟨_, bs, rfl, own_mod z1, z2, fun b hb => by have := z3 b hb; omega, z4.no (by decide), (E0.trans E7).chg ch (fun b hb => by omega)⟩
end Go.Proofs.Ytangnigplachdaa.lJoinModels
