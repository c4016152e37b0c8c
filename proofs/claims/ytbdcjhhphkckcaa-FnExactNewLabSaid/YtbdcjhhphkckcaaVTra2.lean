/- ValidTraining of the program and of the reference. -/
import Derived.Test.YtbdcjhhphkckcaaVTra
namespace Go.Proofs.Ytbdcjhhphkckcaa
set_option linter.unusedSimpArgs false
set_option linter.unusedVariables false
open Go.RowKit

set_option maxRecDepth 100000 in
set_option maxHeartbeats 4000000 in
theorem ValidTraining_any (k : Int) (f1 f2 f3 f4 : Nat) (p0 p1 : Option Addr) (n0 c0 n1 c1 : Nat) (x3 x4 : Int) (ub : Nat) (css : List (List Value)) (us : List Value) (l : List shLayer.T) (s : List (List Nat)) (w : World) (L1 : Lays w p0 n0 css l) (S1 : Slts w p1 n1 us s) :
    Calls Try.prog 62 #[.agg #[.int .i64 k, .float .f32 f1, .float .f32 f2, .float .f32 f3, .float .f32 f4], .agg #[.slice p0 n0 c0, .slice p1 n1 c1, .int .i64 x3, .int .i64 x4, .float .f32 ub]] w (RetB w (vtB k l s x3 x4)) := by
  have Co := hid (fun W => ValidOptimizer_any k f1 f2 f3 f4 W)
  have Cm := hid (fun W (h : Ext w W) => ValidModel_any p0 n0 c0 l css W L1.len L1.le (L1.cs.ext h) (L1.ext h).all L1.size L1.cnt)
  have Cp := hid (fun W (h : Ext w W) ht => params_any p0 n0 c0 l css W L1.len L1.le (L1.cs.ext h) (L1.ext h).all L1.size L1.cnt ht)
  have Ca := hid (fun W (h : Ext w W) hN => areSlots_any k f1 f2 f3 f4 p1 n1 c1 (parF l).length us s W hN (S1.ext h))
  have Le0 := L1.le
  have Le1 := S1.le
  have hs := S1.len
  have hb0 := @modB_par l
  unfold maxLen at Le0 Le1
  generalize hR : vtB k l s x3 x4 = R
  unfold vtB at hR
  generalize modB l = m at *
  clear L1 S1
  cases ko : inB k 0 4
  · have KO := hid ko
    rw [ko, Bool.false_and] at hR
    clear ko hb0
    subst hR
    go_enter Try.func62, Try.ntmps62
    go_wp2_with (first
      | ((with_reducible show wpList _ _ _ (Oper.mk _ (Op.box _ _) _ _ _ _ :: _) _ _); refine wl_box (s := shOptimizer) (cs := [.int .i64 k, .float .f32 f1, .float .f32 f2, .float .f32 f3, .float .f32 f4]) rfl rfl rfl rfl (by simp [Value.oneCell']) ?_; intro b0 v0 e0 _ d0)
      | ((with_reducible show wpList _ _ _ (Oper.mk _ (Op.load _ _) _ _ _ _ :: _) _ _); refine wl_ldA (s := shOptimizer) (cs := [.int .i64 k, .float .f32 f1, .float .f32 f2, .float .f32 f3, .float .f32 f4]) rfl rfl rfl (d0.ext (Ext.alloc _ _)) rfl ?_))
    refine (Co.out _).mono ?_
    rintro e w1 ⟨rfl, e1⟩
    rw [KO.out]
    have he := (e0.trans (Ext.alloc _ _)).trans e1
    have d1 := (d0.ext (Ext.alloc _ _)).ext e1
    have x1 := e1.cellOf (b := v0.heap.size) (by simp)
    have y1 := e1.size
    go_wp2
    go_ret
    exact ⟨ret_bool (by rfl), he⟩
  rw [ko, Bool.true_and] at hR
  have KO := hid ko
  clear ko
  cases m
  · rw [Bool.false_and] at hR
    clear hb0
    subst hR
    go_enter Try.func62, Try.ntmps62
    go_wp2_with (first
      | ((with_reducible show wpList _ _ _ (Oper.mk _ (Op.box _ _) _ _ _ _ :: _) _ _); refine wl_box (s := shOptimizer) (cs := [.int .i64 k, .float .f32 f1, .float .f32 f2, .float .f32 f3, .float .f32 f4]) rfl rfl rfl rfl (by simp [Value.oneCell']) ?_; intro b0 v0 e0 _ d0)
      | ((with_reducible show wpList _ _ _ (Oper.mk _ (Op.load _ _) _ _ _ _ :: _) _ _); refine wl_ldA (s := shOptimizer) (cs := [.int .i64 k, .float .f32 f1, .float .f32 f2, .float .f32 f3, .float .f32 f4]) rfl rfl rfl (d0.ext (Ext.alloc _ _)) rfl ?_))
    refine (Co.out _).mono ?_
    rintro e w1 ⟨rfl, e1⟩
    rw [KO.out]
    have he := (e0.trans (Ext.alloc _ _)).trans e1
    have d1 := (d0.ext (Ext.alloc _ _)).ext e1
    have x1 := e1.cellOf (b := v0.heap.size) (by simp)
    have y1 := e1.size
    go_wp2_with fail
    refine (Cm.out _ he).mono ?_
    rintro e w2 ⟨rfl, e2⟩
    have x2 := e2.cellOf (b := v0.heap.size) (by simp at y1; omega)
    replace d1 := d1.ext e2
    have y2 := e2.size
    replace he := he.trans e2
    go_wp2
    go_ret
    exact ⟨ret_bool (by rfl), he⟩
  rw [Bool.true_and] at hR
  have hpl := hb0 rfl
  have Cq := hid (fun W (h : Ext w W) => Cp.out W h (Nat.le_trans hpl (by decide)))
  clear Cp hb0
  cases k3 : inB x3 0 1000
  · have K3 := hid k3
    rw [k3, Bool.false_and] at hR
    clear k3
    subst hR
    go_enter Try.func62, Try.ntmps62
    go_wp2_with (first
      | ((with_reducible show wpList _ _ _ (Oper.mk _ (Op.box _ _) _ _ _ _ :: _) _ _); refine wl_box (s := shOptimizer) (cs := [.int .i64 k, .float .f32 f1, .float .f32 f2, .float .f32 f3, .float .f32 f4]) rfl rfl rfl rfl (by simp [Value.oneCell']) ?_; intro b0 v0 e0 _ d0)
      | ((with_reducible show wpList _ _ _ (Oper.mk _ (Op.load _ _) _ _ _ _ :: _) _ _); refine wl_ldA (s := shOptimizer) (cs := [.int .i64 k, .float .f32 f1, .float .f32 f2, .float .f32 f3, .float .f32 f4]) rfl rfl rfl (d0.ext (Ext.alloc _ _)) rfl ?_))
    refine (Co.out _).mono ?_
    rintro e w1 ⟨rfl, e1⟩
    rw [KO.out]
    have he := (e0.trans (Ext.alloc _ _)).trans e1
    have d1 := (d0.ext (Ext.alloc _ _)).ext e1
    have x1 := e1.cellOf (b := v0.heap.size) (by simp)
    have y1 := e1.size
    go_wp2_with fail
    refine (Cm.out _ he).mono ?_
    rintro e w2 ⟨rfl, e2⟩
    have x2 := e2.cellOf (b := v0.heap.size) (by simp at y1; omega)
    replace d1 := d1.ext e2
    have y2 := e2.size
    replace he := he.trans e2
    go_wp2_with fail
    refine (within_any _ _ _ _).mono ?_
    rintro e wz ⟨rfl, rfl⟩
    rw [K3.out]
    go_wp2
    go_ret
    exact ⟨ret_bool (by rfl), he⟩
  rw [k3, Bool.true_and] at hR
  have K3 := hid k3
  clear k3
  cases k4 : inB x4 0 2147483647
  · have K4 := hid k4
    rw [k4, Bool.false_and] at hR
    clear k4
    subst hR
    go_enter Try.func62, Try.ntmps62
    go_wp2_with (first
      | ((with_reducible show wpList _ _ _ (Oper.mk _ (Op.box _ _) _ _ _ _ :: _) _ _); refine wl_box (s := shOptimizer) (cs := [.int .i64 k, .float .f32 f1, .float .f32 f2, .float .f32 f3, .float .f32 f4]) rfl rfl rfl rfl (by simp [Value.oneCell']) ?_; intro b0 v0 e0 _ d0)
      | ((with_reducible show wpList _ _ _ (Oper.mk _ (Op.load _ _) _ _ _ _ :: _) _ _); refine wl_ldA (s := shOptimizer) (cs := [.int .i64 k, .float .f32 f1, .float .f32 f2, .float .f32 f3, .float .f32 f4]) rfl rfl rfl (d0.ext (Ext.alloc _ _)) rfl ?_))
    refine (Co.out _).mono ?_
    rintro e w1 ⟨rfl, e1⟩
    rw [KO.out]
    have he := (e0.trans (Ext.alloc _ _)).trans e1
    have d1 := (d0.ext (Ext.alloc _ _)).ext e1
    have x1 := e1.cellOf (b := v0.heap.size) (by simp)
    have y1 := e1.size
    go_wp2_with fail
    refine (Cm.out _ he).mono ?_
    rintro e w2 ⟨rfl, e2⟩
    have x2 := e2.cellOf (b := v0.heap.size) (by simp at y1; omega)
    replace d1 := d1.ext e2
    have y2 := e2.size
    replace he := he.trans e2
    go_wp2_with fail
    refine (within_any _ _ _ _).mono ?_
    rintro e wz ⟨rfl, rfl⟩
    rw [K3.out]
    go_wp2_with fail
    refine (isSeed_any _ _).mono ?_
    rintro e wz ⟨rfl, rfl⟩
    rw [K4.out]
    go_wp2
    go_ret
    exact ⟨ret_bool (by rfl), he⟩
  rw [k4, Bool.true_and] at hR
  have K4 := hid k4
  clear k4
  generalize hPF : parF l = Pl at *
  generalize hPN : Pl.length = N at *
  by_cases h256 : N ≤ 256
  rotate_left 1
  · rw [decide_eq_false h256, Bool.false_and] at hR
    subst hR
    go_enter Try.func62, Try.ntmps62
    go_wp2_with (first
      | ((with_reducible show wpList _ _ _ (Oper.mk _ (Op.box _ _) _ _ _ _ :: _) _ _); refine wl_box (s := shOptimizer) (cs := [.int .i64 k, .float .f32 f1, .float .f32 f2, .float .f32 f3, .float .f32 f4]) rfl rfl rfl rfl (by simp [Value.oneCell']) ?_; intro b0 v0 e0 _ d0)
      | ((with_reducible show wpList _ _ _ (Oper.mk _ (Op.load _ _) _ _ _ _ :: _) _ _); refine wl_ldA (s := shOptimizer) (cs := [.int .i64 k, .float .f32 f1, .float .f32 f2, .float .f32 f3, .float .f32 f4]) rfl rfl rfl (d0.ext (Ext.alloc _ _)) rfl ?_))
    refine (Co.out _).mono ?_
    rintro e w1 ⟨rfl, e1⟩
    rw [KO.out]
    have he := (e0.trans (Ext.alloc _ _)).trans e1
    have d1 := (d0.ext (Ext.alloc _ _)).ext e1
    have x1 := e1.cellOf (b := v0.heap.size) (by simp)
    have y1 := e1.size
    go_wp2_with fail
    refine (Cm.out _ he).mono ?_
    rintro e w2 ⟨rfl, e2⟩
    have x2 := e2.cellOf (b := v0.heap.size) (by simp at y1; omega)
    replace d1 := d1.ext e2
    have y2 := e2.size
    replace he := he.trans e2
    go_wp2_with fail
    refine (within_any _ _ _ _).mono ?_
    rintro e wz ⟨rfl, rfl⟩
    rw [K3.out]
    go_wp2_with fail
    refine (isSeed_any _ _).mono ?_
    rintro e wz ⟨rfl, rfl⟩
    rw [K4.out]
    go_wp2_with fail
    refine (Cq.out _ he).mono ?_
    rintro e w3 ⟨q, cq, vs, rfl, _, _, e3⟩
    rw [hPN]
    have x3 := e3.cellOf (b := v0.heap.size) (by simp at y1 y2; omega)
    replace d1 := d1.ext e3
    replace he := he.trans e3
    go_wp2
    go_ret
    exact ⟨ret_bool (by rfl), he⟩
  rw [decide_eq_true h256, Bool.true_and] at hR
  rw [hR] at Ca
  clear hR
  go_enter Try.func62, Try.ntmps62
  go_wp2_with (first
    | ((with_reducible show wpList _ _ _ (Oper.mk _ (Op.box _ _) _ _ _ _ :: _) _ _); refine wl_box (s := shOptimizer) (cs := [.int .i64 k, .float .f32 f1, .float .f32 f2, .float .f32 f3, .float .f32 f4]) rfl rfl rfl rfl (by simp [Value.oneCell']) ?_; intro b0 v0 e0 _ d0)
    | ((with_reducible show wpList _ _ _ (Oper.mk _ (Op.load _ _) _ _ _ _ :: _) _ _); refine wl_ldA (s := shOptimizer) (cs := [.int .i64 k, .float .f32 f1, .float .f32 f2, .float .f32 f3, .float .f32 f4]) rfl rfl rfl (d0.ext (Ext.alloc _ _)) rfl ?_))
  refine (Co.out _).mono ?_
  rintro e w1 ⟨rfl, e1⟩
  rw [KO.out]
  have he := (e0.trans (Ext.alloc _ _)).trans e1
  have d1 := (d0.ext (Ext.alloc _ _)).ext e1
  have x1 := e1.cellOf (b := v0.heap.size) (by simp)
  have y1 := e1.size
  go_wp2_with fail
  refine (Cm.out _ he).mono ?_
  rintro e w2 ⟨rfl, e2⟩
  have x2 := e2.cellOf (b := v0.heap.size) (by simp at y1; omega)
  replace d1 := d1.ext e2
  have y2 := e2.size
  replace he := he.trans e2
  go_wp2_with fail
  refine (within_any _ _ _ _).mono ?_
  rintro e wz ⟨rfl, rfl⟩
  rw [K3.out]
  go_wp2_with fail
  refine (isSeed_any _ _).mono ?_
  rintro e wz ⟨rfl, rfl⟩
  rw [K4.out]
  go_wp2_with fail
  refine (Cq.out _ he).mono ?_
  rintro e w3 ⟨q, cq, vs, rfl, _, _, e3⟩
  rw [hPN]
  have x3 := e3.cellOf (b := v0.heap.size) (by simp at y1 y2; omega)
  replace d1 := d1.ext e3
  replace he := he.trans e3
  have q0 := d1.1 0 _ rfl
  rw [adr_row] at q0
  have q1 := d1.1 1 _ rfl
  rw [adr_row] at q1
  have q2 := d1.1 2 _ rfl
  rw [adr_row] at q2
  have q3 := d1.1 3 _ rfl
  rw [adr_row] at q3
  have q4 := d1.1 4 _ rfl
  rw [adr_row] at q4
  go_wp2_with fail
  refine (Ca.out _ he (Nat.le_trans h256 (by decide))).mono ?_
  rintro e w9 ⟨rfl, e9⟩
  replace he := he.trans e9
  go_wp2
  go_ret
  exact ⟨ret_bool (by first | rfl | simp), he⟩
end Go.Proofs.Ytbdcjhhphkckcaa
