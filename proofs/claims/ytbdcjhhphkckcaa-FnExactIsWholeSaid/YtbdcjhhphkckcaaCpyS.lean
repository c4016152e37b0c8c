/- Models with other parameters, and copied: the reference's part. -/
import Derived.Test.YtbdcjhhphkckcaaCpyM
import Derived.Test.YtbdcjhhphkckcaaKd
namespace Go.Proofs.Ytbdcjhhphkckcaa
set_option linter.unusedSimpArgs false
set_option linter.unusedVariables false
open Go.RowKit

/-- Where the parameters of a layer begin. -/
def off (L : List shLayer.T) (j : Nat) : Nat := (parF (L.take j)).length
/-- A layer with numbers out of a list. -/
def wLay (d : shLayer.T) (xs : List Nat) (o : Nat) : shLayer.T := (d.1, d.2.1, d.2.2.1, (xs.take (o + (d.2.2.2.1 : List Nat).length)).drop o, (xs.take (o + (d.2.2.2.1 : List Nat).length + (d.2.2.2.2.1 : List Nat).length)).drop (o + (d.2.2.2.1 : List Nat).length), ())
def wthF (L : List shLayer.T) (xs : List Nat) (i : Nat) : List shLayer.T := (List.range i).filterMap fun j => L[j]?.map fun d => wLay d xs (off L j)
theorem wthF_succ {L : List shLayer.T} {xs : List Nat} {i : Nat} {d : shLayer.T} (h : L[i]? = some d) : wthF L xs (i + 1) = wthF L xs i ++ [wLay d xs (off L i)] := by
  unfold wthF
  rw [List.range_succ, List.filterMap_append]
  simp [h]
theorem wthF_len {L : List shLayer.T} {xs : List Nat} : ∀ {i : Nat}, i ≤ L.length → (wthF L xs i).length = i
  | 0, _ => rfl
  | i + 1, h => by
    rw [wthF_succ (d := L[i]) (by simp), List.length_append, wthF_len (by omega)]; rfl
theorem off_succ {L : List shLayer.T} {i : Nat} {d : shLayer.T} (h : L[i]? = some d) : off L (i + 1) = off L i + ((d.2.2.2.1 : List Nat).length + (d.2.2.2.2.1 : List Nat).length) := by
  obtain ⟨hi, rfl⟩ := List.getElem?_eq_some_iff.1 h
  unfold off
  rw [parF_take hi, List.length_append, List.length_append]
theorem off_le (L : List shLayer.T) (i : Nat) : off L i ≤ (parF L).length := parF_le L i
/-- Its own parameters make the model again. -/
theorem parF_split {L : List shLayer.T} {i : Nat} {d : shLayer.T} (h : L[i]? = some d) : parF L = parF (L.take i) ++ ((d.2.2.2.1 : List Nat) ++ ((d.2.2.2.2.1 : List Nat) ++ parF (L.drop (i + 1)))) := by
  obtain ⟨hi, rfl⟩ := List.getElem?_eq_some_iff.1 h
  conv => lhs; rw [← List.take_append_drop i L]
  unfold parF
  rw [List.flatMap_append, List.drop_eq_getElem_cons hi, List.flatMap_cons, List.append_assoc]
theorem wLay_self {L : List shLayer.T} {i : Nat} {d : shLayer.T} (h : L[i]? = some d) : wLay d (parF L) (off L i) = d := by
  obtain ⟨a, b, c, ws, bs, u⟩ := d
  have hs := parF_split h
  have ho : off L i = (parF (L.take i)).length := rfl
  unfold wLay
  dsimp only at hs ⊢
  rw [ho]
  generalize parF (L.take i) = A at *
  generalize parF (L.drop (i + 1)) = C at *
  rw [hs]
  have e1 : ((A ++ (ws ++ (bs ++ C))).take (A.length + List.length ws)).drop A.length = ws := by
    rw [← List.append_assoc, ← List.length_append, List.take_left, List.drop_left]
  have e2 : ((A ++ (ws ++ (bs ++ C))).take (A.length + List.length ws + List.length bs)).drop (A.length + List.length ws) = bs := by
    rw [← List.append_assoc, ← List.append_assoc, ← List.length_append, ← List.length_append, List.take_left, List.drop_left]
  rw [e1, e2]
theorem wthF_self {L : List shLayer.T} : ∀ {i : Nat}, i ≤ L.length → wthF L (parF L) i = L.take i
  | 0, _ => rfl
  | i + 1, h => by
    have hd : L[i]? = some L[i] := by simp
    rw [wthF_succ hd, wthF_self (by omega), wLay_self hd, take_snoc hd]
theorem part_len {xs : List Nat} {a b : Nat} (h1 : a ≤ b) (h2 : b ≤ xs.length) : ((xs.take b).drop a).length = b - a := by
  rw [List.length_drop, List.length_take, Nat.min_eq_left h2]
theorem small_off {L : List shLayer.T} (h : Small L) : (parF L).length ≤ 1536 := by
  obtain ⟨h1, h2⟩ := h
  have : ∀ (M : List shLayer.T), (∀ d ∈ M, (d.2.2.2.1 : List Nat).length ≤ 64 ∧ (d.2.2.2.2.1 : List Nat).length ≤ 64) → (parF M).length ≤ 128 * M.length := by
    intro M
    induction M with
    | nil => intro _; simp [parF]
    | cons d M ih =>
      intro hM
      have hd := hM d (by simp)
      have hr := ih (fun y hy => hM y (by simp [hy]))
      unfold parF at *
      rw [List.flatMap_cons, List.length_append, List.length_append, List.length_cons]
      omega
  have := this L h2
  omega
set_option maxRecDepth 100000 in
set_option maxHeartbeats 4000000 in
theorem l03With_any {sp : Option Nat} (bl o' : Nat) (p pl : Option Addr) (n c nl cl : Nat) (css : List (List Value)) (L : List shLayer.T) (us : List Value) (xs : List Nat) (w : World) (hL : Lays w p n css L) (hS : Small L) (f0 : w.cell? ⟨bl, o', sp⟩ = some (.slice p n c))
    (hx : xs.length = nl) (hxl : nl = (parF L).length) (hcl : nl ≤ cl) (hp0 : Cs w pl us) (hf : F32s us xs) :
    Calls Try.prog 122 #[.pointer (some ⟨bl, o', sp⟩), .slice pl nl cl] w fun e w' => ∃ q k, e = .returned (.agg #[.slice q n k]) ∧ IsOwnY [98, 22] w.heap.size (.sl shLayer) w' [.slice q n k] (wthF L xs n) ∧ Ext w w' := by
  have hn : n ≤ 12 := by have := hS.1; rw [hL.len] at this; exact this
  have ho := small_off hS
  rw [← hxl] at ho
  have HO := hid (fun i => off_le L i)
  rw [← hxl] at HO
  have HS := hid hS.2
  have HL := hid hL.len
  have HX := hid hx
  have l1 := hL.cs; have l2 := hL.all; have l3 := hL.size; have l5 := hid hL.cnt
  obtain ⟨W0, hW0⟩ : ∃ W0, W0 = (w.alloc (.cells #[.slice none 0 0] 46)).alloc (.cells #[.slice none 0 0] 46) := ⟨_, rfl⟩
  obtain ⟨E0, s0, b1, b2⟩ := box2 hW0
  have b1 : HB W0 w.heap.size #[.slice none 0 0] 46 := b1
  have b2 : HB W0 (w.heap.size + 1) #[.slice none 0 0] 46 := b2
  have hst : W0.ownsRow W0.heap.size 98 shLayer.sz (.slice none 0 0) 0 [] := ⟨rfl, .inl ⟨rfl, rfl⟩⟩
  clear hL hS hxl hx
  go_enter Try.func122, Try.ntmps122
  go_wp2_with fail
  rw [← hW0]
  clear hW0
  go_loopw [6, 7] (fun av iv wr => ∃ (i k : Nat) (q : Option Addr) (cs : List (List Value)) (bss : List (List Nat)), i ≤ n ∧ iv = .int .i64 i ∧ av = .int .i64 (off L i : Nat) ∧ HB wr (w.heap.size + 1) #[.slice q i k] 46 ∧ HB wr w.heap.size #[.slice none 0 0] 46 ∧ Hid (GrowOwn wr W0.heap.size 98 shLayer (.slice q i k) (wthF L xs i) cs bss) ∧ Hid (Tys wr [22] bss.flatten) ∧ Ext w wr ∧ W0.heap.size ≤ wr.heap.size) (fun _ iv _ => n - (intOf iv).toNat)
  case atStart => exact ⟨0, 0, none, [], [], by omega, rfl, rfl, b2, b1, GrowOwn.empty hst, fun b hb => by simp at hb, E0, Nat.le_refl _⟩
  case round =>
    clear b1 b2 hst E0
    obtain ⟨i, k, q, cs, bss, hi, rfl, rfl, B2, B1, HG, HT, he, hsz⟩ := hrel
    have x0 := he.cell f0
    by_cases hlt : i < n
    · have hil : i < L.length := by rw [HL.out]; exact hlt
      obtain ⟨ci, hci, ri⟩ := l2.get i L[i] (by simp)
      have hs1 : p.isSome = true := l1.some_of l3 (by decide) (show 0 < css.length by rw [l5.out]; omega)
      have hp := l1.ext he
      have one := ri.one
      obtain ⟨hw1, hw2⟩ := HS.out L[i] (by simp)
      obtain ⟨pw, cw, pb, cb, uw, ub, rfl, _, _⟩ := lay_full ri
      have hgt : L[i]? = some L[i] := by simp
      have HD := hid (wthF_succ (xs := xs) hgt)
      have HE := hid (off_succ hgt)
      have hlen := wthF_len (L := L) (xs := xs) (i := i) (by omega)
      have HLn := hid hlen
      have hoff := HO.out (i + 1)
      rw [HE.out] at hoff
      generalize off L i = o at *
      have hwl : wLay L[i] xs o = (L[i].1, L[i].2.1, L[i].2.2.1, (xs.take (o + (L[i].2.2.2.1 : List Nat).length)).drop o, (xs.take (o + (L[i].2.2.2.1 : List Nat).length + (L[i].2.2.2.2.1 : List Nat).length)).drop (o + (L[i].2.2.2.1 : List Nat).length), ()) := rfl
      have C1 := hid (fun W (h : Ext w W) => l02Own_any (subp pl 1 o cl) (o + (L[i].2.2.2.1 : List Nat).length - o) (cl - o) _ _ W (part_len (xs := xs) (a := o) (b := o + (L[i].2.2.2.1 : List Nat).length) (by omega) (by rw [HX.out]; omega)) (by omega) (by omega) (by have h2 := (hp0.ext h).sub (s := 1) (l := o) (hi := o + (L[i].2.2.2.1 : List Nat).length) (c := cl) (by omega) (by omega); rw [Nat.mul_one, Nat.mul_one] at h2; exact h2) (hf.part _ _))
      have C2 := hid (fun W (h : Ext w W) => l02Own_any (subp pl 1 (o + (L[i].2.2.2.1 : List Nat).length) cl) (o + (L[i].2.2.2.1 : List Nat).length + (L[i].2.2.2.2.1 : List Nat).length - (o + (L[i].2.2.2.1 : List Nat).length)) (cl - (o + (L[i].2.2.2.1 : List Nat).length)) _ _ W (part_len (xs := xs) (a := o + (L[i].2.2.2.1 : List Nat).length) (b := o + (L[i].2.2.2.1 : List Nat).length + (L[i].2.2.2.2.1 : List Nat).length) (by omega) (by rw [HX.out]; omega)) (by omega) (by omega) (by have h2 := (hp0.ext h).sub (s := 1) (l := o + (L[i].2.2.2.1 : List Nat).length) (hi := o + (L[i].2.2.2.1 : List Nat).length + (L[i].2.2.2.2.1 : List Nat).length) (c := cl) (by omega) (by omega); rw [Nat.mul_one, Nat.mul_one] at h2; exact h2) (hf.part _ _))
      have P1 := hid (part_len (xs := xs) (a := o) (b := o + (L[i].2.2.2.1 : List Nat).length) (by omega) (by rw [HX.out]; omega))
      have P2 := hid (part_len (xs := xs) (a := o + (L[i].2.2.2.1 : List Nat).length) (b := o + (L[i].2.2.2.1 : List Nat).length + (L[i].2.2.2.2.1 : List Nat).length) (by omega) (by rw [HX.out]; omega))
      rw [hwl] at HD
      generalize L[i] = d at *
      obtain ⟨d1, d2, d3, ws, bs, du⟩ := d
      dsimp only at hci one C1 C2 HD hw1 hw2 HE hoff P1 P2
      generalize hlw0 : ws.length = lw at *
      generalize hlb0 : bs.length = lb at *
      generalize (xs.take (o + lw)).drop o = ys at *
      generalize (xs.take (o + lw + lb)).drop (o + lw) = zs at *
      rw [show o + lw - o = lw by omega] at C1 P1
      rw [show o + lw + lb - (o + lw) = lb by omega] at C2 P2
      have q1 : IntKind.i64.wrap ((o : Int) + (lw : Int)) = ((o + lw : Nat) : Int) := by rw [← Int.natCast_add]; exact wrap_in _ (by omega) (by omega)
      have q2 : IntKind.i64.wrap (((o + lw : Nat) : Int) + (lb : Int)) = ((o + lw + lb : Nat) : Int) := by rw [← Int.natCast_add]; exact wrap_in _ (by omega) (by omega)
      have q3 : IntKind.i64.wrap ((o : Int) + (lw : Int) + (lb : Int)) = ((o + lw + lb : Nat) : Int) := by rw [← Int.natCast_add, ← Int.natCast_add]; exact wrap_in _ (by omega) (by omega)
      have q4 : IntKind.i64.wrap ((lw : Int) + (lb : Int)) = ((lw + lb : Nat) : Int) := by rw [← Int.natCast_add]; exact wrap_in _ (by omega) (by omega)
      have q5 : IntKind.i64.wrap ((o : Int) + ((lw + lb : Nat) : Int)) = ((o + (lw + lb) : Nat) : Int) := by rw [← Int.natCast_add]; exact wrap_in _ (by omega) (by omega)
      clear ri hlen hwl hlw0 hlb0
      have g2 : wr.cell? ⟨w.heap.size + 1, 0, none⟩ = some (.slice q i k) := B2.cell 0 rfl
      have hB2 := B2.lt
      have b5 := HB.new wr #[.int .i64 d1, .int .i64 d2, .int .i64 d3, .slice pw lw cw, .slice pb lb cb] 98
      obtain ⟨W1, hW1⟩ : ∃ W1, W1 = wr.alloc (.cells #[.int .i64 d1, .int .i64 d2, .int .i64 d3, .slice pw lw cw, .slice pb lb cb] 98) := ⟨_, rfl⟩
      have E1 : Ext wr W1 := by subst hW1; exact Ext.alloc _ _
      rw [← hW1] at b5
      have hW1s := b5.lt
      go_wp2_with (first | ((with_reducible show wpList _ _ _ (Oper.mk _ (Op.indexAddr _ _ _) _ _ _ _ :: Oper.mk _ (Op.load _ _) _ _ _ _ :: _) _ _); refine wl_idxloadE (s := shLayer) (j := i) rfl rfl rfl rfl (fun _ => rfl) rfl rfl rfl hp l3 l5.out hlt hs1 hci ?_; simp only [ofCs, Sh.agg, if_true]) | ((with_reducible show wpList _ _ _ (Oper.mk _ (Op.slice _ _ _ _ _) _ _ _ _ :: _) _ _); refine wl_slice (l := o) (u := o + lw) rfl rfl rfl rfl rfl rfl (by first | rfl | exact q1) (by omega) (by omega) ?_))
      rw [← hW1]
      refine (C1.out _ (he.trans E1)).mono ?_
      clear hW1
      intro e w2 h2
      obtain ⟨qw, kw, bw, rfl, ow, ndw, low, e2, tw⟩ := retFl_thing3 P1.out h2
      have E2 := E1.trans e2
      have b6 := b5.ext e2
      have m3 : w2.cell? ⟨wr.heap.size, 3, none⟩ = some (.slice pw lw cw) := b6.cell 3 rfl
      clear h2 b5
      go_wp2_with (first | ((with_reducible show wpList _ _ _ (Oper.mk _ (Op.store _ _ _) _ _ _ _ :: _) _ _); refine wl_stHB (j := 3) rfl rfl b6 rfl rfl rfl rfl ?_; intro w3 b7 ch3; have E3 := E2.chg ch3 (fun b hb => by omega); have m4 : w3.cell? ⟨wr.heap.size, 4, none⟩ = some (.slice pb lb cb) := b7.cell 4 rfl) | ((with_reducible show wpList _ _ _ (Oper.mk _ (Op.slice _ _ _ _ _) _ _ _ _ :: _) _ _); refine wl_slice (l := o + lw) (u := o + lw + lb) rfl rfl rfl rfl rfl (by first | rfl | exact q1) (by first | rfl | exact q2 | exact q3) (by omega) (by omega) ?_))
      refine (C2.out _ (he.trans E3)).mono ?_
      intro e w4 h4
      obtain ⟨qb, kb, bb, rfl, ob, ndb, lob, e4, tb⟩ := retFl_thing3 P2.out h4
      have E4 := E3.trans e4
      have b8 := b7.ext e4
      clear h4 b7
      have hrow := HG.out.row
      rw [HLn.out] at hrow
      go_wp2_with (first | ((with_reducible show wpList _ _ _ (Oper.mk _ (Op.store _ _ _) _ _ _ _ :: _) _ _); refine wl_stHB (j := 4) rfl rfl b8 rfl rfl rfl rfl ?_; intro w5 b9 ch5; have E5 := E4.chg ch5 (fun b hb => by omega); have k0 : w5.cell? ⟨wr.heap.size, 0, none⟩ = some (.int .i64 d1) := b9.cell 0 rfl; have k1 : w5.cell? ⟨wr.heap.size, 1, none⟩ = some (.int .i64 d2) := b9.cell 1 rfl; have k2 : w5.cell? ⟨wr.heap.size, 2, none⟩ = some (.int .i64 d3) := b9.cell 2 rfl; have k3 : w5.cell? ⟨wr.heap.size, 3, none⟩ = some (.slice qw lw kw) := b9.cell 3 rfl; have k4 : w5.cell? ⟨wr.heap.size, 4, none⟩ = some (.slice qb lb kb) := b9.cell 4 rfl; have g5 := E5.cell g2) | ((with_reducible show wpList _ _ _ (Oper.mk _ (Op.buildSlice _ _ _) _ _ _ _ :: Oper.mk _ (Op.call _) _ _ _ _ :: _) _ _); refine wl_app1b (u := .agg #[.int .i64 d1, .int .i64 d2, .int .i64 d3, .slice qw lw kw, .slice qb lb kb]) rfl rfl rfl rfl rfl (by rfl) (by rfl) (fun _ => rfl) (fun _ => rfl) (own_ext hrow E5) (by unfold maxLen; omega) (by omega) (by have := E5.size; omega) ?_; intro g9 c9 w9 own9 gr9 hw9; have hg9 : HB w9 (w.heap.size + 1) #[.slice q i k] 46 := (B2.ext E5).chg (.of_grown gr9) (fun h => by have := own_le hrow _ h.symm; omega)) | ((with_reducible show wpList _ _ _ (Oper.mk _ (Op.store _ _ _) _ _ _ _ :: _) _ _); refine wl_stHB (j := 0) rfl rfl hg9 rfl rfl rfl rfl ?_; intro w10 b10 ch10))
      go_roundw
      case rel =>
        have tw5 := ((tw.chg ch3 (fun b hb h => by have h : b = _ := h; have := low b hb; omega)).ext e4).chg ch5 (fun b hb h => by have h : b = _ := h; have := low b hb; omega)
        have tb5 := tb.chg ch5 (fun b hb h => by have h : b = _ := h; have := lob b hb; have := e2.size; have := ch3.size; omega)
        have T9 : Tys w10 [22] (bss ++ [bw ++ bb]).flatten := by
          have hh : (bss ++ [bw ++ bb]).flatten = bss.flatten ++ (bw ++ bb) := by simp
          rw [hh]
          refine ((((HT.out.ext E5).app (tw5.app tb5)).chg (.of_grown gr9) (fun b hb h => ?_)).chg ch10 (fun b hb h => ?_))
          · rcases List.mem_append.1 hb with hb | hb
            · exact (HG.out.lo b hb).2 h.symm
            · have hlt2 := own_lt hrow b h.symm
              rcases List.mem_append.1 hb with hb | hb
              · have := low b hb; omega
              · have := lob b hb; have := e2.size; have := ch3.size; omega
          · have h : b = _ := h
            rcases List.mem_append.1 hb with hb | hb
            · have := (HG.out.lo b hb).1; omega
            · rcases List.mem_append.1 hb with hb | hb
              · have := low b hb; omega
              · have := lob b hb; have := e2.size; have := ch3.size; omega
        have ow3 := ow.chg ch3 (fun b hb h => by have := low b hb; omega)
        have ow5 : Own w5 (.sl .flt) [.slice qw lw kw] ys bw := (ow3.ext e4).chg ch5 (fun b hb h => by have := low b hb; omega)
        have hs3 := ch3.size
        have hs2 := e2.size
        have ob5 : Own w5 (.sl .flt) [.slice qb lb kb] zs bb := ob.chg ch5 (fun b hb h => by have := lob b hb; omega)
        have H9 := HG.out.snoc E5 (own_lay (d := (d1, d2, d3, ys, zs, ())) ow5 ob5) (nodup_app ndw ndb (fun x hx => by have := ow.lt x hx; have := e2.size; omega) (fun x hx => lob x hx)) (fun b hb => by
          rcases List.mem_append.1 hb with h | h
          · have := low b h; omega
          · have := lob b h; omega) hsz (n := i) HLn.out own9 gr9 hw9
        rw [← HD.out] at H9
        exact ⟨i + 1, c9, some ⟨g9, 0, none⟩, _, _, by omega, by go_num, by rw [HE.out]; go_num, b10, ((B1.ext E5).chg (.of_grown gr9) (fun h => by have := own_le hrow _ h.symm; omega)).chg ch10 (fun h => by omega), H9.chgB ch10 (fun b hb => by omega), T9, ((he.trans E5).grown gr9 (fun kk hk => by have := own_le hrow kk hk; omega)).chg ch10 (fun b hb => by omega), by have := E5.size; have := gr9.size; have := ch10.size; omega⟩
      case measure => simp [intOf]; omega
    · obtain rfl : i = n := by omega
      have HG3 := hid (HG.out.ownY (ts := [98, 22]) (HT.out.mono (by simp)) (by simp))
      have hB1 := B1.lt
      have g2 : wr.cell? ⟨w.heap.size + 1, 0, none⟩ = some (.slice q i k) := B2.cell 0 rfl
      have g1 : wr.cell? ⟨w.heap.size, 0, none⟩ = some (.slice none 0 0) := B1.cell 0 rfl
      have g3 := B1.froz 0
      clear HG
      go_wp2
      refine bodyPost_ret (v := .agg #[.slice q i k]) (by simp [results, Try.results122, go_sem, g1, g3]) rfl ?_
      have ch := chg_cell wr w.heap.size 0 (.slice q i k)
      exact ⟨q, k, rfl, (IsOwnY.chg HG3.out ch (fun b hb => by omega)).base (by omega), he.chg ch (fun b hb => by omega)⟩
set_option maxRecDepth 100000 in
set_option maxHeartbeats 4000000 in
theorem l07Own_any {sp : Option Nat} (bl o' : Nat) (p : Option Addr) (n c : Nat) (css : List (List Value)) (L : List shLayer.T) (w : World) (hL : Lays w p n css L) (hS : Small L) (f0 : w.cell? ⟨bl, o', sp⟩ = some (.slice p n c)) :
    Calls Try.prog 67 #[.pointer (some ⟨bl, o', sp⟩)] w fun e w' => ∃ q k, e = .returned (.agg #[.slice q n k]) ∧ IsOwnY [98, 22] w.heap.size (.sl shLayer) w' [.slice q n k] L ∧ Ext w w' := by
  have ho := small_off hS
  have hself := wthF_self (L := L) (i := n) (by rw [hL.len]; exact Nat.le_refl _)
  rw [List.take_of_length_le (by rw [hL.len]; exact Nat.le_refl _)] at hself
  have A := hid (fun W (h : Ext w W) => l03Params_any bl o' p n c L css W (h.cell f0) hL.len hL.le (hL.cs.ext h) (hL.all.imp fun _ _ => Rep.ext h) hL.size hL.cnt (by omega))
  have B := hid (fun W (h : Ext w W) pl nl cl us h1 h2 h3 h4 h5 => l03With_any (sp := sp) bl o' p pl n c nl cl css L us (parF L) W (hL.ext h) hS (h.cell f0) h1 h2 h3 h4 h5)
  rw [hself] at B
  obtain ⟨W0, hW0⟩ : ∃ W0, W0 = w.alloc (.cells #[.slice none 0 0] 46) := ⟨_, rfl⟩
  have E0 : Ext w W0 := by subst hW0; exact Ext.alloc _ _
  have b1 : HB W0 w.heap.size #[.slice none 0 0] 46 := by subst hW0; exact HB.new _ _ _
  have hs0 := b1.lt
  clear hL hS hself
  go_enter Try.func67, Try.ntmps67
  go_wp2_with fail
  rw [← hW0]
  clear hW0
  refine (A.out _ E0).mono ?_
  intro e w2 h2
  obtain ⟨q2, c2, bs2, rfl, o2, nd2, lo2, e2⟩ := retFl_thing h2
  obtain ⟨p2, c2', us2, hc2, x1, x2, x3, _⟩ := rep_flts.1 o2.rep
  cases hc2
  clear h2 o2 nd2 lo2
  have E2 := E0.trans e2
  go_wp2_with fail
  refine (B.out _ E2 q2 _ c2 us2 rfl rfl x3 x1 x2).mono ?_
  rintro e w3 ⟨q3, k3, rfl, o3, e3⟩
  have E3 := E2.trans e3
  have b3 := (b1.ext e2).ext e3
  have g1 : w3.cell? ⟨w.heap.size, 0, none⟩ = some (.slice none 0 0) := b3.cell 0 rfl
  have g3 := b3.froz 0
  go_wp2
  refine bodyPost_ret (v := .agg #[.slice q3 n k3]) (by simp [results, Try.results67, go_sem, g1, g3]) rfl ?_
  have ch := chg_cell w3 w.heap.size 0 (.slice q3 n k3)
  have hs2 := e2.size
  exact ⟨q3, k3, rfl, (IsOwnY.chg o3 ch (fun b hb => by omega)).base (by omega), E3.chg ch (fun b hb => by omega)⟩
end Go.Proofs.Ytbdcjhhphkckcaa
