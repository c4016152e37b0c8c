/- EntriesOf of the program. -/
import Derived.Test.YtmcafdcabbighaaSrc3
import Derived.Test.YtmcafdcabbighaaMStr
namespace Go.Proofs.Ytmcafdcabbighaa.lEntriesOf
set_option linter.unusedSimpArgs false
set_option linter.unusedVariables false
open Go.RowKit

def entGo : Nat → List UInt8 → List (List UInt8)
  | 0, _ => []
  | k + 1, l => if l.length < 4 then [] else if 20000 < leN (l.take 4) then [] else
      if (l.drop 4).length < (leN (l.take 4)).toNat then [] else (l.drop 4).take (leN (l.take 4)).toNat :: entGo k ((l.drop 4).drop (leN (l.take 4)).toNat)
def strV (o : List (List UInt8)) : List Value := o.map fun x => .string ⟨x.toArray⟩
def baL (o : List (List UInt8)) : List ByteArray := o.map fun x => ⟨x.toArray⟩
theorem strV_ba (o : List (List UInt8)) : strV o = (baL o).map Value.string := by simp [strV, baL]
def resL (l : List UInt8) : List ByteArray × Bool := if l.length ≤ 160032 then (baL (entGo 8 l), true) else ([], false)
theorem entGo_len : ∀ (k : Nat) (l : List UInt8), (entGo k l).length ≤ k
  | 0, _ => by simp [entGo]
  | k + 1, l => by
    unfold entGo
    split
    · simp
    · split
      · simp
      · split
        · simp
        · have := entGo_len k ((l.drop 4).drop (leN (l.take 4)).toNat)
          rw [List.length_cons]; omega
theorem entGo_sum : ∀ (k : Nat) (l : List UInt8), ((entGo k l).map List.length).sum ≤ l.length
  | 0, _ => by simp [entGo]
  | k + 1, l => by
    unfold entGo
    split
    · simp
    · split
      · simp
      · split
        · simp
        · have := entGo_sum k ((l.drop 4).drop (leN (l.take 4)).toNat)
          rw [List.map_cons, List.sum_cons, List.length_take]
          rw [List.length_drop] at this
          rw [List.length_drop] at *
          omega
theorem own_outS {w w' : World} {q : Option Addr} {c : Nat} {o : List (List UInt8)} {e : Ending} {n : Nat} (hn : o.length = n) (h : w'.ownsRow w.heap.size 9 1 (.slice q n c) n (strV o)) (he : e = .returned (.tuple #[.slice q n c, .bool true])) (hx : Ext w w') : OutOk w (.sl .str) (baL o, true) e w' := by
  subst hn
  have hl : (baL o).length = o.length := by simp [baL]
  rw [strV_ba] at h
  have h1 := own_strs (xs := baL o) (cs := [.slice q o.length c]) (bs := blocksOf q) |>.2 ⟨q, c, by rw [hl], by rw [hl]; exact ownRow_of h, by rw [hl]; exact (own_cap h).1, (own_cap h).2, rfl⟩
  refine ⟨[.slice q o.length c], _, he, h1, ?_, ?_, hx⟩
  · cases q <;> simp [blocksOf]
  · intro b hb
    cases q with
    | none => simp [blocksOf] at hb
    | some a => simp [blocksOf] at hb; subst hb; exact own_le h _ rfl
def lenOfV : Value → Nat
  | .slice _ n _ => n
  | _ => 0
theorem ent_short {k : Nat} {x : List UInt8} (h : x.length < 4) : entGo (k + 1) x = [] := by unfold entGo; rw [if_pos h]
theorem ent_big {k : Nat} {x : List UInt8} (h : ¬ x.length < 4) (h2 : 20000 < leN (x.take 4)) : entGo (k + 1) x = [] := by unfold entGo; rw [if_neg h, if_pos h2]
theorem ent_short2 {k m : Nat} {x : List UInt8} (h : ¬ x.length < 4) (hm : leN (x.take 4) = (m : Int)) (h2 : ¬ 20000 < (m : Int)) (h3 : (x.drop 4).length < m) : entGo (k + 1) x = [] := by
  unfold entGo; rw [if_neg h, hm, if_neg h2, Int.toNat_natCast, if_pos h3]
theorem ent_one {k m : Nat} {x : List UInt8} (h : ¬ x.length < 4) (hm : leN (x.take 4) = (m : Int)) (h2 : ¬ 20000 < (m : Int)) (h3 : ¬ (x.drop 4).length < m) : entGo (k + 1) x = (x.drop 4).take m :: entGo k ((x.drop 4).drop m) := by
  conv => lhs; unfold entGo
  rw [if_neg h, hm, if_neg h2, Int.toNat_natCast, if_neg h3]
theorem srcExt {w wr w1 : World} {b : Nat} (h : Ext w wr) (c : Chg (fun k => k = b) wr w1) (hb : w.heap.size ≤ b) : Ext w w1 := h.chg c fun k hk => by omega

set_option maxRecDepth 100000 in
set_option maxHeartbeats 4000000 in
theorem impl_l (l : List UInt8) (w : World) (hl : l.length ≤ 9223372036854775807) : Calls Try.prog 43 #[.string ⟨l.toArray⟩] w (OutOk w (.sl .str) (resL l)) := by
  have hz := ba_size l
  unfold resL
  by_cases h1 : l.length ≤ 160032
  rotate_left 1
  · rw [if_neg h1]
    go_enter Try.func43, Try.ntmps43
    go_wp2
    go_ret2
    exact outOk_no rfl (Ext.refl _)
  rw [if_pos h1]
  generalize hR : entGo 8 l = R
  have HR := hid hR
  clear hR
  have hsrc0 : SrcAt (w.alloc (.cells #[.string ⟨l.toArray⟩, .bool false] 103)) w.heap.size l false := heap_alloc_new _ _
  have hsrc : SrcAt ((w.alloc (.cells #[.string ⟨l.toArray⟩, .bool false] 103)).alloc (.cells #[] 9)) w.heap.size l false := by
    have hb := hsrc0.blk
    unfold SrcAt at hsrc0 ⊢
    rw [(Ext.alloc _ (.cells #[] 9)).block _ hb]; exact hsrc0
  have hstart : ((w.alloc (.cells #[.string ⟨l.toArray⟩, .bool false] 103)).alloc (.cells #[] 9)).ownsRow w.heap.size 9 1 (.slice (some ⟨(w.alloc (.cells #[.string ⟨l.toArray⟩, .bool false] 103)).heap.size, 0, none⟩) 0 0) 0 [] := World.ownsRow_made (w.alloc (.cells #[.string ⟨l.toArray⟩, .bool false] 103)) #[] 0 (by simp) (by decide) rfl
  have e0 := (Ext.alloc w (.cells #[.string ⟨l.toArray⟩, .bool false] 103)).trans (Ext.alloc _ (.cells #[] 9))
  simp only [World.size_alloc] at hstart
  generalize hbb : w.heap.size = b at *
  clear hsrc0
  go_enter Try.func43, Try.ntmps43
  go_wp2
  go_loopw [5] (fun ov wr => ∃ (x : List UInt8) (o : List (List UInt8)) (q : Option Addr) (cq : Nat), o.length ≤ 8 ∧ x.length ≤ 160032 ∧ ov = .slice q o.length cq ∧ wr.ownsRow b 9 1 (.slice q o.length cq) o.length (strV o) ∧ Hid (∀ k, (Value.slice q o.length cq).ownBlock = some k → k ≠ b) ∧ Hid (o ++ entGo (8 - o.length) x = R) ∧ SrcAt wr b x false ∧ Ext w wr) (fun ov _ => 8 - (lenOfV ov))
  case atStart => exact ⟨l, [], _, _, by simp, h1, rfl, hstart, hid (fun k hk => by simp [Value.ownBlock] at hk; omega), by simpa [Hid] using HR.out, hsrc, e0⟩
  case round =>
    clear hstart e0 hsrc
    obtain ⟨x, o, q, cq, ho, hxl, rfl, own0, Hob, HX, src, he⟩ := hrel
    have hBb : w.heap.size ≤ b := by omega
    have hB := he.size
    by_cases hlt : o.length < 8
    · obtain ⟨k, hk⟩ : ∃ k, 8 - o.length = k + 1 := ⟨7 - o.length, by omega⟩
      have hX := HX.out
      rw [hk] at hX
      have C := number_any b x false 4 wr src (by omega) (by decide)
      by_cases hs : x.length < 4
      · rw [ent_short hs, List.append_nil] at hX
        subst hX
        rw [if_pos hs, if_pos hs, decide_eq_true hs, Bool.or_true, show leN [] = 0 from rfl] at C
        clear HX HR hs
        go_wp2_with fail
        refine C.mono ?_
        rintro e w1 ⟨rfl, s1, c1⟩
        have D := take_any b x true 0 w1 s1 (by omega)
        rw [if_neg (Nat.not_lt_zero _), if_neg (Nat.not_lt_zero _), Bool.true_or] at D
        go_wp2_with fail
        refine D.mono ?_
        rintro e w2 ⟨rfl, s2, c2⟩
        have f1 := s2.c1
        have own2 := ownsRow_chg own0 (c1.trans c2) Hob.out
        go_wp2
        go_ret2
        exact own_outS rfl (own_base own2 hBb) rfl (srcExt he (c1.trans c2) hBb)
      · rw [if_neg hs, if_neg hs, decide_eq_false hs, Bool.or_false] at C
        have hbd := leN_bd (x.take 4) 4 (by simp; omega)
        have h256 : (256 : Int) ^ 4 = 4294967296 := by decide
        rw [h256] at hbd
        obtain ⟨m, hm⟩ : ∃ m : Nat, leN (x.take 4) = m := ⟨(leN (x.take 4)).toNat, by omega⟩
        by_cases hbig : 20000 < (m : Int)
        · rw [ent_big hs (by rw [hm]; exact hbig), List.append_nil] at hX
          subst hX
          rw [hm] at C
          clear HX HR hs hm hbd
          go_wp2_with fail
          refine C.mono ?_
          rintro e w1 ⟨rfl, s1, c1⟩
          have own2 := ownsRow_chg own0 c1 Hob.out
          go_wp2
          go_ret2
          exact own_outS rfl (own_base own2 hBb) rfl (srcExt he c1 hBb)
        · have hxd : (x.drop 4).length = x.length - 4 := List.length_drop
          by_cases hs2 : (x.drop 4).length < m
          · rw [ent_short2 hs hm hbig hs2, List.append_nil] at hX
            subst hX
            rw [hm] at C
            clear HX HR hs hm hbd
            go_wp2_with fail
            refine C.mono ?_
            rintro e w1 ⟨rfl, s1, c1⟩
            have D := take_any b (x.drop 4) false m w1 s1 (by omega)
            rw [if_pos hs2, if_pos hs2, decide_eq_true hs2, Bool.or_true] at D
            clear hs2
            go_wp2_with fail
            refine D.mono ?_
            rintro e w2 ⟨rfl, s2, c2⟩
            have f1 := s2.c1
            have own2 := ownsRow_chg own0 (c1.trans c2) Hob.out
            go_wp2
            go_ret2
            exact own_outS rfl (own_base own2 hBb) rfl (srcExt he (c1.trans c2) hBb)
          · rw [ent_one hs hm hbig hs2] at hX
            have HX2 := hid hX
            rw [hm] at C
            have D := fun w1 s1 => take_any b (x.drop 4) false m w1 s1 (by omega)
            rw [if_neg hs2, if_neg hs2, decide_eq_false hs2, Bool.or_false] at D
            have hyl : ((x.drop 4).drop m).length ≤ 160032 := by rw [List.length_drop, List.length_drop]; omega
            generalize (x.drop 4).take m = t at *
            generalize (x.drop 4).drop m = y at *
            have HD := hid D
            clear HX HR hs hm hbd hX hs2 hxd D
            go_wp2_with fail
            refine C.mono ?_
            rintro e w1 ⟨rfl, s1, c1⟩
            go_wp2_with fail
            refine (HD.out w1 s1).mono ?_
            rintro e w2 ⟨rfl, s2, c2⟩
            have f1 := s2.c1
            have own2 := ownsRow_chg own0 (c1.trans c2) Hob.out
            have he2 := srcExt he (c1.trans c2) hBb
            have hB2 := he2.size
            have hb2 := s2.blk
            go_wp2_with ((with_reducible show wpList _ _ _ (Oper.mk _ (Op.buildSlice _ _ _) _ _ _ _ :: Oper.mk _ (Op.call _) _ _ _ _ :: _) _ _); refine wl_app1b (u := .string ⟨t.toArray⟩) rfl rfl rfl rfl rfl rfl rfl (fun _ => rfl) (fun _ => rfl) own2 (by unfold maxLen; omega) (by omega) (by omega) ?_; intro g c w3 own3 g3 hg3)
            go_roundw
            case rel =>
              have hln : (o ++ [t]).length = o.length + 1 := by simp
              have own4 : w3.ownsRow b 9 1 (.slice (some ⟨g, 0, none⟩) (o.length + 1) c) (o.length + 1) (strV (o ++ [t])) := by
                have : strV (o ++ [t]) = strV o ++ [.string ⟨t.toArray⟩] := by simp [strV]
                rw [this]; exact own3
              have hgb : g ≠ b := by
                rcases hg3 with h | h
                · exact Hob.out g h
                · omega
              refine ⟨y, o ++ [t], _, _, by rw [hln]; omega, hyl, by rw [hln], by rw [hln]; exact own4, hid (fun z hz => by simp [Value.ownBlock] at hz; omega), ?_, s2.grown g3 (fun h => Hob.out b h rfl), he2.grown g3 (fun z hz => Nat.le_trans hBb (own_le own2 z hz))⟩
              have h7 : 8 - (o ++ [t]).length = k := by rw [hln]; omega
              rw [Hid, h7, List.append_assoc]
              exact HX2.out
            case measure => simp [lenOfV]; omega
    · have h8 : o.length = 8 := by omega
      have hX := HX.out
      rw [h8] at hX
      have hX2 : o = R := by rw [← hX]; simp [entGo]
      subst hX2
      clear HX HR hX
      go_wp2
      go_ret2
      exact own_outS rfl (own_base own0 hBb) rfl he
end Go.Proofs.Ytmcafdcabbighaa.lEntriesOf
