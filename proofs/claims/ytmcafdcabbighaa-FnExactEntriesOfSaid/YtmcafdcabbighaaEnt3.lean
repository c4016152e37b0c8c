/- EntriesOf of both, as the law asks for them. -/
import Derived.Test.YtmcafdcabbighaaEnt2
import Derived.Test.YtmcafdcabbighaaBNum
namespace Go.Proofs.Ytmcafdcabbighaa.lEntriesOf
set_option linter.unusedSimpArgs false
set_option linter.unusedVariables false
open Go.RowKit

set_option maxRecDepth 100000 in
set_option maxHeartbeats 4000000 in
theorem l08Entries_any (l : List UInt8) (w : World) (h1 : l.length ≤ 160032) : Calls Try.prog 86 #[.string ⟨l.toArray⟩] w fun e w' => ∃ q c, e = .returned (.slice q (entGo 8 l).length c) ∧ w'.ownsRow w.heap.size 9 1 (.slice q (entGo 8 l).length c) (entGo 8 l).length (strV (entGo 8 l)) ∧ Ext w w' := by
  have hz := ba_size l
  generalize hR : entGo 8 l = R
  have HR := hid hR
  clear hR
  have hb0 : w.heap.size + 1 = (w.alloc (.cells #[] 9)).heap.size := by simp
  have hsrc : RdAt ((w.alloc (.cells #[] 9)).alloc (.cells #[.string ⟨l.toArray⟩, .int .i64 ((0 : Nat) : Int), .bool false] 122)) (w.heap.size + 1) l 0 false := by
    unfold RdAt; rw [hb0]; exact heap_alloc_new _ _
  have hstart0 : (w.alloc (.cells #[] 9)).ownsRow w.heap.size 9 1 (.slice (some ⟨w.heap.size, 0, none⟩) 0 0) 0 [] := World.ownsRow_made w #[] 0 (Nat.le_refl _) (by decide) rfl
  have hstart := own_ext hstart0 (Ext.alloc _ (.cells #[.string ⟨l.toArray⟩, .int .i64 ((0 : Nat) : Int), .bool false] 122))
  have e0 := (Ext.alloc w (.cells #[] 9)).trans (Ext.alloc _ (.cells #[.string ⟨l.toArray⟩, .int .i64 ((0 : Nat) : Int), .bool false] 122))
  generalize hbb : w.heap.size + 1 = b at *
  clear hstart0 hb0
  go_enter Try.func86, Try.ntmps86
  go_wp2
  go_loopw [3] (fun ov wr => ∃ (t : Nat) (o : List (List UInt8)) (q : Option Addr) (cq : Nat), o.length ≤ 8 ∧ t ≤ l.length ∧ ov = .slice q o.length cq ∧ wr.ownsRow w.heap.size 9 1 (.slice q o.length cq) o.length (strV o) ∧ Hid (∀ k, (Value.slice q o.length cq).ownBlock = some k → k ≠ b) ∧ Hid (o ++ entGo (8 - o.length) (l.drop t) = R) ∧ RdAt wr b l t false ∧ Ext w wr) (fun ov _ => 8 - (lenOfV ov))
  case atStart => exact ⟨0, [], _, _, by simp, by omega, rfl, hstart, hid (fun k hk => by simp [Value.ownBlock] at hk; omega), by simpa [Hid] using HR.out, hsrc, e0⟩
  case round =>
    clear hstart e0 hsrc
    obtain ⟨t, o, q, cq, ho, htl, rfl, own0, Hob, HX, src, he⟩ := hrel
    have hBb : w.heap.size ≤ b := by omega
    have hB := he.size
    by_cases hlt : o.length < 8
    · obtain ⟨k, hk⟩ : ∃ k, 8 - o.length = k + 1 := ⟨7 - o.length, by omega⟩
      have hX := HX.out
      rw [hk] at hX
      have C := take2_any b l t false 4 wr src (by omega) htl (by decide)
      have hxd0 : (l.drop t).length = l.length - t := List.length_drop
      by_cases hs : (l.drop t).length < 4
      · rw [ent_short hs, List.append_nil] at hX
        subst hX
        rw [if_pos hs, if_pos hs, decide_eq_true hs, Bool.or_true] at C
        have N := l08Number_any (List.replicate 4 0)
        rw [show leN (List.replicate 4 0) = 0 from rfl] at N
        clear HX HR hs hxd0
        go_wp2_with fail
        refine C.mono ?_
        rintro e w1 ⟨rfl, s1, c1⟩
        go_wp2_with fail
        refine (N _ (by decide)).mono ?_
        rintro e w2 ⟨rfl, rfl⟩
        have f1 := s1.c2
        have own2 := ownsRow_chg own0 c1 Hob.out
        go_wp2
        go_ret
        exact ⟨q, cq, rfl, own2, srcExt he c1 hBb⟩
      · rw [if_neg hs, if_neg hs, decide_eq_false hs, Bool.or_false] at C
        have hbd := leN_bd ((l.drop t).take 4) 4 (by simp; omega)
        have h256 : (256 : Int) ^ 4 = 4294967296 := by decide
        rw [h256] at hbd
        have N := fun W => l08Number_any ((l.drop t).take 4) W (by simp; omega)
        obtain ⟨m, hm⟩ : ∃ m : Nat, leN ((l.drop t).take 4) = m := ⟨(leN ((l.drop t).take 4)).toNat, by omega⟩
        rw [hm] at N
        by_cases hbig : 20000 < (m : Int)
        · rw [ent_big hs (by rw [hm]; exact hbig), List.append_nil] at hX
          subst hX
          have HN := hid N
          clear HX HR hs hm hbd N hxd0
          go_wp2_with fail
          refine C.mono ?_
          rintro e w1 ⟨rfl, s1, c1⟩
          go_wp2_with fail
          refine (HN.out _).mono ?_
          rintro e w2 ⟨rfl, rfl⟩
          have f1 := s1.c2
          have own2 := ownsRow_chg own0 c1 Hob.out
          go_wp2
          go_ret
          exact ⟨q, cq, rfl, own2, srcExt he c1 hBb⟩
        · have hdd : (l.drop t).drop 4 = l.drop (t + 4) := List.drop_drop
          have hxd : (l.drop (t + 4)).length = l.length - (t + 4) := List.length_drop
          by_cases hs2 : ((l.drop t).drop 4).length < m
          · rw [ent_short2 hs hm hbig hs2, List.append_nil] at hX
            subst hX
            rw [hdd] at hs2
            have D := fun w1 s1 => take2_any b l (t + 4) false m w1 s1 (by omega) (by omega) (by omega)
            rw [if_pos hs2, if_pos hs2, decide_eq_true hs2, Bool.or_true] at D
            have HN := hid N
            have HD := hid D
            clear HX HR hs hm hbd N D hs2 hxd0 hxd hdd
            go_wp2_with fail
            refine C.mono ?_
            rintro e w1 ⟨rfl, s1, c1⟩
            go_wp2_with fail
            refine (HN.out _).mono ?_
            rintro e w2 ⟨rfl, rfl⟩
            have f1 := s1.c2
            go_wp2_with fail
            refine (HD.out _ s1).mono ?_
            rintro e w2 ⟨rfl, s2, c2⟩
            have f2 := s2.c2
            have own2 := ownsRow_chg own0 (c1.trans c2) Hob.out
            go_wp2
            go_ret
            exact ⟨q, cq, rfl, own2, srcExt he (c1.trans c2) hBb⟩
          · rw [ent_one hs hm hbig hs2, hdd, List.drop_drop] at hX
            rw [hdd] at hs2
            have HX2 := hid hX
            have D := fun w1 s1 => take2_any b l (t + 4) false m w1 s1 (by omega) (by omega) (by omega)
            rw [if_neg hs2, if_neg hs2, decide_eq_false hs2, Bool.or_false] at D
            have htl2 : t + 4 + m ≤ l.length := by omega
            generalize (l.drop (t + 4)).take m = z at *
            have HN := hid N
            have HD := hid D
            clear HX HR hs hm hbd hX N D hs2 hxd0 hxd hdd
            go_wp2_with fail
            refine C.mono ?_
            rintro e w1 ⟨rfl, s1, c1⟩
            go_wp2_with fail
            refine (HN.out _).mono ?_
            rintro e w2 ⟨rfl, rfl⟩
            have f1 := s1.c2
            go_wp2_with fail
            refine (HD.out _ s1).mono ?_
            rintro e w2 ⟨rfl, s2, c2⟩
            have f2 := s2.c2
            have own2 := ownsRow_chg own0 (c1.trans c2) Hob.out
            have he2 := srcExt he (c1.trans c2) hBb
            have hB2 := he2.size
            have hb2 := s2.blk
            go_wp2_with ((with_reducible show wpList _ _ _ (Oper.mk _ (Op.buildSlice _ _ _) _ _ _ _ :: Oper.mk _ (Op.call _) _ _ _ _ :: _) _ _); refine wl_app1b (u := .string ⟨z.toArray⟩) rfl rfl rfl rfl rfl rfl rfl (fun _ => rfl) (fun _ => rfl) own2 (by unfold maxLen; omega) (by omega) (by omega) ?_; intro g c w3 own3 g3 hg3)
            go_roundw
            case rel =>
              have hln : (o ++ [z]).length = o.length + 1 := by simp
              have own4 : w3.ownsRow w.heap.size 9 1 (.slice (some ⟨g, 0, none⟩) (o.length + 1) c) (o.length + 1) (strV (o ++ [z])) := by
                have : strV (o ++ [z]) = strV o ++ [.string ⟨z.toArray⟩] := by simp [strV]
                rw [this]; exact own3
              have hgb : g ≠ b := by
                rcases hg3 with h | h
                · exact Hob.out g h
                · omega
              refine ⟨t + 4 + m, o ++ [z], _, _, by rw [hln]; omega, htl2, by rw [hln], by rw [hln]; exact own4, hid (fun z hz => by simp [Value.ownBlock] at hz; omega), ?_, s2.grown g3 (fun h => Hob.out b h rfl), he2.grown g3 (fun z hz => own_le own2 z hz)⟩
              have h7 : 8 - (o ++ [z]).length = k := by rw [hln]; omega
              rw [Hid, h7, List.append_assoc]
              exact HX2.out
            case measure => simp [lenOfV]; omega
    · have h8 : o.length = 8 := by omega
      have hX := HX.out
      rw [h8] at hX
      have hX2 : o = R := by rw [← hX]; simp [entGo]
      subst hX2
      clear HX HR hX
      go_wp2
      go_ret
      exact ⟨q, cq, rfl, own0, he⟩
set_option maxRecDepth 100000 in
set_option maxHeartbeats 1000000 in
theorem l08Archive_any (l : List UInt8) (w : World) (hl : l.length ≤ 9223372036854775807) : Calls Try.prog 85 #[.string ⟨l.toArray⟩] w fun e w' => e = .returned (.bool (decide (l.length ≤ 160032))) ∧ w = w' := by
  have hz := ba_size l
  by_cases h : l.length ≤ 160032
  · have h' : (l.length : Int) ≤ 160032 := by omega
    go_enter Try.func85, Try.ntmps85
    go_wp2
    go_ret
    exact ⟨ret_bool (by simp [h, h']), rfl⟩
  · have h' : ¬ (l.length : Int) ≤ 160032 := by omega
    go_enter Try.func85, Try.ntmps85
    go_wp2
    go_ret
    exact ⟨ret_bool (by simp [h, h']), rfl⟩
set_option maxRecDepth 100000 in
set_option maxHeartbeats 1000000 in
theorem spec_l (l : List UInt8) (w : World) (hl : l.length ≤ 9223372036854775807) : Calls Try.prog 42 #[.string ⟨l.toArray⟩] w (OutOk w (.sl .str) (resL l)) := by
  have A := l08Archive_any l
  unfold resL
  by_cases h1 : l.length ≤ 160032
  · rw [if_pos h1]
    have C := l08Entries_any l w h1
    rw [decide_eq_true h1] at A
    generalize entGo 8 l = R at *
    clear h1
    go_enter Try.func42, Try.ntmps42
    go_wp2_with fail
    refine (A _ hl).mono ?_
    rintro e w1 ⟨rfl, rfl⟩
    go_wp2_with fail
    refine C.mono ?_
    rintro e w2 ⟨q, c, rfl, own1, e1⟩
    go_wp2
    go_ret2
    exact own_outS rfl own1 rfl e1
  · rw [if_neg h1]
    rw [decide_eq_false h1] at A
    clear h1
    go_enter Try.func42, Try.ntmps42
    go_wp2_with fail
    refine (A _ hl).mono ?_
    rintro e w1 ⟨rfl, rfl⟩
    go_wp2
    go_ret2
    exact outOk_no rfl (Ext.refl _)
open lBytesNumbers in
def res (s : ByteArray) : List ByteArray × Bool := resL (lst s)
theorem res_bd (s : ByteArray) (f : Fit .str s) : tot (.sl .str) (res s).1 ≤ 1048576 := by
  have key : ∀ (o : List (List UInt8)), tot (.sl .str) (baL o) = o.length + (o.map List.length).sum := by
    intro o
    rw [tot_sl]
    unfold baL
    rw [List.length_map, List.map_map]
    have e : (o.map (tot .str ∘ fun x => (⟨x.toArray⟩ : ByteArray))) = o.map List.length := by
      apply List.map_congr_left
      intro x _
      exact ba_size x
    rw [e]
  unfold res resL
  split
  · rename_i h
    show tot (.sl .str) (baL _) ≤ 1048576
    rw [key]
    have h2 := entGo_len 8 (lBytesNumbers.lst s)
    have h3 := entGo_sum 8 (lBytesNumbers.lst s)
    omega
  · simp [tot]
theorem spec_ok (D0 : ByteArray) (w : World) (f0 : Fit .str D0) : Calls Try.prog 42 #[.string D0] w (OutOk w (.sl .str) (res D0)) := by
  have f1 : D0.size ≤ maxLen := f0
  unfold maxLen at f1
  have h := spec_l (lBytesNumbers.lst D0) w (by rw [← ba_size, lBytesNumbers.lst_eq]; omega)
  rw [lBytesNumbers.lst_eq] at h
  exact h
theorem impl_ok (D0 : ByteArray) (w : World) (f0 : Fit .str D0) : Calls Try.prog 43 #[.string D0] w (OutOk w (.sl .str) (res D0)) := by
  have f1 : D0.size ≤ maxLen := f0
  unfold maxLen at f1
  have h := impl_l (lBytesNumbers.lst D0) w (by rw [← ba_size, lBytesNumbers.lst_eq]; omega)
  rw [lBytesNumbers.lst_eq] at h
  exact h
end Go.Proofs.Ytmcafdcabbighaa.lEntriesOf
