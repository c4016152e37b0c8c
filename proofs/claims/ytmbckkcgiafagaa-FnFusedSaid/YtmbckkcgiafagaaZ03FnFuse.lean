/- A part of the proofs: Mem2, Elem. -/
import Derived.Lib.AppendStr
import Derived.Test.YtmbckkcgiafagaaZ02FnFuse
set_option linter.unusedSimpArgs false
set_option linter.unusedVariables false
set_option maxRecDepth 100000
set_option maxHeartbeats 16000000
namespace Go.Proofs.Ytmbckkcgiafagaa
open Go.RowKit
section
variable {P : Program} {w : World} {ops : Array Oper} {rest : List Oper} {o o1 o2 : Oper} {a : Act} {Q : Exit → Act → World → Prop}
def subp (p : Option Addr) (s l c : Nat) : Option Addr := if c = l then p else p.map (·.add (l * s))
theorem Cs.sub {w : World} {p : Option Addr} {vs : List Value} (h : Cs w p vs) {s l hi c : Nat} (h1 : l ≤ hi) (h2 : hi ≤ c) : Cs w (subp p s l c) ((vs.take (hi * s)).drop (l * s)) := by
 unfold subp
 by_cases hc : c = l
 · subst hc
   have : hi = c := by omega
   subst this;rw [if_pos rfl,List.drop_eq_nil_of_le (by simp;omega)];exact Cs.nil w p
 · rw [if_neg hc]
   cases p with
   | none =>
     have : vs = [] := Classical.byContradiction fun hn => by have := h.isS hn;simp at this
     subst this
     simpa using Cs.nil w none
   | some a => exact (h.take _).drop _
theorem run_slice {t e s b : Nat} {z : Value} [T : SlTy P t e s z b] {p : Option Addr} {n c l hi : Nat} {k1 k2 : IntKind} (h1 : l ≤ hi) (h2 : hi ≤ c) :
 (Instr.sliceAt t (.slice p n c) (some (.int k1 (l : Int))) (some (.int k2 (hi : Int))) none).run P w = .ok (.slice (subp p s l c) (hi - l) (c - l)) w := by
 obtain ⟨ti,hi',hzz⟩ := Option.map_eq_some_iff.1 T.inf;simp only [Prod.mk.injEq] at hzz;have hu := T.und;simp [Instr.sliceAt,Instr.slice,Instr.sliceBounds,Instr.sliceBound,asIntOf,run_underlying hu,sizeOf,typeInfo,hi',hzz.2.1,subp,h1,h2]
theorem run_sliceTo {t e s b : Nat} {z : Value} [T : SlTy P t e s z b] {p : Option Addr} {n c hi : Nat} {k2 : IntKind} (h2 : hi ≤ c) :
 (Instr.sliceAt t (.slice p n c) none (some (.int k2 (hi : Int))) none).run P w = .ok (.slice (subp p s 0 c) (hi - 0) (c - 0)) w := by
 obtain ⟨ti,hi',hzz⟩ := Option.map_eq_some_iff.1 T.inf;simp only [Prod.mk.injEq] at hzz;have hu := T.und;simp [Instr.sliceAt,Instr.slice,Instr.sliceBounds,Instr.sliceBound,asIntOf,run_underlying hu,sizeOf,typeInfo,hi',hzz.2.1,subp,h2]
theorem run_sliceFrom {t e s b : Nat} {z : Value} [T : SlTy P t e s z b] {p : Option Addr} {n c l : Nat} {k2 : IntKind} (h1 : l ≤ n) (h2 : n ≤ c) :
 (Instr.sliceAt t (.slice p n c) (some (.int k2 (l : Int))) none none).run P w = .ok (.slice (subp p s l c) (n - l) (c - l)) w := by
 obtain ⟨ti,hi',hzz⟩ := Option.map_eq_some_iff.1 T.inf;simp only [Prod.mk.injEq] at hzz;have hu := T.und;simp [Instr.sliceAt,Instr.slice,Instr.sliceBounds,Instr.sliceBound,asIntOf,run_underlying hu,sizeOf,typeInfo,hi',hzz.2.1,subp,h1,h2]
theorem wl_slice {t e s b : Nat} {z : Value} [T : SlTy P t e s z b] {x lo hi : Operand} (hg : o.guard = none) (ho : o.op = .slice t x (some lo) (some hi) none) {p : Option Addr} {n c : Nat} {k1 k2 : IntKind} {li ui : Int} {l u : Nat}
 (hx : a.eval x = .slice p n c) (hlo : a.eval lo = .int k1 li) (hhi : a.eval hi = .int k2 ui) (h1 : li = l) (h2 : ui = u) (h3 : l ≤ u) (h4 : u ≤ c)
 (h : wpList P ops Q rest (a.put o.dst (.slice (subp p s l c) (u - l) (c - l))) w) : wpList P ops Q (o :: rest) a w := by
 subst h1;subst h2;exact jbi hg (by simp [execOp,ho,hx,hlo,hhi,run_slice h3 h4]) h
theorem wl_sliceTo {t e s b : Nat} {z : Value} [T : SlTy P t e s z b] {x hi : Operand} (hg : o.guard = none) (ho : o.op = .slice t x none (some hi) none) {p : Option Addr} {n c : Nat} {k2 : IntKind} {ui : Int} {u : Nat}
 (hx : a.eval x = .slice p n c) (hhi : a.eval hi = .int k2 ui) (h2 : ui = u) (h4 : u ≤ c)
 (h : wpList P ops Q rest (a.put o.dst (.slice (subp p s 0 c) (u - 0) (c - 0))) w) : wpList P ops Q (o :: rest) a w := by
 subst h2;exact jbi hg (by simp [execOp,ho,hx,hhi,run_sliceTo h4]) h
@[go_sem] theorem run_eql_nil {t e s b : Nat} {z : Value} [T : SlTy P t e s z b] (p : Option Addr) (n c : Nat) : (binOp .eql t (.slice p n c) (.slice none 0 0)).run P w = .ok (.bool p.isNone) w :=
 Lib.run_eql_slice_nil w t e p n c 0 0 T.und
end
class ElTy (P : Program) (t : TypeId) (s : Sh) : Prop where
 und : (P.underlying t).map notAgg = some (!s.agg)
 inf : (P.info? t).map (fun i => i.size) = some s.sz
theorem Rep.one {w : World} : ∀ {s : Sh} {cs : List Value} {d : s.T},Rep w s cs d → ∀ u ∈ cs,u.oneCell' = true
 | .int,_,_,r,u,hu => by cases r;simp at hu;subst hu;rfl
 | .flt,_,_,⟨b,r,_⟩,u,hu => by cases r;simp at hu;subst hu;rfl
 | .bool,_,_,r,u,hu => by cases r;simp at hu;subst hu;rfl
 | .str,_,_,r,u,hu => by cases r;simp at hu;subst hu;rfl
 | .un,_,_,r,u,hu => by cases r;simp at hu
 | .sl e,_,_,⟨p,c,css,r,_⟩,u,hu => by cases r;simp at hu;subst hu;rfl
 | .pr a b,_,_,⟨ca,cb,r,h1,h2⟩,u,hu => by
   subst r;rcases List.mem_append.1 hu with hu | hu
   · exact h1.one u hu
   · exact h2.one u hu
theorem Rep.single {w : World} : ∀ {s : Sh} {cs : List Value} {d : s.T},s.agg = false → Rep w s cs d → ∃ v,cs = [v]
 | .int,_,_,_,r => ⟨_,r⟩
 | .flt,_,_,_,⟨b,r,_⟩ => ⟨_,r⟩
 | .bool,_,_,_,r => ⟨_,r⟩
 | .str,_,_,_,r => ⟨_,r⟩
 | .sl e,_,_,_,⟨p,c,css,r,_⟩ => ⟨_,r⟩
 | .un,_,_,h,_ => by simp [Sh.agg] at h
 | .pr a b,_,_,h,_ => by simp [Sh.agg] at h
section
variable {P : Program} {w : World} {ops : Array Oper} {rest : List Oper} {o o1 o2 o3 : Oper} {a : Act} {Q : Exit → Act → World → Prop}
theorem single_of {s : Sh} (hs : s.agg = false) {cs : List Value} (hl : cs.length = s.sz) : ∃ v,cs = [v] := by
 cases s <;> first | (simp [Sh.agg] at hs;done) | (match cs,hl with | [v],_ => exact ⟨v,rfl⟩)
theorem run_loadE {t : TypeId} {s : Sh} [T : ElTy P t s] {q : Addr} {cs : List Value} (hc : Cs w (some q) cs) (hl : cs.length = s.sz) : (Instr.loadAt t (.pointer (some q))).run P w = .ok (ofCs s cs) w := by
 obtain ⟨d,hd,hk⟩ := Option.map_eq_some_iff.1 T.und;obtain ⟨i,hi,hz⟩ := Option.map_eq_some_iff.1 T.inf
 by_cases hs : s.agg = true
 · rw [hs] at hk
   have hld : (loadCells q s.sz).run P w = .ok cs.toArray w := by
    rw [← hl];exact run_loadCells_list w q cs (fun j v hv => by have := hc.cell j v hv;rwa [jbw] at this)
   cases d <;> first | (cases hk;done) | simp [Instr.loadAt,Instr.sureAddr,loadVar,isAgg,run_underlying hd,sizeOf,typeInfo,hi,hz,hld,ofCs,hs]
 · have hs' : s.agg = false := by simpa using hs
   rw [hs'] at hk;obtain ⟨v,rfl⟩ := single_of hs' hl;have h0 : w.cell? q = some v := by have := hc.cell 0 v rfl;rwa [jbw,show q.add 0 = q by simp [Addr.add]] at this
   cases d <;> first | (cases hk;done) | simp [Instr.loadAt,Instr.sureAddr,loadVar,isAgg,run_underlying hd,load,Sem.run,h0,ofCs,hs']
theorem ofCs_cells {s : Sh} {cs : List Value} (hl : cs.length = s.sz) (h1 : ∀ u ∈ cs,u.oneCell' = true) : (ofCs s cs).cells = cs.toArray := by
 unfold ofCs
 by_cases hs : s.agg = true
 · rw [if_pos hs];rfl
 · have hs' : s.agg = false := by simpa using hs
   obtain ⟨v,rfl⟩ := single_of hs' hl;rw [if_neg hs];have := h1 v (by simp)
   cases v <;> first | rfl | (simp [Value.oneCell'] at this)
def splice (vs : List Value) (j : Nat) (cs : List Value) : List Value := vs.take j ++ cs ++ vs.drop (j + cs.length)
theorem length_splice {vs : List Value} {j : Nat} {cs : List Value} (h : j + cs.length ≤ vs.length) : (splice vs j cs).length = vs.length := by
 simp [splice];omega
theorem jbb.splice {p : Option Addr} {n c : Nat} {vs : List Value} (h : jbb w p n c vs) (j : Nat) (cs : List Value) (hj : j + cs.length ≤ vs.length) (h1 : ∀ u ∈ cs,u.oneCell' = true) (hp : 0 < vs.length) :
 ∃ g,p = some ⟨g,0,none⟩ ∧ (storeCells (adr p j) cs).run P w = .ok () (w.setCells g j cs) ∧ jbb (w.setCells g j cs) p n c (splice vs j cs) ∧ Chg (fun b => b ∈ jac p) w (w.setCells g j cs) := by
 rcases h with ⟨_,_,_,rfl⟩ | ⟨g,cur,e,rfl,hg,ht⟩
 · simp at hp
 · have hsz : vs.length ≤ cur.size := by
    have : (cur.toList.take vs.length).length = vs.length := by rw [ht]
    rw [List.length_take] at this;simp at this;omega
   have hcell : ∀ k,k < cs.length → (w.cell? ⟨g,j + 0 + k,none⟩).isSome = true := fun k hk => by
    simp [World.cell?,hg,show j + k < cur.size by omega]
   have hfr : ∀ k,k < cs.length → w.frozen? ⟨g,j + 0 + k,none⟩ = false := fun k hk => by simp [World.frozen?,hg]
   have hrun := run_storeCells_cells (P := P) g j cs 0 w hcell hfr h1;obtain ⟨hheap,hch⟩ := big cs j w cur e hg (by omega);refine ⟨g,rfl,?_,.inr ⟨g,_,e,rfl,hheap,?_⟩,hch⟩
   · rw [jap];exact hrun
   · rw [length_splice hj]
     generalize hN : vs.length = N at *;generalize hm : cs.length = m at *;have hlj : (cur.toList.take j).length = j := by rw [List.length_take];simp;omega
     have e1 : ((cur.toList.take j ++ cs ++ cur.toList.drop (j + m))).take N = cur.toList.take j ++ cs ++ (cur.toList.drop (j + m)).take (N - (j + m)) := by
      rw [List.take_append,List.take_of_length_le (by rw [List.length_append,hlj,hm];omega),List.length_append,hlj,hm]
     show (cur.toList.take j ++ cs ++ cur.toList.drop (j + m)).take N = vs.take j ++ cs ++ vs.drop (j + cs.length);rw [e1,hm,← ht,List.take_take,List.drop_take,show min j N = j by omega]
where
 big : ∀ (cs : List Value) (j : Nat) (w : World) (cur : Array Value) (e : TypeId) {g : Nat},w.heap[g]? = some (.cells cur e (0,0)) → j + cs.length ≤ cur.size →
     (w.setCells g j cs).heap[g]? = some (.cells (cur.toList.take j ++ cs ++ cur.toList.drop (j + cs.length)).toArray e (0,0)) ∧ Chg (fun b => b ∈ jac (some ⟨g,0,none⟩)) w (w.setCells g j cs)
  | [],j,w,cur,e,g,hg,hj => ⟨by simp [World.setCells,hg],Chg.refl _ _⟩
  | v :: cs,j,w,cur,e,g,hg,hj => by
    have h1 : (w.setCell ⟨g,j,none⟩ v).heap[g]? = some (.cells (cur.setIfInBounds j v) e (0,0)) := by simp [World.setCell,Array.getElem?_modify,hg]
    simp only [List.length_cons] at hj;obtain ⟨h2,h3⟩ := big cs (j + 1) _ _ e h1 (by simp;omega);refine ⟨?_,Chg.trans (b := w.setCell ⟨g,j,none⟩ v) ⟨rfl,rfl,rfl,by simp [World.setCell],fun k hk hn => Below.heap_setCell _ _ _ _ (fun h => hn (by simp [jac,h]))⟩ h3⟩;simp only [World.setCells];rw [h2]
    congr 3
    rw [Array.toList_setIfInBounds];have hl : j < cur.toList.length := by simp;omega
    simp only [List.length_cons];rw [List.take_add_one,List.take_set_of_le (by omega),List.getElem?_set_self hl,List.drop_set_of_lt (by omega)];simp [Nat.add_assoc,Nat.add_comm 1]
/-! ### Elements in a row -/
theorem flat_len : ∀ {css : List (List Value)} {s : Nat},(∀ c ∈ css,c.length = s) → css.flatten.length = css.length * s
 | [],s,_ => by simp
 | c :: css,s,h => by
   rw [List.flatten_cons,List.length_append,flat_len (fun c hc => h c (by simp [hc])),h c (by simp),List.length_cons,Nat.add_mul,Nat.one_mul,Nat.add_comm]
theorem flat_parts : ∀ {css : List (List Value)} {s i : Nat},(∀ c ∈ css,c.length = s) → (hi : i < css.length) → css.flatten = (css.take i).flatten ++ css[i] ++ (css.drop (i + 1)).flatten ∧ (css.take i).flatten.length = i * s
 | [],s,i,_,hi => by simp at hi
 | c :: css,s,0,h,hi => by simp
 | c :: css,s,i + 1,h,hi => by
   obtain ⟨h1,h2⟩ := flat_parts (css := css) (s := s) (i := i) (fun c hc => h c (by simp [hc])) (by simpa using hi);refine ⟨?_,?_⟩
   · have hi' : i < css.length := by simpa using hi
     simp only [List.flatten_cons,List.take_succ_cons,List.getElem_cons_succ,List.drop_succ_cons]
     conv => lhs;rw [h1]
     simp only [List.append_assoc]
   · rw [List.take_succ_cons,List.flatten_cons,List.length_append,h2,h c (by simp),Nat.add_mul,Nat.one_mul,Nat.add_comm]
theorem flat_get {css : List (List Value)} {s i j : Nat} (h : ∀ c ∈ css,c.length = s) (hi : i < css.length) (hj : j < s) : css.flatten[i * s + j]? = css[i][j]? := by
 obtain ⟨h1,h2⟩ := flat_parts h hi;have h3 : css[i].length = s := h _ (List.getElem_mem hi);rw [h1,List.append_assoc,List.getElem?_append_right (by omega),h2,Nat.add_sub_cancel_left,List.getElem?_append_left (by omega)]
theorem flat_splice {css : List (List Value)} {s i : Nat} {cs : List Value} (h : ∀ c ∈ css,c.length = s) (hi : i < css.length) (hc : cs.length = s) : splice css.flatten (i * s) cs = (css.set i cs).flatten := by
 obtain ⟨h1,h2⟩ := flat_parts h hi;have h3 : css[i].length = s := h _ (List.getElem_mem hi);unfold splice;rw [List.set_eq_take_append_cons_drop,if_pos hi,List.flatten_append,List.flatten_cons,h1,hc]
 have e1 : ((css.take i).flatten ++ css[i] ++ (css.drop (i + 1)).flatten).take (i * s) = (css.take i).flatten := by
  rw [List.append_assoc,← h2,List.take_left]
 have e2 : ((css.take i).flatten ++ css[i] ++ (css.drop (i + 1)).flatten).drop (i * s + s) = (css.drop (i + 1)).flatten := by
  have : ((css.take i).flatten ++ css[i]).length = i * s + s := by rw [List.length_append,h2,h3]
  rw [← this,List.drop_left]
 rw [e1,e2,List.append_assoc]
theorem flat_set {css : List (List Value)} {s i f : Nat} {u : Value} (h : ∀ c ∈ css,c.length = s) (hi : i < css.length) (hf : f < s) : css.flatten.set (i * s + f) u = (css.set i (css[i].set f u)).flatten := by
 obtain ⟨h1,h2⟩ := flat_parts h hi;have h3 : css[i].length = s := h _ (List.getElem_mem hi);rw [List.set_eq_take_append_cons_drop (l := css),if_pos hi,List.flatten_append,List.flatten_cons,h1,List.append_assoc,List.set_append_right _ _ (by omega),h2,Nat.add_sub_cancel_left,List.set_append_left _ _ (by omega)]
theorem Cs.elem {w : World} {p : Option Addr} {css : List (List Value)} {s i : Nat} (hc : Cs w p css.flatten) (h : ∀ c ∈ css,c.length = s) (hi : i < css.length) : Cs w (some (adr p (i * s))) css[i] := by
 refine ⟨fun j u hu => ?_,fun _ => rfl⟩;have hj : j < s := by have := (List.getElem?_eq_some_iff.1 hu).1;rwa [h _ (List.getElem_mem hi)] at this
 rw [jbw];have h1 := hc.cell (i * s + j) u (by rw [flat_get h hi hj];exact hu);unfold adr at h1 ⊢;rw [add_add];exact h1
theorem wl_idxloadE {t e b : Nat} {z : Value} {s : Sh} [SlTy P t e s.sz z b] [ElTy P e s] {x ix : Operand} {d : Tmp} (hg1 : o1.guard = none) (ho1 : o1.op = .indexAddr t x ix) (hg2 : o2.guard = none) (ho2 : o2.op = .load e (.tmp d))
 {p : Option Addr} {n c : Nat} {k : IntKind} {i : Int} {j : Nat} (hd : ∀ y,(a.put o1.dst y).eval (.tmp d) = y)
 (hx : a.eval x = .slice p n c) (hi : a.eval ix = .int k i) (hij : i = j) {css : List (List Value)} (hc : Cs w p css.flatten) (hall : ∀ c ∈ css,c.length = s.sz) (hvn : css.length = n) (hn : j < n) (hp : p.isSome = true) {cs : List Value} (hcs : css[j]? = some cs)
 (h : wpList P ops Q rest ((a.put o1.dst (.pointer (some (adr p (j * s.sz))))).put o2.dst (ofCs s cs)) w) : wpList P ops Q (o1 :: o2 :: rest) a w := by
 subst hij;refine wl_idx hg1 ho1 hx hi hp (by omega) (by omega) ?_;rw [Int.toNat_natCast];have hj : j < css.length := by omega
 have hce := hc.elem hall hj;obtain ⟨_,rfl⟩ := List.getElem?_eq_some_iff.1 hcs;exact jbi hg2 (by simp [execOp,ho2,hd,run_loadE (P := P) (t := e) (s := s) hce (hall _ (List.getElem_mem hj))]) h
theorem wl_ldField {t e b : Nat} {z : Value} {s : Nat} {tf : TypeId} [SlTy P t e s z b] [Cell1 P tf] {x ix : Operand} {d d' : Tmp} {f off : Nat} (hg1 : o1.guard = none) (ho1 : o1.op = .indexAddr t x ix) (hg2 : o2.guard = none) (ho2 : o2.op = .fieldAddr e (.tmp d) f) (hg3 : o3.guard = none) (ho3 : o3.op = .load tf (.tmp d'))
 {p : Option Addr} {n c : Nat} {k : IntKind} {i : Int} {j : Nat} (hd : ∀ y,(a.put o1.dst y).eval (.tmp d) = y) (hd' : ∀ y u,((a.put o1.dst y).put o2.dst u).eval (.tmp d') = u)
 (hfo : ∀ (q : Addr) (w : World),(Instr.fieldAt e (.pointer (some q)) f).run P w = .ok (.pointer (some (q.add off))) w)
 (hx : a.eval x = .slice p n c) (hi : a.eval ix = .int k i) (hij : i = j) {css : List (List Value)} (hc : Cs w p css.flatten) (hall : ∀ c ∈ css,c.length = s) (hvn : css.length = n) (hn : j < n) (hp : p.isSome = true) {cs : List Value} (hcs : css[j]? = some cs) {u : Value} (hu : cs[off]? = some u)
 (h : wpList P ops Q rest (((a.put o1.dst (.pointer (some (adr p (j * s))))).put o2.dst (.pointer (some (adr p (j * s + off))))).put o3.dst u) w) : wpList P ops Q (o1 :: o2 :: o3 :: rest) a w := by
 subst hij;refine wl_idx hg1 ho1 hx hi hp (by omega) (by omega) ?_;rw [Int.toNat_natCast];have hj : j < css.length := by omega
 obtain ⟨_,rfl⟩ := List.getElem?_eq_some_iff.1 hcs;have hadd : (adr p (j * s)).add off = adr p (j * s + off) := by unfold adr;rw [add_add]
 refine jbi hg2 (w' := w) (v := .pointer (some (adr p (j * s + off)))) (by simp [execOp,ho2,hd,hfo,hadd]) ?_;have hoff : off < s := by have := (List.getElem?_eq_some_iff.1 hu).1;rwa [hall _ (List.getElem_mem hj)] at this
 have hcell : w.cell? (adr p (j * s + off)) = some u := hc.cell _ _ (by rw [flat_get hall hj hoff];exact hu);exact jbi hg3 (by simp [execOp,ho3,hd',run_load1 hcell]) h
theorem run_storeE {t : TypeId} {s : Sh} [T : ElTy P t s] {p : Option Addr} {n c j : Nat} {css : List (List Value)} {cs : List Value} (hc : jbb w p n c css.flatten) (hall : ∀ c ∈ css,c.length = s.sz) (hj : j < css.length) (hl : cs.length = s.sz) (hs : 0 < s.sz) (h1 : ∀ u ∈ cs,u.oneCell' = true) :
 ∃ w',(Instr.storeAt t (.pointer (some (adr p (j * s.sz)))) (ofCs s cs)).run P w = .ok () w' ∧ jbb w' p n c (css.set j cs).flatten ∧ Chg (fun b => b ∈ jac p) w w' := by
 have hlen := flat_len hall
 have hlt : j * s.sz + cs.length ≤ css.flatten.length := by
  rw [hlen,hl];have : (j + 1) * s.sz ≤ css.length * s.sz := Nat.mul_le_mul_right s.sz hj;rw [Nat.add_mul] at this;omega
 obtain ⟨g,rfl,h2,h3,h4⟩ := hc.splice (P := P) (j * s.sz) cs hlt h1 (by omega);rw [flat_splice hall hj hl] at h3;obtain ⟨i,hi,hz⟩ := Option.map_eq_some_iff.1 T.inf;have hcells := ofCs_cells hl h1;refine ⟨_,?_,h3,h4⟩;simp [Instr.storeAt,Instr.sureAddr,storeVar,sizeOf,typeInfo,hi,hz,hcells,hl,h2]
end
section
variable {P : Program} {w wf : World} {ops : Array Oper} {rest : List Oper} {o o1 o2 : Oper} {a : Act} {Q : Act → Prop} {F : Option Tmp → World → World → Value → Prop}
theorem x_idxloadE {t e b : Nat} {z : Value} {s : Sh} [SlTy P t e s.sz z b] [ElTy P e s] {x ix : Operand} {d : Tmp} (hw1 : Region.wanted o1 (yielded ops a.tmps) = true) (ho1 : o1.op = .indexAddr t x ix) (hw2 : ∀ y,Region.wanted o2 (yielded ops (a.put o1.dst y).tmps) = true) (ho2 : o2.op = .load e (.tmp d))
 {p : Option Addr} {n c : Nat} {k : IntKind} {i : Int} {j : Nat} (hd : ∀ y,(a.put o1.dst y).eval (.tmp d) = y)
 (hx : a.eval x = .slice p n c) (hi : a.eval ix = .int k i) (hij : i = j) {css : List (List Value)} (hc : Cs w p css.flatten) (hall : ∀ c ∈ css,c.length = s.sz) (hvn : css.length = n) (hn : j < n) (hp : p.isSome = true) {cs : List Value} (hcs : css[j]? = some cs)
 (h : wpX P ops F w wf Q rest ((a.put o1.dst (.pointer (some (adr p (j * s.sz))))).put o2.dst (ofCs s cs))) : wpX P ops F w wf Q (o1 :: o2 :: rest) a := by
 subst hij;refine x_idx hw1 ho1 hx hi hp (by omega) (by omega) ?_;rw [Int.toNat_natCast];have hj : j < css.length := by omega
 have hce := hc.elem hall hj;obtain ⟨_,rfl⟩ := List.getElem?_eq_some_iff.1 hcs;exact x_pure (hw2 _) (fun w1 h1 => by simp [execOp,ho2,hd,run_loadE (P := P) (t := e) (s := s) (hce.ext h1) (hall _ (List.getElem_mem hj))]) h
end
section
variable {P : Program} {w wf : World} {ops : Array Oper} {rest : List Oper} {o o1 o2 o3 : Oper} {a : Act} {Q : Act → Prop} {F : Option Tmp → World → World → Value → Prop}
theorem x_ldField {t e b : Nat} {z : Value} {s : Nat} {tf : TypeId} [SlTy P t e s z b] [Cell1 P tf] {x ix : Operand} {d d' : Tmp} {f off : Nat} (hw1 : Region.wanted o1 (yielded ops a.tmps) = true) (ho1 : o1.op = .indexAddr t x ix) (hw2 : ∀ y,Region.wanted o2 (yielded ops (a.put o1.dst y).tmps) = true) (ho2 : o2.op = .fieldAddr e (.tmp d) f)
 (hw3 : ∀ y u,Region.wanted o3 (yielded ops ((a.put o1.dst y).put o2.dst u).tmps) = true) (ho3 : o3.op = .load tf (.tmp d'))
 {p : Option Addr} {n c : Nat} {k : IntKind} {i : Int} {j : Nat} (hd : ∀ y,(a.put o1.dst y).eval (.tmp d) = y) (hd' : ∀ y u,((a.put o1.dst y).put o2.dst u).eval (.tmp d') = u)
 (hfo : ∀ (q : Addr) (w : World),(Instr.fieldAt e (.pointer (some q)) f).run P w = .ok (.pointer (some (q.add off))) w)
 (hx : a.eval x = .slice p n c) (hi : a.eval ix = .int k i) (hij : i = j) {css : List (List Value)} (hc : Cs w p css.flatten) (hall : ∀ c ∈ css,c.length = s) (hvn : css.length = n) (hn : j < n) (hp : p.isSome = true) {cs : List Value} (hcs : css[j]? = some cs) {u : Value} (hu : cs[off]? = some u)
 (h : wpX P ops F w wf Q rest (((a.put o1.dst (.pointer (some (adr p (j * s))))).put o2.dst (.pointer (some (adr p (j * s + off))))).put o3.dst u)) : wpX P ops F w wf Q (o1 :: o2 :: o3 :: rest) a := by
 subst hij;refine x_idx hw1 ho1 hx hi hp (by omega) (by omega) ?_;rw [Int.toNat_natCast];have hj : j < css.length := by omega
 obtain ⟨_,rfl⟩ := List.getElem?_eq_some_iff.1 hcs;have hadd : (adr p (j * s)).add off = adr p (j * s + off) := by unfold adr;rw [add_add]
 refine x_pure (hw2 _) (v := .pointer (some (adr p (j * s + off)))) (fun w1 _ => by simp [execOp,ho2,hd,hfo,hadd]) ?_;have hoff : off < s := by have := (List.getElem?_eq_some_iff.1 hu).1;rwa [hall _ (List.getElem_mem hj)] at this
 have hcell : w.cell? (adr p (j * s + off)) = some u := hc.cell _ _ (by rw [flat_get hall hj hoff];exact hu);exact x_load1 (hw3 _ _) ho3 (hd' _ _) hcell h
end
/-! ### Elements of a slice that is read -/
theorem Cs.some_of {w : World} {p : Option Addr} {css : List (List Value)} {s i : Nat} (hc : Cs w p css.flatten) (h : ∀ c ∈ css,c.length = s) (hs : 0 < s) (hi : i < css.length) : p.isSome = true := by
 refine hc.isS fun h0 => ?_
 have := flat_len h;rw [h0,List.length_nil] at this;have : css.length * s ≠ 0 := Nat.mul_ne_zero (by omega) (by omega);omega
end Go.Proofs.Ytmbckkcgiafagaa
