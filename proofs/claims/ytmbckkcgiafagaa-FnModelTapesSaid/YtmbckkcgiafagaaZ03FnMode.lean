/- A part of the proofs: Elem, Mk, HTensor, Ten. -/
import Derived.Test.YtmbckkcgiafagaaZ02FnMode
import Derived.IntWalk
set_option linter.unusedSimpArgs false
set_option linter.unusedVariables false
set_option maxRecDepth 100000
set_option maxHeartbeats 16000000
namespace Go.Proofs.Ytmbckkcgiafagaa
open Go.RowKit
class ElTy (P : Program) (t : TypeId) (s : Sh) : Prop where
 und : (P.underlying t).map notAgg = some (!s.agg)
 inf : (P.info? t).map (fun i => i.size) = some s.sz
theorem Rep.one {w : World} : ∀ {s : Sh} {cs : List Value} {d : s.T},Rep w s cs d → ∀ u ∈ cs,u.oneCell' = true
 | .int,_,_,r,u,hu => by cases r;simp at hu;subst hu;rfl
 | .flt,_,_,⟨b,r,_⟩,u,hu => by cases r;simp at hu;subst hu;rfl
 | .bool,_,_,r,u,hu => by cases r;simp at hu;subst hu;rfl
 | .str,_,_,r,u,hu => by cases r;simp at hu;subst hu;rfl
 | .un,_,_,r,u,hu => by cases r;simp at hu
 | .sl e,_,_,⟨p,c,css,r,_⟩,u,hu => by cases r;simp at hu;subst hu;rfl
 | .pr a b,_,_,⟨ca,cb,r,h1,h2⟩,u,hu => by
   subst r;rcases List.mem_append.1 hu with hu | hu
   · exact h1.one u hu
   · exact h2.one u hu
theorem Rep.single {w : World} : ∀ {s : Sh} {cs : List Value} {d : s.T},s.agg = false → Rep w s cs d → ∃ v,cs = [v]
 | .int,_,_,_,r => ⟨_,r⟩
 | .flt,_,_,_,⟨b,r,_⟩ => ⟨_,r⟩
 | .bool,_,_,_,r => ⟨_,r⟩
 | .str,_,_,_,r => ⟨_,r⟩
 | .sl e,_,_,_,⟨p,c,css,r,_⟩ => ⟨_,r⟩
 | .un,_,_,h,_ => by simp [Sh.agg] at h
 | .pr a b,_,_,h,_ => by simp [Sh.agg] at h
section
variable {P : Program} {w : World} {ops : Array Oper} {rest : List Oper} {o o1 o2 o3 : Oper} {a : Act} {Q : Exit → Act → World → Prop}
theorem single_of {s : Sh} (hs : s.agg = false) {cs : List Value} (hl : cs.length = s.sz) : ∃ v,cs = [v] := by
 cases s <;> first | (simp [Sh.agg] at hs;done) | (match cs,hl with | [v],_ => exact ⟨v,rfl⟩)
theorem run_loadE {t : TypeId} {s : Sh} [T : ElTy P t s] {q : Addr} {cs : List Value} (hc : Cs w (some q) cs) (hl : cs.length = s.sz) : (Instr.loadAt t (.pointer (some q))).run P w = .ok (ofCs s cs) w := by
 obtain ⟨d,hd,hk⟩ := Option.map_eq_some_iff.1 T.und;obtain ⟨i,hi,hz⟩ := Option.map_eq_some_iff.1 T.inf
 by_cases hs : s.agg = true
 · rw [hs] at hk
   have hld : (loadCells q s.sz).run P w = .ok cs.toArray w := by
    rw [← hl];exact run_loadCells_list w q cs (fun j v hv => by have := hc.cell j v hv;rwa [jcu] at this)
   cases d <;> first | (cases hk;done) | simp [Instr.loadAt,Instr.sureAddr,loadVar,isAgg,run_underlying hd,sizeOf,typeInfo,hi,hz,hld,ofCs,hs]
 · have hs' : s.agg = false := by simpa using hs
   rw [hs'] at hk;obtain ⟨v,rfl⟩ := single_of hs' hl;have h0 : w.cell? q = some v := by have := hc.cell 0 v rfl;rwa [jcu,show q.add 0 = q by simp [Addr.add]] at this
   cases d <;> first | (cases hk;done) | simp [Instr.loadAt,Instr.sureAddr,loadVar,isAgg,run_underlying hd,load,Sem.run,h0,ofCs,hs']
theorem ofCs_cells {s : Sh} {cs : List Value} (hl : cs.length = s.sz) (h1 : ∀ u ∈ cs,u.oneCell' = true) : (ofCs s cs).cells = cs.toArray := by
 unfold ofCs
 by_cases hs : s.agg = true
 · rw [if_pos hs];rfl
 · have hs' : s.agg = false := by simpa using hs
   obtain ⟨v,rfl⟩ := single_of hs' hl;rw [if_neg hs];have := h1 v (by simp)
   cases v <;> first | rfl | (simp [Value.oneCell'] at this)
def splice (vs : List Value) (j : Nat) (cs : List Value) : List Value := vs.take j ++ cs ++ vs.drop (j + cs.length)
theorem length_splice {vs : List Value} {j : Nat} {cs : List Value} (h : j + cs.length ≤ vs.length) : (splice vs j cs).length = vs.length := by
 simp [splice];omega
theorem jcb.splice {p : Option Addr} {n c : Nat} {vs : List Value} (h : jcb w p n c vs) (j : Nat) (cs : List Value) (hj : j + cs.length ≤ vs.length) (h1 : ∀ u ∈ cs,u.oneCell' = true) (hp : 0 < vs.length) :
 ∃ g,p = some ⟨g,0,none⟩ ∧ (storeCells (adr p j) cs).run P w = .ok () (w.setCells g j cs) ∧ jcb (w.setCells g j cs) p n c (splice vs j cs) ∧ Chg (fun b => b ∈ jaj p) w (w.setCells g j cs) := by
 rcases h with ⟨_,_,_,rfl⟩ | ⟨g,cur,e,rfl,hg,ht⟩
 · simp at hp
 · have hsz : vs.length ≤ cur.size := by
    have : (cur.toList.take vs.length).length = vs.length := by rw [ht]
    rw [List.length_take] at this;simp at this;omega
   have hcell : ∀ k,k < cs.length → (w.cell? ⟨g,j + 0 + k,none⟩).isSome = true := fun k hk => by
    simp [World.cell?,hg,show j + k < cur.size by omega]
   have hfr : ∀ k,k < cs.length → w.frozen? ⟨g,j + 0 + k,none⟩ = false := fun k hk => by simp [World.frozen?,hg]
   have hrun := run_storeCells_cells (P := P) g j cs 0 w hcell hfr h1;obtain ⟨hheap,hch⟩ := big cs j w cur e hg (by omega);refine ⟨g,rfl,?_,.inr ⟨g,_,e,rfl,hheap,?_⟩,hch⟩
   · rw [jbn];exact hrun
   · rw [length_splice hj]
     generalize hN : vs.length = N at *;generalize hm : cs.length = m at *;have hlj : (cur.toList.take j).length = j := by rw [List.length_take];simp;omega
     have e1 : ((cur.toList.take j ++ cs ++ cur.toList.drop (j + m))).take N = cur.toList.take j ++ cs ++ (cur.toList.drop (j + m)).take (N - (j + m)) := by
      rw [List.take_append,List.take_of_length_le (by rw [List.length_append,hlj,hm];omega),List.length_append,hlj,hm]
     show (cur.toList.take j ++ cs ++ cur.toList.drop (j + m)).take N = vs.take j ++ cs ++ vs.drop (j + cs.length);rw [e1,hm,← ht,List.take_take,List.drop_take,show min j N = j by omega]
where
 big : ∀ (cs : List Value) (j : Nat) (w : World) (cur : Array Value) (e : TypeId) {g : Nat},w.heap[g]? = some (.cells cur e (0,0)) → j + cs.length ≤ cur.size →
     (w.setCells g j cs).heap[g]? = some (.cells (cur.toList.take j ++ cs ++ cur.toList.drop (j + cs.length)).toArray e (0,0)) ∧ Chg (fun b => b ∈ jaj (some ⟨g,0,none⟩)) w (w.setCells g j cs)
  | [],j,w,cur,e,g,hg,hj => ⟨by simp [World.setCells,hg],Chg.refl _ _⟩
  | v :: cs,j,w,cur,e,g,hg,hj => by
    have h1 : (w.setCell ⟨g,j,none⟩ v).heap[g]? = some (.cells (cur.setIfInBounds j v) e (0,0)) := by simp [World.setCell,Array.getElem?_modify,hg]
    simp only [List.length_cons] at hj;obtain ⟨h2,h3⟩ := big cs (j + 1) _ _ e h1 (by simp;omega);refine ⟨?_,Chg.trans (b := w.setCell ⟨g,j,none⟩ v) ⟨rfl,rfl,rfl,by simp [World.setCell],fun k hk hn => Below.heap_setCell _ _ _ _ (fun h => hn (by simp [jaj,h]))⟩ h3⟩;simp only [World.setCells];rw [h2]
    congr 3
    rw [Array.toList_setIfInBounds];have hl : j < cur.toList.length := by simp;omega
    simp only [List.length_cons];rw [List.take_add_one,List.take_set_of_le (by omega),List.getElem?_set_self hl,List.drop_set_of_lt (by omega)];simp [Nat.add_assoc,Nat.add_comm 1]
/-! ### Elements in a row -/
theorem flat_len : ∀ {css : List (List Value)} {s : Nat},(∀ c ∈ css,c.length = s) → css.flatten.length = css.length * s
 | [],s,_ => by simp
 | c :: css,s,h => by
   rw [List.flatten_cons,List.length_append,flat_len (fun c hc => h c (by simp [hc])),h c (by simp),List.length_cons,Nat.add_mul,Nat.one_mul,Nat.add_comm]
theorem flat_parts : ∀ {css : List (List Value)} {s i : Nat},(∀ c ∈ css,c.length = s) → (hi : i < css.length) → css.flatten = (css.take i).flatten ++ css[i] ++ (css.drop (i + 1)).flatten ∧ (css.take i).flatten.length = i * s
 | [],s,i,_,hi => by simp at hi
 | c :: css,s,0,h,hi => by simp
 | c :: css,s,i + 1,h,hi => by
   obtain ⟨h1,h2⟩ := flat_parts (css := css) (s := s) (i := i) (fun c hc => h c (by simp [hc])) (by simpa using hi);refine ⟨?_,?_⟩
   · have hi' : i < css.length := by simpa using hi
     simp only [List.flatten_cons,List.take_succ_cons,List.getElem_cons_succ,List.drop_succ_cons]
     conv => lhs;rw [h1]
     simp only [List.append_assoc]
   · rw [List.take_succ_cons,List.flatten_cons,List.length_append,h2,h c (by simp),Nat.add_mul,Nat.one_mul,Nat.add_comm]
theorem flat_get {css : List (List Value)} {s i j : Nat} (h : ∀ c ∈ css,c.length = s) (hi : i < css.length) (hj : j < s) : css.flatten[i * s + j]? = css[i][j]? := by
 obtain ⟨h1,h2⟩ := flat_parts h hi;have h3 : css[i].length = s := h _ (List.getElem_mem hi);rw [h1,List.append_assoc,List.getElem?_append_right (by omega),h2,Nat.add_sub_cancel_left,List.getElem?_append_left (by omega)]
theorem flat_splice {css : List (List Value)} {s i : Nat} {cs : List Value} (h : ∀ c ∈ css,c.length = s) (hi : i < css.length) (hc : cs.length = s) : splice css.flatten (i * s) cs = (css.set i cs).flatten := by
 obtain ⟨h1,h2⟩ := flat_parts h hi;have h3 : css[i].length = s := h _ (List.getElem_mem hi);unfold splice;rw [List.set_eq_take_append_cons_drop,if_pos hi,List.flatten_append,List.flatten_cons,h1,hc]
 have e1 : ((css.take i).flatten ++ css[i] ++ (css.drop (i + 1)).flatten).take (i * s) = (css.take i).flatten := by
  rw [List.append_assoc,← h2,List.take_left]
 have e2 : ((css.take i).flatten ++ css[i] ++ (css.drop (i + 1)).flatten).drop (i * s + s) = (css.drop (i + 1)).flatten := by
  have : ((css.take i).flatten ++ css[i]).length = i * s + s := by rw [List.length_append,h2,h3]
  rw [← this,List.drop_left]
 rw [e1,e2,List.append_assoc]
theorem Cs.elem {w : World} {p : Option Addr} {css : List (List Value)} {s i : Nat} (hc : Cs w p css.flatten) (h : ∀ c ∈ css,c.length = s) (hi : i < css.length) : Cs w (some (adr p (i * s))) css[i] := by
 refine ⟨fun j u hu => ?_,fun _ => rfl⟩;have hj : j < s := by have := (List.getElem?_eq_some_iff.1 hu).1;rwa [h _ (List.getElem_mem hi)] at this
 rw [jcu];have h1 := hc.cell (i * s + j) u (by rw [flat_get h hi hj];exact hu);unfold adr at h1 ⊢;rw [add_add];exact h1
theorem jax {t e b : Nat} {z : Value} {s : Sh} [SlTy P t e s.sz z b] [ElTy P e s] {x ix : Operand} {d : Tmp} (hg1 : o1.guard = none) (ho1 : o1.op = .indexAddr t x ix) (hg2 : o2.guard = none) (ho2 : o2.op = .load e (.tmp d))
 {p : Option Addr} {n c : Nat} {k : IntKind} {i : Int} {j : Nat} (hd : ∀ y,(a.put o1.dst y).eval (.tmp d) = y)
 (hx : a.eval x = .slice p n c) (hi : a.eval ix = .int k i) (hij : i = j) {css : List (List Value)} (hc : Cs w p css.flatten) (hall : ∀ c ∈ css,c.length = s.sz) (hvn : css.length = n) (hn : j < n) (hp : p.isSome = true) {cs : List Value} (hcs : css[j]? = some cs)
 (h : wpList P ops Q rest ((a.put o1.dst (.pointer (some (adr p (j * s.sz))))).put o2.dst (ofCs s cs)) w) : wpList P ops Q (o1 :: o2 :: rest) a w := by
 subst hij;refine wl_idx hg1 ho1 hx hi hp (by omega) (by omega) ?_;rw [Int.toNat_natCast];have hj : j < css.length := by omega
 have hce := hc.elem hall hj;obtain ⟨_,rfl⟩ := List.getElem?_eq_some_iff.1 hcs;exact jb4 hg2 (by simp [execOp,ho2,hd,run_loadE (P := P) (t := e) (s := s) hce (hall _ (List.getElem_mem hj))]) h
theorem wl_ldField {t e b : Nat} {z : Value} {s : Nat} {tf : TypeId} [SlTy P t e s z b] [Cell1 P tf] {x ix : Operand} {d d' : Tmp} {f off : Nat} (hg1 : o1.guard = none) (ho1 : o1.op = .indexAddr t x ix) (hg2 : o2.guard = none) (ho2 : o2.op = .fieldAddr e (.tmp d) f) (hg3 : o3.guard = none) (ho3 : o3.op = .load tf (.tmp d'))
 {p : Option Addr} {n c : Nat} {k : IntKind} {i : Int} {j : Nat} (hd : ∀ y,(a.put o1.dst y).eval (.tmp d) = y) (hd' : ∀ y u,((a.put o1.dst y).put o2.dst u).eval (.tmp d') = u)
 (hfo : ∀ (q : Addr) (w : World),(Instr.fieldAt e (.pointer (some q)) f).run P w = .ok (.pointer (some (q.add off))) w)
 (hx : a.eval x = .slice p n c) (hi : a.eval ix = .int k i) (hij : i = j) {css : List (List Value)} (hc : Cs w p css.flatten) (hall : ∀ c ∈ css,c.length = s) (hvn : css.length = n) (hn : j < n) (hp : p.isSome = true) {cs : List Value} (hcs : css[j]? = some cs) {u : Value} (hu : cs[off]? = some u)
 (h : wpList P ops Q rest (((a.put o1.dst (.pointer (some (adr p (j * s))))).put o2.dst (.pointer (some (adr p (j * s + off))))).put o3.dst u) w) : wpList P ops Q (o1 :: o2 :: o3 :: rest) a w := by
 subst hij;refine wl_idx hg1 ho1 hx hi hp (by omega) (by omega) ?_;rw [Int.toNat_natCast];have hj : j < css.length := by omega
 obtain ⟨_,rfl⟩ := List.getElem?_eq_some_iff.1 hcs;have hadd : (adr p (j * s)).add off = adr p (j * s + off) := by unfold adr;rw [add_add]
 refine jb4 hg2 (w' := w) (v := .pointer (some (adr p (j * s + off)))) (by simp [execOp,ho2,hd,hfo,hadd]) ?_;have hoff : off < s := by have := (List.getElem?_eq_some_iff.1 hu).1;rwa [hall _ (List.getElem_mem hj)] at this
 have hcell : w.cell? (adr p (j * s + off)) = some u := hc.cell _ _ (by rw [flat_get hall hj hoff];exact hu);exact jb4 hg3 (by simp [execOp,ho3,hd',jce hcell]) h
theorem run_storeE {t : TypeId} {s : Sh} [T : ElTy P t s] {p : Option Addr} {n c j : Nat} {css : List (List Value)} {cs : List Value} (hc : jcb w p n c css.flatten) (hall : ∀ c ∈ css,c.length = s.sz) (hj : j < css.length) (hl : cs.length = s.sz) (hs : 0 < s.sz) (h1 : ∀ u ∈ cs,u.oneCell' = true) :
 ∃ w',(Instr.storeAt t (.pointer (some (adr p (j * s.sz)))) (ofCs s cs)).run P w = .ok () w' ∧ jcb w' p n c (css.set j cs).flatten ∧ Chg (fun b => b ∈ jaj p) w w' := by
 have hlen := flat_len hall
 have hlt : j * s.sz + cs.length ≤ css.flatten.length := by
  rw [hlen,hl];have : (j + 1) * s.sz ≤ css.length * s.sz := Nat.mul_le_mul_right s.sz hj;rw [Nat.add_mul] at this;omega
 obtain ⟨g,rfl,h2,h3,h4⟩ := hc.splice (P := P) (j * s.sz) cs hlt h1 (by omega);rw [flat_splice hall hj hl] at h3;obtain ⟨i,hi,hz⟩ := Option.map_eq_some_iff.1 T.inf;have hcells := ofCs_cells hl h1;refine ⟨_,?_,h3,h4⟩;simp [Instr.storeAt,Instr.sureAddr,storeVar,sizeOf,typeInfo,hi,hz,hcells,hl,h2]
theorem wl_idxE {t e b : Nat} {z : Value} {s : Nat} [SlTy P t e s z b] {x ix : Operand} (hg : o.guard = none) (ho : o.op = .indexAddr t x ix) {p : Option Addr} {n c : Nat} {k : IntKind} {i : Int} {j : Nat}
 (hx : a.eval x = .slice p n c) (hi : a.eval ix = .int k i) (hij : i = j) (hp : p.isSome = true) (hn : j < n)
 (h : wpList P ops Q rest (a.put o.dst (.pointer (some (adr p (j * s))))) w) : wpList P ops Q (o :: rest) a w := by
 subst hij;exact wl_idx hg ho hx hi hp (by omega) (by omega) (by rw [Int.toNat_natCast];exact h)
end
section
variable {P : Program} {w wf : World} {ops : Array Oper} {rest : List Oper} {o o1 o2 : Oper} {a : Act} {Q : Act → Prop} {F : Option Tmp → World → World → Value → Prop}
theorem x_idxloadE {t e b : Nat} {z : Value} {s : Sh} [SlTy P t e s.sz z b] [ElTy P e s] {x ix : Operand} {d : Tmp} (hw1 : Region.wanted o1 (yielded ops a.tmps) = true) (ho1 : o1.op = .indexAddr t x ix) (hw2 : ∀ y,Region.wanted o2 (yielded ops (a.put o1.dst y).tmps) = true) (ho2 : o2.op = .load e (.tmp d))
 {p : Option Addr} {n c : Nat} {k : IntKind} {i : Int} {j : Nat} (hd : ∀ y,(a.put o1.dst y).eval (.tmp d) = y)
 (hx : a.eval x = .slice p n c) (hi : a.eval ix = .int k i) (hij : i = j) {css : List (List Value)} (hc : Cs w p css.flatten) (hall : ∀ c ∈ css,c.length = s.sz) (hvn : css.length = n) (hn : j < n) (hp : p.isSome = true) {cs : List Value} (hcs : css[j]? = some cs)
 (h : wpX P ops F w wf Q rest ((a.put o1.dst (.pointer (some (adr p (j * s.sz))))).put o2.dst (ofCs s cs))) : wpX P ops F w wf Q (o1 :: o2 :: rest) a := by
 subst hij;refine x_idx hw1 ho1 hx hi hp (by omega) (by omega) ?_;rw [Int.toNat_natCast];have hj : j < css.length := by omega
 have hce := hc.elem hall hj;obtain ⟨_,rfl⟩ := List.getElem?_eq_some_iff.1 hcs;exact x_pure (hw2 _) (fun w1 h1 => by simp [execOp,ho2,hd,run_loadE (P := P) (t := e) (s := s) (hce.ext h1) (hall _ (List.getElem_mem hj))]) h
end
section
variable {P : Program} {w wf : World} {ops : Array Oper} {rest : List Oper} {o o1 o2 o3 : Oper} {a : Act} {Q : Act → Prop} {F : Option Tmp → World → World → Value → Prop}
theorem x_ldField {t e b : Nat} {z : Value} {s : Nat} {tf : TypeId} [SlTy P t e s z b] [Cell1 P tf] {x ix : Operand} {d d' : Tmp} {f off : Nat} (hw1 : Region.wanted o1 (yielded ops a.tmps) = true) (ho1 : o1.op = .indexAddr t x ix) (hw2 : ∀ y,Region.wanted o2 (yielded ops (a.put o1.dst y).tmps) = true) (ho2 : o2.op = .fieldAddr e (.tmp d) f)
 (hw3 : ∀ y u,Region.wanted o3 (yielded ops ((a.put o1.dst y).put o2.dst u).tmps) = true) (ho3 : o3.op = .load tf (.tmp d'))
 {p : Option Addr} {n c : Nat} {k : IntKind} {i : Int} {j : Nat} (hd : ∀ y,(a.put o1.dst y).eval (.tmp d) = y) (hd' : ∀ y u,((a.put o1.dst y).put o2.dst u).eval (.tmp d') = u)
 (hfo : ∀ (q : Addr) (w : World),(Instr.fieldAt e (.pointer (some q)) f).run P w = .ok (.pointer (some (q.add off))) w)
 (hx : a.eval x = .slice p n c) (hi : a.eval ix = .int k i) (hij : i = j) {css : List (List Value)} (hc : Cs w p css.flatten) (hall : ∀ c ∈ css,c.length = s) (hvn : css.length = n) (hn : j < n) (hp : p.isSome = true) {cs : List Value} (hcs : css[j]? = some cs) {u : Value} (hu : cs[off]? = some u)
 (h : wpX P ops F w wf Q rest (((a.put o1.dst (.pointer (some (adr p (j * s))))).put o2.dst (.pointer (some (adr p (j * s + off))))).put o3.dst u)) : wpX P ops F w wf Q (o1 :: o2 :: o3 :: rest) a := by
 subst hij;refine x_idx hw1 ho1 hx hi hp (by omega) (by omega) ?_;rw [Int.toNat_natCast];have hj : j < css.length := by omega
 obtain ⟨_,rfl⟩ := List.getElem?_eq_some_iff.1 hcs;have hadd : (adr p (j * s)).add off = adr p (j * s + off) := by unfold adr;rw [add_add]
 refine x_pure (hw2 _) (v := .pointer (some (adr p (j * s + off)))) (fun w1 _ => by simp [execOp,ho2,hd,hfo,hadd]) ?_;have hoff : off < s := by have := (List.getElem?_eq_some_iff.1 hu).1;rwa [hall _ (List.getElem_mem hj)] at this
 have hcell : w.cell? (adr p (j * s + off)) = some u := hc.cell _ _ (by rw [flat_get hall hj hoff];exact hu);exact x_load1 (hw3 _ _) ho3 (hd' _ _) hcell h
end
/-! ### Elements of a slice that is read -/
theorem Cs.some_of {w : World} {p : Option Addr} {css : List (List Value)} {s i : Nat} (hc : Cs w p css.flatten) (h : ∀ c ∈ css,c.length = s) (hs : 0 < s) (hi : i < css.length) : p.isSome = true := by
 refine hc.isS fun h0 => ?_
 have := flat_len h;rw [h0,List.length_nil] at this;have : css.length * s ≠ 0 := Nat.mul_ne_zero (by omega) (by omega);omega
def Sh.ok : Sh → Bool
 | .sl e => e.ok && decide (e.sz ≤ 32)
 | .pr a b => a.ok && b.ok
 | _ => true
def OwnEs (w : World) (e : Sh) (css : List (List Value)) (bss : List (List Nat)) (l : List e.T) : Prop :=
 css.length = l.length ∧ bss.length = l.length ∧ ∀ (i : Nat) (cs : List Value) (bs : List Nat) (d : e.T),css[i]? = some cs → bss[i]? = some bs → l[i]? = some d → Own w e cs d bs
theorem All2.toGet {A B : Type} {R : A → B → Prop} {us : List A} {bs : List B} (h : All2 R us bs) : ∀ (i : Nat) (a : A) (b : B),us[i]? = some a → bs[i]? = some b → R a b := by
 induction h with
 | nil => intro i a b h;simp at h
 | cons h _ ih =>
   intro i a b h1 h2
   cases i with
   | zero => simp at h1 h2;subst h1;subst h2;exact h
   | succ i => exact ih i a b (by simpa using h1) (by simpa using h2)
theorem own_sl {w : World} {e : Sh} {cs : List Value} {l : List e.T} {bs : List Nat} : Own w (.sl e) cs l bs ↔ ∃ p c css bss,cs = [.slice p l.length c] ∧ jcb w p l.length c (List.flatten css) ∧ l.length ≤ c ∧ c ≤ maxLen ∧ OwnEs w e css bss l ∧ bs = jaj p ++ bss.flatten := by
 constructor
 · rintro ⟨p,c,css,bss,h1,h2,h3,h4,h5,h6,h7,h8⟩
   refine ⟨p,c,css,bss,h1,h2,h3,h4,⟨h6,h7,fun i a b d ha hb hd => ?_⟩,h8⟩;exact h5.toGet i (a,b) d (by rw [List.getElem?_zip_eq_some];exact ⟨ha,hb⟩) hd
 · rintro ⟨p,c,css,bss,h1,h2,h3,h4,⟨h6,h7,h5⟩,h8⟩
   refine ⟨p,c,css,bss,h1,h2,h3,h4,All2.of_get (by rw [List.length_zip];omega) (fun i a b ha hb => ?_),h6,h7,h8⟩;obtain ⟨h9,h10⟩ := List.getElem?_zip_eq_some.1 ha;exact h5 i _ _ _ h9 h10 hb
theorem OwnEs.chg {S : Nat → Prop} {w w' : World} {e : Sh} {css : List (List Value)} {bss : List (List Nat)} {l : List e.T} (h : OwnEs w e css bss l) (k : Chg S w w') (hS : ∀ b ∈ bss.flatten,¬ S b) : OwnEs w' e css bss l :=
 ⟨h.1,h.2.1,fun i cs bs d h1 h2 h3 => (h.2.2 i cs bs d h1 h2 h3).chg k fun b hb => hS b (List.mem_flatten.2 ⟨bs,List.mem_of_getElem? h2,hb⟩)⟩
theorem OwnEs.all {w : World} {e : Sh} {css : List (List Value)} {bss : List (List Nat)} {l : List e.T} (h : OwnEs w e css bss l) : ∀ c ∈ css,c.length = e.sz := by
 intro cs hm;obtain ⟨i,hi,rfl⟩ := List.mem_iff_getElem.1 hm;have h1 := h.1;have h2 := h.2.1;exact (h.2.2 i css[i] bss[i] l[i] (by simp) (by simp) (by simp)).rep.size
theorem nodup_split {a b : List Nat} (h : (a ++ b).Nodup) : a.Nodup ∧ b.Nodup ∧ (∀ x ∈ a,x ∉ b) ∧ (∀ x ∈ b,x ∉ a) := by
 rw [List.nodup_append] at h;exact ⟨h.1,h.2.1,fun x hx hy => h.2.2 x hx x hy rfl,fun x hx hy => h.2.2 x hy x hx rfl⟩
theorem nodup_app {a b : List Nat} {B : Nat} (h1 : a.Nodup) (h2 : b.Nodup) (l1 : ∀ x ∈ a,x < B) (l2 : ∀ x ∈ b,B ≤ x) : (a ++ b).Nodup := by
 rw [List.nodup_append];exact ⟨h1,h2,fun x hx y hy h => by have := l1 x hx;have := l2 y hy;omega⟩
theorem OwnEs.snoc {w : World} {e : Sh} {css : List (List Value)} {bss : List (List Nat)} {l : List e.T} (h : OwnEs w e css bss l) {cs : List Value} {bs : List Nat} {d : e.T} (ho : Own w e cs d bs) : OwnEs w e (css ++ [cs]) (bss ++ [bs]) (l ++ [d]) := by
 obtain ⟨h1,h2,h3⟩ := h;refine ⟨by simp [h1],by simp [h2],fun i cs' bs' d' g1 g2 g3 => ?_⟩
 by_cases hi : i < l.length
 · rw [List.getElem?_append_left (by omega)] at g1 g2 g3
   exact h3 i _ _ _ g1 g2 g3
 · rw [List.getElem?_append_right (by omega)] at g1 g2 g3
   rw [h1] at g1;rw [h2] at g2;generalize i - l.length = j at *
   cases j with
   | zero => simp at g1 g2 g3;subst g1;subst g2;subst g3;exact ho
   | succ j => simp at g1
abbrev jaa : Sh := .pr .int (.pr .int (.pr (.sl .flt) (.un)))
theorem fo_implTensor_0 (q : Addr) (w : World) : (Instr.fieldAt 27 (.pointer (some q)) 0).run Try.prog w = .ok (.pointer (some (q.add 0))) w := by go_simp
theorem fo_implTensor_1 (q : Addr) (w : World) : (Instr.fieldAt 27 (.pointer (some q)) 1).run Try.prog w = .ok (.pointer (some (q.add 1))) w := by go_simp
theorem fo_implTensor_2 (q : Addr) (w : World) : (Instr.fieldAt 27 (.pointer (some q)) 2).run Try.prog w = .ok (.pointer (some (q.add 2))) w := by go_simp
instance elStTensorimpl : ElTy Try.prog 27 jaa := ⟨by kernel_rfl,by kernel_rfl⟩
def RetB (w : World) (b : Bool) (e : Ending) (w' : World) : Prop := e = .returned (.bool b) ∧ Ext w w'
def tenB (r c : Int) (n : Nat) : Bool := inB r 1 16 && inB c 1 16 && decide ((n : Int) = r * c)
theorem ja2 (x : Int) (h0 : -9223372036854775808 ≤ x) (h1 : x ≤ 9223372036854775807) : IntKind.i64.wrap x = x := IntWalk.i64_in _ (by omega)
theorem calls_retB {P : Program} {f : Nat} {xs : Array Value} {w : World} {b : Bool} (h : Calls P f xs w (RetB w b)) : Calls P f xs w fun e w3 => ∃ u,e = .returned u ∧ Ext w w3 ∧ u = .bool b :=
 h.mono fun e w3 h => ⟨_,h.1,h.2,rfl⟩
theorem jbo (r c : Int) (p : Option Addr) (n cp : Nat) (w : World) (hn : n ≤ maxLen) :
 Calls Try.prog 69 #[.agg #[.int .i64 r,.int .i64 c,.slice p n cp]] w (RetB w (tenB r c n)) := by
 unfold maxLen at hn
 cases h1 : inB r 1 16
 · have hb : tenB r c n = false := by simp [tenB,h1]
   have H1 := hid h1;rw [hb];clear h1 hb;go_enter Try.func69,Try.ntmps69;go_wp2_with fail;refine (isSide_any _ _).mono ?_;rintro e w1 ⟨rfl,rfl⟩
   rw [H1.out];go_wp2;go_ret;exact ⟨rfl,Ext.alloc _ _⟩
 · cases h2 : inB c 1 16
   · have hb : tenB r c n = false := by simp [tenB,h2]
     have H1 := hid h1;have H2 := hid h2;rw [hb];clear h1 h2 hb;go_enter Try.func69,Try.ntmps69;go_wp2_with fail;refine (isSide_any _ _).mono ?_;rintro e w1 ⟨rfl,rfl⟩
     rw [H1.out];go_wp2_with fail;refine (isSide_any _ _).mono ?_;rintro e w1 ⟨rfl,rfl⟩
     rw [H2.out];go_wp2;go_ret;exact ⟨rfl,Ext.alloc _ _⟩
   · have hb : tenB r c n = decide ((n : Int) = r * c) := by simp [tenB,h1,h2]
     have H1 := hid h1;have H2 := hid h2;rw [jar] at h1 h2;have hm : r * c ≤ 256 := by have := Int.mul_le_mul h1.2 h2.2 (by omega) (by decide);omega
     have hm0 : 0 ≤ r * c := Int.mul_nonneg (by omega) (by omega);rw [hb];clear hb;go_enter Try.func69,Try.ntmps69;go_wp2_with fail;refine (isSide_any _ _).mono ?_;rintro e w1 ⟨rfl,rfl⟩
     rw [H1.out];go_wp2_with fail;refine (isSide_any _ _).mono ?_;rintro e w1 ⟨rfl,rfl⟩
     rw [H2.out];go_wp2;go_ret;exact ⟨ret_bool (a := ((n : Int) == r * c)) rfl,Ext.alloc _ _⟩
end Go.Proofs.Ytmbckkcgiafagaa
