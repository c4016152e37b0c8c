/- Models that are in sync: the reference's comparison of two models. -/
import Derived.Test.YtangnigplachdaaKc
import Derived.Test.YtangnigplachdaaKd
import Derived.Test.YtangnigplachdaaSto
namespace Go.Proofs.Ytangnigplachdaa
set_option linter.unusedSimpArgs false
set_option linter.unusedVariables false
open Go.RowKit

def kio (x y : shLayer.T) : Bool := decide ((x.1 : Int) = y.1) && (decide ((x.2.1 : Int) = y.2.1) && decide ((x.2.2.1 : Int) = y.2.2.1))
theorem kio_iff {x y : shLayer.T} : kio x y = true ↔ (x.1 : Int) = y.1 ∧ (x.2.1 : Int) = y.2.1 ∧ (x.2.2.1 : Int) = y.2.2.1 := by
  unfold kio; simp only [Bool.and_eq_true, decide_eq_true_eq]
/-- What l10Same says. -/
def sameM (a b : List shLayer.T) : Bool := decide (a.length = b.length) && (!anyTo (fun i => !atB kio a b i) a.length && decide (parF a = parF b))
theorem lay_eq {x y : shLayer.T} (hx : layD x = true) (hy : layD y = true) (h : kio x y = true) {p q : List Nat} (he : ((x.2.2.2.1 : List Nat) ++ x.2.2.2.2.1) ++ p = ((y.2.2.2.1 : List Nat) ++ y.2.2.2.2.1) ++ q) : x = y ∧ p = q := by
  obtain ⟨k, i, o, a, b, u⟩ := x
  obtain ⟨k', i', o', a', b', u'⟩ := y
  obtain ⟨h1, h2, h3⟩ := kio_iff.1 h
  dsimp only at h1 h2 h3 he
  unfold layD layB at hx hy
  dsimp only at hx hy
  simp only [Bool.and_eq_true, decide_eq_true_eq] at hx hy
  have a1 := hx.2.2.2.2.1
  have a2 := hx.2.2.2.2.2
  have b1 := hy.2.2.2.2.1
  have b2 := hy.2.2.2.2.2
  have e1 : a.length = a'.length := by
    have : (a.length : Int) = a'.length := by rw [a1, b1, h1, h2, h3]
    omega
  have e2 : b.length = b'.length := by
    have : (b.length : Int) = b'.length := by rw [a2, b2, h1, h2, h3]
    omega
  have e3 : ((a : List Nat) ++ b).length = ((a' : List Nat) ++ b').length := by rw [List.length_append, List.length_append, e1, e2]
  obtain ⟨h4, h5⟩ := List.append_inj he e3
  obtain ⟨h6, h7⟩ := List.append_inj h4 e1
  subst h6 h7
  refine ⟨?_, h5⟩
  have : u = u' := by cases u; cases u'; rfl
  subst this
  exact Prod.ext h1 (Prod.ext h2 (Prod.ext h3 rfl))
theorem par_eq : ∀ {a b : List shLayer.T}, (∀ d ∈ a, layD d = true) → (∀ d ∈ b, layD d = true) → a.length = b.length → (∀ i, i < a.length → atB kio a b i = true) → parF a = parF b → a = b
  | [], [], _, _, _, _, _ => rfl
  | [], _ :: _, _, _, h, _, _ => by simp at h
  | _ :: _, [], _, _, h, _, _ => by simp at h
  | x :: a, y :: b, ha, hb, hl, hk, hp => by
    have e1 : parF (x :: a) = ((x.2.2.2.1 : List Nat) ++ x.2.2.2.2.1) ++ parF a := by simp [parF]
    have e2 : parF (y :: b) = ((y.2.2.2.1 : List Nat) ++ y.2.2.2.2.1) ++ parF b := by simp [parF]
    rw [e1, e2] at hp
    have h0 : kio x y = true := by have := hk 0 (by simp); rwa [atB_in (x := x) (y := y) rfl rfl] at this
    obtain ⟨rfl, h2⟩ := lay_eq (ha x (by simp)) (hb y (by simp)) h0 hp
    have := par_eq (a := a) (b := b) (fun d hd => ha d (by simp [hd])) (fun d hd => hb d (by simp [hd])) (by simpa using hl) (fun i hi => by
      have := hk (i + 1) (by simpa using hi)
      unfold atB at this ⊢
      simpa using this) h2
    rw [this]
theorem sameM_eq {a b : List shLayer.T} (ha : modB a = true) (hb : modB b = true) : sameM a b = eqT (.sl shLayer) b a := by
  unfold modB at ha hb
  simp only [Bool.and_eq_true, decide_eq_true_eq] at ha hb
  have h1 := modGo_allS ha.2.2
  have h2 := modGo_allS hb.2.2
  rw [Bool.eq_iff_iff, eqT_iff]
  unfold sameM
  simp only [Bool.and_eq_true, decide_eq_true_eq]
  constructor
  · rintro ⟨h3, h4, h5⟩
    refine (par_eq h1 h2 h3 (fun i hi => ?_) h5).symm
    cases hc : atB kio a b i
    · have := (anyTo_true (q := fun i => !atB kio a b i)).2 ⟨i, hi, by rw [hc]; rfl⟩
      rw [this] at h4; cases h4
    · rfl
  · rintro rfl
    refine ⟨rfl, ?_, rfl⟩
    rw [anyTo_false fun i hi => ?_]; · rfl
    have hx : b[i]? = some b[i] := by simp
    rw [atB_in hx hx]
    have : kio b[i] b[i] = true := kio_iff.2 ⟨rfl, rfl, rfl⟩
    rw [this]; rfl
theorem parF_in32 {l : List shLayer.T} (h : ∀ x ∈ l, Fit shLayer x) : In32 (parF l) := by
  intro z hz
  unfold parF at hz
  rw [List.mem_flatMap] at hz
  obtain ⟨d, hd, hz⟩ := hz
  have hf := h d hd
  obtain ⟨k, i, o, a, b, u⟩ := d
  obtain ⟨_, _, _, f1, f2, _⟩ := hf
  rcases List.mem_append.1 hz with hz | hz
  · exact f1 _ hz
  · exact f2 _ hz
end Go.Proofs.Ytangnigplachdaa
