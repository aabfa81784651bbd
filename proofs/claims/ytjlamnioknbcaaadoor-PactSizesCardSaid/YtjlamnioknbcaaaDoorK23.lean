/- a region whose head is walked in an order of one's own -/
import Derived.Test.YtjlamnioknbcaaaDoorK12
namespace Go.Proofs.YtjlamnioknbcaaaDoor.K23
set_option linter.unusedVariables false
set_option linter.unusedSimpArgs false
open Go.RowKit K1 K3 K5 K11 K12
def pickOps (l : List Oper) : List Nat → List (Nat × Oper)
  | [] => []
  | i :: r => match l[i]? with
    | some o => (i, o) :: pickOps l r
    | none => pickOps l r
theorem pickOps_spec (l : List Oper) : ∀ (r : List Nat), ∀ p ∈ pickOps l r, l[p.1]? = some p.2
  | [], p, h => by cases h
  | i :: r, p, h => by
    unfold pickOps at h
    cases hi : l[i]? with
    | none => rw [hi] at h; exact pickOps_spec l r p h
    | some o =>
      rw [hi] at h
      rcases List.mem_cons.1 h with rfl | h
      · exact hi
      · exact pickOps_spec l r p h
section
variable {P : Program} {a : Act}
theorem wp_region_quietO {id : Nat} {Q : Exit → Act → World → Prop} {w : World} {l : List Oper} (U Fl : List Nat) (n : Nat) (r : List Nat) (hm : P.follows .mixedOrders = true)
    (hB : fitB l.toArray U Fl n (pickOps l r) = true) (hQ : ∀ c a d v w, Q (.panic c) (Act.put a d v) w → Q (.panic c) a w)
    (h : wpZ P l.toArray [] (C0e (fun x => Below w.heap.size w x)) [] U Fl (fun a' L => ∀ w', Below w.heap.size w w' → Holds L w' → wpList P l.toArray Q (l.drop n) a' w') (pickOps l r) a []) : (Code.region id l.toArray true).wp P Q a w :=
  wp_region_walk [] (C0e (fun x => Below w.heap.size w x)) [] U Fl n _ hm hB (fun p hp => by
    rw [List.getElem?_toArray]
    exact pickOps_spec l r p hp) hQ C0e.es ((Below.refl _ _).drew) h
end
end Go.Proofs.YtjlamnioknbcaaaDoor.K23
