/-
  Numbers are read from their forms: in plain words.
-/
import Derived.Test.YtikkfkomieedmaaNums
import Derived.Test.YtikkfkomieedmaaGets
import Derived.Test.YtikkfkomieedmaaMath2
namespace Go.Proofs.Ytikkfkomieedmaa

theorem getMany_put : ∀ (l : List Int) (pre rest : List UInt8), (∀ x ∈ l, 0 ≤ x ∧ x ≤ 9223372036854775807) →
    getMany (pre ++ putAll l ++ rest) l.length (pre.length : Int) = some (l, ((pre.length + (putAll l).length : Nat) : Int)) := by
  intro l
  induction l with
  | nil => intro pre rest _; simp [getMany, putAll]
  | cons x l ih =>
    intro pre rest h
    have hx := h x (List.mem_cons_self ..)
    have hxn : ((x.toNat : Nat) : Int) = x := by omega
    have hg := getNum_put pre (putAll l ++ rest) x.toNat (by rw [show (128 : Nat) ^ 9 = 9223372036854775808 from by decide]; omega)
    have hp : putAll (x :: l) = putNum x.toNat ++ putAll l := rfl
    have he : pre ++ putAll (x :: l) ++ rest = pre ++ putNum x.toNat ++ (putAll l ++ rest) := by rw [hp]; simp
    rw [List.length_cons, he, getMany_some hg]
    have he2 : pre ++ putNum x.toNat ++ (putAll l ++ rest) = (pre ++ putNum x.toNat) ++ putAll l ++ rest := by simp
    have h2 := ih (pre ++ putNum x.toNat) rest (fun y hy => h y (List.mem_cons_of_mem _ hy))
    rw [List.length_append] at h2
    rw [he2, h2]
    simp only [Option.map_some, hxn, hp, List.length_append, Option.some.injEq, Prod.mk.injEq, true_and]
    omega
theorem getNums_put (l : List Int) (rest : List UInt8) (h : ∀ x ∈ l, 0 ≤ x ∧ x ≤ 9223372036854775807) (h0 : 0 < l.length) (h1 : l.length ≤ 4000) :
    getNums (putAll l ++ rest) 0 (l.length : Int) = some (l, ((putAll l).length : Int)) := by
  unfold getNums
  rw [if_pos (by omega)]
  have := getMany_put l [] rest h
  simp only [List.nil_append, List.length_nil, Nat.zero_add, Int.toNat_natCast] at this ⊢
  exact this

end Go.Proofs.Ytikkfkomieedmaa
