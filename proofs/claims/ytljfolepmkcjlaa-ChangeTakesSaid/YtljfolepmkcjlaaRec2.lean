/-
  More plain facts about records' parts.
-/
import Derived.Test.YtljfolepmkcjlaaRec
namespace Go.Proofs.Ytljfolepmkcjlaa.Plain

theorem tagsL_take (l : List Val) (k : Nat) (hk : k < l.length) : tagsL (l.take (k + 1)) = tagsL (l.take k) ++ putN (tagN l[k]) := by
  rw [List.take_succ_eq_append_getElem hk]; simp only [tagsL, List.flatMap_append, List.flatMap_cons, List.flatMap_nil, List.append_nil]
theorem bodiesL_take (l : List Val) (k : Nat) (hk : k < l.length) : bodiesL (l.take (k + 1)) = bodiesL (l.take k) ++ bodyL l[k] := by
  rw [List.take_succ_eq_append_getElem hk]; simp only [bodiesL, List.flatMap_append, List.flatMap_cons, List.flatMap_nil, List.append_nil]
theorem tagsL_take_len (l : List Val) (k : Nat) (h16 : l.length ≤ 16) : (tagsL (l.take k)).length ≤ 144 := by
  have := tagsL_length_le (l.take k)
  rw [List.length_take] at this
  omega
theorem bodiesL_take_len (l : List Val) (k : Nat) (h16 : l.length ≤ 16) (h : ∀ v ∈ l, chk v = 0) : (bodiesL (l.take k)).length ≤ 16000 := by
  have := bodiesL_length_le (l.take k) (fun v hv => h v (List.mem_of_mem_take hv))
  rw [List.length_take] at this
  omega
end Go.Proofs.Ytljfolepmkcjlaa.Plain
