/-
  What a valid map is.
-/
import Derived.Test.YthflafgijfbpnaaDoorRg
set_option linter.unusedVariables false
set_option linter.unusedSimpArgs false
namespace Go.Proofs.YthflafgijfbpnaaDoor.S15
open Go Go.RowKit Go.Proofs.YthflafgijfbpnaaDoor.Sep Go.Proofs.YthflafgijfbpnaaDoor.Low Go.Proofs.YthflafgijfbpnaaDoor.Lib

theorem push_rg {P : Program} {H : Heap} {v : Value} {l : List Rg} {x : Rg} {r : Nat} {KV : Value → Heap → Prop} {KP : List PanicEntry → Heap → Prop} (hO : Own H 51 2 v (rgs l)) (hl : l.length ≤ 1099511627) (h1 : Own H 51 2 (.slice (some ⟨r, 0, none⟩) 1 1) (rg x))
    (hk : ∀ v' H', Own H' 51 2 v' (rgs (l ++ [x])) → Oth H v H' → Moved H v v' → KV v' H') : awpE P (.app 51 2 16 #[.int .i64 0, .int .i64 0]) [v, .slice (some ⟨r, 0, none⟩) 1 1] KV KP H := by
  obtain ⟨_, _, _, e, _, _, hrow⟩ := h1.view
  cases e
  refine a_app (len := l.length) (m := 1) (new := rg x) hO (encs_len rg_len l) rfl (hrow.cells (by simp [rg])) (by simp [rg]) rfl (by omega) (rg_scalar x) (by omega) ?_
  intro v' H' h2 h3 h4
  refine hk v' H' ?_ h3 h4
  rw [rgs, encs_append, encs_one]
  exact h2

theorem lits_rg {P : Program} {H : Heap} {x y : Int} {KV : Value → Heap → Prop} {KP : List PanicEntry → Heap → Prop}
    (hk : ∀ r H', Own H' 51 2 (.slice (some ⟨r, 0, none⟩) 1 1) (rg ⟨x, y⟩) → Keep H H' → H r = none → KV (.slice (some ⟨r, 0, none⟩) 1 1) H') : awpE P (.lits 51 #[.int .i64 0, .int .i64 0] 1 [(0, 2)]) [.agg #[.int .i64 x, .int .i64 y]] KV KP H := by
  refine a_lits (sz := 2) (cells := (rg ⟨x, y⟩).toArray) (by
    simp only [List.length_cons, List.length_nil, if_true, List.zip_cons_cons, List.zip_nil_right]
    rw [fill_a]
    simp [fill_nil, rg]) (by simp [rg]) ?_
  intro r H' h1 h2 h3
  exact hk r H' h1 h2 h3
theorem chain_cons {size at_ : Int} {x : Rg} {l : List Rg} (h : chain size at_ (x :: l) = true) : at_ ≤ x.f ∧ x.f ≤ x.t ∧ x.t ≤ size ∧ chain size x.t l = true := by
  unfold chain at h
  split at h
  · cases h
  · split at h
    · cases h
    · split at h
      · cases h
      · exact ⟨by omega, by omega, by omega, h⟩
theorem chain_mem {size : Int} : ∀ {l : List Rg} {at_ : Int}, 0 ≤ at_ → chain size at_ l = true → ∀ x ∈ l, 0 ≤ x.f ∧ x.f ≤ x.t ∧ x.t ≤ size
  | x :: l, at_, h0, h, y, hy => by
    obtain ⟨h1, h2, h3, h4⟩ := chain_cons h
    rcases List.mem_cons.1 hy with rfl | hy
    · exact ⟨by omega, h2, h3⟩
    · exact chain_mem (by omega) h4 y hy
def total (l : List Rg) : Int := (l.map fun x => x.t - x.f).sum
theorem total_cons (x : Rg) (l : List Rg) : total (x :: l) = x.t - x.f + total l := by simp [total]
theorem total_append (l l' : List Rg) : total (l ++ l') = total l + total l' := by simp [total]
theorem total_take {l : List Rg} {i : Nat} (hi : i < l.length) : total (l.take (i + 1)) = total (l.take i) + (l[i].t - l[i].f) := by
  rw [List.take_succ_eq_append_getElem hi, total_append]; simp [total]
theorem chain_sum {size : Int} : ∀ {l : List Rg} {at_ : Int}, at_ ≤ size → chain size at_ l = true → 0 ≤ total l ∧ at_ + total l ≤ size
  | [], at_, h0, h => by simp [total]; exact h0
  | x :: l, at_, h0, h => by
    obtain ⟨h1, h2, h3, h4⟩ := chain_cons h
    have := chain_sum h3 h4
    rw [total_cons]
    omega
theorem chain_take {size : Int} : ∀ {l : List Rg} {at_ : Int} (i : Nat), chain size at_ l = true → chain size at_ (l.take i) = true
  | [], at_, i, h => by simp [chain]
  | x :: l, at_, 0, h => by simp [chain]
  | x :: l, at_, i + 1, h => by
    obtain ⟨h1, h2, h3, h4⟩ := chain_cons h
    have := chain_take i h4
    rw [List.take_succ_cons]
    unfold chain
    rw [if_neg (by omega), if_neg (by omega), if_neg (by omega)]
    exact this
theorem valid_true {l : List Rg} {size : Int} (h : validV l size = true) : 0 ≤ size ∧ l.length ≤ 65536 ∧ chain size 0 l = true := by
  unfold validV at h
  split at h
  · cases h
  · split at h
    · cases h
    · exact ⟨by omega, by omega, h⟩
theorem valid_mem {l : List Rg} {size : Int} (h : validV l size = true) {i : Nat} (hi : i < l.length) : 0 ≤ l[i].f ∧ l[i].f ≤ l[i].t ∧ l[i].t ≤ size := chain_mem (Int.le_refl _) (valid_true h).2.2 _ (List.getElem_mem hi)
theorem valid_total {l : List Rg} {size : Int} (h : validV l size = true) (i : Nat) : 0 ≤ total (l.take i) ∧ total (l.take i) ≤ size := by
  obtain ⟨h1, h2, h3⟩ := valid_true h
  have := chain_sum h1 (chain_take i h3)
  omega
theorem row_prefix {H : Heap} {A : Option Addr} {cs ds : List Value} (h : Row H A (cs ++ ds)) : Row H A cs := fun i v hv => h i v (by rw [List.getElem?_append_left (List.getElem?_eq_some_iff.1 hv).1]; exact hv)
theorem ranges_spec {a b : Option Addr} {n m c d : Nat} {H : Heap} {xs ys : List Rg} (hx : Row H a (rgs xs)) (hy : Row H b (rgs ys)) (hn : n = xs.length) (hm : m = ys.length) (hl : xs.length ≤ 1125899906842624) :
    ACalls Tryd.prog 12 [Value.slice a n c, Value.slice b m d].toArray H fun e H' => e = .returned (.bool (decide (xs = ys))) ∧ H' = H := by
  subst hn; subst hm
  refine call12 (Nat.le_of_ble_eq_true rfl) ?_
  unfold L12 env0
  simp -implicitDefEqProofs (maxSteps := 1000000) (disch := first | omega | assumption) only [Sx, reduceIte, Nat.reduceEqDiff, reduceCtorEq, Nat.reduceAdd, Nat.reduceSub, Nat.reduceLT]
  refine d_intro (fun h => ?_) (fun h => ?_)
  · simp only [Sx, reduceIte, Nat.reduceEqDiff, reduceCtorEq, Nat.reduceAdd, Nat.reduceSub, Nat.reduceLT] at h
    simp -implicitDefEqProofs (maxSteps := 1000000) (disch := first | omega | assumption) only [Sx, reduceIte, Nat.reduceEqDiff, reduceCtorEq, Nat.reduceAdd, Nat.reduceSub, Nat.reduceLT]
    refine ⟨?_, by trivial⟩
    have : xs ≠ ys := by rintro rfl; exact h rfl
    simp [this]
  · simp only [Sx, reduceIte, Nat.reduceEqDiff, reduceCtorEq, Nat.reduceAdd, Nat.reduceSub, Nat.reduceLT] at h
    have hlen : xs.length = ys.length := by omega
    simp -implicitDefEqProofs (maxSteps := 1000000) (disch := first | omega | assumption) only [Sx, reduceIte, Nat.reduceEqDiff, reduceCtorEq, Nat.reduceAdd, Nat.reduceSub, Nat.reduceLT]
    refine c_loop (fun k env H' => H' = H ∧ ∃ i, k + i = xs.length ∧ env 0 = .slice a xs.length c ∧ env 1 = .slice b ys.length d ∧ env 5 = .int .i64 i ∧ xs.take i = ys.take i) xs.length ⟨rfl, 0, by omega, rfl, rfl, rfl, rfl⟩ ?_
    rintro k env H' ⟨rfl, i, hk, h0, h1, h5, ht⟩
    unfold L12_0
    by_cases hi : i < xs.length
    · have f0 : decide ((i : Int) < (xs.length : Int)) = true := decide_eq_true (by omega)
      have hi' : i < ys.length := by omega
      obtain ⟨p, rfl, hp, _, _⟩ := rg_at hx hi
      obtain ⟨q, rfl, hq, _, _⟩ := rg_at hy hi'
      by_cases he : xs[i] = ys[i]
      · have e1 : ((xs[i].f == ys[i].f && xs[i].t == ys[i].t) != true) = false := by rw [he]; simp
        simp -implicitDefEqProofs (maxSteps := 1000000) (disch := first | omega | assumption) only [h0, h1, h5, f0, ev_ldn, hp, hq, ev_eqa_ii, e1, Sx, reduceIte, Nat.reduceEqDiff, reduceCtorEq, Nat.reduceAdd, Nat.reduceSub, Nat.reduceLT]
        exact ⟨k - 1, by omega, by trivial, i + 1, by omega, by trivial, by trivial, by simp, take_eq ht hi hi' he⟩
      · have e1 : ((xs[i].f == ys[i].f && xs[i].t == ys[i].t) != true) = true := by
          have : ¬ (xs[i].f = ys[i].f ∧ xs[i].t = ys[i].t) := fun h => he (by cases hX : xs[i]; cases hY : ys[i]; simp_all)
          simp
          rcases Classical.em (xs[i].f = ys[i].f) with h | h
          · exact .inr fun h2 => this ⟨h, h2⟩
          · exact .inl h
        simp -implicitDefEqProofs (maxSteps := 1000000) (disch := first | omega | assumption) only [h0, h1, h5, f0, ev_ldn, hp, hq, ev_eqa_ii, e1, Sx, reduceIte, Nat.reduceEqDiff, reduceCtorEq, Nat.reduceAdd, Nat.reduceSub, Nat.reduceLT]
        refine ⟨?_, by trivial⟩
        have : xs ≠ ys := by rintro rfl; exact he rfl
        simp [this]
    · have f0 : decide ((i : Int) < (xs.length : Int)) = false := decide_eq_false (by omega)
      simp -implicitDefEqProofs (maxSteps := 1000000) (disch := first | omega | assumption) only [h0, h5, f0, Sx, reduceIte, Nat.reduceEqDiff, reduceCtorEq, Nat.reduceAdd, Nat.reduceSub, Nat.reduceLT]
      have : i = xs.length := by omega
      subst this
      rw [List.take_length, hlen, List.take_length] at ht
      simp [ht]
end Go.Proofs.YthflafgijfbpnaaDoor.S15
