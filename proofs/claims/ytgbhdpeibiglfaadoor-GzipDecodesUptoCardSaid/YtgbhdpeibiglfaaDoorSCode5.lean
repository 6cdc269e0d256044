/-
  Read: what a code reads.
-/
import Derived.Test.YtgbhdpeibiglfaaDoorSCode4
set_option linter.unusedVariables false
set_option linter.unusedSimpArgs false
namespace Go.Proofs.YtgbhdpeibiglfaaDoor.S05
open Go Go.RowKit Go.Proofs.YtgbhdpeibiglfaaDoor.Sep Go.Proofs.YtgbhdpeibiglfaaDoor.Low Go.Proofs.YtgbhdpeibiglfaaDoor.CodeLaw Go.Proofs.YtgbhdpeibiglfaaDoor.Pack Go.Proofs.YtgbhdpeibiglfaaDoor.BitLaw
open Go.Proofs.YtgbhdpeibiglfaaDoor.Lib (by64 by64_scalar encs encs_len)

theorem cnt_le {l : List Int} (hc : isCode l = true) (n : Nat) : cnt l n ≤ 320 := by
  have : cnt l n ≤ l.length := List.countP_le_length
  have := (isCode_ok hc).1
  omega
theorem past_le0 {l : List Int} (hc : isCode l = true) : ∀ n, past l n ≤ n * 320
  | 0 => by simp [past]
  | 1 => by simp [past]
  | n + 2 => by
    have := past_le0 hc (n + 1)
    have := cnt_le hc (n + 1)
    rw [past]
    omega
theorem past_le {l : List Int} (hc : isCode l = true) {n : Nat} (h : n ≤ 15) : past l n ≤ 4800 := by
  have := past_le0 hc n
  omega
set_option maxHeartbeats 8000000 in
theorem cread_spec {H : Heap} {p q at_ c : Nat} {a : Option Addr} {bs : List Int} {l : List Int} {wv ov : Value} {fs : List Int} {lo : Nat} (h : CAt H p l wv ov fs lo) (hc : isCode l = true) (hR : RAt H q a c bs at_) :
    ACalls Tryd.prog 84 [Value.pointer (some ⟨p, 0, none⟩), .pointer (some ⟨q, 0, none⟩)].toArray H fun e H' => ∃ s n f, e = .returned (.tuple #[.int .i64 (s : Nat), .int .i64 f]) ∧ RdIs l ((unpack bs).drop at_) s n f ∧ RAt H' q a c bs (at_ + n) ∧ Only (· = q) H H' := by
  refine call84 (Nat.le_of_ble_eq_true rfl) ?_
  unfold L84 env0
  have hlo := lo_le hc h.L
  have hcl := cc_wh (wv := wv) (ov := ov) (cs := cnts l) (fs := fs) (wh := isWhole l) (lo := lo) (cnts_len _) h.fl
  have hov := (cc_hd (wv := wv) (ov := ov) (cs := cnts l) (fs := fs) (wh := isWhole l) (lo := lo)).2
  obtain ⟨rest, hrest⟩ : ∃ rest, rest = (unpack bs).drop at_ := ⟨_, rfl⟩
  have hrl : rest.length = 8 * bs.length - at_ := by rw [hrest, List.length_drop, unpack_length]
  rw [← hrest]
  have hle := hR.le
  have hsm := hR.small
  have nohit : ∀ n, (∀ m, 1 ≤ m → m < n → ¬ hit l rest m) → ∀ j, 0 < len_ l j → len_ l j < n → ¬ wb l j <+: rest := fun n hno j hj hl hp => hno _ hj hl (wb_hit hc hj hp)
  simp -implicitDefEqProofs (maxSteps := 1000000) (disch := first | omega | assumption) only [Sx, reduceCtorEq]
  refine c_loop (fun k env H' => ∃ n, k + n = 17 ∧ 1 ≤ n ∧ env 0 = .pointer (some ⟨p, 0, none⟩) ∧ env 1 = .pointer (some ⟨q, 0, none⟩) ∧ env 6 = .int .i64 (val (rest.take (n - 1)) : Nat) ∧ env 7 = .int .i64 (past l n : Nat) ∧ env 8 = .int .i64 n ∧ n - 1 ≤ rest.length ∧ n ≤ lo + 1 ∧ (∀ m, 1 ≤ m → m < n → ¬ hit l rest m) ∧ H' = H) 16 ⟨1, by omega, by omega, by simp -implicitDefEqProofs (maxSteps := 1000000) (disch := first | omega | assumption) only [Sx, reduceCtorEq], by simp -implicitDefEqProofs (maxSteps := 1000000) (disch := first | omega | assumption) only [Sx, Nat.reduceEqDiff], by simp -implicitDefEqProofs (maxSteps := 1000000) (disch := first | omega | assumption) only [Sx, Nat.reduceEqDiff, Nat.reduceSub]; rfl, by simp -implicitDefEqProofs (maxSteps := 1000000) (disch := first | omega | assumption) only [Sx, Nat.reduceEqDiff]; rfl, by simp -implicitDefEqProofs (maxSteps := 1000000) (disch := first | omega | assumption) only [Sx, Nat.reduceEqDiff]; rfl, by omega, by omega, fun i h1 h2 => by omega, rfl⟩ ?_
  rintro k env H1 ⟨n, hk, hn1, h0, h1, h6, h7, h8, hnr, hnl, hno, rfl⟩
  unfold L84_0
  by_cases hml : n ≤ lo
  · have f0 : decide ((n : Int) ≤ (lo : Int)) = true := decide_eq_true (by omega)
    have e1 : ((n : Int) - 1) = ((n - 1 : Nat) : Int) := by omega
    have hvl := val_lt (rest.take (n - 1))
    rw [List.length_take, Nat.min_eq_left hnr] at hvl
    have hp15 : 2 ^ (n - 1) ≤ 2 ^ 15 := Nat.pow_le_pow_right (by omega) (by omega)
    simp -implicitDefEqProofs (maxSteps := 1000000) (disch := first | omega | assumption) only [h0, h1, h8, f0, hcl.2, cell_of h.B, Sx, Nat.reduceEqDiff, reduceCtorEq]
    refine a_call (left_spec hR) ?_
    rintro e H2 ⟨rfl, rfl⟩
    rw [← hrl]
    by_cases hleft : rest.length < n
    · have f1 : decide ((rest.length : Int) < (n : Int)) = true := decide_eq_true (by omega)
      have hrn : rest.length = n - 1 := by omega
      rw [List.take_of_length_le (by omega)] at h6 hvl
      simp -implicitDefEqProofs (maxSteps := 1000000) (disch := first | omega | assumption) only [endK, h0, h6, h8, f1, e1, Sx, Nat.reduceEqDiff, reduceCtorEq]
      refine a_call (begins_spec h hc hvl (by omega)) ?_
      rintro e H3 ⟨b, rfl, rfl, hb1, hb2⟩
      have hnone : ∀ j, 0 < len_ l j → ¬ wb l j <+: rest := by
        intro j hj hp
        have hh := wb_hit hc hj hp
        exact hno _ hj (by have := hh.1; omega) hh
      cases b with
      | true =>
        simp -implicitDefEqProofs (maxSteps := 1000000) (disch := first | omega | assumption) only [endK, Sx, Nat.reduceEqDiff]
        obtain ⟨i, hi1, hi2⟩ := hb1 rfl
        refine ⟨0, 0, 50, rfl, .more hnone (i := i) (by omega) ((pre_wb hc (by omega)).2 ⟨by omega, by rw [hrn]; exact hi2⟩), hR, Only.refl _ _⟩
      | false =>
        simp -implicitDefEqProofs (maxSteps := 1000000) (disch := first | omega | assumption) only [endK, Sx, Nat.reduceEqDiff]
        refine ⟨0, 0, 52, rfl, .none hnone fun j hj hp => ?_, hR, Only.refl _ _⟩
        have hpw := (pre_wb hc hj).1 hp
        by_cases hjn : n - 1 < len_ l j
        · exact hb2 rfl j hjn (by rw [← hrn]; exact hpw.2)
        · have := hp.eq_of_length (by rw [wb_len]; omega)
          exact hnone j hj (by rw [this]; exact List.prefix_refl _)
    · have f1 : decide ((rest.length : Int) < (n : Int)) = false := decide_eq_false (by omega)
      simp -implicitDefEqProofs (maxSteps := 1000000) (disch := first | omega | assumption) only [endK, h1, h6, h8, f1, e1, Sx, Nat.reduceEqDiff]
      obtain ⟨b, hb, hbs⟩ := bit_spec hR (i := n - 1) (by omega)
      refine a_call hbs ?_
      rintro e H3 ⟨rfl, rfl⟩
      have hbr : rest[n - 1]? = some b := by rw [hrest, List.getElem?_drop]; exact hb
      have htk : rest.take n = rest.take (n - 1) ++ [b] := by
        have h3 : n - 1 < rest.length := by omega
        have := List.take_succ_eq_append_getElem h3
        rw [show n - 1 + 1 = n by omega] at this
        rw [this]
        rw [List.getElem?_eq_getElem h3] at hbr
        rw [Option.some.inj hbr]
      have hv := val_snoc (rest.take (n - 1)) b
      rw [← htk] at hv
      have hb01 := b2i_range b
      have e2 : IntKind.i64.wrap (b2i b) = b2i b := w_i64 (by omega)
      have e3 : 2 * ((val (rest.take (n - 1)) : Nat) : Int) + b2i b = ((val (rest.take n) : Nat) : Int) := by
        rw [hv]
        cases b <;> simp [b2i]
      have hfn := cc_fst (wv := wv) (ov := ov) (cs := cnts l) (fs := fs) (wh := isWhole l) (lo := lo) (n := n) (cnts_len _) h.fl (by omega)
      rw [h.ff n (by omega) (by omega)] at hfn
      have hcn := cc_cnt (wv := wv) (ov := ov) (cs := cnts l) (fs := fs) (wh := isWhole l) (lo := lo) (n := n) (cnts_len _) (by omega)
      rw [cnts_get (by omega) (by omega)] at hcn
      have hfl := fst_le hc (n := n) (by omega) (by omega)
      have hvb : val (rest.take n) ≤ 65536 * 2 := by rw [hv]; split <;> omega
      have next : ¬ (fst l n ≤ val (rest.take n) ∧ val (rest.take n) < fst l n + cnt l n) → ∀ m, 1 ≤ m → m < n + 1 → ¬ hit l rest m := by
        intro hneg m h1 h2 hh
        by_cases hm : m < n
        · exact hno m h1 hm hh
        · have : m = n := by omega
          subst this
          exact hneg hh.2
      have hpl : past l n ≤ 4800 := past_le hc (by omega) 
      have hpn := past_succ l hn1
      have hcn3 : cnt l n ≤ 320 := cnt_le hc n
      simp -implicitDefEqProofs (maxSteps := 1000000) (disch := first | omega | assumption) only [endK, h0, h6, h8, e2, e3, hfn, cell_of h.B, Sx, Nat.reduceEqDiff, reduceCtorEq]
      by_cases hg : fst l n ≤ val (rest.take n)
      · have e4 : (((val (rest.take n) : Nat) : Int) - ((fst l n : Nat) : Int)) = ((val (rest.take n) - fst l n : Nat) : Int) := by omega
        have f2 : decide ((0 : Int) ≤ ((val (rest.take n) - fst l n : Nat) : Int)) = true := decide_eq_true (by omega)
        by_cases hg2 : val (rest.take n) - fst l n < cnt l n
        · have f3 : decide (((val (rest.take n) - fst l n : Nat) : Int) < ((cnt l n : Nat) : Int)) = true := decide_eq_true (by omega)
          have hh : hit l rest n := ⟨by omega, hg, by omega⟩
          obtain ⟨i, hi1, hi2, hi3⟩ := hit_wb hc hn1 hh
          have hol := ol_at hn1 (by omega) hi1
          rw [hi2] at hol
          obtain ⟨A, m, c', rfl, hlm, hcap, hrow⟩ := h.O.view
          have hlm2 : m = (OL l 16 0).length := by simp at hlm; omega
          subst hlm2
          have hj : past l n + (val (rest.take n) - fst l n) < (OL l 16 0).length := (List.getElem?_eq_some_iff.1 hol).1
          have e5 : ((past l n : Nat) : Int) + ((val (rest.take n) - fst l n : Nat) : Int) = ((past l n + (val (rest.take n) - fst l n) : Nat) : Int) := by omega
          have hpq : p ≠ q := by
            rintro rfl
            have := h.B.symm.trans hR.blk
            cases this
          simp -implicitDefEqProofs (maxSteps := 1000000) (disch := first | omega | assumption) only [e4, f2, f3, h0, h1, h8, hcn, cell_of h.B, cell_of hR.blk, l_g, Sx, Nat.reduceEqDiff, reduceCtorEq]
          refine st_one hR.blk (by simp) (by rfl) ?_
          have e6 : ((at_ : Int) + (n : Int)) = ((at_ + n : Nat) : Int) := by omega
          have hR' := hR.set (to := at_ + n) (by omega)
          have hset : (Only (· = q) H3 (H3.set q (.cells #[.slice a bs.length c, .int .i64 ((at_ + n : Nat) : Int)] 90 (0, 0)))) := (Only.refl _ _).set (.inl rfl)
          have hB2 := hset.oth _ _ h.B hpq
          obtain ⟨b2, rfl, hb2⟩ := (Row.only hrow hset fun b hb e => by
            subst hb
            have hO := h.O.elem (q := q) hR.blk (by decide)
            exact hO (by rw [← e]; rfl)).at (i := past l n + (val (rest.take n) - fst l n)) (by simpa using hj)
          have hg3 : (by64 ((OL l 16 0).map fun j : Nat => (j : Int)))[past l n + (val (rest.take n) - fst l n)]'(by simpa using hj) = .int .i64 (i : Nat) := by
            have := (List.getElem?_eq_some_iff.1 hol).2
            simp [this]
          rw [hg3] at hb2
          simp -implicitDefEqProofs (maxSteps := 1000000) (disch := first | omega | assumption) only [e5, e6, hov, hb2, h0, h7, cell_of hB2, Sx, Nat.reduceEqDiff, reduceCtorEq]
          refine ⟨i, n, 0, rfl, ?_, hR', hset⟩
          rw [← hi1]
          exact .hit (by omega) hi3
        · have f3 : decide (((val (rest.take n) - fst l n : Nat) : Int) < ((cnt l n : Nat) : Int)) = false := decide_eq_false (by omega)
          simp -implicitDefEqProofs (maxSteps := 1000000) (disch := first | omega | assumption) only [e4, f2, f3, h0, h1, h6, h7, h8, hcn, cell_of h.B, l_g, Sx, Nat.reduceEqDiff, reduceCtorEq]
          exact ⟨k - 1, by omega, n + 1, by omega, by omega, by trivial, by trivial, by trivial, by rw [hpn]; simp, by simp, by omega, by omega, next (by omega), by trivial⟩
      · have f2 : decide ((0 : Int) ≤ ((val (rest.take n) : Nat) : Int) - ((fst l n : Nat) : Int)) = false := decide_eq_false (by omega)
        simp -implicitDefEqProofs (maxSteps := 1000000) (disch := first | omega | assumption) only [f2, h0, h1, h6, h7, h8, hcn, cell_of h.B, l_g, Sx, Nat.reduceEqDiff, reduceCtorEq]
        exact ⟨k - 1, by omega, n + 1, by omega, by omega, by trivial, by trivial, by trivial, by rw [hpn]; simp, by simp, by omega, by omega, next (by omega), by trivial⟩
  · have f0 : decide ((n : Int) ≤ (lo : Int)) = false := decide_eq_false (by omega)
    simp -implicitDefEqProofs (maxSteps := 1000000) (disch := first | omega | assumption) only [h0, h8, f0, hcl.2, cell_of h.B, Sx, Nat.reduceEqDiff, reduceCtorEq]
    have hnone : ∀ j, 0 < len_ l j → ¬ wb l j <+: rest := by
      intro j hj hp
      have := len_lo hc h.L hj
      exact hno _ hj (by omega) (wb_hit hc hj hp)
    refine ⟨0, 0, 52, rfl, .none hnone fun j hj hp => ?_, hR, Only.refl _ _⟩
    have hpw := (pre_wb hc hj).1 hp
    have := len_lo hc h.L hj
    have := hp.eq_of_length (by rw [wb_len]; omega)
    exact hnone j hj (by rw [this]; exact List.prefix_refl _)
end Go.Proofs.YtgbhdpeibiglfaaDoor.S05
