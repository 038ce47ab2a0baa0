/- The reference's Text is the program's; Read of a Text is the number again. -/
import Derived.Test.YtndlhoaigaidbaaDx10
import Derived.Test.YtndlhoaigaidbaaHText
import Derived.Test.YtndlhoaigaidbaaHRead
set_option linter.unusedVariables false
namespace Go.Proofs.Ytndlhoaigaidbaa.Q
open Go.RowKit Go.Proofs.Ytndlhoaigaidbaa.D Go.Proofs.YtndlhoaigaidbaaW.PrintWords Go.Proofs.YtndlhoaigaidbaaW.PrintLast

/-- So many digits of a number, the greatest first. -/
def D : Nat → Nat → List Int
  | 0, _ => []
  | m + 1, u => D m (u / 10) ++ [48 + (u : Int) % 10]

theorem D_length : ∀ (m u : Nat), (D m u).length = m
  | 0, _ => rfl
  | m + 1, u => by rw [D, List.length_append, D_length m]; rfl
theorem D_lead : ∀ (m u : Nat), u < 10 ^ m → D (m + 1) u = 48 :: D m u
  | 0, u, h => by
    have : u = 0 := by simpa using h
    subst this; rfl
  | m + 1, u, h => by
    have h' : u / 10 < 10 ^ m := by rw [Nat.pow_succ] at h; omega
    rw [D, D_lead m (u / 10) h', D]; rfl
theorem D_split (m : Nat) : ∀ (j u : Nat), D (m + j) u = D m (u / 10 ^ j) ++ D j u
  | 0, u => by rw [Nat.pow_zero, Nat.div_one, D, List.append_nil]; rfl
  | j + 1, u => by
    rw [show m + (j + 1) = (m + j) + 1 from rfl, D, D_split m j (u / 10), D, List.append_assoc, Nat.div_div_eq_div_mul, Nat.pow_succ, Nat.mul_comm 10]
theorem D_in : ∀ (m u : Nat) (c : Int), c ∈ D m u → 48 ≤ c ∧ c ≤ 57
  | 0, _, c, h => by cases h
  | m + 1, u, c, h => by
    rw [D, List.mem_append] at h
    cases h with
    | inl h => exact D_in m _ c h
    | inr h =>
      have : c = 48 + (u : Int) % 10 := by simpa using h
      omega

/-- The digits with the point, as the program's loop writes them. -/
def W (S : Nat) : Nat → Nat → Nat → List Int
  | 0, _, _ => []
  | m + 1, u, i => W S m (u / 10) (i + 1) ++ (48 + (u : Int) % 10) :: (if i = S ∧ 0 < i then [46] else [])

theorem txt_W (S : Nat) : ∀ (m f u i : Nat) (acc : List Int), m ≤ f → u < 10 ^ m → S < i + m → (m = 0 ∨ 10 ^ (m - 1) ≤ u ∨ i + m ≤ S + 1) → txt S f u i acc = W S m u i ++ acc
  | 0, f, u, i, acc, hf, hu, hi, _ => by
    have hu0 : u = 0 := by simpa using hu
    subst hu0
    cases f with
    | zero => rfl
    | succ f => rw [txt, if_neg (by omega)]; rfl
  | m + 1, f, u, i, acc, hf, hu, hi, hm => by
    obtain ⟨f, rfl⟩ : ∃ f', f = f' + 1 := ⟨f - 1, by omega⟩
    have hp : 0 < 10 ^ m := Nat.pow_pos (by decide)
    have hgo : 0 < u ∨ i ≤ S := by
      rcases hm with h | h | h
      · omega
      · rw [Nat.add_sub_cancel] at h; omega
      · omega
    have hu' : u / 10 < 10 ^ m := by rw [Nat.pow_succ] at hu; omega
    have hm' : m = 0 ∨ 10 ^ (m - 1) ≤ u / 10 ∨ (i + 1) + m ≤ S + 1 := by
      rcases hm with h | h | h
      · omega
      · cases m with
        | zero => exact .inl rfl
        | succ m =>
          refine .inr (.inl ?_)
          rw [Nat.add_sub_cancel] at h ⊢
          rw [Nat.pow_succ] at h; omega
      · exact .inr (.inr (by omega))
    rw [txt, if_pos hgo, txt_W S m f (u / 10) (i + 1) _ (by omega) hu' (by omega) hm', W, List.append_assoc]
    congr 1
    by_cases hd : i = S ∧ 0 < i
    · rw [if_pos hd, if_pos hd]; rfl
    · rw [if_neg hd, if_neg hd]; rfl

theorem W_behind (S : Nat) : ∀ (m u i : Nat), S < i → W S m u i = D m u
  | 0, _, _, _ => rfl
  | m + 1, u, i, h => by rw [W, D, W_behind S m _ _ (by omega), if_neg (by omega)]
theorem W_at (S : Nat) (h0 : 0 < S) : ∀ (j m u i : Nat), i + j = S → 1 ≤ m → W S (m + j) u i = D m (u / 10 ^ j) ++ 46 :: D j u
  | 0, m, u, i, hj, hm => by
    obtain ⟨m, rfl⟩ : ∃ m', m = m' + 1 := ⟨m - 1, by omega⟩
    rw [Nat.add_zero, W, W_behind S m _ _ (by omega), if_pos (by omega), Nat.pow_zero, Nat.div_one, D, D, List.append_assoc]; rfl
  | j + 1, m, u, i, hj, hm => by
    rw [show m + (j + 1) = (m + j) + 1 from rfl, W, W_at S h0 j m (u / 10) (i + 1) (by omega) hm, if_neg (by omega), D, Nat.div_div_eq_div_mul, Nat.pow_succ, Nat.mul_comm 10, List.append_assoc]
    rfl
/-- Whole part, point, and what stands behind it. -/
def body (S m u : Nat) : List Int := D m (u / 10 ^ S) ++ (if 0 < S then 46 :: D S u else [])
theorem W_whole (S m u : Nat) (hm : 1 ≤ m) : W S (m + S) u 0 = body S m u := by
  unfold body
  by_cases h : 0 < S
  · rw [if_pos h]; exact W_at S h S m u 0 (Nat.zero_add S) hm
  · have : S = 0 := by omega
    subst this
    rw [if_neg h, Nat.pow_zero, Nat.div_one, List.append_nil, Nat.add_zero]
    obtain ⟨m, rfl⟩ : ∃ m', m = m' + 1 := ⟨m - 1, by omega⟩
    rw [W, W_behind 0 m _ _ (by omega), if_neg (by omega), D]

/-- How many digits a number has. -/
def Has (n u : Nat) : Prop := 1 ≤ n ∧ u < 10 ^ n ∧ (n = 1 ∨ 10 ^ (n - 1) ≤ u)
theorem has (u : Nat) : ∃ n, Has n u := by
  induction u using Nat.strongRecOn with
  | _ u ih =>
    by_cases h : u < 10
    · exact ⟨1, by decide, by simpa using h, .inl rfl⟩
    · obtain ⟨n, h1, h2, h3⟩ := ih (u / 10) (by omega)
      refine ⟨n + 1, by omega, by rw [Nat.pow_succ]; omega, .inr ?_⟩
      rw [Nat.add_sub_cancel]
      rcases h3 with rfl | h3
      · simpa using h
      · obtain ⟨n, rfl⟩ : ∃ n', n = n' + 1 := ⟨n - 1, by omega⟩
        rw [Nat.add_sub_cancel] at h3
        rw [Nat.pow_succ]; omega
theorem has_le {n u : Nat} (h : Has n u) (hu : u ≤ 9223372036854775808) : n ≤ 19 := by
  obtain ⟨h1, h2, h3⟩ := h
  rcases h3 with rfl | h3
  · decide
  · refine Nat.le_of_not_lt fun hn => ?_
    have : 10 ^ 19 ≤ 10 ^ (n - 1) := Nat.pow_le_pow_right (by decide) (by omega)
    have e : (10 : Nat) ^ 19 = 10000000000000000000 := by decide +kernel
    omega

theorem text_body (N : Int) (S n : Nat) (hS : S ≤ 9) (hN : inI64 N) (hn : Has n N.natAbs) : dec_Text.f N S = some ((if N < 0 then (⟨#[45]⟩ : ByteArray) else ⟨#[]⟩) ++ strOfNums (body S (max n (S + 1) - S) N.natAbs)) := by
  obtain ⟨b1, b2⟩ := hN
  have hle := has_le hn (by omega)
  obtain ⟨h1, h2, h3⟩ := hn
  unfold dec_Text.f
  rw [if_pos (show inI64 N from ⟨b1, b2⟩), if_pos (by omega), Int.toNat_natCast]
  have hm : (max n (S + 1) - S) + S = max n (S + 1) := by omega
  have e := txt_W S ((max n (S + 1) - S) + S) 21 N.natAbs 0 [] (by omega) (by rw [hm]; exact Nat.lt_of_lt_of_le h2 (Nat.pow_le_pow_right (by decide) (by omega))) (by omega) (by
    rw [hm]
    by_cases hc : n ≤ S + 1
    · exact .inr (.inr (by omega))
    · rcases h3 with h3 | h3
      · omega
      · rw [show max n (S + 1) = n by omega]; exact .inr (.inl h3))
  rw [e, List.append_nil, W_whole S _ _ (by omega)]

/-! The reference's digits -/
theorem u64_id (x : Int) (h0 : 0 ≤ x) (h : x < 18446744073709551616) : IntKind.u64.wrap x = x := by rw [IntKind.wrap_u64]; omega

theorem back_l1 (l : List Int) (hl : l.length < 1000) : ∀ (j k : Nat) (out : List Int), j ≤ l.length → out.length + j < 2000 → j < k → computusref03_Digits.l1 k l out ((j : Int) - 1) = some (strOfNums (out ++ (l.take j).reverse))
  | 0, k, out, hj, ho, hk => by
    obtain ⟨k, rfl⟩ : ∃ k', k = k' + 1 := ⟨k - 1, by omega⟩
    rw [computusref03_Digits.l1, if_neg (by omega)]; simp
  | j + 1, k, out, hj, ho, hk => by
    obtain ⟨k, rfl⟩ : ∃ k', k = k' + 1 := ⟨k - 1, by omega⟩
    have e : (((j + 1 : Nat) : Int) - 1) = (j : Int) := by omega
    have w : wrap64 ((j : Int) - 1) = (j : Int) - 1 := by unfold wrap64; omega
    have r : rd l (j : Int) = l[j]'(by omega) := by
      unfold rd; rw [Int.toNat_natCast, List.getD_eq_getElem?_getD, List.getElem?_eq_getElem (by omega)]; rfl
    rw [e, computusref03_Digits.l1, if_pos (by omega), if_pos (by omega), if_pos (by omega), if_pos (by omega), w, r,
      back_l1 l hl j k _ (by omega) (by simp; omega) (by omega), List.take_succ_eq_append_getElem (by omega), List.reverse_append, List.append_assoc]
    rfl

theorem wrap_digit (u : Int) (h0 : 0 ≤ u) (h : u < 10) : IntKind.u64.wrap (48 + u) % 256 = 48 + u := by rw [u64_id _ (by omega) (by omega)]; omega
theorem digits_l0 (N : Int) : ∀ (n k u : Nat) (acc : List Int), Has n u → u < 18446744073709551616 → acc.length + n < 900 → acc.length + 2 * n + 5 < k →
    computusref03_Digits.l0 k N u acc = some (strOfNums ((if N < 0 then [45] else []) ++ D n u ++ acc.reverse))
  | 0, k, u, acc, h, _, _, _ => absurd h.1 (by decide)
  | n + 1, k, u, acc, h, hu, ha, hk => by
    obtain ⟨k, rfl⟩ : ∃ k', k = k' + 1 := ⟨k - 1, by omega⟩
    obtain ⟨h1, h2, h3⟩ := h
    rw [computusref03_Digits.l0]
    by_cases hn : n = 0
    · subst hn
      have hu10 : u < 10 := by simpa using h2
      rw [if_neg (by omega), if_pos (by omega), wrap_digit _ (by omega) (by omega), Option.bind_some]
      have hd : D 1 u = [48 + (u : Int)] := by rw [D, D]; simp; omega
      have key : ∀ (l : List Int) (k : Nat), l.length < 1000 → l.length + 2 ≤ k → computusref03_Digits.j2 k l = some (strOfNums l.reverse) := by
        intro l k hl hk
        obtain ⟨k, rfl⟩ : ∃ k', k = k' + 1 := ⟨k - 1, by omega⟩
        have w : wrap64 ((l.length : Int) - 1) = (l.length : Int) - 1 := by unfold wrap64; omega
        rw [computusref03_Digits.j2, w, back_l1 l hl l.length k [] (Nat.le_refl _) (by simp; omega) (by omega)]
        simp
      by_cases hneg : N < 0
      · rw [if_pos hneg, if_pos (by simp; omega), key _ _ (by simp; omega) (by simp; omega), hd, if_pos hneg]; simp
      · rw [if_neg hneg, key _ _ (by simp; omega) (by simp; omega), hd, if_neg hneg]; simp
    · have hu10 : 10 ≤ u := by
        rcases h3 with h3 | h3
        · omega
        · rw [Nat.add_sub_cancel] at h3
          have : 10 ^ 1 ≤ 10 ^ n := Nat.pow_le_pow_right (by decide) (by omega)
          omega
      have hh : Has n (u / 10) := by
        refine ⟨by omega, by rw [Nat.pow_succ] at h2; omega, ?_⟩
        rcases h3 with h3 | h3
        · omega
        · rw [Nat.add_sub_cancel] at h3
          obtain ⟨n, rfl⟩ : ∃ n', n = n' + 1 := ⟨n - 1, by omega⟩
          right
          rw [Nat.add_sub_cancel]; rw [Nat.pow_succ] at h3; omega
      have e1 : IntKind.u64.wrap (Int.tdiv (u : Int) 10) = ((u / 10 : Nat) : Int) := by
        rw [Int.tdiv_eq_ediv_of_nonneg (by omega), u64_id _ (by omega) (by omega)]; omega
      have e2 : IntKind.u64.wrap (48 + Int.tmod (u : Int) 10) % 256 = 48 + (u : Int) % 10 := by
        rw [Int.tmod_eq_emod_of_nonneg (by omega), wrap_digit _ (by omega) (by omega)]
      rw [if_pos (by omega), if_pos (by omega), e1, e2, digits_l0 N n k (u / 10) _ hh (by omega) (by simp; omega) (by simp; omega), D]
      simp

theorem digits_same (N : Int) (n k : Nat) (hN : inI64 N) (hn : Has n N.natAbs) (hk : 60 ≤ k) : computusref03_Digits.f k N = some (strOfNums ((if N < 0 then [45] else []) ++ D n N.natAbs)) := by
  obtain ⟨b1, b2⟩ := hN
  have hle := has_le hn (by omega)
  obtain ⟨k, rfl⟩ : ∃ k', k = k' + 1 := ⟨k - 1, by omega⟩
  unfold computusref03_Digits.f
  by_cases hneg : N < 0
  · have e : IntKind.u64.wrap (-(IntKind.u64.wrap N)) = (N.natAbs : Int) := by
      rw [IntKind.wrap_u64, IntKind.wrap_u64]; omega
    rw [if_pos hneg, computusref03_Digits.j0, e, digits_l0 N n k N.natAbs [] hn (by omega) (by simp; omega) (by simp; omega), if_pos hneg]; simp
  · have e : IntKind.u64.wrap N = (N.natAbs : Int) := by rw [IntKind.wrap_u64]; omega
    rw [if_neg hneg, computusref03_Digits.j0, e, digits_l0 N n k N.natAbs [] hn (by omega) (by simp; omega) (by simp; omega), if_neg hneg]; simp

/-! Texts of bytes, as lists -/
theorem str_append (a b : List Int) : strOfNums (a ++ b) = strOfNums a ++ strOfNums b := by
  apply ByteArray.ext
  rw [ByteArray.data_append]
  simp [strOfNums]
theorem str_extract (l : List Int) (i j : Nat) : (strOfNums l).extract i j = strOfNums ((l.take j).drop i) := by
  apply ByteArray.ext
  rw [ByteArray.data_extract]
  apply Array.toList_inj.1
  simp [strOfNums, List.drop_take]
theorem str_size (l : List Int) : (strOfNums l).size = l.length := strOfNums_size l
theorem str_bytes (l : List Int) (h : ∀ c ∈ l, 0 ≤ c ∧ c < 256) : bytesOf (strOfNums l) = l := by
  unfold bytesOf
  rw [strOfNums_data, List.map_map]
  conv => rhs; rw [← List.map_id l]
  refine List.map_congr_left fun c hc => ?_
  obtain ⟨h0, h1⟩ := h c hc
  simp only [Function.comp, id]
  rw [UInt8.toNat_ofNat']
  omega

theorem text_l0 (S : Nat) (N : Int) (sg : List Int) (u : Nat) (hS : S ≤ 9) (hsg : sg.length ≤ 1) : ∀ (j n k : Nat), u < 10 ^ n → n + j = max n (S + 1) → n ≤ 30 → j < k →
    computusref04_Text.l0 k (strOfNums (D n u)) (strOfNums sg) N S = some (strOfNums (sg ++ body S (n + j - S) u))
  | 0, n, k, hu, hj, hn, hk => by
    obtain ⟨k, rfl⟩ : ∃ k', k = k' + 1 := ⟨k - 1, by omega⟩
    obtain ⟨m, rfl⟩ : ∃ m, n = m + S := ⟨n - S, by omega⟩
    have hsz : (strOfNums (D (m + S) u)).size = m + S := by rw [str_size, D_length]
    have hw : wrap64 (((m + S : Nat) : Int) - S) = m := by unfold wrap64; omega
    have e0 : (m : Int).toNat = m := Int.toNat_natCast m
    have x0 : (strOfNums (D (m + S) u)).extract 0 m = strOfNums (D m (u / 10 ^ S)) := by
      rw [str_extract, D_split, List.drop_zero, List.take_left' (D_length _ _)]
    have x1 : (strOfNums (D (m + S) u)).extract m (m + S) = strOfNums (D S u) := by
      rw [str_extract, D_split, List.take_of_length_le (by rw [List.length_append, D_length, D_length]; exact Nat.le_refl _), List.drop_left' (D_length _ _)]
    rw [computusref04_Text.l0, hsz, hw, e0, x0, x1, if_neg (by omega), if_pos (by omega), if_pos (by omega), str_size, str_size, D_length, if_pos (by omega)]
    rw [show m + S + 0 - S = m by omega]
    unfold body
    by_cases h : 0 < S
    · have sz1 : (strOfNums sg ++ strOfNums (D m (u / 10 ^ S))).size = sg.length + m := by rw [ByteArray.size_append, str_size, str_size, D_length]
      have sz2 : ((strOfNums sg ++ strOfNums (D m (u / 10 ^ S))) ++ (⟨#[46]⟩ : ByteArray)).size = sg.length + m + 1 := by rw [ByteArray.size_append, sz1]; rfl
      rw [if_pos (by omega), sz1, if_pos (by omega), sz2, str_size, D_length, if_pos (by omega), if_pos h]
      rw [str_append, str_append, show (46 :: D S u) = [46] ++ D S u from rfl, str_append, ByteArray.append_assoc, ByteArray.append_assoc]
      rfl
    · rw [if_neg (by omega), if_neg h, List.append_nil, str_append]
  | j + 1, n, k, hu, hj, hn, hk => by
    obtain ⟨k, rfl⟩ : ∃ k', k = k' + 1 := ⟨k - 1, by omega⟩
    have hsz : (strOfNums (D n u)).size = n := by rw [str_size, D_length]
    have e : (⟨#[48]⟩ : ByteArray) ++ strOfNums (D n u) = strOfNums (D (n + 1) u) := by
      rw [D_lead n u hu, show 48 :: D n u = [48] ++ D n u from rfl, str_append]; rfl
    rw [computusref04_Text.l0, hsz, if_pos (by omega), if_pos (by omega), e, text_l0 S N sg u hS hsg j (n + 1) k (Nat.lt_of_lt_of_le hu (Nat.pow_le_pow_right (by decide) (by omega))) (by omega) (by omega) (by omega), show n + 1 + j - S = n + (j + 1) - S by omega]

theorem right_yes (N : Int) (S : Nat) (h : S ≤ 9) : computusref04_Right.f N S = some true := by
  unfold computusref04_Right.f; rw [if_pos (by omega), decide_eq_true (by omega)]
theorem right_no (N S : Int) (h : ¬ (0 ≤ S ∧ S ≤ 9)) : computusref04_Right.f N S = some false := by
  unfold computusref04_Right.f
  by_cases h0 : S ≥ 0
  · rw [if_pos h0, decide_eq_false (by omega)]
  · rw [if_neg h0]

theorem text_same (N S : Int) (k : Nat) (hN : inI64 N) (hk : 60 ≤ k) : computusref04_Text.f k N S = dec_Text.f N S := by
  obtain ⟨b1, b2⟩ := hN
  obtain ⟨k, rfl⟩ : ∃ k', k = k' + 1 := ⟨k - 1, by omega⟩
  by_cases h : 0 ≤ S ∧ S ≤ 9
  · obtain ⟨S, rfl⟩ : ∃ s : Nat, S = s := ⟨S.toNat, by omega⟩
    have hS : S ≤ 9 := by omega
    obtain ⟨n, hn⟩ := has N.natAbs
    have hle := has_le hn (by omega)
    rw [text_body N S n hS ⟨b1, b2⟩ hn]
    unfold computusref04_Text.f
    rw [right_yes N S hS, Option.bind_some, if_pos rfl, digits_same N n (k + 1) ⟨b1, b2⟩ hn (by omega), Option.bind_some]
    obtain ⟨h1, h2, h3⟩ := hn
    by_cases hneg : N < 0
    · have hx : (strOfNums (([45] : List Int) ++ D n N.natAbs)).extract 1 (strOfNums (([45] : List Int) ++ D n N.natAbs)).size = strOfNums (D n N.natAbs) := by
        rw [str_extract, str_size, List.take_length]; rfl
      rw [if_pos hneg, if_pos hneg, if_pos hneg, if_pos (by rw [str_size]; simp; omega), hx, computusref04_Text.j0]
      have e := text_l0 S N [45] N.natAbs hS (by decide) (max n (S + 1) - n) n k h2 (by omega) (by omega) (by omega)
      rw [show n + (max n (S + 1) - n) - S = max n (S + 1) - S by omega, str_append] at e
      exact e
    · rw [if_neg hneg, if_neg hneg, if_neg hneg, List.nil_append, computusref04_Text.j0]
      have e := text_l0 S N [] N.natAbs hS (by decide) (max n (S + 1) - n) n k h2 (by omega) (by omega) (by omega)
      rw [show n + (max n (S + 1) - n) - S = max n (S + 1) - S by omega, str_append] at e
      exact e
  · unfold computusref04_Text.f dec_Text.f
    rw [right_no N S h, Option.bind_some, if_neg (by decide), if_pos (show inI64 N from ⟨b1, b2⟩), if_neg h]

end Go.Proofs.Ytndlhoaigaidbaa.Q
