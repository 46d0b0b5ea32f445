import Derived.Test.YteadghhmoggjnaaFE3
import Derived.Test.YteadghhmoggjnaaFE2
section
/- What FillEnds' walk reckons is true. -/
set_option linter.unusedVariables false
namespace Go.Proofs.Yteadghhmoggjnaa.Pure
open Go.RowKit Go.Proofs.Yteadghhmoggjnaa.Q Go.Proofs.YteadghhmoggjnaaW.PrintWords Go.Proofs.YteadghhmoggjnaaW.PrintLast
open Go.Proofs.YteadghhmoggjnaaB (rowL row_f rowL_len rowL_f6 rowL_width rowL_mem boxOf_ok rowL_check lenOf ref_width same_self ref_growing growL growL_mem growL_inj growTo_len rdT_at rd_at w64_succ widthW width_sum spread spread_at spread_sum spreadTo_len grown adjL wayOf checkI bonus bonusTo_all)

theorem ends_l0 (row out : List S33) (hl : row.length ≤ 1000) (h6 : ∀ x ∈ row, x.f6.length ≤ 0) (hlen : out.length = row.length) (E : Int) (hE0 : 0 ≤ E) (hE1 : E ≤ 100000)
    (h1 : ∀ (i q : Nat) (x : S33), (growL row)[i]? = some ((q : Nat) : Int) → row[q]? = some x → ∃ y, out[q]? = some y ∧ y.f0 = x.f0 ∧ y.f2 = x.f2 ∧ y.f3 = x.f3 ∧ y.f4 = x.f4 ∧ y.f5 = x.f5 ∧ y.f6 = x.f6 ∧ E ≤ y.f1 - x.f1 ∧ y.f1 - x.f1 ≤ E + 1)
    (h2 : ∀ q : Nat, (∀ i : Nat, (growL row)[i]? ≠ some (q : Int)) → out[q]? = row[q]?) :
    ∀ (m i k : Nat) (x9 : List S33) (low high : Int), i + m = (growL row).length → m + 1100 ≤ k → x9.length = row.length →
      (∀ q : Nat, (∃ j : Nat, j < i ∧ (growL row)[j]? = some (q : Int)) → x9[q]? = row[q]?) → (∀ q : Nat, (∀ j : Nat, j < i → (growL row)[j]? ≠ some (q : Int)) → x9[q]? = out[q]?) →
      ((i = 0 ∧ low = 1099511627776 ∧ high = 0) ∨ (0 < i ∧ E ≤ low ∧ low ≤ E + 1 ∧ E ≤ high ∧ high ≤ E + 1)) →
      frisketlaw11_FillEnds.l0 k row x9 (growL row) low high (i : Int) = some true
  | m, i, 0, _, _, _, _, h, _, _, _, _ => by omega
  | 0, i, k + 1, x9, low, high, hi, hk, hx, ha, hb, hw => by
    obtain rfl : i = (growL row).length := by omega
    have hrow : x9 = row := by
      apply List.ext_getElem?
      intro q
      by_cases hq : ∃ j, j < (growL row).length ∧ (growL row)[j]? = some (q : Int)
      · exact ha q hq
      · have hn : ∀ i : Nat, (growL row)[i]? ≠ some (q : Int) := fun i e => hq ⟨i, (List.getElem?_eq_some_iff.1 e).1, e⟩
        rw [hb q (fun j _ => hn j), h2 q hn]
    subst hrow
    have hs := same_self x9 0 (by decide) (by omega) h6 (k := k) (by omega)
    rw [frisketlaw11_FillEnds.l0, if_neg (by omega)]
    by_cases h0 : ((growL x9).length : Int) = 0
    · rw [if_pos h0, hs, Option.bind_some, if_pos rfl]
      rfl
    · rw [if_neg h0]
      rcases hw with ⟨h, _, _⟩ | ⟨_, a, b, c, d⟩
      · omega
      · rw [if_pos (by unfold wrap64; omega), hs, Option.bind_some, if_pos rfl]
        rfl
  | m + 1, i, k + 1, x9, low, high, hi, hk, hx, ha, hb, hw => by
    obtain ⟨p, hp⟩ : ∃ p, (growL row)[i]? = some p := ⟨_, List.getElem?_eq_getElem (by omega)⟩
    obtain ⟨q, x, rfl, hxq, -⟩ := growL_mem (List.mem_of_getElem? hp)
    obtain ⟨hq, -⟩ := List.getElem?_eq_some_iff.1 hxq
    obtain ⟨y, hy, e0, e2, e3, e4, e5, e6, d1, d2⟩ := h1 i q x hp hxq
    have hy9 : x9[q]? = some y := by rw [hb q (fun j hj e => by have := growL_inj e hp; omega), hy]
    have hg := growTo_len row row.length
    have hgl : (growL row).length ≤ row.length := hg
    rw [frisketlaw11_FillEnds.l0, if_pos (by omega), if_pos (by omega), rd_at hp, if_pos (by omega), if_pos (by omega), if_pos (by omega), rdT_at hy9, rdT_at hxq, Int.toNat_natCast, w64_succ (by omega)]
    have ex : (⟨y.f0, x.f1, y.f2, y.f3, y.f4, y.f5, y.f6⟩ : S33) = x := by rw [e0, e2, e3, e4, e5, e6]
    rw [ex]
    generalize hd : wrap64 (y.f1 - x.f1) = d
    have hdd : E ≤ d ∧ d ≤ E + 1 := by rw [← hd]; unfold wrap64; omega
    refine ends_l0 row out hl h6 hlen E hE0 hE1 h1 h2 m (i + 1) k (x9.set q x) (mn low d) (mx high d) (by omega) (by omega) (by rw [List.length_set]; exact hx) ?_ ?_ ?_
    · rintro r ⟨j, hj, hr⟩
      rw [List.getElem?_set]
      by_cases hrq : q = r
      · subst hrq
        rw [if_pos rfl, if_pos (by omega), hxq]
      · rw [if_neg hrq]
        refine ha r ⟨j, ?_, hr⟩
        rcases Nat.lt_or_ge j i with h | h
        · exact h
        · obtain rfl : j = i := by omega
          rw [hp] at hr
          injection hr with hr
          omega
    · intro r hr
      rw [List.getElem?_set]
      have hrq : q ≠ r := by
        rintro rfl
        exact hr i (by omega) hp
      rw [if_neg hrq]
      exact hb r (fun j hj => hr j (by omega))
    · right
      unfold mn mx
      rcases hw with ⟨_, hw1, hw2⟩ | ⟨_, a, b, c, dd⟩
      · subst hw1
        subst hw2
        refine ⟨by omega, ?_⟩
        split <;> split <;> omega
      · refine ⟨by omega, ?_⟩
        split <;> split <;> omega
theorem FillEnds : frisketlaw11_FillEnds.Pure := by
  intro l0 a1 a2 _ _ _ _
  refine ⟨100000, ?_⟩
  have hn := lenOf a1
  have hl := rowL_len l0
  have hw := rowL_width l0
  have h6 := rowL_f6 l0
  have hck := rowL_check l0 (wrap64 (Int.tmod (IntKind.u64.wrap a1) 2000)) hn.1 (by omega)
  have hbox : ∀ x ∈ rowL l0, -20 ≤ x.f1 ∧ x.f1 ≤ 20 := fun x hx => by obtain ⟨n, rfl⟩ := rowL_mem hx; have := (boxOf_ok n).2.2; omega
  unfold frisketlaw11_FillEnds.f
  generalize wrap64 (Int.tmod (IntKind.u64.wrap a1) 2000) = n at *
  rw [row_f l0 (by decide), Option.bind_some]
  generalize rowL l0 = row at *
  have hmul : (row.length + 4) * row.length ≤ 124 * 120 := Nat.mul_le_mul (by omega) hl
  have hgrow : ∀ k, 20000 ≤ k → frisketref11_Growing.f k row = some (growL row) := fun k hk => ref_growing row (by omega) (by omega)
  have hgl : (growL row).length ≤ row.length := growTo_len row row.length
  by_cases hA : 0 < n - widthW row ∧ 0 < (growL row).length
  · have hadj : fill_Adjust.f row n 98 a2 = some (spread row (n - widthW row) a2, 0, 0) := by
      show some (adjL row n 98 a2) = _
      unfold adjL
      rw [if_neg (by rw [hck]; omega), if_neg (by rw [hck]; omega), if_pos ⟨rfl, hA⟩]
      rfl
    rw [hadj, Option.bind_some]
    dsimp only
    generalize hlack : n - widthW row = lack at *
    have hG : (0 : Int) < ((growL row).length : Int) := by omega
    have hdiv := Int.emod_add_mul_ediv lack ((growL row).length : Int)
    have hmod0 := Int.emod_nonneg lack (by omega : ((growL row).length : Int) ≠ 0)
    have hmod1 := Int.emod_lt_of_pos lack hG
    have hE0 : 0 ≤ lack / ((growL row).length : Int) := Int.ediv_nonneg (by omega) (by omega)
    have hE1 : lack / ((growL row).length : Int) ≤ lack := Int.ediv_le_self _ (by omega)
    have hsp := spread_at row (lack / (growL row).length) (lack % (growL row).length) a2 (growL row).length (Nat.le_refl _)
    have hsum := spread_sum row (lack / (growL row).length) (lack % (growL row).length) a2 (growL row).length (Nat.le_refl _)
    have hlen : (spread row lack a2).length = row.length := spreadTo_len row (growL row) _ _ a2 _
    have hbon : ∀ k, 0 ≤ bonus (lack % (growL row).length) (growL row).length a2 k ∧ bonus (lack % (growL row).length) (growL row).length a2 k ≤ 1 := fun k => by unfold bonus; split <;> omega
    have hat1 : ∀ (i q : Nat) (x : S33), (growL row)[i]? = some ((q : Nat) : Int) → row[q]? = some x → (spread row lack a2)[q]? = some (grown (lack / (growL row).length) (lack % (growL row).length) (growL row).length a2 i x) := fun i q x hg hx => hsp.1 i q x (List.getElem?_eq_some_iff.1 hg).1 hg hx
    have hat2 : ∀ q : Nat, (∀ i : Nat, (growL row)[i]? ≠ some (q : Int)) → (spread row lack a2)[q]? = row[q]? := fun q hq => hsp.2 q (fun i _ => hq i)
    have hgf : ∀ i x, (grown (lack / (growL row).length) (lack % (growL row).length) (growL row).length a2 i x).f1 = x.f1 + lack / (growL row).length + bonus (lack % (growL row).length) (growL row).length a2 i := fun i x => rfl
    have hbound : ∀ y ∈ spread row lack a2, -5000 ≤ y.f1 ∧ y.f1 ≤ 5000 := fun y hy => by
      obtain ⟨q, hq, rfl⟩ := List.mem_iff_getElem.1 hy
      obtain ⟨x, hx⟩ : ∃ x, row[q]? = some x := ⟨_, List.getElem?_eq_getElem (by omega)⟩
      have hxb := hbox x (List.mem_of_getElem? hx)
      have hyq := List.getElem?_eq_getElem hq
      by_cases hg : ∃ i : Nat, (growL row)[i]? = some (q : Int)
      · obtain ⟨i, hg⟩ := hg
        have := hat1 i q x hg hx
        rw [hyq] at this
        injection this with this
        rw [this, hgf]
        have := hbon i
        omega
      · have := hat2 q (fun i e => hg ⟨i, e⟩)
        rw [hyq, hx] at this
        injection this with this
        rw [this]
        omega
    have hwid : widthW (spread row lack a2) = n := by
      rw [width_sum _ hbound (by omega)]
      have e1 : widthW row = Go.Proofs.YteadghhmoggjnaaB.sumW row := width_sum row (fun x hx => by have := hbox x hx; omega) (by omega)
      have e2 := bonusTo_all (lack % (growL row).length) (growL row).length a2 hmod0 (by omega)
      rw [e2] at hsum
      show Go.Proofs.YteadghhmoggjnaaB.sumW (spread row lack a2) = n
      have e3 : Go.Proofs.YteadghhmoggjnaaB.sumW (spread row lack a2) = Go.Proofs.YteadghhmoggjnaaB.sumW row + ((growL row).length : Int) * (lack / (growL row).length) + lack % (growL row).length := hsum
      omega
    rw [if_pos rfl, if_pos rfl, hlen]
    have en : ((row.length : Int) != (row.length : Int)) = false := by simp
    rw [en, frisketlaw11_FillEnds.j0, if_neg (by decide), hgrow _ (by decide), Option.bind_some, ref_width row (by omega) (by omega), Option.bind_some, if_pos (by omega), if_pos (by omega), ref_width _ (by omega) (by omega), Option.bind_some, if_pos hwid, if_neg (by omega), if_neg (by omega),
      frisketlaw11_FillEnds.j1, if_neg (by decide)]
    refine ends_l0 row (spread row lack a2) (by omega) h6 hlen (lack / (growL row).length) hE0 (by omega) (fun i q x hg hx => ⟨_, hat1 i q x hg hx, rfl, rfl, rfl, rfl, rfl, rfl, ?_, ?_⟩) hat2 (growL row).length 0 _ _ _ _ (by omega) (by omega) hlen (fun q ⟨j, hj, _⟩ => by omega) (fun q _ => rfl) (.inl ⟨rfl, rfl, rfl⟩)
    · rw [hgf]; have := hbon i; omega
    · rw [hgf]; have := hbon i; omega
  · have hadj : fill_Adjust.f row n 98 a2 = some (row, 0, 0) := by
      show some (adjL row n 98 a2) = _
      unfold adjL
      rw [if_neg (by rw [hck]; omega), if_neg (by rw [hck]; omega), if_neg (fun h => hA h.2)]
      rfl
    rw [hadj, Option.bind_some]
    dsimp only
    have en : ((row.length : Int) != (row.length : Int)) = false := by simp
    have hend : ∀ k, 3000 ≤ k → frisketlaw11_FillEnds.j1 k row row (growL row) false = some true := fun k hk => by
      obtain ⟨k, rfl⟩ : ∃ k', k = k' + 1 := ⟨k - 1, by omega⟩
      rw [frisketlaw11_FillEnds.j1, if_neg (by decide)]
      exact ends_l0 row row (by omega) h6 rfl 0 (by omega) (by omega) (fun i q x hg hx => ⟨x, hx, rfl, rfl, rfl, rfl, rfl, rfl, by omega, by omega⟩) (fun q _ => rfl) (growL row).length 0 _ _ _ _ (by omega) (by omega) rfl (fun q ⟨j, hj, _⟩ => by omega) (fun q _ => rfl) (.inl ⟨rfl, rfl, rfl⟩)
    have hs := same_self row 0 (by decide) (by omega) h6 (k := 99999) (by omega)
    rw [if_pos rfl, if_pos rfl, en, frisketlaw11_FillEnds.j0, if_neg (by decide), hgrow _ (by decide), Option.bind_some, ref_width row (by omega) (by omega), Option.bind_some]
    by_cases hg : ((growL row).length : Int) > 0
    · rw [if_pos hg, if_neg (by omega), if_neg (by omega), if_pos (by omega), hs, Option.bind_some]
      exact hend _ (by decide)
    · rw [if_neg hg, if_pos (by omega), hs, Option.bind_some]
      exact hend _ (by decide)
end Go.Proofs.Yteadghhmoggjnaa.Pure
end
