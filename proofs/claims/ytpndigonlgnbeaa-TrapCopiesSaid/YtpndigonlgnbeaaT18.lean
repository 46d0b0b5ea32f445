/- What is passed on several ways: the plain law. -/
import Derived.Test.YtpndigonlgnbeaaT17
set_option linter.unusedVariables false
set_option linter.unusedSimpArgs false
namespace Go.Proofs.Ytpndigonlgnbeaa

theorem onP_sorted (len : Int) (ts : List TrapT) : TS.Sorted TK (onP len ts) := TS.isort_sorted _
theorem landsP_bounds {a len b : Int} (h : landsP a len = some b) : 0 ≤ b ∧ b < len := by
  by_cases h0 : farB a = true ∨ len < 0 ∨ 1000000 < len
  · rw [landsP_far h0] at h; cases h
  · obtain ⟨y, hy⟩ : ∃ y, y = if a < 0 then a + len else a := ⟨_, rfl⟩
    by_cases h1 : y < 0 ∨ len ≤ y
    · rw [landsP_out hy h1] at h; cases h
    · rw [landsP_in h0 hy h1] at h
      injection h with h
      omega
theorem onP_bounds {len : Int} {ts : List TrapT} {x : TrapT} (h : x ∈ onP len ts) : 0 ≤ x.at_ ∧ x.at_ < len := by
  unfold onP at h
  rw [TS.mem_isort, List.mem_filterMap] at h
  obtain ⟨t, _, ht⟩ := h
  unfold landP at ht
  rw [Option.map_eq_some_iff] at ht
  obtain ⟨b, hb, rfl⟩ := ht
  exact landsP_bounds hb
/-- A way may be cut. -/
theorem way_cut (L : List TrapT) (hL : TS.Sorted TK L) (a b c : Int) (h1 : a ≤ b) (h2 : b ≤ c) :
    (L.filter fun x => !outP a b x) ++ (L.filter fun x => !outP b c x) = L.filter fun x => !outP a c x := by
  induction L with
  | nil => rfl
  | cons x L ih =>
    have hx := List.pairwise_cons.1 hL
    have ih := ih hx.2
    have o1 : ∀ y, outP a b y = (decide (y.at_ ≤ a) || decide (b < y.at_)) := fun _ => rfl
    have o2 : ∀ y, outP b c y = (decide (y.at_ ≤ b) || decide (c < y.at_)) := fun _ => rfl
    have o3 : ∀ y, outP a c y = (decide (y.at_ ≤ a) || decide (c < y.at_)) := fun _ => rfl
    rw [List.filter_cons, List.filter_cons, List.filter_cons]
    by_cases c1 : x.at_ ≤ a
    · have e1 : outP a b x = true := by rw [o1]; simp [c1]
      have e2 : outP b c x = true := by rw [o2]; simp; omega
      have e3 : outP a c x = true := by rw [o3]; simp [c1]
      simp only [e1, e2, e3, Bool.not_true, Bool.false_eq_true, if_false]
      exact ih
    · by_cases c2 : x.at_ ≤ b
      · have e1 : outP a b x = false := by rw [o1]; simp; omega
        have e2 : outP b c x = true := by rw [o2]; simp; omega
        have e3 : outP a c x = false := by rw [o3]; simp; omega
        simp only [e1, e2, e3, Bool.not_true, Bool.not_false, Bool.false_eq_true, if_false, if_true]
        rw [List.cons_append, ih]
      · have hno : (L.filter fun x => !outP a b x) = [] := by
          rw [List.filter_eq_nil_iff]
          intro y hy
          have h3 : x.at_ ≤ y.at_ := hx.1 y hy
          have e1 : outP a b y = true := by rw [o1]; simp; omega
          simp [e1]
        have e1 : outP a b x = true := by rw [o1]; simp; omega
        rw [hno] at ih ⊢
        rw [List.nil_append] at ih
        by_cases c3 : x.at_ ≤ c
        · have e2 : outP b c x = false := by rw [o2]; simp; omega
          have e3 : outP a c x = false := by rw [o3]; simp; omega
          simp only [e1, e2, e3, Bool.not_true, Bool.not_false, Bool.false_eq_true, if_false, if_true]
          rw [List.nil_append, ih]
        · have e2 : outP b c x = true := by rw [o2]; simp; omega
          have e3 : outP a c x = true := by rw [o3]; simp; omega
          simp only [e1, e2, e3, Bool.not_true, Bool.false_eq_true, if_false]
          rw [List.nil_append, ih]
theorem passP_cut (len a b c : Int) (ts : List TrapT) (h1 : a ≤ b) (h2 : b ≤ c) : passP len a b ts ++ passP len b c ts = passP len a c ts := way_cut _ (onP_sorted len ts) a b c h1 h2
theorem passP_all (len : Int) (ts : List TrapT) (h : len ≤ 1301) : passP len (-1) 1300 ts = onP len ts := by
  unfold passP
  rw [List.filter_eq_self]
  intro x hx
  obtain ⟨h1, h2⟩ := onP_bounds hx
  have o : outP (-1) 1300 x = (decide (x.at_ ≤ -1) || decide (1300 < x.at_)) := rfl
  rw [o]
  simp
  omega
theorem passP_none (len a : Int) (ts : List TrapT) : passP len a a ts = [] := by
  unfold passP
  rw [List.filter_eq_nil_iff]
  intro x hx
  have o : outP a a x = (decide (x.at_ ≤ a) || decide (a < x.at_)) := rfl
  rw [o]
  simp
  first | done | omega
theorem passP_len (len a b : Int) (ts : List TrapT) : (passP len a b ts).length ≤ ts.length := Nat.le_trans (List.length_filter_le _ _) (onP_len len ts)
theorem sorted_get {L : List TrapT} (h : TS.Sorted TK L) {i : Nat} {x y : TrapT} (hx : L[i]? = some x) (hy : L[i + 1]? = some y) : x.at_ ≤ y.at_ := by
  obtain ⟨h1, rfl⟩ := List.getElem?_eq_some_iff.1 hx
  obtain ⟨h2, rfl⟩ := List.getElem?_eq_some_iff.1 hy
  exact List.pairwise_iff_getElem.1 h i (i + 1) h1 h2 (by omega)
theorem rd_trap {w : World} {ok : Nat → Prop} {A : Option Addr} {n i : Nat} {l : List TrapT} {x : TrapT} (h : trapK.Rd w ok A n l) (hx : l[i]? = some x) :
    ∃ b off, A = some ⟨b, off, none⟩ ∧ w.cell? ⟨b, off + i * 2, none⟩ = some (.int .i64 x.at_) ∧ w.cell? ⟨b, off + i * 2 + 1, none⟩ = some (.string x.nm) := by
  obtain ⟨hi, rfl⟩ := List.getElem?_eq_some_iff.1 hx
  obtain ⟨b, off, cs, e, _, hK, hc⟩ := h.at_ hi
  subst hK
  exact ⟨b, off, e, hc 0 _ rfl, hc 1 _ rfl⟩
end Go.Proofs.Ytpndigonlgnbeaa
