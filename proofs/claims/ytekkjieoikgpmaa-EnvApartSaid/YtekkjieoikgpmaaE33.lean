/- A row that numbers make. -/
import Derived.Test.YtekkjieoikgpmaaE31
set_option linter.unusedVariables false
set_option linter.unusedSimpArgs false
namespace Go.Proofs.Ytekkjieoikgpmaa
open Go.RowKit
set_option maxHeartbeats 800000
set_option maxRecDepth 1000000

theorem rd_int3 {w : World} {ok : Nat → Prop} {A : Option Addr} {n i : Nat} {l : List Int} {x : Int} (h : Kind.int.Rd w ok A n l) (hx : l[i]? = some x) :
    ∃ b off, A = some ⟨b, off, none⟩ ∧ w.cell? ⟨b, off + i, none⟩ = some (.int .i64 x) := by
  obtain ⟨hi, rfl⟩ := List.getElem?_eq_some_iff.1 hx
  obtain ⟨b, off, cs, e, _, hK, hc⟩ := h.at_ hi
  subst hK
  have h0 := hc 0 _ rfl
  rw [show off + i * Kind.int.sz + 0 = off + i from by show off + i * 1 + 0 = off + i; omega] at h0
  exact ⟨b, off, e, h0⟩
theorem info_box3 : (Try.prog.info? 86).map (·.size) = some 7 := by kernel_rfl
/-- A box that one number makes: r of twelve, m the rest. -/
def boxR (r m : Int) : BoxT :=
  if r ≤ 2 then ⟨1, m.tmod 20, 0, 10, ⟨#[]⟩, ⟨#[]⟩, []⟩
  else if r ≤ 4 then ⟨5, 0, 0, 0, ⟨#[]⟩, ⟨#[]⟩, []⟩
  else if r = 5 then ⟨1, 5, 0, 10, ⟨#[126]⟩, ⟨#[]⟩, []⟩
  else if r = 6 then ⟨2, m.tmod 31 - 15, 0, 0, ⟨#[]⟩, ⟨#[]⟩, []⟩
  else if r = 7 then ⟨6, m.tmod 10, 0, 0, ⟨#[]⟩, ⟨#[]⟩, []⟩
  else ⟨0, 5 + m.tmod 12, 0, 10, (⟨#[97, 98, 99, 100, 101, 102, 103, 104]⟩ : ByteArray).extract (m.tmod 8).toNat ((m.tmod 8).toNat + 1), ⟨#[]⟩, []⟩
def boxQ (x : Int) : BoxT := boxR (((IntKind.u64.wrap x).tmod 100000).tmod 12) (((IntKind.u64.wrap x).tmod 100000).tdiv 12)
def boxCs (a b c d : Int) (s : ByteArray) : List Value := [.int .i64 a, .int .i64 b, .int .i64 c, .int .i64 d, .string s, .string ⟨#[]⟩, .slice none 0 0]
theorem blank_any (n : Int) (w : World) : Calls Try.prog 81 #[.int .i64 n] w fun e w' => e = .returned (.agg #[.int .i64 1, .int .i64 n, .int .i64 0, .int .i64 10, .string ⟨#[]⟩, .string ⟨#[]⟩, .slice none 0 0]) ∧ Below w.heap.size w w' := by

  go_enter Try.func81, Try.ntmps81
  go_wp2_with fail
  refine bodyPost_ret (results_cell_row rfl _ _ w.heap.size 86 _ (0, 0) _ rfl (blk_new _ _) Try.underlying86 rfl info_box3) rfl ?_
  exact ⟨rfl, (Below.refl _ _).alloc (Nat.le_refl _) _⟩
theorem Row_any (A : Option Addr) (n c : Nat) (L : List Int) (ok : Nat → Prop) (w : World) (hr : Kind.int.Rd w ok A n L) (hn : n ≤ 100) :
    Calls Try.prog 55 #[.slice A n c] w fun e w' => ∃ v, e = .returned v ∧ boxK.Own 86 w' (fun _ => False) w.heap.size v (L.map boxQ) ∧ Below w.heap.size w w' := by
  have HR := hide hr
  have hln : L.length = n := hr.1
  have HLN := hide hln
  clear hr hln
  go_enter Try.func55, Try.ntmps55
  go_wp2_with fail
  go_loopw [3, 4, 5] (fun t3 t4 _ wr => ∃ (i : Nat) (v3 : Value), t4 = .int .i64 i ∧ v3 = t3 ∧ i ≤ n ∧ Hid (boxK.Own 86 wr (fun _ => False) w.heap.size v3 ((L.take i).map boxQ)) ∧ Hid (Below w.heap.size w wr)) (fun _ t4 _ _ => n - (intOf t4).toNat)
  case atStart => exact ⟨0, _, rfl, rfl, Nat.zero_le _, hide (Kind.Own.nil boxK _ _ _ _), hide (Below.refl _ _)⟩
  case round =>
    obtain ⟨i, v3, rfl, rfl, hi, HO, HB⟩ := hrel
    by_cases hlt : i < n
    · obtain ⟨x, hx⟩ : ∃ x, L[i]? = some x := ⟨_, List.getElem?_eq_getElem (by have := HLN.out; omega)⟩
      obtain ⟨b1, o1, rfl, p0⟩ := rd_int3 (HR.out.below HB.out) hx
      have hnext : (L.take (i + 1)).map boxQ = (L.take i).map boxQ ++ [boxQ x] := by
        obtain ⟨h1, h2⟩ := List.getElem?_eq_some_iff.1 hx
        rw [List.take_succ_eq_append_getElem h1, List.map_append, h2]
        rfl
      have hbq : boxQ x = boxR (((IntKind.u64.wrap x).tmod 100000).tmod 12) (((IntKind.u64.wrap x).tmod 100000).tdiv 12) := rfl
      obtain ⟨q, hq, hq2⟩ := umod x 100000 (by omega)
      obtain ⟨m, hm, hm2⟩ : ∃ m : Nat, (q : Int).tdiv 12 = (m : Int) ∧ m < 10000 := ⟨q / 12, by rw [Int.tdiv_eq_ediv_of_nonneg (by omega)]; omega, by omega⟩
      rw [hq, hm] at hbq
      have h12 : (q : Int).tmod 12 = 0 ∨ (q : Int).tmod 12 = 1 ∨ (q : Int).tmod 12 = 2 ∨ (q : Int).tmod 12 = 3 ∨ (q : Int).tmod 12 = 4 ∨ (q : Int).tmod 12 = 5 ∨ (q : Int).tmod 12 = 6 ∨ (q : Int).tmod 12 = 7 ∨ (q : Int).tmod 12 = 8 ∨ (q : Int).tmod 12 = 9 ∨ (q : Int).tmod 12 = 10 ∨ (q : Int).tmod 12 = 11 := by rw [Int.tmod_eq_emod_of_nonneg (by omega)]; omega
      have HNEXT := hide hnext
      have hlt2 : (i : Int) < (n : Int) := by omega
      have hlt3 : (i : Int) < 120 := by omega
      have hlen : ((L.take i).map boxQ).length ≤ 100 := by rw [List.length_map, List.length_take]; omega
      have HLEN := hide hlen
      clear hx hnext hlen
      obtain ⟨M, hM⟩ : ∃ M, M = (L.take i).map boxQ := ⟨_, rfl⟩
      rw [← hM] at HO HNEXT HLEN
      clear hM
      rcases h12 with h12 | h12 | h12 | h12 | h12 | h12 | h12 | h12 | h12 | h12 | h12 | h12
      · rw [h12] at hbq
        replace hbq : boxQ x = (⟨1, (m : Int).tmod 20, 0, 10, ⟨#[]⟩, ⟨#[]⟩, []⟩ : BoxT) := hbq
        obtain ⟨p, hp, hp2⟩ : ∃ p : Nat, (m : Int).tmod 20 = (p : Int) ∧ p < 20 := ⟨m % 20, by rw [Int.tmod_eq_emod_of_nonneg (by omega)]; omega, by omega⟩
        rw [hp] at hbq
        have HBQ := hide hbq
        clear hbq
        go_wp2_with (first
          | (go_at_call 81
             refine (blank_any _ _).mono ?_
             rintro e w2 ⟨rfl, q2⟩
             have HO2 := hide (HO.out.below q2)
             have HB2 := hide (HB.out.trans (q2.mono HB.out.size))
             clear q2)
          | (at_builtin
             refine wpList_append_one (ok := fun _ => False) (base := w.heap.size) w2 boxK rfl _ _ 27 rfl 86 _ 88 Try.underlying27 info_box rfl (by decide) (by decide) v3 M rfl HO2.out ⟨1, p, 0, 10, ⟨#[]⟩, ⟨#[]⟩, []⟩ (boxCs 1 p 0 10 ⟨#[]⟩) rfl ⟨none, 0, rfl, Nat.le_refl _, by omega, Kind.Rd.nil _ _ _ _⟩ (fun k hk => hk.elim) (by have := HLEN.out; omega) HB2.out.size ?_
             intro v4 w4 hown4 hg4 hat4
             have HO4 := hide hown4
             have HB4 := hide (show Below w.heap.size w w4 from HB2.out.grown hg4 HB2.out.size (fun k hk => (HO2.out.lt k hk).1))
             clear hown4 hg4 hat4))
        go_roundw
        case rel => exact ⟨i + 1, v4, by go_num, rfl, by omega, hide (by rw [HNEXT.out, HBQ.out]; exact HO4.out), HB4⟩
        case measure => simp [intOf]; omega
      · rw [h12] at hbq
        replace hbq : boxQ x = (⟨1, (m : Int).tmod 20, 0, 10, ⟨#[]⟩, ⟨#[]⟩, []⟩ : BoxT) := hbq
        obtain ⟨p, hp, hp2⟩ : ∃ p : Nat, (m : Int).tmod 20 = (p : Int) ∧ p < 20 := ⟨m % 20, by rw [Int.tmod_eq_emod_of_nonneg (by omega)]; omega, by omega⟩
        rw [hp] at hbq
        have HBQ := hide hbq
        clear hbq
        go_wp2_with (first
          | (go_at_call 81
             refine (blank_any _ _).mono ?_
             rintro e w2 ⟨rfl, q2⟩
             have HO2 := hide (HO.out.below q2)
             have HB2 := hide (HB.out.trans (q2.mono HB.out.size))
             clear q2)
          | (at_builtin
             refine wpList_append_one (ok := fun _ => False) (base := w.heap.size) w2 boxK rfl _ _ 27 rfl 86 _ 88 Try.underlying27 info_box rfl (by decide) (by decide) v3 M rfl HO2.out ⟨1, p, 0, 10, ⟨#[]⟩, ⟨#[]⟩, []⟩ (boxCs 1 p 0 10 ⟨#[]⟩) rfl ⟨none, 0, rfl, Nat.le_refl _, by omega, Kind.Rd.nil _ _ _ _⟩ (fun k hk => hk.elim) (by have := HLEN.out; omega) HB2.out.size ?_
             intro v4 w4 hown4 hg4 hat4
             have HO4 := hide hown4
             have HB4 := hide (show Below w.heap.size w w4 from HB2.out.grown hg4 HB2.out.size (fun k hk => (HO2.out.lt k hk).1))
             clear hown4 hg4 hat4))
        go_roundw
        case rel => exact ⟨i + 1, v4, by go_num, rfl, by omega, hide (by rw [HNEXT.out, HBQ.out]; exact HO4.out), HB4⟩
        case measure => simp [intOf]; omega
      · rw [h12] at hbq
        replace hbq : boxQ x = (⟨1, (m : Int).tmod 20, 0, 10, ⟨#[]⟩, ⟨#[]⟩, []⟩ : BoxT) := hbq
        obtain ⟨p, hp, hp2⟩ : ∃ p : Nat, (m : Int).tmod 20 = (p : Int) ∧ p < 20 := ⟨m % 20, by rw [Int.tmod_eq_emod_of_nonneg (by omega)]; omega, by omega⟩
        rw [hp] at hbq
        have HBQ := hide hbq
        clear hbq
        go_wp2_with (first
          | (go_at_call 81
             refine (blank_any _ _).mono ?_
             rintro e w2 ⟨rfl, q2⟩
             have HO2 := hide (HO.out.below q2)
             have HB2 := hide (HB.out.trans (q2.mono HB.out.size))
             clear q2)
          | (at_builtin
             refine wpList_append_one (ok := fun _ => False) (base := w.heap.size) w2 boxK rfl _ _ 27 rfl 86 _ 88 Try.underlying27 info_box rfl (by decide) (by decide) v3 M rfl HO2.out ⟨1, p, 0, 10, ⟨#[]⟩, ⟨#[]⟩, []⟩ (boxCs 1 p 0 10 ⟨#[]⟩) rfl ⟨none, 0, rfl, Nat.le_refl _, by omega, Kind.Rd.nil _ _ _ _⟩ (fun k hk => hk.elim) (by have := HLEN.out; omega) HB2.out.size ?_
             intro v4 w4 hown4 hg4 hat4
             have HO4 := hide hown4
             have HB4 := hide (show Below w.heap.size w w4 from HB2.out.grown hg4 HB2.out.size (fun k hk => (HO2.out.lt k hk).1))
             clear hown4 hg4 hat4))
        go_roundw
        case rel => exact ⟨i + 1, v4, by go_num, rfl, by omega, hide (by rw [HNEXT.out, HBQ.out]; exact HO4.out), HB4⟩
        case measure => simp [intOf]; omega
      · rw [h12] at hbq
        replace hbq : boxQ x = (⟨5, 0, 0, 0, ⟨#[]⟩, ⟨#[]⟩, []⟩ : BoxT) := hbq
        have HBQ := hide hbq
        clear hbq
        go_wp2_with (first
          | (go_at_call 81
             refine (blank_any _ _).mono ?_
             rintro e w2 ⟨rfl, q2⟩
             have HO2 := hide (HO.out.below q2)
             have HB2 := hide (HB.out.trans (q2.mono HB.out.size))
             clear q2)
          | (at_builtin
             refine wpList_append_one (ok := fun _ => False) (base := w.heap.size) wr boxK rfl _ _ 27 rfl 86 _ 88 Try.underlying27 info_box rfl (by decide) (by decide) v3 M rfl HO.out ⟨5, 0, 0, 0, ⟨#[]⟩, ⟨#[]⟩, []⟩ (boxCs 5 0 0 0 ⟨#[]⟩) rfl ⟨none, 0, rfl, Nat.le_refl _, by omega, Kind.Rd.nil _ _ _ _⟩ (fun k hk => hk.elim) (by have := HLEN.out; omega) HB.out.size ?_
             intro v4 w4 hown4 hg4 hat4
             have HO4 := hide hown4
             have HB4 := hide (show Below w.heap.size w w4 from HB.out.grown hg4 HB.out.size (fun k hk => (HO.out.lt k hk).1))
             clear hown4 hg4 hat4))
        go_roundw
        case rel => exact ⟨i + 1, v4, by go_num, rfl, by omega, hide (by rw [HNEXT.out, HBQ.out]; exact HO4.out), HB4⟩
        case measure => simp [intOf]; omega
      · rw [h12] at hbq
        replace hbq : boxQ x = (⟨5, 0, 0, 0, ⟨#[]⟩, ⟨#[]⟩, []⟩ : BoxT) := hbq
        have HBQ := hide hbq
        clear hbq
        go_wp2_with (first
          | (go_at_call 81
             refine (blank_any _ _).mono ?_
             rintro e w2 ⟨rfl, q2⟩
             have HO2 := hide (HO.out.below q2)
             have HB2 := hide (HB.out.trans (q2.mono HB.out.size))
             clear q2)
          | (at_builtin
             refine wpList_append_one (ok := fun _ => False) (base := w.heap.size) wr boxK rfl _ _ 27 rfl 86 _ 88 Try.underlying27 info_box rfl (by decide) (by decide) v3 M rfl HO.out ⟨5, 0, 0, 0, ⟨#[]⟩, ⟨#[]⟩, []⟩ (boxCs 5 0 0 0 ⟨#[]⟩) rfl ⟨none, 0, rfl, Nat.le_refl _, by omega, Kind.Rd.nil _ _ _ _⟩ (fun k hk => hk.elim) (by have := HLEN.out; omega) HB.out.size ?_
             intro v4 w4 hown4 hg4 hat4
             have HO4 := hide hown4
             have HB4 := hide (show Below w.heap.size w w4 from HB.out.grown hg4 HB.out.size (fun k hk => (HO.out.lt k hk).1))
             clear hown4 hg4 hat4))
        go_roundw
        case rel => exact ⟨i + 1, v4, by go_num, rfl, by omega, hide (by rw [HNEXT.out, HBQ.out]; exact HO4.out), HB4⟩
        case measure => simp [intOf]; omega
      · rw [h12] at hbq
        replace hbq : boxQ x = (⟨1, 5, 0, 10, ⟨#[126]⟩, ⟨#[]⟩, []⟩ : BoxT) := hbq
        have HBQ := hide hbq
        clear hbq
        go_wp2_with (first
          | (go_at_call 81
             refine (blank_any _ _).mono ?_
             rintro e w2 ⟨rfl, q2⟩
             have HO2 := hide (HO.out.below q2)
             have HB2 := hide (HB.out.trans (q2.mono HB.out.size))
             clear q2)
          | (at_builtin
             refine wpList_append_one (ok := fun _ => False) (base := w.heap.size) wr boxK rfl _ _ 27 rfl 86 _ 88 Try.underlying27 info_box rfl (by decide) (by decide) v3 M rfl HO.out ⟨1, 5, 0, 10, ⟨#[126]⟩, ⟨#[]⟩, []⟩ (boxCs 1 5 0 10 ⟨#[126]⟩) rfl ⟨none, 0, rfl, Nat.le_refl _, by omega, Kind.Rd.nil _ _ _ _⟩ (fun k hk => hk.elim) (by have := HLEN.out; omega) HB.out.size ?_
             intro v4 w4 hown4 hg4 hat4
             have HO4 := hide hown4
             have HB4 := hide (show Below w.heap.size w w4 from HB.out.grown hg4 HB.out.size (fun k hk => (HO.out.lt k hk).1))
             clear hown4 hg4 hat4))
        go_roundw
        case rel => exact ⟨i + 1, v4, by go_num, rfl, by omega, hide (by rw [HNEXT.out, HBQ.out]; exact HO4.out), HB4⟩
        case measure => simp [intOf]; omega
      · rw [h12] at hbq
        replace hbq : boxQ x = (⟨2, (m : Int).tmod 31 - 15, 0, 0, ⟨#[]⟩, ⟨#[]⟩, []⟩ : BoxT) := hbq
        obtain ⟨p, hp, hp2⟩ : ∃ p : Nat, (m : Int).tmod 31 = (p : Int) ∧ p < 31 := ⟨m % 31, by rw [Int.tmod_eq_emod_of_nonneg (by omega)]; omega, by omega⟩
        rw [hp] at hbq
        have HBQ := hide hbq
        clear hbq
        go_wp2_with (first
          | (go_at_call 81
             refine (blank_any _ _).mono ?_
             rintro e w2 ⟨rfl, q2⟩
             have HO2 := hide (HO.out.below q2)
             have HB2 := hide (HB.out.trans (q2.mono HB.out.size))
             clear q2)
          | (at_builtin
             refine wpList_append_one (ok := fun _ => False) (base := w.heap.size) wr boxK rfl _ _ 27 rfl 86 _ 88 Try.underlying27 info_box rfl (by decide) (by decide) v3 M rfl HO.out ⟨2, p - 15, 0, 0, ⟨#[]⟩, ⟨#[]⟩, []⟩ (boxCs 2 (p - 15) 0 0 ⟨#[]⟩) rfl ⟨none, 0, rfl, Nat.le_refl _, by omega, Kind.Rd.nil _ _ _ _⟩ (fun k hk => hk.elim) (by have := HLEN.out; omega) HB.out.size ?_
             intro v4 w4 hown4 hg4 hat4
             have HO4 := hide hown4
             have HB4 := hide (show Below w.heap.size w w4 from HB.out.grown hg4 HB.out.size (fun k hk => (HO.out.lt k hk).1))
             clear hown4 hg4 hat4))
        go_roundw
        case rel => exact ⟨i + 1, v4, by go_num, rfl, by omega, hide (by rw [HNEXT.out, HBQ.out]; exact HO4.out), HB4⟩
        case measure => simp [intOf]; omega
      · rw [h12] at hbq
        replace hbq : boxQ x = (⟨6, (m : Int).tmod 10, 0, 0, ⟨#[]⟩, ⟨#[]⟩, []⟩ : BoxT) := hbq
        obtain ⟨p, hp, hp2⟩ : ∃ p : Nat, (m : Int).tmod 10 = (p : Int) ∧ p < 10 := ⟨m % 10, by rw [Int.tmod_eq_emod_of_nonneg (by omega)]; omega, by omega⟩
        rw [hp] at hbq
        have HBQ := hide hbq
        clear hbq
        go_wp2_with (first
          | (go_at_call 81
             refine (blank_any _ _).mono ?_
             rintro e w2 ⟨rfl, q2⟩
             have HO2 := hide (HO.out.below q2)
             have HB2 := hide (HB.out.trans (q2.mono HB.out.size))
             clear q2)
          | (at_builtin
             refine wpList_append_one (ok := fun _ => False) (base := w.heap.size) wr boxK rfl _ _ 27 rfl 86 _ 88 Try.underlying27 info_box rfl (by decide) (by decide) v3 M rfl HO.out ⟨6, p, 0, 0, ⟨#[]⟩, ⟨#[]⟩, []⟩ (boxCs 6 p 0 0 ⟨#[]⟩) rfl ⟨none, 0, rfl, Nat.le_refl _, by omega, Kind.Rd.nil _ _ _ _⟩ (fun k hk => hk.elim) (by have := HLEN.out; omega) HB.out.size ?_
             intro v4 w4 hown4 hg4 hat4
             have HO4 := hide hown4
             have HB4 := hide (show Below w.heap.size w w4 from HB.out.grown hg4 HB.out.size (fun k hk => (HO.out.lt k hk).1))
             clear hown4 hg4 hat4))
        go_roundw
        case rel => exact ⟨i + 1, v4, by go_num, rfl, by omega, hide (by rw [HNEXT.out, HBQ.out]; exact HO4.out), HB4⟩
        case measure => simp [intOf]; omega
      · rw [h12] at hbq
        replace hbq : boxQ x = (⟨0, 5 + (m : Int).tmod 12, 0, 10, (⟨#[97, 98, 99, 100, 101, 102, 103, 104]⟩ : ByteArray).extract ((m : Int).tmod 8).toNat (((m : Int).tmod 8).toNat + 1), ⟨#[]⟩, []⟩ : BoxT) := hbq
        obtain ⟨p, hp, hp2⟩ : ∃ p : Nat, (m : Int).tmod 12 = (p : Int) ∧ p < 12 := ⟨m % 12, by rw [Int.tmod_eq_emod_of_nonneg (by omega)]; omega, by omega⟩
        rw [hp] at hbq
        obtain ⟨s, hs, hs2⟩ : ∃ s : Nat, (m : Int).tmod 8 = (s : Int) ∧ s < 8 := ⟨m % 8, by rw [Int.tmod_eq_emod_of_nonneg (by omega)]; omega, by omega⟩
        rw [hs] at hbq
        have HBQ := hide hbq
        clear hbq
        go_wp2_with (first
          | (go_at_call 81
             refine (blank_any _ _).mono ?_
             rintro e w2 ⟨rfl, q2⟩
             have HO2 := hide (HO.out.below q2)
             have HB2 := hide (HB.out.trans (q2.mono HB.out.size))
             clear q2)
          | (at_builtin
             refine wpList_append_one (ok := fun _ => False) (base := w.heap.size) wr boxK rfl _ _ 27 rfl 86 _ 88 Try.underlying27 info_box rfl (by decide) (by decide) v3 M rfl HO.out ⟨0, 5 + p, 0, 10, (⟨#[97, 98, 99, 100, 101, 102, 103, 104]⟩ : ByteArray).extract s (s + 1), ⟨#[]⟩, []⟩ (boxCs 0 (5 + p) 0 10 ((⟨#[97, 98, 99, 100, 101, 102, 103, 104]⟩ : ByteArray).extract s (s + 1))) rfl ⟨none, 0, rfl, Nat.le_refl _, by omega, Kind.Rd.nil _ _ _ _⟩ (fun k hk => hk.elim) (by have := HLEN.out; omega) HB.out.size ?_
             intro v4 w4 hown4 hg4 hat4
             have HO4 := hide hown4
             have HB4 := hide (show Below w.heap.size w w4 from HB.out.grown hg4 HB.out.size (fun k hk => (HO.out.lt k hk).1))
             clear hown4 hg4 hat4))
        go_roundw
        case rel => exact ⟨i + 1, v4, by go_num, rfl, by omega, hide (by rw [HNEXT.out, HBQ.out]; exact HO4.out), HB4⟩
        case measure => simp [intOf]; omega
      · rw [h12] at hbq
        replace hbq : boxQ x = (⟨0, 5 + (m : Int).tmod 12, 0, 10, (⟨#[97, 98, 99, 100, 101, 102, 103, 104]⟩ : ByteArray).extract ((m : Int).tmod 8).toNat (((m : Int).tmod 8).toNat + 1), ⟨#[]⟩, []⟩ : BoxT) := hbq
        obtain ⟨p, hp, hp2⟩ : ∃ p : Nat, (m : Int).tmod 12 = (p : Int) ∧ p < 12 := ⟨m % 12, by rw [Int.tmod_eq_emod_of_nonneg (by omega)]; omega, by omega⟩
        rw [hp] at hbq
        obtain ⟨s, hs, hs2⟩ : ∃ s : Nat, (m : Int).tmod 8 = (s : Int) ∧ s < 8 := ⟨m % 8, by rw [Int.tmod_eq_emod_of_nonneg (by omega)]; omega, by omega⟩
        rw [hs] at hbq
        have HBQ := hide hbq
        clear hbq
        go_wp2_with (first
          | (go_at_call 81
             refine (blank_any _ _).mono ?_
             rintro e w2 ⟨rfl, q2⟩
             have HO2 := hide (HO.out.below q2)
             have HB2 := hide (HB.out.trans (q2.mono HB.out.size))
             clear q2)
          | (at_builtin
             refine wpList_append_one (ok := fun _ => False) (base := w.heap.size) wr boxK rfl _ _ 27 rfl 86 _ 88 Try.underlying27 info_box rfl (by decide) (by decide) v3 M rfl HO.out ⟨0, 5 + p, 0, 10, (⟨#[97, 98, 99, 100, 101, 102, 103, 104]⟩ : ByteArray).extract s (s + 1), ⟨#[]⟩, []⟩ (boxCs 0 (5 + p) 0 10 ((⟨#[97, 98, 99, 100, 101, 102, 103, 104]⟩ : ByteArray).extract s (s + 1))) rfl ⟨none, 0, rfl, Nat.le_refl _, by omega, Kind.Rd.nil _ _ _ _⟩ (fun k hk => hk.elim) (by have := HLEN.out; omega) HB.out.size ?_
             intro v4 w4 hown4 hg4 hat4
             have HO4 := hide hown4
             have HB4 := hide (show Below w.heap.size w w4 from HB.out.grown hg4 HB.out.size (fun k hk => (HO.out.lt k hk).1))
             clear hown4 hg4 hat4))
        go_roundw
        case rel => exact ⟨i + 1, v4, by go_num, rfl, by omega, hide (by rw [HNEXT.out, HBQ.out]; exact HO4.out), HB4⟩
        case measure => simp [intOf]; omega
      · rw [h12] at hbq
        replace hbq : boxQ x = (⟨0, 5 + (m : Int).tmod 12, 0, 10, (⟨#[97, 98, 99, 100, 101, 102, 103, 104]⟩ : ByteArray).extract ((m : Int).tmod 8).toNat (((m : Int).tmod 8).toNat + 1), ⟨#[]⟩, []⟩ : BoxT) := hbq
        obtain ⟨p, hp, hp2⟩ : ∃ p : Nat, (m : Int).tmod 12 = (p : Int) ∧ p < 12 := ⟨m % 12, by rw [Int.tmod_eq_emod_of_nonneg (by omega)]; omega, by omega⟩
        rw [hp] at hbq
        obtain ⟨s, hs, hs2⟩ : ∃ s : Nat, (m : Int).tmod 8 = (s : Int) ∧ s < 8 := ⟨m % 8, by rw [Int.tmod_eq_emod_of_nonneg (by omega)]; omega, by omega⟩
        rw [hs] at hbq
        have HBQ := hide hbq
        clear hbq
        go_wp2_with (first
          | (go_at_call 81
             refine (blank_any _ _).mono ?_
             rintro e w2 ⟨rfl, q2⟩
             have HO2 := hide (HO.out.below q2)
             have HB2 := hide (HB.out.trans (q2.mono HB.out.size))
             clear q2)
          | (at_builtin
             refine wpList_append_one (ok := fun _ => False) (base := w.heap.size) wr boxK rfl _ _ 27 rfl 86 _ 88 Try.underlying27 info_box rfl (by decide) (by decide) v3 M rfl HO.out ⟨0, 5 + p, 0, 10, (⟨#[97, 98, 99, 100, 101, 102, 103, 104]⟩ : ByteArray).extract s (s + 1), ⟨#[]⟩, []⟩ (boxCs 0 (5 + p) 0 10 ((⟨#[97, 98, 99, 100, 101, 102, 103, 104]⟩ : ByteArray).extract s (s + 1))) rfl ⟨none, 0, rfl, Nat.le_refl _, by omega, Kind.Rd.nil _ _ _ _⟩ (fun k hk => hk.elim) (by have := HLEN.out; omega) HB.out.size ?_
             intro v4 w4 hown4 hg4 hat4
             have HO4 := hide hown4
             have HB4 := hide (show Below w.heap.size w w4 from HB.out.grown hg4 HB.out.size (fun k hk => (HO.out.lt k hk).1))
             clear hown4 hg4 hat4))
        go_roundw
        case rel => exact ⟨i + 1, v4, by go_num, rfl, by omega, hide (by rw [HNEXT.out, HBQ.out]; exact HO4.out), HB4⟩
        case measure => simp [intOf]; omega
      · rw [h12] at hbq
        replace hbq : boxQ x = (⟨0, 5 + (m : Int).tmod 12, 0, 10, (⟨#[97, 98, 99, 100, 101, 102, 103, 104]⟩ : ByteArray).extract ((m : Int).tmod 8).toNat (((m : Int).tmod 8).toNat + 1), ⟨#[]⟩, []⟩ : BoxT) := hbq
        obtain ⟨p, hp, hp2⟩ : ∃ p : Nat, (m : Int).tmod 12 = (p : Int) ∧ p < 12 := ⟨m % 12, by rw [Int.tmod_eq_emod_of_nonneg (by omega)]; omega, by omega⟩
        rw [hp] at hbq
        obtain ⟨s, hs, hs2⟩ : ∃ s : Nat, (m : Int).tmod 8 = (s : Int) ∧ s < 8 := ⟨m % 8, by rw [Int.tmod_eq_emod_of_nonneg (by omega)]; omega, by omega⟩
        rw [hs] at hbq
        have HBQ := hide hbq
        clear hbq
        go_wp2_with (first
          | (go_at_call 81
             refine (blank_any _ _).mono ?_
             rintro e w2 ⟨rfl, q2⟩
             have HO2 := hide (HO.out.below q2)
             have HB2 := hide (HB.out.trans (q2.mono HB.out.size))
             clear q2)
          | (at_builtin
             refine wpList_append_one (ok := fun _ => False) (base := w.heap.size) wr boxK rfl _ _ 27 rfl 86 _ 88 Try.underlying27 info_box rfl (by decide) (by decide) v3 M rfl HO.out ⟨0, 5 + p, 0, 10, (⟨#[97, 98, 99, 100, 101, 102, 103, 104]⟩ : ByteArray).extract s (s + 1), ⟨#[]⟩, []⟩ (boxCs 0 (5 + p) 0 10 ((⟨#[97, 98, 99, 100, 101, 102, 103, 104]⟩ : ByteArray).extract s (s + 1))) rfl ⟨none, 0, rfl, Nat.le_refl _, by omega, Kind.Rd.nil _ _ _ _⟩ (fun k hk => hk.elim) (by have := HLEN.out; omega) HB.out.size ?_
             intro v4 w4 hown4 hg4 hat4
             have HO4 := hide hown4
             have HB4 := hide (show Below w.heap.size w w4 from HB.out.grown hg4 HB.out.size (fun k hk => (HO.out.lt k hk).1))
             clear hown4 hg4 hat4))
        go_roundw
        case rel => exact ⟨i + 1, v4, by go_num, rfl, by omega, hide (by rw [HNEXT.out, HBQ.out]; exact HO4.out), HB4⟩
        case measure => simp [intOf]; omega
    · have HLT := hide hlt
      have hlt2 : ¬ (i : Int) < (n : Int) := by omega
      go_wp2_with fail
      go_ret
      have hin : i = L.length := by have := HLN.out; have := HLT.out; omega
      have ho := HO.out
      rw [hin, List.take_length] at ho
      exact ⟨_, rfl, ho, HB.out⟩
end Go.Proofs.Ytekkjieoikgpmaa
