/- changed of chapter 16: stops and row; all cases together. -/
import Derived.Test.YtekkjieoikgpmaaE32
import Derived.Test.YtekkjieoikgpmaaE33
set_option linter.unusedVariables false
set_option linter.unusedSimpArgs false
namespace Go.Proofs.Ytekkjieoikgpmaa
open Go.RowKit
set_option maxHeartbeats 400000
set_option maxRecDepth 1000000
/-- A row of numbers that was just laid. -/
theorem rd_new (w : World) (L : List Int) (e : TypeId) : Kind.int.Rd (w.alloc (.cells (L.map (Value.int .i64)).toArray e)) (fun _ => True) (some ⟨w.heap.size, 0, none⟩) L.length L := by
  have hb := blk_new w (.cells (L.map (Value.int .i64)).toArray e)
  refine ⟨rfl, fun _ => ⟨_, 0, rfl, trivial, blk_lt hb, fun i x hx => ⟨[.int .i64 x], rfl, fun j u hu => ?_⟩⟩⟩
  have hj : j = 0 := by
    have := (List.getElem?_eq_some_iff.1 hu).1
    simpa using this
  subst hj
  have hu2 : Value.int .i64 x = u := by simpa using hu
  subst hu2
  rw [blk_cell hb, show 0 + i * Kind.int.sz + 0 = i from by show 0 + i * 1 + 0 = i; omega]
  simp [hx]
theorem rd3 (w : World) (a b c : Int) (e : TypeId) : Kind.int.Rd (w.alloc (.cells #[.int .i64 a, .int .i64 b, .int .i64 c] e)) (fun _ => True) (some ⟨w.heap.size, 0, none⟩) 3 [a, b, c] := rd_new w [a, b, c] e
theorem rd4 (w : World) (a b c d : Int) (e : TypeId) : Kind.int.Rd (w.alloc (.cells #[.int .i64 a, .int .i64 b, .int .i64 c, .int .i64 d] e)) (fun _ => True) (some ⟨w.heap.size, 0, none⟩) 4 [a, b, c, d] := rd_new w [a, b, c, d] e
theorem run12_small (L : List Int) : ∀ i, (run12 L i).stops.length ≤ i
  | 0 => Nat.le_refl _
  | i + 1 => by
    have ih := run12_small L i
    cases hx : L[i]? with
    | none =>
      have e : run12 L (i + 1) = run12 L i := by show (match L[i]? with | none => run12 L i | some x => step12 i (run12 L i) x) = _; rw [hx]
      rw [e]; omega
    | some x =>
      rw [run12_next hx]
      unfold step12
      split
      · exact Nat.le_succ_of_le ih
      · simp; omega
theorem boxR_small (r m : Int) : (boxR r m).f6.length ≤ 0 := by
  unfold boxR
  repeat (first | (split; exact Nat.le_refl _) | exact Nat.le_refl _)
theorem size_int1 : (Try.prog.info? 3).map (·.size) = some 1 := by kernel_rfl
theorem tdiv_lo {n d : Int} (h1 : -9223372036854775808 ≤ n) (h2 : n ≤ 9223372036854775807) : -9223372036854775808 ≤ n.tdiv d := by
  have h := Int.natAbs_tdiv_le_natAbs n d
  omega
theorem tdiv_hi {n d : Int} (h1 : -9223372036854775808 ≤ n) (h2 : n ≤ 9223372036854775807) (hd : 2 ≤ d.natAbs) : n.tdiv d ≤ 9223372036854775807 := by
  have h : (n.tdiv d).natAbs = n.natAbs / d.natAbs := Int.natAbs_tdiv n d
  have h3 : n.natAbs / d.natAbs ≤ n.natAbs / 2 := Nat.div_le_div_left hd (by omega)
  omega
theorem tdiv_b (n d : Int) (hd : 2 ≤ d.natAbs) (h1 : -9223372036854775808 ≤ n) (h2 : n ≤ 9223372036854775807) : ∃ m, n.tdiv d = m ∧ -9223372036854775808 ≤ m ∧ m ≤ 9223372036854775807 := ⟨n.tdiv d, rfl, tdiv_lo h1 h2, tdiv_hi h1 h2 hd⟩
/-- What comes out; the stops and the row are old, or new. -/
theorem changed_end2 {w W : World} {y : EnvT} {u v : Value} {ok : Nat → Prop} {cs : Array Value} (h1 : stopK.Sl w ok u y.stops ∨ stopK.Sl W (fun k => w.heap.size + 1 < k) u y.stops) (h2 : boxK.Sl w ok v y.row ∨ boxK.Sl W (fun k => w.heap.size + 1 < k) v y.row) (hb : Below w.heap.size w W) (hc : cs = (y.cells u v).toArray) :
    ∃ cs', Ending.returned (Value.agg cs) = .returned (.agg cs'.toArray) ∧ envK.K (W.setRow (w.heap.size + 1) cs) (fun k => ok k ∨ w.heap.size ≤ k) y cs' ∧ Below w.heap.size w (W.setRow (w.heap.size + 1) cs) := by
  subst hc
  have hst : ∀ k, (ok k ∧ k < w.heap.size) → (W.setRow (w.heap.size + 1) (y.cells u v).toArray).heap[k]? = w.heap[k]? := fun k hk => (setRow_other W _ k _ (by omega)).trans (hb.block k hk.2)
  have hsu : ∀ k, w.heap.size + 1 < k → (W.setRow (w.heap.size + 1) (y.cells u v).toArray).heap[k]? = W.heap[k]? := fun k hk => setRow_other W _ k _ (by omega)
  refine ⟨_, rfl, ⟨u, v, rfl, ?_, ?_⟩, below_setRow hb (by omega) _⟩
  · rcases h1 with h1 | h1
    · exact (h1.bound.step (fun k hk _ => hst k hk)).weaken (fun k hk => .inl hk.1)
    · exact (h1.step (fun k hk _ => hsu k hk)).weaken (fun k hk => .inr (by omega))
  · rcases h2 with h2 | h2
    · exact (h2.bound.step (fun k hk _ => hst k hk)).weaken (fun k hk => .inl hk.1)
    · exact (h2.step (fun k hk _ => hsu k hk)).weaken (fun k hk => .inr (by omega))
theorem changed_8 (n : Int) (hn : -9223372036854775808 ≤ n ∧ n ≤ 9223372036854775807) (k z : Nat) (x : EnvT) (hp : Pick n k z 8) : ChangedTo n x { x with stops := (run12 [z, n.tdiv 3, n.tdiv 7] 3).stops, every := (run12 [z, n.tdiv 3, n.tdiv 7] 3).every } := by
  obtain ⟨hn1, hn2⟩ := hn
  obtain ⟨n3, hn3, hn3a, hn3b⟩ := tdiv_b n 3 (by decide) hn1 hn2
  obtain ⟨n7, hn7, hn7a, hn7b⟩ := tdiv_b n 7 (by decide) hn1 hn2
  rw [hn3, hn7]
  obtain ⟨s, hs⟩ : ∃ s, s = run12 [(z : Int), n3, n7] 3 := ⟨_, rfl⟩
  have HS := hide hs
  rw [← hs]
  clear hs
  rintro ok w cs ⟨u, v, rfl, hu, hv⟩
  have HU := hide hu
  have HV := hide hv
  obtain ⟨hk, hz, hj, hlt, hzl⟩ := hp
  clear hu hv
  go_enter Try.func21, Try.ntmps21
  go_upto_region 1 with fail
  refine wp_two ?_
  intro W0 hb1 hb2 hbel hsz
  have HB1 := hide hb1
  have HB2 := hide hb2
  have HBEL := hide hbel
  clear hb1 hb2 hbel hsz
  go_upto_region 44 with (first
    | (go_at_call 54
       refine (Made12_any (some ⟨W0.heap.size, 0, none⟩) 3 3 [(z : Int), n3, n7] _ _ (rd3 W0 (z : Int) n3 n7 3) (by omega)).mono ?_
       rw [← HS.out]
       rintro e w2 ⟨u2, rfl, q1, q⟩
       obtain ⟨A5, c5, rfl, -, -, -⟩ := id q1
       have hbq : Below W0.heap.size W0 w2 := below_self ((Below.refl _ _).alloc (Nat.le_refl _) _) q
       have HB3 := hide (blk_below HB1.out hbq (blk_lt HB1.out))
       have HB4 := hide (blk_below HB2.out hbq (blk_lt HB2.out))
       have HBQ := hide (HBEL.out.trans (hbq.mono HBEL.out.size))
       have HQ1 := hide q1
       obtain ⟨m5, hm5⟩ : ∃ m5, m5 = s.stops.length := ⟨_, rfl⟩
       rw [← hm5] at HQ1
       rw [← hm5]
       have HM5 := hide hm5
       clear q q1 hbq hm5)
    | refine wpList_store_mid rfl 24 _ _ rfl w.heap.size 21 #[.slice A5 m5 c5, .int .i64 s.every] rfl rfl (there_blk HB3.out 21 2 (by show 21 + 2 ≤ 40; omega)) size_stops (stops_one _ _ _ _) ?_)
  refine setc_blk HB3.out 21 [.slice A5 m5 c5, .int .i64 s.every] ({ x with stops := s.stops, every := s.every }.cells (.slice A5 m5 c5) v).toArray (by show 21 + 2 ≤ 40; omega) rfl ?_
  intro W3 hb3 hk3
  have hbw : Below w.heap.size w W3 := HBQ.out.trans (hk3.below HBQ.out.size (fun i h => by omega))
  have HB5 := hide hb3
  have HB6 := hide (blk_kept HB4.out hk3 (by omega))
  have HBW := hide hbw
  have HK3 := hide hk3
  clear hb3 hk3 hbw
  go_wp2_with (first
    | refine wpList_load_row rfl 29 _ rfl w.heap.size rfl 29 _ (0, 0) _ HB5.out Try.underlying29 rfl size_env ?_
    | refine wpList_store_row rfl 29 _ _ rfl (w.heap.size + 1) _ rfl rfl 29 _ HB6.out size_env rfl (env_one { x with stops := s.stops, every := s.every } rfl (HV.out.below HBW.out).one) ?_)
  refine bodyPost_ret (results_cell_row rfl _ _ (w.heap.size + 1) 29 _ (0, 0) _ rfl (setRow_heap _ _ _ _ _ _ HB6.out) Try.underlying29 rfl size_env) rfl ?_
  have hsz2 : w.heap.size + 1 < W0.heap.size := blk_lt HB2.out
  have hu5 := (HQ1.out.weaken (ok' := fun k => w.heap.size + 1 < k) (fun k hk => by have h1 : (W0.alloc (.cells #[.int .i64 (z : Int), .int .i64 n3, .int .i64 n7] 3)).heap.size ≤ k := hk; simp at h1; omega)).step (w' := W3) (fun k hk hk2 => HK3.out.block k hk2 (by omega))
  rw [HM5.out] at hu5 ⊢
  exact changed_end2 (y := { x with stops := s.stops, every := s.every }) (u := .slice A5 s.stops.length c5) (v := v) (.inr hu5) (.inl HV.out) HBW.out rfl
theorem changed_10 (n : Int) (hn : -9223372036854775808 ≤ n ∧ n ≤ 9223372036854775807) (k z : Nat) (x : EnvT) (hp : Pick n k z 10) : ChangedTo n x { x with row := [n, n.tdiv 3, n.tdiv 5, n.tdiv 7].map boxQ } := by
  obtain ⟨hn1, hn2⟩ := hn
  obtain ⟨n3, hn3, hn3a, hn3b⟩ := tdiv_b n 3 (by decide) hn1 hn2
  obtain ⟨n5, hn5, hn5a, hn5b⟩ := tdiv_b n 5 (by decide) hn1 hn2
  obtain ⟨n7, hn7, hn7a, hn7b⟩ := tdiv_b n 7 (by decide) hn1 hn2
  rw [hn3, hn5, hn7]
  obtain ⟨s, hs⟩ : ∃ s, s = [n, n3, n5, n7].map boxQ := ⟨_, rfl⟩
  have HS := hide hs
  rw [← hs]
  clear hs
  rintro ok w cs ⟨u, v, rfl, hu, hv⟩
  have HU := hide hu
  have HV := hide hv
  obtain ⟨hk, hz, hj, hlt, hzl⟩ := hp
  clear hu hv
  go_enter Try.func21, Try.ntmps21
  go_upto_region 1 with fail
  refine wp_two ?_
  intro W0 hb1 hb2 hbel hsz
  have HB1 := hide hb1
  have HB2 := hide hb2
  have HBEL := hide hbel
  clear hb1 hb2 hbel hsz
  have d35 : W0.cell? ⟨w.heap.size, 35, none⟩ = some v := by rw [blk_cell HB1.out]; rfl
  obtain ⟨A9, c9, hv9, -, -, -⟩ := id HV.out
  go_upto_region 44 with (first
    | (go_at_call 55
       refine (Row_any (some ⟨W0.heap.size, 0, none⟩) 4 4 [n, n3, n5, n7] _ _ (rd4 W0 n n3 n5 n7 3) (by omega)).mono ?_
       rw [← HS.out]
       rintro e w2 ⟨u2, rfl, q1, q⟩
       obtain ⟨A5, c5, rfl, -, -, -, -, -⟩ := Kind.Own.form q1
       have hbq : Below W0.heap.size W0 w2 := below_self ((Below.refl _ _).alloc (Nat.le_refl _) _) q
       have HB3 := hide (blk_below HB1.out hbq (blk_lt HB1.out))
       have HB4 := hide (blk_below HB2.out hbq (blk_lt HB2.out))
       have HBQ := hide (HBEL.out.trans (hbq.mono HBEL.out.size))
       have HQ1 := hide q1.sl
       obtain ⟨m5, hm5⟩ : ∃ m5, m5 = s.length := ⟨_, rfl⟩
       rw [← hm5] at HQ1
       rw [← hm5]
       have HM5 := hide hm5
       have z35 : w2.cell? ⟨w.heap.size, 35, none⟩ = some v := by rw [blk_cell HB3.out]; rfl
       have zf : w2.frozen? ⟨w.heap.size, 35, none⟩ = false := blk_frozen HB3.out
       rw [hv9] at z35
       clear q q1 hbq hm5 d35))
  refine set_blk HB3.out [(35, .slice A5 m5 c5)] ({ x with row := s }.cells u (.slice A5 m5 c5)).toArray rfl ?_
  intro W3 hb3 hk3
  have hbw : Below w.heap.size w W3 := HBQ.out.trans (hk3.below HBQ.out.size (fun i h => by omega))
  have HB5 := hide hb3
  have HB6 := hide (blk_kept HB4.out hk3 (by omega))
  have HBW := hide hbw
  have HK3 := hide hk3
  clear hb3 hk3 hbw
  go_wp2_with (first
    | refine wpList_load_row rfl 29 _ rfl w.heap.size rfl 29 _ (0, 0) _ HB5.out Try.underlying29 rfl size_env ?_
    | refine wpList_store_row rfl 29 _ _ rfl (w.heap.size + 1) _ rfl rfl 29 _ HB6.out size_env rfl (env_one { x with row := s } (HU.out.below HBW.out).one rfl) ?_)
  refine bodyPost_ret (results_cell_row rfl _ _ (w.heap.size + 1) 29 _ (0, 0) _ rfl (setRow_heap _ _ _ _ _ _ HB6.out) Try.underlying29 rfl size_env) rfl ?_
  have hsz2 : w.heap.size + 1 < W0.heap.size := blk_lt HB2.out
  have hu5 := (HQ1.out.weaken (ok' := fun k => w.heap.size + 1 < k) (fun k hk => by
    rcases hk with hk | hk
    · exact hk.elim
    · have h1 : (W0.alloc (.cells #[.int .i64 n, .int .i64 n3, .int .i64 n5, .int .i64 n7] 3)).heap.size ≤ k := hk
      simp at h1; omega)).step (w' := W3) (fun k hk hk2 => HK3.out.block k hk2 (by omega))
  rw [HM5.out] at hu5 ⊢
  exact changed_end2 (y := { x with row := s }) (u := u) (v := .slice A5 s.length c5) (.inl HU.out) (.inr hu5) HBW.out rfl
theorem mkC {n : Int} {x y : EnvT} (h : ChangedTo n x y) (hs : y.small) : ∃ y : EnvT, y.small ∧ ChangedTo n x y := ⟨y, hs, h⟩
/-- changed: some environment comes out, the same one whatever the world. -/
theorem changed_any (n : Int) (hn : -9223372036854775808 ≤ n ∧ n ≤ 9223372036854775807) (x : EnvT) (hx : x.small) : ∃ y : EnvT, y.small ∧ ChangedTo n x y := by
  obtain ⟨k, z, j, hp, hj⟩ := pick_any n
  obtain ⟨hs1, hs2, hs3⟩ := hx
  have hc : j = 0 ∨ j = 1 ∨ j = 2 ∨ j = 3 ∨ j = 4 ∨ j = 5 ∨ j = 6 ∨ j = 7 ∨ j = 8 ∨ j = 9 ∨ j = 10 ∨ j = 11 ∨ j = 12 ∨ j = 13 ∨ j = 14 ∨ j = 15 ∨ j = 16 ∨ j = 17 ∨ j = 18 ∨ j = 19 := by omega
  rcases hc with rfl | rfl | rfl | rfl | rfl | rfl | rfl | rfl | rfl | rfl | rfl | rfl | rfl | rfl | rfl | rfl | rfl | rfl | rfl | rfl
  · exact mkC (changed_0 n k z x hp) ⟨hs1, hs2, hs3⟩
  · exact mkC (changed_1 n k z x hp) ⟨hs1, hs2, hs3⟩
  · exact mkC (changed_2 n k z x hp) ⟨hs1, hs2, hs3⟩
  · exact mkC (changed_3 n k z x hp) ⟨hs1, hs2, hs3⟩
  · exact mkC (changed_4 n k z x hp) ⟨hs1, hs2, hs3⟩
  · exact mkC (changed_5 n k z x hp) ⟨hs1, hs2, hs3⟩
  · have h4 : (z : Int).tmod 4 = 0 ∨ (z : Int).tmod 4 = 1 ∨ (z : Int).tmod 4 = 2 ∨ (z : Int).tmod 4 = 3 := by rw [Int.tmod_eq_emod_of_nonneg (by omega)]; omega
    rcases h4 with h4 | h4 | h4 | h4
    · exact mkC (changed_6_0 n k z x h4 hp) ⟨hs1, hs2, hs3⟩
    · exact mkC (changed_6_1 n k z x h4 hp) ⟨hs1, hs2, hs3⟩
    · exact mkC (changed_6_2 n k z x h4 hp) ⟨hs1, hs2, hs3⟩
    · exact mkC (changed_6_3 n k z x h4 hp) ⟨hs1, hs2, hs3⟩
  · exact mkC (changed_7 n k z x hp) ⟨hs1, hs2, hs3⟩
  · exact mkC (changed_8 n hn k z x hp) ⟨Nat.le_trans (run12_small _ _) (by omega), hs2, hs3⟩
  · exact mkC (changed_9 n k z x hp) ⟨hs1, hs2, hs3⟩
  · exact mkC (changed_10 n hn k z x hp) ⟨hs1, by show ([n, n.tdiv 3, n.tdiv 5, n.tdiv 7].map boxQ).length ≤ _; simp, fun y hy => by
      obtain ⟨q, -, rfl⟩ := List.mem_map.1 hy
      exact Nat.le_trans (boxR_small _ _) (by omega)⟩
  · exact mkC (changed_11 n k z x hp) ⟨hs1, hs2, hs3⟩
  · exact mkC (changed_12 n k z x hp) ⟨hs1, hs2, hs3⟩
  · exact mkC (changed_13 n k z x hp) ⟨hs1, hs2, hs3⟩
  · exact mkC (changed_14 n k z x hp) ⟨hs1, hs2, hs3⟩
  · obtain ⟨a, b, c, d, f, h⟩ := changed_15 n k z x hp
    exact mkC h ⟨hs1, hs2, hs3⟩
  · exact mkC (changed_16 n k z x hp) ⟨hs1, hs2, hs3⟩
  · exact mkC (changed_17 n k z x hp) ⟨hs1, hs2, hs3⟩
  · exact mkC (changed_18 n k z x hp) ⟨hs1, hs2, hs3⟩
  · exact mkC (changed_19 n k z x hp) ⟨hs1, hs2, hs3⟩
end Go.Proofs.Ytekkjieoikgpmaa
