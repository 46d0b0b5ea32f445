/- slices.Clone and slices.DeleteFunc at traps. -/
import Derived.Test.YtpndigonlgnbeaaBase3
import Derived.Test.YtpndigonlgnbeaaT1
set_option linter.unusedVariables false
set_option linter.unusedSimpArgs false
namespace Go.Proofs.Ytpndigonlgnbeaa
open Go.RowKit
set_option maxHeartbeats 400000

theorem info_trap : (Try.prog.info? 33).map (fun i => (i.zero, i.size, i.bytes)) = some (some (.agg #[.int .i64 0, .string ⟨#[]⟩]), 2, 24) := by kernel_rfl
theorem zero_trap (w : World) : (zeroValue 33).run Try.prog w = .ok (.agg #[.int .i64 0, .string ⟨#[]⟩]) w := by kernel_rfl

theorem own_any {e : TypeId} {w : World} {ok ok' : Nat → Prop} {base : Nat} {v : Value} {l : List TrapT} (h : trapK.Own e w ok base v l) : trapK.Own e w ok' base v l := by
  obtain ⟨xs, ho, hr⟩ := h
  exact ⟨xs, ho, hr.imp fun _ _ h => h⟩
theorem rd_any {w : World} {ok : Nat → Prop} {A : Option Addr} {n : Nat} {l : List TrapT} (h : trapK.Rd w ok A n l) : trapK.Rd w (fun _ => True) A n l := h.weaken fun _ _ => trivial

theorem Clone_trap (A : Option Addr) (n c : Nat) (l : List TrapT) (ok : Nat → Prop) (w : World) (hr : trapK.Rd w ok A n l) (hn : n ≤ 1000000000000) :
    Calls Try.prog 46 #[.slice A n c] w fun e w' => ∃ v, e = .returned v ∧ trapK.Own 33 w' (fun _ => False) w.heap.size v l ∧ Below w.heap.size w w' := by
  have HR := hide hr
  clear hr
  cases A with
  | none =>
    have heq := fun W => Lib.run_eql_slice_nil (P := Try.prog) W 27 33 none n c 0 0 Try.underlying27
    go_enter Try.func46, Try.ntmps46
    go_wp2_with fail
    go_ret
    have hl : l = [] := by
      rcases Nat.eq_zero_or_pos n with h0 | h0
      · exact List.eq_nil_of_length_eq_zero (by have := HR.out.1; omega)
      · obtain ⟨b, off, e, _⟩ := HR.out.2 h0
        cases e
    subst hl
    exact ⟨_, rfl, Kind.Own.nil _ _ _ _ _, Below.refl _ _⟩
  | some ad =>
    have heq := fun W => Lib.run_eql_slice_nil (P := Try.prog) W 27 33 (some ad) n c 0 0 Try.underlying27
    have hw0 : Below w.heap.size w (w.alloc (.cells #[] 33)) := (Below.refl _ _).alloc (Nat.le_refl _) _
    have HRD := hide (HR.out.bound.below hw0)
    have HOK := hide (show ∀ k, (ok k ∧ k < w.heap.size) → (Value.slice (some ⟨w.heap.size, 0, none⟩) 0 0).ownBlock ≠ some k from fun k hk e => by simp [Value.ownBlock] at e; omega)
    clear hw0
    go_enter Try.func46, Try.ntmps46
    go_wp2_with (at_builtin; refine wpList_append_rd (ok := fun k => ok k ∧ k < w.heap.size) (base := w.heap.size) (w.alloc (.cells #[] 33)) trapK rfl _ _ 27 rfl 33 _ 24 Try.underlying27 info_trap rfl (by decide) (by decide) _ [] rfl ⟨[], World.ownsRow_made w #[] 0 (Nat.le_refl _) (Nat.zero_le _) rfl, Kind.Reps.nil _ _ _⟩ (some ad) n c l rfl HRD.out HOK.out (by simp; omega) (by simp) ?_; intro v1 w1 hown1 hg1 hat1)
    go_ret
    refine ⟨v1, rfl, by simpa using own_any hown1, ?_⟩
    exact ((Below.refl _ _).alloc (Nat.le_refl _) _).grown hg1 (by simp) (fun k hk => by have h2 : w.heap.size = k := Option.some.inj hk; omega)

theorem filter_hit (p : TrapT → Bool) (l : List TrapT) (k : Nat) (hk : k < l.length) (hq : p l[k] = true) : (l.take (k + 1)).filter (fun x => !p x) = (l.take k).filter (fun x => !p x) := by
  rw [List.take_succ_eq_append_getElem hk, List.filter_append]
  simp [hq]
theorem filter_miss (p : TrapT → Bool) (l : List TrapT) (k : Nat) (hk : k < l.length) (hq : p l[k] = false) : (l.take (k + 1)).filter (fun x => !p x) = (l.take k).filter (fun x => !p x) ++ [l[k]] := by
  rw [List.take_succ_eq_append_getElem hk, List.filter_append]
  simp [hq]
theorem idxI_cases {α : Type} (p : α → Bool) (l : List α) : (idxI p l = -1 ∧ ∀ x ∈ l, p x = false) ∨ ∃ k : Nat, ∃ h : k < l.length, idxI p l = k ∧ p l[k] = true ∧ ∀ j (hj : j < k), p (l[j]'(by omega)) = false := by
  unfold idxI
  cases hf : l.findIdx? p with
  | none => exact .inl ⟨rfl, by simpa [List.findIdx?_eq_none_iff] using hf⟩
  | some k =>
    rw [List.findIdx?_eq_some_iff_getElem] at hf
    obtain ⟨h, h1, h2⟩ := hf
    exact .inr ⟨k, h, rfl, h1, fun j hj => by have := h2 j hj; simpa using this⟩

/-- Behind the predicate's call: what the walk reads and writes next. -/
theorem after_call {wr w2 : World} {g0 c ki : Nat} {m : List TrapT} {a : Int} {s : ByteArray} {e : TypeId} (hR : trapK.RowAt e wr (fun _ => False) g0 c m) (hb : Below (wr.alloc (.cells #[.int .i64 a, .string s] e)).heap.size (wr.alloc (.cells #[.int .i64 a, .string s] e)) w2) (hk : ki < m.length) :
    w2.cell? ⟨wr.heap.size, 0, none⟩ = some (.int .i64 a) ∧ w2.cell? ⟨wr.heap.size, 1, none⟩ = some (.string s) ∧ w2.frozen? ⟨g0, ki * 2, none⟩ = false ∧ w2.frozen? ⟨g0, ki * 2 + 1, none⟩ = false ∧
      (∃ u, w2.cell? ⟨g0, ki * 2, none⟩ = some u) ∧ ∃ u, w2.cell? ⟨g0, ki * 2 + 1, none⟩ = some u := by
  have hbl := blk_below (blk_new wr (.cells #[.int .i64 a, .string s] e)) hb (by simp)
  have hr2 := (hR.below ((Below.refl _ _).alloc (Nat.le_refl _) (.cells #[.int .i64 a, .string s] e))).below hb
  obtain ⟨cs, hcs, hc⟩ := hr2.cells hk
  have hcs' : cs = (m[ki]).cells := hcs
  subst hcs'
  exact ⟨by rw [blk_cell hbl]; rfl, by rw [blk_cell hbl]; rfl, hr2.frozen _, hr2.frozen _, ⟨_, hc 0 _ rfl⟩, ⟨_, hc 1 _ rfl⟩⟩

theorem DeleteFunc_trap (g : Nat) (lb : Array Value) (eg : ∀ args w, (callFunc g args).run Try.prog w = .ok (.enter g args) w) (p : TrapT → Bool) (A : Option Addr) (n c : Nat) (l : List TrapT) (base : Nat) (w : World)
    (hown : trapK.Own 33 w (fun _ => False) base (.slice A n c) l) (hn : n ≤ 1000000000000) (hp : PredT (fun k => (Value.slice A n c).ownBlock = some k) g lb p w) :
    Calls Try.prog 24 #[.slice A n c, .func (.func g) #[] lb] w fun e w' => ∃ v', e = .returned v' ∧ trapK.Own 33 w' (fun _ => False) base v' (l.filter fun x => !p x) ∧
      Kept (fun k => (Value.slice A n c).ownBlock = some k) w w' ∧ v'.ownBlock = (Value.slice A n c).ownBlock := by
  obtain ⟨A', c', hv, hlc, hcm, -, -, hrd⟩ := hown.form
  injection hv with e1 e2 e3
  subst e1; subst e2; subst e3
  have HO := hide hown
  have HP := hide hp
  have HRD := hide hrd
  clear hown hp hrd
  rcases idxI_cases p l with ⟨hi, hall⟩ | ⟨k0, hk0, hi, hq0, hno⟩
  · have HI := hide hi
    clear hi
    have hne : ((idxI p l) == (-1 : Int)) = true := by rw [HI.out]; rfl
    go_enter Try.func24, Try.ntmps24
    go_wp2_with (go_at_call 48; refine (IndexFunc_trap g lb eg p A l.length c l _ _ w HRD.out hn HP.out).mono ?_; rintro e w1 ⟨rfl, hb1⟩)
    go_ret
    refine ⟨_, rfl, ?_, Kept.of_below hb1, rfl⟩
    rw [List.filter_eq_self.2 fun x hx => by rw [hall x hx]; rfl]
    exact HO.out.below hb1
  · have HI := hide hi
    clear hi
    have hne : ((k0 : Int) == (-1 : Int)) = false := by rw [beq_eq_false_iff_ne]; omega
    obtain ⟨g0, rfl, _, hg0, hrow⟩ := HO.out.rowAt (by omega)
    have HROW := hide hrow
    clear hrow
    go_enter Try.func24, Try.ntmps24
    go_wp2_with (go_at_call 48; refine (IndexFunc_trap g lb eg p _ l.length c l _ _ w HRD.out hn HP.out).mono ?_; rintro e w1 ⟨he, hb1⟩; rw [HI.out] at he; subst he; have HB1 := hide hb1; clear hb1)
    go_loopw [5, 6] (fun i j wr => ∃ (ki kj : Nat) (m : List TrapT), i = .int .i64 ki ∧ j = .int .i64 kj ∧ ki < kj ∧ kj ≤ l.length ∧ m.length = l.length ∧ Hid (m.take ki = (l.take kj).filter fun x => !p x) ∧ Hid (m.drop kj = l.drop kj) ∧
        Hid (trapK.RowAt 33 wr (fun _ => False) g0 c m) ∧ Hid (Kept (fun k => k = g0) w wr)) (fun _ j _ => l.length - (intOf j).toNat)
    case atStart =>
      refine ⟨k0, k0 + 1, l, rfl, by go_num, by omega, by omega, rfl, ?_, rfl, HROW.out.below HB1.out, Kept.of_below HB1.out⟩
      show l.take k0 = _
      rw [filter_hit p l k0 hk0 hq0, List.filter_eq_self.2 fun x hx => ?_]
      obtain ⟨j, hj, rfl⟩ := List.mem_iff_getElem.1 hx
      rw [List.length_take] at hj
      rw [List.getElem_take, hno j (by omega)]
      rfl
    case round =>
      obtain ⟨ki, kj, m, rfl, rfl, hlt, hle, hml, htk, hdr, hR, hK⟩ := hrel
      by_cases hj : kj < l.length
      · have hmj : m[kj]'(by omega) = l[kj] := by
          have h1 : (m.drop kj)[0]? = (l.drop kj)[0]? := by rw [hdr.out]
          rw [List.getElem?_drop, List.getElem?_drop, Nat.add_zero, List.getElem?_eq_getElem hj, List.getElem?_eq_getElem (by omega)] at h1
          exact Option.some.inj h1
        obtain ⟨cs, hcs, hcell⟩ := hR.out.cells (i := kj) (by omega)
        have hcs' : cs = (l[kj]).cells := by rw [← hmj]; exact hcs
        subst hcs'
        have c0 : wr.cell? ⟨g0, kj * 2, none⟩ = some (.int .i64 l[kj].at_) := hcell 0 _ rfl
        have c1 : wr.cell? ⟨g0, kj * 2 + 1, none⟩ = some (.string l[kj].nm) := hcell 1 _ rfl
        clear hcell hcs
        have hml' : kj < m.length := by omega
        have HML := hide hml
        clear hmj hml
        have hal : Below wr.heap.size wr (wr.alloc (.cells #[.int .i64 l[kj].at_, .string l[kj].nm] 33)) := (Below.refl _ _).alloc (Nat.le_refl _) _
        have hcall := hide (HP.out (wr.alloc (.cells #[.int .i64 l[kj].at_, .string l[kj].nm] 33)) l[kj] ((hK.out.trans (Kept.of_below (S := fun _ => False) hal) (fun i _ h => h) (fun i _ h => h.elim)).mono fun i _ h => by rw [h]; rfl))
        have HAL := hide hal
        clear hal
        go_wp2_with (go_at_fn g; refine (hcall.out).mono ?_; rintro e w2 ⟨rfl, hb2⟩; have HR2 := hide ((hR.out.below HAL.out).below hb2); have HF := after_call (ki := ki) hR.out hb2 (by omega); obtain ⟨d0, d1, f0, f1, ⟨u0, r0⟩, ⟨u1, r1⟩⟩ := HF; have HB2 := hide hb2; clear hb2)
        · have hq : p l[kj] = false := by
            have h : (!p l[kj]) = true := by assumption
            simpa using h
          go_roundw
          case rel =>
            refine ⟨ki + 1, kj + 1, m.set ki l[kj], by go_num, by go_num, by omega, by omega, by rw [List.length_set]; exact HML.out, ?_, ?_, ?_, ?_⟩
            · show (m.set ki l[kj]).take (ki + 1) = _
              rw [filter_miss p l kj hj hq, ← htk.out, List.take_succ_eq_append_getElem (by rw [List.length_set]; omega), List.getElem_set_self, List.take_set_of_le (Nat.le_refl _)]
            · show (m.set ki l[kj]).drop (kj + 1) = _
              rw [List.drop_set_of_lt (by omega), ← List.drop_drop, hdr.out, List.drop_drop]
            · exact HR2.out.set (x := l[kj]) (cs := l[kj].cells) (by omega) rfl (fun k h => h.elim)
            · exact ((hK.out.trans (Kept.of_below (S := fun _ => False) (below_self HAL.out HB2.out)) (fun i _ h => h) (fun i _ h => h.elim)).setCell (.inl rfl) _).setCell (.inl rfl) _
          case measure => simp [intOf]; omega
        · have hq : p l[kj] = true := by
            have h : (!p l[kj]) = false := by assumption
            simpa using h
          go_roundw
          case rel =>
            refine ⟨ki, kj + 1, m, rfl, by go_num, by omega, by omega, HML.out, ?_, ?_, HR2.out, ?_⟩
            · show m.take ki = _
              rw [filter_hit p l kj hj hq]
              exact htk.out
            · show m.drop (kj + 1) = _
              rw [← List.drop_drop, hdr.out, List.drop_drop]
            · exact hK.out.trans (Kept.of_below (S := fun _ => False) (below_self HAL.out HB2.out)) (fun i _ h => h) (fun i _ h => h.elim)
          case measure => simp [intOf]; omega
      · have hkn : kj = l.length := by omega
        have hR' := hR.out
        obtain ⟨cur, hcur, hcs, hmc, hcx, hrep⟩ := hR'
        have hne1 : ki ≠ c := by omega
        obtain ⟨w3, hclr, hg3, cur3, hcur3, hcs3, htk3⟩ := run_clear_row (P := Try.prog) wr 27 0 33 _ Try.underlying27 (zero_trap wr) g0 (ki * 2) (l.length - ki) (c - ki) cur hcur (by omega) (by
          have h2 : cur.size = c * 2 := hcs
          have h3 : (Value.agg #[.int .i64 0, .string ⟨#[]⟩]).cells.size = 2 := rfl
          rw [h3]; omega) (by decide)
        have H1 := hide hg3
        have H2 := hide hcur3
        have H3 := hide htk3
        have H4 := hide hcs3
        have H5 := hide hrep
        have H6 := hide hcs
        have H7 := hide hml
        have H8 := hide hcur
        clear hg3 hcur3 htk3 hcs3 hrep hcs hml hcur
        go_wp2
        go_ret
        refine ⟨_, rfl, ?_, ?_, rfl⟩
        · have hf : m.take ki = l.filter fun x => !p x := by
            have h := htk.out
            rw [hkn, List.take_length] at h
            exact h
          have hlen : (l.filter fun x => !p x).length = ki := by
            rw [← hf, List.length_take, H7.out]; omega
          obtain ⟨cur', hc', _, _, _, hr'⟩ := hR.out.take (k := ki) (by have := H7.out; omega)
          have hcc : cur' = cur := by
            have h := hc'.symm.trans H8.out
            injection h with h
            injection h
          subst hcc
          rw [hf, hlen] at hr'
          refine ⟨cur3.toList.take (ki * 2), ⟨by rw [List.length_take, hlen]; have h1 := H4.out; have h2 := H6.out; have h3 : cur3.toList.length = cur3.size := Array.length_toList; have h4 : trapK.sz = 2 := rfl; rw [h4] at h2 ⊢; omega, .inr ⟨g0, c, cur3, ?_, hg0, H2.out, by rw [hlen]; omega, hcx, by rw [H4.out]; exact H6.out, by rw [hlen]; rfl⟩⟩, ?_⟩
          · rw [hlen]; rfl
          · rw [H3.out]
            exact hr'.imp fun _ _ h => h
        · exact (hK.out.trans (Kept.of_grown H1.out) (fun i _ h => h) (fun i _ h => (Option.some.inj h).symm)).mono fun i _ h => by rw [h]; rfl
end Go.Proofs.Ytpndigonlgnbeaa
