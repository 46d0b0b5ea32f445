/- Deeds of chapter 16: big; do where there are no environments. -/
import Derived.Test.YtekkjieoikgpmaaE26
set_option linter.unusedVariables false
set_option linter.unusedSimpArgs false
namespace Go.Proofs.Ytekkjieoikgpmaa
open Go.RowKit
set_option maxHeartbeats 3200000
set_option maxRecDepth 1000000

structure DeedE where
  k : Int
  n : Int
  nm : ByteArray
  env : EnvT
def DeedE.cells (x : DeedE) (ec : List Value) : List Value := .int .i64 x.k :: .int .i64 x.n :: .string x.nm :: ec
def deedK : Kind DeedE where
  sz := 43
  K := fun w ok x cs => ∃ ec, cs = x.cells ec ∧ x.nm.size ≤ 9223372036854775807 ∧ envK.K w ok x.env ec
  len := by
    rintro w ok x cs ⟨ec, rfl, _, h⟩
    have : ec.length = 40 := envK.len h
    simp [DeedE.cells, this]
  one := by
    rintro w ok x cs ⟨ec, rfl, _, h⟩ u hu
    simp only [DeedE.cells, List.mem_cons] at hu
    rcases hu with rfl | rfl | rfl | hu
    · rfl
    · rfl
    · rfl
    · exact envK.one h u hu
  weaken := by
    rintro w ok ok' x cs hok ⟨ec, rfl, h1, h⟩
    exact ⟨ec, rfl, h1, envK.weaken hok h⟩
  bound := by
    rintro w ok x cs ⟨ec, rfl, h1, h⟩
    exact ⟨ec, rfl, h1, envK.bound h⟩
  move := by
    rintro w w' ok x cs hm ⟨ec, rfl, h1, h⟩
    exact ⟨ec, rfl, h1, envK.move hm h⟩
/-- It returns a Bool. -/
def BoolEnd (e : Ending) : Prop := ∃ r : Bool, e = .returned (.bool r)
theorem big_any (A : Option Addr) (n c : Nat) (l : List DeedE) (ok : Nat → Prop) (w : World) (hr : deedK.Rd w ok A n l) (hn : n ≤ 9223372036854775807) :
    Calls Try.prog 8 #[.slice A n c] w fun e w' => BoolEnd e ∧ Below w.heap.size w w' := by
  have HR := hide hr
  have hln : l.length = n := hr.1
  have HLN := hide hln
  clear hr hln
  go_enter Try.func8, Try.ntmps8
  go_wp2_with fail
  go_loopw [3, 4] (fun t3 t4 wr => ∃ (m : Int) (i : Nat), t3 = .int .i64 m ∧ t4 = .int .i64 i ∧ i ≤ n ∧ Hid (Below w.heap.size w wr)) (fun _ t4 _ => n - (intOf t4).toNat)
  case atStart => exact ⟨0, 0, rfl, rfl, Nat.zero_le _, hide (Below.refl _ _)⟩
  case round =>
    obtain ⟨m, i, rfl, rfl, hi, HB⟩ := hrel
    by_cases hlt : i < n ∧ m < 2000
    · obtain ⟨hlt, hm⟩ := hlt
      obtain ⟨hil, -⟩ : i < l.length ∧ True := ⟨by have := HLN.out; omega, trivial⟩
      obtain ⟨b, off, cs, rfl, hbl, ⟨ec, rfl, h1, ⟨u, v, rfl, ⟨A1, c1, rfl, -, -, -⟩, ⟨A2, c2, rfl, -, -, -⟩⟩⟩, hcell⟩ := (HR.out.below HB.out).at_ hil
      generalize l[i] = x at *
      have p3 : wr.cell? ⟨b, off + i * 43 + 24, none⟩ = some (.slice A1 x.env.stops.length c1) := hcell 24 _ rfl
      have p4 : wr.cell? ⟨b, off + i * 43 + 38, none⟩ = some (.slice A2 x.env.row.length c2) := hcell 38 _ rfl
      have C3 := cell_after p3
      have C4 := cell_after p4
      clear hcell p3 p4
      go_upto_region 5 with fail
      have jz1 : (i : Int) < (n : Int) := by omega
      refine wp_region_after (by kernel_rfl) (by kernel_rfl) ?_
      repeat (go_big_quiet_step (fail))
      refine wpQuiet_nil ?_
      intro _ hw'
      obtain ⟨q, rfl⟩ := hw'
      have HQ := hide q.h
      clear C3 C4
      generalize q.W = wq at HQ ⊢
      generalize (wrap64 (m + wrap64 ((x.env.row.length : Int) + (x.env.stops.length : Int)))) = m2
      go_wp2_with fail
      go_roundw
      case rel => exact ⟨m2, i + 1, rfl, by go_num, by omega, hide (below_self HB.out HQ.out)⟩
      case measure => simp [intOf]; omega
    · by_cases hlt2 : i < n
      · have hm : ¬ m < 2000 := fun h => hlt ⟨hlt2, h⟩
        clear hlt
        go_wp2_with fail
        go_ret
        exact ⟨⟨_, rfl⟩, HB.out⟩
      · clear hlt
        by_cases hm : 2000 ≤ m
        · go_wp2_with fail
          go_ret
          exact ⟨⟨_, rfl⟩, HB.out⟩
        · go_wp2_with fail
          go_ret
          exact ⟨⟨_, rfl⟩, HB.out⟩
theorem size_deed : (Try.prog.info? 32).map (·.size) = some 43 := by kernel_rfl
theorem do_no {v : Value} (z : Nat) (hz : z ≤ 3) (N : Int) (nm : ByteArray) (ec : List Value) (hec : ec.length = 40) (w : World) (h : NoEnv w v) :
    Calls Try.prog 26 #[v, .agg (DeedE.cells ⟨(z : Int), N, nm, zeroT⟩ ec).toArray] w fun e w' => e = .returned (.int .i64 1) ∧ Below w.heap.size w w' := by
  have hcell : z = 0 ∨ z = 1 ∨ z = 2 ∨ z = 3 := by omega
  have H := hide h
  have HEC := hide hec
  have hal : Below w.heap.size w (w.alloc (.cells (DeedE.cells ⟨(z : Int), N, nm, zeroT⟩ ec).toArray 32)) := (Below.refl _ _).alloc (Nat.le_refl _) _
  clear h hec hal hz
  rcases hcell with rfl | rfl | rfl | rfl
  all_goals go_enter Try.func26, Try.ntmps26
  all_goals go_upto_region 1 with fail
  all_goals
    refine wp_one ?_
    intro W0 hb hbel hsz
    have z2 : W0.cell? ⟨w.heap.size, 2, none⟩ = some (.string nm) := by rw [blk_cell hb]; rfl
    have HR := hide (show W0.rangeAt w.heap.size 3 ec from fun j u hu => by
      rw [blk_cell hb]
      show (List.toArray (_ :: _ :: _ :: ec))[3 + j]? = some u
      rw [List.getElem?_toArray, show 3 + j = j + 1 + 1 + 1 by omega, List.getElem?_cons_succ, List.getElem?_cons_succ, List.getElem?_cons_succ]
      exact hu)
    have HBEL := hide hbel
  · have z0 : W0.cell? ⟨w.heap.size, 0, none⟩ = some (.int .i64 0) := by rw [blk_cell hb]; rfl
    clear hb hbel hsz
    go_wp2_with (go_at_call 20; refine (Enter_no nm _ (H.out.below HBEL.out)).mono ?_; rintro e w2 ⟨rfl, q⟩; have Q := hide (below_self HBEL.out q); clear q)
    go_ret
    exact ⟨rfl, Q.out⟩
  · have z0 : W0.cell? ⟨w.heap.size, 0, none⟩ = some (.int .i64 1) := by rw [blk_cell hb]; rfl
    clear hb hbel hsz
    go_wp2_with (go_at_call 23; refine (Leave_no _ (H.out.below HBEL.out)).mono ?_; rintro e w2 ⟨rfl, q⟩; have Q := hide (below_self HBEL.out q); clear q)
    go_ret
    exact ⟨rfl, Q.out⟩
  · have z0 : W0.cell? ⟨w.heap.size, 0, none⟩ = some (.int .i64 2) := by rw [blk_cell hb]; rfl
    clear hb hbel hsz
    go_wp2_with (go_at_call 25; refine (Take_no nm _ (H.out.below HBEL.out)).mono ?_; rintro e w2 ⟨rfl, q⟩; have Q := hide (below_self HBEL.out q); clear q)
    go_ret
    exact ⟨rfl, Q.out⟩
  · have z0 : W0.cell? ⟨w.heap.size, 0, none⟩ = some (.int .i64 3) := by rw [blk_cell hb]; rfl
    clear hb hbel hsz
    go_wp2_with (first
      | refine wpList_load_mid rfl 29 _ rfl w.heap.size 3 rfl ec _ HR.out Try.underlying29 rfl (by rw [size_env, HEC.out]) ?_
      | (go_at_call 19; refine (Put_no _ _ (H.out.below HBEL.out)).mono ?_; rintro e w2 ⟨rfl, q⟩; have Q := hide (below_self HBEL.out q); clear q))
    go_ret
    exact ⟨rfl, Q.out⟩
end Go.Proofs.Ytekkjieoikgpmaa
