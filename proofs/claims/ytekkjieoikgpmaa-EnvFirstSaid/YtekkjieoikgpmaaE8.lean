/- env.Valid: is an environment one? -/
import Derived.Test.YtekkjieoikgpmaaE6
import Derived.Test.YtekkjieoikgpmaaE7
set_option linter.unusedVariables false
set_option linter.unusedSimpArgs false
namespace Go.Proofs.Ytekkjieoikgpmaa
open Go.RowKit
set_option maxHeartbeats 3200000
set_option maxRecDepth 1000000

/-! ### spans -/
structure SpanT where
  n : Int
  lo : Int
  hi : Int
def SpanT.cells (s : SpanT) : List Value := [.int .i64 s.n, .int .i64 s.lo, .int .i64 s.hi]
def spanK : Kind SpanT where
  sz := 3
  K := fun _ _ x cs => cs = x.cells
  len := fun h => by rw [h]; rfl
  one := fun h u hu => by
    rw [h] at hu
    simp only [SpanT.cells, List.mem_cons, List.not_mem_nil, or_false] at hu
    rcases hu with rfl | rfl | rfl <;> rfl
  weaken := fun _ h => h
  bound := fun h => h
  move := fun _ h => h
def inSpan (s : SpanT) : Bool := withinB s.n s.lo s.hi
theorem rd_span {w : World} {ok : Nat → Prop} {A : Option Addr} {n i : Nat} {l : List SpanT} {x : SpanT} (h : spanK.Rd w ok A n l) (hx : l[i]? = some x) :
    ∃ b off, A = some ⟨b, off, none⟩ ∧ w.cell? ⟨b, off + i * 3, none⟩ = some (.int .i64 x.n) ∧ w.cell? ⟨b, off + i * 3 + 1, none⟩ = some (.int .i64 x.lo) ∧ w.cell? ⟨b, off + i * 3 + 2, none⟩ = some (.int .i64 x.hi) := by
  obtain ⟨hi, rfl⟩ := List.getElem?_eq_some_iff.1 hx
  obtain ⟨b, off, cs, e, _, hK, hc⟩ := h.at_ hi
  subst hK
  exact ⟨_, _, e, hc 0 _ rfl, hc 1 _ rfl, hc 2 _ rfl⟩
theorem Valid1_span (n lo hi : Int) (w : World) : Calls Try.prog 33 #[.agg #[.int .i64 n, .int .i64 lo, .int .i64 hi]] w fun e w' => e = .returned (.bool !(withinB n lo hi)) ∧ Below w.heap.size w w' := by
  have hx : Hid (withinB n lo hi = (decide (lo ≤ n) && decide (n ≤ hi))) := hide rfl
  by_cases h1 : n < lo
  · go_enter Try.func33, Try.ntmps33
    go_wp2_with fail
    go_ret
    exact ⟨ret_bool (by rw [hx.out]; simp; omega), (Below.refl _ _).alloc (Nat.le_refl _) _⟩
  · by_cases h2 : hi < n
    · go_enter Try.func33, Try.ntmps33
      go_wp2_with fail
      go_ret
      exact ⟨ret_bool (by rw [hx.out]; simp; omega), (Below.refl _ _).alloc (Nat.le_refl _) _⟩
    · go_enter Try.func33, Try.ntmps33
      go_wp2_with fail
      go_ret
      exact ⟨ret_bool (by rw [hx.out]; simp; omega), (Below.refl _ _).alloc (Nat.le_refl _) _⟩
theorem IndexFunc_span (A : Option Addr) (n c : Nat) (l : List SpanT) (ok : Nat → Prop) (w : World) (hr : spanK.Rd w ok A n l) (hn : n ≤ 9223372036854775807) :
    Calls Try.prog 61 #[.slice A n c, .func (.func 33) #[] #[]] w fun e w' => ∃ r : Int, e = .returned (.int .i64 r) ∧ decide (0 ≤ r) = !(l.all inSpan) ∧ Below w.heap.size w w' := by
  have eg : ∀ args w, (callFunc 33 args).run Try.prog w = .ok (.enter 33 args) w := fun _ _ => rfl
  have HR := hide hr
  have hln : l.length = n := hr.1
  have HLN := hide hln
  clear hr hln
  go_enter Try.func61, Try.ntmps61
  go_wp2_with fail
  go_loopw [5, 8] (fun _ t8 wr => ∃ k : Nat, t8 = .int .i64 k ∧ k ≤ n ∧ Hid ((l.take k).all inSpan = true) ∧ Hid (Below w.heap.size w wr)) (fun _ t8 _ => n - (intOf t8).toNat)
  case atStart => exact ⟨0, rfl, Nat.zero_le _, hide rfl, hide (Below.refl _ _)⟩
  case round =>
    obtain ⟨k, rfl, hk, HG, HB⟩ := hrel
    by_cases hlt : k < n
    · obtain ⟨x, hx⟩ : ∃ x, l[k]? = some x := ⟨_, List.getElem?_eq_getElem (by have := HLN.out; omega)⟩
      obtain ⟨b, off, rfl, z0, z1, z2⟩ := rd_span (HR.out.below HB.out) hx
      obtain ⟨hkl, hxe⟩ := List.getElem?_eq_some_iff.1 hx
      have hts : (l.take (k + 1)).all inSpan = inSpan x := by
        rw [List.take_succ_eq_append_getElem hkl, List.all_append, HG.out, hxe]
        simp
      have hal : inSpan x = false → l.all inSpan = false := fun h => by
        rw [List.all_eq_false]
        exact ⟨x, List.mem_of_getElem? hx, by simp [h]⟩
      have HTS := hide hts
      have HAL := hide hal
      clear hx hkl hxe hts hal
      cases hb : inSpan x with
      | false =>
        have HPB := hide (show withinB x.n x.lo x.hi = false from hb)
        have HA := hide (HAL.out hb)
        clear hb
        go_wp2_with (go_at_fn 33; refine (Valid1_span x.n x.lo x.hi _).mono ?_; rw [HPB.out]; rintro e w2 ⟨rfl, q⟩; have Q := hide q; clear q)
        go_ret
        exact ⟨_, rfl, by rw [HA.out]; simp, below_self HB.out Q.out⟩
      | true =>
        have HPB := hide (show withinB x.n x.lo x.hi = true from hb)
        have HA := hide (show (l.take (k + 1)).all inSpan = true by rw [HTS.out, hb])
        clear hb
        go_wp2_with (go_at_fn 33; refine (Valid1_span x.n x.lo x.hi _).mono ?_; rw [HPB.out]; rintro e w2 ⟨rfl, q⟩; have Q := hide q; clear q)
        go_roundw
        case rel => exact ⟨k + 1, by go_num, by omega, HA, hide (below_self HB.out Q.out)⟩
        case measure => simp [intOf]; omega
    · have hg := HG.out
      rw [List.take_of_length_le (by have := HLN.out; omega)] at hg
      have HA := hide hg
      clear hg
      go_wp2_with fail
      go_ret
      exact ⟨_, rfl, by rw [HA.out]; simp, HB.out⟩
theorem ContainsFunc_span (A : Option Addr) (n c : Nat) (l : List SpanT) (ok : Nat → Prop) (w : World) (hr : spanK.Rd w ok A n l) (hn : n ≤ 9223372036854775807) :
    Calls Try.prog 32 #[.slice A n c, .func (.func 33) #[] #[]] w fun e w' => e = .returned (.bool !(l.all inSpan)) ∧ Below w.heap.size w w' := by
  have H := hide (IndexFunc_span A n c l ok w hr hn)
  clear hr
  go_enter Try.func32, Try.ntmps32
  go_wp2_with (go_at_call 61; refine (H.out).mono ?_; rintro e w' ⟨r, rfl, h1, q⟩; have H1 := hide h1; have Q := hide q; clear h1 q)
  go_ret
  exact ⟨ret_bool H1.out, Q.out⟩
theorem Valid2_tests : Tests (fun x => !(validB x)) 39 := fun x A c W hr hn => by
  have HB := hide (BoxAt.new W x A c)
  obtain ⟨kd, wd, ft, sz, nm, co, ns⟩ := x
  have HR := hide hr
  have HN := hide hn
  show Calls Try.prog 39 #[.agg #[.int .i64 kd, .int .i64 wd, .int .i64 ft, .int .i64 sz, .string nm, .string co, .slice A ns.length c]] W _
  clear hr hn
  go_enter Try.func39, Try.ntmps39
  go_wp2_with (go_at_call 40; refine (Valid_any ⟨kd, wd, ft, sz, nm, co, ns⟩ A c _ (HR.out.below HB.out.bel) HN.out).mono ?_; rintro e w2 ⟨rfl, q⟩; have Q := hide q; clear q)
  go_ret
  exact ⟨rfl, below_self HB.out.bel Q.out⟩
theorem none_valid (l : List BoxT) : noneB (fun x => !(validB x)) l = l.all validB := by unfold noneB; simp

/-! ### the environment -/
def spansOf (x : EnvT) : List SpanT := [⟨x.font, 0, 99⟩, ⟨x.lastFont, 0, 99⟩, ⟨x.size, 1, 1000⟩, ⟨x.lastSize, 1, 1000⟩, ⟨x.vs, 0, 100000⟩, ⟨x.ls, 1, 100⟩, ⟨x.length, 0, 1000000⟩, ⟨x.title, 0, 1000000⟩, ⟨x.indent, 0, 1000000⟩, ⟨x.temp, -1, 1000000⟩,
  ⟨x.centre, 0, 1000000⟩, ⟨x.under, 0, 1000000⟩, ⟨x.cross, 0, 1000000⟩, ⟨x.space, 0, 100⟩, ⟨x.sentence, 0, 100⟩, ⟨x.marginAt, 0, 1000000⟩, ⟨x.before, 0, 1000000⟩, ⟨x.after, 0, 1000000⟩, ⟨(x.row.length : Int), 0, 5000⟩]
def validE (x : EnvT) : Bool := (spansOf x).all inSpan && ([x.tab, x.leader, x.margin].all (fun s => textB s 10) && (inB [108, 114, 99, 98] x.mode && (textB x.colour 20 && (textB x.lastColour 20 && (stopsB x.stops x.every && (marginB x.next x.nevery x.nspace x.nindent x.nskip && x.row.all validB))))))
theorem rd_block {α : Type} {d : Kind α} {w : World} {ok : Nat → Prop} {g : Nat} {t : TypeId} {l : List α} {cs : List Value} (hb : w.heap[g]? = some (.cells cs.toArray t (0, 0))) (hr : d.Reps w ok l cs) (hg : ok g) : d.Rd w ok (some ⟨g, 0, none⟩) l.length l :=
  ⟨rfl, fun _ => ⟨g, 0, rfl, hg, blk_lt hb, fun i x hx => ⟨_, hr.2 i x hx, fun j u hu => by
    rw [blk_cell hb]
    rw [List.getElem?_take] at hu
    split at hu
    · rw [List.getElem?_drop] at hu
      rw [← hu]
      simp
    · cases hu⟩⟩⟩
theorem reps_span {w : World} {ok : Nat → Prop} : ∀ l : List SpanT, spanK.Reps w ok l (l.flatMap SpanT.cells)
  | [] => Kind.Reps.nil _ _ _
  | s :: r => (reps_span r).cons (x := s) (c := s.cells) rfl
theorem rd_str {w : World} {ok : Nat → Prop} {A : Option Addr} {n i : Nat} {l : List ByteArray} {x : ByteArray} (h : Kind.str.Rd w ok A n l) (hx : l[i]? = some x) :
    ∃ b off, A = some ⟨b, off, none⟩ ∧ w.cell? ⟨b, off + i, none⟩ = some (.string x) := by
  obtain ⟨hi, rfl⟩ := List.getElem?_eq_some_iff.1 hx
  obtain ⟨b, off, cs, e, _, hK, hc⟩ := h.at_ hi
  subst hK
  have h0 := hc 0 _ rfl
  rw [show off + i * Kind.str.sz + 0 = off + i from by show off + i * 1 + 0 = off + i; omega] at h0
  exact ⟨_, _, e, h0⟩
theorem reps_str {w : World} {ok : Nat → Prop} : ∀ l : List ByteArray, Kind.str.Reps w ok l (l.map Value.string)
  | [] => Kind.Reps.nil _ _ _
  | s :: r => (reps_str r).cons (x := s) (c := [.string s]) rfl
end Go.Proofs.Ytekkjieoikgpmaa
