import Derived.RangeFuncFrom
import Derived.Deep.RegionHeld3
import Derived.Test.YteadghhmoggjnaaFR11
set_option linter.unusedVariables false
set_option linter.unusedSimpArgs false
section
section
namespace Go.Proofs.YteadghhmoggjnaaB
open Go.RowKit Go.Shelf
open Go.Proofs.Yteadghhmoggjnaa.Q (S33 k33 z33 k33_open k33_mk k33_mkM k33_openF)
open Go.Proofs.YteadghhmoggjnaaW.PrintWords (Kd ReadsRow)
attribute [local go_sem] Oper.semAt_some
set_option maxHeartbeats 2000000
set_option maxRecDepth 1000000
theorem Backward1_nil (F : Fence) (n : Nat) (h7 : F.fn 78) (hro : F.round = none) (l Bs : Nat) (J : List Nat → World → Prop) (W : World) (A : Option Addr) (c : Nat) (hBs : W.cell? ⟨Bs, 0, none⟩ = some (.slice A 0 c)) (h0 : J [] W) :
  CallsIn F n Try.prog 78 #[.func (.yield l) #[] #[], .pointer (some ⟨Bs, 0, none⟩)] W fun e W' => (∃ v, e = .returned v) ∧ J [] W' := by
 refine callsIn_of_wp Try.func78 rfl h7 ?_ hro
 simp only [Try.ntmps78, List.size_toArray, List.length_cons, List.length_nil, Nat.reduceAdd, Nat.reduceSub, Array.replicate_succ, Array.replicate_zero, List.push_toArray, List.append_toArray, List.nil_append, List.cons_append]
 gi_wp2
 gi_loopw [3] (fun i wr => i = .int .i64 (-1) ∧ J [] wr) (fun _ _ => 0)
 case atStart => exact ⟨rfl, h0⟩
 case round =>
  obtain ⟨rfl, hJs⟩ := hrel
  gi_wp2
  go_end0
  exact ⟨⟨_, rfl⟩, hJs⟩
theorem Backward_any (A : Option Addr) (n c : Nat) (w : World) : Calls Try.prog 64 #[.slice A n c] w fun e w' => e = .returned (.func (.func 78) #[] #[.pointer (some ⟨w.heap.size, 0, none⟩)]) ∧ w' = w.alloc (.cells #[.slice A n c] 22) := by
 go_enter Try.func64, Try.ntmps64
 go_wp2_with fail
 go_ret
 exact ⟨rfl, rfl⟩
theorem Backward_stops (F : Fence) (n : Nat) (h7 : F.fn 78) (hro : F.round = none) (hn : 1 ≤ n) (Bs n₀ : Nat) (A : Option Addr) (c : Nat) (zs : List Int) (hreach : zs.length ≤ 1000000000000) (w : World) (hBs : Bs < w.heap.size) (hBn : Bs < n₀) (hn₀ : n₀ ≤ w.heap.size)
  (hc : w.cell? ⟨Bs, 0, none⟩ = some (.slice A zs.length c)) (hI : Kind.int.Rd w (fun k => k < n₀) A zs.length zs) :
  SeqStopsK F n Try.prog 78 #[.pointer (some ⟨Bs, 0, none⟩)] (fun x : Nat => #[Value.int .i64 ((bkAt zs x).1 : Int), Value.int .i64 (bkAt zs x).2]) (Below n₀) (fun ys => ys = List.range zs.length) (fun pre => ∃ k, k ≤ zs.length ∧ pre = List.range k) zs.length w := fun l J Jx W hW _ _ hY h0 => by
 have hc' := (hW.cell (p := ⟨Bs, 0, none⟩) hBs).trans hc
 rcases Nat.eq_zero_or_pos zs.length with h | h
 ·have hz : zs = [] := List.eq_nil_of_length_eq_zero h
  subst hz
  exact (Backward1_nil F n h7 hro l Bs J W A c hc' h0).mono fun e W' ⟨he, hj⟩ => ⟨he, .inl ⟨_, rfl, hj⟩⟩
 ·obtain ⟨b, off, rfl, hb, hlt, hcell⟩ := hI.2 h
  refine Backward1_in F n h7 hro hn l Bs n₀ b off zs.length c zs rfl hreach hb hBn J Jx hY W hc' (fun j hj => ?_) h0
  obtain ⟨cs, hk, hcs⟩ := hcell j zs[j] (List.getElem?_eq_getElem hj)
  have hk' : cs = [Value.int .i64 zs[j]] := hk
  subst hk'
  have h2 := hcs 0 _ rfl
  have e : off + j * Kind.int.sz + 0 = off + j := by show off + j * 1 + 0 = _; omega
  rw [e] at h2
  have h3 := (hW.cell (p := ⟨b, off + j, none⟩) hlt).trans h2
  rw [h3, List.getElem?_eq_getElem hj]
  rfl
section
variable (row : List S33) (len : Int) (h : S33)
def gapA (i : Nat) : Nat := (row.drop i).length - (restL (row.drop i)).length
def begA (i : Nat) : Nat := i + gapA row i
def stopA (i : Nat) : Nat := begA row i + (row.drop (begA row i)).findIdx blankB
def allA (i : Nat) : List Int := placesL ((row.drop (begA row i)).take (stopA row i - begA row i))
def cutL (i : Nat) (p : Int) : List S33 := hyph (row.take (begA row i + p.toNat)) h
def fitsL (i : Nat) (p : Int) : Bool := decide (widthW (cutL row h i p) ≤ len)
def ansCut (i : Nat) (p : Int) : List S33 × List S33 × Bool := (cutL row h i p, restL (row.drop (begA row i + p.toNat + 1)), true)
def ansAt (i : Nat) : List S33 × List S33 × Bool :=
 match (allA row i).reverse.find? (fitsL row len h i) with
 | some p => ansCut row h i p
 | none => if 0 < i then (row.take i, restL (row.drop i), true) else
  match (allA row i)[0]? with
  | some p => ansCut row h i p
  | none => (row.take (stopA row i), restL (row.drop (stopA row i)), true)
def takeGo : Nat → Nat → List S33 × List S33 × Bool
 | 0, _ => (row, [], false)
 | f + 1, i => if i < row.length then
   if begA row i = row.length then (row, [], false)
   else if widthW (row.take (stopA row i)) ≤ len then takeGo f (stopA row i)
   else ansAt row len h i
  else (row, [], false)
end
def takeL (row : List S33) (len : Int) (h : S33) : List S33 × List S33 × Bool := takeGo (restL row) len h ((restL row).length + 1) 0
theorem restL_le (l : List S33) : (restL l).length ≤ l.length := by unfold restL; exact (List.dropWhile_sublist _).length_le
theorem restL_drop (l : List S33) : l.drop (l.length - (restL l).length) = restL l := by
 have h := List.takeWhile_append_dropWhile (p := blankB) (l := l)
 have h2 : l.length - (restL l).length = (l.takeWhile blankB).length := by
  unfold restL
  have h3 := congrArg List.length h
  rw [List.length_append] at h3
  omega
 rw [h2]
 have h4 : l.drop (l.takeWhile blankB).length = (l.takeWhile blankB ++ l.dropWhile blankB).drop (l.takeWhile blankB).length := by rw [h]
 rw [h4, List.drop_left]
 rfl
theorem restL_head {l : List S33} {x : S33} (h : (restL l)[0]? = some x) : blankB x = false := by
 unfold restL at h
 cases hd : l.dropWhile blankB with
 | nil => rw [hd] at h; simp at h
 | cons y r =>
  rw [hd] at h
  have e : y = x := by simpa using h
  subst e
  have := List.head?_dropWhile_not blankB l
  rw [hd] at this
  simpa using this
theorem begA_le {row : List S33} {i : Nat} (h : i ≤ row.length) : begA row i ≤ row.length := by
 unfold begA gapA
 have : (row.drop i).length = row.length - i := List.length_drop
 omega
theorem begA_drop {row : List S33} (i : Nat) : row.drop (begA row i) = restL (row.drop i) := by
 have := restL_drop (row.drop i)
 rw [List.drop_drop] at this
 exact this
theorem stopA_le {row : List S33} {i : Nat} (h : i ≤ row.length) : stopA row i ≤ row.length := by
 unfold stopA
 have h1 := begA_le (row := row) h
 have h2 := List.findIdx_le_length (p := blankB) (xs := row.drop (begA row i))
 have : (row.drop (begA row i)).length = row.length - begA row i := List.length_drop
 omega
theorem stopA_gt {row : List S33} {i : Nat} (h : i < row.length) (hb : begA row i ≠ row.length) : begA row i < stopA row i := by
 have h1 := begA_le (row := row) (Nat.le_of_lt h)
 unfold stopA
 have h2 : 0 < (row.drop (begA row i)).findIdx blankB := by
  rcases Nat.eq_zero_or_pos ((row.drop (begA row i)).findIdx blankB) with h0 | h0
  ·exfalso
   have hlen : 0 < (row.drop (begA row i)).length := by rw [List.length_drop]; omega
   have h3 := List.findIdx_getElem (w := by rw [h0]; exact hlen) (p := blankB) (xs := row.drop (begA row i))
   have h4 : (restL (row.drop i))[0]? = some ((row.drop (begA row i))[(row.drop (begA row i)).findIdx blankB]'(by rw [h0]; exact hlen)) := by
    rw [← begA_drop]
    rw [← List.getElem?_eq_getElem]
    rw [h0]
   rw [restL_head h4] at h3
   cases h3
  ·exact h0
 omega
theorem begA_ge (row : List S33) (i : Nat) : i ≤ begA row i := by unfold begA; omega
end Go.Proofs.YteadghhmoggjnaaB
end
section
namespace Go.Proofs.YteadghhmoggjnaaB
open Go.RowKit Go.Shelf
set_option maxHeartbeats 2000000
def noDefer (o : Oper) : Bool := match o.op with | .defer _ => false | _ => true
theorem oper_round {l n : Nat} {P : Program} {o : Oper} {a : Act} {w : World} {K : Act → World → Prop} {Q : Exit → Act → World → Prop} (hnd : noDefer o = true) (h : o.wp P a w K Q) : o.wpIn (Fence.wide.inRound l) n P a w K Q := by
 refine ⟨fun f _ => trivial, ?_⟩
 rw [Oper.semAt_plain _ _ _ (fun c hc => by unfold noDefer at hnd; rw [hc] at hnd; cases hnd)]
 unfold Oper.wp at h
 generalize (execOp a.eval o).run P w = r at *
 cases r with
 | ok n' w' =>
  cases n' <;> simp only [Oper.upon] at h
  case value u => exact h
  case skip => exact h
  case defer d => exact h
  case enter f args =>
   refine ⟨fun hd => (by cases hd), CallsIn.inRound l (callsIn_wide.2 (Calls.mono h fun e w'' he => ?_))⟩
   cases e with
   | returned u => exact he
   | panicked c => exact he
   | outgrown => exact he
  case row row args =>
   refine ⟨fun hd => (by cases hd), fun c cs _ => ?_⟩
   obtain ⟨v, w'', hR, hs⟩ := h c cs
   exact ⟨v, w'', hR, stepsIn_wide.2 hs⟩
 | halt x w' =>
  cases x <;> simp only [Oper.upon] at h
  case panic u => exact h
theorem wpAny_round {l n : Nat} {P : Program} {md : Region.Mode} {ops : Array Oper} {Q : Exit → Act → World → Prop} (hnd : ops.all noDefer = true) (hLO : ¬ LetsOut Q) : ∀ (fuel : Nat) (listed : Array Bool) (a : Act) (w : World), wpAny P md ops Q fuel listed a w → wpAnyIn (Fence.wide.inRound l) n P md ops Q fuel listed a w
 | 0, _, _, _, h => h
 | fuel + 1, listed, a, w, h => by
  refine ⟨h.1, fun i hi => ?_⟩
  have h2 := h.2 i hi
  unfold wpOp at h2
  unfold wpOpIn
  cases ho : ops[i]? with
  | none =>
   rw [ho] at h2
   exact wpAny_round hnd hLO fuel _ _ _ h2
  | some o =>
   rw [ho] at h2
   dsimp only at h2 ⊢
   split
   ·rename_i hw
    rw [if_pos hw] at h2
    rcases h2 with h2 | h2
    ·have hno : noDefer o = true := by
      obtain ⟨hi', rfl⟩ := Array.getElem?_eq_some_iff.1 ho
      exact Array.all_eq_true.1 hnd i hi'
     exact Oper.wpIn_mono (fun a' w' h' => wpAny_round hnd hLO fuel _ a' w' h') (oper_round hno h2)
    ·exact absurd h2.2 hLO
   ·rename_i hw
    rw [if_neg hw] at h2
    exact ⟨fun f _ => trivial, wpAny_round hnd hLO fuel _ _ _ h2⟩
theorem wpIn_region_round {l n id : Nat} {P : Program} {ops : Array Oper} {Q : Exit → Act → World → Prop} {a : Act} {w : World} (S : World → Prop) (hm : P.follows .mixedOrders = true) (hnd : ops.all noDefer = true) (hLO : ¬ LetsOut Q)
  (h : wpAnyH P .any ops Q S ops.size (Array.replicate ops.size false) a w.drew) : (Code.region id ops true).wpIn (Fence.wide.inRound l) n P Q a w :=
 wpIn_region_any hm (wpAny_round hnd hLO _ _ _ _ (wpAny_of_held _ _ _ _ h))
theorem take_first {P : Program} {ops : Array Oper} {Q : Exit → Act → World → Prop} {md : Region.Mode} {S : World → Prop} (i d : Nat) (v : Value) {oi : Oper} {fuel : Nat} {listed : Array Bool} {tmps : Array Value} {ds : List Deferred} {w : World} (hi : ops[i]? = some oi) (hd : oi.dst = some d)
  (hs : Region.noSelect ops = true) (hf : Region.free md ops listed i = true) (hr : (Region.ready md ops listed).contains i = true)
  (hQ : ∀ c a w, ¬ Q (.panic c) a w) (hy : YieldsIf P ops S oi v { tmps := tmps, defers := ds }) (hS : S w)
  (h : wpAnyH P md ops Q S fuel (listed.setIfInBounds i true) { tmps := tmps.setIfInBounds d v, defers := ds } w) : wpAnyH P md ops Q S (fuel + 1) listed { tmps := tmps, defers := ds } w :=
 wpAnyH_take hi hs hf hr (fun c a w h => absurd h (hQ _ _ _)) hy hS (by rw [hd]; exact h)
end Go.Proofs.YteadghhmoggjnaaB
end
end
