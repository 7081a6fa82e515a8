/- reflow.Spread. -/
import Derived.Test.YtlgnchhhadnjbaaRflC
namespace Go.Proofs.Ytlgnchhhadnjbaa.Row
open Go.RowKit
def tot (L : List Ln) : Nat := (L.map (fun l => l.cs.length + 1)).sum
theorem Ln.ok.len {w : World} {l : Ln} (h : l.ok w) : l.cs.length ≤ 10000000 := h.2
theorem fold_len (w : Nat) : ∀ (cs : List Cl) (s : List (List Cl) × List Cl), (cs.foldl (stepS w) s).1.length ≤ s.1.length + cs.length
  | [], s => by simp
  | c :: cs, s => by
    rw [List.foldl_cons, List.length_cons]
    refine Nat.le_trans (fold_len w cs _) ?_
    unfold stepS
    split
    · omega
    · split
      · rw [List.length_append, List.length_singleton]
        omega
      · simp only
        omega
theorem split_len (x : Ls) (v : Int) : (splitG x v).length ≤ x.cs.length + 1 := by
  unfold splitG
  split
  · unfold splitS finS
    rw [List.length_append, List.length_map, List.length_singleton]
    have := fold_len (wN v) x.cs ([], [])
    simp only [List.length_nil] at this
    omega
  · simp
theorem spread_len (v : Int) : ∀ L : List Ln, (spreadS (L.map Ln.ls) v).length ≤ tot L
  | [] => by simp [spreadS, tot]
  | l :: L => by
    have h := spread_len v L
    have h2 := split_len l.ls v
    unfold spreadS tot at *
    rw [List.map_cons, List.flatMap_cons, List.length_append, List.map_cons, List.sum_cons]
    have : l.ls.cs = l.cs := rfl
    rw [this] at h2
    omega
theorem tot_app (L M : List Ln) : tot (L ++ M) = tot L + tot M := by unfold tot; rw [List.map_append, List.sum_append]
theorem tot_take (L : List Ln) (k : Nat) : tot (L.take k) ≤ tot L := by
  have h := tot_app (L.take k) (L.drop k)
  rw [List.take_append_drop] at h
  omega
theorem take_next {α : Type} {L : List α} {k : Nat} (h : k < L.length) : L.take (k + 1) = L.take k ++ [L[k]] := by
  rw [List.take_add_one, List.getElem?_eq_getElem h]
  rfl
def SpreadF (L : List Ls) (v : Int) (w : World) (e : Ending) (w' : World) : Prop := ∃ u R, e = .returned u ∧ Below w.heap.size w w' ∧ RowsX w' w.heap.size u R ∧ R.map Rw.sh = spreadS L v
theorem frR_up {w : World} {base base' : Nat} {own own' : Option Nat} {r : Rw} (h : FrR w base' own' r) (hb : base ≤ base') (ho : ∀ g, own = some g → g < base') : FrR w base own r := by
  obtain ⟨h1, b, o, hA, h2, h3, -⟩ := h
  exact ⟨h1, b, o, hA, by omega, h3, fun e => by have := ho b e.symm; omega⟩
theorem below_then {a w w1 w2 : World} (_ : Below a.heap.size a w) (h1 : Below w.heap.size w w1) (h2 : Below w1.heap.size w1 w2) : Below w.heap.size w w2 := h1.trans (h2.mono h1.size)
set_option maxRecDepth 100000 in
set_option maxHeartbeats 4000000 in
theorem spread_c (x : Value) (L : List Ln) (v : Int) (w : World) (hx : RdL w x L) (hl : L.length ≤ 100000) (ht : tot L ≤ 10000000) :
    Calls Try.prog 14 #[x, .int .i64 v] w (SpreadF (L.map Ln.ls) v w) := by
  obtain ⟨A, cap, rfl, hc⟩ := hx.1.len
  have HT := Lib.hid ht
  have HX := Lib.hid hx
  clear ht
  obtain ⟨n, hn⟩ : ∃ n, L.length = n := ⟨_, rfl⟩
  rw [hn] at hl hc ⊢
  have HN := Lib.hid hn
  replace hx : Hid (RdL w (.slice A n cap) L) := by show RdL _ _ _; rw [← hn]; exact hx
  clear HX hn
  obtain ⟨i3, hi3, hz3, hs3, hb3⟩ := row_parts
  have HI3 := Lib.hid hi3
  have HZ3 := Lib.hid hz3
  have HS3 := Lib.hid hs3
  have HB3 := Lib.hid hb3
  clear hi3 hz3 hs3 hb3
  go_enter Try.func14, Try.ntmps14
  go_wp2_with fail
  go_loopw [5, 10] (fun l i wz => ∃ (k : Nat) (R : List Rw), k ≤ n ∧ i = .int .i64 k ∧ Hid (RowsX wz w.heap.size l R) ∧ Below w.heap.size w wz ∧ Hid (R.map Rw.sh = spreadS ((L.take k).map Ln.ls) v)) (fun _ i _ => n - (intOf i).toNat)
  case atStart => exact ⟨0, [], Nat.zero_le _, rfl, RowsX.nil _ _, Below.refl _ _, rfl⟩
  case round =>
    obtain ⟨k, R, hk, rfl, HR, hbw, HSH⟩ := hrel
    have hws := hbw.size
    by_cases hlt : k < n
    · have hkl : k < L.length := by rw [HN.out]; exact hlt
      obtain ⟨b, o, rfl, hbl, hat, hok⟩ := (hx.out.below hbw).at_ hkl
      have HTK := Lib.hid (take_next hkl)
      have HTT : Hid (R.length + (L[k].cs.length + 1) ≤ 10000000) := by
        show _ ≤ _
        have h1 := tot_take L (k + 1)
        rw [take_next hkl, tot_app] at h1
        have h2 := spread_len v (L.take k)
        rw [← HSH.out, List.length_map] at h2
        have h3 := HT.out
        have h4 : tot [L[k]] = L[k].cs.length + 1 := by simp [tot]
        omega
      generalize L[k] = le at *
      have HOK := Lib.hid hok
      obtain ⟨p0, p1, p2⟩ := hat
      have hltI : (k : Int) < n := by omega
      clear hok
      go_wp2_with (first | (go_at_call 18; go_loud ((with_reducible refine (split_c le.A le.cs.length le.cap le.cs le.dir le.ex v _ (HOK.out.rdB (by (repeat (first | (with_reducible exact Below.refl _ _) | (with_reducible assumption) | (with_reducible refine Below.grow ?_ ?_ _ _) | (with_reducible refine Below.drewN' ?_ _) | (with_reducible refine Below.drew ?_) | (with_reducible refine Below.alloc ?_ ?_ _) | (with_reducible refine Below.setCell ?_ ?_ _) | omega | (focus (simp; done)) | (focus (simp; omega)))))) rfl HOK.out.len).mono ?_); rintro e w2 ⟨u2, R2, rfl, hb2, hr2, hs2⟩; have HB2 := Lib.hid hb2; have HR2 := Lib.hid hr2; have HS2 := Lib.hid hs2; have HL2 : Hid (R2.length ≤ le.cs.length + 1) := (by show _ ≤ _; rw [← List.length_map (f := Rw.sh), hs2]; exact split_len le.ls v); have HM63 : Hid (R.length + R2.length ≤ maxLen) := (by have h1 := HL2.out; have h2 := HTT.out; show _ ≤ _; unfold maxLen; omega); have HM47 : Hid ((R.length + R2.length) * 48 ≤ 140737488355328) := (by have h1 := HL2.out; have h2 := HTT.out; show _ ≤ _; omega); have HSZ : Hid (w.heap.size ≤ w2.heap.size) := (by have h1 := hb2.size; have h2 := hbw.size; show _ ≤ _; simp only [World.size_alloc] at h1; omega); have HX2 : Hid (OwnX encR w2 w.heap.size 48 u5 R) := (HR.out.1.below (B := wr.heap.size) (below_then hbw ((Below.refl _ _).alloc (Nat.le_refl _) _) hb2) (Nat.le_refl _)); clear hb2 hr2 hs2)) | (at_builtin; go_loud (refine wpList_append_X encR rfl _ _ _ rfl w.heap.size 48 48 i3 _ rfl HI3.out HZ3.out HS3.out HB3.out rfl _ _ R R2 rfl rfl HX2.out HR2.out.1.rd HM63.out HM47.out HSZ.out ?_; intro v6 w6 hv6 hgb6 hor6)))
      replace hgb6 : World.grownBy _ w6 u5.ownBlock := hgb6
      replace hor6 : v6.ownBlock = u5.ownBlock ∨ v6.ownBlock = _ := hor6
      have hbw2 : Below w.heap.size w w2 := hbw.trans ((below_then hbw ((Below.refl _ _).alloc (Nat.le_refl _) _) HB2.out).mono hbw.size)
      have hbw6 : Below w.heap.size w w6 := below_ownx hbw2 hgb6 (fun g hg => (HR.out.1.lt hg).1) hbw2.size
      have hR2 : RowsX w2 w.heap.size u5 R := HR.out.below (below_then hbw ((Below.refl _ _).alloc (Nat.le_refl _) _) HB2.out)
      go_roundw
      case rel =>
        refine ⟨k + 1, R ++ R2, by omega, by go_num, RowsX.app hR2 (fun r hr => frR_up (HR2.out.2 r hr) (by simp; omega) (fun g hg => by have := (HR.out.1.lt hg).2; simp; omega)) hv6 hgb6 hor6, hbw6, ?_⟩
        show _ = _
        rw [List.map_append, HSH.out, HS2.out, HTK.out, List.map_append]
        unfold spreadS
        rw [List.flatMap_append]
        simp [Ln.ls]
      case measure => simp [intOf]; omega
    · obtain rfl : n = k := by omega
      go_wp2_with fail
      go_ret
      refine ⟨_, R, rfl, hbw, HR.out, ?_⟩
      rw [HSH.out, List.take_of_length_le (by rw [HN.out]; exact Nat.le_refl _)]
end Go.Proofs.Ytlgnchhhadnjbaa.Row
