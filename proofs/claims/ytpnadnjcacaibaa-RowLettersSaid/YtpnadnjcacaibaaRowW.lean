/- lapwinglaw08.awake answers true. -/
import Derived.Test.YtpnadnjcacaibaaRowN
import Derived.Test.YtpnadnjcacaibaaRowE
namespace Go.Proofs.Ytpnadnjcacaibaa.Row
open Go.RowKit
def aw0 : Nat → Cl := fun _ => blank 0 0 0
def awC : Cl := ⟨19968, 0, 0, 2, 0, 0, 0⟩
def awD : Cl := ⟨65, 0, 0, 1, 0, 0, 0⟩
def aw1 : Nat → Cl := mend 4 (putF aw0 1 awC)
def aw2 : Nat → Cl := mend 4 (putF aw1 1 awD)
theorem aw0_sane : saneB 4 aw0 0 = true := by decide +kernel
theorem aw1_sane : saneB 4 aw1 0 = true := by decide +kernel
theorem awC_fits : fitsB awC = true := by decide +kernel
theorem awD_fits : fitsB awD = true := by decide +kernel
set_option maxRecDepth 100000 in
set_option maxHeartbeats 2000000 in
theorem awake_c (w : World) : Calls Try.prog 14 #[] w fun e w' => e = .returned (.bool true) ∧ Grew w w' := by
  go_enter Try.func14, Try.ntmps14
  go_wp2_with fail
  refine (new_c 4 4 0 0 0 _ (by omega)).mono ?_
  rintro e w1 ⟨b, rfl, hbb, hg, ho⟩
  go_wp2_with fail
  refine (put_yes (some ⟨b, 0, none⟩) 4 4 aw0 false 0 false 1 awC _ ho.rd aw0_sane awC_fits (.inr rfl) (by decide)).mono ?_
  rintro e w2 ⟨b2, rfl, hbb2, hg2, ho2⟩
  have hbw : Below w.heap.size w w2 := hg.trans (hg2.mono hg.size)
  clear hg hg2 ho
  go_wp2_with fail
  generalize hw3 : w2.alloc _ = w3
  have hb3 : Below w2.heap.size w2 w3 := by rw [← hw3]; (repeat (first | (with_reducible exact Below.refl _ _) | (with_reducible assumption) | (with_reducible refine Below.grow ?_ ?_ _ _) | (with_reducible refine Below.drewN' ?_ _) | (with_reducible refine Below.drew ?_) | (with_reducible refine Below.alloc ?_ ?_ _) | (with_reducible refine Below.setCell ?_ ?_ _) | omega | (focus (simp; done)) | (focus (simp; omega))))
  have hB1 : Blk w3 w2.heap.size 24 #[.slice (some ⟨b2, 0, none⟩) 4 4, .bool false, .int .i64 0, .bool false] := by rw [← hw3]; exact Blk.new _ _ _
  clear hw3
  have ho3 : Own w3 b2 4 aw1 := ho2.below hb3 ho2.lt
  replace hbw := hbw.trans (hb3.mono hbw.size)
  clear ho2 hb3
  refine (put_yes (some ⟨b2, 0, none⟩) 4 4 aw1 false 0 false 1 awD _ ho3.rd aw1_sane awD_fits (.inl rfl) (by decide)).mono ?_
  rintro e w4 ⟨b3, rfl, hbb3, hg, ho4⟩
  replace hB1 := hB1.below hg hB1.lt
  replace ho3 := ho3.below hg ho3.lt
  replace hbw := hbw.trans (hg.mono hbw.size)
  clear hg
  obtain ⟨r0, r1, r2, r3, rf, rl⟩ := hB1.facts4
  go_wp2_with fail
  generalize hw5 : w4.alloc _ = w5
  have hg : Below w4.heap.size w4 w5 := by rw [← hw5]; (repeat (first | (with_reducible exact Below.refl _ _) | (with_reducible assumption) | (with_reducible refine Below.grow ?_ ?_ _ _) | (with_reducible refine Below.drewN' ?_ _) | (with_reducible refine Below.drew ?_) | (with_reducible refine Below.alloc ?_ ?_ _) | (with_reducible refine Below.setCell ?_ ?_ _) | omega | (focus (simp; done)) | (focus (simp; omega))))
  have hB2 : Blk w5 w4.heap.size 24 #[.slice (some ⟨b3, 0, none⟩) 4 4, .bool false, .int .i64 0, .bool false] := by rw [← hw5]; exact Blk.new _ _ _
  clear hw5
  replace ho4 := ho4.below hg ho4.lt
  replace ho3 := ho3.below hg ho3.lt
  replace hbw := hbw.trans (hg.mono hbw.size); replace hB1 := hB1.below hg hB1.lt; clear r0 r1 r2 r3 rf rl; obtain ⟨r0, r1, r2, r3, rf, rl⟩ := hB1.facts4; clear hg
  obtain ⟨z0, z1, z2, z3, zf, zl⟩ := hB2.facts4
  refine (sane_c (some ⟨b2, 0, none⟩) 4 4 aw1 false 0 false _ ho3.rd (by omega)).mono ?_
  rintro e w6 ⟨rfl, hg⟩
  replace hg := hg.below
  replace ho4 := ho4.below hg ho4.lt
  replace ho3 := ho3.below hg ho3.lt
  replace hbw := hbw.trans (hg.mono hbw.size); replace hB1 := hB1.below hg hB1.lt; clear r0 r1 r2 r3 rf rl; obtain ⟨r0, r1, r2, r3, rf, rl⟩ := hB1.facts4; replace hB2 := hB2.below hg hB2.lt; clear z0 z1 z2 z3 zf zl; obtain ⟨z0, z1, z2, z3, zf, zl⟩ := hB2.facts4; clear hg
  have s1 := aw1_sane
  have k1 : w6.cell? ⟨b2, 1 * 7 + 3, none⟩ = some (.int .i64 2) := (ho3.at_ (i := 1) (by omega)).2.2.2.1
  have k2 : w6.cell? ⟨b2, 2 * 7 + 3, none⟩ = some (.int .i64 0) := (ho3.at_ (i := 2) (by omega)).2.2.2.1
  have k3 : w6.cell? ⟨b3, 2 * 7 + 3, none⟩ = some (.int .i64 1) := (ho4.at_ (i := 2) (by omega)).2.2.2.1
  have k4 : w6.cell? ⟨b3, 2 * 7, none⟩ = some (.int .i64 0) := (ho4.at_ (i := 2) (by omega)).1
  have k5 : w6.cell? ⟨b3, 1 * 7, none⟩ = some (.int .i64 65) := (ho4.at_ (i := 1) (by omega)).1
  simp only [Nat.reduceMul, Nat.reduceAdd] at k1 k2 k3 k4 k5
  go_wp2_with fail
  go_ret
  exact ⟨rfl, (Below.toGrow (by repeat (first | (with_reducible exact Below.refl _ _) | (with_reducible assumption) | (with_reducible refine Below.grow ?_ ?_ _ _) | (with_reducible refine Below.drewN' ?_ _) | (with_reducible refine Below.drew ?_) | (with_reducible refine Below.alloc ?_ ?_ _) | (with_reducible refine Below.setCell ?_ ?_ _) | omega | (focus (simp; done)) | (focus (simp; omega)))))⟩
end Go.Proofs.Ytpnadnjcacaibaa.Row
