/-
  LawFnProjections: part 12 of the texts that the proof needs. No condition.
-/
import Derived.Test.YtggigolkncckoaaGreatP11
namespace Go.Proofs.YtggigolkncckoaaGreat
open Go.RowKit
/-- The value is a tuple of a new list and the code 0. -/
def VTp (w0 : World) (n : Nat) (L : List Int) : VP := ⟨fun v w => ∃ A c, v = .tuple #[.slice A n c, .int .i64 0] ∧ MkI w0 w A n c L, fun _ _ _ ⟨A, c, e, h⟩ hb => ⟨A, c, e, h.below hb⟩⟩
set_option maxHeartbeats 25600000 in
set_option maxRecDepth 40000 in
theorem FnProjections_any (B : Option Addr) (nb cb : Nat) (bs : List Int) (w : World) (r : Rd w B nb (bs.map (Value.int .u8))) (hbs : ∀ b ∈ bs, 0 ≤ b ∧ b < 256) (hbg : ∀ a, B = some a → a.block < w.heap.size) :
    Calls Tryz.prog 11 #[.slice B nb cb] w fun e w' => e = .returned (.bool true) ∧ Below w.heap.size w w' := by
  have hbig := big_any B nb cb w
  by_cases hbb : 4096 < nb
  · rw [decide_eq_true hbb] at hbig
    go_enter Tryz.func11, Tryz.ntmps11
    go_wp2_with fail
    refine hbig.mono ?_
    rintro e w1 ⟨rfl, rfl⟩
    go_wp2
    go_ret
    exact ⟨rfl, Below.refl _ _⟩
  · rw [decide_eq_false hbb] at hbig
    have hdr := DrawProjectOnto_any B nb cb bs w (by omega) r hbs hbg
    go_enter Tryz.func11, Tryz.ntmps11
    go_wp2_with fail
    refine hbig.mono ?_
    rintro e w1 ⟨rfl, rfl⟩
    clear hbig
    go_wp2_with fail
    refine hdr.mono ?_
    rintro e w2 ⟨P, A, n, c, sq, A1, m1, c1, xs, A2, m2, c2, ys, rfl, hP, hn, h1, h2, ho, hx, hy, hb2⟩
    have hcx : m1 ≤ c1 := hx.cap
    have hcy : m2 ≤ c2 := hy.cap
    have hA : Below w2.heap.size w2 (w2.alloc (.cells #[.int .i64 P, .slice A n c] 26)) := (Below.refl _ _).alloc (Nat.le_refl _) _
    have k3 : Blk (w2.alloc (.cells #[.int .i64 P, .slice A n c] 26)) w2.heap.size 26 #[.int .i64 P, .slice A n c] := Blk.new _ _ _
    have hB3 := hb2.alloc (o := .cells #[.int .i64 P, .slice A n c] 26) hb2.size
    have o3 := (ho.below hA).rd
    have x3 := (hx.below hA).rd
    have y3 := (hy.below hA).rd
    obtain ⟨w3, hw3⟩ : ∃ W, W = w2.alloc (.cells #[.int .i64 P, .slice A n c] 26) := ⟨_, rfl⟩
    have hb1 := ProjectOnto_any P A n c sq A1 m1 c1 xs A2 m2 c2 ys w3 (by omega) (by omega) (by omega) (hw3 ▸ o3) (hw3 ▸ x3) hcx (hw3 ▸ y3) hcy
    obtain ⟨q0, q1⟩ := k3.two
    clear hdr ho hx hy hb2 r hA
    go_wp2_with fail
    rw [← hw3] at k3 hB3 o3 x3 y3 ⊢
    clear hw3
    refine hb1.mono ?_
    rintro e w4 ⟨Aw, kw, cw, rfl, hM4⟩
    have hW := hM4.b
    have r_x := x3.below hW
    have r_y := y3.below hW
    have r_w := hM4.rd
    have i_w := hM4.2.cap
    clear q0 q1 hb1 x3 y3 hM4
    have kk := k3.below hW k3.lt
    obtain ⟨q0, q1⟩ := kk.two
    clear kk
    have hcall := specProjectOnto_any P A n c sq A1 m1 c1 xs A2 m2 c2 ys w4 (by omega) (by omega) (by omega) (o3.below hW) r_x hcx r_y hcy
    go_wp2_with fail
    refine hcall.mono ?_
    rintro e w5 ⟨A5, m5, c5, rfl, hM⟩
    replace r_x := r_x.below hM.b
    replace r_y := r_y.below hM.b
    replace r_w := r_w.below hM.b
    have r_t := hM.rd
    replace hW := hW.trans (hM.b.mono hW.size)
    clear hM
    clear hcall q0 q1
    have l4 := r_w.lenI
    have l5 := r_t.lenI
    have hlen := prR_len P sq xs ys
    have e0 : ((prR P sq xs ys).2 != (prR P sq xs ys).2) = false := by simp
    have kk := k3.below hW k3.lt
    obtain ⟨q0, q1⟩ := kk.two
    clear kk
    have hcall := likeInts_any Aw A5 kw m5 cw c5 _ _ w5 (by omega) (by omega) r_w r_t
    rw [decide_eq_true rfl] at hcall
    go_wp2_with fail
    refine hcall.mono ?_
    rintro e w8 ⟨rfl, j1, hw9⟩
    have hb7 := below_drewN (Below.refl w5.heap.size w5) j1
    rw [← hw9] at hb7
    replace r_x := r_x.below hb7
    replace r_y := r_y.below hb7
    replace r_w := r_w.below hb7
    replace r_t := r_t.below hb7
    replace hW := hW.trans (hb7.mono hW.size)
    clear hcall q0 q1 hb7 hw9
    clear r_t
    clear l5 hlen e0
    have hB8 := hB3.trans (hW.mono hB3.size)
    by_cases hc : codeLi P sq xs ys = 0
    · obtain ⟨WW, RR, II, L, q, HPr, hp13, hn1, hn6, hsp, hxl, hyl, hyn, hpr, hrj, hrf, hrb, hco, hsu, hbs, hq0, hwl, hwn, hrl, hrn, hil, hin, hno, hp1, hp2, hlt, hln, hpz, hon⟩ := projs_in hc
      rw [hpr] at r_w l4
      replace r_w : Rd w8 Aw kw (ints WW) := r_w
      replace l4 : WW.length = kw := l4
      have e1 : ((0 : Int) != 0) = false := by simp
      have hsl := o3.lenI
      rw [hsl] at hn1 hn6 hxl hyl hwl hrl hil hlt hln
      obtain rfl : m1 = pw n := by rw [← r_x.lenI, hxl]
      obtain rfl : n = m2 := by rw [← r_y.lenI, hyl]
      obtain rfl : n = kw := by rw [← l4, hwl]
      have hpw : pw n ≤ 64 := pw_le (k := 6) hn6
      have hp3 := (isP_ge HPr).1
      have e3 : (q == 0) = false := by simp [hq0]
      obtain ⟨nv, hnv⟩ : ∃ a, a = pairL P sq ys ys := ⟨_, rfl⟩
      have HNV := Lib.hid (And.intro hnv (hnv.trans hno))
      have HRJ := Lib.hid hrj
      have HRF := Lib.hid (And.intro hrf hrb)
      have HCO := Lib.hid hco
      have HSU := Lib.hid hsu
      have HBS := Lib.hid hbs
      have HWN := Lib.hid (And.intro hwl hwn)
      have HRN := Lib.hid (And.intro hrl hrn)
      have HIN := Lib.hid (And.intro hil hin)
      have HYN := Lib.hid (And.intro hyl hyn)
      have HPL := Lib.hid (And.intro hp1 hp2)
      have HLT := Lib.hid hlt
      have HPZ := Lib.hid hpz
      have HON := Lib.hid hon
      have HSP := Lib.hid hsp
      rw [hpr]
      clear hc hpr hrj hrf hrb hco hsu hbs hq0 hwl hwn hrl hrn hil hin hno hp1 hp2 hlt hpz hon hsp hnv hyl hyn hxl hB8 l4 HPr
      have kk := k3.below hW k3.lt
      obtain ⟨q0, q1⟩ := kk.two
      clear kk
      have hcall := RejectFrom_any P A n c sq A1 (pw n) c1 xs A2 n c2 ys w8 (by omega) (by omega) (by omega) (o3.below hW) r_x hcx r_y hcy
      rw [HRJ.out] at hcall
      go_wp2_with fail
      refine hcall.mono ?_
      rintro e w9 ⟨Ar, kr, cr, rfl, hM⟩
      replace r_x := r_x.below hM.b
      replace r_y := r_y.below hM.b
      replace r_w := r_w.below hM.b
      have r_r : Rd w9 Ar kr (ints RR) := hM.rd
      have i_r := hM.2.cap
      replace hW := hW.trans (hM.b.mono hW.size)
      clear hM
      clear hcall q0 q1
      obtain rfl : n = kr := by rw [← r_r.lenI]; exact HRN.out.1.symm
      have kk := k3.below hW k3.lt
      obtain ⟨q0, q1⟩ := kk.two
      clear kk
      have hcall := ReflectInBlade_any P A n c sq A1 (pw n) c1 xs A2 n c2 ys w9 (by omega) (by omega) (by omega) (o3.below hW) r_x hcx r_y hcy
      rw [HRF.out.1] at hcall
      go_wp2_with fail
      refine hcall.mono ?_
      rintro e w10 ⟨Ai, ki, ci, rfl, hM⟩
      replace r_x := r_x.below hM.b
      replace r_y := r_y.below hM.b
      replace r_w := r_w.below hM.b
      replace r_r := r_r.below hM.b
      have r_i : Rd w10 Ai ki (ints II) := hM.rd
      have i_i := hM.2.cap
      replace hW := hW.trans (hM.b.mono hW.size)
      clear hM
      clear hcall q0 q1
      obtain rfl : n = ki := by rw [← r_i.lenI]; exact HIN.out.1.symm
      have kk := k3.below hW k3.lt
      obtain ⟨q0, q1⟩ := kk.two
      clear kk
      have hcall := ReflectInBlade_any P A n c sq A1 (pw n) c1 xs Ai n ci II w10 (by omega) (by omega) (by omega) (o3.below hW) r_x hcx r_i i_i
      rw [HRF.out.2] at hcall
      go_wp2_with fail
      refine hcall.mono ?_
      rintro e w11 ⟨Ag, kg, cg, rfl, hM⟩
      replace r_x := r_x.below hM.b
      replace r_y := r_y.below hM.b
      replace r_w := r_w.below hM.b
      replace r_r := r_r.below hM.b
      replace r_i := r_i.below hM.b
      have r_g : Rd w11 Ag kg (ints ys) := hM.rd
      replace hW := hW.trans (hM.b.mono hW.size)
      clear hM
      clear hcall q0 q1
      obtain rfl : n = kg := by rw [← r_g.lenI]; exact HYN.out.1.symm
      have kk := k3.below hW k3.lt
      obtain ⟨q0, q1⟩ := kk.two
      clear kk
      have hcall := BladeContains_any P A n c sq A1 (pw n) c1 xs Aw n cw WW w11 (by omega) (by omega) (by omega) (o3.below hW) r_x hcx r_w i_w
      rw [HCO.out] at hcall
      go_wp2_with fail
      refine hcall.mono ?_
      rintro e w12 ⟨rfl, hb7⟩
      replace r_x := r_x.below hb7
      replace r_y := r_y.below hb7
      replace r_w := r_w.below hb7
      replace r_r := r_r.below hb7
      replace r_i := r_i.below hb7
      replace r_g := r_g.below hb7
      replace hW := hW.trans (hb7.mono hW.size)
      clear hcall q0 q1
      have kk := k3.below hW k3.lt
      obtain ⟨q0, q1⟩ := kk.two
      clear kk
      have hcall := SubspaceOf_any P A n c sq A1 (pw n) c1 xs w12 (by omega) (by omega) (o3.below hW) r_x hcx
      rw [HSU.out] at hcall
      go_wp2_with fail
      refine hcall.mono ?_
      rintro e w13 ⟨Az, kz, cz, rfl, hM⟩
      replace r_x := r_x.below hM.b
      replace r_y := r_y.below hM.b
      replace r_w := r_w.below hM.b
      replace r_r := r_r.below hM.b
      replace r_i := r_i.below hM.b
      replace r_g := r_g.below hM.b
      have r_z : RdII w13 Az kz L := hM.rd
      replace hW := hW.trans (hM.b.mono hW.size)
      clear hM
      clear hcall q0 q1
      have hkz : kz ≤ 6 := by have h9 := r_z.len; omega
      have kk := k3.below hW k3.lt
      obtain ⟨q0, q1⟩ := kk.two
      clear kk
      have hcall := NormOf_ok P A n c sq A2 c2 ys w13 HSP.out (o3.below hW) r_y hcy HYN.out.2
      rw [← HNV.out.1] at hcall
      go_wp2_with fail
      refine hcall.mono ?_
      rintro e w14 ⟨rfl, hb7⟩
      replace r_x := r_x.below hb7
      replace r_y := r_y.below hb7
      replace r_w := r_w.below hb7
      replace r_r := r_r.below hb7
      replace r_i := r_i.below hb7
      replace r_g := r_g.below hb7
      replace r_z := r_z.below hb7
      replace hW := hW.trans (hb7.mono hW.size)
      clear hcall q0 q1
      have kk := k3.below hW k3.lt
      obtain ⟨q0, q1⟩ := kk.two
      clear kk
      have hcall := NormOf_ok P A n c sq Ai ci II w14 HSP.out (o3.below hW) r_i i_i HIN.out.2
      rw [← HNV.out.2] at hcall
      go_wp2_with fail
      refine hcall.mono ?_
      rintro e w15 ⟨rfl, hb7⟩
      replace r_x := r_x.below hb7
      replace r_y := r_y.below hb7
      replace r_w := r_w.below hb7
      replace r_r := r_r.below hb7
      replace r_i := r_i.below hb7
      replace r_g := r_g.below hb7
      replace r_z := r_z.below hb7
      replace hW := hW.trans (hb7.mono hW.size)
      clear hcall q0 q1
      have kk := k3.below hW k3.lt
      obtain ⟨q0, q1⟩ := kk.two
      clear kk
      have hcall := BladeSquare_any P A n c sq A1 (pw n) c1 xs w15 (by omega) (by omega) (o3.below hW) r_x hcx
      rw [HBS.out] at hcall
      go_wp2_with fail
      refine hcall.mono ?_
      rintro e w16 ⟨rfl, hb7⟩
      replace r_x := r_x.below hb7
      replace r_y := r_y.below hb7
      replace r_w := r_w.below hb7
      replace r_r := r_r.below hb7
      replace r_i := r_i.below hb7
      replace r_g := r_g.below hb7
      replace r_z := r_z.below hb7
      replace hW := hW.trans (hb7.mono hW.size)
      clear hcall q0 q1
      have e2 : (nv != nv) = false := by simp
      have kk := k3.below hW k3.lt
      obtain ⟨q0, q1⟩ := kk.two
      clear kk
      have hcall := likeInts_any Ag A2 n n cg c2 ys ys w16 (by omega) (by omega) r_g r_y
      rw [decide_eq_true rfl] at hcall
      go_wp2_with fail
      refine hcall.mono ?_
      rintro e w17 ⟨rfl, j2, hw9⟩
      have hb7 := below_drewN (Below.refl w16.heap.size w16) j2
      rw [← hw9] at hb7
      replace r_x := r_x.below hb7
      replace r_y := r_y.below hb7
      replace r_w := r_w.below hb7
      replace r_r := r_r.below hb7
      replace r_i := r_i.below hb7
      replace r_g := r_g.below hb7
      replace r_z := r_z.below hb7
      replace hW := hW.trans (hb7.mono hW.size)
      clear hcall q0 q1 hb7 hw9
      clear r_g
      have kk := k3.below hW k3.lt
      obtain ⟨q0, q1⟩ := kk.two
      clear kk
      have hcall := plus5_any P Aw n cw Ar cr 1 WW RR w17 (by omega) hp13 (by omega) r_w HWN.out.2 r_r HRN.out.2 (by omega) (by omega)
      rw [HPL.out.1] at hcall
      go_wp2_with fail
      refine hcall.mono ?_
      rintro e w18 ⟨A18, c18, rfl, hM⟩
      replace r_x := r_x.below hM.b
      replace r_y := r_y.below hM.b
      replace r_w := r_w.below hM.b
      replace r_r := r_r.below hM.b
      replace r_i := r_i.below hM.b
      replace r_z := r_z.below hM.b
      have r_a := hM.rd
      replace hW := hW.trans (hM.b.mono hW.size)
      clear hM
      clear hcall q0 q1
      have kk := k3.below hW k3.lt
      obtain ⟨q0, q1⟩ := kk.two
      clear kk
      have hcall := likeInts_any A18 A2 n n c18 c2 ys ys w18 (by omega) (by omega) r_a r_y
      rw [decide_eq_true rfl] at hcall
      go_wp2_with fail
      refine hcall.mono ?_
      rintro e w19 ⟨rfl, j3, hw9⟩
      have hb7 := below_drewN (Below.refl w18.heap.size w18) j3
      rw [← hw9] at hb7
      replace r_x := r_x.below hb7
      replace r_y := r_y.below hb7
      replace r_w := r_w.below hb7
      replace r_r := r_r.below hb7
      replace r_i := r_i.below hb7
      replace r_z := r_z.below hb7
      replace r_a := r_a.below hb7
      replace hW := hW.trans (hb7.mono hW.size)
      clear hcall q0 q1 hb7 hw9
      clear r_a
      have kk := k3.below hW k3.lt
      obtain ⟨q0, q1⟩ := kk.two
      clear kk
      have hcall := plus5_any P Aw n cw Ar cr (-1) WW RR w19 (by omega) hp13 (by omega) r_w HWN.out.2 r_r HRN.out.2 (by omega) (by omega)
      rw [HPL.out.2] at hcall
      go_wp2_with fail
      refine hcall.mono ?_
      rintro e w20 ⟨A20, c20, rfl, hM⟩
      replace r_x := r_x.below hM.b
      replace r_y := r_y.below hM.b
      replace r_w := r_w.below hM.b
      replace r_r := r_r.below hM.b
      replace r_i := r_i.below hM.b
      replace r_z := r_z.below hM.b
      have r_a := hM.rd
      replace hW := hW.trans (hM.b.mono hW.size)
      clear hM
      clear hcall q0 q1
      have kk := k3.below hW k3.lt
      obtain ⟨q0, q1⟩ := kk.two
      clear kk
      have hcall := likeInts_any A20 Ai n n c20 ci II II w20 (by omega) (by omega) r_a r_i
      rw [decide_eq_true rfl] at hcall
      go_wp2_with fail
      refine hcall.mono ?_
      rintro e w21 ⟨rfl, j4, hw9⟩
      have hb7 := below_drewN (Below.refl w20.heap.size w20) j4
      rw [← hw9] at hb7
      replace r_x := r_x.below hb7
      replace r_y := r_y.below hb7
      replace r_w := r_w.below hb7
      replace r_r := r_r.below hb7
      replace r_i := r_i.below hb7
      replace r_z := r_z.below hb7
      replace r_a := r_a.below hb7
      replace hW := hW.trans (hb7.mono hW.size)
      clear hcall q0 q1 hb7 hw9
      clear r_a r_w r_x
      clear e2
      go_wp2
      go_loopw [26] (fun i wr => ∃ k : Nat, k ≤ kz ∧ i = .int .i64 k ∧ Below w21.heap.size w21 wr) (fun i _ => kz - (intOf i).toNat)
      case atStart => exact ⟨0, by omega, rfl, Below.refl _ _⟩
      case round =>
        obtain ⟨i, hi, rfl, hbr⟩ := hrel
        by_cases hlt : i < kz
        · have kk := k3.below (hW.trans (hbr.mono hW.size)) k3.lt
          obtain ⟨gz, oz, rfl, hxi, B1, d1, hcell, hr1, hcap⟩ := (r_z.below hbr).at_ hlt
          have hlu := HLT.out L[i] (List.getElem_mem hxi)
          have hpz := HPZ.out L[i] (List.getElem_mem hxi)
          rw [hlu.1] at hcell hr1 hcap
          have oo := o3.below (hW.trans (hbr.mono hW.size))
          have rr := r_r.below hbr
          have hpo := fun (w' : World) (h : Below wr.heap.size wr w') => PairOf_ok P A n c sq B1 d1 L[i] Ar cr RR w' HSP.out (oo.below h) (hr1.below h) hcap hlu.2 (rr.below h) i_r HRN.out.2
          rw [hpz] at hpo
          have HPO := Lib.hid hpo
          clear hpo hpz hlu hr1 hcap hxi oo rr
          obtain ⟨q0, q1⟩ := kk.two
          go_wp2
          refine wp_obs 12 [[], [], [], [1, 2], [1, 2, 3], [], [0, 1, 2, 3, 4, 5], [0, 1, 2, 3, 4, 5, 6], [0, 1, 2, 3, 4, 5, 6, 7], [0, 1, 2, 3, 4, 5, 6, 7], [0, 1, 2, 3, 4, 5, 6, 7, 8], [0, 1, 2, 3, 4, 5, 6, 7, 9]] [VIs (.agg #[.int .i64 P, .slice A n c]), VIs (.slice (some ⟨gz, oz, none⟩) kz cz), VIs (.int .i64 (i)), VIs (.pointer (some ⟨gz, oz + i, none⟩)), VIs (.slice B1 n d1), VIs (.slice Ar n cr), VIs (.tuple #[.int .i64 0, .int .i64 0]), VIs (.tuple #[.int .i64 0, .int .i64 0]), VIs (.int .i64 (0)), VIs (.int .i64 (0)), VIs (.int .i64 (0)), VIs (.int .i64 (0))] (fun w' => w'.cell? ⟨gz, oz + i, none⟩ = some (.slice B1 n d1) ∧ Blk w' w2.heap.size 26 #[.int .i64 P, .slice A n c] ∧ Below wr.heap.size wr w') (by kernel_rfl) (by kernel_rfl) (fun _ _ h hb => ⟨(hb.cell (World.block_lt_of_cell? _ _ h.1)).trans h.1, h.2.1.below hb h.2.1.lt, h.2.2.trans (hb.mono h.2.2.size)⟩) (⟨hcell, kk.drew, (Below.refl _ _).drew⟩) (fun x => ?_)
          refine obs_step (Eq.trans (by simp only [List.getElem?_toArray, List.getElem?_cons_zero]; exact rfl) rfl) rfl (fun w' hS hV K hK => ?_) ?_
          · have q2 := hS.1; obtain ⟨q0, q1⟩ := hS.2.1.two
            go_simp
            exact hK.out _ _ _ rfl rfl rfl (Below.refl _ _)
          simp only [List.setIfInBounds_toArray, List.set_cons_zero, List.set_cons_succ]
          refine obs_step (Eq.trans (by simp only [List.getElem?_toArray, List.getElem?_cons_succ, List.getElem?_cons_zero]; exact rfl) rfl) rfl (fun w' hS hV K hK => ?_) ?_
          · have q2 := hS.1; obtain ⟨q0, q1⟩ := hS.2.1.two
            go_simp
            exact hK.out _ _ _ rfl rfl rfl (Below.refl _ _)
          simp only [List.setIfInBounds_toArray, List.set_cons_zero, List.set_cons_succ]
          refine obs_step (Eq.trans (by simp only [List.getElem?_toArray, List.getElem?_cons_succ, List.getElem?_cons_zero]; exact rfl) rfl) rfl (fun w' hS hV K hK => ?_) ?_
          · have q2 := hS.1; obtain ⟨q0, q1⟩ := hS.2.1.two
            go_simp
            exact hK.out _ _ _ rfl rfl rfl (Below.refl _ _)
          simp only [List.setIfInBounds_toArray, List.set_cons_zero, List.set_cons_succ]
          refine obs_step (Eq.trans (by simp only [List.getElem?_toArray, List.getElem?_cons_succ, List.getElem?_cons_zero]; exact rfl) rfl) rfl (fun w' hS hV K hK => ?_) ?_
          · have e1 : x 1 = (.slice (some ⟨gz, oz, none⟩) kz cz) := hV 1 (by decide)
            have e2 : x 2 = (.int .i64 (i)) := hV 2 (by decide)
            have q2 := hS.1; obtain ⟨q0, q1⟩ := hS.2.1.two
            go_simp
            exact hK.out _ _ _ rfl rfl rfl (Below.refl _ _)
          simp only [List.setIfInBounds_toArray, List.set_cons_zero, List.set_cons_succ]
          refine obs_step (Eq.trans (by simp only [List.getElem?_toArray, List.getElem?_cons_succ, List.getElem?_cons_zero]; exact rfl) rfl) rfl (fun w' hS hV K hK => ?_) ?_
          · have e1 : x 1 = (.slice (some ⟨gz, oz, none⟩) kz cz) := hV 1 (by decide)
            have e2 : x 2 = (.int .i64 (i)) := hV 2 (by decide)
            have e3 : x 3 = (.pointer (some ⟨gz, oz + i, none⟩)) := hV 3 (by decide)
            have q2 := hS.1; obtain ⟨q0, q1⟩ := hS.2.1.two
            go_simp
            exact hK.out _ _ _ rfl rfl rfl (Below.refl _ _)
          simp only [List.setIfInBounds_toArray, List.set_cons_zero, List.set_cons_succ]
          refine obs_step (Eq.trans (by simp only [List.getElem?_toArray, List.getElem?_cons_succ, List.getElem?_cons_zero]; exact rfl) rfl) rfl (fun w' hS hV K hK => ?_) ?_
          · have q2 := hS.1; obtain ⟨q0, q1⟩ := hS.2.1.two
            go_simp
            exact hK.out _ _ _ rfl rfl rfl (Below.refl _ _)
          simp only [List.setIfInBounds_toArray, List.set_cons_zero, List.set_cons_succ]
          refine obs_step (Eq.trans (by simp only [List.getElem?_toArray, List.getElem?_cons_succ, List.getElem?_cons_zero]; exact rfl) rfl) rfl (fun w' hS hV K hK => ?_) ?_
          · have e0 : x 0 = (.agg #[.int .i64 P, .slice A n c]) := hV 0 (by decide)
            have e1 : x 1 = (.slice (some ⟨gz, oz, none⟩) kz cz) := hV 1 (by decide)
            have e2 : x 2 = (.int .i64 (i)) := hV 2 (by decide)
            have e3 : x 3 = (.pointer (some ⟨gz, oz + i, none⟩)) := hV 3 (by decide)
            have e4 : x 4 = (.slice B1 n d1) := hV 4 (by decide)
            have e5 : x 5 = (.slice Ar n cr) := hV 5 (by decide)
            have q2 := hS.1; obtain ⟨q0, q1⟩ := hS.2.1.two
            go_simp
            refine (HPO.out _ hS.2.2).mono ?_
            rintro e v1 ⟨rfl, hb⟩
            exact hK.out _ _ _ rfl rfl rfl hb
          simp only [List.setIfInBounds_toArray, List.set_cons_zero, List.set_cons_succ]
          refine obs_step (Eq.trans (by simp only [List.getElem?_toArray, List.getElem?_cons_succ, List.getElem?_cons_zero]; exact rfl) rfl) rfl (fun w' hS hV K hK => ?_) ?_
          · have e0 : x 0 = (.agg #[.int .i64 P, .slice A n c]) := hV 0 (by decide)
            have e1 : x 1 = (.slice (some ⟨gz, oz, none⟩) kz cz) := hV 1 (by decide)
            have e2 : x 2 = (.int .i64 (i)) := hV 2 (by decide)
            have e3 : x 3 = (.pointer (some ⟨gz, oz + i, none⟩)) := hV 3 (by decide)
            have e4 : x 4 = (.slice B1 n d1) := hV 4 (by decide)
            have e5 : x 5 = (.slice Ar n cr) := hV 5 (by decide)
            have e6 : x 6 = (.tuple #[.int .i64 0, .int .i64 0]) := hV 6 (by decide)
            have q2 := hS.1; obtain ⟨q0, q1⟩ := hS.2.1.two
            go_simp
            exact hK.out _ _ _ rfl rfl rfl (Below.refl _ _)
          simp only [List.setIfInBounds_toArray, List.set_cons_zero, List.set_cons_succ]
          refine obs_step (Eq.trans (by simp only [List.getElem?_toArray, List.getElem?_cons_succ, List.getElem?_cons_zero]; exact rfl) rfl) rfl (fun w' hS hV K hK => ?_) ?_
          · have e0 : x 0 = (.agg #[.int .i64 P, .slice A n c]) := hV 0 (by decide)
            have e1 : x 1 = (.slice (some ⟨gz, oz, none⟩) kz cz) := hV 1 (by decide)
            have e2 : x 2 = (.int .i64 (i)) := hV 2 (by decide)
            have e3 : x 3 = (.pointer (some ⟨gz, oz + i, none⟩)) := hV 3 (by decide)
            have e4 : x 4 = (.slice B1 n d1) := hV 4 (by decide)
            have e5 : x 5 = (.slice Ar n cr) := hV 5 (by decide)
            have e6 : x 6 = (.tuple #[.int .i64 0, .int .i64 0]) := hV 6 (by decide)
            have e7 : x 7 = (.tuple #[.int .i64 0, .int .i64 0]) := hV 7 (by decide)
            have q2 := hS.1; obtain ⟨q0, q1⟩ := hS.2.1.two
            go_simp
            exact hK.out _ _ _ rfl rfl rfl (Below.refl _ _)
          simp only [List.setIfInBounds_toArray, List.set_cons_zero, List.set_cons_succ]
          refine obs_step (Eq.trans (by simp only [List.getElem?_toArray, List.getElem?_cons_succ, List.getElem?_cons_zero]; exact rfl) rfl) rfl (fun w' hS hV K hK => ?_) ?_
          · have e0 : x 0 = (.agg #[.int .i64 P, .slice A n c]) := hV 0 (by decide)
            have e1 : x 1 = (.slice (some ⟨gz, oz, none⟩) kz cz) := hV 1 (by decide)
            have e2 : x 2 = (.int .i64 (i)) := hV 2 (by decide)
            have e3 : x 3 = (.pointer (some ⟨gz, oz + i, none⟩)) := hV 3 (by decide)
            have e4 : x 4 = (.slice B1 n d1) := hV 4 (by decide)
            have e5 : x 5 = (.slice Ar n cr) := hV 5 (by decide)
            have e6 : x 6 = (.tuple #[.int .i64 0, .int .i64 0]) := hV 6 (by decide)
            have e7 : x 7 = (.tuple #[.int .i64 0, .int .i64 0]) := hV 7 (by decide)
            have q2 := hS.1; obtain ⟨q0, q1⟩ := hS.2.1.two
            go_simp
            exact hK.out _ _ _ rfl rfl rfl (Below.refl _ _)
          simp only [List.setIfInBounds_toArray, List.set_cons_zero, List.set_cons_succ]
          refine obs_step (Eq.trans (by simp only [List.getElem?_toArray, List.getElem?_cons_succ, List.getElem?_cons_zero]; exact rfl) rfl) rfl (fun w' hS hV K hK => ?_) ?_
          · have e0 : x 0 = (.agg #[.int .i64 P, .slice A n c]) := hV 0 (by decide)
            have e1 : x 1 = (.slice (some ⟨gz, oz, none⟩) kz cz) := hV 1 (by decide)
            have e2 : x 2 = (.int .i64 (i)) := hV 2 (by decide)
            have e3 : x 3 = (.pointer (some ⟨gz, oz + i, none⟩)) := hV 3 (by decide)
            have e4 : x 4 = (.slice B1 n d1) := hV 4 (by decide)
            have e5 : x 5 = (.slice Ar n cr) := hV 5 (by decide)
            have e6 : x 6 = (.tuple #[.int .i64 0, .int .i64 0]) := hV 6 (by decide)
            have e7 : x 7 = (.tuple #[.int .i64 0, .int .i64 0]) := hV 7 (by decide)
            have e8 : x 8 = (.int .i64 (0)) := hV 8 (by decide)
            have q2 := hS.1; obtain ⟨q0, q1⟩ := hS.2.1.two
            go_simp
            exact hK.out _ _ _ rfl rfl rfl (Below.refl _ _)
          simp only [List.setIfInBounds_toArray, List.set_cons_zero, List.set_cons_succ]
          refine obs_step (Eq.trans (by simp only [List.getElem?_toArray, List.getElem?_cons_succ, List.getElem?_cons_zero]; exact rfl) rfl) rfl (fun w' hS hV K hK => ?_) ?_
          · have e0 : x 0 = (.agg #[.int .i64 P, .slice A n c]) := hV 0 (by decide)
            have e1 : x 1 = (.slice (some ⟨gz, oz, none⟩) kz cz) := hV 1 (by decide)
            have e2 : x 2 = (.int .i64 (i)) := hV 2 (by decide)
            have e3 : x 3 = (.pointer (some ⟨gz, oz + i, none⟩)) := hV 3 (by decide)
            have e4 : x 4 = (.slice B1 n d1) := hV 4 (by decide)
            have e5 : x 5 = (.slice Ar n cr) := hV 5 (by decide)
            have e6 : x 6 = (.tuple #[.int .i64 0, .int .i64 0]) := hV 6 (by decide)
            have e7 : x 7 = (.tuple #[.int .i64 0, .int .i64 0]) := hV 7 (by decide)
            have e9 : x 9 = (.int .i64 (0)) := hV 9 (by decide)
            have q2 := hS.1; obtain ⟨q0, q1⟩ := hS.2.1.two
            go_simp
            exact hK.out _ _ _ rfl rfl rfl (Below.refl _ _)
          simp only [List.setIfInBounds_toArray, List.set_cons_zero, List.set_cons_succ]
          refine fun w' hS hV => ?_
          have e0 : x 0 = (.agg #[.int .i64 P, .slice A n c]) := hV 0 (by decide)
          have e1 : x 1 = (.slice (some ⟨gz, oz, none⟩) kz cz) := hV 1 (by decide)
          have e2 : x 2 = (.int .i64 (i)) := hV 2 (by decide)
          have e3 : x 3 = (.pointer (some ⟨gz, oz + i, none⟩)) := hV 3 (by decide)
          have e4 : x 4 = (.slice B1 n d1) := hV 4 (by decide)
          have e5 : x 5 = (.slice Ar n cr) := hV 5 (by decide)
          have e6 : x 6 = (.tuple #[.int .i64 0, .int .i64 0]) := hV 6 (by decide)
          have e7 : x 7 = (.tuple #[.int .i64 0, .int .i64 0]) := hV 7 (by decide)
          have e8 : x 8 = (.int .i64 (0)) := hV 8 (by decide)
          have e9 : x 9 = (.int .i64 (0)) := hV 9 (by decide)
          have e10 : x 10 = (.int .i64 (0)) := hV 10 (by decide)
          have e11 : x 11 = (.int .i64 (0)) := hV 11 (by decide)
          simp only [e0, e1, e2, e3, e4, e5, e6, e7, e8, e9, e10, e11]
          clear e0 e1 e2 e3 e4 e5 e6 e7 e8 e9 e10 e11
          refine wpAny_done (by kernel_rfl) ?_ _
          obtain ⟨w9, rfl⟩ : ∃ W, W = w' := ⟨_, rfl⟩
          have hb9 := hbr.trans (hS.2.2.mono hbr.size)
          clear hS q0 q1 kk hbr hcell HPO
          go_wp2
          go_roundw
          case rel => exact ⟨i + 1, by omega, by go_num, hb9⟩
          case measure => simp [intOf]; omega
        · have hb7 := hbr
          clear hbr
          replace hW := hW.trans (hb7.mono hW.size)
          replace r_y := r_y.below hb7
          replace r_i := r_i.below hb7
          replace r_z := r_z.below hb7
          clear hb7 r_r HPZ
          have hir := IsRegular_ok P A n c sq wr HSP.out (by omega) (o3.below hW)
          have kk := k3.below hW k3.lt
          cases hreg : regB sq
          · rw [hreg] at hir
            obtain ⟨q0, q1⟩ := kk.two
            go_wp2_with fail
            refine hir.mono ?_
            rintro e w22 ⟨rfl, hb7⟩
            replace hW := hW.trans (hb7.mono hW.size)
            clear hir hb7 kk q0 q1 r_y r_i r_z
            go_wp2
            go_ret
            exact ⟨rfl, hB3.trans (hW.mono hB3.size)⟩
          · rw [hreg] at hir
            by_cases hk1 : kz = 1
            · obtain rfl := hk1
              have e4 : (((1 : Nat) : Int) != 1) = false := by simp
              obtain ⟨q0, q1⟩ := kk.two
              go_wp2_with fail
              refine hir.mono ?_
              rintro e w22 ⟨rfl, hb7⟩
              replace hW := hW.trans (hb7.mono hW.size)
              replace r_y := r_y.below hb7
              replace r_i := r_i.below hb7
              replace r_z := r_z.below hb7
              clear hir hb7 kk q0 q1
              have kk := k3.below hW k3.lt
              have hL1 := r_z.len
              obtain ⟨u, rfl⟩ : ∃ u, L = [u] := List.length_eq_one_iff.1 hL1
              obtain ⟨gz, oz, rfl, hx0, B1, d1, hcell, hr1, hcap⟩ := r_z.at_ (show 0 < 1 by omega)
              rw [Nat.add_zero] at hcell
              have hun := HLT.out u (by simp)
              obtain ⟨hne, hzz⟩ := HON.out u rfl
              simp only [List.getElem_cons_zero] at hcell hr1 hcap
              rw [hun.1] at hcell hr1 hcap
              have oo := o3.below hW
              have hri := fun (w' : World) (h : Below w22.heap.size w22 w') => ReflectIn_ok P A n c sq B1 d1 u A2 c2 ys w' HSP.out hreg (oo.below h) (hr1.below h) hcap hun.2 (r_y.below h) hcy HYN.out.2 hne
              obtain ⟨RFL, hRFL⟩ : ∃ R, R = rflL P sq u ys := ⟨_, rfl⟩
              rw [← hRFL] at hri hzz
              have hRl : RFL.length = n ∧ NumsL P RFL := by rw [hRFL]; exact ⟨by rw [rflL_len]; exact HYN.out.1, rflL_nums (by omega) _ _ _⟩
              have HRI := Lib.hid hri
              have HZZ := Lib.hid hzz
              clear hri hzz hne hun hRFL hr1 hcap hx0 hL1 oo HON r_y
              obtain ⟨q0, q1⟩ := kk.two
              go_wp2
              refine wp_obs 11 [[], [], [1], [1, 2], [], [0, 1, 2, 3, 4], [0, 1, 2, 3, 4, 5], [0, 1, 2, 3, 4, 5, 6], [0, 1, 2, 3, 4, 5, 6], [0, 1, 2, 3, 4, 5, 6, 7], [0, 1, 2, 3, 4, 5, 6, 8]] [VIs (.agg #[.int .i64 P, .slice A n c]), VIs (.slice (some ⟨gz, oz, none⟩) 1 cz), VIs (.pointer (some ⟨gz, oz, none⟩)), VIs (.slice B1 n d1), VIs (.slice A2 n c2), VTp w22 n RFL, VTp w22 n RFL, VSl w22 n RFL, VIs (.int .i64 (0)), VSl w22 n RFL, VIs (.int .i64 (0))] (fun w' => w'.cell? ⟨gz, oz, none⟩ = some (.slice B1 n d1) ∧ Blk w' w2.heap.size 26 #[.int .i64 P, .slice A n c] ∧ Below w22.heap.size w22 w') (by kernel_rfl) (by kernel_rfl) (fun _ _ h hb => ⟨(hb.cell (World.block_lt_of_cell? _ _ h.1)).trans h.1, h.2.1.below hb h.2.1.lt, h.2.2.trans (hb.mono h.2.2.size)⟩) (⟨hcell, kk.drew, (Below.refl _ _).drew⟩) (fun x => ?_)
              refine obs_step (Eq.trans (by simp only [List.getElem?_toArray, List.getElem?_cons_zero]; exact rfl) rfl) rfl (fun w' hS hV K hK => ?_) ?_
              · have q2 := hS.1; obtain ⟨q0, q1⟩ := hS.2.1.two
                go_simp
                exact hK.out _ _ _ rfl rfl rfl (Below.refl _ _)
              simp only [List.setIfInBounds_toArray, List.set_cons_zero, List.set_cons_succ]
              refine obs_step (Eq.trans (by simp only [List.getElem?_toArray, List.getElem?_cons_succ, List.getElem?_cons_zero]; exact rfl) rfl) rfl (fun w' hS hV K hK => ?_) ?_
              · have q2 := hS.1; obtain ⟨q0, q1⟩ := hS.2.1.two
                go_simp
                exact hK.out _ _ _ rfl rfl rfl (Below.refl _ _)
              simp only [List.setIfInBounds_toArray, List.set_cons_zero, List.set_cons_succ]
              refine obs_step (Eq.trans (by simp only [List.getElem?_toArray, List.getElem?_cons_succ, List.getElem?_cons_zero]; exact rfl) rfl) rfl (fun w' hS hV K hK => ?_) ?_
              · have e1 : x 1 = (.slice (some ⟨gz, oz, none⟩) 1 cz) := hV 1 (by decide)
                have q2 := hS.1; obtain ⟨q0, q1⟩ := hS.2.1.two
                go_simp
                exact hK.out _ _ _ rfl rfl rfl (Below.refl _ _)
              simp only [List.setIfInBounds_toArray, List.set_cons_zero, List.set_cons_succ]
              refine obs_step (Eq.trans (by simp only [List.getElem?_toArray, List.getElem?_cons_succ, List.getElem?_cons_zero]; exact rfl) rfl) rfl (fun w' hS hV K hK => ?_) ?_
              · have e1 : x 1 = (.slice (some ⟨gz, oz, none⟩) 1 cz) := hV 1 (by decide)
                have e2 : x 2 = (.pointer (some ⟨gz, oz, none⟩)) := hV 2 (by decide)
                have q2 := hS.1; obtain ⟨q0, q1⟩ := hS.2.1.two
                go_simp
                exact hK.out _ _ _ rfl rfl rfl (Below.refl _ _)
              simp only [List.setIfInBounds_toArray, List.set_cons_zero, List.set_cons_succ]
              refine obs_step (Eq.trans (by simp only [List.getElem?_toArray, List.getElem?_cons_succ, List.getElem?_cons_zero]; exact rfl) rfl) rfl (fun w' hS hV K hK => ?_) ?_
              · have q2 := hS.1; obtain ⟨q0, q1⟩ := hS.2.1.two
                go_simp
                exact hK.out _ _ _ rfl rfl rfl (Below.refl _ _)
              simp only [List.setIfInBounds_toArray, List.set_cons_zero, List.set_cons_succ]
              refine obs_step (Eq.trans (by simp only [List.getElem?_toArray, List.getElem?_cons_succ, List.getElem?_cons_zero]; exact rfl) rfl) rfl (fun w' hS hV K hK => ?_) ?_
              · have e0 : x 0 = (.agg #[.int .i64 P, .slice A n c]) := hV 0 (by decide)
                have e1 : x 1 = (.slice (some ⟨gz, oz, none⟩) 1 cz) := hV 1 (by decide)
                have e2 : x 2 = (.pointer (some ⟨gz, oz, none⟩)) := hV 2 (by decide)
                have e3 : x 3 = (.slice B1 n d1) := hV 3 (by decide)
                have e4 : x 4 = (.slice A2 n c2) := hV 4 (by decide)
                have q2 := hS.1; obtain ⟨q0, q1⟩ := hS.2.1.two
                go_simp
                refine (HRI.out _ hS.2.2).mono ?_
                rintro e v1 ⟨A9, c9, rfl, hM⟩
                exact hK.out _ _ _ rfl rfl ⟨_, _, rfl, hM.after hS.2.2⟩ hM.b
              simp only [List.setIfInBounds_toArray, List.set_cons_zero, List.set_cons_succ]
              refine obs_step (Eq.trans (by simp only [List.getElem?_toArray, List.getElem?_cons_succ, List.getElem?_cons_zero]; exact rfl) rfl) rfl (fun w' hS hV K hK => ?_) ?_
              · have e0 : x 0 = (.agg #[.int .i64 P, .slice A n c]) := hV 0 (by decide)
                have e1 : x 1 = (.slice (some ⟨gz, oz, none⟩) 1 cz) := hV 1 (by decide)
                have e2 : x 2 = (.pointer (some ⟨gz, oz, none⟩)) := hV 2 (by decide)
                have e3 : x 3 = (.slice B1 n d1) := hV 3 (by decide)
                have e4 : x 4 = (.slice A2 n c2) := hV 4 (by decide)
                obtain ⟨A5, c5, e5, h5⟩ := hV 5 (by decide)
                have q2 := hS.1; obtain ⟨q0, q1⟩ := hS.2.1.two
                go_simp
                exact hK.out _ _ _ rfl rfl ⟨_, _, rfl, h5⟩ (Below.refl _ _)
              simp only [List.setIfInBounds_toArray, List.set_cons_zero, List.set_cons_succ]
              refine obs_step (Eq.trans (by simp only [List.getElem?_toArray, List.getElem?_cons_succ, List.getElem?_cons_zero]; exact rfl) rfl) rfl (fun w' hS hV K hK => ?_) ?_
              · have e0 : x 0 = (.agg #[.int .i64 P, .slice A n c]) := hV 0 (by decide)
                have e1 : x 1 = (.slice (some ⟨gz, oz, none⟩) 1 cz) := hV 1 (by decide)
                have e2 : x 2 = (.pointer (some ⟨gz, oz, none⟩)) := hV 2 (by decide)
                have e3 : x 3 = (.slice B1 n d1) := hV 3 (by decide)
                have e4 : x 4 = (.slice A2 n c2) := hV 4 (by decide)
                obtain ⟨A5, c5, e5, h5⟩ := hV 5 (by decide)
                obtain ⟨A6, c6, e6, h6⟩ := hV 6 (by decide)
                have q2 := hS.1; obtain ⟨q0, q1⟩ := hS.2.1.two
                go_simp
                exact hK.out _ _ _ rfl rfl ⟨_, _, rfl, h6⟩ (Below.refl _ _)
              simp only [List.setIfInBounds_toArray, List.set_cons_zero, List.set_cons_succ]
              refine obs_step (Eq.trans (by simp only [List.getElem?_toArray, List.getElem?_cons_succ, List.getElem?_cons_zero]; exact rfl) rfl) rfl (fun w' hS hV K hK => ?_) ?_
              · have e0 : x 0 = (.agg #[.int .i64 P, .slice A n c]) := hV 0 (by decide)
                have e1 : x 1 = (.slice (some ⟨gz, oz, none⟩) 1 cz) := hV 1 (by decide)
                have e2 : x 2 = (.pointer (some ⟨gz, oz, none⟩)) := hV 2 (by decide)
                have e3 : x 3 = (.slice B1 n d1) := hV 3 (by decide)
                have e4 : x 4 = (.slice A2 n c2) := hV 4 (by decide)
                obtain ⟨A5, c5, e5, h5⟩ := hV 5 (by decide)
                obtain ⟨A6, c6, e6, h6⟩ := hV 6 (by decide)
                have q2 := hS.1; obtain ⟨q0, q1⟩ := hS.2.1.two
                go_simp
                exact hK.out _ _ _ rfl rfl rfl (Below.refl _ _)
              simp only [List.setIfInBounds_toArray, List.set_cons_zero, List.set_cons_succ]
              refine obs_step (Eq.trans (by simp only [List.getElem?_toArray, List.getElem?_cons_succ, List.getElem?_cons_zero]; exact rfl) rfl) rfl (fun w' hS hV K hK => ?_) ?_
              · have e0 : x 0 = (.agg #[.int .i64 P, .slice A n c]) := hV 0 (by decide)
                have e1 : x 1 = (.slice (some ⟨gz, oz, none⟩) 1 cz) := hV 1 (by decide)
                have e2 : x 2 = (.pointer (some ⟨gz, oz, none⟩)) := hV 2 (by decide)
                have e3 : x 3 = (.slice B1 n d1) := hV 3 (by decide)
                have e4 : x 4 = (.slice A2 n c2) := hV 4 (by decide)
                obtain ⟨A5, c5, e5, h5⟩ := hV 5 (by decide)
                obtain ⟨A6, c6, e6, h6⟩ := hV 6 (by decide)
                obtain ⟨A7, c7, e7, h7⟩ := hV 7 (by decide)
                have q2 := hS.1; obtain ⟨q0, q1⟩ := hS.2.1.two
                go_simp
                exact hK.out _ _ _ rfl rfl ⟨_, _, rfl, h7⟩ (Below.refl _ _)
              simp only [List.setIfInBounds_toArray, List.set_cons_zero, List.set_cons_succ]
              refine obs_step (Eq.trans (by simp only [List.getElem?_toArray, List.getElem?_cons_succ, List.getElem?_cons_zero]; exact rfl) rfl) rfl (fun w' hS hV K hK => ?_) ?_
              · have e0 : x 0 = (.agg #[.int .i64 P, .slice A n c]) := hV 0 (by decide)
                have e1 : x 1 = (.slice (some ⟨gz, oz, none⟩) 1 cz) := hV 1 (by decide)
                have e2 : x 2 = (.pointer (some ⟨gz, oz, none⟩)) := hV 2 (by decide)
                have e3 : x 3 = (.slice B1 n d1) := hV 3 (by decide)
                have e4 : x 4 = (.slice A2 n c2) := hV 4 (by decide)
                obtain ⟨A5, c5, e5, h5⟩ := hV 5 (by decide)
                obtain ⟨A6, c6, e6, h6⟩ := hV 6 (by decide)
                have e8 : x 8 = (.int .i64 (0)) := hV 8 (by decide)
                have q2 := hS.1; obtain ⟨q0, q1⟩ := hS.2.1.two
                go_simp
                exact hK.out _ _ _ rfl rfl rfl (Below.refl _ _)
              simp only [List.setIfInBounds_toArray, List.set_cons_zero, List.set_cons_succ]
              refine fun w' hS hV => ?_
              have e0 : x 0 = (.agg #[.int .i64 P, .slice A n c]) := hV 0 (by decide)
              have e1 : x 1 = (.slice (some ⟨gz, oz, none⟩) 1 cz) := hV 1 (by decide)
              have e2 : x 2 = (.pointer (some ⟨gz, oz, none⟩)) := hV 2 (by decide)
              have e3 : x 3 = (.slice B1 n d1) := hV 3 (by decide)
              have e4 : x 4 = (.slice A2 n c2) := hV 4 (by decide)
              obtain ⟨A5, c5, e5, h5⟩ := hV 5 (by decide)
              obtain ⟨A6, c6, e6, h6⟩ := hV 6 (by decide)
              obtain ⟨A7, c7, e7, h7⟩ := hV 7 (by decide)
              have e8 : x 8 = (.int .i64 (0)) := hV 8 (by decide)
              obtain ⟨A9, c9, e9, h9⟩ := hV 9 (by decide)
              have e10 : x 10 = (.int .i64 (0)) := hV 10 (by decide)
              simp only [e0, e1, e2, e3, e4, e5, e6, e7, e8, e9, e10]
              clear e0 e1 e2 e3 e4 e5 e6 e7 e8 e9 e10
              refine wpAny_done (by kernel_rfl) ?_ _
              obtain ⟨w23, rfl⟩ : ∃ W, W = w' := ⟨_, rfl⟩
              have hb7 := hS.2.2
              have r_f := h9.rd
              replace r_i := r_i.below hb7
              replace hW := hW.trans (hb7.mono hW.size)
              clear hS q0 q1 hcell HRI kk hb7
              have kk := k3.below hW k3.lt
              obtain ⟨q0, q1⟩ := kk.two
              have hpl := plus5_any P A9 n c9 Ai ci 1 RFL II w23 (by omega) hp13 (by omega) r_f hRl.2 r_i HIN.out.2 (by omega) (by omega)
              have e6 : ((n : Int) == (n : Int)) = true := by simp
              go_wp2_with fail
              refine hpl.mono ?_
              rintro e w24 ⟨A24, c24, rfl, hM⟩
              have hz5 := zero5_any A24 n c24 (plusL P RFL II 1) w24 (by omega) hM.rd
              rw [decide_eq_true HZZ.out] at hz5
              replace hW := hW.trans (hM.b.mono hW.size)
              clear hpl hM q0 q1 kk
              go_wp2_with fail
              refine hz5.mono ?_
              rintro e w25 ⟨rfl, rfl⟩
              go_wp2
              go_ret
              exact ⟨rfl, hB3.trans (hW.mono hB3.size)⟩
            · have e4 : ((kz : Int) != 1) = true := by simp; omega
              obtain ⟨q0, q1⟩ := kk.two
              go_wp2_with fail
              refine hir.mono ?_
              rintro e w22 ⟨rfl, hb7⟩
              replace hW := hW.trans (hb7.mono hW.size)
              clear hir hb7 kk q0 q1 r_y r_i r_z
              go_wp2
              go_ret
              exact ⟨rfl, hB3.trans (hW.mono hB3.size)⟩
    · have hne : ¬ (prR P sq xs ys).2 = 0 := by rw [prR_bad hc]; exact hc
      have e1 : ((prR P sq xs ys).2 != 0) = true := by simp [hne]
      clear r_x r_y r_w hne hc l4
      go_wp2
      go_ret
      exact ⟨rfl, hB8⟩
end Go.Proofs.YtggigolkncckoaaGreat
